/- A digest that came in by value. -/
import Derived.Test.YtgcmbiegbclhmaaDoorLawKit
namespace Go.Proofs.YtgcmbiegbclhmaaDoor
open Go.ChangeShapes Go.WideShapes Go.ChangeAt Go.RowKit SzSha
set_option linter.unusedVariables false
set_option maxRecDepth 100000
def natOf : Value → Nat
  | .int _ z => z.toNat
  | _ => 0
theorem arg_dig {H : Type} {enc : TypeId × Value → H} {W : World} {base : Nat} {v : Value} {d : DataW H} {p : List MemPlace} (hval : Value.okWide Tryd.prog W .any base 24 v) (h : DataW.Trod enc Tryd.prog W 0 (fun _ => true) true 24 v d p) :
    ∃ l : List Nat, v = dgV l ∧ l.length = 32 ∧ Bytes l := by
  simp only [Value.okWide, Tryd.underlying24] at hval
  obtain ⟨cs, rfl, hsz, _⟩ := hval
  have hsz' : cs.size = 32 := hsz.trans (by kernel_rfl)
  obtain ⟨fuel, hf⟩ := h
  obtain ⟨xs, m, rfl, hx, hlen, hxl, hget⟩ := DataW.trod_array Tryd.underlying24 hf
  have key : ∀ i (hi : i < cs.size), ∃ z : Nat, z < 256 ∧ cs[i] = .int .u8 (z : Nat) := fun i hi => by
    have h1 := hget i (by omega)
    rw [cells8, Nat.mul_one] at h1
    have hxi : i < xs.length := by omega
    rw [List.getElem?_eq_getElem hxi] at h1
    obtain ⟨z, hc, _, hw⟩ := DataW.trod_int Tryd.underlying5 h1
    have hb := bounds_u8 hw
    refine ⟨z.toNat, by omega, ?_⟩
    have h2 := congrArg (·[0]?) hc
    rw [Int.toNat_of_nonneg hb.1]
    simpa [Value.cells, List.getElem?_take, List.getElem?_drop, hi] using h2
  refine ⟨cs.toList.map natOf, ?_, by simp [hsz'], fun x hx => ?_⟩
  · unfold dgV
    congr 1
    rw [List.map_map]
    apply Array.ext
    · simp
    · intro i h1 h2
      obtain ⟨z, hz, e⟩ := key i h1
      simp only [List.getElem_toArray, List.getElem_map, Function.comp, Array.getElem_toList]
      rw [e]
      simp [natOf]
  · obtain ⟨u, hu, rfl⟩ := List.mem_map.1 hx
    obtain ⟨i, hi, rfl⟩ := List.mem_iff_getElem.1 hu
    obtain ⟨z, hz, e⟩ := key i (by simpa using hi)
    rw [Array.getElem_toList, e]
    simpa [natOf] using hz
end Go.Proofs.YtgcmbiegbclhmaaDoor
