/- sizar/codec: what Encode says of integers and lists of integers. -/
import Derived.Test.YtgcmbiegbclhmaaDoorDig2
import Derived.Lib.Hide
import Derived.Test.YtgcmbiegbclhmaaDoorTreeMath
import Derived.Outline
namespace Go.Proofs.YtgcmbiegbclhmaaDoor
open Go.RowKit SzSha SzTree
set_option linter.unusedVariables false
/-- an integer as a value of the codec -/
def iv (z : Int) : Value := .agg #[.int .i64 1, .int .i64 z, .string ⟨#[]⟩, .slice none 0 0]
set_option maxRecDepth 100000 in
set_option maxHeartbeats 2000000 in
theorem formed_int (z : Int) (w : World) : Calls Tryd.prog 63 #[.agg #[.int .i64 1, .int .i64 z, .string ⟨#[]⟩, .slice none 0 0]] w fun e w' => e = .returned (.tuple #[.int .i64 0, .bool true]) ∧ Below w.heap.size w w' := by
  go_enter Tryd.func63, Tryd.ntmps63
  go_wp2_with fail
  all_goals
    go_ret2
    exact ⟨rfl, ((Below.refl _ _).alloc (Nat.le_refl _) _).alloc (by simp) _⟩
/-- the integers of a list, four cells each -/
def ValsAt (w : World) (g off : Nat) (zs : List Int) : Prop := ∀ i (hi : i < zs.length), w.cell? ⟨g, off + i * 4, none⟩ = some (.int .i64 1) ∧ w.cell? ⟨g, off + i * 4 + 1, none⟩ = some (.int .i64 zs[i]) ∧ w.cell? ⟨g, off + i * 4 + 2, none⟩ = some (.string ⟨#[]⟩) ∧ w.cell? ⟨g, off + i * 4 + 3, none⟩ = some (.slice none 0 0)
/-- a slice of integers of the codec -/
def VRd (w : World) (B : Nat) (A : Option Addr) (zs : List Int) : Prop := 0 < zs.length → ∃ g, A = some ⟨g, 0, none⟩ ∧ g < B ∧ ValsAt w g 0 zs
theorem ValsAt.below {w w' : World} {g off : Nat} {zs : List Int} (h : ValsAt w g off zs) (hg : g < w.heap.size) (hb : Below w.heap.size w w') : ValsAt w' g off zs := fun i hi => by
  obtain ⟨h0, h1, h2, h3⟩ := h i hi
  exact ⟨(hb.cell (p := ⟨g, _, none⟩) hg).trans h0, (hb.cell (p := ⟨g, _, none⟩) hg).trans h1, (hb.cell (p := ⟨g, _, none⟩) hg).trans h2, (hb.cell (p := ⟨g, _, none⟩) hg).trans h3⟩
theorem VRd.below {w w' : World} {A : Option Addr} {zs : List Int} (h : VRd w w.heap.size A zs) (hb : Below w.heap.size w w') : VRd w' w'.heap.size A zs := fun h0 => by
  obtain ⟨g, e, hg, hv⟩ := h h0
  exact ⟨g, e, Nat.lt_of_lt_of_le hg hb.size, hv.below hg hb⟩
set_option maxRecDepth 100000 in
set_option maxHeartbeats 2000000 in
theorem formed_list (zs : List Int) (A : Option Addr) (c : Nat) (w : World) (hn : zs.length ≤ 1000) (hV : Hid (VRd w w.heap.size A zs)) :
    Calls Tryd.prog 63 #[.agg #[.int .i64 3, .int .i64 0, .string ⟨#[]⟩, .slice A zs.length c]] w fun e w' => e = .returned (.tuple #[.int .i64 1, .bool true]) ∧ Below w.heap.size w w' := by
  obtain ⟨n, HN⟩ : ∃ n, Hid (zs.length = n) := ⟨_, Lib.hid rfl⟩
  rw [HN.out]
  have hn' : n ≤ 1000 := by rw [← HN.out]; exact hn
  obtain ⟨b, hbz⟩ : ∃ b, ((n : Int) == 0) = b := ⟨_, rfl⟩
  clear hn
  go_enter Tryd.func63, Tryd.ntmps63
  go_wp2_with fail
  have HB0 := Lib.hid (((Below.refl _ w).alloc (Nat.le_refl _) (.cells #[.int .i64 3, .int .i64 0, .string ⟨#[]⟩, .slice A n c] 76)).alloc (by simp) (.cells #[.bool false, .bool b, .bool b, .bool true] 118))
  clear hbz
  go_loopw [2, 57] (fun d i wr => ∃ j : Nat, j ≤ n ∧ d = .int .i64 0 ∧ i = .int .i64 j ∧ Hid (Below w.heap.size w wr)) (fun _ i _ => n - (intOf i).toNat)
  case atStart => exact ⟨0, by omega, rfl, rfl, HB0⟩
  case round =>
    clear HB0
    obtain ⟨j, hj, rfl, rfl, HB⟩ := hrel
    by_cases hlt : j < n
    · obtain ⟨g, rfl, hg, hv⟩ := hV.out (by rw [HN.out]; omega)
      have hv2 := (hv.below hg HB.out) j (by rw [HN.out]; exact hlt)
      obtain ⟨z, HZ⟩ : ∃ z, Hid (zs[j]'(by rw [HN.out]; exact hlt) = z) := ⟨_, Lib.hid rfl⟩
      rw [HZ.out, Nat.zero_add] at hv2
      obtain ⟨k0, k1, k2, k3⟩ := hv2
      have HV := Lib.hid hv
      clear hv
      have d1 : decide ((j : Int) < (n : Int)) = true := decide_eq_true (by omega)
      go_wp2_with fail
      refine (formed_int z _).mono ?_
      rintro e w2 ⟨rfl, hq⟩
      have HB2 := Lib.hid ((HB.out.alloc HB.out.size (.cells #[.int .i64 1, .int .i64 z, .string ⟨#[]⟩, .slice none 0 0] 76)).trans (hq.mono (by have := HB.out.size; simp; omega)))
      clear hq k0 k1 k2 k3
      go_wp2_with fail
      go_roundw
      case rel => exact ⟨j + 1, by omega, rfl, by go_num, HB2⟩
      case measure => simp [intOf]; omega
    · have d1 : decide ((j : Int) < (n : Int)) = false := decide_eq_false (by omega)
      go_wp2_with fail
      go_ret2
      exact ⟨rfl, HB.out⟩
set_option maxRecDepth 100000 in
set_option maxHeartbeats 2000000 in
theorem vcheck_list (zs : List Int) (A : Option Addr) (c : Nat) (w : World) (hn : zs.length ≤ 1000) (hV : Hid (VRd w w.heap.size A zs)) :
    Calls Tryd.prog 54 #[.agg #[.int .i64 3, .int .i64 0, .string ⟨#[]⟩, .slice A zs.length c]] w fun e w' => e = .returned (.int .i64 0) ∧ Below w.heap.size w w' := by
  have HB0 := Lib.hid ((Below.refl _ w).alloc (Nat.le_refl _) (.cells #[.int .i64 3, .int .i64 0, .string ⟨#[]⟩, .slice A zs.length c] 76))
  have HV := Lib.hid (hV.out.below HB0.out)
  go_enter Tryd.func54, Tryd.ntmps54
  go_wp2_with fail
  refine (formed_list zs A c _ hn HV).mono ?_
  rintro e w2 ⟨rfl, hq⟩
  have HB2 := Lib.hid (HB0.out.trans (hq.mono HB0.out.size))
  clear hq
  go_wp2_with fail
  go_ret
  exact ⟨rfl, HB2.out⟩
end Go.Proofs.YtgcmbiegbclhmaaDoor
