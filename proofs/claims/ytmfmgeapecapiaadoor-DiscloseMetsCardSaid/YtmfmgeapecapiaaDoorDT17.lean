/- Two ways to one digest: a place where two inputs have one hash. -/
import Derived.Test.YtmfmgeapecapiaaDoorDT16
import Derived.Test.YtmfmgeapecapiaaDoorDT14
namespace Go.Proofs.YtmfmgeapecapiaaDoor
open Go.RowKit SzSha SzTree
set_option linter.unusedVariables false
set_option maxRecDepth 100000
theorem way_hit {v : Bool} {p q : Dg} {P ps : List Dg} {j : Nat} (hj : j < P.length) (hv : vfE v p (j : Nat) (P.length : Nat) ps (treeD P) = 0) (hq : P[j] = q) (hps : ∀ x ∈ ps, x.length = 32) (hp : p.length = 32) (hql : q.length = 32) (hne : p ≠ q) : ∃ k, hitN (p :: insD (dirsD j P.length).reverse ps (leafD p)) (q :: insD (dirsD j P.length).reverse (pathD P j) (leafD q)) k := by
  obtain ⟨_, _, _, hl, hc⟩ := vf_yes hv
  rw [Int.toNat_natCast, Int.toNat_natCast] at hl hc
  have hc2 := climbD_path _ P j hj (Nat.le_refl _)
  rw [hq] at hc2
  have hpl := pathD_length P j
  rcases two_ways (dirsD j P.length).reverse ps (pathD P j) (leafD p) (leafD q) (by rw [List.length_reverse]; exact hl) (by rw [List.length_reverse]; exact hpl) hps (fun x hx => (pathD_ok P j x hx).1) (leafD_length p) (leafD_length q) (hc.trans hc2.symm) with e | ⟨i, a, b, h1, h2, h3, h4⟩
  · exact ⟨0, p, q, rfl, rfl, hne, e⟩
  · exact ⟨i + 1, a, b, by simpa using h1, by simpa using h2, h3, by simpa using h4⟩
theorem in_ne {s s2 : List Nat} {zs zs2 : List Int} (h1 : s.length = 32) (h2 : s2.length = 32) (hz : ∀ z ∈ zs, -9223372036854775808 ≤ z ∧ z ≤ 9223372036854775807) (hz2 : ∀ z ∈ zs2, -9223372036854775808 ≤ z ∧ z ≤ 9223372036854775807) (hl : zs.length = zs2.length) (hne : zs ≠ zs2) : s ++ encI zs ≠ s2 ++ encI zs2 := fun e => hne (encI_inj hl hz hz2 (List.append_inj e (by rw [h1, h2])).2)
end Go.Proofs.YtmfmgeapecapiaaDoor
