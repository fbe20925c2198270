/- Leaves of lines: their sums, plainly. -/
import Derived.Test.YtgcmbiegbclhmaaDoorTreeLeaves
namespace Go.Proofs.YtgcmbiegbclhmaaDoor
open Go.RowKit SzSha SzTree
set_option linter.unusedVariables false
set_option maxRecDepth 100000
theorem sumC_map : ∀ a b : List Nd, a.map (·.c) = b.map (·.c) → sumC a = sumC b
  | [], [], _ => rfl
  | [], _ :: _, h => by simp at h
  | _ :: _, [], h => by simp at h
  | x :: a, y :: b, h => by
    simp only [List.map_cons, List.cons.injEq] at h
    simp only [sumC, h.1, sumC_map a b h.2]
theorem sumP_map : ∀ a b : List Nd, a.map (·.p) = b.map (·.p) → sumP a = sumP b
  | [], [], _ => rfl
  | [], _ :: _, h => by simp at h
  | _ :: _, [], h => by simp at h
  | x :: a, y :: b, h => by
    simp only [List.map_cons, List.cons.injEq] at h
    simp only [sumP, h.1, sumP_map a b h.2]
theorem lvs_length (ls : List Ln) (b : List Nat) : (lvs ls b).length = ls.length := by simp [lvs]
theorem lv_c (ls : List Ln) (b : List Nat) (i : Nat) : (lv ls b i).c = (ls.getD i default).c3 := rfl
theorem lv_p (ls : List Ln) (b : List Nat) (i : Nat) : (lv ls b i).p = (ls.getD i default).c2 * (ls.getD i default).c3 := rfl
theorem lvs_cs (ls : List Ln) (b : List Nat) : (lvs ls b).map (·.c) = (List.range ls.length).map fun i => (ls.getD i default).c3 := by
  unfold lvs; rw [List.map_map]
  exact List.map_congr_left fun i _ => lv_c ls b i
theorem lvs_ps (ls : List Ln) (b : List Nat) : (lvs ls b).map (·.p) = (List.range ls.length).map fun i => (ls.getD i default).c2 * (ls.getD i default).c3 := by
  unfold lvs; rw [List.map_map]
  exact List.map_congr_left fun i _ => lv_p ls b i
theorem lvs_c (ls : List Ln) (b d : List Nat) : (lvs ls b).map (·.c) = (lvs ls d).map (·.c) := by rw [lvs_cs, lvs_cs]
theorem lvs_p (ls : List Ln) (b d : List Nat) : (lvs ls b).map (·.p) = (lvs ls d).map (·.p) := by rw [lvs_ps, lvs_ps]
theorem lvs_get (ls : List Ln) (b : List Nat) (i : Nat) (hi : i < ls.length) : (lvs ls b)[i]'(by rw [lvs_length]; exact hi) = lnLeaf ls[i] (saltN b 1 i) := by
  unfold lvs
  rw [List.getElem_map, List.getElem_range]
  unfold lv
  rw [show ls.getD i default = ls[i] by simp [List.getD_eq_getElem?_getD, hi]]
theorem lsB_get {ls : List Ln} (h : lsB ls = true) (i : Nat) (hi : i < ls.length) : lnOk ls[i] := by
  unfold lsB at h
  have := List.all_eq_true.1 h _ (List.getElem_mem hi)
  simpa using this
theorem lvs_mem {ls : List Ln} {b : List Nat} {x : Nd} (h : lsB ls = true) (hx : x ∈ lvs ls b) : ∃ (l : Ln) (s : List Nat), lnOk l ∧ x = lnLeaf l s := by
  obtain ⟨i, hi, rfl⟩ := List.mem_iff_getElem.1 hx
  rw [lvs_length] at hi
  exact ⟨_, _, lsB_get h i hi, lvs_get ls b i hi⟩
theorem lvs_ok {ls : List Ln} (b : List Nat) (h : lsB ls = true) : ∀ x ∈ lvs ls b, NdOk x := fun x hx => by
  obtain ⟨l, s, h1, rfl⟩ := lvs_mem h hx
  exact lnLeaf_ok h1 s
theorem sumC_60 : ∀ l : List Nd, (∀ x ∈ l, x.c ≤ 60) → sumC l ≤ 60 * (l.length : Int)
  | [], _ => by simp [sumC]
  | x :: l, h => by
    have h1 := h x (by simp)
    have h2 := sumC_60 l (fun y hy => h y (List.mem_cons_of_mem _ hy))
    simp only [sumC, List.length_cons]; omega
theorem vL_lvs {ls : List Ln} (b : List Nat) (h : lsB ls = true) (hn : ls.length ≤ 1000) : vL (lvs ls b) = true := by
  have h1 : (lvs ls b).all vN = true := List.all_eq_true.2 fun x hx => by
    obtain ⟨l, s, h1, rfl⟩ := lvs_mem h hx
    exact leafN_v s h1
  have h2 : sumC (lvs ls b) ≤ 60 * ((lvs ls b).length : Int) := sumC_60 _ fun x hx => by
    obtain ⟨l, s, h1, rfl⟩ := lvs_mem h hx
    unfold lnOk lOk at h1
    show l.c3 ≤ 60
    omega
  rw [lvs_length] at h2
  unfold vL
  rw [h1, Bool.true_and, decide_eq_true_eq]; omega
theorem rootE_lvs {ls : List Ln} (b : List Nat) (h : lsB ls = true) (hn : ls.length ≤ 1000) : rootE (lvs ls b) = 0 := by
  unfold rootE; rw [if_pos ⟨by rw [lvs_length]; omega, vL_lvs b h hn⟩]
theorem rootR_sums {l : List Nd} (h : l.length ≤ 4096) (hv : vL l = true) : (rootR l).c = sumC l ∧ (rootR l).p = sumP l := by
  by_cases h0 : l = []
  · subst h0; rw [rootR_nil.1]; exact ⟨rfl, rfl⟩
  · have h1 := List.length_pos_iff.2 h0
    rw [(rootR_yes h hv h1).1]
    exact root_sums _ l rfl h1
theorem rootR_hid {ls : List Ln} (b d : List Nat) (h : lsB ls = true) (hn : ls.length ≤ 1000) : (rootR (lvs ls b)).c = (rootR (lvs ls d)).c ∧ (rootR (lvs ls b)).p = (rootR (lvs ls d)).p := by
  have h1 := rootR_sums (l := lvs ls b) (by rw [lvs_length]; omega) (vL_lvs b h hn)
  have h2 := rootR_sums (l := lvs ls d) (by rw [lvs_length]; omega) (vL_lvs d h hn)
  rw [h1.1, h1.2, h2.1, h2.2]
  exact ⟨sumC_map _ _ (lvs_c ls b d), sumP_map _ _ (lvs_p ls b d)⟩
end Go.Proofs.YtgcmbiegbclhmaaDoor
