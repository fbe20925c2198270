/- sizar/sums.Verify: a node that is refused. -/
import Derived.Test.YtmfmgeapecapiaaDoorSM10
namespace Go.Proofs.YtmfmgeapecapiaaDoor
open Go.RowKit Go.Shelf SzSha SzTree
set_option linter.unusedVariables false
set_option maxRecDepth 100000
set_option maxHeartbeats 16000000 in
theorem v2_bad (f t lo hi : Nat) (hft : f < t) (hlt : lo < hi) (hhi : hi ≤ 4096) (hc : (insB f t lo hi || outB f t lo hi) = true) (WB : World) (bw br bc bp bj : Nat) (hx : Hid (BX WB bw br bc bp bj)) (w : World) (x : Nd) (xs : List Nd) (c p : Int) (h : Hid (VJ WB bw br bc bp bj f t w (x :: xs) c p)) (hT : Hid (Tabs WB)) (hxl : xs.length ≤ 100000) (hvx : vN x = false) :
    Calls Tryd.prog 72 #[.agg #[.int .i64 (lo : Nat), .int .i64 (hi : Nat)], .pointer (some ⟨bw, 0, none⟩), .pointer (some ⟨br, 0, none⟩), .pointer (some ⟨bc, 0, none⟩), .pointer (some ⟨bp, 0, none⟩), .pointer (some ⟨bj, 0, none⟩)] w (VPost WB bw br bc bp bj f t w c p none) := by
  obtain ⟨W1, HW1⟩ : ∃ V, Hid ((w.alloc (.cells #[.int .i64 (lo : Nat), .int .i64 (hi : Nat)] 97)).alloc (.cells (ndC zeroN).toArray 31) = V) := ⟨_, Lib.hid rfl⟩
  have hb := ((Below.refl _ w).alloc (Nat.le_refl _) (.cells #[.int .i64 (lo : Nat), .int .i64 (hi : Nat)] 97)).alloc (by simp) (.cells (ndC zeroN).toArray 31)
  have hr := (Below.heap_alloc (w.alloc (.cells #[.int .i64 (lo : Nat), .int .i64 (hi : Nat)] 97)) (.cells (ndC zeroN).toArray 31) w.heap.size (by simp)).trans (heap_alloc_new w (.cells #[.int .i64 (lo : Nat), .int .i64 (hi : Nat)] 97))
  have hz := heap_alloc_new (w.alloc (.cells #[.int .i64 (lo : Nat), .int .i64 (hi : Nat)] 97)) (.cells (ndC zeroN).toArray 31)
  rw [World.size_alloc] at hz
  have hs1 : W1.heap.size = w.heap.size + 2 := by rw [← HW1.out]; simp
  rw [HW1.out] at hb hr hz
  have hv := h.out.below hb
  have hk := KJ.of_below (br := br) (bc := bc) (bp := bp) hb h.out.bel.size
  obtain ⟨A, n, cc, hre, hin⟩ := hv.rest
  have hn : n = xs.length + 1 := by have := hin.len; simpa using this.symm
  subst hn
  obtain ⟨g, off, rfl, hg, hrd⟩ := hin.rd (by simp)
  have hcap := hin.cap
  have hok := hin.ok x (by simp)
  have HNK := Lib.hid hok
  have HSX : Hid ((Tryd.prog.info? 31).map (·.size) = some (ndC x).length) := Lib.hid (by have := size34 hok; simpa using this)
  have HS1 : Hid ((Tryd.prog.info? 31).map (·.size) = some (ndC x).toArray.size) := Lib.hid (by rw [size34 hok]; simp)
  have HS2 : Hid (34 = (ndC x).toArray.size) := Lib.hid (by simp [ndC_length hok])
  have HRX : Hid (W1.rangeAt g off (ndC x)) := Lib.hid (fun j v hj => (hv.bel.cell (p := ⟨g, off + j, none⟩) hg).trans (hrd j v (by
    have e : flatN (x :: xs) = ndC x ++ flatN xs := rfl
    rw [e, List.getElem?_append_left (List.getElem?_eq_some_iff.1 hj).1]; exact hj)))
  have hdr : ∃ A', (if cc = 1 then some ⟨g, off, none⟩ else some ⟨g, off + 1 * 34, none⟩) = A' ∧ InN WB A' xs.length (cc - 1) xs := ⟨_, rfl, by
    by_cases h1 : cc = 1
    · rw [if_pos h1]
      have hx0 : xs = [] := by cases xs with | nil => rfl | cons _ _ => simp at hcap; omega
      subst hx0
      exact ⟨rfl, Nat.zero_le _, (fun e => by cases e), (fun y hy => by cases hy), (fun hh => by simp at hh)⟩
    · rw [if_neg h1]
      exact hin.drop 1 (by simp)⟩
  obtain ⟨A', HA, hin'⟩ := hdr
  have HA' := Lib.hid HA
  have HIN' := Lib.hid hin'
  -- the node, laid
  obtain ⟨W2, HW2⟩ : ∃ V, Hid ((W1.alloc (.cells (ndC zeroN).toArray 31)).setRow W1.heap.size (ndC x).toArray = V) := ⟨_, Lib.hid rfl⟩
  have HRZ := Lib.hid (heap_alloc_new W1 (.cells (ndC zeroN).toArray 31))
  have hl2 := laid_row W1 (ndC zeroN).toArray (ndC x).toArray 31
  rw [HW2.out] at hl2
  have hv2 := hv.below hl2.1
  have hk2 := hk.trans (KJ.of_below (br := br) (bc := bc) (bp := bp) hl2.1 hv.bel.size)
  have hz2 := row_kept hz hl2.1
  obtain ⟨A2, n2, c2, hre2, hin2⟩ := hv2.rest
  have hre20 := row_kept hre hl2.1
  have cw0 := cell_of_row _ _ 0 _ _ _ hv.want
  have cw1 := cell_of_row _ _ 1 _ _ _ hv.want
  have ca0 := cell_of_row _ _ 0 _ _ _ hr
  have ca1 := cell_of_row _ _ 1 _ _ _ hr
  have cr0 := cell_of_row _ _ 0 _ _ _ hre
  have cr2 := cell_of_row _ _ 0 _ _ _ hre20
  have fr2 := frozen_of_row _ _ 0 _ _ hre20
  -- the rest, cut
  obtain ⟨W3, HW3⟩ : ∃ V, Hid (W2.setCell ⟨br, 0, none⟩ (.slice A' xs.length (cc - 1)) = V) := ⟨_, Lib.hid rfl⟩
  obtain ⟨hv3, hk3⟩ := hv2.setRest hx.out hin'
  obtain ⟨_, ho3, hs3⟩ := set_one (v := .slice A' xs.length (cc - 1)) hre20
  rw [HW3.out] at hv3 hk3 ho3 hs3
  have HW3a : Hid (cc = 1 → W2.setCell ⟨br, 0, none⟩ (.slice (some ⟨g, off, none⟩) xs.length 0) = W3) := Lib.hid (fun e => by rw [← HW3.out, ← HA, if_pos e, e])
  have HW3b : Hid (¬ cc = 1 → W2.setCell ⟨br, 0, none⟩ (.slice (some ⟨g, off + 34, none⟩) xs.length (cc - 1)) = W3) := Lib.hid (fun e => by rw [← HW3.out, ← HA, if_neg e, Nat.one_mul])
  have hk3 := hk2.trans hk3
  have hs2 := hl2.2.1
  have hne : W1.heap.size ≠ br := by have h9 := (Array.getElem?_eq_some_iff.1 hre).1; omega
  have hn3 := (ho3 _ hne).trans hl2.2.2
  have hz3 := (ho3 (w.heap.size + 1) (by have h9 := (Array.getElem?_eq_some_iff.1 (h.out.rest.choose_spec.choose_spec.choose_spec.1)).1; omega)).trans hz2
  have hT3 := hT.out.below hv3.bel
  have HK3 := Lib.hid hk3
  have HV3 := Lib.hid hv3
  have HN3 := Lib.hid hn3
  have HZ3 := Lib.hid hz3
  have HT3 := Lib.hid hT3
  have HS3 : Hid (W3.heap.size = w.heap.size + 3) := Lib.hid (by omega)
  have HSW1 := Lib.hid hs1
  have HNE := Lib.hid hne
  have h1c : 1 ≤ cc := by omega
  have HCAP := Lib.hid hcap
  have hba := (Below.refl _ W3).alloc (Nat.le_refl _) (.cells (flatN [x]).toArray 31)
  have HBA := Lib.hid hba
  have HTF := Lib.hid (hT.out.below (hv3.below hba).bel)
  have hrow := heap_alloc_new W3 (.cells (flatN [x]).toArray 31)
  have HINF : Hid (InN (W3.alloc (.cells (flatN [x]).toArray 31)) (some ⟨W3.heap.size, 0, none⟩) 1 1 [x]) := Lib.hid ⟨rfl, Nat.le_refl _, (fun e => by cases e), (fun y hy => by simp at hy; subst hy; exact hok), fun _ => ⟨W3.heap.size, 0, rfl, by simp, fun j v hj => range_row hrow j v hj⟩⟩
  have HRK : Hid (NdOk (rootR [x])) := Lib.hid (rootR_ok (fun y hy => by simp at hy; subst hy; exact hok))
  obtain ⟨rr, HRR⟩ : ∃ r, Hid (rootR [x] = r) := ⟨_, Lib.hid rfl⟩
  rw [HRR.out] at HRK
  have HRE : Hid (rootE [x] = 410) := Lib.hid (by unfold rootE; rw [if_neg (fun hh => by rw [vL_one43, hvx] at hh; exact absurd hh.2 (by simp))])
  have HR1 : Hid ((Tryd.prog.info? 31).map (·.size) = some (ndC rr).toArray.size) := Lib.hid (by rw [size34 HRK.out]; simp)
  have HR2 : Hid (34 = (ndC rr).toArray.size) := Lib.hid (by simp [ndC_length HRK.out])
  rw [zeroN_cells] at HW1 HRZ HW2
  clear hba hrow
  clear hb hr hz hv hk hre hin hrd hok HA hin' hl2 hv2 hk2 hz2 hre2 hin2 hre20 hv3 hk3 hn3 hz3 hT3 ho3 hs3 hs2 hs1 hne hcap
  have hcx : (f ≤ lo ∧ hi ≤ t) ∨ (f ≤ lo ∧ ¬ hi ≤ t ∧ ¬ hi ≤ f ∧ t ≤ lo) ∨ (¬ f ≤ lo ∧ hi ≤ f) := by
    unfold insB outB at hc
    simp only [Bool.or_eq_true, Bool.and_eq_true, decide_eq_true_eq] at hc
    omega
  rcases hcx with ⟨q0, q1⟩ | ⟨q0, q1, q2, q3⟩ | ⟨q0, q1⟩
  · have d0 : decide (f ≤ lo) = true := decide_eq_true (by omega)
    have d1 : decide (hi ≤ t) = true := decide_eq_true (by omega)
    clear hc
    rcases Classical.em (cc = 1) with hcc | hcc
    · subst hcc
      go_enter Tryd.func72, Tryd.ntmps72
      go_wp2_with (first | (rw [HW1.out]) | (rw [HW3a.out (by trivial)]) | (rw [HW3b.out (by assumption)]) | (with_reducible refine wpList_load_mid rfl 31 (.tmp 48) rfl g off rfl (ndC x) _ HRX.out Tryd.underlying31 rfl HSX.out ?_) | (refine wpList_store_row rfl 31 (.tmp 9) (.tmp 49) rfl W1.heap.size (ndC x).toArray rfl rfl 31 _ HRZ.out HS1.out HS2.out (ndC_one x) ?_; rw [HW2.out]) | (refine wpList_load_row rfl 31 (.tmp 9) rfl W1.heap.size rfl 31 _ (0, 0) _ HN3.out Tryd.underlying31 rfl HS1.out ?_) | (refine wpList_build_nodes1 rfl (.tmp 53) rfl x rfl HNK.out ?_) | (refine (demand_yes 430 _).mono ?_; rintro e w' ⟨rfl, rfl⟩))
      refine (root_any [x] _ 1 1 _ (by decide) HINF HTF).mono ?_
      rintro e W4 ⟨rfl, hq⟩
      rw [HRR.out, HRE.out]
      obtain ⟨W5, HW5⟩ : ∃ V, Hid ((W4.alloc (.cells (ndC zeroN).toArray 31)).setRow W4.heap.size (ndC rr).toArray = V) := ⟨_, Lib.hid rfl⟩
      have HRZ5 := Lib.hid (heap_alloc_new W4 (.cells (ndC zeroN).toArray 31))
      have hl5 := laid_row W4 (ndC zeroN).toArray (ndC rr).toArray 31
      rw [HW5.out] at hl5
      have hb4 := HBA.out.trans (hq.mono HBA.out.size)
      have hb5 := hb4.trans (hl5.1.mono hb4.size)
      have HV5 := Lib.hid (HV3.out.below hb5)
      have HK5 := Lib.hid (HK3.out.trans (KJ.of_below (br := br) (bc := bc) (bp := bp) hb5 HV3.out.bel.size))
      have HN5 := Lib.hid (row_kept HN3.out hb5)
      have HZ5 := Lib.hid (row_kept HZ3.out hb5)
      rw [zeroN_cells] at HRZ5 HW5 HZ5
      clear hq hl5 hb5 hb4
      go_wp2_with (first | (rw [HW5.out]) | (refine wpList_store_row rfl 31 (.tmp 10) (.tmp 56) rfl W4.heap.size (ndC rr).toArray rfl rfl 31 _ HRZ5.out HR1.out HR2.out (ndC_one rr) ?_; rw [HW5.out]))
      refine (demand_no 430 _).mono ?_
      rintro e w' ⟨rfl, rfl⟩
      exact ⟨rfl, HK5.out, rfl, _, _, _, HV5.out⟩
    · go_enter Tryd.func72, Tryd.ntmps72
      go_wp2_with (first | (rw [HW1.out]) | (rw [HW3a.out (by trivial)]) | (rw [HW3b.out (by assumption)]) | (with_reducible refine wpList_load_mid rfl 31 (.tmp 48) rfl g off rfl (ndC x) _ HRX.out Tryd.underlying31 rfl HSX.out ?_) | (refine wpList_store_row rfl 31 (.tmp 9) (.tmp 49) rfl W1.heap.size (ndC x).toArray rfl rfl 31 _ HRZ.out HS1.out HS2.out (ndC_one x) ?_; rw [HW2.out]) | (refine wpList_load_row rfl 31 (.tmp 9) rfl W1.heap.size rfl 31 _ (0, 0) _ HN3.out Tryd.underlying31 rfl HS1.out ?_) | (refine wpList_build_nodes1 rfl (.tmp 53) rfl x rfl HNK.out ?_) | (refine (demand_yes 430 _).mono ?_; rintro e w' ⟨rfl, rfl⟩))
      refine (root_any [x] _ 1 1 _ (by decide) HINF HTF).mono ?_
      rintro e W4 ⟨rfl, hq⟩
      rw [HRR.out, HRE.out]
      obtain ⟨W5, HW5⟩ : ∃ V, Hid ((W4.alloc (.cells (ndC zeroN).toArray 31)).setRow W4.heap.size (ndC rr).toArray = V) := ⟨_, Lib.hid rfl⟩
      have HRZ5 := Lib.hid (heap_alloc_new W4 (.cells (ndC zeroN).toArray 31))
      have hl5 := laid_row W4 (ndC zeroN).toArray (ndC rr).toArray 31
      rw [HW5.out] at hl5
      have hb4 := HBA.out.trans (hq.mono HBA.out.size)
      have hb5 := hb4.trans (hl5.1.mono hb4.size)
      have HV5 := Lib.hid (HV3.out.below hb5)
      have HK5 := Lib.hid (HK3.out.trans (KJ.of_below (br := br) (bc := bc) (bp := bp) hb5 HV3.out.bel.size))
      have HN5 := Lib.hid (row_kept HN3.out hb5)
      have HZ5 := Lib.hid (row_kept HZ3.out hb5)
      rw [zeroN_cells] at HRZ5 HW5 HZ5
      clear hq hl5 hb5 hb4
      go_wp2_with (first | (rw [HW5.out]) | (refine wpList_store_row rfl 31 (.tmp 10) (.tmp 56) rfl W4.heap.size (ndC rr).toArray rfl rfl 31 _ HRZ5.out HR1.out HR2.out (ndC_one rr) ?_; rw [HW5.out]))
      refine (demand_no 430 _).mono ?_
      rintro e w' ⟨rfl, rfl⟩
      exact ⟨rfl, HK5.out, rfl, _, _, _, HV5.out⟩
  · have d0 : decide (f ≤ lo) = true := decide_eq_true (by omega)
    have d1 : decide (hi ≤ t) = false := decide_eq_false (by omega)
    have d2 : decide (hi ≤ f) = false := decide_eq_false (by omega)
    have d3 : decide (t ≤ lo) = true := decide_eq_true (by omega)
    clear hc
    rcases Classical.em (cc = 1) with hcc | hcc
    · subst hcc
      go_enter Tryd.func72, Tryd.ntmps72
      go_wp2_with (first | (rw [HW1.out]) | (rw [HW3a.out (by trivial)]) | (rw [HW3b.out (by assumption)]) | (with_reducible refine wpList_load_mid rfl 31 (.tmp 48) rfl g off rfl (ndC x) _ HRX.out Tryd.underlying31 rfl HSX.out ?_) | (refine wpList_store_row rfl 31 (.tmp 9) (.tmp 49) rfl W1.heap.size (ndC x).toArray rfl rfl 31 _ HRZ.out HS1.out HS2.out (ndC_one x) ?_; rw [HW2.out]) | (refine wpList_load_row rfl 31 (.tmp 9) rfl W1.heap.size rfl 31 _ (0, 0) _ HN3.out Tryd.underlying31 rfl HS1.out ?_) | (refine wpList_build_nodes1 rfl (.tmp 53) rfl x rfl HNK.out ?_) | (refine (demand_yes 430 _).mono ?_; rintro e w' ⟨rfl, rfl⟩))
      refine (root_any [x] _ 1 1 _ (by decide) HINF HTF).mono ?_
      rintro e W4 ⟨rfl, hq⟩
      rw [HRR.out, HRE.out]
      obtain ⟨W5, HW5⟩ : ∃ V, Hid ((W4.alloc (.cells (ndC zeroN).toArray 31)).setRow W4.heap.size (ndC rr).toArray = V) := ⟨_, Lib.hid rfl⟩
      have HRZ5 := Lib.hid (heap_alloc_new W4 (.cells (ndC zeroN).toArray 31))
      have hl5 := laid_row W4 (ndC zeroN).toArray (ndC rr).toArray 31
      rw [HW5.out] at hl5
      have hb4 := HBA.out.trans (hq.mono HBA.out.size)
      have hb5 := hb4.trans (hl5.1.mono hb4.size)
      have HV5 := Lib.hid (HV3.out.below hb5)
      have HK5 := Lib.hid (HK3.out.trans (KJ.of_below (br := br) (bc := bc) (bp := bp) hb5 HV3.out.bel.size))
      have HN5 := Lib.hid (row_kept HN3.out hb5)
      have HZ5 := Lib.hid (row_kept HZ3.out hb5)
      rw [zeroN_cells] at HRZ5 HW5 HZ5
      clear hq hl5 hb5 hb4
      go_wp2_with (first | (rw [HW5.out]) | (refine wpList_store_row rfl 31 (.tmp 10) (.tmp 56) rfl W4.heap.size (ndC rr).toArray rfl rfl 31 _ HRZ5.out HR1.out HR2.out (ndC_one rr) ?_; rw [HW5.out]))
      refine (demand_no 430 _).mono ?_
      rintro e w' ⟨rfl, rfl⟩
      exact ⟨rfl, HK5.out, rfl, _, _, _, HV5.out⟩
    · go_enter Tryd.func72, Tryd.ntmps72
      go_wp2_with (first | (rw [HW1.out]) | (rw [HW3a.out (by trivial)]) | (rw [HW3b.out (by assumption)]) | (with_reducible refine wpList_load_mid rfl 31 (.tmp 48) rfl g off rfl (ndC x) _ HRX.out Tryd.underlying31 rfl HSX.out ?_) | (refine wpList_store_row rfl 31 (.tmp 9) (.tmp 49) rfl W1.heap.size (ndC x).toArray rfl rfl 31 _ HRZ.out HS1.out HS2.out (ndC_one x) ?_; rw [HW2.out]) | (refine wpList_load_row rfl 31 (.tmp 9) rfl W1.heap.size rfl 31 _ (0, 0) _ HN3.out Tryd.underlying31 rfl HS1.out ?_) | (refine wpList_build_nodes1 rfl (.tmp 53) rfl x rfl HNK.out ?_) | (refine (demand_yes 430 _).mono ?_; rintro e w' ⟨rfl, rfl⟩))
      refine (root_any [x] _ 1 1 _ (by decide) HINF HTF).mono ?_
      rintro e W4 ⟨rfl, hq⟩
      rw [HRR.out, HRE.out]
      obtain ⟨W5, HW5⟩ : ∃ V, Hid ((W4.alloc (.cells (ndC zeroN).toArray 31)).setRow W4.heap.size (ndC rr).toArray = V) := ⟨_, Lib.hid rfl⟩
      have HRZ5 := Lib.hid (heap_alloc_new W4 (.cells (ndC zeroN).toArray 31))
      have hl5 := laid_row W4 (ndC zeroN).toArray (ndC rr).toArray 31
      rw [HW5.out] at hl5
      have hb4 := HBA.out.trans (hq.mono HBA.out.size)
      have hb5 := hb4.trans (hl5.1.mono hb4.size)
      have HV5 := Lib.hid (HV3.out.below hb5)
      have HK5 := Lib.hid (HK3.out.trans (KJ.of_below (br := br) (bc := bc) (bp := bp) hb5 HV3.out.bel.size))
      have HN5 := Lib.hid (row_kept HN3.out hb5)
      have HZ5 := Lib.hid (row_kept HZ3.out hb5)
      rw [zeroN_cells] at HRZ5 HW5 HZ5
      clear hq hl5 hb5 hb4
      go_wp2_with (first | (rw [HW5.out]) | (refine wpList_store_row rfl 31 (.tmp 10) (.tmp 56) rfl W4.heap.size (ndC rr).toArray rfl rfl 31 _ HRZ5.out HR1.out HR2.out (ndC_one rr) ?_; rw [HW5.out]))
      refine (demand_no 430 _).mono ?_
      rintro e w' ⟨rfl, rfl⟩
      exact ⟨rfl, HK5.out, rfl, _, _, _, HV5.out⟩
  · have d0 : decide (f ≤ lo) = false := decide_eq_false (by omega)
    have d2 : decide (hi ≤ f) = true := decide_eq_true (by omega)
    clear hc
    rcases Classical.em (cc = 1) with hcc | hcc
    · subst hcc
      go_enter Tryd.func72, Tryd.ntmps72
      go_wp2_with (first | (rw [HW1.out]) | (rw [HW3a.out (by trivial)]) | (rw [HW3b.out (by assumption)]) | (with_reducible refine wpList_load_mid rfl 31 (.tmp 48) rfl g off rfl (ndC x) _ HRX.out Tryd.underlying31 rfl HSX.out ?_) | (refine wpList_store_row rfl 31 (.tmp 9) (.tmp 49) rfl W1.heap.size (ndC x).toArray rfl rfl 31 _ HRZ.out HS1.out HS2.out (ndC_one x) ?_; rw [HW2.out]) | (refine wpList_load_row rfl 31 (.tmp 9) rfl W1.heap.size rfl 31 _ (0, 0) _ HN3.out Tryd.underlying31 rfl HS1.out ?_) | (refine wpList_build_nodes1 rfl (.tmp 53) rfl x rfl HNK.out ?_) | (refine (demand_yes 430 _).mono ?_; rintro e w' ⟨rfl, rfl⟩))
      refine (root_any [x] _ 1 1 _ (by decide) HINF HTF).mono ?_
      rintro e W4 ⟨rfl, hq⟩
      rw [HRR.out, HRE.out]
      obtain ⟨W5, HW5⟩ : ∃ V, Hid ((W4.alloc (.cells (ndC zeroN).toArray 31)).setRow W4.heap.size (ndC rr).toArray = V) := ⟨_, Lib.hid rfl⟩
      have HRZ5 := Lib.hid (heap_alloc_new W4 (.cells (ndC zeroN).toArray 31))
      have hl5 := laid_row W4 (ndC zeroN).toArray (ndC rr).toArray 31
      rw [HW5.out] at hl5
      have hb4 := HBA.out.trans (hq.mono HBA.out.size)
      have hb5 := hb4.trans (hl5.1.mono hb4.size)
      have HV5 := Lib.hid (HV3.out.below hb5)
      have HK5 := Lib.hid (HK3.out.trans (KJ.of_below (br := br) (bc := bc) (bp := bp) hb5 HV3.out.bel.size))
      have HN5 := Lib.hid (row_kept HN3.out hb5)
      have HZ5 := Lib.hid (row_kept HZ3.out hb5)
      rw [zeroN_cells] at HRZ5 HW5 HZ5
      clear hq hl5 hb5 hb4
      go_wp2_with (first | (rw [HW5.out]) | (refine wpList_store_row rfl 31 (.tmp 10) (.tmp 56) rfl W4.heap.size (ndC rr).toArray rfl rfl 31 _ HRZ5.out HR1.out HR2.out (ndC_one rr) ?_; rw [HW5.out]))
      refine (demand_no 430 _).mono ?_
      rintro e w' ⟨rfl, rfl⟩
      exact ⟨rfl, HK5.out, rfl, _, _, _, HV5.out⟩
    · go_enter Tryd.func72, Tryd.ntmps72
      go_wp2_with (first | (rw [HW1.out]) | (rw [HW3a.out (by trivial)]) | (rw [HW3b.out (by assumption)]) | (with_reducible refine wpList_load_mid rfl 31 (.tmp 48) rfl g off rfl (ndC x) _ HRX.out Tryd.underlying31 rfl HSX.out ?_) | (refine wpList_store_row rfl 31 (.tmp 9) (.tmp 49) rfl W1.heap.size (ndC x).toArray rfl rfl 31 _ HRZ.out HS1.out HS2.out (ndC_one x) ?_; rw [HW2.out]) | (refine wpList_load_row rfl 31 (.tmp 9) rfl W1.heap.size rfl 31 _ (0, 0) _ HN3.out Tryd.underlying31 rfl HS1.out ?_) | (refine wpList_build_nodes1 rfl (.tmp 53) rfl x rfl HNK.out ?_) | (refine (demand_yes 430 _).mono ?_; rintro e w' ⟨rfl, rfl⟩))
      refine (root_any [x] _ 1 1 _ (by decide) HINF HTF).mono ?_
      rintro e W4 ⟨rfl, hq⟩
      rw [HRR.out, HRE.out]
      obtain ⟨W5, HW5⟩ : ∃ V, Hid ((W4.alloc (.cells (ndC zeroN).toArray 31)).setRow W4.heap.size (ndC rr).toArray = V) := ⟨_, Lib.hid rfl⟩
      have HRZ5 := Lib.hid (heap_alloc_new W4 (.cells (ndC zeroN).toArray 31))
      have hl5 := laid_row W4 (ndC zeroN).toArray (ndC rr).toArray 31
      rw [HW5.out] at hl5
      have hb4 := HBA.out.trans (hq.mono HBA.out.size)
      have hb5 := hb4.trans (hl5.1.mono hb4.size)
      have HV5 := Lib.hid (HV3.out.below hb5)
      have HK5 := Lib.hid (HK3.out.trans (KJ.of_below (br := br) (bc := bc) (bp := bp) hb5 HV3.out.bel.size))
      have HN5 := Lib.hid (row_kept HN3.out hb5)
      have HZ5 := Lib.hid (row_kept HZ3.out hb5)
      rw [zeroN_cells] at HRZ5 HW5 HZ5
      clear hq hl5 hb5 hb4
      go_wp2_with (first | (rw [HW5.out]) | (refine wpList_store_row rfl 31 (.tmp 10) (.tmp 56) rfl W4.heap.size (ndC rr).toArray rfl rfl 31 _ HRZ5.out HR1.out HR2.out (ndC_one rr) ?_; rw [HW5.out]))
      refine (demand_no 430 _).mono ?_
      rintro e w' ⟨rfl, rfl⟩
      exact ⟨rfl, HK5.out, rfl, _, _, _, HV5.out⟩
end Go.Proofs.YtmfmgeapecapiaaDoor
