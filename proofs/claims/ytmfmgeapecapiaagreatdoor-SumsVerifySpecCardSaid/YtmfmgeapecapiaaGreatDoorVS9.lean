/- sizar/sums.Verify: a node that is refused. sizar/sums.Verify: a node inside the interval. sizar/sums.Verify: a node outside the interval. -/
import Derived.Test.YtmfmgeapecapiaaGreatDoorVS8
set_option maxHeartbeats 64000001
open Go.Lib (hid)
namespace Go.Proofs.YtmfmgeapecapiaaGreatDoor
open Go.RowKit Go.Shelf SzSha SzTree
set_option linter.unusedVariables false
set_option maxRecDepth 100000
theorem v2_bad (f t lo hi : Nat) (hft : f < t) (hlt : lo < hi) (hhi : hi ≤ 4096) (hc : (insB f t lo hi || outB f t lo hi) = true) (WB : World) (bw br bc bp bj : Nat) (hx : Hid (BX WB bw br bc bp bj)) (w : World) (x : Nd) (xs : List Nd) (c p : Int) (h : Hid (VJ WB bw br bc bp bj f t w (x :: xs) c p)) (hT : Hid (Tabs WB)) (hxl : xs.length ≤ 100000) (hvx : vN x = false) :
  Calls Tryz.prog 83 #[.agg #[.int .i64 (lo : Nat), .int .i64 (hi : Nat)], .pointer (some ⟨bw, 0, none⟩), .pointer (some ⟨br, 0, none⟩), .pointer (some ⟨bc, 0, none⟩), .pointer (some ⟨bp, 0, none⟩), .pointer (some ⟨bj, 0, none⟩)] w (VPost WB bw br bc bp bj f t w c p none) := by
 obtain ⟨W1, HW1⟩ : ∃ V, Hid ((w.alloc (.cells #[.int .i64 (lo : Nat), .int .i64 (hi : Nat)] 119)).alloc (.cells (ndC zeroN).toArray 39) = V) := ⟨_, hid rfl⟩
 have hb := ((Below.refl _ w).alloc (Nat.le_refl _) (.cells #[.int .i64 (lo : Nat), .int .i64 (hi : Nat)] 119)).alloc (by simp) (.cells (ndC zeroN).toArray 39)
 have hr := (Below.heap_alloc (w.alloc (.cells #[.int .i64 (lo : Nat), .int .i64 (hi : Nat)] 119)) (.cells (ndC zeroN).toArray 39) w.heap.size (by simp)).trans (heap_alloc_new w (.cells #[.int .i64 (lo : Nat), .int .i64 (hi : Nat)] 119))
 have hz := heap_alloc_new (w.alloc (.cells #[.int .i64 (lo : Nat), .int .i64 (hi : Nat)] 119)) (.cells (ndC zeroN).toArray 39)
 rw [World.size_alloc] at hz
 have hs1 : W1.heap.size = w.heap.size + 2 := by rw [← HW1.out]; simp
 rw [HW1.out] at hb hr hz
 have hv := h.out.below hb
 have hk := KJ.of_below (br := br) (bc := bc) (bp := bp) hb h.out.bel.size
 obtain ⟨A, n, cc, hre, hin⟩ := hv.rest
 have hn : n = xs.length + 1 := by have := hin.len; simpa using this.symm
 subst hn
 obtain ⟨g, off, rfl, hg, hrd⟩ := hin.rd (by simp)
 have hcap := hin.cap
 have hok := hin.ok x (by simp)
 have HNK := hid hok
 have HSX : Hid ((Tryz.prog.info? 39).map (·.size) = some (ndC x).length) := hid (by have := size34 hok; simpa using this)
 have HS1 : Hid ((Tryz.prog.info? 39).map (·.size) = some (ndC x).toArray.size) := hid (by rw [size34 hok]; simp)
 have HS2 : Hid (34 = (ndC x).toArray.size) := hid (by simp [ndC_length hok])
 have HRX : Hid (W1.rangeAt g off (ndC x)) := hid (fun j v hj => (hv.bel.cell (p := ⟨g, off + j, none⟩) hg).trans (hrd j v (by
  have e : flatN (x :: xs) = ndC x ++ flatN xs := rfl
  rw [e, List.getElem?_append_left (List.getElem?_eq_some_iff.1 hj).1]; exact hj)))
 have hdr : ∃ A', (if cc = 1 then some ⟨g, off, none⟩ else some ⟨g, off + 1 * 34, none⟩) = A' ∧ InN WB A' xs.length (cc - 1) xs := ⟨_, rfl, by
  by_cases h1 : cc = 1
  ·rw [if_pos h1]
   have hx0 : xs = [] := by cases xs with | nil => rfl | cons _ _ => simp at hcap; omega
   subst hx0
   exact ⟨rfl, Nat.zero_le _, (fun e => by cases e), (fun y hy => by cases hy), (fun hh => by simp at hh)⟩
  ·rw [if_neg h1]
   exact hin.drop 1 (by simp)⟩
 obtain ⟨A', HA, hin'⟩ := hdr
 have HA' := hid HA
 have HIN' := hid hin'
 -- the node, laid
 obtain ⟨W2, HW2⟩ : ∃ V, Hid ((W1.alloc (.cells (ndC zeroN).toArray 39)).setRow W1.heap.size (ndC x).toArray = V) := ⟨_, hid rfl⟩
 have HRZ := hid (heap_alloc_new W1 (.cells (ndC zeroN).toArray 39))
 have hl2 := laid_row W1 (ndC zeroN).toArray (ndC x).toArray 39
 rw [HW2.out] at hl2
 have hv2 := hv.below hl2.1
 have hk2 := hk.trans (KJ.of_below (br := br) (bc := bc) (bp := bp) hl2.1 hv.bel.size)
 have hz2 := row_kept hz hl2.1
 obtain ⟨A2, n2, c2, hre2, hin2⟩ := hv2.rest
 have hre20 := row_kept hre hl2.1
 have cw0 := cell_of_row _ _ 0 _ _ _ hv.want
 have cw1 := cell_of_row _ _ 1 _ _ _ hv.want
 have ca0 := cell_of_row _ _ 0 _ _ _ hr
 have ca1 := cell_of_row _ _ 1 _ _ _ hr
 have cr0 := cell_of_row _ _ 0 _ _ _ hre
 have cr2 := cell_of_row _ _ 0 _ _ _ hre20
 have fr2 := frozen_of_row _ _ 0 _ _ hre20
 -- the rest, cut
 obtain ⟨W3, HW3⟩ : ∃ V, Hid (W2.setCell ⟨br, 0, none⟩ (.slice A' xs.length (cc - 1)) = V) := ⟨_, hid rfl⟩
 obtain ⟨hv3, hk3⟩ := hv2.setRest hx.out hin'
 obtain ⟨_, ho3, hs3⟩ := set_one (v := .slice A' xs.length (cc - 1)) hre20
 rw [HW3.out] at hv3 hk3 ho3 hs3
 have HW3a : Hid (cc = 1 → W2.setCell ⟨br, 0, none⟩ (.slice (some ⟨g, off, none⟩) xs.length 0) = W3) := hid (fun e => by rw [← HW3.out, ← HA, if_pos e, e])
 have HW3b : Hid (¬ cc = 1 → W2.setCell ⟨br, 0, none⟩ (.slice (some ⟨g, off + 34, none⟩) xs.length (cc - 1)) = W3) := hid (fun e => by rw [← HW3.out, ← HA, if_neg e, Nat.one_mul])
 have hk3 := hk2.trans hk3
 have hs2 := hl2.2.1
 have hne : W1.heap.size ≠ br := by have h9 := (Array.getElem?_eq_some_iff.1 hre).1; omega
 have hn3 := (ho3 _ hne).trans hl2.2.2
 have hz3 := (ho3 (w.heap.size + 1) (by have h9 := (Array.getElem?_eq_some_iff.1 (h.out.rest.choose_spec.choose_spec.choose_spec.1)).1; omega)).trans hz2
 have hT3 := hT.out.below hv3.bel
 have HK3 := hid hk3
 have HV3 := hid hv3
 have HN3 := hid hn3
 have HZ3 := hid hz3
 have HT3 := hid hT3
 have HS3 : Hid (W3.heap.size = w.heap.size + 3) := hid (by omega)
 have HSW1 := hid hs1
 have HNE := hid hne
 have h1c : 1 ≤ cc := by omega
 have HCAP := hid hcap
 have hba := (Below.refl _ W3).alloc (Nat.le_refl _) (.cells (flatN [x]).toArray 39)
 have HBA := hid hba
 have HTF := hid (hT.out.below (hv3.below hba).bel)
 have hrow := heap_alloc_new W3 (.cells (flatN [x]).toArray 39)
 have HINF : Hid (InN (W3.alloc (.cells (flatN [x]).toArray 39)) (some ⟨W3.heap.size, 0, none⟩) 1 1 [x]) := hid ⟨rfl, Nat.le_refl _, (fun e => by cases e), (fun y hy => by simp at hy; subst hy; exact hok), fun _ => ⟨W3.heap.size, 0, rfl, by simp, fun j v hj => range_row hrow j v hj⟩⟩
 have HRK : Hid (NdOk (rootR [x])) := hid (rootR_ok (fun y hy => by simp at hy; subst hy; exact hok))
 obtain ⟨rr, HRR⟩ : ∃ r, Hid (rootR [x] = r) := ⟨_, hid rfl⟩
 rw [HRR.out] at HRK
 have HRE : Hid (rootE [x] = 410) := hid (by unfold rootE; rw [if_neg (fun hh => by rw [vL_one43, hvx] at hh; exact absurd hh.2 (by simp))])
 have HR1 : Hid ((Tryz.prog.info? 39).map (·.size) = some (ndC rr).toArray.size) := hid (by rw [size34 HRK.out]; simp)
 have HR2 : Hid (34 = (ndC rr).toArray.size) := hid (by simp [ndC_length HRK.out])
 rw [zeroN_cells] at HW1 HRZ HW2
 clear hba hrow
 clear hb hr hz hv hk hre hin hrd hok HA hin' hl2 hv2 hk2 hz2 hre2 hin2 hre20 hv3 hk3 hn3 hz3 hT3 ho3 hs3 hs2 hs1 hne hcap
 have hcx : (f ≤ lo ∧ hi ≤ t) ∨ (f ≤ lo ∧ ¬ hi ≤ t ∧ ¬ hi ≤ f ∧ t ≤ lo) ∨ (¬ f ≤ lo ∧ hi ≤ f) := by
  unfold insB outB at hc
  simp only [Bool.or_eq_true, Bool.and_eq_true, decide_eq_true_eq] at hc
  omega
 rcases hcx with ⟨q0, q1⟩ | ⟨q0, q1, q2, q3⟩ | ⟨q0, q1⟩
 ·have d0 : decide (f ≤ lo) = true := eQ (by omega)
  have d1 : decide (hi ≤ t) = true := eQ (by omega)
  clear hc
  rcases Classical.em (cc = 1) with hcc | hcc
  ·subst hcc
   go_enter Tryz.func83, Tryz.ntmps83
   go_wp2_with (first | (rw [HW1.out]) | (rw [HW3a.out (by trivial)]) | (rw [HW3b.out (by assumption)]) | (with_reducible refine wpList_load_mid rfl 39 (.tmp 48) rfl g off rfl (ndC x) _ HRX.out Tryz.underlying39 rfl HSX.out ?_) | (refine wpList_store_row rfl 39 (.tmp 9) (.tmp 49) rfl W1.heap.size (ndC x).toArray rfl rfl 39 _ HRZ.out HS1.out HS2.out (ndC_one x) ?_; rw [HW2.out]) | (refine wpList_load_row rfl 39 (.tmp 9) rfl W1.heap.size rfl 39 _ (0, 0) _ HN3.out Tryz.underlying39 rfl HS1.out ?_) | (refine wpList_build_nodes1 rfl (.tmp 53) rfl x rfl HNK.out ?_) | (refine (demand_yes 430 _).mono ?_; rintro e w' ⟨rfl, rfl⟩))
   refine (root_any [x] _ 1 1 _ (by decide) HINF HTF).mono ?_
   rintro e W4 ⟨rfl, hq⟩
   rw [HRR.out, HRE.out]
   obtain ⟨W5, HW5⟩ : ∃ V, Hid ((W4.alloc (.cells (ndC zeroN).toArray 39)).setRow W4.heap.size (ndC rr).toArray = V) := ⟨_, hid rfl⟩
   have HRZ5 := hid (heap_alloc_new W4 (.cells (ndC zeroN).toArray 39))
   have hl5 := laid_row W4 (ndC zeroN).toArray (ndC rr).toArray 39
   rw [HW5.out] at hl5
   have hb4 := HBA.out.trans (hq.mono HBA.out.size)
   have hb5 := hb4.trans (hl5.1.mono hb4.size)
   have HV5 := hid (HV3.out.below hb5)
   have HK5 := hid (HK3.out.trans (KJ.of_below (br := br) (bc := bc) (bp := bp) hb5 HV3.out.bel.size))
   have HN5 := hid (row_kept HN3.out hb5)
   have HZ5 := hid (row_kept HZ3.out hb5)
   rw [zeroN_cells] at HRZ5 HW5 HZ5
   clear hq hl5 hb5 hb4
   go_wp2_with (first | (rw [HW5.out]) | (refine wpList_store_row rfl 39 (.tmp 10) (.tmp 56) rfl W4.heap.size (ndC rr).toArray rfl rfl 39 _ HRZ5.out HR1.out HR2.out (ndC_one rr) ?_; rw [HW5.out]))
   refine (demand_no 430 _).mono ?_
   rintro e w' ⟨rfl, rfl⟩
   exact ⟨rfl, HK5.out, rfl, _, _, _, HV5.out⟩
  ·go_enter Tryz.func83, Tryz.ntmps83
   go_wp2_with (first | (rw [HW1.out]) | (rw [HW3a.out (by trivial)]) | (rw [HW3b.out (by assumption)]) | (with_reducible refine wpList_load_mid rfl 39 (.tmp 48) rfl g off rfl (ndC x) _ HRX.out Tryz.underlying39 rfl HSX.out ?_) | (refine wpList_store_row rfl 39 (.tmp 9) (.tmp 49) rfl W1.heap.size (ndC x).toArray rfl rfl 39 _ HRZ.out HS1.out HS2.out (ndC_one x) ?_; rw [HW2.out]) | (refine wpList_load_row rfl 39 (.tmp 9) rfl W1.heap.size rfl 39 _ (0, 0) _ HN3.out Tryz.underlying39 rfl HS1.out ?_) | (refine wpList_build_nodes1 rfl (.tmp 53) rfl x rfl HNK.out ?_) | (refine (demand_yes 430 _).mono ?_; rintro e w' ⟨rfl, rfl⟩))
   refine (root_any [x] _ 1 1 _ (by decide) HINF HTF).mono ?_
   rintro e W4 ⟨rfl, hq⟩
   rw [HRR.out, HRE.out]
   obtain ⟨W5, HW5⟩ : ∃ V, Hid ((W4.alloc (.cells (ndC zeroN).toArray 39)).setRow W4.heap.size (ndC rr).toArray = V) := ⟨_, hid rfl⟩
   have HRZ5 := hid (heap_alloc_new W4 (.cells (ndC zeroN).toArray 39))
   have hl5 := laid_row W4 (ndC zeroN).toArray (ndC rr).toArray 39
   rw [HW5.out] at hl5
   have hb4 := HBA.out.trans (hq.mono HBA.out.size)
   have hb5 := hb4.trans (hl5.1.mono hb4.size)
   have HV5 := hid (HV3.out.below hb5)
   have HK5 := hid (HK3.out.trans (KJ.of_below (br := br) (bc := bc) (bp := bp) hb5 HV3.out.bel.size))
   have HN5 := hid (row_kept HN3.out hb5)
   have HZ5 := hid (row_kept HZ3.out hb5)
   rw [zeroN_cells] at HRZ5 HW5 HZ5
   clear hq hl5 hb5 hb4
   go_wp2_with (first | (rw [HW5.out]) | (refine wpList_store_row rfl 39 (.tmp 10) (.tmp 56) rfl W4.heap.size (ndC rr).toArray rfl rfl 39 _ HRZ5.out HR1.out HR2.out (ndC_one rr) ?_; rw [HW5.out]))
   refine (demand_no 430 _).mono ?_
   rintro e w' ⟨rfl, rfl⟩
   exact ⟨rfl, HK5.out, rfl, _, _, _, HV5.out⟩
 ·have d0 : decide (f ≤ lo) = true := eQ (by omega)
  have d1 : decide (hi ≤ t) = false := dQ (by omega)
  have d2 : decide (hi ≤ f) = false := dQ (by omega)
  have d3 : decide (t ≤ lo) = true := eQ (by omega)
  clear hc
  rcases Classical.em (cc = 1) with hcc | hcc
  ·subst hcc
   go_enter Tryz.func83, Tryz.ntmps83
   go_wp2_with (first | (rw [HW1.out]) | (rw [HW3a.out (by trivial)]) | (rw [HW3b.out (by assumption)]) | (with_reducible refine wpList_load_mid rfl 39 (.tmp 48) rfl g off rfl (ndC x) _ HRX.out Tryz.underlying39 rfl HSX.out ?_) | (refine wpList_store_row rfl 39 (.tmp 9) (.tmp 49) rfl W1.heap.size (ndC x).toArray rfl rfl 39 _ HRZ.out HS1.out HS2.out (ndC_one x) ?_; rw [HW2.out]) | (refine wpList_load_row rfl 39 (.tmp 9) rfl W1.heap.size rfl 39 _ (0, 0) _ HN3.out Tryz.underlying39 rfl HS1.out ?_) | (refine wpList_build_nodes1 rfl (.tmp 53) rfl x rfl HNK.out ?_) | (refine (demand_yes 430 _).mono ?_; rintro e w' ⟨rfl, rfl⟩))
   refine (root_any [x] _ 1 1 _ (by decide) HINF HTF).mono ?_
   rintro e W4 ⟨rfl, hq⟩
   rw [HRR.out, HRE.out]
   obtain ⟨W5, HW5⟩ : ∃ V, Hid ((W4.alloc (.cells (ndC zeroN).toArray 39)).setRow W4.heap.size (ndC rr).toArray = V) := ⟨_, hid rfl⟩
   have HRZ5 := hid (heap_alloc_new W4 (.cells (ndC zeroN).toArray 39))
   have hl5 := laid_row W4 (ndC zeroN).toArray (ndC rr).toArray 39
   rw [HW5.out] at hl5
   have hb4 := HBA.out.trans (hq.mono HBA.out.size)
   have hb5 := hb4.trans (hl5.1.mono hb4.size)
   have HV5 := hid (HV3.out.below hb5)
   have HK5 := hid (HK3.out.trans (KJ.of_below (br := br) (bc := bc) (bp := bp) hb5 HV3.out.bel.size))
   have HN5 := hid (row_kept HN3.out hb5)
   have HZ5 := hid (row_kept HZ3.out hb5)
   rw [zeroN_cells] at HRZ5 HW5 HZ5
   clear hq hl5 hb5 hb4
   go_wp2_with (first | (rw [HW5.out]) | (refine wpList_store_row rfl 39 (.tmp 10) (.tmp 56) rfl W4.heap.size (ndC rr).toArray rfl rfl 39 _ HRZ5.out HR1.out HR2.out (ndC_one rr) ?_; rw [HW5.out]))
   refine (demand_no 430 _).mono ?_
   rintro e w' ⟨rfl, rfl⟩
   exact ⟨rfl, HK5.out, rfl, _, _, _, HV5.out⟩
  ·go_enter Tryz.func83, Tryz.ntmps83
   go_wp2_with (first | (rw [HW1.out]) | (rw [HW3a.out (by trivial)]) | (rw [HW3b.out (by assumption)]) | (with_reducible refine wpList_load_mid rfl 39 (.tmp 48) rfl g off rfl (ndC x) _ HRX.out Tryz.underlying39 rfl HSX.out ?_) | (refine wpList_store_row rfl 39 (.tmp 9) (.tmp 49) rfl W1.heap.size (ndC x).toArray rfl rfl 39 _ HRZ.out HS1.out HS2.out (ndC_one x) ?_; rw [HW2.out]) | (refine wpList_load_row rfl 39 (.tmp 9) rfl W1.heap.size rfl 39 _ (0, 0) _ HN3.out Tryz.underlying39 rfl HS1.out ?_) | (refine wpList_build_nodes1 rfl (.tmp 53) rfl x rfl HNK.out ?_) | (refine (demand_yes 430 _).mono ?_; rintro e w' ⟨rfl, rfl⟩))
   refine (root_any [x] _ 1 1 _ (by decide) HINF HTF).mono ?_
   rintro e W4 ⟨rfl, hq⟩
   rw [HRR.out, HRE.out]
   obtain ⟨W5, HW5⟩ : ∃ V, Hid ((W4.alloc (.cells (ndC zeroN).toArray 39)).setRow W4.heap.size (ndC rr).toArray = V) := ⟨_, hid rfl⟩
   have HRZ5 := hid (heap_alloc_new W4 (.cells (ndC zeroN).toArray 39))
   have hl5 := laid_row W4 (ndC zeroN).toArray (ndC rr).toArray 39
   rw [HW5.out] at hl5
   have hb4 := HBA.out.trans (hq.mono HBA.out.size)
   have hb5 := hb4.trans (hl5.1.mono hb4.size)
   have HV5 := hid (HV3.out.below hb5)
   have HK5 := hid (HK3.out.trans (KJ.of_below (br := br) (bc := bc) (bp := bp) hb5 HV3.out.bel.size))
   have HN5 := hid (row_kept HN3.out hb5)
   have HZ5 := hid (row_kept HZ3.out hb5)
   rw [zeroN_cells] at HRZ5 HW5 HZ5
   clear hq hl5 hb5 hb4
   go_wp2_with (first | (rw [HW5.out]) | (refine wpList_store_row rfl 39 (.tmp 10) (.tmp 56) rfl W4.heap.size (ndC rr).toArray rfl rfl 39 _ HRZ5.out HR1.out HR2.out (ndC_one rr) ?_; rw [HW5.out]))
   refine (demand_no 430 _).mono ?_
   rintro e w' ⟨rfl, rfl⟩
   exact ⟨rfl, HK5.out, rfl, _, _, _, HV5.out⟩
 ·have d0 : decide (f ≤ lo) = false := dQ (by omega)
  have d2 : decide (hi ≤ f) = true := eQ (by omega)
  clear hc
  rcases Classical.em (cc = 1) with hcc | hcc
  ·subst hcc
   go_enter Tryz.func83, Tryz.ntmps83
   go_wp2_with (first | (rw [HW1.out]) | (rw [HW3a.out (by trivial)]) | (rw [HW3b.out (by assumption)]) | (with_reducible refine wpList_load_mid rfl 39 (.tmp 48) rfl g off rfl (ndC x) _ HRX.out Tryz.underlying39 rfl HSX.out ?_) | (refine wpList_store_row rfl 39 (.tmp 9) (.tmp 49) rfl W1.heap.size (ndC x).toArray rfl rfl 39 _ HRZ.out HS1.out HS2.out (ndC_one x) ?_; rw [HW2.out]) | (refine wpList_load_row rfl 39 (.tmp 9) rfl W1.heap.size rfl 39 _ (0, 0) _ HN3.out Tryz.underlying39 rfl HS1.out ?_) | (refine wpList_build_nodes1 rfl (.tmp 53) rfl x rfl HNK.out ?_) | (refine (demand_yes 430 _).mono ?_; rintro e w' ⟨rfl, rfl⟩))
   refine (root_any [x] _ 1 1 _ (by decide) HINF HTF).mono ?_
   rintro e W4 ⟨rfl, hq⟩
   rw [HRR.out, HRE.out]
   obtain ⟨W5, HW5⟩ : ∃ V, Hid ((W4.alloc (.cells (ndC zeroN).toArray 39)).setRow W4.heap.size (ndC rr).toArray = V) := ⟨_, hid rfl⟩
   have HRZ5 := hid (heap_alloc_new W4 (.cells (ndC zeroN).toArray 39))
   have hl5 := laid_row W4 (ndC zeroN).toArray (ndC rr).toArray 39
   rw [HW5.out] at hl5
   have hb4 := HBA.out.trans (hq.mono HBA.out.size)
   have hb5 := hb4.trans (hl5.1.mono hb4.size)
   have HV5 := hid (HV3.out.below hb5)
   have HK5 := hid (HK3.out.trans (KJ.of_below (br := br) (bc := bc) (bp := bp) hb5 HV3.out.bel.size))
   have HN5 := hid (row_kept HN3.out hb5)
   have HZ5 := hid (row_kept HZ3.out hb5)
   rw [zeroN_cells] at HRZ5 HW5 HZ5
   clear hq hl5 hb5 hb4
   go_wp2_with (first | (rw [HW5.out]) | (refine wpList_store_row rfl 39 (.tmp 10) (.tmp 56) rfl W4.heap.size (ndC rr).toArray rfl rfl 39 _ HRZ5.out HR1.out HR2.out (ndC_one rr) ?_; rw [HW5.out]))
   refine (demand_no 430 _).mono ?_
   rintro e w' ⟨rfl, rfl⟩
   exact ⟨rfl, HK5.out, rfl, _, _, _, HV5.out⟩
  ·go_enter Tryz.func83, Tryz.ntmps83
   go_wp2_with (first | (rw [HW1.out]) | (rw [HW3a.out (by trivial)]) | (rw [HW3b.out (by assumption)]) | (with_reducible refine wpList_load_mid rfl 39 (.tmp 48) rfl g off rfl (ndC x) _ HRX.out Tryz.underlying39 rfl HSX.out ?_) | (refine wpList_store_row rfl 39 (.tmp 9) (.tmp 49) rfl W1.heap.size (ndC x).toArray rfl rfl 39 _ HRZ.out HS1.out HS2.out (ndC_one x) ?_; rw [HW2.out]) | (refine wpList_load_row rfl 39 (.tmp 9) rfl W1.heap.size rfl 39 _ (0, 0) _ HN3.out Tryz.underlying39 rfl HS1.out ?_) | (refine wpList_build_nodes1 rfl (.tmp 53) rfl x rfl HNK.out ?_) | (refine (demand_yes 430 _).mono ?_; rintro e w' ⟨rfl, rfl⟩))
   refine (root_any [x] _ 1 1 _ (by decide) HINF HTF).mono ?_
   rintro e W4 ⟨rfl, hq⟩
   rw [HRR.out, HRE.out]
   obtain ⟨W5, HW5⟩ : ∃ V, Hid ((W4.alloc (.cells (ndC zeroN).toArray 39)).setRow W4.heap.size (ndC rr).toArray = V) := ⟨_, hid rfl⟩
   have HRZ5 := hid (heap_alloc_new W4 (.cells (ndC zeroN).toArray 39))
   have hl5 := laid_row W4 (ndC zeroN).toArray (ndC rr).toArray 39
   rw [HW5.out] at hl5
   have hb4 := HBA.out.trans (hq.mono HBA.out.size)
   have hb5 := hb4.trans (hl5.1.mono hb4.size)
   have HV5 := hid (HV3.out.below hb5)
   have HK5 := hid (HK3.out.trans (KJ.of_below (br := br) (bc := bc) (bp := bp) hb5 HV3.out.bel.size))
   have HN5 := hid (row_kept HN3.out hb5)
   have HZ5 := hid (row_kept HZ3.out hb5)
   rw [zeroN_cells] at HRZ5 HW5 HZ5
   clear hq hl5 hb5 hb4
   go_wp2_with (first | (rw [HW5.out]) | (refine wpList_store_row rfl 39 (.tmp 10) (.tmp 56) rfl W4.heap.size (ndC rr).toArray rfl rfl 39 _ HRZ5.out HR1.out HR2.out (ndC_one rr) ?_; rw [HW5.out]))
   refine (demand_no 430 _).mono ?_
   rintro e w' ⟨rfl, rfl⟩
   exact ⟨rfl, HK5.out, rfl, _, _, _, HV5.out⟩
theorem v2_in (f t lo hi : Nat) (hft : f < t) (hlt : lo < hi) (hhi : hi ≤ 4096) (hc : (insB f t lo hi || outB f t lo hi) = true) (WB : World) (bw br bc bp bj : Nat) (hx : Hid (BX WB bw br bc bp bj)) (w : World) (x : Nd) (xs : List Nd) (c p : Int) (h : Hid (VJ WB bw br bc bp bj f t w (x :: xs) c p)) (hT : Hid (Tabs WB)) (hxl : xs.length ≤ 100000) (hvx : vN x = true) (hi0 : insB f t lo hi = true) (hcb : 0 ≤ c ∧ c ≤ 4398046511104 ∧ 0 ≤ p ∧ p ≤ 52776558133248) :
  Calls Tryz.prog 83 #[.agg #[.int .i64 (lo : Nat), .int .i64 (hi : Nat)], .pointer (some ⟨bw, 0, none⟩), .pointer (some ⟨br, 0, none⟩), .pointer (some ⟨bc, 0, none⟩), .pointer (some ⟨bp, 0, none⟩), .pointer (some ⟨bj, 0, none⟩)] w (VPost WB bw br bc bp bj f t w c p (some (x, xs, x.c, x.p))) := by
 obtain ⟨W1, HW1⟩ : ∃ V, Hid ((w.alloc (.cells #[.int .i64 (lo : Nat), .int .i64 (hi : Nat)] 119)).alloc (.cells (ndC zeroN).toArray 39) = V) := ⟨_, hid rfl⟩
 have hb := ((Below.refl _ w).alloc (Nat.le_refl _) (.cells #[.int .i64 (lo : Nat), .int .i64 (hi : Nat)] 119)).alloc (by simp) (.cells (ndC zeroN).toArray 39)
 have hr := (Below.heap_alloc (w.alloc (.cells #[.int .i64 (lo : Nat), .int .i64 (hi : Nat)] 119)) (.cells (ndC zeroN).toArray 39) w.heap.size (by simp)).trans (heap_alloc_new w (.cells #[.int .i64 (lo : Nat), .int .i64 (hi : Nat)] 119))
 have hz := heap_alloc_new (w.alloc (.cells #[.int .i64 (lo : Nat), .int .i64 (hi : Nat)] 119)) (.cells (ndC zeroN).toArray 39)
 rw [World.size_alloc] at hz
 have hs1 : W1.heap.size = w.heap.size + 2 := by rw [← HW1.out]; simp
 rw [HW1.out] at hb hr hz
 have hv := h.out.below hb
 have hk := KJ.of_below (br := br) (bc := bc) (bp := bp) hb h.out.bel.size
 obtain ⟨A, n, cc, hre, hin⟩ := hv.rest
 have hn : n = xs.length + 1 := by have := hin.len; simpa using this.symm
 subst hn
 obtain ⟨g, off, rfl, hg, hrd⟩ := hin.rd (by simp)
 have hcap := hin.cap
 have hok := hin.ok x (by simp)
 have HNK := hid hok
 have HSX : Hid ((Tryz.prog.info? 39).map (·.size) = some (ndC x).length) := hid (by have := size34 hok; simpa using this)
 have HS1 : Hid ((Tryz.prog.info? 39).map (·.size) = some (ndC x).toArray.size) := hid (by rw [size34 hok]; simp)
 have HS2 : Hid (34 = (ndC x).toArray.size) := hid (by simp [ndC_length hok])
 have HRX : Hid (W1.rangeAt g off (ndC x)) := hid (fun j v hj => (hv.bel.cell (p := ⟨g, off + j, none⟩) hg).trans (hrd j v (by
  have e : flatN (x :: xs) = ndC x ++ flatN xs := rfl
  rw [e, List.getElem?_append_left (List.getElem?_eq_some_iff.1 hj).1]; exact hj)))
 have hdr : ∃ A', (if cc = 1 then some ⟨g, off, none⟩ else some ⟨g, off + 1 * 34, none⟩) = A' ∧ InN WB A' xs.length (cc - 1) xs := ⟨_, rfl, by
  by_cases h1 : cc = 1
  ·rw [if_pos h1]
   have hx0 : xs = [] := by cases xs with | nil => rfl | cons _ _ => simp at hcap; omega
   subst hx0
   exact ⟨rfl, Nat.zero_le _, (fun e => by cases e), (fun y hy => by cases hy), (fun hh => by simp at hh)⟩
  ·rw [if_neg h1]
   exact hin.drop 1 (by simp)⟩
 obtain ⟨A', HA, hin'⟩ := hdr
 have HA' := hid HA
 have HIN' := hid hin'
 -- the node, laid
 obtain ⟨W2, HW2⟩ : ∃ V, Hid ((W1.alloc (.cells (ndC zeroN).toArray 39)).setRow W1.heap.size (ndC x).toArray = V) := ⟨_, hid rfl⟩
 have HRZ := hid (heap_alloc_new W1 (.cells (ndC zeroN).toArray 39))
 have hl2 := laid_row W1 (ndC zeroN).toArray (ndC x).toArray 39
 rw [HW2.out] at hl2
 have hv2 := hv.below hl2.1
 have hk2 := hk.trans (KJ.of_below (br := br) (bc := bc) (bp := bp) hl2.1 hv.bel.size)
 have hz2 := row_kept hz hl2.1
 obtain ⟨A2, n2, c2, hre2, hin2⟩ := hv2.rest
 have hre20 := row_kept hre hl2.1
 have cw0 := cell_of_row _ _ 0 _ _ _ hv.want
 have cw1 := cell_of_row _ _ 1 _ _ _ hv.want
 have ca0 := cell_of_row _ _ 0 _ _ _ hr
 have ca1 := cell_of_row _ _ 1 _ _ _ hr
 have cr0 := cell_of_row _ _ 0 _ _ _ hre
 have cr2 := cell_of_row _ _ 0 _ _ _ hre20
 have fr2 := frozen_of_row _ _ 0 _ _ hre20
 -- the rest, cut
 obtain ⟨W3, HW3⟩ : ∃ V, Hid (W2.setCell ⟨br, 0, none⟩ (.slice A' xs.length (cc - 1)) = V) := ⟨_, hid rfl⟩
 obtain ⟨hv3, hk3⟩ := hv2.setRest hx.out hin'
 obtain ⟨_, ho3, hs3⟩ := set_one (v := .slice A' xs.length (cc - 1)) hre20
 rw [HW3.out] at hv3 hk3 ho3 hs3
 have HW3a : Hid (cc = 1 → W2.setCell ⟨br, 0, none⟩ (.slice (some ⟨g, off, none⟩) xs.length 0) = W3) := hid (fun e => by rw [← HW3.out, ← HA, if_pos e, e])
 have HW3b : Hid (¬ cc = 1 → W2.setCell ⟨br, 0, none⟩ (.slice (some ⟨g, off + 34, none⟩) xs.length (cc - 1)) = W3) := hid (fun e => by rw [← HW3.out, ← HA, if_neg e, Nat.one_mul])
 have hk3 := hk2.trans hk3
 have hs2 := hl2.2.1
 have hne : W1.heap.size ≠ br := by have h9 := (Array.getElem?_eq_some_iff.1 hre).1; omega
 have hn3 := (ho3 _ hne).trans hl2.2.2
 have hz3 := (ho3 (w.heap.size + 1) (by have h9 := (Array.getElem?_eq_some_iff.1 (h.out.rest.choose_spec.choose_spec.choose_spec.1)).1; omega)).trans hz2
 have hT3 := hT.out.below hv3.bel
 have HK3 := hid hk3
 have HV3 := hid hv3
 have HN3 := hid hn3
 have HZ3 := hid hz3
 have HT3 := hid hT3
 have HS3 : Hid (W3.heap.size = w.heap.size + 3) := hid (by omega)
 have HSW1 := hid hs1
 have HNE := hid hne
 have h1c : 1 ≤ cc := by omega
 have HCAP := hid hcap
 have hba := (Below.refl _ W3).alloc (Nat.le_refl _) (.cells (flatN [x]).toArray 39)
 have HBA := hid hba
 have HTF := hid (hT.out.below (hv3.below hba).bel)
 have hrow := heap_alloc_new W3 (.cells (flatN [x]).toArray 39)
 have HINF : Hid (InN (W3.alloc (.cells (flatN [x]).toArray 39)) (some ⟨W3.heap.size, 0, none⟩) 1 1 [x]) := hid ⟨rfl, Nat.le_refl _, (fun e => by cases e), (fun y hy => by simp at hy; subst hy; exact hok), fun _ => ⟨W3.heap.size, 0, rfl, by simp, fun j v hj => range_row hrow j v hj⟩⟩
 have HRK : Hid (NdOk (rootR [x])) := hid (rootR_ok (fun y hy => by simp at hy; subst hy; exact hok))
 obtain ⟨rr, HRR⟩ : ∃ r, Hid (rootR [x] = r) := ⟨_, hid rfl⟩
 rw [HRR.out] at HRK
 have HRE : Hid (rootE [x] = 0) := hid (by unfold rootE; rw [if_pos ⟨by simp, by rw [vL_one43]; exact hvx⟩])
 have HR1 : Hid ((Tryz.prog.info? 39).map (·.size) = some (ndC rr).toArray.size) := hid (by rw [size34 HRK.out]; simp)
 have HR2 : Hid (34 = (ndC rr).toArray.size) := hid (by simp [ndC_length HRK.out])
 rw [zeroN_cells] at HW1 HRZ HW2
 clear hba hrow
 clear hb hr hz hv hk hre hin hrd hok HA hin' hl2 hv2 hk2 hz2 hre2 hin2 hre20 hv3 hk3 hn3 hz3 hT3 ho3 hs3 hs2 hs1 hne hcap
 have hcx : (f ≤ lo ∧ hi ≤ t) ∨ (f ≤ lo ∧ ¬ hi ≤ t ∧ ¬ hi ≤ f ∧ t ≤ lo) ∨ (¬ f ≤ lo ∧ hi ≤ f) := by
  unfold insB outB at hc
  simp only [Bool.or_eq_true, Bool.and_eq_true, decide_eq_true_eq] at hc
  omega
 have h7 := h
 rcases hcx with ⟨q0, q1⟩ | ⟨q0, q1, q2, q3⟩ | ⟨q0, q1⟩
 ·have d0 : decide (f ≤ lo) = true := eQ (by omega)
  have d1 : decide (hi ≤ t) = true := eQ (by omega)
  clear hc
  rcases Classical.em (cc = 1) with hcc | hcc
  ·subst hcc
   go_enter Tryz.func83, Tryz.ntmps83
   go_wp2_with (first | (rw [HW1.out]) | (rw [HW3a.out (by trivial)]) | (rw [HW3b.out (by assumption)]) | (with_reducible refine wpList_load_mid rfl 39 (.tmp 48) rfl g off rfl (ndC x) _ HRX.out Tryz.underlying39 rfl HSX.out ?_) | (refine wpList_store_row rfl 39 (.tmp 9) (.tmp 49) rfl W1.heap.size (ndC x).toArray rfl rfl 39 _ HRZ.out HS1.out HS2.out (ndC_one x) ?_; rw [HW2.out]) | (refine wpList_load_row rfl 39 (.tmp 9) rfl W1.heap.size rfl 39 _ (0, 0) _ HN3.out Tryz.underlying39 rfl HS1.out ?_) | (refine wpList_build_nodes1 rfl (.tmp 53) rfl x rfl HNK.out ?_) | (refine (demand_yes 430 _).mono ?_; rintro e w' ⟨rfl, rfl⟩))
   refine (root_any [x] _ 1 1 _ (by decide) HINF HTF).mono ?_
   rintro e W4 ⟨rfl, hq⟩
   rw [HRR.out, HRE.out]
   obtain ⟨W5, HW5⟩ : ∃ V, Hid ((W4.alloc (.cells (ndC zeroN).toArray 39)).setRow W4.heap.size (ndC rr).toArray = V) := ⟨_, hid rfl⟩
   have HRZ5 := hid (heap_alloc_new W4 (.cells (ndC zeroN).toArray 39))
   have hl5 := laid_row W4 (ndC zeroN).toArray (ndC rr).toArray 39
   rw [HW5.out] at hl5
   have hb4 := HBA.out.trans (hq.mono HBA.out.size)
   have hb5 := hb4.trans (hl5.1.mono hb4.size)
   have HV5 := hid (HV3.out.below hb5)
   have HK5 := hid (HK3.out.trans (KJ.of_below (br := br) (bc := bc) (bp := bp) hb5 HV3.out.bel.size))
   have HN5 := hid (row_kept HN3.out hb5)
   have HZ5 := hid (row_kept HZ3.out hb5)
   rw [zeroN_cells] at HRZ5 HW5 HZ5
   clear hq hl5 hb5 hb4
   have hlt := h7.out.lt
   have hsw := HSW1.out
   have hvb := vN_bd hvx
   obtain ⟨hv6, hk6⟩ := HV5.out.setCr hx.out (c + x.c)
   obtain ⟨W6, HW6⟩ : ∃ V, Hid (W5.setCell ⟨bc, 0, none⟩ (.int .i64 (c + x.c)) = V) := ⟨_, hid rfl⟩
   rw [HW6.out] at hv6 hk6
   obtain ⟨hv7, hk7⟩ := hv6.setPt hx.out (p + x.p)
   obtain ⟨W7, HW7⟩ : ∃ V, Hid (W6.setCell ⟨bp, 0, none⟩ (.int .i64 (p + x.p)) = V) := ⟨_, hid rfl⟩
   rw [HW7.out] at hv7 hk7
   have c5 := cell_of_row _ _ 0 _ _ _ HV5.out.cr
   have f5 := frozen_of_row _ _ 0 _ _ HV5.out.cr
   have p6 := cell_of_row _ _ 0 _ _ _ hv6.pt
   have f6 := frozen_of_row _ _ 0 _ _ hv6.pt
   have hn6 := hk6.row HN5.out (by omega) (by omega) (by omega)
   have HN7 := hid (hk7.row hn6 (by omega) (by omega) (by omega))
   have HZ7 := hid ((hk6.trans hk7).row HZ5.out (by omega) (by omega) (by omega))
   have x5 : W5.cell? ⟨W1.heap.size, 32, none⟩ = some (.int .i64 x.c) := by rw [cell_of_row _ _ 32 _ _ _ HN5.out]; simpa using ndC_c HNK.out
   have x6 : W6.cell? ⟨W1.heap.size, 33, none⟩ = some (.int .i64 x.p) := by rw [cell_of_row _ _ 33 _ _ _ hn6]; simpa using ndC_p HNK.out
   have e1 : wrap64 (c + x.c) = c + x.c := by unfold wrap64; omega
   have e2 : wrap64 (p + x.p) = p + x.p := by unfold wrap64; omega
   have HV7 := hid hv7
   have HK7 := hid (HK5.out.trans (hk6.trans hk7))
   obtain ⟨c1, HC1⟩ : ∃ z, Hid (c + x.c = z) := ⟨_, hid rfl⟩
   obtain ⟨p1, HP1⟩ : ∃ z, Hid (p + x.p = z) := ⟨_, hid rfl⟩
   have hz8 := HZ7.out
   obtain ⟨W8, HW8⟩ : ∃ V, Hid (W7.setRow (w.heap.size + 1) (ndC x).toArray = V) := ⟨_, hid rfl⟩
   have hr8 := setRow_heap W7 (w.heap.size + 1) _ (ndC x).toArray _ _ hz8
   rw [HW8.out] at hr8
   have HR8 := hid hr8
   have HV8 : Hid (VJ WB bw br bc bp bj f t W8 xs (c + x.c) (p + x.p)) := hid (by rw [← HW8.out]; exact HV7.out.setRow (by have := h7.out.bel.size; omega) (by omega) (by omega) (by omega) (by omega) (by omega))
   have HK8 : Hid (KJ WB br bc bp w W8) := hid (by rw [← HW8.out]; exact HK7.out.setRow (by have := h7.out.bel.size; omega) (by omega))
   clear hr8 hz8 hsw hlt hvb hv6 hk6 hv7 hk7 hn6 HC1 HP1
   go_wp2_with (first | (rw [HW5.out]) | (refine wpList_store_row rfl 39 (.tmp 10) (.tmp 56) rfl W4.heap.size (ndC rr).toArray rfl rfl 39 _ HRZ5.out HR1.out HR2.out (ndC_one rr) ?_; rw [HW5.out]) | (refine (demand_yes 430 _).mono ?_; rintro e w' ⟨rfl, rfl⟩) | (rw [HW6.out]) | (rw [HW7.out]) | (rw [e1]) | (rw [e2]) | (refine wpList_load_row rfl 39 (.tmp 9) rfl W1.heap.size rfl 39 _ (0, 0) _ HN7.out Tryz.underlying39 rfl HS1.out ?_) | (refine wpList_store_row rfl 39 (.tmp 7) (.tmp 70) rfl (w.heap.size + 1) (ndC x).toArray rfl rfl 39 _ HZ7.out HS1.out HS2.out (ndC_one x) ?_; rw [HW8.out]))
   have hl := run_loadVar_row (P := Tryz.prog) W8 (w.heap.size + 1) 39 39 (ndC x).toArray (0, 0) _ HR8.out Tryz.underlying39 rfl HS1.out
   exact ⟨rfl, ndV x, v2_results rfl hl, HK8.out, rfl, HV8.out⟩
  ·go_enter Tryz.func83, Tryz.ntmps83
   go_wp2_with (first | (rw [HW1.out]) | (rw [HW3a.out (by trivial)]) | (rw [HW3b.out (by assumption)]) | (with_reducible refine wpList_load_mid rfl 39 (.tmp 48) rfl g off rfl (ndC x) _ HRX.out Tryz.underlying39 rfl HSX.out ?_) | (refine wpList_store_row rfl 39 (.tmp 9) (.tmp 49) rfl W1.heap.size (ndC x).toArray rfl rfl 39 _ HRZ.out HS1.out HS2.out (ndC_one x) ?_; rw [HW2.out]) | (refine wpList_load_row rfl 39 (.tmp 9) rfl W1.heap.size rfl 39 _ (0, 0) _ HN3.out Tryz.underlying39 rfl HS1.out ?_) | (refine wpList_build_nodes1 rfl (.tmp 53) rfl x rfl HNK.out ?_) | (refine (demand_yes 430 _).mono ?_; rintro e w' ⟨rfl, rfl⟩))
   refine (root_any [x] _ 1 1 _ (by decide) HINF HTF).mono ?_
   rintro e W4 ⟨rfl, hq⟩
   rw [HRR.out, HRE.out]
   obtain ⟨W5, HW5⟩ : ∃ V, Hid ((W4.alloc (.cells (ndC zeroN).toArray 39)).setRow W4.heap.size (ndC rr).toArray = V) := ⟨_, hid rfl⟩
   have HRZ5 := hid (heap_alloc_new W4 (.cells (ndC zeroN).toArray 39))
   have hl5 := laid_row W4 (ndC zeroN).toArray (ndC rr).toArray 39
   rw [HW5.out] at hl5
   have hb4 := HBA.out.trans (hq.mono HBA.out.size)
   have hb5 := hb4.trans (hl5.1.mono hb4.size)
   have HV5 := hid (HV3.out.below hb5)
   have HK5 := hid (HK3.out.trans (KJ.of_below (br := br) (bc := bc) (bp := bp) hb5 HV3.out.bel.size))
   have HN5 := hid (row_kept HN3.out hb5)
   have HZ5 := hid (row_kept HZ3.out hb5)
   rw [zeroN_cells] at HRZ5 HW5 HZ5
   clear hq hl5 hb5 hb4
   have hlt := h7.out.lt
   have hsw := HSW1.out
   have hvb := vN_bd hvx
   obtain ⟨hv6, hk6⟩ := HV5.out.setCr hx.out (c + x.c)
   obtain ⟨W6, HW6⟩ : ∃ V, Hid (W5.setCell ⟨bc, 0, none⟩ (.int .i64 (c + x.c)) = V) := ⟨_, hid rfl⟩
   rw [HW6.out] at hv6 hk6
   obtain ⟨hv7, hk7⟩ := hv6.setPt hx.out (p + x.p)
   obtain ⟨W7, HW7⟩ : ∃ V, Hid (W6.setCell ⟨bp, 0, none⟩ (.int .i64 (p + x.p)) = V) := ⟨_, hid rfl⟩
   rw [HW7.out] at hv7 hk7
   have c5 := cell_of_row _ _ 0 _ _ _ HV5.out.cr
   have f5 := frozen_of_row _ _ 0 _ _ HV5.out.cr
   have p6 := cell_of_row _ _ 0 _ _ _ hv6.pt
   have f6 := frozen_of_row _ _ 0 _ _ hv6.pt
   have hn6 := hk6.row HN5.out (by omega) (by omega) (by omega)
   have HN7 := hid (hk7.row hn6 (by omega) (by omega) (by omega))
   have HZ7 := hid ((hk6.trans hk7).row HZ5.out (by omega) (by omega) (by omega))
   have x5 : W5.cell? ⟨W1.heap.size, 32, none⟩ = some (.int .i64 x.c) := by rw [cell_of_row _ _ 32 _ _ _ HN5.out]; simpa using ndC_c HNK.out
   have x6 : W6.cell? ⟨W1.heap.size, 33, none⟩ = some (.int .i64 x.p) := by rw [cell_of_row _ _ 33 _ _ _ hn6]; simpa using ndC_p HNK.out
   have e1 : wrap64 (c + x.c) = c + x.c := by unfold wrap64; omega
   have e2 : wrap64 (p + x.p) = p + x.p := by unfold wrap64; omega
   have HV7 := hid hv7
   have HK7 := hid (HK5.out.trans (hk6.trans hk7))
   obtain ⟨c1, HC1⟩ : ∃ z, Hid (c + x.c = z) := ⟨_, hid rfl⟩
   obtain ⟨p1, HP1⟩ : ∃ z, Hid (p + x.p = z) := ⟨_, hid rfl⟩
   have hz8 := HZ7.out
   obtain ⟨W8, HW8⟩ : ∃ V, Hid (W7.setRow (w.heap.size + 1) (ndC x).toArray = V) := ⟨_, hid rfl⟩
   have hr8 := setRow_heap W7 (w.heap.size + 1) _ (ndC x).toArray _ _ hz8
   rw [HW8.out] at hr8
   have HR8 := hid hr8
   have HV8 : Hid (VJ WB bw br bc bp bj f t W8 xs (c + x.c) (p + x.p)) := hid (by rw [← HW8.out]; exact HV7.out.setRow (by have := h7.out.bel.size; omega) (by omega) (by omega) (by omega) (by omega) (by omega))
   have HK8 : Hid (KJ WB br bc bp w W8) := hid (by rw [← HW8.out]; exact HK7.out.setRow (by have := h7.out.bel.size; omega) (by omega))
   clear hr8 hz8 hsw hlt hvb hv6 hk6 hv7 hk7 hn6 HC1 HP1
   go_wp2_with (first | (rw [HW5.out]) | (refine wpList_store_row rfl 39 (.tmp 10) (.tmp 56) rfl W4.heap.size (ndC rr).toArray rfl rfl 39 _ HRZ5.out HR1.out HR2.out (ndC_one rr) ?_; rw [HW5.out]) | (refine (demand_yes 430 _).mono ?_; rintro e w' ⟨rfl, rfl⟩) | (rw [HW6.out]) | (rw [HW7.out]) | (rw [e1]) | (rw [e2]) | (refine wpList_load_row rfl 39 (.tmp 9) rfl W1.heap.size rfl 39 _ (0, 0) _ HN7.out Tryz.underlying39 rfl HS1.out ?_) | (refine wpList_store_row rfl 39 (.tmp 7) (.tmp 70) rfl (w.heap.size + 1) (ndC x).toArray rfl rfl 39 _ HZ7.out HS1.out HS2.out (ndC_one x) ?_; rw [HW8.out]))
   have hl := run_loadVar_row (P := Tryz.prog) W8 (w.heap.size + 1) 39 39 (ndC x).toArray (0, 0) _ HR8.out Tryz.underlying39 rfl HS1.out
   exact ⟨rfl, ndV x, v2_results rfl hl, HK8.out, rfl, HV8.out⟩
 ·exfalso
  unfold insB at hi0
  simp at hi0
  omega
 ·exfalso
  unfold insB at hi0
  simp at hi0
  omega
theorem v2_out (f t lo hi : Nat) (hft : f < t) (hlt : lo < hi) (hhi : hi ≤ 4096) (hc : (insB f t lo hi || outB f t lo hi) = true) (WB : World) (bw br bc bp bj : Nat) (hx : Hid (BX WB bw br bc bp bj)) (w : World) (x : Nd) (xs : List Nd) (c p : Int) (h : Hid (VJ WB bw br bc bp bj f t w (x :: xs) c p)) (hT : Hid (Tabs WB)) (hxl : xs.length ≤ 100000) (hvx : vN x = true) (hi0 : insB f t lo hi = false) :
  Calls Tryz.prog 83 #[.agg #[.int .i64 (lo : Nat), .int .i64 (hi : Nat)], .pointer (some ⟨bw, 0, none⟩), .pointer (some ⟨br, 0, none⟩), .pointer (some ⟨bc, 0, none⟩), .pointer (some ⟨bp, 0, none⟩), .pointer (some ⟨bj, 0, none⟩)] w (VPost WB bw br bc bp bj f t w c p (some (x, xs, 0, 0))) := by
 obtain ⟨W1, HW1⟩ : ∃ V, Hid ((w.alloc (.cells #[.int .i64 (lo : Nat), .int .i64 (hi : Nat)] 119)).alloc (.cells (ndC zeroN).toArray 39) = V) := ⟨_, hid rfl⟩
 have hb := ((Below.refl _ w).alloc (Nat.le_refl _) (.cells #[.int .i64 (lo : Nat), .int .i64 (hi : Nat)] 119)).alloc (by simp) (.cells (ndC zeroN).toArray 39)
 have hr := (Below.heap_alloc (w.alloc (.cells #[.int .i64 (lo : Nat), .int .i64 (hi : Nat)] 119)) (.cells (ndC zeroN).toArray 39) w.heap.size (by simp)).trans (heap_alloc_new w (.cells #[.int .i64 (lo : Nat), .int .i64 (hi : Nat)] 119))
 have hz := heap_alloc_new (w.alloc (.cells #[.int .i64 (lo : Nat), .int .i64 (hi : Nat)] 119)) (.cells (ndC zeroN).toArray 39)
 rw [World.size_alloc] at hz
 have hs1 : W1.heap.size = w.heap.size + 2 := by rw [← HW1.out]; simp
 rw [HW1.out] at hb hr hz
 have hv := h.out.below hb
 have hk := KJ.of_below (br := br) (bc := bc) (bp := bp) hb h.out.bel.size
 obtain ⟨A, n, cc, hre, hin⟩ := hv.rest
 have hn : n = xs.length + 1 := by have := hin.len; simpa using this.symm
 subst hn
 obtain ⟨g, off, rfl, hg, hrd⟩ := hin.rd (by simp)
 have hcap := hin.cap
 have hok := hin.ok x (by simp)
 have HNK := hid hok
 have HSX : Hid ((Tryz.prog.info? 39).map (·.size) = some (ndC x).length) := hid (by have := size34 hok; simpa using this)
 have HS1 : Hid ((Tryz.prog.info? 39).map (·.size) = some (ndC x).toArray.size) := hid (by rw [size34 hok]; simp)
 have HS2 : Hid (34 = (ndC x).toArray.size) := hid (by simp [ndC_length hok])
 have HRX : Hid (W1.rangeAt g off (ndC x)) := hid (fun j v hj => (hv.bel.cell (p := ⟨g, off + j, none⟩) hg).trans (hrd j v (by
  have e : flatN (x :: xs) = ndC x ++ flatN xs := rfl
  rw [e, List.getElem?_append_left (List.getElem?_eq_some_iff.1 hj).1]; exact hj)))
 have hdr : ∃ A', (if cc = 1 then some ⟨g, off, none⟩ else some ⟨g, off + 1 * 34, none⟩) = A' ∧ InN WB A' xs.length (cc - 1) xs := ⟨_, rfl, by
  by_cases h1 : cc = 1
  ·rw [if_pos h1]
   have hx0 : xs = [] := by cases xs with | nil => rfl | cons _ _ => simp at hcap; omega
   subst hx0
   exact ⟨rfl, Nat.zero_le _, (fun e => by cases e), (fun y hy => by cases hy), (fun hh => by simp at hh)⟩
  ·rw [if_neg h1]
   exact hin.drop 1 (by simp)⟩
 obtain ⟨A', HA, hin'⟩ := hdr
 have HA' := hid HA
 have HIN' := hid hin'
 -- the node, laid
 obtain ⟨W2, HW2⟩ : ∃ V, Hid ((W1.alloc (.cells (ndC zeroN).toArray 39)).setRow W1.heap.size (ndC x).toArray = V) := ⟨_, hid rfl⟩
 have HRZ := hid (heap_alloc_new W1 (.cells (ndC zeroN).toArray 39))
 have hl2 := laid_row W1 (ndC zeroN).toArray (ndC x).toArray 39
 rw [HW2.out] at hl2
 have hv2 := hv.below hl2.1
 have hk2 := hk.trans (KJ.of_below (br := br) (bc := bc) (bp := bp) hl2.1 hv.bel.size)
 have hz2 := row_kept hz hl2.1
 obtain ⟨A2, n2, c2, hre2, hin2⟩ := hv2.rest
 have hre20 := row_kept hre hl2.1
 have cw0 := cell_of_row _ _ 0 _ _ _ hv.want
 have cw1 := cell_of_row _ _ 1 _ _ _ hv.want
 have ca0 := cell_of_row _ _ 0 _ _ _ hr
 have ca1 := cell_of_row _ _ 1 _ _ _ hr
 have cr0 := cell_of_row _ _ 0 _ _ _ hre
 have cr2 := cell_of_row _ _ 0 _ _ _ hre20
 have fr2 := frozen_of_row _ _ 0 _ _ hre20
 -- the rest, cut
 obtain ⟨W3, HW3⟩ : ∃ V, Hid (W2.setCell ⟨br, 0, none⟩ (.slice A' xs.length (cc - 1)) = V) := ⟨_, hid rfl⟩
 obtain ⟨hv3, hk3⟩ := hv2.setRest hx.out hin'
 obtain ⟨_, ho3, hs3⟩ := set_one (v := .slice A' xs.length (cc - 1)) hre20
 rw [HW3.out] at hv3 hk3 ho3 hs3
 have HW3a : Hid (cc = 1 → W2.setCell ⟨br, 0, none⟩ (.slice (some ⟨g, off, none⟩) xs.length 0) = W3) := hid (fun e => by rw [← HW3.out, ← HA, if_pos e, e])
 have HW3b : Hid (¬ cc = 1 → W2.setCell ⟨br, 0, none⟩ (.slice (some ⟨g, off + 34, none⟩) xs.length (cc - 1)) = W3) := hid (fun e => by rw [← HW3.out, ← HA, if_neg e, Nat.one_mul])
 have hk3 := hk2.trans hk3
 have hs2 := hl2.2.1
 have hne : W1.heap.size ≠ br := by have h9 := (Array.getElem?_eq_some_iff.1 hre).1; omega
 have hn3 := (ho3 _ hne).trans hl2.2.2
 have hz3 := (ho3 (w.heap.size + 1) (by have h9 := (Array.getElem?_eq_some_iff.1 (h.out.rest.choose_spec.choose_spec.choose_spec.1)).1; omega)).trans hz2
 have hT3 := hT.out.below hv3.bel
 have HK3 := hid hk3
 have HV3 := hid hv3
 have HN3 := hid hn3
 have HZ3 := hid hz3
 have HT3 := hid hT3
 have HS3 : Hid (W3.heap.size = w.heap.size + 3) := hid (by omega)
 have HSW1 := hid hs1
 have HNE := hid hne
 have h1c : 1 ≤ cc := by omega
 have HCAP := hid hcap
 have hba := (Below.refl _ W3).alloc (Nat.le_refl _) (.cells (flatN [x]).toArray 39)
 have HBA := hid hba
 have HTF := hid (hT.out.below (hv3.below hba).bel)
 have hrow := heap_alloc_new W3 (.cells (flatN [x]).toArray 39)
 have HINF : Hid (InN (W3.alloc (.cells (flatN [x]).toArray 39)) (some ⟨W3.heap.size, 0, none⟩) 1 1 [x]) := hid ⟨rfl, Nat.le_refl _, (fun e => by cases e), (fun y hy => by simp at hy; subst hy; exact hok), fun _ => ⟨W3.heap.size, 0, rfl, by simp, fun j v hj => range_row hrow j v hj⟩⟩
 have HRK : Hid (NdOk (rootR [x])) := hid (rootR_ok (fun y hy => by simp at hy; subst hy; exact hok))
 obtain ⟨rr, HRR⟩ : ∃ r, Hid (rootR [x] = r) := ⟨_, hid rfl⟩
 rw [HRR.out] at HRK
 have HRE : Hid (rootE [x] = 0) := hid (by unfold rootE; rw [if_pos ⟨by simp, by rw [vL_one43]; exact hvx⟩])
 have HR1 : Hid ((Tryz.prog.info? 39).map (·.size) = some (ndC rr).toArray.size) := hid (by rw [size34 HRK.out]; simp)
 have HR2 : Hid (34 = (ndC rr).toArray.size) := hid (by simp [ndC_length HRK.out])
 rw [zeroN_cells] at HW1 HRZ HW2
 clear hba hrow
 clear hb hr hz hv hk hre hin hrd hok HA hin' hl2 hv2 hk2 hz2 hre2 hin2 hre20 hv3 hk3 hn3 hz3 hT3 ho3 hs3 hs2 hs1 hne hcap
 have hcx : (f ≤ lo ∧ hi ≤ t) ∨ (f ≤ lo ∧ ¬ hi ≤ t ∧ ¬ hi ≤ f ∧ t ≤ lo) ∨ (¬ f ≤ lo ∧ hi ≤ f) := by
  unfold insB outB at hc
  simp only [Bool.or_eq_true, Bool.and_eq_true, decide_eq_true_eq] at hc
  omega
 have h7 := h
 rcases hcx with ⟨q0, q1⟩ | ⟨q0, q1, q2, q3⟩ | ⟨q0, q1⟩
 ·exfalso
  unfold insB at hi0
  simp [q0, q1] at hi0
 ·have d0 : decide (f ≤ lo) = true := eQ (by omega)
  have d1 : decide (hi ≤ t) = false := dQ (by omega)
  have d2 : decide (hi ≤ f) = false := dQ (by omega)
  have d3 : decide (t ≤ lo) = true := eQ (by omega)
  clear hc
  rcases Classical.em (cc = 1) with hcc | hcc
  ·subst hcc
   go_enter Tryz.func83, Tryz.ntmps83
   go_wp2_with (first | (rw [HW1.out]) | (rw [HW3a.out (by trivial)]) | (rw [HW3b.out (by assumption)]) | (with_reducible refine wpList_load_mid rfl 39 (.tmp 48) rfl g off rfl (ndC x) _ HRX.out Tryz.underlying39 rfl HSX.out ?_) | (refine wpList_store_row rfl 39 (.tmp 9) (.tmp 49) rfl W1.heap.size (ndC x).toArray rfl rfl 39 _ HRZ.out HS1.out HS2.out (ndC_one x) ?_; rw [HW2.out]) | (refine wpList_load_row rfl 39 (.tmp 9) rfl W1.heap.size rfl 39 _ (0, 0) _ HN3.out Tryz.underlying39 rfl HS1.out ?_) | (refine wpList_build_nodes1 rfl (.tmp 53) rfl x rfl HNK.out ?_) | (refine (demand_yes 430 _).mono ?_; rintro e w' ⟨rfl, rfl⟩))
   refine (root_any [x] _ 1 1 _ (by decide) HINF HTF).mono ?_
   rintro e W4 ⟨rfl, hq⟩
   rw [HRR.out, HRE.out]
   obtain ⟨W5, HW5⟩ : ∃ V, Hid ((W4.alloc (.cells (ndC zeroN).toArray 39)).setRow W4.heap.size (ndC rr).toArray = V) := ⟨_, hid rfl⟩
   have HRZ5 := hid (heap_alloc_new W4 (.cells (ndC zeroN).toArray 39))
   have hl5 := laid_row W4 (ndC zeroN).toArray (ndC rr).toArray 39
   rw [HW5.out] at hl5
   have hb4 := HBA.out.trans (hq.mono HBA.out.size)
   have hb5 := hb4.trans (hl5.1.mono hb4.size)
   have HV5 := hid (HV3.out.below hb5)
   have HK5 := hid (HK3.out.trans (KJ.of_below (br := br) (bc := bc) (bp := bp) hb5 HV3.out.bel.size))
   have HN5 := hid (row_kept HN3.out hb5)
   have HZ5 := hid (row_kept HZ3.out hb5)
   rw [zeroN_cells] at HRZ5 HW5 HZ5
   clear hq hl5 hb5 hb4
   have hlt := h7.out.lt
   have hsw := HSW1.out
   have HN7 := HN5
   have HZ7 := HZ5
   have HV7 := HV5
   have HK7 := HK5
   obtain ⟨W7, HW7⟩ : ∃ V, W5 = V := ⟨_, rfl⟩
   rw [HW7] at HN7 HZ7 HV7 HK7 HW5 HN5 HZ5 HV5 HK5
   have hz8 := HZ7.out
   obtain ⟨W8, HW8⟩ : ∃ V, Hid (W7.setRow (w.heap.size + 1) (ndC x).toArray = V) := ⟨_, hid rfl⟩
   have hr8 := setRow_heap W7 (w.heap.size + 1) _ (ndC x).toArray _ _ hz8
   rw [HW8.out] at hr8
   have HR8 := hid hr8
   have HV8 : Hid (VJ WB bw br bc bp bj f t W8 xs (c + 0) (p + 0)) := hid (by rw [← HW8.out, Int.add_zero, Int.add_zero]; exact HV7.out.setRow (by have := h7.out.bel.size; omega) (by omega) (by omega) (by omega) (by omega) (by omega))
   have HK8 : Hid (KJ WB br bc bp w W8) := hid (by rw [← HW8.out]; exact HK7.out.setRow (by have := h7.out.bel.size; omega) (by omega))
   clear hr8 hz8 hsw hlt 
   go_wp2_with (first | (rw [HW5.out]) | (refine wpList_store_row rfl 39 (.tmp 10) (.tmp 56) rfl W4.heap.size (ndC rr).toArray rfl rfl 39 _ HRZ5.out HR1.out HR2.out (ndC_one rr) ?_; rw [HW5.out]) | (refine (demand_yes 430 _).mono ?_; rintro e w' ⟨rfl, rfl⟩) | (refine wpList_load_row rfl 39 (.tmp 9) rfl W1.heap.size rfl 39 _ (0, 0) _ HN7.out Tryz.underlying39 rfl HS1.out ?_) | (refine wpList_store_row rfl 39 (.tmp 7) (.tmp 70) rfl (w.heap.size + 1) (ndC x).toArray rfl rfl 39 _ HZ7.out HS1.out HS2.out (ndC_one x) ?_; rw [HW8.out]))
   have hl := run_loadVar_row (P := Tryz.prog) W8 (w.heap.size + 1) 39 39 (ndC x).toArray (0, 0) _ HR8.out Tryz.underlying39 rfl HS1.out
   exact ⟨rfl, ndV x, v2_results rfl hl, HK8.out, rfl, HV8.out⟩
  ·go_enter Tryz.func83, Tryz.ntmps83
   go_wp2_with (first | (rw [HW1.out]) | (rw [HW3a.out (by trivial)]) | (rw [HW3b.out (by assumption)]) | (with_reducible refine wpList_load_mid rfl 39 (.tmp 48) rfl g off rfl (ndC x) _ HRX.out Tryz.underlying39 rfl HSX.out ?_) | (refine wpList_store_row rfl 39 (.tmp 9) (.tmp 49) rfl W1.heap.size (ndC x).toArray rfl rfl 39 _ HRZ.out HS1.out HS2.out (ndC_one x) ?_; rw [HW2.out]) | (refine wpList_load_row rfl 39 (.tmp 9) rfl W1.heap.size rfl 39 _ (0, 0) _ HN3.out Tryz.underlying39 rfl HS1.out ?_) | (refine wpList_build_nodes1 rfl (.tmp 53) rfl x rfl HNK.out ?_) | (refine (demand_yes 430 _).mono ?_; rintro e w' ⟨rfl, rfl⟩))
   refine (root_any [x] _ 1 1 _ (by decide) HINF HTF).mono ?_
   rintro e W4 ⟨rfl, hq⟩
   rw [HRR.out, HRE.out]
   obtain ⟨W5, HW5⟩ : ∃ V, Hid ((W4.alloc (.cells (ndC zeroN).toArray 39)).setRow W4.heap.size (ndC rr).toArray = V) := ⟨_, hid rfl⟩
   have HRZ5 := hid (heap_alloc_new W4 (.cells (ndC zeroN).toArray 39))
   have hl5 := laid_row W4 (ndC zeroN).toArray (ndC rr).toArray 39
   rw [HW5.out] at hl5
   have hb4 := HBA.out.trans (hq.mono HBA.out.size)
   have hb5 := hb4.trans (hl5.1.mono hb4.size)
   have HV5 := hid (HV3.out.below hb5)
   have HK5 := hid (HK3.out.trans (KJ.of_below (br := br) (bc := bc) (bp := bp) hb5 HV3.out.bel.size))
   have HN5 := hid (row_kept HN3.out hb5)
   have HZ5 := hid (row_kept HZ3.out hb5)
   rw [zeroN_cells] at HRZ5 HW5 HZ5
   clear hq hl5 hb5 hb4
   have hlt := h7.out.lt
   have hsw := HSW1.out
   have HN7 := HN5
   have HZ7 := HZ5
   have HV7 := HV5
   have HK7 := HK5
   obtain ⟨W7, HW7⟩ : ∃ V, W5 = V := ⟨_, rfl⟩
   rw [HW7] at HN7 HZ7 HV7 HK7 HW5 HN5 HZ5 HV5 HK5
   have hz8 := HZ7.out
   obtain ⟨W8, HW8⟩ : ∃ V, Hid (W7.setRow (w.heap.size + 1) (ndC x).toArray = V) := ⟨_, hid rfl⟩
   have hr8 := setRow_heap W7 (w.heap.size + 1) _ (ndC x).toArray _ _ hz8
   rw [HW8.out] at hr8
   have HR8 := hid hr8
   have HV8 : Hid (VJ WB bw br bc bp bj f t W8 xs (c + 0) (p + 0)) := hid (by rw [← HW8.out, Int.add_zero, Int.add_zero]; exact HV7.out.setRow (by have := h7.out.bel.size; omega) (by omega) (by omega) (by omega) (by omega) (by omega))
   have HK8 : Hid (KJ WB br bc bp w W8) := hid (by rw [← HW8.out]; exact HK7.out.setRow (by have := h7.out.bel.size; omega) (by omega))
   clear hr8 hz8 hsw hlt 
   go_wp2_with (first | (rw [HW5.out]) | (refine wpList_store_row rfl 39 (.tmp 10) (.tmp 56) rfl W4.heap.size (ndC rr).toArray rfl rfl 39 _ HRZ5.out HR1.out HR2.out (ndC_one rr) ?_; rw [HW5.out]) | (refine (demand_yes 430 _).mono ?_; rintro e w' ⟨rfl, rfl⟩) | (refine wpList_load_row rfl 39 (.tmp 9) rfl W1.heap.size rfl 39 _ (0, 0) _ HN7.out Tryz.underlying39 rfl HS1.out ?_) | (refine wpList_store_row rfl 39 (.tmp 7) (.tmp 70) rfl (w.heap.size + 1) (ndC x).toArray rfl rfl 39 _ HZ7.out HS1.out HS2.out (ndC_one x) ?_; rw [HW8.out]))
   have hl := run_loadVar_row (P := Tryz.prog) W8 (w.heap.size + 1) 39 39 (ndC x).toArray (0, 0) _ HR8.out Tryz.underlying39 rfl HS1.out
   exact ⟨rfl, ndV x, v2_results rfl hl, HK8.out, rfl, HV8.out⟩
 ·have d0 : decide (f ≤ lo) = false := dQ (by omega)
  have d2 : decide (hi ≤ f) = true := eQ (by omega)
  clear hc
  rcases Classical.em (cc = 1) with hcc | hcc
  ·subst hcc
   go_enter Tryz.func83, Tryz.ntmps83
   go_wp2_with (first | (rw [HW1.out]) | (rw [HW3a.out (by trivial)]) | (rw [HW3b.out (by assumption)]) | (with_reducible refine wpList_load_mid rfl 39 (.tmp 48) rfl g off rfl (ndC x) _ HRX.out Tryz.underlying39 rfl HSX.out ?_) | (refine wpList_store_row rfl 39 (.tmp 9) (.tmp 49) rfl W1.heap.size (ndC x).toArray rfl rfl 39 _ HRZ.out HS1.out HS2.out (ndC_one x) ?_; rw [HW2.out]) | (refine wpList_load_row rfl 39 (.tmp 9) rfl W1.heap.size rfl 39 _ (0, 0) _ HN3.out Tryz.underlying39 rfl HS1.out ?_) | (refine wpList_build_nodes1 rfl (.tmp 53) rfl x rfl HNK.out ?_) | (refine (demand_yes 430 _).mono ?_; rintro e w' ⟨rfl, rfl⟩))
   refine (root_any [x] _ 1 1 _ (by decide) HINF HTF).mono ?_
   rintro e W4 ⟨rfl, hq⟩
   rw [HRR.out, HRE.out]
   obtain ⟨W5, HW5⟩ : ∃ V, Hid ((W4.alloc (.cells (ndC zeroN).toArray 39)).setRow W4.heap.size (ndC rr).toArray = V) := ⟨_, hid rfl⟩
   have HRZ5 := hid (heap_alloc_new W4 (.cells (ndC zeroN).toArray 39))
   have hl5 := laid_row W4 (ndC zeroN).toArray (ndC rr).toArray 39
   rw [HW5.out] at hl5
   have hb4 := HBA.out.trans (hq.mono HBA.out.size)
   have hb5 := hb4.trans (hl5.1.mono hb4.size)
   have HV5 := hid (HV3.out.below hb5)
   have HK5 := hid (HK3.out.trans (KJ.of_below (br := br) (bc := bc) (bp := bp) hb5 HV3.out.bel.size))
   have HN5 := hid (row_kept HN3.out hb5)
   have HZ5 := hid (row_kept HZ3.out hb5)
   rw [zeroN_cells] at HRZ5 HW5 HZ5
   clear hq hl5 hb5 hb4
   have hlt := h7.out.lt
   have hsw := HSW1.out
   have HN7 := HN5
   have HZ7 := HZ5
   have HV7 := HV5
   have HK7 := HK5
   obtain ⟨W7, HW7⟩ : ∃ V, W5 = V := ⟨_, rfl⟩
   rw [HW7] at HN7 HZ7 HV7 HK7 HW5 HN5 HZ5 HV5 HK5
   have hz8 := HZ7.out
   obtain ⟨W8, HW8⟩ : ∃ V, Hid (W7.setRow (w.heap.size + 1) (ndC x).toArray = V) := ⟨_, hid rfl⟩
   have hr8 := setRow_heap W7 (w.heap.size + 1) _ (ndC x).toArray _ _ hz8
   rw [HW8.out] at hr8
   have HR8 := hid hr8
   have HV8 : Hid (VJ WB bw br bc bp bj f t W8 xs (c + 0) (p + 0)) := hid (by rw [← HW8.out, Int.add_zero, Int.add_zero]; exact HV7.out.setRow (by have := h7.out.bel.size; omega) (by omega) (by omega) (by omega) (by omega) (by omega))
   have HK8 : Hid (KJ WB br bc bp w W8) := hid (by rw [← HW8.out]; exact HK7.out.setRow (by have := h7.out.bel.size; omega) (by omega))
   clear hr8 hz8 hsw hlt 
   go_wp2_with (first | (rw [HW5.out]) | (refine wpList_store_row rfl 39 (.tmp 10) (.tmp 56) rfl W4.heap.size (ndC rr).toArray rfl rfl 39 _ HRZ5.out HR1.out HR2.out (ndC_one rr) ?_; rw [HW5.out]) | (refine (demand_yes 430 _).mono ?_; rintro e w' ⟨rfl, rfl⟩) | (refine wpList_load_row rfl 39 (.tmp 9) rfl W1.heap.size rfl 39 _ (0, 0) _ HN7.out Tryz.underlying39 rfl HS1.out ?_) | (refine wpList_store_row rfl 39 (.tmp 7) (.tmp 70) rfl (w.heap.size + 1) (ndC x).toArray rfl rfl 39 _ HZ7.out HS1.out HS2.out (ndC_one x) ?_; rw [HW8.out]))
   have hl := run_loadVar_row (P := Tryz.prog) W8 (w.heap.size + 1) 39 39 (ndC x).toArray (0, 0) _ HR8.out Tryz.underlying39 rfl HS1.out
   exact ⟨rfl, ndV x, v2_results rfl hl, HK8.out, rfl, HV8.out⟩
  ·go_enter Tryz.func83, Tryz.ntmps83
   go_wp2_with (first | (rw [HW1.out]) | (rw [HW3a.out (by trivial)]) | (rw [HW3b.out (by assumption)]) | (with_reducible refine wpList_load_mid rfl 39 (.tmp 48) rfl g off rfl (ndC x) _ HRX.out Tryz.underlying39 rfl HSX.out ?_) | (refine wpList_store_row rfl 39 (.tmp 9) (.tmp 49) rfl W1.heap.size (ndC x).toArray rfl rfl 39 _ HRZ.out HS1.out HS2.out (ndC_one x) ?_; rw [HW2.out]) | (refine wpList_load_row rfl 39 (.tmp 9) rfl W1.heap.size rfl 39 _ (0, 0) _ HN3.out Tryz.underlying39 rfl HS1.out ?_) | (refine wpList_build_nodes1 rfl (.tmp 53) rfl x rfl HNK.out ?_) | (refine (demand_yes 430 _).mono ?_; rintro e w' ⟨rfl, rfl⟩))
   refine (root_any [x] _ 1 1 _ (by decide) HINF HTF).mono ?_
   rintro e W4 ⟨rfl, hq⟩
   rw [HRR.out, HRE.out]
   obtain ⟨W5, HW5⟩ : ∃ V, Hid ((W4.alloc (.cells (ndC zeroN).toArray 39)).setRow W4.heap.size (ndC rr).toArray = V) := ⟨_, hid rfl⟩
   have HRZ5 := hid (heap_alloc_new W4 (.cells (ndC zeroN).toArray 39))
   have hl5 := laid_row W4 (ndC zeroN).toArray (ndC rr).toArray 39
   rw [HW5.out] at hl5
   have hb4 := HBA.out.trans (hq.mono HBA.out.size)
   have hb5 := hb4.trans (hl5.1.mono hb4.size)
   have HV5 := hid (HV3.out.below hb5)
   have HK5 := hid (HK3.out.trans (KJ.of_below (br := br) (bc := bc) (bp := bp) hb5 HV3.out.bel.size))
   have HN5 := hid (row_kept HN3.out hb5)
   have HZ5 := hid (row_kept HZ3.out hb5)
   rw [zeroN_cells] at HRZ5 HW5 HZ5
   clear hq hl5 hb5 hb4
   have hlt := h7.out.lt
   have hsw := HSW1.out
   have HN7 := HN5
   have HZ7 := HZ5
   have HV7 := HV5
   have HK7 := HK5
   obtain ⟨W7, HW7⟩ : ∃ V, W5 = V := ⟨_, rfl⟩
   rw [HW7] at HN7 HZ7 HV7 HK7 HW5 HN5 HZ5 HV5 HK5
   have hz8 := HZ7.out
   obtain ⟨W8, HW8⟩ : ∃ V, Hid (W7.setRow (w.heap.size + 1) (ndC x).toArray = V) := ⟨_, hid rfl⟩
   have hr8 := setRow_heap W7 (w.heap.size + 1) _ (ndC x).toArray _ _ hz8
   rw [HW8.out] at hr8
   have HR8 := hid hr8
   have HV8 : Hid (VJ WB bw br bc bp bj f t W8 xs (c + 0) (p + 0)) := hid (by rw [← HW8.out, Int.add_zero, Int.add_zero]; exact HV7.out.setRow (by have := h7.out.bel.size; omega) (by omega) (by omega) (by omega) (by omega) (by omega))
   have HK8 : Hid (KJ WB br bc bp w W8) := hid (by rw [← HW8.out]; exact HK7.out.setRow (by have := h7.out.bel.size; omega) (by omega))
   clear hr8 hz8 hsw hlt 
   go_wp2_with (first | (rw [HW5.out]) | (refine wpList_store_row rfl 39 (.tmp 10) (.tmp 56) rfl W4.heap.size (ndC rr).toArray rfl rfl 39 _ HRZ5.out HR1.out HR2.out (ndC_one rr) ?_; rw [HW5.out]) | (refine (demand_yes 430 _).mono ?_; rintro e w' ⟨rfl, rfl⟩) | (refine wpList_load_row rfl 39 (.tmp 9) rfl W1.heap.size rfl 39 _ (0, 0) _ HN7.out Tryz.underlying39 rfl HS1.out ?_) | (refine wpList_store_row rfl 39 (.tmp 7) (.tmp 70) rfl (w.heap.size + 1) (ndC x).toArray rfl rfl 39 _ HZ7.out HS1.out HS2.out (ndC_one x) ?_; rw [HW8.out]))
   have hl := run_loadVar_row (P := Tryz.prog) W8 (w.heap.size + 1) 39 39 (ndC x).toArray (0, 0) _ HR8.out Tryz.underlying39 rfl HS1.out
   exact ⟨rfl, ndV x, v2_results rfl hl, HK8.out, rfl, HV8.out⟩
end Go.Proofs.YtmfmgeapecapiaaGreatDoor
