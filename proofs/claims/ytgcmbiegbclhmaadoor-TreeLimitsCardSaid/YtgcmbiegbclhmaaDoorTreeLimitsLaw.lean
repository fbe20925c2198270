/- TreeLimits: for all nodes the law returns true: they are joined exactly if both are valid and the sum of their credits is not too much. No conditions. -/
import Derived.Test.YtgcmbiegbclhmaaDoorArgNd
import Derived.Test.YtgcmbiegbclhmaaDoorTreeLawKit
import Derived.Lib.SmallJoins
import Derived.Test.YtgcmbiegbclhmaaDoorCards
import Derived.Test.YtgcmbiegbclhmaaDoorTie
namespace Go.Proofs.YtgcmbiegbclhmaaDoor.treeLimits
open Go.ChangeShapes Go.WideShapes Go.ChangeAt Go.RowKit SzSha SzTree
set_option linter.unusedVariables false
set_option maxRecDepth 100000 in
set_option maxHeartbeats 8000000 in
theorem vld_any (x : Nd) (w : World) (hx : NdOk x) : Calls Tryd.prog 24 #[ndV x] w fun e w' => e = .returned (.bool (vN x)) ∧ Below w.heap.size w w' := by
  have HB := Lib.hid ((Below.refl _ w).alloc (Nat.le_refl _) (.cells (ndC x).toArray 26))
  have HR := Lib.hid (heap_alloc_new w (.cells (ndC x).toArray 26))
  have hc := cell_c hx HR.out
  have hp := cell_p hx HR.out
  have hcb := hx.c
  rw [show ndV x = .agg (ndC x).toArray from rfl]
  go_enter Tryd.func24, Tryd.ntmps24
  by_cases b1 : 0 ≤ x.c
  · have d1 : decide (0 ≤ x.c) = true := decide_eq_true b1
    by_cases b2 : x.c ≤ 1073741824
    · have d2 : decide (x.c ≤ 1073741824) = true := decide_eq_true b2
      by_cases b3 : 0 ≤ x.p
      · have d3 : decide (0 ≤ x.p) = true := decide_eq_true b3
        have hw : IntKind.i64.wrap (12 * x.c) = 12 * x.c := IntWalk.i64_in _ (by omega)
        have HE : Hid (vN x = decide (x.p ≤ 12 * x.c)) := Lib.hid (by unfold vN; rw [d1, d2, d3]; rfl)
        go_wp2_with fail
        go_ret
        exact ⟨by rw [HE.out]; rfl, HB.out⟩
      · have d3 : decide (0 ≤ x.p) = false := decide_eq_false b3
        have HE : Hid (vN x = false) := Lib.hid (by unfold vN; rw [d1, d2, d3]; rfl)
        go_wp2_with fail
        go_ret
        exact ⟨by rw [HE.out]; rfl, HB.out⟩
    · have d2 : decide (x.c ≤ 1073741824) = false := decide_eq_false b2
      have HE : Hid (vN x = false) := Lib.hid (by unfold vN; rw [d1, d2]; rfl)
      go_wp2_with fail
      go_ret
      exact ⟨by rw [HE.out]; rfl, HB.out⟩
  · have d1 : decide (0 ≤ x.c) = false := decide_eq_false b1
    have HE : Hid (vN x = false) := Lib.hid (by unfold vN; rw [d1]; rfl)
    go_wp2_with fail
    go_ret
    exact ⟨by rw [HE.out]; rfl, HB.out⟩
set_option maxRecDepth 100000 in
set_option maxHeartbeats 8000000 in
theorem yes (a b : Nd) (w : World) (HA : Hid (NdOk a)) (HBo : Hid (NdOk b)) (hv : vL [a, b] = true) (hT : Hid (Tabs w)) :
    Calls Tryd.prog 7 #[ndV a, ndV b] w fun e w' => e = .returned (.bool true) ∧ Below w.heap.size w w' := by
  obtain ⟨s, HS⟩ : ∃ s, Hid (joinN a b = s) := ⟨_, Lib.hid rfl⟩
  obtain ⟨t, HT⟩ : ∃ t, Hid (joinN b a = t) := ⟨_, Lib.hid rfl⟩
  have hv2 : vL [b, a] = true := by rw [vL_comm]; exact hv
  have HJ1 : Hid (joinR a b = s ∧ joinE a b = 0) := Lib.hid (by unfold joinR joinE; rw [if_pos hv, if_pos hv]; exact ⟨HS.out, rfl⟩)
  have HJ2 : Hid (joinR b a = t ∧ joinE b a = 0) := Lib.hid (by unfold joinR joinE; rw [if_pos hv2, if_pos hv2]; exact ⟨HT.out, rfl⟩)
  have HSO : Hid (NdOk s) := Lib.hid (by rw [← HS.out]; exact join_ok HA.out HBo.out hv)
  have HTO : Hid (NdOk t) := Lib.hid (by rw [← HT.out]; exact join_ok HBo.out HA.out hv2)
  have hva' := (vL_pair a b).1 hv
  have hva : vN a = true ∧ vN b = true ∧ a.c + b.c ≤ 1073741824 := ⟨hva'.1.1, hva'.1.2, hva'.2⟩
  clear hva'
  have HVA := Lib.hid hva.1
  have HVB := Lib.hid hva.2.1
  have h1 := vN_bd hva.1
  have h2 := vN_bd hva.2.1
  have hw1 : IntKind.i64.wrap (a.c + b.c) = a.c + b.c := IntWalk.i64_in _ (by omega)
  have hw2 : IntKind.i64.wrap (a.p + b.p) = a.p + b.p := IntWalk.i64_in _ (by omega)
  have d1 : decide (a.c + b.c ≤ 1073741824) = true := decide_eq_true hva.2.2
  have HSC : Hid (s.c = a.c + b.c ∧ s.p = a.p + b.p) := Lib.hid (by rw [← HS.out]; exact ⟨rfl, rfl⟩)
  have HTC : Hid (t.c = a.c + b.c ∧ t.p = a.p + b.p) := Lib.hid (by rw [← HT.out]; exact ⟨Int.add_comm _ _, Int.add_comm _ _⟩)
  have HVS : Hid (vN s = true) := Lib.hid (by rw [← HS.out]; exact vN_join hv)
  have HV3 : Hid (vL [s, zeroN] = true) := Lib.hid ((vL_pair _ _).2 ⟨⟨HVS.out, by decide⟩, by rw [HSC.out.1, show zeroN.c = 0 from rfl]; omega⟩)
  obtain ⟨z, HZ⟩ : ∃ z, Hid (joinN s zeroN = z) := ⟨_, Lib.hid rfl⟩
  have HJ3 : Hid (joinR s zeroN = z ∧ joinE s zeroN = 0) := Lib.hid (by unfold joinR joinE; rw [if_pos HV3.out, if_pos HV3.out]; exact ⟨HZ.out, rfl⟩)
  have HZO : Hid (NdOk z) := Lib.hid (by rw [← HZ.out]; exact join_ok HSO.out zeroN_ok HV3.out)
  have HZC : Hid (z.c = a.c + b.c ∧ z.p = a.p + b.p) := Lib.hid (by rw [← HZ.out, ← HSC.out.1, ← HSC.out.2]; exact ⟨Int.add_zero _, Int.add_zero _⟩)
  clear hv hv2 hva h1 h2
  have hb0 := ((Below.refl _ w).alloc (Nat.le_refl _) (.cells (ndC a).toArray 26)).alloc (by simp) (.cells (ndC b).toArray 26)
  have hr0 := (Below.heap_alloc (w.alloc (.cells (ndC a).toArray 26)) (.cells (ndC b).toArray 26) w.heap.size (by simp)).trans (heap_alloc_new w (.cells (ndC a).toArray 26))
  have hr1 := heap_alloc_new (w.alloc (.cells (ndC a).toArray 26)) (.cells (ndC b).toArray 26)
  rw [World.size_alloc] at hr1
  have HB0 := Lib.hid hb0
  have RA := Lib.hid hr0
  have RB := Lib.hid hr1
  clear hb0 hr0 hr1
  rw [show ndV a = .agg (ndC a).toArray from rfl, show ndV b = .agg (ndC b).toArray from rfl]
  go_enter Tryd.func7, Tryd.ntmps7
  go_wp2_with fail
  refine (sane_any _ (Lib.hid (hT.out.below HB0.out))).mono ?_
  rintro e U1 ⟨rfl, hq⟩
  have HB1 := Lib.hid (HB0.out.trans (hq.mono HB0.out.size))
  have R2_1 := Lib.hid (row_kept RA.out hq)
  have R3_1 := Lib.hid (row_kept RB.out hq)
  clear hq HB0 RA RB
  go_wp2_with (first | (refine wpList_load_row rfl 26 (.tmp 2) rfl w.heap.size rfl 26 _ (0, 0) _ R2_1.out Tryd.underlying26 rfl (size34' HA.out) ?_) | (refine wpList_load_row rfl 26 (.tmp 3) rfl (w.heap.size + 1) rfl 26 _ (0, 0) _ R3_1.out Tryd.underlying26 rfl (size34' HBo.out) ?_))
  refine (join_any a b _ HA.out HBo.out (Lib.hid (hT.out.below HB1.out))).mono ?_
  rintro e U2 ⟨rfl, hq⟩
  rw [HJ1.out.1, HJ1.out.2]
  have HB2 := Lib.hid (HB1.out.trans (hq.mono HB1.out.size))
  have R2_2 := Lib.hid (row_kept R2_1.out hq)
  have R3_2 := Lib.hid (row_kept R3_1.out hq)
  clear hq HB1 R2_1 R3_1
  obtain ⟨V2, HV2⟩ : ∃ V, Hid ((U2.alloc (.cells (ndC zeroN).toArray 26)).setRow U2.heap.size (ndC s).toArray = V) := ⟨_, Lib.hid rfl⟩
  have hlr := laid_row U2 (ndC zeroN).toArray (ndC s).toArray 26
  rw [HV2.out] at hlr
  have HZ2 := Lib.hid (heap_alloc_new U2 (.cells (ndC zeroN).toArray 26))
  have HT2 : Hid (34 = (ndC s).toArray.size) := Lib.hid (by simp [ndC_length HSO.out])
  rw [zeroN_cells] at HZ2 HV2
  have hq := hlr.1
  have HB3 := Lib.hid (HB2.out.trans (hq.mono HB2.out.size))
  have R2_3 := Lib.hid (row_kept R2_2.out hq)
  have R3_3 := Lib.hid (row_kept R3_2.out hq)
  have R6_n := Lib.hid hlr.2.2
  clear hq hlr HB2 R2_2 R3_2
  go_wp2_with (first | (refine wpList_store_row rfl 26 (.tmp 6) (.tmp 19) rfl U2.heap.size (ndC s).toArray rfl rfl 26 _ HZ2.out (size34' HSO.out) HT2.out (ndC_one s) ?_; rw [HV2.out]) | (refine wpList_load_row rfl 26 (.tmp 3) rfl (w.heap.size + 1) rfl 26 _ (0, 0) _ R3_3.out Tryd.underlying26 rfl (size34' HBo.out) ?_) | (refine wpList_load_row rfl 26 (.tmp 2) rfl w.heap.size rfl 26 _ (0, 0) _ R2_3.out Tryd.underlying26 rfl (size34' HA.out) ?_))
  refine (join_any b a _ HBo.out HA.out (Lib.hid (hT.out.below HB3.out))).mono ?_
  rintro e U3 ⟨rfl, hq⟩
  rw [HJ2.out.1, HJ2.out.2]
  have HB4 := Lib.hid (HB3.out.trans (hq.mono HB3.out.size))
  have R2_4 := Lib.hid (row_kept R2_3.out hq)
  have R3_4 := Lib.hid (row_kept R3_3.out hq)
  have R6_4 := Lib.hid (row_kept R6_n.out hq)
  clear hq HB3 R2_3 R3_3 R6_n
  obtain ⟨V3, HV3⟩ : ∃ V, Hid ((U3.alloc (.cells (ndC zeroN).toArray 26)).setRow U3.heap.size (ndC t).toArray = V) := ⟨_, Lib.hid rfl⟩
  have hlr := laid_row U3 (ndC zeroN).toArray (ndC t).toArray 26
  rw [HV3.out] at hlr
  have HZ3 := Lib.hid (heap_alloc_new U3 (.cells (ndC zeroN).toArray 26))
  have HT3 : Hid (34 = (ndC t).toArray.size) := Lib.hid (by simp [ndC_length HTO.out])
  rw [zeroN_cells] at HZ3 HV3
  have hq := hlr.1
  have HB5 := Lib.hid (HB4.out.trans (hq.mono HB4.out.size))
  have R2_5 := Lib.hid (row_kept R2_4.out hq)
  have R3_5 := Lib.hid (row_kept R3_4.out hq)
  have R6_5 := Lib.hid (row_kept R6_4.out hq)
  have R8_n := Lib.hid hlr.2.2
  clear hq hlr HB4 R2_4 R3_4 R6_4
  go_wp2_with (first | (refine wpList_store_row rfl 26 (.tmp 8) (.tmp 25) rfl U3.heap.size (ndC t).toArray rfl rfl 26 _ HZ3.out (size34' HTO.out) HT3.out (ndC_one t) ?_; rw [HV3.out]) | (refine wpList_load_row rfl 26 (.tmp 2) rfl w.heap.size rfl 26 _ (0, 0) _ R2_5.out Tryd.underlying26 rfl (size34' HA.out) ?_))
  refine (vld_any a _ HA.out).mono ?_
  rintro e U4 ⟨rfl, hq⟩
  rw [HVA.out]
  have HB6 := Lib.hid (HB5.out.trans (hq.mono HB5.out.size))
  have R2_6 := Lib.hid (row_kept R2_5.out hq)
  have R3_6 := Lib.hid (row_kept R3_5.out hq)
  have R6_6 := Lib.hid (row_kept R6_5.out hq)
  have R8_6 := Lib.hid (row_kept R8_n.out hq)
  clear hq HB5 R2_5 R3_5 R6_5 R8_n
  go_wp2_with (refine wpList_unguard rfl ?_; refine wpList_load_row rfl 26 (.tmp 3) rfl (w.heap.size + 1) rfl 26 _ (0, 0) _ R3_6.out Tryd.underlying26 rfl (size34' HBo.out) ?_)
  refine (vld_any b _ HBo.out).mono ?_
  rintro e U5 ⟨rfl, hq⟩
  rw [HVB.out]
  have HB7 := Lib.hid (HB6.out.trans (hq.mono HB6.out.size))
  have R2_7 := Lib.hid (row_kept R2_6.out hq)
  have R3_7 := Lib.hid (row_kept R3_6.out hq)
  have R6_7 := Lib.hid (row_kept R6_6.out hq)
  have R8_7 := Lib.hid (row_kept R8_6.out hq)
  clear hq HB6 R2_6 R3_6 R6_6 R8_6
  have m1 : U5.cell? ⟨w.heap.size, 32, none⟩ = some (.int .i64 (a.c)) := cell_c HA.out R2_7.out
  have m2 : U5.cell? ⟨(w.heap.size + 1), 32, none⟩ = some (.int .i64 (b.c)) := cell_c HBo.out R3_7.out
  go_wp2_with (first | (refine wpList_load_row rfl 26 (.tmp 6) rfl U2.heap.size rfl 26 _ (0, 0) _ R6_7.out Tryd.underlying26 rfl (size34' HSO.out) ?_) | (refine wpList_zero_nd rfl ?_))
  clear m1 m2
  refine (join_any s zeroN _ HSO.out zeroN_ok (Lib.hid (hT.out.below HB7.out))).mono ?_
  rintro e U6 ⟨rfl, hq⟩
  rw [HJ3.out.1, HJ3.out.2]
  have HB8 := Lib.hid (HB7.out.trans (hq.mono HB7.out.size))
  have R2_8 := Lib.hid (row_kept R2_7.out hq)
  have R3_8 := Lib.hid (row_kept R3_7.out hq)
  have R6_8 := Lib.hid (row_kept R6_7.out hq)
  have R8_8 := Lib.hid (row_kept R8_7.out hq)
  clear hq HB7 R2_7 R3_7 R6_7 R8_7
  obtain ⟨V6, HV6⟩ : ∃ V, Hid ((U6.alloc (.cells (ndC zeroN).toArray 26)).setRow U6.heap.size (ndC z).toArray = V) := ⟨_, Lib.hid rfl⟩
  have hlr := laid_row U6 (ndC zeroN).toArray (ndC z).toArray 26
  rw [HV6.out] at hlr
  have HZ6 := Lib.hid (heap_alloc_new U6 (.cells (ndC zeroN).toArray 26))
  have HT6 : Hid (34 = (ndC z).toArray.size) := Lib.hid (by simp [ndC_length HZO.out])
  rw [zeroN_cells] at HZ6 HV6
  have hq := hlr.1
  have HB9 := Lib.hid (HB8.out.trans (hq.mono HB8.out.size))
  have R2_9 := Lib.hid (row_kept R2_8.out hq)
  have R3_9 := Lib.hid (row_kept R3_8.out hq)
  have R6_9 := Lib.hid (row_kept R6_8.out hq)
  have R8_9 := Lib.hid (row_kept R8_8.out hq)
  have R11_n := Lib.hid hlr.2.2
  clear hq hlr HB8 R2_8 R3_8 R6_8 R8_8
  go_wp2_with (first | (refine wpList_store_row rfl 26 (.tmp 11) (.tmp 71) rfl U6.heap.size (ndC z).toArray rfl rfl 26 _ HZ6.out (size34' HZO.out) HT6.out (ndC_one z) ?_; rw [HV6.out]) | (refine wpList_load_row rfl 26 (.tmp 6) rfl U2.heap.size rfl 26 _ (0, 0) _ R6_9.out Tryd.underlying26 rfl (size34' HSO.out) ?_))
  refine (vld_any s _ HSO.out).mono ?_
  rintro e U7 ⟨rfl, hq⟩
  rw [HVS.out]
  have HB10 := Lib.hid (HB9.out.trans (hq.mono HB9.out.size))
  have R2_10 := Lib.hid (row_kept R2_9.out hq)
  have R3_10 := Lib.hid (row_kept R3_9.out hq)
  have R6_10 := Lib.hid (row_kept R6_9.out hq)
  have R8_10 := Lib.hid (row_kept R8_9.out hq)
  have R11_10 := Lib.hid (row_kept R11_n.out hq)
  clear hq HB9 R2_9 R3_9 R6_9 R8_9 R11_n
  have mc0 : U7.cell? ⟨U2.heap.size, 32, none⟩ = some (.int .i64 (a.c + b.c)) := by have h := cell_c HSO.out R6_10.out; rw [HSC.out.1] at h; exact h
  have mp0 : U7.cell? ⟨U2.heap.size, 33, none⟩ = some (.int .i64 (a.p + b.p)) := by have h := cell_p HSO.out R6_10.out; rw [HSC.out.2] at h; exact h
  have mc1 : U7.cell? ⟨U3.heap.size, 32, none⟩ = some (.int .i64 (a.c + b.c)) := by have h := cell_c HTO.out R8_10.out; rw [HTC.out.1] at h; exact h
  have mp1 : U7.cell? ⟨U3.heap.size, 33, none⟩ = some (.int .i64 (a.p + b.p)) := by have h := cell_p HTO.out R8_10.out; rw [HTC.out.2] at h; exact h
  have mc2 : U7.cell? ⟨U6.heap.size, 32, none⟩ = some (.int .i64 (a.c + b.c)) := by have h := cell_c HZO.out R11_10.out; rw [HZC.out.1] at h; exact h
  have mp2 : U7.cell? ⟨U6.heap.size, 33, none⟩ = some (.int .i64 (a.p + b.p)) := by have h := cell_p HZO.out R11_10.out; rw [HZC.out.2] at h; exact h
  have nc0 : U7.cell? ⟨w.heap.size, 32, none⟩ = some (.int .i64 (a.c)) := cell_c HA.out R2_10.out
  have np0 : U7.cell? ⟨w.heap.size, 33, none⟩ = some (.int .i64 (a.p)) := cell_p HA.out R2_10.out
  have nc1 : U7.cell? ⟨(w.heap.size + 1), 32, none⟩ = some (.int .i64 (b.c)) := cell_c HBo.out R3_10.out
  have np1 : U7.cell? ⟨(w.heap.size + 1), 33, none⟩ = some (.int .i64 (b.p)) := cell_p HBo.out R3_10.out
  go_wp2_with fail
  go_ret
  exact ⟨rfl, HB10.out⟩
set_option maxRecDepth 100000 in
set_option maxHeartbeats 8000000 in
theorem no (a b : Nd) (w : World) (HA : Hid (NdOk a)) (HBo : Hid (NdOk b)) (hv : vL [a, b] = false) (hT : Hid (Tabs w)) :
    Calls Tryd.prog 7 #[ndV a, ndV b] w fun e w' => e = .returned (.bool true) ∧ Below w.heap.size w w' := by
  have hv2 : vL [b, a] = false := by rw [vL_comm]; exact hv
  have HJ1 : Hid (joinR a b = zeroN ∧ joinE a b = 410) := Lib.hid (by unfold joinR joinE; rw [hv]; exact ⟨rfl, rfl⟩)
  have HJ2 : Hid (joinR b a = zeroN ∧ joinE b a = 410) := Lib.hid (by unfold joinR joinE; rw [hv2]; exact ⟨rfl, rfl⟩)
  have HZO := Lib.hid zeroN_ok
  have hsum : vN a = true → vN b = true → decide (a.c + b.c ≤ 1073741824) = false := fun ha hb => by
    exact decide_eq_false fun h => by have := (vL_pair a b).2 ⟨⟨ha, hb⟩, h⟩; rw [hv] at this; cases this
  have HSUM := Lib.hid hsum
  clear hv hv2 hsum
  have hb0 := ((Below.refl _ w).alloc (Nat.le_refl _) (.cells (ndC a).toArray 26)).alloc (by simp) (.cells (ndC b).toArray 26)
  have hr0 := (Below.heap_alloc (w.alloc (.cells (ndC a).toArray 26)) (.cells (ndC b).toArray 26) w.heap.size (by simp)).trans (heap_alloc_new w (.cells (ndC a).toArray 26))
  have hr1 := heap_alloc_new (w.alloc (.cells (ndC a).toArray 26)) (.cells (ndC b).toArray 26)
  rw [World.size_alloc] at hr1
  have HB0 := Lib.hid hb0
  have RA := Lib.hid hr0
  have RB := Lib.hid hr1
  clear hb0 hr0 hr1
  rw [show ndV a = .agg (ndC a).toArray from rfl, show ndV b = .agg (ndC b).toArray from rfl]
  go_enter Tryd.func7, Tryd.ntmps7
  go_wp2_with fail
  refine (sane_any _ (Lib.hid (hT.out.below HB0.out))).mono ?_
  rintro e U1 ⟨rfl, hq⟩
  have HB1 := Lib.hid (HB0.out.trans (hq.mono HB0.out.size))
  have R2_1 := Lib.hid (row_kept RA.out hq)
  have R3_1 := Lib.hid (row_kept RB.out hq)
  clear hq HB0 RA RB
  go_wp2_with (first | (refine wpList_load_row rfl 26 (.tmp 2) rfl w.heap.size rfl 26 _ (0, 0) _ R2_1.out Tryd.underlying26 rfl (size34' HA.out) ?_) | (refine wpList_load_row rfl 26 (.tmp 3) rfl (w.heap.size + 1) rfl 26 _ (0, 0) _ R3_1.out Tryd.underlying26 rfl (size34' HBo.out) ?_))
  refine (join_any a b _ HA.out HBo.out (Lib.hid (hT.out.below HB1.out))).mono ?_
  rintro e U2 ⟨rfl, hq⟩
  rw [HJ1.out.1, HJ1.out.2]
  have HB2 := Lib.hid (HB1.out.trans (hq.mono HB1.out.size))
  have R2_2 := Lib.hid (row_kept R2_1.out hq)
  have R3_2 := Lib.hid (row_kept R3_1.out hq)
  clear hq HB1 R2_1 R3_1
  obtain ⟨V2, HV2⟩ : ∃ V, Hid ((U2.alloc (.cells (ndC zeroN).toArray 26)).setRow U2.heap.size (ndC zeroN).toArray = V) := ⟨_, Lib.hid rfl⟩
  have hlr := laid_row U2 (ndC zeroN).toArray (ndC zeroN).toArray 26
  rw [HV2.out] at hlr
  have HZ2 := Lib.hid (heap_alloc_new U2 (.cells (ndC zeroN).toArray 26))
  have HT2 : Hid (34 = (ndC zeroN).toArray.size) := Lib.hid (by simp [ndC_length HZO.out])
  rw [zeroN_cells] at HZ2 HV2
  have hq := hlr.1
  have HB3 := Lib.hid (HB2.out.trans (hq.mono HB2.out.size))
  have R2_3 := Lib.hid (row_kept R2_2.out hq)
  have R3_3 := Lib.hid (row_kept R3_2.out hq)
  have R6_n := Lib.hid hlr.2.2
  clear hq hlr HB2 R2_2 R3_2
  go_wp2_with (first | (refine wpList_store_row rfl 26 (.tmp 6) (.tmp 19) rfl U2.heap.size (ndC zeroN).toArray rfl rfl 26 _ HZ2.out (size34' HZO.out) HT2.out (ndC_one zeroN) ?_; rw [zeroN_cells]; rw [HV2.out]) | (refine wpList_load_row rfl 26 (.tmp 3) rfl (w.heap.size + 1) rfl 26 _ (0, 0) _ R3_3.out Tryd.underlying26 rfl (size34' HBo.out) ?_) | (refine wpList_load_row rfl 26 (.tmp 2) rfl w.heap.size rfl 26 _ (0, 0) _ R2_3.out Tryd.underlying26 rfl (size34' HA.out) ?_))
  refine (join_any b a _ HBo.out HA.out (Lib.hid (hT.out.below HB3.out))).mono ?_
  rintro e U3 ⟨rfl, hq⟩
  rw [HJ2.out.1, HJ2.out.2]
  have HB4 := Lib.hid (HB3.out.trans (hq.mono HB3.out.size))
  have R2_4 := Lib.hid (row_kept R2_3.out hq)
  have R3_4 := Lib.hid (row_kept R3_3.out hq)
  have R6_4 := Lib.hid (row_kept R6_n.out hq)
  clear hq HB3 R2_3 R3_3 R6_n
  obtain ⟨V3, HV3⟩ : ∃ V, Hid ((U3.alloc (.cells (ndC zeroN).toArray 26)).setRow U3.heap.size (ndC zeroN).toArray = V) := ⟨_, Lib.hid rfl⟩
  have hlr := laid_row U3 (ndC zeroN).toArray (ndC zeroN).toArray 26
  rw [HV3.out] at hlr
  have HZ3 := Lib.hid (heap_alloc_new U3 (.cells (ndC zeroN).toArray 26))
  have HT3 : Hid (34 = (ndC zeroN).toArray.size) := Lib.hid (by simp [ndC_length HZO.out])
  rw [zeroN_cells] at HZ3 HV3
  have hq := hlr.1
  have HB5 := Lib.hid (HB4.out.trans (hq.mono HB4.out.size))
  have R2_5 := Lib.hid (row_kept R2_4.out hq)
  have R3_5 := Lib.hid (row_kept R3_4.out hq)
  have R6_5 := Lib.hid (row_kept R6_4.out hq)
  have R8_n := Lib.hid hlr.2.2
  clear hq hlr HB4 R2_4 R3_4 R6_4
  go_wp2_with (first | (refine wpList_store_row rfl 26 (.tmp 8) (.tmp 25) rfl U3.heap.size (ndC zeroN).toArray rfl rfl 26 _ HZ3.out (size34' HZO.out) HT3.out (ndC_one zeroN) ?_; rw [zeroN_cells]; rw [HV3.out]) | (refine wpList_load_row rfl 26 (.tmp 2) rfl w.heap.size rfl 26 _ (0, 0) _ R2_5.out Tryd.underlying26 rfl (size34' HA.out) ?_))
  refine (vld_any a _ HA.out).mono ?_
  rintro e U4 ⟨rfl, hq⟩
  have HB6 := Lib.hid (HB5.out.trans (hq.mono HB5.out.size))
  have R2_6 := Lib.hid (row_kept R2_5.out hq)
  have R3_6 := Lib.hid (row_kept R3_5.out hq)
  have R6_6 := Lib.hid (row_kept R6_5.out hq)
  have R8_6 := Lib.hid (row_kept R8_n.out hq)
  clear hq HB5 R2_5 R3_5 R6_5 R8_n
  by_cases ha : vN a = true
  · rw [ha]
    go_wp2_with (refine wpList_unguard rfl ?_; refine wpList_load_row rfl 26 (.tmp 3) rfl (w.heap.size + 1) rfl 26 _ (0, 0) _ R3_6.out Tryd.underlying26 rfl (size34' HBo.out) ?_)
    refine (vld_any b _ HBo.out).mono ?_
    rintro e U5 ⟨rfl, hq⟩
    have HB7 := Lib.hid (HB6.out.trans (hq.mono HB6.out.size))
    have R2_7 := Lib.hid (row_kept R2_6.out hq)
    have R3_7 := Lib.hid (row_kept R3_6.out hq)
    have R6_7 := Lib.hid (row_kept R6_6.out hq)
    have R8_7 := Lib.hid (row_kept R8_6.out hq)
    clear hq HB6 R2_6 R3_6 R6_6 R8_6
    by_cases hb : vN b = true
    · rw [hb]
      have d1 := HSUM.out ha hb
      have h1 := vN_bd ha
      have h2 := vN_bd hb
      have hw1 : IntKind.i64.wrap (a.c + b.c) = a.c + b.c := IntWalk.i64_in _ (by omega)
      have m1 : U5.cell? ⟨w.heap.size, 32, none⟩ = some (.int .i64 (a.c)) := cell_c HA.out R2_7.out
      have m2 : U5.cell? ⟨(w.heap.size + 1), 32, none⟩ = some (.int .i64 (b.c)) := cell_c HBo.out R3_7.out
      clear h1 h2
      go_wp2_with (first | (refine wpList_unguard rfl ?_; refine wpList_load_row rfl 26 (.tmp 6) rfl U2.heap.size rfl 26 _ (0, 0) _ R6_7.out Tryd.underlying26 rfl (size34' HZO.out) ?_) | (refine wpList_unguard rfl ?_; refine wpList_zero_nd rfl ?_) | (refine wpList_unguard rfl ?_; refine wpList_eql_nd rfl (.tmp 63) (.tmp 64) _ rfl zeroN zeroN rfl rfl zeroN_ok zeroN_ok ?_; rw [ndEq_refl]))
      go_ret
      exact ⟨rfl, HB7.out⟩
    · have hb2 : vN b = false := by simpa using hb
      rw [hb2]
      go_wp2_with (first | (refine wpList_unguard rfl ?_; refine wpList_load_row rfl 26 (.tmp 6) rfl U2.heap.size rfl 26 _ (0, 0) _ R6_7.out Tryd.underlying26 rfl (size34' HZO.out) ?_) | (refine wpList_unguard rfl ?_; refine wpList_zero_nd rfl ?_) | (refine wpList_unguard rfl ?_; refine wpList_eql_nd rfl (.tmp 63) (.tmp 64) _ rfl zeroN zeroN rfl rfl zeroN_ok zeroN_ok ?_; rw [ndEq_refl]))
      go_ret
      exact ⟨rfl, HB7.out⟩
  · have ha2 : vN a = false := by simpa using ha
    rw [ha2]
    go_wp2_with (first | (refine wpList_unguard rfl ?_; refine wpList_load_row rfl 26 (.tmp 6) rfl U2.heap.size rfl 26 _ (0, 0) _ R6_6.out Tryd.underlying26 rfl (size34' HZO.out) ?_) | (refine wpList_unguard rfl ?_; refine wpList_zero_nd rfl ?_) | (refine wpList_unguard rfl ?_; refine wpList_eql_nd rfl (.tmp 63) (.tmp 64) _ rfl zeroN zeroN rfl rfl zeroN_ok zeroN_ok ?_; rw [ndEq_refl]))
    go_ret
    exact ⟨rfl, HB6.out⟩
theorem walk (w : World) (hT : Tabs w) (a : Nd) (ha : NdOk a) (b : Nd) (hb : NdOk b) :
    Calls Tryd.prog 7 #[ndV a, ndV b] w fun e w' => e = .returned (.bool true) ∧ Below w.heap.size w w' := by
  by_cases h : vL [a, b] = true
  · exact yes a b w (Lib.hid ha) (Lib.hid hb) h (Lib.hid hT)
  · exact no a b w (Lib.hid ha) (Lib.hid hb) (by simpa using h) (Lib.hid hT)
set_option maxRecDepth 100000 in
theorem lifted (os : Os) (started : os.Started) (H : Type) (enc : TypeId × Value → H) :
    ReturnsInHanded {} Tryd.checked os 7 .any (fun w args => (Rows.treeLimitsSpec.pre enc Tryd.prog Tryd.f7 [] false w args ∧ laidMetH Tryd.prog laidL w) ∧ sizedMet enc Tryd.prog Tryd.f7 (OpenSpec.ofChange Rows.treeLimitsSpec) false w args)
      (Rows.treeLimitsSpec.post enc Tryd.prog Tryd.f7 false true false false) := by
  refine returnsInHanded_of_change_and (C := Tryd.checked) (X := fun w _ => laidMetH Tryd.prog laidL w) (fun _ _ _ hh h => h.of_heap hh) own started (by kernel_rfl) Tryd.func7
    (ChangeSpec.witness_shaped (enc := enc) (C := Tryd.checked) (os := os) (X := fun w _ => laidMetH Tryd.prog laidL w) false (World.doorLaid Tryd.prog 400 os) #[.agg (Array.replicate 32 (.int .u8 0) ++ #[.int .i64 0, .int .i64 0]), .agg (Array.replicate 32 (.int .u8 0) ++ #[.int .i64 0, .int .i64 0])] 8 rfl (World.shaped_of_RefB (by kernel_rfl) (by kernel_rfl)) (by kernel_rfl) (by kernel_rfl) (by kernel_rfl) (door_met os _)) ?_
  intro W base args ds gs before hval0 hW _ hsz0 hL _
  have hval : ∀ (j : Nat) t v, Tryd.f7.params[j]? = some t → args[j]? = some v → Value.okWide Tryd.prog W .any base t v := hval0
  have hW' := hW
  obtain ⟨p, q, hA0, hV, rfl, hfz, hnd⟩ := hW
  have hA : DataW.TrodAll enc Tryd.prog W 0 (fun _ => true) true Tryd.f7.params.toList args.toList ds p := hA0
  have hsz : (DataW.weightsEach Tryd.prog (Tryd.f7.params.toList ++ Rows.treeLimitsSpec.plain.varTypes Tryd.prog) (ds ++ gs)).all (· ≤ reachBytes) = true := hsz0
  rw [Tryd.params7] at hA hval hsz
  obtain ⟨v0, vs0, d0, ds0, p0, q0, hargs, rfl, rfl, h0, r0⟩ := trodAll_cons hA
  obtain ⟨v1, vs1, d1, ds1, p1, q1, rfl, rfl, rfl, h1, r1⟩ := trodAll_cons r0
  obtain ⟨rfl, rfl, rfl⟩ := trodAll_nil r1
  obtain rfl : args = #[v0, v1] := by cases args; simp_all
  obtain ⟨rfl, rfl⟩ := trodVars_none hV
  obtain ⟨l0, rfl, e0⟩ := arg_nd (hval 0 26 v0 rfl rfl) h0
  obtain ⟨l1, rfl, e1⟩ := arg_nd (hval 1 26 v1 rfl rfl) h1
  refine (walk W (tabs_of hL) l0 e0 l1 e1).mono fun e W' ⟨he, hg⟩ => ?_
  subst he
  exact ⟨_, rfl, law_post (by kernel_rfl) rfl rfl (fun _ => ⟨rfl, rfl, rfl⟩) hW' hg⟩
theorem over : Rows.treeLimitsRow.holds Tryd.pinned (OpenSpec.ofChange Rows.treeLimitsSpec) :=
  OpenClaim.holds_of_wide 7 Tryd.f7 rfl rfl rfl rfl rfl rfl rfl ⟨rfl, rfl, rfl, rfl, rfl⟩ rfl rfl rfl rfl rfl (by kernel_rfl) Tryd.func7 (by kernel_rfl)
    (of_decide_eq_true (by kernel_rfl)) (by unfold Func.isWrapper; first | (rw [if_pos (by decide +kernel)]; kernel_rfl) | (rw [if_neg (by decide +kernel)]; exact ⟨rfl, rfl⟩))
    (fun os started H enc _ => lifted os started H enc)
/-- THE STATEMENT: the card -/
theorem proved : Rows.TreeLimitsCardSaid :=
  Claim7.holds_tied_plain_at .later [] [.data, .data] true Rows.treeLimitsCard.stood.harness false
    over (fun _ h => by cases h) (by kernel_rfl) (fun _ h => by cases h) treeLimits_row_tie rfl ⟨rfl, rfl⟩ (by kernel_rfl) rfl
    (fun f fn hf hfn => by
      obtain rfl : f = 7 := Option.some.inj ((show Tryd.prog.funcNamed "sizar/sizarlaw41.TreeLimits" = some 7 by kernel_rfl).symm.trans hf) |>.symm
      obtain rfl : fn = Tryd.f7 := (Option.some.inj (Tryd.func7.symm.trans hfn)).symm
      exact ⟨by kernel_rfl, fun j t ht => stands_of (show Tryd.f7.params.all (fun t => !Tryd.prog.wantsStandIn t) = true by kernel_rfl) ht⟩)
    (by kernel_rfl)
#print axioms proved
end Go.Proofs.YtgcmbiegbclhmaaDoor.treeLimits
