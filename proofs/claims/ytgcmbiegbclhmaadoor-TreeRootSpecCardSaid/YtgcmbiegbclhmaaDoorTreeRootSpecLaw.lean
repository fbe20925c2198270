/- The law TreeRootSpec holds: Root and Join of the program are those of the reference, for all nodes. -/
import Derived.Test.YtgcmbiegbclhmaaDoorRefRoot
import Derived.Test.YtgcmbiegbclhmaaDoorTreeSane
import Derived.Test.YtgcmbiegbclhmaaDoorArgNd
import Derived.Test.YtgcmbiegbclhmaaDoorTreeLawKit
import Derived.Lib.SmallJoins
import Derived.Test.YtgcmbiegbclhmaaDoorCards
import Derived.Test.YtgcmbiegbclhmaaDoorTie
namespace Go.Proofs.YtgcmbiegbclhmaaDoor.treeRootSpec
open Go.ChangeShapes Go.WideShapes Go.ChangeAt Go.RowKit SzSha SzTree
set_option linter.unusedVariables false
set_option maxRecDepth 100000
theorem joinR_okN {a b : Nd} (ha : NdOk a) (hb : NdOk b) : NdOk (joinR a b) := by
  unfold joinR; split
  · exact join_ok ha hb (by assumption)
  · exact zeroN_ok
set_option maxRecDepth 100000 in
set_option maxHeartbeats 8000000 in
theorem few (ls : List Nd) (A : Option Addr) (n c : Nat) (a b : Nd) (w : World) (HI : Hid (InN w A n c ls)) (hn : n ≤ 9223372036854775807) (HA : Hid (NdOk a)) (HBo : Hid (NdOk b)) (hT : Hid (Tabs w)) (h : n ≤ 200) :
    Calls Tryd.prog 3 #[.slice A n c, ndV a, ndV b] w fun e w' => e = .returned (.bool true) ∧ Below w.heap.size w w' := by
  obtain ⟨x, HX⟩ : ∃ x, Hid (rootR ls = x) := ⟨_, Lib.hid rfl⟩
  obtain ⟨e1, HE1⟩ : ∃ x, Hid (rootE ls = x) := ⟨_, Lib.hid rfl⟩
  obtain ⟨y, HY⟩ : ∃ x, Hid (joinR a b = x) := ⟨_, Lib.hid rfl⟩
  obtain ⟨e2, HE2⟩ : ∃ x, Hid (joinE a b = x) := ⟨_, Lib.hid rfl⟩
  have HXO : Hid (NdOk x) := Lib.hid (by rw [← HX.out]; exact rootR_ok HI.out.ok)
  have HYO : Hid (NdOk y) := Lib.hid (by rw [← HY.out]; exact joinR_okN HA.out HBo.out)
  have hb0 := ((Below.refl _ w).alloc (Nat.le_refl _) (.cells (ndC a).toArray 26)).alloc (by simp) (.cells (ndC b).toArray 26)
  have hr0 := (Below.heap_alloc (w.alloc (.cells (ndC a).toArray 26)) (.cells (ndC b).toArray 26) w.heap.size (by simp)).trans (heap_alloc_new w (.cells (ndC a).toArray 26))
  have hr1 := heap_alloc_new (w.alloc (.cells (ndC a).toArray 26)) (.cells (ndC b).toArray 26)
  rw [World.size_alloc] at hr1
  have HB0 := Lib.hid hb0
  have RA := Lib.hid hr0
  have RB := Lib.hid hr1
  have HI0 := Lib.hid (HI.out.below hb0)
  clear hb0 hr0 hr1
  have d0 : decide ((200 : Int) < (n : Int)) = false := decide_eq_false (by omega)
  have d00 : decide (200 < n) = false := decide_eq_false (by omega)
  rw [show ndV a = .agg (ndC a).toArray from rfl, show ndV b = .agg (ndC b).toArray from rfl]
  go_enter Tryd.func3, Tryd.ntmps3
  go_wp2_with fail
  refine (sane_any _ (Lib.hid (hT.out.below HB0.out))).mono ?_
  rintro e U1 ⟨rfl, hq⟩
  have HB1 := Lib.hid (HB0.out.trans (hq.mono HB0.out.size))
  have R4_1 := Lib.hid (row_kept RA.out hq)
  have R5_1 := Lib.hid (row_kept RB.out hq)
  have HI0_1 := Lib.hid (HI0.out.below hq)
  clear hq HB0 RA RB HI0
  go_wp2_with fail
  refine (root_any ls A n c _ hn HI0_1 (Lib.hid (hT.out.below HB1.out))).mono ?_
  rintro e U2 ⟨rfl, hq⟩
  rw [HX.out, HE1.out]
  have HB2 := Lib.hid (HB1.out.trans (hq.mono HB1.out.size))
  have R4_2 := Lib.hid (row_kept R4_1.out hq)
  have R5_2 := Lib.hid (row_kept R5_1.out hq)
  have HI0_2 := Lib.hid (HI0_1.out.below hq)
  clear hq HB1 R4_1 R5_1 HI0_1
  obtain ⟨V2, HV2⟩ : ∃ V, Hid ((U2.alloc (.cells (ndC zeroN).toArray 26)).setRow U2.heap.size (ndC x).toArray = V) := ⟨_, Lib.hid rfl⟩
  have hlr := laid_row U2 (ndC zeroN).toArray (ndC x).toArray 26
  rw [HV2.out] at hlr
  have HZ2 := Lib.hid (heap_alloc_new U2 (.cells (ndC zeroN).toArray 26))
  have HT2 : Hid (34 = (ndC x).toArray.size) := Lib.hid (by simp [ndC_length HXO.out])
  rw [zeroN_cells] at HZ2 HV2
  have hq := hlr.1
  have HB3 := Lib.hid (HB2.out.trans (hq.mono HB2.out.size))
  have R4_3 := Lib.hid (row_kept R4_2.out hq)
  have R5_3 := Lib.hid (row_kept R5_2.out hq)
  have HI0_3 := Lib.hid (HI0_2.out.below hq)
  have R7_n := Lib.hid hlr.2.2
  clear hq hlr HB2 R4_2 R5_2 HI0_2
  go_wp2_with (refine wpList_store_row rfl 26 (.tmp 7) (.tmp 28) rfl U2.heap.size (ndC x).toArray rfl rfl 26 _ HZ2.out (size34' HXO.out) HT2.out (ndC_one x) ?_; rw [HV2.out])
  refine (rRoot_any ls A n c _ hn HI0_3).mono ?_
  rintro e U3 ⟨rfl, hq⟩
  rw [HX.out, HE1.out]
  have HB4 := Lib.hid (HB3.out.trans (hq.mono HB3.out.size))
  have R4_4 := Lib.hid (row_kept R4_3.out hq)
  have R5_4 := Lib.hid (row_kept R5_3.out hq)
  have R7_4 := Lib.hid (row_kept R7_n.out hq)
  have HI0_4 := Lib.hid (HI0_3.out.below hq)
  clear hq HB3 R4_3 R5_3 R7_n HI0_3
  obtain ⟨V3, HV3⟩ : ∃ V, Hid ((U3.alloc (.cells (ndC zeroN).toArray 26)).setRow U3.heap.size (ndC x).toArray = V) := ⟨_, Lib.hid rfl⟩
  have hlr := laid_row U3 (ndC zeroN).toArray (ndC x).toArray 26
  rw [HV3.out] at hlr
  have HZ3 := Lib.hid (heap_alloc_new U3 (.cells (ndC zeroN).toArray 26))
  have HT3 : Hid (34 = (ndC x).toArray.size) := Lib.hid (by simp [ndC_length HXO.out])
  rw [zeroN_cells] at HZ3 HV3
  have hq := hlr.1
  have HB5 := Lib.hid (HB4.out.trans (hq.mono HB4.out.size))
  have R4_5 := Lib.hid (row_kept R4_4.out hq)
  have R5_5 := Lib.hid (row_kept R5_4.out hq)
  have R7_5 := Lib.hid (row_kept R7_4.out hq)
  have HI0_5 := Lib.hid (HI0_4.out.below hq)
  have R9_n := Lib.hid hlr.2.2
  clear hq hlr HB4 R4_4 R5_4 R7_4 HI0_4
  go_wp2_with (first | (refine wpList_store_row rfl 26 (.tmp 9) (.tmp 33) rfl U3.heap.size (ndC x).toArray rfl rfl 26 _ HZ3.out (size34' HXO.out) HT3.out (ndC_one x) ?_; rw [HV3.out]) | (refine wpList_load_row rfl 26 (.tmp 4) rfl w.heap.size rfl 26 _ (0, 0) _ R4_5.out Tryd.underlying26 rfl (size34' HA.out) ?_) | (refine wpList_load_row rfl 26 (.tmp 5) rfl (w.heap.size + 1) rfl 26 _ (0, 0) _ R5_5.out Tryd.underlying26 rfl (size34' HBo.out) ?_))
  refine (join_any a b _ HA.out HBo.out (Lib.hid (hT.out.below HB5.out))).mono ?_
  rintro e U4 ⟨rfl, hq⟩
  rw [HY.out, HE2.out]
  have HB6 := Lib.hid (HB5.out.trans (hq.mono HB5.out.size))
  have R4_6 := Lib.hid (row_kept R4_5.out hq)
  have R5_6 := Lib.hid (row_kept R5_5.out hq)
  have R7_6 := Lib.hid (row_kept R7_5.out hq)
  have R9_6 := Lib.hid (row_kept R9_n.out hq)
  have HI0_6 := Lib.hid (HI0_5.out.below hq)
  clear hq HB5 R4_5 R5_5 R7_5 R9_n HI0_5
  obtain ⟨V4, HV4⟩ : ∃ V, Hid ((U4.alloc (.cells (ndC zeroN).toArray 26)).setRow U4.heap.size (ndC y).toArray = V) := ⟨_, Lib.hid rfl⟩
  have hlr := laid_row U4 (ndC zeroN).toArray (ndC y).toArray 26
  rw [HV4.out] at hlr
  have HZ4 := Lib.hid (heap_alloc_new U4 (.cells (ndC zeroN).toArray 26))
  have HT4 : Hid (34 = (ndC y).toArray.size) := Lib.hid (by simp [ndC_length HYO.out])
  rw [zeroN_cells] at HZ4 HV4
  have hq := hlr.1
  have HB7 := Lib.hid (HB6.out.trans (hq.mono HB6.out.size))
  have R4_7 := Lib.hid (row_kept R4_6.out hq)
  have R5_7 := Lib.hid (row_kept R5_6.out hq)
  have R7_7 := Lib.hid (row_kept R7_6.out hq)
  have R9_7 := Lib.hid (row_kept R9_6.out hq)
  have HI0_7 := Lib.hid (HI0_6.out.below hq)
  have R11_n := Lib.hid hlr.2.2
  clear hq hlr HB6 R4_6 R5_6 R7_6 R9_6 HI0_6
  go_wp2_with (first | (refine wpList_store_row rfl 26 (.tmp 11) (.tmp 39) rfl U4.heap.size (ndC y).toArray rfl rfl 26 _ HZ4.out (size34' HYO.out) HT4.out (ndC_one y) ?_; rw [HV4.out]) | (refine wpList_load_row rfl 26 (.tmp 4) rfl w.heap.size rfl 26 _ (0, 0) _ R4_7.out Tryd.underlying26 rfl (size34' HA.out) ?_) | (refine wpList_load_row rfl 26 (.tmp 5) rfl (w.heap.size + 1) rfl 26 _ (0, 0) _ R5_7.out Tryd.underlying26 rfl (size34' HBo.out) ?_))
  refine (rjoin_any a b _ HA.out HBo.out).mono ?_
  rintro e U5 ⟨rfl, hq⟩
  rw [HY.out, HE2.out]
  have HB8 := Lib.hid (HB7.out.trans (hq.mono HB7.out.size))
  have R4_8 := Lib.hid (row_kept R4_7.out hq)
  have R5_8 := Lib.hid (row_kept R5_7.out hq)
  have R7_8 := Lib.hid (row_kept R7_7.out hq)
  have R9_8 := Lib.hid (row_kept R9_7.out hq)
  have R11_8 := Lib.hid (row_kept R11_n.out hq)
  have HI0_8 := Lib.hid (HI0_7.out.below hq)
  clear hq HB7 R4_7 R5_7 R7_7 R9_7 R11_n HI0_7
  obtain ⟨V5, HV5⟩ : ∃ V, Hid ((U5.alloc (.cells (ndC zeroN).toArray 26)).setRow U5.heap.size (ndC y).toArray = V) := ⟨_, Lib.hid rfl⟩
  have hlr := laid_row U5 (ndC zeroN).toArray (ndC y).toArray 26
  rw [HV5.out] at hlr
  have HZ5 := Lib.hid (heap_alloc_new U5 (.cells (ndC zeroN).toArray 26))
  have HT5 : Hid (34 = (ndC y).toArray.size) := Lib.hid (by simp [ndC_length HYO.out])
  rw [zeroN_cells] at HZ5 HV5
  have hq := hlr.1
  have HB9 := Lib.hid (HB8.out.trans (hq.mono HB8.out.size))
  have R4_9 := Lib.hid (row_kept R4_8.out hq)
  have R5_9 := Lib.hid (row_kept R5_8.out hq)
  have R7_9 := Lib.hid (row_kept R7_8.out hq)
  have R9_9 := Lib.hid (row_kept R9_8.out hq)
  have R11_9 := Lib.hid (row_kept R11_8.out hq)
  have HI0_9 := Lib.hid (HI0_8.out.below hq)
  have R13_n := Lib.hid hlr.2.2
  clear hq hlr HB8 R4_8 R5_8 R7_8 R9_8 R11_8 HI0_8
  have q1 : (e1 == e1) = true := beq_self_eq_true e1
  have q2 : (e2 == e2) = true := beq_self_eq_true e2
  have q3 : decide (e1 = e1) = true := decide_eq_true rfl
  have q4 : decide (e2 = e2) = true := decide_eq_true rfl
  go_wp2_with (first | (refine wpList_store_row rfl 26 (.tmp 13) (.tmp 45) rfl U5.heap.size (ndC y).toArray rfl rfl 26 _ HZ5.out (size34' HYO.out) HT5.out (ndC_one y) ?_; rw [HV5.out]) | (refine wpList_load_row rfl 26 (.tmp 7) rfl U2.heap.size rfl 26 _ (0, 0) _ R7_9.out Tryd.underlying26 rfl (size34' HXO.out) ?_) | (refine wpList_load_row rfl 26 (.tmp 9) rfl U3.heap.size rfl 26 _ (0, 0) _ R9_9.out Tryd.underlying26 rfl (size34' HXO.out) ?_) | (refine wpList_unguard rfl ?_; refine wpList_load_row rfl 26 (.tmp 11) rfl U4.heap.size rfl 26 _ (0, 0) _ R11_9.out Tryd.underlying26 rfl (size34' HYO.out) ?_) | (refine wpList_unguard rfl ?_; refine wpList_load_row rfl 26 (.tmp 13) rfl U5.heap.size rfl 26 _ (0, 0) _ R13_n.out Tryd.underlying26 rfl (size34' HYO.out) ?_) | (refine wpList_eql_nd rfl (.tmp 47) (.tmp 48) _ rfl x x rfl rfl HXO.out HXO.out ?_; rw [ndEq_refl]) | (refine wpList_unguard rfl ?_; refine wpList_eql_nd rfl (.tmp 56) (.tmp 57) _ rfl y y rfl rfl HYO.out HYO.out ?_; rw [ndEq_refl]))
  go_ret
  exact ⟨rfl, HB9.out⟩
set_option maxRecDepth 100000 in
set_option maxHeartbeats 8000000 in
theorem many (ls : List Nd) (A : Option Addr) (n c : Nat) (a b : Nd) (w : World) (HI : Hid (InN w A n c ls)) (hn : n ≤ 9223372036854775807) (HA : Hid (NdOk a)) (HBo : Hid (NdOk b)) (hT : Hid (Tabs w)) (h : 4096 < n) :
    Calls Tryd.prog 3 #[.slice A n c, ndV a, ndV b] w fun e w' => e = .returned (.bool true) ∧ Below w.heap.size w w' := by
  obtain ⟨x, HX⟩ : ∃ x, Hid (rootR ls = x) := ⟨_, Lib.hid rfl⟩
  obtain ⟨e1, HE1⟩ : ∃ x, Hid (rootE ls = x) := ⟨_, Lib.hid rfl⟩
  obtain ⟨y, HY⟩ : ∃ x, Hid (joinR a b = x) := ⟨_, Lib.hid rfl⟩
  obtain ⟨e2, HE2⟩ : ∃ x, Hid (joinE a b = x) := ⟨_, Lib.hid rfl⟩
  have HXO : Hid (NdOk x) := Lib.hid (by rw [← HX.out]; exact rootR_ok HI.out.ok)
  have HYO : Hid (NdOk y) := Lib.hid (by rw [← HY.out]; exact joinR_okN HA.out HBo.out)
  have hb0 := ((Below.refl _ w).alloc (Nat.le_refl _) (.cells (ndC a).toArray 26)).alloc (by simp) (.cells (ndC b).toArray 26)
  have hr0 := (Below.heap_alloc (w.alloc (.cells (ndC a).toArray 26)) (.cells (ndC b).toArray 26) w.heap.size (by simp)).trans (heap_alloc_new w (.cells (ndC a).toArray 26))
  have hr1 := heap_alloc_new (w.alloc (.cells (ndC a).toArray 26)) (.cells (ndC b).toArray 26)
  rw [World.size_alloc] at hr1
  have HB0 := Lib.hid hb0
  have RA := Lib.hid hr0
  have RB := Lib.hid hr1
  have HI0 := Lib.hid (HI.out.below hb0)
  clear hb0 hr0 hr1
  have d0 : decide ((200 : Int) < (n : Int)) = true := decide_eq_true (by omega)
  have d00 : decide (200 < n) = true := decide_eq_true (by omega)
  have d1 : decide ((n : Int) ≤ 4096) = false := decide_eq_false (by omega)
  have d11 : decide (n ≤ 4096) = false := decide_eq_false (by omega)
  rw [show ndV a = .agg (ndC a).toArray from rfl, show ndV b = .agg (ndC b).toArray from rfl]
  go_enter Tryd.func3, Tryd.ntmps3
  go_wp2_with fail
  refine (sane_any _ (Lib.hid (hT.out.below HB0.out))).mono ?_
  rintro e U1 ⟨rfl, hq⟩
  have HB1 := Lib.hid (HB0.out.trans (hq.mono HB0.out.size))
  have R4_1 := Lib.hid (row_kept RA.out hq)
  have R5_1 := Lib.hid (row_kept RB.out hq)
  have HI0_1 := Lib.hid (HI0.out.below hq)
  clear hq HB0 RA RB HI0
  go_wp2_with fail
  refine (root_any ls A n c _ hn HI0_1 (Lib.hid (hT.out.below HB1.out))).mono ?_
  rintro e U2 ⟨rfl, hq⟩
  rw [HX.out, HE1.out]
  have HB2 := Lib.hid (HB1.out.trans (hq.mono HB1.out.size))
  have R4_2 := Lib.hid (row_kept R4_1.out hq)
  have R5_2 := Lib.hid (row_kept R5_1.out hq)
  have HI0_2 := Lib.hid (HI0_1.out.below hq)
  clear hq HB1 R4_1 R5_1 HI0_1
  obtain ⟨V2, HV2⟩ : ∃ V, Hid ((U2.alloc (.cells (ndC zeroN).toArray 26)).setRow U2.heap.size (ndC x).toArray = V) := ⟨_, Lib.hid rfl⟩
  have hlr := laid_row U2 (ndC zeroN).toArray (ndC x).toArray 26
  rw [HV2.out] at hlr
  have HZ2 := Lib.hid (heap_alloc_new U2 (.cells (ndC zeroN).toArray 26))
  have HT2 : Hid (34 = (ndC x).toArray.size) := Lib.hid (by simp [ndC_length HXO.out])
  rw [zeroN_cells] at HZ2 HV2
  have hq := hlr.1
  have HB3 := Lib.hid (HB2.out.trans (hq.mono HB2.out.size))
  have R4_3 := Lib.hid (row_kept R4_2.out hq)
  have R5_3 := Lib.hid (row_kept R5_2.out hq)
  have HI0_3 := Lib.hid (HI0_2.out.below hq)
  have R7_n := Lib.hid hlr.2.2
  clear hq hlr HB2 R4_2 R5_2 HI0_2
  go_wp2_with (refine wpList_store_row rfl 26 (.tmp 7) (.tmp 28) rfl U2.heap.size (ndC x).toArray rfl rfl 26 _ HZ2.out (size34' HXO.out) HT2.out (ndC_one x) ?_; rw [HV2.out])
  refine (rRoot_any ls A n c _ hn HI0_3).mono ?_
  rintro e U3 ⟨rfl, hq⟩
  rw [HX.out, HE1.out]
  have HB4 := Lib.hid (HB3.out.trans (hq.mono HB3.out.size))
  have R4_4 := Lib.hid (row_kept R4_3.out hq)
  have R5_4 := Lib.hid (row_kept R5_3.out hq)
  have R7_4 := Lib.hid (row_kept R7_n.out hq)
  have HI0_4 := Lib.hid (HI0_3.out.below hq)
  clear hq HB3 R4_3 R5_3 R7_n HI0_3
  obtain ⟨V3, HV3⟩ : ∃ V, Hid ((U3.alloc (.cells (ndC zeroN).toArray 26)).setRow U3.heap.size (ndC x).toArray = V) := ⟨_, Lib.hid rfl⟩
  have hlr := laid_row U3 (ndC zeroN).toArray (ndC x).toArray 26
  rw [HV3.out] at hlr
  have HZ3 := Lib.hid (heap_alloc_new U3 (.cells (ndC zeroN).toArray 26))
  have HT3 : Hid (34 = (ndC x).toArray.size) := Lib.hid (by simp [ndC_length HXO.out])
  rw [zeroN_cells] at HZ3 HV3
  have hq := hlr.1
  have HB5 := Lib.hid (HB4.out.trans (hq.mono HB4.out.size))
  have R4_5 := Lib.hid (row_kept R4_4.out hq)
  have R5_5 := Lib.hid (row_kept R5_4.out hq)
  have R7_5 := Lib.hid (row_kept R7_4.out hq)
  have HI0_5 := Lib.hid (HI0_4.out.below hq)
  have R9_n := Lib.hid hlr.2.2
  clear hq hlr HB4 R4_4 R5_4 R7_4 HI0_4
  go_wp2_with (first | (refine wpList_store_row rfl 26 (.tmp 9) (.tmp 33) rfl U3.heap.size (ndC x).toArray rfl rfl 26 _ HZ3.out (size34' HXO.out) HT3.out (ndC_one x) ?_; rw [HV3.out]) | (refine wpList_load_row rfl 26 (.tmp 4) rfl w.heap.size rfl 26 _ (0, 0) _ R4_5.out Tryd.underlying26 rfl (size34' HA.out) ?_) | (refine wpList_load_row rfl 26 (.tmp 5) rfl (w.heap.size + 1) rfl 26 _ (0, 0) _ R5_5.out Tryd.underlying26 rfl (size34' HBo.out) ?_))
  refine (join_any a b _ HA.out HBo.out (Lib.hid (hT.out.below HB5.out))).mono ?_
  rintro e U4 ⟨rfl, hq⟩
  rw [HY.out, HE2.out]
  have HB6 := Lib.hid (HB5.out.trans (hq.mono HB5.out.size))
  have R4_6 := Lib.hid (row_kept R4_5.out hq)
  have R5_6 := Lib.hid (row_kept R5_5.out hq)
  have R7_6 := Lib.hid (row_kept R7_5.out hq)
  have R9_6 := Lib.hid (row_kept R9_n.out hq)
  have HI0_6 := Lib.hid (HI0_5.out.below hq)
  clear hq HB5 R4_5 R5_5 R7_5 R9_n HI0_5
  obtain ⟨V4, HV4⟩ : ∃ V, Hid ((U4.alloc (.cells (ndC zeroN).toArray 26)).setRow U4.heap.size (ndC y).toArray = V) := ⟨_, Lib.hid rfl⟩
  have hlr := laid_row U4 (ndC zeroN).toArray (ndC y).toArray 26
  rw [HV4.out] at hlr
  have HZ4 := Lib.hid (heap_alloc_new U4 (.cells (ndC zeroN).toArray 26))
  have HT4 : Hid (34 = (ndC y).toArray.size) := Lib.hid (by simp [ndC_length HYO.out])
  rw [zeroN_cells] at HZ4 HV4
  have hq := hlr.1
  have HB7 := Lib.hid (HB6.out.trans (hq.mono HB6.out.size))
  have R4_7 := Lib.hid (row_kept R4_6.out hq)
  have R5_7 := Lib.hid (row_kept R5_6.out hq)
  have R7_7 := Lib.hid (row_kept R7_6.out hq)
  have R9_7 := Lib.hid (row_kept R9_6.out hq)
  have HI0_7 := Lib.hid (HI0_6.out.below hq)
  have R11_n := Lib.hid hlr.2.2
  clear hq hlr HB6 R4_6 R5_6 R7_6 R9_6 HI0_6
  go_wp2_with (first | (refine wpList_store_row rfl 26 (.tmp 11) (.tmp 39) rfl U4.heap.size (ndC y).toArray rfl rfl 26 _ HZ4.out (size34' HYO.out) HT4.out (ndC_one y) ?_; rw [HV4.out]) | (refine wpList_load_row rfl 26 (.tmp 4) rfl w.heap.size rfl 26 _ (0, 0) _ R4_7.out Tryd.underlying26 rfl (size34' HA.out) ?_) | (refine wpList_load_row rfl 26 (.tmp 5) rfl (w.heap.size + 1) rfl 26 _ (0, 0) _ R5_7.out Tryd.underlying26 rfl (size34' HBo.out) ?_))
  refine (rjoin_any a b _ HA.out HBo.out).mono ?_
  rintro e U5 ⟨rfl, hq⟩
  rw [HY.out, HE2.out]
  have HB8 := Lib.hid (HB7.out.trans (hq.mono HB7.out.size))
  have R4_8 := Lib.hid (row_kept R4_7.out hq)
  have R5_8 := Lib.hid (row_kept R5_7.out hq)
  have R7_8 := Lib.hid (row_kept R7_7.out hq)
  have R9_8 := Lib.hid (row_kept R9_7.out hq)
  have R11_8 := Lib.hid (row_kept R11_n.out hq)
  have HI0_8 := Lib.hid (HI0_7.out.below hq)
  clear hq HB7 R4_7 R5_7 R7_7 R9_7 R11_n HI0_7
  obtain ⟨V5, HV5⟩ : ∃ V, Hid ((U5.alloc (.cells (ndC zeroN).toArray 26)).setRow U5.heap.size (ndC y).toArray = V) := ⟨_, Lib.hid rfl⟩
  have hlr := laid_row U5 (ndC zeroN).toArray (ndC y).toArray 26
  rw [HV5.out] at hlr
  have HZ5 := Lib.hid (heap_alloc_new U5 (.cells (ndC zeroN).toArray 26))
  have HT5 : Hid (34 = (ndC y).toArray.size) := Lib.hid (by simp [ndC_length HYO.out])
  rw [zeroN_cells] at HZ5 HV5
  have hq := hlr.1
  have HB9 := Lib.hid (HB8.out.trans (hq.mono HB8.out.size))
  have R4_9 := Lib.hid (row_kept R4_8.out hq)
  have R5_9 := Lib.hid (row_kept R5_8.out hq)
  have R7_9 := Lib.hid (row_kept R7_8.out hq)
  have R9_9 := Lib.hid (row_kept R9_8.out hq)
  have R11_9 := Lib.hid (row_kept R11_8.out hq)
  have HI0_9 := Lib.hid (HI0_8.out.below hq)
  have R13_n := Lib.hid hlr.2.2
  clear hq hlr HB8 R4_8 R5_8 R7_8 R9_8 R11_8 HI0_8
  have q1 : (e1 == e1) = true := beq_self_eq_true e1
  have q2 : (e2 == e2) = true := beq_self_eq_true e2
  have q3 : decide (e1 = e1) = true := decide_eq_true rfl
  have q4 : decide (e2 = e2) = true := decide_eq_true rfl
  go_wp2_with (first | (refine wpList_store_row rfl 26 (.tmp 13) (.tmp 45) rfl U5.heap.size (ndC y).toArray rfl rfl 26 _ HZ5.out (size34' HYO.out) HT5.out (ndC_one y) ?_; rw [HV5.out]) | (refine wpList_load_row rfl 26 (.tmp 7) rfl U2.heap.size rfl 26 _ (0, 0) _ R7_9.out Tryd.underlying26 rfl (size34' HXO.out) ?_) | (refine wpList_load_row rfl 26 (.tmp 9) rfl U3.heap.size rfl 26 _ (0, 0) _ R9_9.out Tryd.underlying26 rfl (size34' HXO.out) ?_) | (refine wpList_unguard rfl ?_; refine wpList_load_row rfl 26 (.tmp 11) rfl U4.heap.size rfl 26 _ (0, 0) _ R11_9.out Tryd.underlying26 rfl (size34' HYO.out) ?_) | (refine wpList_unguard rfl ?_; refine wpList_load_row rfl 26 (.tmp 13) rfl U5.heap.size rfl 26 _ (0, 0) _ R13_n.out Tryd.underlying26 rfl (size34' HYO.out) ?_) | (refine wpList_eql_nd rfl (.tmp 47) (.tmp 48) _ rfl x x rfl rfl HXO.out HXO.out ?_; rw [ndEq_refl]) | (refine wpList_unguard rfl ?_; refine wpList_eql_nd rfl (.tmp 56) (.tmp 57) _ rfl y y rfl rfl HYO.out HYO.out ?_; rw [ndEq_refl]))
  go_ret
  exact ⟨rfl, HB9.out⟩
set_option maxRecDepth 100000 in
set_option maxHeartbeats 8000000 in
theorem mid (ls : List Nd) (A : Option Addr) (n c : Nat) (a b : Nd) (w : World) (HI : Hid (InN w A n c ls)) (hn : n ≤ 9223372036854775807) (HA : Hid (NdOk a)) (HBo : Hid (NdOk b)) (hT : Hid (Tabs w)) (h : 200 < n) (h2 : n ≤ 4096) :
    Calls Tryd.prog 3 #[.slice A n c, ndV a, ndV b] w fun e w' => e = .returned (.bool true) ∧ Below w.heap.size w w' := by
  obtain ⟨x, HX⟩ : ∃ x, Hid (rootR ls = x) := ⟨_, Lib.hid rfl⟩
  obtain ⟨e1, HE1⟩ : ∃ x, Hid (rootE ls = x) := ⟨_, Lib.hid rfl⟩
  obtain ⟨y, HY⟩ : ∃ x, Hid (joinR a b = x) := ⟨_, Lib.hid rfl⟩
  obtain ⟨e2, HE2⟩ : ∃ x, Hid (joinE a b = x) := ⟨_, Lib.hid rfl⟩
  have HXO : Hid (NdOk x) := Lib.hid (by rw [← HX.out]; exact rootR_ok HI.out.ok)
  have HYO : Hid (NdOk y) := Lib.hid (by rw [← HY.out]; exact joinR_okN HA.out HBo.out)
  have hb0 := ((Below.refl _ w).alloc (Nat.le_refl _) (.cells (ndC a).toArray 26)).alloc (by simp) (.cells (ndC b).toArray 26)
  have hr0 := (Below.heap_alloc (w.alloc (.cells (ndC a).toArray 26)) (.cells (ndC b).toArray 26) w.heap.size (by simp)).trans (heap_alloc_new w (.cells (ndC a).toArray 26))
  have hr1 := heap_alloc_new (w.alloc (.cells (ndC a).toArray 26)) (.cells (ndC b).toArray 26)
  rw [World.size_alloc] at hr1
  have HB0 := Lib.hid hb0
  have RA := Lib.hid hr0
  have RB := Lib.hid hr1
  have HI0 := Lib.hid (HI.out.below hb0)
  clear hb0 hr0 hr1
  have d0 : decide ((200 : Int) < (n : Int)) = true := decide_eq_true (by omega)
  have d00 : decide (200 < n) = true := decide_eq_true (by omega)
  have d1 : decide ((n : Int) ≤ 4096) = true := decide_eq_true (by omega)
  have d11 : decide (n ≤ 4096) = true := decide_eq_true (by omega)
  rw [show ndV a = .agg (ndC a).toArray from rfl, show ndV b = .agg (ndC b).toArray from rfl]
  go_enter Tryd.func3, Tryd.ntmps3
  go_wp2_with fail
  refine (sane_any _ (Lib.hid (hT.out.below HB0.out))).mono ?_
  rintro e U1 ⟨rfl, hq⟩
  have HB1 := Lib.hid (HB0.out.trans (hq.mono HB0.out.size))
  have R4_1 := Lib.hid (row_kept RA.out hq)
  have R5_1 := Lib.hid (row_kept RB.out hq)
  have HI0_1 := Lib.hid (HI0.out.below hq)
  clear hq HB0 RA RB HI0
  go_wp2_with fail
  go_ret
  exact ⟨rfl, HB1.out⟩
theorem walk (w : World) (hT : Tabs w) (A : Option Addr) (n c : Nat) (ls : List Nd) (hi : InN w A n c ls) (hm : n ≤ maxLen) (a : Nd) (ha : NdOk a) (b : Nd) (hb : NdOk b) :
    Calls Tryd.prog 3 #[.slice A n c, ndV a, ndV b] w fun e w' => e = .returned (.bool true) ∧ Below w.heap.size w w' := by
  have hn : n ≤ 9223372036854775807 := by unfold maxLen at hm; omega
  by_cases h : n ≤ 200
  · exact few ls A n c a b w (Lib.hid hi) hn (Lib.hid ha) (Lib.hid hb) (Lib.hid hT) h
  · by_cases h2 : n ≤ 4096
    · exact mid ls A n c a b w (Lib.hid hi) hn (Lib.hid ha) (Lib.hid hb) (Lib.hid hT) (by omega) h2
    · exact many ls A n c a b w (Lib.hid hi) hn (Lib.hid ha) (Lib.hid hb) (Lib.hid hT) (by omega)
set_option maxRecDepth 100000 in
theorem lifted (os : Os) (started : os.Started) (H : Type) (enc : TypeId × Value → H) :
    ReturnsInHanded {} Tryd.checked os 3 .any (fun w args => (Rows.treeRootSpecSpec.pre enc Tryd.prog Tryd.f3 [] false w args ∧ laidMetH Tryd.prog laidL w) ∧ sizedMet enc Tryd.prog Tryd.f3 (OpenSpec.ofChange Rows.treeRootSpecSpec) false w args)
      (Rows.treeRootSpecSpec.post enc Tryd.prog Tryd.f3 false true false false) := by
  refine returnsInHanded_of_change_and (C := Tryd.checked) (X := fun w _ => laidMetH Tryd.prog laidL w) (fun _ _ _ hh h => h.of_heap hh) own started (by kernel_rfl) Tryd.func3
    (ChangeSpec.witness_shaped (enc := enc) (C := Tryd.checked) (os := os) (X := fun w _ => laidMetH Tryd.prog laidL w) false (World.doorLaid Tryd.prog 400 os) #[.slice none 0 0, .agg (Array.replicate 32 (.int .u8 0) ++ #[.int .i64 0, .int .i64 0]), .agg (Array.replicate 32 (.int .u8 0) ++ #[.int .i64 0, .int .i64 0])] 8 rfl (World.shaped_of_RefB (by kernel_rfl) (by kernel_rfl)) (by kernel_rfl) (by kernel_rfl) (by kernel_rfl) (door_met os _)) ?_
  intro W base args ds gs before hval0 hW _ hsz0 hL _
  have hval : ∀ (j : Nat) t v, Tryd.f3.params[j]? = some t → args[j]? = some v → Value.okWide Tryd.prog W .any base t v := hval0
  have hW' := hW
  obtain ⟨p, q, hA0, hV, rfl, hfz, hnd⟩ := hW
  have hA : DataW.TrodAll enc Tryd.prog W 0 (fun _ => true) true Tryd.f3.params.toList args.toList ds p := hA0
  have hsz : (DataW.weightsEach Tryd.prog (Tryd.f3.params.toList ++ Rows.treeRootSpecSpec.plain.varTypes Tryd.prog) (ds ++ gs)).all (· ≤ reachBytes) = true := hsz0
  rw [Tryd.params3] at hA hval hsz
  obtain ⟨v0, vs0, d0, ds0, p0, q0, hargs, rfl, rfl, h0, r0⟩ := trodAll_cons hA
  obtain ⟨v1, vs1, d1, ds1, p1, q1, rfl, rfl, rfl, h1, r1⟩ := trodAll_cons r0
  obtain ⟨v2, vs2, d2, ds2, p2, q2, rfl, rfl, rfl, h2, r2⟩ := trodAll_cons r1
  obtain ⟨rfl, rfl, rfl⟩ := trodAll_nil r2
  obtain rfl : args = #[v0, v1, v2] := by cases args; simp_all
  obtain ⟨rfl, rfl⟩ := trodVars_none hV
  obtain ⟨A0, n0, c0, l0, rfl, e0, f0⟩ := arg_nds (hval 0 22 v0 rfl rfl) h0
  obtain ⟨l1, rfl, e1⟩ := arg_nd (hval 1 26 v1 rfl rfl) h1
  obtain ⟨l2, rfl, e2⟩ := arg_nd (hval 2 26 v2 rfl rfl) h2
  refine (walk W (tabs_of hL) A0 n0 c0 l0 e0 f0 l1 e1 l2 e2).mono fun e W' ⟨he, hg⟩ => ?_
  subst he
  exact ⟨_, rfl, law_post (by kernel_rfl) rfl rfl (fun _ => ⟨rfl, rfl, rfl⟩) hW' hg⟩
theorem over : Rows.treeRootSpecRow.holds Tryd.pinned (OpenSpec.ofChange Rows.treeRootSpecSpec) :=
  OpenClaim.holds_of_wide 3 Tryd.f3 rfl rfl rfl rfl rfl rfl rfl ⟨rfl, rfl, rfl, rfl, rfl⟩ rfl rfl rfl rfl rfl (by kernel_rfl) Tryd.func3 (by kernel_rfl)
    (of_decide_eq_true (by kernel_rfl)) (by unfold Func.isWrapper; first | (rw [if_pos (by decide +kernel)]; kernel_rfl) | (rw [if_neg (by decide +kernel)]; exact ⟨rfl, rfl⟩))
    (fun os started H enc _ => lifted os started H enc)
/-- THE STATEMENT: the card -/
theorem proved : Rows.TreeRootSpecCardSaid :=
  Claim7.holds_tied_plain_at .later [] [.data, .data] true Rows.treeRootSpecCard.stood.harness false
    over (fun _ h => by cases h) (by kernel_rfl) (fun _ h => by cases h) treeRootSpec_row_tie rfl ⟨rfl, rfl⟩ (by kernel_rfl) rfl
    (fun f fn hf hfn => by
      obtain rfl : f = 3 := Option.some.inj ((show Tryd.prog.funcNamed "sizar/sizarlaw41.TreeRootSpec" = some 3 by kernel_rfl).symm.trans hf) |>.symm
      obtain rfl : fn = Tryd.f3 := (Option.some.inj (Tryd.func3.symm.trans hfn)).symm
      exact ⟨by kernel_rfl, fun j t ht => stands_of (show Tryd.f3.params.all (fun t => !Tryd.prog.wantsStandIn t) = true by kernel_rfl) ht⟩)
    (by kernel_rfl)
#print axioms proved
end Go.Proofs.YtgcmbiegbclhmaaDoor.treeRootSpec
