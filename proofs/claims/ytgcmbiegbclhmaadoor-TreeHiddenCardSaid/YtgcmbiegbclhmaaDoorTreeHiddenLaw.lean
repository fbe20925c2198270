/- TreeHidden: for all lines the law returns true: the sums of the root do not depend on the salts. No conditions. -/
import Derived.Test.YtgcmbiegbclhmaaDoorArgNd
import Derived.Test.YtgcmbiegbclhmaaDoorTreeLawKit
import Derived.Lib.SmallJoins
import Derived.Test.YtgcmbiegbclhmaaDoorTreeLvMath
import Derived.Test.YtgcmbiegbclhmaaDoorCards
import Derived.Test.YtgcmbiegbclhmaaDoorTie
namespace Go.Proofs.YtgcmbiegbclhmaaDoor.treeHidden
open Go.ChangeShapes Go.WideShapes Go.ChangeAt Go.RowKit SzSha SzTree
set_option linter.unusedVariables false
set_option maxRecDepth 100000 in
set_option maxHeartbeats 8000000 in
theorem big (ls : List Ln) (A : Option Addr) (n c : Nat) (p q : List Nat) (w : World) (HI : Hid (InLn w A n c ls)) (hp : Hid (p.length = 32)) (bp : Hid (Bytes p)) (hq : Hid (q.length = 32)) (bq : Hid (Bytes q)) (hT : Hid (Tabs w)) (h : 24 < n) :
    Calls Tryd.prog 10 #[.slice A n c, dgV p, dgV q] w fun e w' => e = .returned (.bool true) ∧ Below w.heap.size w w' := by
  have d0 : decide ((24 : Int) < (n : Int)) = true := decide_eq_true (by omega)
  have d00 : decide (24 < n) = true := decide_eq_true h
  have HNE := Lib.hid HI.out.len
  have hcap := HI.out.cap
  obtain ⟨X, HX⟩ : ∃ X, Hid ((p.map fun y => Value.int .u8 (y : Nat)).toArray = X) := ⟨_, Lib.hid rfl⟩
  obtain ⟨Y, HY⟩ : ∃ X, Hid ((q.map fun y => Value.int .u8 (y : Nat)).toArray = X) := ⟨_, Lib.hid rfl⟩
  have HDX : Hid (dgV p = .agg X) := Lib.hid (by unfold dgV; rw [HX.out])
  have HDY : Hid (dgV q = .agg Y) := Lib.hid (by unfold dgV; rw [HY.out])
  have HSX : Hid ((Tryd.prog.info? 24).map (·.size) = some X.size) := Lib.hid (by rw [← HX.out]; exact size32 _ hp.out)
  have HSY : Hid ((Tryd.prog.info? 24).map (·.size) = some Y.size) := Lib.hid (by rw [← HY.out]; exact size32 _ hq.out)
  have hb0 := ((Below.refl _ w).alloc (Nat.le_refl _) (.cells X 24)).alloc (by simp) (.cells Y 24)
  have hr0 := (Below.heap_alloc (w.alloc (.cells X 24)) (.cells Y 24) w.heap.size (by simp)).trans (heap_alloc_new w (.cells X 24))
  have hr1 := heap_alloc_new (w.alloc (.cells X 24)) (.cells Y 24)
  rw [World.size_alloc] at hr1
  have HB0 := Lib.hid hb0
  have QA := Lib.hid hr0
  have QB := Lib.hid hr1
  clear hb0 hr0 hr1 HX HY
  rw [HDX.out, HDY.out]
  go_enter Tryd.func10, Tryd.ntmps10
  go_wp2_with fail
  refine (sane_any _ (Lib.hid (hT.out.below HB0.out))).mono ?_
  rintro e U1 ⟨rfl, hq⟩
  have HB1 := Lib.hid (HB0.out.trans (hq.mono HB0.out.size))
  have QA_1 := Lib.hid (row_kept QA.out hq)
  have QB_1 := Lib.hid (row_kept QB.out hq)
  clear hq HB0 QA QB
  go_wp2_with fail
  go_ret
  exact ⟨rfl, HB1.out⟩
set_option maxRecDepth 100000 in
set_option maxHeartbeats 8000000 in
theorem bad (ls : List Ln) (A : Option Addr) (n c : Nat) (p q : List Nat) (w : World) (HI : Hid (InLn w A n c ls)) (hp : Hid (p.length = 32)) (bp : Hid (Bytes p)) (hq : Hid (q.length = 32)) (bq : Hid (Bytes q)) (hT : Hid (Tabs w)) (h : n ≤ 24) (hls : lsB ls = false) :
    Calls Tryd.prog 10 #[.slice A n c, dgV p, dgV q] w fun e w' => e = .returned (.bool true) ∧ Below w.heap.size w w' := by
  have d0 : decide ((24 : Int) < (n : Int)) = false := decide_eq_false (by omega)
  have d00 : decide (24 < n) = false := decide_eq_false (by omega)
  have HLS := Lib.hid hls
  clear hls
  have HNE := Lib.hid HI.out.len
  have hcap := HI.out.cap
  obtain ⟨X, HX⟩ : ∃ X, Hid ((p.map fun y => Value.int .u8 (y : Nat)).toArray = X) := ⟨_, Lib.hid rfl⟩
  obtain ⟨Y, HY⟩ : ∃ X, Hid ((q.map fun y => Value.int .u8 (y : Nat)).toArray = X) := ⟨_, Lib.hid rfl⟩
  have HDX : Hid (dgV p = .agg X) := Lib.hid (by unfold dgV; rw [HX.out])
  have HDY : Hid (dgV q = .agg Y) := Lib.hid (by unfold dgV; rw [HY.out])
  have HSX : Hid ((Tryd.prog.info? 24).map (·.size) = some X.size) := Lib.hid (by rw [← HX.out]; exact size32 _ hp.out)
  have HSY : Hid ((Tryd.prog.info? 24).map (·.size) = some Y.size) := Lib.hid (by rw [← HY.out]; exact size32 _ hq.out)
  have hb0 := ((Below.refl _ w).alloc (Nat.le_refl _) (.cells X 24)).alloc (by simp) (.cells Y 24)
  have hr0 := (Below.heap_alloc (w.alloc (.cells X 24)) (.cells Y 24) w.heap.size (by simp)).trans (heap_alloc_new w (.cells X 24))
  have hr1 := heap_alloc_new (w.alloc (.cells X 24)) (.cells Y 24)
  rw [World.size_alloc] at hr1
  have HB0 := Lib.hid hb0
  have QA := Lib.hid hr0
  have QB := Lib.hid hr1
  clear hb0 hr0 hr1 HX HY
  rw [HDX.out, HDY.out]
  go_enter Tryd.func10, Tryd.ntmps10
  go_wp2_with fail
  refine (sane_any _ (Lib.hid (hT.out.below HB0.out))).mono ?_
  rintro e U1 ⟨rfl, hq⟩
  have HB1 := Lib.hid (HB0.out.trans (hq.mono HB0.out.size))
  have QA_1 := Lib.hid (row_kept QA.out hq)
  have QB_1 := Lib.hid (row_kept QB.out hq)
  clear hq HB0 QA QB
  go_wp2_with (refine wpList_load_row rfl 24 (.tmp 4) rfl w.heap.size rfl 24 _ (0, 0) _ QA_1.out Tryd.underlying24 rfl HSX.out ?_; rw [← HDX.out])
  refine (leaves_any ls p A n c _ (by omega) (Lib.hid (HI.out.below HB1.out)) hp bp (Lib.hid (hT.out.below HB1.out))).mono ?_
  rintro e U2 ⟨A1, n1, c1, rfl, hin1, hq⟩
  rw [HLS.out]
  rw [HLS.out] at hin1
  have HI1 := Lib.hid hin1
  clear hin1
  have HB2 := Lib.hid (HB1.out.trans (hq.mono HB1.out.size))
  have QA_2 := Lib.hid (row_kept QA_1.out hq)
  have QB_2 := Lib.hid (row_kept QB_1.out hq)
  clear hq HB1 QA_1 QB_1
  go_wp2_with (refine wpList_load_row rfl 24 (.tmp 5) rfl (w.heap.size + 1) rfl 24 _ (0, 0) _ QB_2.out Tryd.underlying24 rfl HSY.out ?_; rw [← HDY.out])
  refine (leaves_any ls q A n c _ (by omega) (Lib.hid (HI.out.below HB2.out)) hq bq (Lib.hid (hT.out.below HB2.out))).mono ?_
  rintro e U3 ⟨A2, n2, c2, rfl, hin2, hq⟩
  rw [HLS.out]
  rw [HLS.out] at hin2
  have HI2 := Lib.hid hin2
  clear hin2
  have HB3 := Lib.hid (HB2.out.trans (hq.mono HB2.out.size))
  have QA_3 := Lib.hid (row_kept QA_2.out hq)
  have QB_3 := Lib.hid (row_kept QB_2.out hq)
  have HI1_3 := Lib.hid (HI1.out.below hq)
  clear hq HB2 QA_2 QB_2 HI1
  go_wp2_with fail
  go_ret
  exact ⟨rfl, HB3.out⟩
set_option maxRecDepth 100000 in
set_option maxHeartbeats 8000000 in
theorem good (ls : List Ln) (A : Option Addr) (n c : Nat) (p q : List Nat) (w : World) (HI : Hid (InLn w A n c ls)) (hp : Hid (p.length = 32)) (bp : Hid (Bytes p)) (hq : Hid (q.length = 32)) (bq : Hid (Bytes q)) (hT : Hid (Tabs w)) (h : n ≤ 24) (hls : lsB ls = true) :
    Calls Tryd.prog 10 #[.slice A n c, dgV p, dgV q] w fun e w' => e = .returned (.bool true) ∧ Below w.heap.size w w' := by
  have d0 : decide ((24 : Int) < (n : Int)) = false := decide_eq_false (by omega)
  have d00 : decide (24 < n) = false := decide_eq_false (by omega)
  have HLS := Lib.hid hls
  have hn1000 : ls.length ≤ 1000 := by rw [HI.out.len]; omega
  have HVP : Hid (rootE (lvs ls p) = 0) := Lib.hid (rootE_lvs p hls hn1000)
  have HVQ : Hid (rootE (lvs ls q) = 0) := Lib.hid (rootE_lvs q hls hn1000)
  have HOP := Lib.hid (lvs_ok p hls)
  have HOQ := Lib.hid (lvs_ok q hls)
  have HHI := Lib.hid (rootR_hid p q hls hn1000)
  obtain ⟨x, HXR⟩ : ∃ x, Hid (rootR (lvs ls p) = x) := ⟨_, Lib.hid rfl⟩
  obtain ⟨y, HYR⟩ : ∃ x, Hid (rootR (lvs ls q) = x) := ⟨_, Lib.hid rfl⟩
  have HXO : Hid (NdOk x) := Lib.hid (by rw [← HXR.out]; exact rootR_ok HOP.out)
  have HYO : Hid (NdOk y) := Lib.hid (by rw [← HYR.out]; exact rootR_ok HOQ.out)
  rw [HXR.out, HYR.out] at HHI
  clear hls hn1000
  have HNE := Lib.hid HI.out.len
  have hcap := HI.out.cap
  obtain ⟨X, HX⟩ : ∃ X, Hid ((p.map fun y => Value.int .u8 (y : Nat)).toArray = X) := ⟨_, Lib.hid rfl⟩
  obtain ⟨Y, HY⟩ : ∃ X, Hid ((q.map fun y => Value.int .u8 (y : Nat)).toArray = X) := ⟨_, Lib.hid rfl⟩
  have HDX : Hid (dgV p = .agg X) := Lib.hid (by unfold dgV; rw [HX.out])
  have HDY : Hid (dgV q = .agg Y) := Lib.hid (by unfold dgV; rw [HY.out])
  have HSX : Hid ((Tryd.prog.info? 24).map (·.size) = some X.size) := Lib.hid (by rw [← HX.out]; exact size32 _ hp.out)
  have HSY : Hid ((Tryd.prog.info? 24).map (·.size) = some Y.size) := Lib.hid (by rw [← HY.out]; exact size32 _ hq.out)
  have hb0 := ((Below.refl _ w).alloc (Nat.le_refl _) (.cells X 24)).alloc (by simp) (.cells Y 24)
  have hr0 := (Below.heap_alloc (w.alloc (.cells X 24)) (.cells Y 24) w.heap.size (by simp)).trans (heap_alloc_new w (.cells X 24))
  have hr1 := heap_alloc_new (w.alloc (.cells X 24)) (.cells Y 24)
  rw [World.size_alloc] at hr1
  have HB0 := Lib.hid hb0
  have QA := Lib.hid hr0
  have QB := Lib.hid hr1
  clear hb0 hr0 hr1 HX HY
  rw [HDX.out, HDY.out]
  go_enter Tryd.func10, Tryd.ntmps10
  go_wp2_with fail
  refine (sane_any _ (Lib.hid (hT.out.below HB0.out))).mono ?_
  rintro e U1 ⟨rfl, hq⟩
  have HB1 := Lib.hid (HB0.out.trans (hq.mono HB0.out.size))
  have QA_1 := Lib.hid (row_kept QA.out hq)
  have QB_1 := Lib.hid (row_kept QB.out hq)
  clear hq HB0 QA QB
  go_wp2_with (refine wpList_load_row rfl 24 (.tmp 4) rfl w.heap.size rfl 24 _ (0, 0) _ QA_1.out Tryd.underlying24 rfl HSX.out ?_; rw [← HDX.out])
  refine (leaves_any ls p A n c _ (by omega) (Lib.hid (HI.out.below HB1.out)) hp bp (Lib.hid (hT.out.below HB1.out))).mono ?_
  rintro e U2 ⟨A1, n1, c1, rfl, hin1, hq⟩
  rw [HLS.out]
  rw [HLS.out] at hin1
  have HI1 := Lib.hid hin1
  clear hin1
  have HB2 := Lib.hid (HB1.out.trans (hq.mono HB1.out.size))
  have QA_2 := Lib.hid (row_kept QA_1.out hq)
  have QB_2 := Lib.hid (row_kept QB_1.out hq)
  clear hq HB1 QA_1 QB_1
  go_wp2_with (refine wpList_load_row rfl 24 (.tmp 5) rfl (w.heap.size + 1) rfl 24 _ (0, 0) _ QB_2.out Tryd.underlying24 rfl HSY.out ?_; rw [← HDY.out])
  refine (leaves_any ls q A n c _ (by omega) (Lib.hid (HI.out.below HB2.out)) hq bq (Lib.hid (hT.out.below HB2.out))).mono ?_
  rintro e U3 ⟨A2, n2, c2, rfl, hin2, hq⟩
  rw [HLS.out]
  rw [HLS.out] at hin2
  have HI2 := Lib.hid hin2
  clear hin2
  have HB3 := Lib.hid (HB2.out.trans (hq.mono HB2.out.size))
  have QA_3 := Lib.hid (row_kept QA_2.out hq)
  have QB_3 := Lib.hid (row_kept QB_2.out hq)
  have HI1_3 := Lib.hid (HI1.out.below hq)
  clear hq HB2 QA_2 QB_2 HI1
  have HN1 : Hid (n1 = n) := Lib.hid (by have h := HI1_3.out.len; simp only [cond_true, lvs_length] at h; rw [← h]; exact HNE.out)
  have HN2 : Hid (n2 = n) := Lib.hid (by have h := HI2.out.len; simp only [cond_true, lvs_length] at h; rw [← h]; exact HNE.out)
  have e1 := HN1.out
  subst e1
  have e2 := HN2.out
  subst e2
  clear HN1 HN2
  go_wp2_with fail
  refine (root_any (lvs ls p) A1 _ c1 _ (by omega) HI1_3 (Lib.hid (hT.out.below HB3.out))).mono ?_
  rintro e U4 ⟨rfl, hq⟩
  rw [HXR.out, HVP.out]
  have HB4 := Lib.hid (HB3.out.trans (hq.mono HB3.out.size))
  have QA_4 := Lib.hid (row_kept QA_3.out hq)
  have QB_4 := Lib.hid (row_kept QB_3.out hq)
  have HI1_4 := Lib.hid (HI1_3.out.below hq)
  have HI2_4 := Lib.hid (HI2.out.below hq)
  clear hq HB3 QA_3 QB_3 HI1_3 HI2
  obtain ⟨V4, HV4⟩ : ∃ V, Hid ((U4.alloc (.cells (ndC zeroN).toArray 26)).setRow U4.heap.size (ndC x).toArray = V) := ⟨_, Lib.hid rfl⟩
  have hlr := laid_row U4 (ndC zeroN).toArray (ndC x).toArray 26
  rw [HV4.out] at hlr
  have HZ4 := Lib.hid (heap_alloc_new U4 (.cells (ndC zeroN).toArray 26))
  have HT4 : Hid (34 = (ndC x).toArray.size) := Lib.hid (by simp [ndC_length HXO.out])
  rw [zeroN_cells] at HZ4 HV4
  have hq := hlr.1
  have HB5 := Lib.hid (HB4.out.trans (hq.mono HB4.out.size))
  have QA_5 := Lib.hid (row_kept QA_4.out hq)
  have QB_5 := Lib.hid (row_kept QB_4.out hq)
  have HI1_5 := Lib.hid (HI1_4.out.below hq)
  have HI2_5 := Lib.hid (HI2_4.out.below hq)
  have R11_n := Lib.hid hlr.2.2
  clear hq hlr HB4 QA_4 QB_4 HI1_4 HI2_4
  go_wp2_with (refine wpList_store_row rfl 26 (.tmp 11) (.tmp 48) rfl U4.heap.size (ndC x).toArray rfl rfl 26 _ HZ4.out (size34' HXO.out) HT4.out (ndC_one x) ?_; rw [HV4.out])
  refine (root_any (lvs ls q) A2 _ c2 _ (by omega) HI2_5 (Lib.hid (hT.out.below HB5.out))).mono ?_
  rintro e U5 ⟨rfl, hq⟩
  rw [HYR.out, HVQ.out]
  have HB6 := Lib.hid (HB5.out.trans (hq.mono HB5.out.size))
  have R11_6 := Lib.hid (row_kept R11_n.out hq)
  have QA_6 := Lib.hid (row_kept QA_5.out hq)
  have QB_6 := Lib.hid (row_kept QB_5.out hq)
  have HI1_6 := Lib.hid (HI1_5.out.below hq)
  have HI2_6 := Lib.hid (HI2_5.out.below hq)
  clear hq HB5 R11_n QA_5 QB_5 HI1_5 HI2_5
  obtain ⟨V5, HV5⟩ : ∃ V, Hid ((U5.alloc (.cells (ndC zeroN).toArray 26)).setRow U5.heap.size (ndC y).toArray = V) := ⟨_, Lib.hid rfl⟩
  have hlr := laid_row U5 (ndC zeroN).toArray (ndC y).toArray 26
  rw [HV5.out] at hlr
  have HZ5 := Lib.hid (heap_alloc_new U5 (.cells (ndC zeroN).toArray 26))
  have HT5 : Hid (34 = (ndC y).toArray.size) := Lib.hid (by simp [ndC_length HYO.out])
  rw [zeroN_cells] at HZ5 HV5
  have hq := hlr.1
  have HB7 := Lib.hid (HB6.out.trans (hq.mono HB6.out.size))
  have R11_7 := Lib.hid (row_kept R11_6.out hq)
  have QA_7 := Lib.hid (row_kept QA_6.out hq)
  have QB_7 := Lib.hid (row_kept QB_6.out hq)
  have HI1_7 := Lib.hid (HI1_6.out.below hq)
  have HI2_7 := Lib.hid (HI2_6.out.below hq)
  have R13_n := Lib.hid hlr.2.2
  clear hq hlr HB6 R11_6 QA_6 QB_6 HI1_6 HI2_6
  go_wp2_with (refine wpList_store_row rfl 26 (.tmp 13) (.tmp 53) rfl U5.heap.size (ndC y).toArray rfl rfl 26 _ HZ5.out (size34' HYO.out) HT5.out (ndC_one y) ?_; rw [HV5.out])
  go_loopw [57] (fun t wr => ∃ j : Nat, j ≤ n2 ∧ t = .int .i64 (j : Nat) ∧ Hid (Below V5.heap.size V5 wr)) (fun t _ => n2 - (intOf t).toNat)
  case atStart => exact ⟨0, by omega, rfl, Lib.hid (Below.refl _ _)⟩
  case round =>
    obtain ⟨j, hj, rfl, HBW⟩ := hrel
    by_cases hlt : j < n2
    · have d6 : decide ((j : Int) < (n2 : Int)) = true := decide_eq_true (by omega)
      have d7 : decide (j < n2) = true := decide_eq_true hlt
      have hi0 := HI.out.below (HB7.out.trans (HBW.out.mono HB7.out.size))
      have hi1 := HI1_7.out.below HBW.out
      have hi2 := HI2_7.out.below HBW.out
      simp only [cond_true] at hi1 hi2
      have hl0 : j < ls.length := by rw [HNE.out]; exact hlt
      obtain ⟨g0, o0, rfl, hg0, hr0⟩ := hi0.rd (by omega)
      obtain ⟨g1, o1, rfl, hg1, hr1⟩ := hi1.rd (by rw [lvs_length]; omega)
      obtain ⟨g2, o2, rfl, hg2, hr2⟩ := hi2.rd (by rw [lvs_length]; omega)
      have hx := ln_range hr0 j hl0
      have hy := range_one hr1 hi1.ok j (by rw [lvs_length]; exact hl0)
      have hz := range_one hr2 hi2.ok j (by rw [lvs_length]; exact hl0)
      rw [lvs_get ls _ j hl0] at hy hz
      obtain ⟨l, HLX⟩ : ∃ l, Hid (ls[j] = l) := ⟨_, Lib.hid rfl⟩
      have hlk : lnOk l := by rw [← HLX.out]; exact lsB_get HLS.out j hl0
      rw [HLX.out] at hx hy hz
      obtain ⟨u, HU⟩ : ∃ u, Hid (l.c3 = u) := ⟨_, Lib.hid rfl⟩
      obtain ⟨v, HV⟩ : ∃ v, Hid (l.c2 * l.c3 = v) := ⟨_, Lib.hid rfl⟩
      have hcc := hi1.cap
      have hcd := hi2.cap
      have m0 : wr.cell? ⟨g0, o0 + j * 5 + 3, none⟩ = some (.int .i64 u) := by rw [← HU.out]; exact hx 3 _ rfl
      have m1 : wr.cell? ⟨g0, o0 + j * 5 + 2, none⟩ = some (.int .i64 l.c2) := hx 2 _ rfl
      have m2 : wr.cell? ⟨g1, o1 + j * 34 + 32, none⟩ = some (.int .i64 u) := by rw [← HU.out]; exact hy 32 _ (ndC_c (lnLeaf_ok hlk _))
      have m3 : wr.cell? ⟨g1, o1 + j * 34 + 33, none⟩ = some (.int .i64 v) := by rw [← HV.out]; exact hy 33 _ (ndC_p (lnLeaf_ok hlk _))
      have m4 : wr.cell? ⟨g2, o2 + j * 34 + 32, none⟩ = some (.int .i64 u) := by rw [← HU.out]; exact hz 32 _ (ndC_c (lnLeaf_ok hlk _))
      have m5 : wr.cell? ⟨g2, o2 + j * 34 + 33, none⟩ = some (.int .i64 v) := by rw [← HV.out]; exact hz 33 _ (ndC_p (lnLeaf_ok hlk _))
      have hw : IntKind.i64.wrap (u * l.c2) = v := by
        unfold lnOk lOk at hlk
        have hm := mul_leaf (a := l.c2) (b := l.c3) (by omega) (by omega) (by omega) (by omega)
        rw [← HU.out, Int.mul_comm, IntWalk.i64_in _ (by omega)]; exact HV.out
      clear hi0 hi1 hi2 hr0 hr1 hr2 hx hy hz hlk HU HV HLX hg0 hg1 hg2
      go_wp2_with fail
      go_quiet (fail)
      have HBN := Lib.hid (below_drewN HBW.out nq)
      clear m0 m1 m2 m3 m4 m5 hw
      go_wp2_with fail
      go_roundw
      case rel => exact ⟨j + 1, by omega, by go_num, HBN⟩
      case measure => first | (simp [intOf]; done) | (simp [intOf]; omega)
    · have hjn : j = n2 := by omega
      have d6 : decide ((j : Int) < (n2 : Int)) = false := decide_eq_false (by omega)
      have d7 : decide (j < n2) = false := decide_eq_false hlt
      clear hjn hlt
      have HB8 := Lib.hid (HB7.out.trans (HBW.out.mono HB7.out.size))
      have R11_8 := Lib.hid (row_kept R11_7.out HBW.out)
      have R13_8 := Lib.hid (row_kept R13_n.out HBW.out)
      have QA_8 := Lib.hid (row_kept QA_7.out HBW.out)
      have QB_8 := Lib.hid (row_kept QB_7.out HBW.out)
      have HI1_8 := Lib.hid (HI1_7.out.below HBW.out)
      have HI2_8 := Lib.hid (HI2_7.out.below HBW.out)
      clear HBW HB7 R11_7 R13_n QA_7 QB_7 HI1_7 HI2_7
      have mc1 : wr.cell? ⟨U5.heap.size, 32, none⟩ = some (.int .i64 x.c) := by have h := cell_c HYO.out R13_8.out; rw [← HHI.out.1] at h; exact h
      have mp1 : wr.cell? ⟨U5.heap.size, 33, none⟩ = some (.int .i64 x.p) := by have h := cell_p HYO.out R13_8.out; rw [← HHI.out.2] at h; exact h
      have mc2 : wr.cell? ⟨U4.heap.size, 32, none⟩ = some (.int .i64 (x.c)) := cell_c HXO.out R11_8.out
      have mp2 : wr.cell? ⟨U4.heap.size, 33, none⟩ = some (.int .i64 (x.p)) := cell_p HXO.out R11_8.out
      go_wp2_with fail
      go_ret
      exact ⟨rfl, HB8.out⟩
theorem walk (w : World) (hT : Tabs w) (A : Option Addr) (n c : Nat) (ls : List Ln) (hi : InLn w A n c ls) (hm : n ≤ maxLen) (p : List Nat) (hp : p.length = 32) (bp : Bytes p) (q : List Nat) (hq : q.length = 32) (bq : Bytes q) :
    Calls Tryd.prog 10 #[.slice A n c, dgV p, dgV q] w fun e w' => e = .returned (.bool true) ∧ Below w.heap.size w w' := by
  by_cases h : 24 < n
  · exact big ls A n c p q w (Lib.hid hi) (Lib.hid hp) (Lib.hid bp) (Lib.hid hq) (Lib.hid bq) (Lib.hid hT) h
  · by_cases hl : lsB ls = true
    · exact good ls A n c p q w (Lib.hid hi) (Lib.hid hp) (Lib.hid bp) (Lib.hid hq) (Lib.hid bq) (Lib.hid hT) (by omega) hl
    · exact bad ls A n c p q w (Lib.hid hi) (Lib.hid hp) (Lib.hid bp) (Lib.hid hq) (Lib.hid bq) (Lib.hid hT) (by omega) (by simpa using hl)
set_option maxRecDepth 100000 in
theorem lifted (os : Os) (started : os.Started) (H : Type) (enc : TypeId × Value → H) :
    ReturnsInHanded {} Tryd.checked os 10 .any (fun w args => (Rows.treeHiddenSpec.pre enc Tryd.prog Tryd.f10 [] false w args ∧ laidMetH Tryd.prog laidL w) ∧ sizedMet enc Tryd.prog Tryd.f10 (OpenSpec.ofChange Rows.treeHiddenSpec) false w args)
      (Rows.treeHiddenSpec.post enc Tryd.prog Tryd.f10 false true false false) := by
  refine returnsInHanded_of_change_and (C := Tryd.checked) (X := fun w _ => laidMetH Tryd.prog laidL w) (fun _ _ _ hh h => h.of_heap hh) own started (by kernel_rfl) Tryd.func10
    (ChangeSpec.witness_shaped (enc := enc) (C := Tryd.checked) (os := os) (X := fun w _ => laidMetH Tryd.prog laidL w) false (World.doorLaid Tryd.prog 400 os) #[.slice none 0 0, .agg (Array.replicate 32 (.int .u8 0)), .agg (Array.replicate 32 (.int .u8 0))] 8 rfl (World.shaped_of_RefB (by kernel_rfl) (by kernel_rfl)) (by kernel_rfl) (by kernel_rfl) (by kernel_rfl) (door_met os _)) ?_
  intro W base args ds gs before hval0 hW _ hsz0 hL _
  have hval : ∀ (j : Nat) t v, Tryd.f10.params[j]? = some t → args[j]? = some v → Value.okWide Tryd.prog W .any base t v := hval0
  have hW' := hW
  obtain ⟨p, q, hA0, hV, rfl, hfz, hnd⟩ := hW
  have hA : DataW.TrodAll enc Tryd.prog W 0 (fun _ => true) true Tryd.f10.params.toList args.toList ds p := hA0
  have hsz : (DataW.weightsEach Tryd.prog (Tryd.f10.params.toList ++ Rows.treeHiddenSpec.plain.varTypes Tryd.prog) (ds ++ gs)).all (· ≤ reachBytes) = true := hsz0
  rw [Tryd.params10] at hA hval hsz
  obtain ⟨v0, vs0, d0, ds0, p0, q0, hargs, rfl, rfl, h0, r0⟩ := trodAll_cons hA
  obtain ⟨v1, vs1, d1, ds1, p1, q1, rfl, rfl, rfl, h1, r1⟩ := trodAll_cons r0
  obtain ⟨v2, vs2, d2, ds2, p2, q2, rfl, rfl, rfl, h2, r2⟩ := trodAll_cons r1
  obtain ⟨rfl, rfl, rfl⟩ := trodAll_nil r2
  obtain rfl : args = #[v0, v1, v2] := by cases args; simp_all
  obtain ⟨rfl, rfl⟩ := trodVars_none hV
  obtain ⟨A0, n0, c0, l0, rfl, e0, f0⟩ := arg_lns (hval 0 53 v0 rfl rfl) h0
  obtain ⟨l1, rfl, e1, y1⟩ := arg_dig (hval 1 24 v1 rfl rfl) h1
  obtain ⟨l2, rfl, e2, y2⟩ := arg_dig (hval 2 24 v2 rfl rfl) h2
  refine (walk W (tabs_of hL) A0 n0 c0 l0 e0 f0 l1 e1 y1 l2 e2 y2).mono fun e W' ⟨he, hg⟩ => ?_
  subst he
  exact ⟨_, rfl, law_post (by kernel_rfl) rfl rfl (fun _ => ⟨rfl, rfl, rfl⟩) hW' hg⟩
theorem over : Rows.treeHiddenRow.holds Tryd.pinned (OpenSpec.ofChange Rows.treeHiddenSpec) :=
  OpenClaim.holds_of_wide 10 Tryd.f10 rfl rfl rfl rfl rfl rfl rfl ⟨rfl, rfl, rfl, rfl, rfl⟩ rfl rfl rfl rfl rfl (by kernel_rfl) Tryd.func10 (by kernel_rfl)
    (of_decide_eq_true (by kernel_rfl)) (by unfold Func.isWrapper; first | (rw [if_pos (by decide +kernel)]; kernel_rfl) | (rw [if_neg (by decide +kernel)]; exact ⟨rfl, rfl⟩))
    (fun os started H enc _ => lifted os started H enc)
/-- THE STATEMENT: the card -/
theorem proved : Rows.TreeHiddenCardSaid :=
  Claim7.holds_tied_plain_at .later [] [.data, .data] true Rows.treeHiddenCard.stood.harness false
    over (fun _ h => by cases h) (by kernel_rfl) (fun _ h => by cases h) treeHidden_row_tie rfl ⟨rfl, rfl⟩ (by kernel_rfl) rfl
    (fun f fn hf hfn => by
      obtain rfl : f = 10 := Option.some.inj ((show Tryd.prog.funcNamed "sizar/sizarlaw41.TreeHidden" = some 10 by kernel_rfl).symm.trans hf) |>.symm
      obtain rfl : fn = Tryd.f10 := (Option.some.inj (Tryd.func10.symm.trans hfn)).symm
      exact ⟨by kernel_rfl, fun j t ht => stands_of (show Tryd.f10.params.all (fun t => !Tryd.prog.wantsStandIn t) = true by kernel_rfl) ht⟩)
    (by kernel_rfl)
#print axioms proved
end Go.Proofs.YtgcmbiegbclhmaaDoor.treeHidden
