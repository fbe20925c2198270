/- DisclosePlaces: for every transcript and every index the law returns true: wrong indices, paths of another length, lines that are not valid and empty roots are refused. No conditions. -/
import Derived.Test.YtmfmgeapecapiaaDoorDB17
import Derived.Test.YtmfmgeapecapiaaDoorDB3
import Derived.Test.YtmfmgeapecapiaaDoorDB18
import Derived.Test.YtmfmgeapecapiaaDoorCards
import Derived.Test.YtmfmgeapecapiaaDoorTie
import Derived.Lib.SmallJoins
namespace Go.Proofs.YtmfmgeapecapiaaDoor.disclosePlaces
open Go.ChangeShapes Go.WideShapes Go.ChangeAt Go.RowKit SzSha SzTree
set_option linter.unusedVariables false
set_option maxRecDepth 100000
set_option maxHeartbeats 8000000 in
theorem big (t : Tr) (p : TrP) (i : Int) (b : Int) (w : World) (h : Hid (TrOk w t p)) (hT : Hid (Tabs w)) (hf : ¬ (p.n ≤ 12 ∧ p.n2 ≤ 12)) :
    Calls Tryd.prog 7 #[trV t p, .int .i64 (i), .int .i64 b] w fun e w' => e = .returned (.bool true) ∧ Below w.heap.size w w' := by
  have HIT : Hid ((Tryd.prog.info? 27).map (·.size) = some (trC t p).toArray.size) := Lib.hid (trV_info t p h.out.len)
  have hb0 := (Below.refl _ w).alloc (Nat.le_refl _) (.cells (trC t p).toArray 27)
  have RT0 := Lib.hid (heap_alloc_new w (.cells (trC t p).toArray 27))
  have KO0 := Lib.hid (h.out.below hb0)
  have KT0 := Lib.hid (hT.out.below hb0)
  have HB0 := Lib.hid hb0
  clear hb0
  rw [show trV t p = .agg (trC t p).toArray from rfl]
  go_enter Tryd.func7, Tryd.ntmps7
  go_wp2_with fail
  refine (sane42 _ KT0).mono ?_
  rintro e U1 ⟨rfl, hq⟩
  have HB2 := Lib.hid (HB0.out.trans (hq.mono HB0.out.size))
  have RT2 := Lib.hid (row_kept RT0.out hq)
  have KO2 := Lib.hid (KO0.out.below hq)
  have KT2 := Lib.hid (KT0.out.below hq)
  clear hq HB0 RT0 KO0 KT0
  go_wp2_with (refine wpList_load_row rfl 27 (.tmp 3) rfl (w.heap.size) rfl 27 _ (0, 0) _ RT2.out Tryd.underlying27 rfl HIT.out ?_)
  rw [show Value.agg (trC t p).toArray = trV t p from rfl]
  refine (few_no t p _ hf).mono ?_
  rintro e U3 ⟨rfl, hq⟩
  have HB4 := Lib.hid (HB2.out.trans (hq.mono HB2.out.size))
  have RT4 := Lib.hid (row_kept RT2.out hq)
  have KO4 := Lib.hid (KO2.out.below hq)
  have KT4 := Lib.hid (KT2.out.below hq)
  clear hq HB2 RT2 KO2 KT2
  go_wp2_with fail
  go_ret
  exact ⟨rfl, HB4.out⟩
set_option maxHeartbeats 8000000 in
theorem bad1 (t : Tr) (p : TrP) (i : Int) (b : Int) (w : World) (h : Hid (TrOk w t p)) (hT : Hid (Tabs w)) (h1 : p.n ≤ 12) (h2 : p.n2 ≤ 12) (HE : Hid (trE t = 420)) (hg : trG t = false) :
    Calls Tryd.prog 7 #[trV t p, .int .i64 (i), .int .i64 b] w fun e w' => e = .returned (.bool true) ∧ Below w.heap.size w w' := by
  have HBAD : Hid (trG t = false ∨ i < 0 ∨ (p.n : Int) ≤ i) := Lib.hid (.inl hg)
  clear hg
  have HIT : Hid ((Tryd.prog.info? 27).map (·.size) = some (trC t p).toArray.size) := Lib.hid (trV_info t p h.out.len)
  have hb0 := (Below.refl _ w).alloc (Nat.le_refl _) (.cells (trC t p).toArray 27)
  have RT0 := Lib.hid (heap_alloc_new w (.cells (trC t p).toArray 27))
  have KO0 := Lib.hid (h.out.below hb0)
  have KT0 := Lib.hid (hT.out.below hb0)
  have HB0 := Lib.hid hb0
  clear hb0
  rw [show trV t p = .agg (trC t p).toArray from rfl]
  go_enter Tryd.func7, Tryd.ntmps7
  go_wp2_with fail
  refine (sane42 _ KT0).mono ?_
  rintro e U1 ⟨rfl, hq⟩
  have HB2 := Lib.hid (HB0.out.trans (hq.mono HB0.out.size))
  have RT2 := Lib.hid (row_kept RT0.out hq)
  have KO2 := Lib.hid (KO0.out.below hq)
  have KT2 := Lib.hid (KT0.out.below hq)
  clear hq HB0 RT0 KO0 KT0
  go_wp2_with (refine wpList_load_row rfl 27 (.tmp 3) rfl (w.heap.size) rfl 27 _ (0, 0) _ RT2.out Tryd.underlying27 rfl HIT.out ?_)
  rw [show Value.agg (trC t p).toArray = trV t p from rfl]
  refine (few_yes t p _ h1 h2).mono ?_
  rintro e U3 ⟨rfl, hq⟩
  have HB4 := Lib.hid (HB2.out.trans (hq.mono HB2.out.size))
  have RT4 := Lib.hid (row_kept RT2.out hq)
  have KO4 := Lib.hid (KO2.out.below hq)
  have KT4 := Lib.hid (KT2.out.below hq)
  clear hq HB2 RT2 KO2 KT2
  obtain ⟨X, HX⟩ : ∃ x, Hid (lstL t = x) := ⟨_, Lib.hid rfl⟩
  obtain ⟨Y, HY⟩ : ∃ y, Hid (lstK t = y) := ⟨_, Lib.hid rfl⟩
  have HXO : Hid (DgOk X) := Lib.hid (by rw [← HX.out]; exact lstL_ok t)
  have HYO : Hid (DgOk Y) := Lib.hid (by rw [← HY.out]; exact lstK_ok t)
  have HRK : Hid (RtOk (rtOf (p.n : Nat) (p.n2 : Nat) X Y)) := Lib.hid (rtOf_ok (by unfold I64; omega) (by unfold I64; omega) HXO.out HYO.out)
  have HRI := Lib.hid (rtC_info HRK.out)
  have HRS : Hid (138 = (rtC (rtOf (p.n : Nat) (p.n2 : Nat) X Y)).toArray.size) := Lib.hid (by simp [rtC, rtOf, ndC_length zeroN_ok, dgC_len32 HXO.out, dgC_len32 HYO.out, dgC_len32 zeroD_ok])
  go_wp2_with (refine wpList_load_row rfl 27 (.tmp 3) rfl (w.heap.size) rfl 27 _ (0, 0) _ RT4.out Tryd.underlying27 rfl HIT.out ?_)
  rw [show Value.agg (trC t p).toArray = trV t p from rfl]
  refine (root42_no t p _ KO4 KT4 HE).mono ?_
  rintro e U5 ⟨rfl, hq⟩
  rw [HX.out, HY.out]
  have HB6 := Lib.hid (HB4.out.trans (hq.mono HB4.out.size))
  have RT6 := Lib.hid (row_kept RT4.out hq)
  have KO6 := Lib.hid (KO4.out.below hq)
  have KT6 := Lib.hid (KT4.out.below hq)
  clear hq HB4 RT4 KO4 KT4
  obtain ⟨V7, HV7⟩ : ∃ W, Hid ((U5.alloc (.cells Tryd.zeroCells35 35)).setRow U5.heap.size (rtC (rtOf (p.n : Nat) (p.n2 : Nat) X Y)).toArray = W) := ⟨_, Lib.hid rfl⟩
  have hw := setRow_heap (U5.alloc (.cells Tryd.zeroCells35 35)) U5.heap.size _ (rtC (rtOf (p.n : Nat) (p.n2 : Nat) X Y)).toArray _ _ (heap_alloc_new U5 _)
  have hb := below_setRow ((Below.refl _ U5).alloc (Nat.le_refl _) (.cells Tryd.zeroCells35 35)) (Nat.le_refl _) (rtC (rtOf (p.n : Nat) (p.n2 : Nat) X Y)).toArray
  rw [HV7.out] at hw hb
  have HB8 := Lib.hid (HB6.out.trans (hb.mono HB6.out.size))
  have RT8 := Lib.hid (row_kept RT6.out hb)
  have KO8 := Lib.hid (KO6.out.below hb)
  have KT8 := Lib.hid (KT6.out.below hb)
  have RRo7 := Lib.hid hw
  clear hw hb HB6 RT6 KO6 KT6
  go_wp2_with (first | (refine wpList_store_row rfl 35 (.tmp 7) (.tmp 22) rfl U5.heap.size (rtC (rtOf (p.n : Nat) (p.n2 : Nat) X Y)).toArray rfl rfl 35 _ (heap_alloc_new U5 _) HRI.out HRS.out (rtC_one _) ?_; rw [HV7.out]) | (refine wpList_load_row rfl 27 (.tmp 3) rfl (w.heap.size) rfl 27 _ (0, 0) _ RT8.out Tryd.underlying27 rfl HIT.out ?_))
  rw [show Value.agg (trC t p).toArray = trV t p from rfl]
  refine (shwL_no t p i _ KO8 KT8 HBAD).mono ?_
  rintro e U9 ⟨rfl, hq⟩
  have HB10 := Lib.hid (HB8.out.trans (hq.mono HB8.out.size))
  have RT10 := Lib.hid (row_kept RT8.out hq)
  have RRo10 := Lib.hid (row_kept RRo7.out hq)
  have KO10 := Lib.hid (KO8.out.below hq)
  have KT10 := Lib.hid (KT8.out.below hq)
  clear hq HB8 RT8 RRo7 KO8 KT8
  have HSZI : Hid ((Tryd.prog.info? 44).map (·.size) = some (shCL 0 ⟨0, 0, 0, 0, 0⟩ zeroD none 0 0).toArray.size) := Lib.hid (shCL_info zeroD_ok)
  have HSZH : Hid (39 = (shCL 0 ⟨0, 0, 0, 0, 0⟩ zeroD none 0 0).toArray.size) := Lib.hid (by simp [shCL, lnC, dgC_len32 zeroD_ok])
  obtain ⟨V11, HV11⟩ : ∃ W, Hid ((U9.alloc (.cells #[.int .i64 0, .int .i64 0, .int .i64 0, .int .i64 0, .int .i64 0, .int .i64 0, .int .u8 0, .int .u8 0, .int .u8 0, .int .u8 0, .int .u8 0, .int .u8 0, .int .u8 0, .int .u8 0, .int .u8 0, .int .u8 0, .int .u8 0, .int .u8 0, .int .u8 0, .int .u8 0, .int .u8 0, .int .u8 0, .int .u8 0, .int .u8 0, .int .u8 0, .int .u8 0, .int .u8 0, .int .u8 0, .int .u8 0, .int .u8 0, .int .u8 0, .int .u8 0, .int .u8 0, .int .u8 0, .int .u8 0, .int .u8 0, .int .u8 0, .int .u8 0, .slice none 0 0] 44)).setRow U9.heap.size (shCL 0 ⟨0, 0, 0, 0, 0⟩ zeroD none 0 0).toArray = W) := ⟨_, Lib.hid rfl⟩
  have hw := setRow_heap (U9.alloc (.cells #[.int .i64 0, .int .i64 0, .int .i64 0, .int .i64 0, .int .i64 0, .int .i64 0, .int .u8 0, .int .u8 0, .int .u8 0, .int .u8 0, .int .u8 0, .int .u8 0, .int .u8 0, .int .u8 0, .int .u8 0, .int .u8 0, .int .u8 0, .int .u8 0, .int .u8 0, .int .u8 0, .int .u8 0, .int .u8 0, .int .u8 0, .int .u8 0, .int .u8 0, .int .u8 0, .int .u8 0, .int .u8 0, .int .u8 0, .int .u8 0, .int .u8 0, .int .u8 0, .int .u8 0, .int .u8 0, .int .u8 0, .int .u8 0, .int .u8 0, .int .u8 0, .slice none 0 0] 44)) U9.heap.size _ (shCL 0 ⟨0, 0, 0, 0, 0⟩ zeroD none 0 0).toArray _ _ (heap_alloc_new U9 _)
  have hb := below_setRow ((Below.refl _ U9).alloc (Nat.le_refl _) (.cells #[.int .i64 0, .int .i64 0, .int .i64 0, .int .i64 0, .int .i64 0, .int .i64 0, .int .u8 0, .int .u8 0, .int .u8 0, .int .u8 0, .int .u8 0, .int .u8 0, .int .u8 0, .int .u8 0, .int .u8 0, .int .u8 0, .int .u8 0, .int .u8 0, .int .u8 0, .int .u8 0, .int .u8 0, .int .u8 0, .int .u8 0, .int .u8 0, .int .u8 0, .int .u8 0, .int .u8 0, .int .u8 0, .int .u8 0, .int .u8 0, .int .u8 0, .int .u8 0, .int .u8 0, .int .u8 0, .int .u8 0, .int .u8 0, .int .u8 0, .int .u8 0, .slice none 0 0] 44)) (Nat.le_refl _) (shCL 0 ⟨0, 0, 0, 0, 0⟩ zeroD none 0 0).toArray
  rw [HV11.out] at hw hb
  have HB12 := Lib.hid (HB10.out.trans (hb.mono HB10.out.size))
  have RT12 := Lib.hid (row_kept RT10.out hb)
  have RRo12 := Lib.hid (row_kept RRo10.out hb)
  have KO12 := Lib.hid (KO10.out.below hb)
  have KT12 := Lib.hid (KT10.out.below hb)
  have RS11 := Lib.hid hw
  clear hw hb HB10 RT10 RRo10 KO10 KT10
  go_wp2_with (refine wpList_store_row rfl 44 (.tmp 9) (.tmp 28) rfl U9.heap.size (shCL 0 ⟨0, 0, 0, 0, 0⟩ zeroD none 0 0).toArray rfl rfl 44 _ (heap_alloc_new U9 _) HSZI.out HSZH.out (shCL_one _ _ _ _ _ _) ?_; rw [HV11.out])
  go_ret
  exact ⟨rfl, HB12.out⟩
set_option maxHeartbeats 8000000 in
theorem bad2 (t : Tr) (p : TrP) (i : Int) (b : Int) (w : World) (h : Hid (TrOk w t p)) (hT : Hid (Tabs w)) (h1 : p.n ≤ 12) (h2 : p.n2 ≤ 12) (HE : Hid (trE t = 0)) (hi : i < 0 ∨ (p.n : Int) ≤ i) :
    Calls Tryd.prog 7 #[trV t p, .int .i64 (i), .int .i64 b] w fun e w' => e = .returned (.bool true) ∧ Below w.heap.size w w' := by
  have HBAD : Hid (trG t = false ∨ i < 0 ∨ (p.n : Int) ≤ i) := Lib.hid (.inr hi)
  clear hi
  have HIT : Hid ((Tryd.prog.info? 27).map (·.size) = some (trC t p).toArray.size) := Lib.hid (trV_info t p h.out.len)
  have hb0 := (Below.refl _ w).alloc (Nat.le_refl _) (.cells (trC t p).toArray 27)
  have RT0 := Lib.hid (heap_alloc_new w (.cells (trC t p).toArray 27))
  have KO0 := Lib.hid (h.out.below hb0)
  have KT0 := Lib.hid (hT.out.below hb0)
  have HB0 := Lib.hid hb0
  clear hb0
  rw [show trV t p = .agg (trC t p).toArray from rfl]
  go_enter Tryd.func7, Tryd.ntmps7
  go_wp2_with fail
  refine (sane42 _ KT0).mono ?_
  rintro e U1 ⟨rfl, hq⟩
  have HB2 := Lib.hid (HB0.out.trans (hq.mono HB0.out.size))
  have RT2 := Lib.hid (row_kept RT0.out hq)
  have KO2 := Lib.hid (KO0.out.below hq)
  have KT2 := Lib.hid (KT0.out.below hq)
  clear hq HB0 RT0 KO0 KT0
  go_wp2_with (refine wpList_load_row rfl 27 (.tmp 3) rfl (w.heap.size) rfl 27 _ (0, 0) _ RT2.out Tryd.underlying27 rfl HIT.out ?_)
  rw [show Value.agg (trC t p).toArray = trV t p from rfl]
  refine (few_yes t p _ h1 h2).mono ?_
  rintro e U3 ⟨rfl, hq⟩
  have HB4 := Lib.hid (HB2.out.trans (hq.mono HB2.out.size))
  have RT4 := Lib.hid (row_kept RT2.out hq)
  have KO4 := Lib.hid (KO2.out.below hq)
  have KT4 := Lib.hid (KT2.out.below hq)
  clear hq HB2 RT2 KO2 KT2
  obtain ⟨X, HX⟩ : ∃ x, Hid (lstL t = x) := ⟨_, Lib.hid rfl⟩
  obtain ⟨Y, HY⟩ : ∃ y, Hid (lstK t = y) := ⟨_, Lib.hid rfl⟩
  have HXO : Hid (DgOk X) := Lib.hid (by rw [← HX.out]; exact lstL_ok t)
  have HYO : Hid (DgOk Y) := Lib.hid (by rw [← HY.out]; exact lstK_ok t)
  have HRK : Hid (RtOk (rtOf (p.n : Nat) (p.n2 : Nat) X Y)) := Lib.hid (rtOf_ok (by unfold I64; omega) (by unfold I64; omega) HXO.out HYO.out)
  have HRI := Lib.hid (rtC_info HRK.out)
  have HRS : Hid (138 = (rtC (rtOf (p.n : Nat) (p.n2 : Nat) X Y)).toArray.size) := Lib.hid (by simp [rtC, rtOf, ndC_length zeroN_ok, dgC_len32 HXO.out, dgC_len32 HYO.out, dgC_len32 zeroD_ok])
  go_wp2_with (refine wpList_load_row rfl 27 (.tmp 3) rfl (w.heap.size) rfl 27 _ (0, 0) _ RT4.out Tryd.underlying27 rfl HIT.out ?_)
  rw [show Value.agg (trC t p).toArray = trV t p from rfl]
  refine (root42_yes t p _ KO4 KT4 HE).mono ?_
  rintro e U5 ⟨rfl, hq⟩
  rw [HX.out, HY.out]
  have HB6 := Lib.hid (HB4.out.trans (hq.mono HB4.out.size))
  have RT6 := Lib.hid (row_kept RT4.out hq)
  have KO6 := Lib.hid (KO4.out.below hq)
  have KT6 := Lib.hid (KT4.out.below hq)
  clear hq HB4 RT4 KO4 KT4
  obtain ⟨V7, HV7⟩ : ∃ W, Hid ((U5.alloc (.cells Tryd.zeroCells35 35)).setRow U5.heap.size (rtC (rtOf (p.n : Nat) (p.n2 : Nat) X Y)).toArray = W) := ⟨_, Lib.hid rfl⟩
  have hw := setRow_heap (U5.alloc (.cells Tryd.zeroCells35 35)) U5.heap.size _ (rtC (rtOf (p.n : Nat) (p.n2 : Nat) X Y)).toArray _ _ (heap_alloc_new U5 _)
  have hb := below_setRow ((Below.refl _ U5).alloc (Nat.le_refl _) (.cells Tryd.zeroCells35 35)) (Nat.le_refl _) (rtC (rtOf (p.n : Nat) (p.n2 : Nat) X Y)).toArray
  rw [HV7.out] at hw hb
  have HB8 := Lib.hid (HB6.out.trans (hb.mono HB6.out.size))
  have RT8 := Lib.hid (row_kept RT6.out hb)
  have KO8 := Lib.hid (KO6.out.below hb)
  have KT8 := Lib.hid (KT6.out.below hb)
  have RRo7 := Lib.hid hw
  clear hw hb HB6 RT6 KO6 KT6
  go_wp2_with (first | (refine wpList_store_row rfl 35 (.tmp 7) (.tmp 22) rfl U5.heap.size (rtC (rtOf (p.n : Nat) (p.n2 : Nat) X Y)).toArray rfl rfl 35 _ (heap_alloc_new U5 _) HRI.out HRS.out (rtC_one _) ?_; rw [HV7.out]) | (refine wpList_load_row rfl 27 (.tmp 3) rfl (w.heap.size) rfl 27 _ (0, 0) _ RT8.out Tryd.underlying27 rfl HIT.out ?_))
  rw [show Value.agg (trC t p).toArray = trV t p from rfl]
  refine (shwL_no t p i _ KO8 KT8 HBAD).mono ?_
  rintro e U9 ⟨rfl, hq⟩
  have HB10 := Lib.hid (HB8.out.trans (hq.mono HB8.out.size))
  have RT10 := Lib.hid (row_kept RT8.out hq)
  have RRo10 := Lib.hid (row_kept RRo7.out hq)
  have KO10 := Lib.hid (KO8.out.below hq)
  have KT10 := Lib.hid (KT8.out.below hq)
  clear hq HB8 RT8 RRo7 KO8 KT8
  have HSZI : Hid ((Tryd.prog.info? 44).map (·.size) = some (shCL 0 ⟨0, 0, 0, 0, 0⟩ zeroD none 0 0).toArray.size) := Lib.hid (shCL_info zeroD_ok)
  have HSZH : Hid (39 = (shCL 0 ⟨0, 0, 0, 0, 0⟩ zeroD none 0 0).toArray.size) := Lib.hid (by simp [shCL, lnC, dgC_len32 zeroD_ok])
  obtain ⟨V11, HV11⟩ : ∃ W, Hid ((U9.alloc (.cells #[.int .i64 0, .int .i64 0, .int .i64 0, .int .i64 0, .int .i64 0, .int .i64 0, .int .u8 0, .int .u8 0, .int .u8 0, .int .u8 0, .int .u8 0, .int .u8 0, .int .u8 0, .int .u8 0, .int .u8 0, .int .u8 0, .int .u8 0, .int .u8 0, .int .u8 0, .int .u8 0, .int .u8 0, .int .u8 0, .int .u8 0, .int .u8 0, .int .u8 0, .int .u8 0, .int .u8 0, .int .u8 0, .int .u8 0, .int .u8 0, .int .u8 0, .int .u8 0, .int .u8 0, .int .u8 0, .int .u8 0, .int .u8 0, .int .u8 0, .int .u8 0, .slice none 0 0] 44)).setRow U9.heap.size (shCL 0 ⟨0, 0, 0, 0, 0⟩ zeroD none 0 0).toArray = W) := ⟨_, Lib.hid rfl⟩
  have hw := setRow_heap (U9.alloc (.cells #[.int .i64 0, .int .i64 0, .int .i64 0, .int .i64 0, .int .i64 0, .int .i64 0, .int .u8 0, .int .u8 0, .int .u8 0, .int .u8 0, .int .u8 0, .int .u8 0, .int .u8 0, .int .u8 0, .int .u8 0, .int .u8 0, .int .u8 0, .int .u8 0, .int .u8 0, .int .u8 0, .int .u8 0, .int .u8 0, .int .u8 0, .int .u8 0, .int .u8 0, .int .u8 0, .int .u8 0, .int .u8 0, .int .u8 0, .int .u8 0, .int .u8 0, .int .u8 0, .int .u8 0, .int .u8 0, .int .u8 0, .int .u8 0, .int .u8 0, .int .u8 0, .slice none 0 0] 44)) U9.heap.size _ (shCL 0 ⟨0, 0, 0, 0, 0⟩ zeroD none 0 0).toArray _ _ (heap_alloc_new U9 _)
  have hb := below_setRow ((Below.refl _ U9).alloc (Nat.le_refl _) (.cells #[.int .i64 0, .int .i64 0, .int .i64 0, .int .i64 0, .int .i64 0, .int .i64 0, .int .u8 0, .int .u8 0, .int .u8 0, .int .u8 0, .int .u8 0, .int .u8 0, .int .u8 0, .int .u8 0, .int .u8 0, .int .u8 0, .int .u8 0, .int .u8 0, .int .u8 0, .int .u8 0, .int .u8 0, .int .u8 0, .int .u8 0, .int .u8 0, .int .u8 0, .int .u8 0, .int .u8 0, .int .u8 0, .int .u8 0, .int .u8 0, .int .u8 0, .int .u8 0, .int .u8 0, .int .u8 0, .int .u8 0, .int .u8 0, .int .u8 0, .int .u8 0, .slice none 0 0] 44)) (Nat.le_refl _) (shCL 0 ⟨0, 0, 0, 0, 0⟩ zeroD none 0 0).toArray
  rw [HV11.out] at hw hb
  have HB12 := Lib.hid (HB10.out.trans (hb.mono HB10.out.size))
  have RT12 := Lib.hid (row_kept RT10.out hb)
  have RRo12 := Lib.hid (row_kept RRo10.out hb)
  have KO12 := Lib.hid (KO10.out.below hb)
  have KT12 := Lib.hid (KT10.out.below hb)
  have RS11 := Lib.hid hw
  clear hw hb HB10 RT10 RRo10 KO10 KT10
  go_wp2_with (refine wpList_store_row rfl 44 (.tmp 9) (.tmp 28) rfl U9.heap.size (shCL 0 ⟨0, 0, 0, 0, 0⟩ zeroD none 0 0).toArray rfl rfl 44 _ (heap_alloc_new U9 _) HSZI.out HSZH.out (shCL_one _ _ _ _ _ _) ?_; rw [HV11.out])
  go_ret
  exact ⟨rfl, HB12.out⟩
def wPl (S R : Array Value) (Q1 Q2 : Array Value) (M : Nat) : Nat → Value → Value → World → Prop
  | 0, fv, _, _ => fv = .agg S
  | 1, fv, _, _ => fv = .agg R
  | 4, _, fu, fw => RowAt M fu 44 S fw
  | 5, _, fu, fw => RowAt M fu 35 R fw
  | _, _, _, _ => True
theorem wPl_below {S R Q1 Q2 : Array Value} {M : Nat} {w w' : World} (hb : Below w.heap.size w w') : ∀ j v u, wPl S R Q1 Q2 M j v u w → wPl S R Q1 Q2 M j v u w'
  | 0, v, u, h => h
  | 1, v, u, h => h
  | 2, v, u, h => trivial
  | 3, v, u, h => trivial
  | 4, v, u, h => RowAt.below h hb
  | 5, v, u, h => RowAt.below h hb
  | n + 6, v, u, h => trivial
def cPl (W1 : World) (S R Z1 Z2 : Array Value) (L : Nat → Bool) (fx : Nat → Value) (w' : World) : Prop := Below W1.heap.size W1 w' ∧ (L 2 = true → RowAt W1.heap.size (fx 2) 44 (bif L 4 then S else Z1) w') ∧ (L 3 = true → RowAt W1.heap.size (fx 3) 35 (bif L 5 then R else Z2) w')
theorem cPl.below {W1 : World} {S R Z1 Z2 : Array Value} {L : Nat → Bool} {fx : Nat → Value} {w' w2 : World} (h : cPl W1 S R Z1 Z2 L fx w') (hb : Below w'.heap.size w' w2) : cPl W1 S R Z1 Z2 L fx w2 :=
  ⟨h.1.trans (hb.mono h.1.size), fun e => (h.2.1 e).below hb, fun e => (h.2.2 e).below hb⟩
set_option maxHeartbeats 8000000 in
theorem good (t : Tr) (p : TrP) (j : Nat) (x : Ln) (b : Int) (w : World) (h : Hid (TrOk w t p)) (hT : Hid (Tabs w)) (h1 : p.n ≤ 12) (h2 : p.n2 ≤ 12) (hg : Hid (trG t = true)) (hj : j < p.n) (HXJ : Hid (t.ln[j]? = some x)) :
    Calls Tryd.prog 7 #[trV t p, .int .i64 ((j : Nat)), .int .i64 b] w fun e w' => e = .returned (.bool true) ∧ Below w.heap.size w w' := by
  have HE : Hid (trE t = 0) := Lib.hid (trE_yes hg.out)
  have HN : Hid (t.ln.length = p.n) := Lib.hid h.out.ln.len
  obtain ⟨k, hk, hand⟩ := and1023 b
  have HIT : Hid ((Tryd.prog.info? 27).map (·.size) = some (trC t p).toArray.size) := Lib.hid (trV_info t p h.out.len)
  have hb0 := (Below.refl _ w).alloc (Nat.le_refl _) (.cells (trC t p).toArray 27)
  have RT0 := Lib.hid (heap_alloc_new w (.cells (trC t p).toArray 27))
  have KO0 := Lib.hid (h.out.below hb0)
  have KT0 := Lib.hid (hT.out.below hb0)
  have HB0 := Lib.hid hb0
  clear hb0
  rw [show trV t p = .agg (trC t p).toArray from rfl]
  go_enter Tryd.func7, Tryd.ntmps7
  go_wp2_with fail
  refine (sane42 _ KT0).mono ?_
  rintro e U1 ⟨rfl, hq⟩
  have HB2 := Lib.hid (HB0.out.trans (hq.mono HB0.out.size))
  have RT2 := Lib.hid (row_kept RT0.out hq)
  have KO2 := Lib.hid (KO0.out.below hq)
  have KT2 := Lib.hid (KT0.out.below hq)
  clear hq HB0 RT0 KO0 KT0
  go_wp2_with (refine wpList_load_row rfl 27 (.tmp 3) rfl (w.heap.size) rfl 27 _ (0, 0) _ RT2.out Tryd.underlying27 rfl HIT.out ?_)
  rw [show Value.agg (trC t p).toArray = trV t p from rfl]
  refine (few_yes t p _ h1 h2).mono ?_
  rintro e U3 ⟨rfl, hq⟩
  have HB4 := Lib.hid (HB2.out.trans (hq.mono HB2.out.size))
  have RT4 := Lib.hid (row_kept RT2.out hq)
  have KO4 := Lib.hid (KO2.out.below hq)
  have KT4 := Lib.hid (KT2.out.below hq)
  clear hq HB2 RT2 KO2 KT2
  obtain ⟨X, HX⟩ : ∃ x, Hid (lstL t = x) := ⟨_, Lib.hid rfl⟩
  obtain ⟨Y, HY⟩ : ∃ y, Hid (lstK t = y) := ⟨_, Lib.hid rfl⟩
  have HXO : Hid (DgOk X) := Lib.hid (by rw [← HX.out]; exact lstL_ok t)
  have HYO : Hid (DgOk Y) := Lib.hid (by rw [← HY.out]; exact lstK_ok t)
  have HRK : Hid (RtOk (rtOf (p.n : Nat) (p.n2 : Nat) X Y)) := Lib.hid (rtOf_ok (by unfold I64; omega) (by unfold I64; omega) HXO.out HYO.out)
  have HRI := Lib.hid (rtC_info HRK.out)
  have HRS : Hid (138 = (rtC (rtOf (p.n : Nat) (p.n2 : Nat) X Y)).toArray.size) := Lib.hid (by simp [rtC, rtOf, ndC_length zeroN_ok, dgC_len32 HXO.out, dgC_len32 HYO.out, dgC_len32 zeroD_ok])
  go_wp2_with (refine wpList_load_row rfl 27 (.tmp 3) rfl (w.heap.size) rfl 27 _ (0, 0) _ RT4.out Tryd.underlying27 rfl HIT.out ?_)
  rw [show Value.agg (trC t p).toArray = trV t p from rfl]
  refine (root42_yes t p _ KO4 KT4 HE).mono ?_
  rintro e U5 ⟨rfl, hq⟩
  rw [HX.out, HY.out]
  have HB6 := Lib.hid (HB4.out.trans (hq.mono HB4.out.size))
  have RT6 := Lib.hid (row_kept RT4.out hq)
  have KO6 := Lib.hid (KO4.out.below hq)
  have KT6 := Lib.hid (KT4.out.below hq)
  clear hq HB4 RT4 KO4 KT4
  obtain ⟨V7, HV7⟩ : ∃ W, Hid ((U5.alloc (.cells Tryd.zeroCells35 35)).setRow U5.heap.size (rtC (rtOf (p.n : Nat) (p.n2 : Nat) X Y)).toArray = W) := ⟨_, Lib.hid rfl⟩
  have hw := setRow_heap (U5.alloc (.cells Tryd.zeroCells35 35)) U5.heap.size _ (rtC (rtOf (p.n : Nat) (p.n2 : Nat) X Y)).toArray _ _ (heap_alloc_new U5 _)
  have hb := below_setRow ((Below.refl _ U5).alloc (Nat.le_refl _) (.cells Tryd.zeroCells35 35)) (Nat.le_refl _) (rtC (rtOf (p.n : Nat) (p.n2 : Nat) X Y)).toArray
  rw [HV7.out] at hw hb
  have HB8 := Lib.hid (HB6.out.trans (hb.mono HB6.out.size))
  have RT8 := Lib.hid (row_kept RT6.out hb)
  have KO8 := Lib.hid (KO6.out.below hb)
  have KT8 := Lib.hid (KT6.out.below hb)
  have RRo7 := Lib.hid hw
  clear hw hb HB6 RT6 KO6 KT6
  go_wp2_with (first | (refine wpList_store_row rfl 35 (.tmp 7) (.tmp 22) rfl U5.heap.size (rtC (rtOf (p.n : Nat) (p.n2 : Nat) X Y)).toArray rfl rfl 35 _ (heap_alloc_new U5 _) HRI.out HRS.out (rtC_one _) ?_; rw [HV7.out]) | (refine wpList_load_row rfl 27 (.tmp 3) rfl (w.heap.size) rfl 27 _ (0, 0) _ RT8.out Tryd.underlying27 rfl HIT.out ?_))
  rw [show Value.agg (trC t p).toArray = trV t p from rfl]
  obtain ⟨s, HS⟩ : ∃ s, Hid (saltN t.salt 1 (nLn x) = s) := ⟨_, Lib.hid rfl⟩
  have HSO : Hid (DgOk s) := Lib.hid (by rw [← HS.out]; exact saltN_ok _ _ _)
  refine (shwL_yes t p j x _ KO8 KT8 hg hj HXJ).mono ?_
  rintro e U9 ⟨As, ns, cs, rfl, hin, hq⟩
  rw [HS.out]
  obtain ⟨ps, HPS⟩ : ∃ ps, Hid (pathD (t.ln.map (lvL t.salt)) j = ps) := ⟨_, Lib.hid rfl⟩
  rw [HPS.out] at hin
  have KP0 := Lib.hid hin
  clear hin
  have HB10 := Lib.hid (HB8.out.trans (hq.mono HB8.out.size))
  have RT10 := Lib.hid (row_kept RT8.out hq)
  have RRo10 := Lib.hid (row_kept RRo7.out hq)
  have KO10 := Lib.hid (KO8.out.below hq)
  have KT10 := Lib.hid (KT8.out.below hq)
  clear hq HB8 RT8 RRo7 KO8 KT8
  have HSI : Hid ((Tryd.prog.info? 44).map (·.size) = some (shCL (j : Nat) x s As ns cs).toArray.size) := Lib.hid (shCL_info HSO.out)
  have HSH : Hid (39 = (shCL (j : Nat) x s As ns cs).toArray.size) := Lib.hid (by simp [shCL, lnC, dgC_len32 HSO.out])
  obtain ⟨V11, HV11⟩ : ∃ W, Hid ((U9.alloc (.cells #[.int .i64 0, .int .i64 0, .int .i64 0, .int .i64 0, .int .i64 0, .int .i64 0, .int .u8 0, .int .u8 0, .int .u8 0, .int .u8 0, .int .u8 0, .int .u8 0, .int .u8 0, .int .u8 0, .int .u8 0, .int .u8 0, .int .u8 0, .int .u8 0, .int .u8 0, .int .u8 0, .int .u8 0, .int .u8 0, .int .u8 0, .int .u8 0, .int .u8 0, .int .u8 0, .int .u8 0, .int .u8 0, .int .u8 0, .int .u8 0, .int .u8 0, .int .u8 0, .int .u8 0, .int .u8 0, .int .u8 0, .int .u8 0, .int .u8 0, .int .u8 0, .slice none 0 0] 44)).setRow U9.heap.size (shCL (j : Nat) x s As ns cs).toArray = W) := ⟨_, Lib.hid rfl⟩
  have hw := setRow_heap (U9.alloc (.cells #[.int .i64 0, .int .i64 0, .int .i64 0, .int .i64 0, .int .i64 0, .int .i64 0, .int .u8 0, .int .u8 0, .int .u8 0, .int .u8 0, .int .u8 0, .int .u8 0, .int .u8 0, .int .u8 0, .int .u8 0, .int .u8 0, .int .u8 0, .int .u8 0, .int .u8 0, .int .u8 0, .int .u8 0, .int .u8 0, .int .u8 0, .int .u8 0, .int .u8 0, .int .u8 0, .int .u8 0, .int .u8 0, .int .u8 0, .int .u8 0, .int .u8 0, .int .u8 0, .int .u8 0, .int .u8 0, .int .u8 0, .int .u8 0, .int .u8 0, .int .u8 0, .slice none 0 0] 44)) U9.heap.size _ (shCL (j : Nat) x s As ns cs).toArray _ _ (heap_alloc_new U9 _)
  have hb := below_setRow ((Below.refl _ U9).alloc (Nat.le_refl _) (.cells #[.int .i64 0, .int .i64 0, .int .i64 0, .int .i64 0, .int .i64 0, .int .i64 0, .int .u8 0, .int .u8 0, .int .u8 0, .int .u8 0, .int .u8 0, .int .u8 0, .int .u8 0, .int .u8 0, .int .u8 0, .int .u8 0, .int .u8 0, .int .u8 0, .int .u8 0, .int .u8 0, .int .u8 0, .int .u8 0, .int .u8 0, .int .u8 0, .int .u8 0, .int .u8 0, .int .u8 0, .int .u8 0, .int .u8 0, .int .u8 0, .int .u8 0, .int .u8 0, .int .u8 0, .int .u8 0, .int .u8 0, .int .u8 0, .int .u8 0, .int .u8 0, .slice none 0 0] 44)) (Nat.le_refl _) (shCL (j : Nat) x s As ns cs).toArray
  rw [HV11.out] at hw hb
  have HB12 := Lib.hid (HB10.out.trans (hb.mono HB10.out.size))
  have RT12 := Lib.hid (row_kept RT10.out hb)
  have RRo12 := Lib.hid (row_kept RRo10.out hb)
  have KO12 := Lib.hid (KO10.out.below hb)
  have KT12 := Lib.hid (KT10.out.below hb)
  have KP12 := Lib.hid (KP0.out.below hb)
  have RS11 := Lib.hid hw
  clear hw hb HB10 RT10 RRo10 KO10 KT10 KP0
  go_wp2_with (refine wpList_store_row rfl 44 (.tmp 9) (.tmp 28) rfl U9.heap.size (shCL (j : Nat) x s As ns cs).toArray rfl rfl 44 _ (heap_alloc_new U9 _) HSI.out HSH.out (shCL_one _ _ _ _ _ _) ?_; rw [HV11.out])
  have HDL : Hid (ps.length = (dirsD j p.n).length) := Lib.hid (by rw [← HPS.out, pathD_length, List.length_map, HN.out])
  have HNT : Hid (ps.length ≤ 12) := Lib.hid (by rw [HDL.out]; have h9 := dirsF_length p.n j p.n; unfold dirsD; omega)
  have HNS : Hid (ns ≤ 100000) := Lib.hid (path_bd (P := t.ln.map (lvL t.salt)) (i := j) (by rw [HPS.out]; exact KP12.out.len) (by rw [List.length_map, HN.out]; omega))
  go_loopw [38] (fun s1 wr => ∃ c : Nat, c ≤ 6 ∧ s1 = .int .i64 (c : Nat) ∧ Hid (Below V11.heap.size V11 wr)) (fun s1 _ => 6 - (intOf s1).toNat)
  case atStart => exact ⟨0, by omega, rfl, Lib.hid (Below.refl _ _)⟩
  case round =>
    obtain ⟨c, hc, rfl, HBW⟩ := hrel
    have HB13 := Lib.hid (HB12.out.trans (HBW.out.mono HB12.out.size))
    have RT13 := Lib.hid (row_kept RT12.out HBW.out)
    have RRo13 := Lib.hid (row_kept RRo12.out HBW.out)
    have RS13 := Lib.hid (row_kept RS11.out HBW.out)
    have KO13 := Lib.hid (KO12.out.below HBW.out)
    have KT13 := Lib.hid (KT12.out.below HBW.out)
    have KP13 := Lib.hid (KP12.out.below HBW.out)
    have HBR := HBW
    clear HBW
    by_cases hlt : c < 6
    · have d1 : decide ((c : Int) < 6) = true := decide_eq_true (by omega)
      go_wp2_with fail
      have HZ4 : Hid ((#[.int .i64 0, .int .i64 0, .int .i64 0, .int .i64 0, .int .i64 0, .int .i64 0, .int .u8 0, .int .u8 0, .int .u8 0, .int .u8 0, .int .u8 0, .int .u8 0, .int .u8 0, .int .u8 0, .int .u8 0, .int .u8 0, .int .u8 0, .int .u8 0, .int .u8 0, .int .u8 0, .int .u8 0, .int .u8 0, .int .u8 0, .int .u8 0, .int .u8 0, .int .u8 0, .int .u8 0, .int .u8 0, .int .u8 0, .int .u8 0, .int .u8 0, .int .u8 0, .int .u8 0, .int .u8 0, .int .u8 0, .int .u8 0, .int .u8 0, .int .u8 0, .slice none 0 0] : Array Value).size = (shCL (j : Nat) x s As ns cs).toArray.size) := Lib.hid HSH.out
      have HZ5 : Hid ((Tryd.zeroCells35 : Array Value).size = (rtC (rtOf (p.n : Nat) (p.n2 : Nat) X Y)).toArray.size) := Lib.hid (by rw [← HRS.out]; kernel_rfl)
      refine region_flow4 (by kernel_rfl) (by kernel_rfl) (fun i => Nat.beq i 4 || Nat.beq i 5) (fun i => bif Nat.beq i 4 then 2 else bif Nat.beq i 5 then 3 else i) (by kernel_rfl) (fun fx => #[trV t p, Value.int IntKind.i64 ↑j, Value.int IntKind.i64 b, Value.pointer (some { block := w.heap.size, off := 0 }), undef, undef, u6, Value.pointer (some { block := U5.heap.size, off := 0 }), Value.bool true, Value.pointer (some { block := U9.heap.size, off := 0 }), Value.int IntKind.i64 0, Value.int IntKind.i64 ↑c, fx 2, fx 3, Value.bool true, Value.bool false, trV t p, Value.bool true, Value.bool false, Value.tuple #[Value.agg (rtC (rtOf (↑p.n) (↑p.n2) X Y)).toArray, Value.bool true], trV t p, Value.tuple #[Value.agg (rtC (rtOf (↑p.n) (↑p.n2) X Y)).toArray, Value.bool true], Value.agg (rtC (rtOf (↑p.n) (↑p.n2) X Y)).toArray, Value.bool true, Value.tuple #[Value.agg (shCL (↑j) x s As ns cs).toArray, Value.int IntKind.i64 0], trV t p, Value.int IntKind.i64 ↑j, Value.tuple #[Value.agg (shCL (↑j) x s As ns cs).toArray, Value.int IntKind.i64 0], Value.agg (shCL (↑j) x s As ns cs).toArray, Value.int IntKind.i64 0, Value.bool true, Value.bool false, Value.bool false, Value.int IntKind.i64 0, Value.bool false, Value.bool false, undef, undef, Value.int IntKind.i64 ↑c, Value.bool true, Value.int IntKind.i64 ↑c, fx 0, fx 1, u43, u44, u45, u46, u47, u48, u49, u50, u51, u52, u53, u54, u55, u56, u57, u58, u59, u60, u61, u62, u63, u64, u65, u66, u67, u68, u69, u70, u71, u72, u73, u74, u75, u76, u77, u78, u79, u80, u81, u82, u83, u84, u85, u86, u87, u88, u89]) (fun i => bif Nat.beq i 0 then u41 else bif Nat.beq i 1 then u42 else bif Nat.beq i 2 then u12 else bif Nat.beq i 3 then u13 else undef) (fun L fx w' => cPl wr (shCL (j : Nat) x s As ns cs).toArray (rtC (rtOf (p.n : Nat) (p.n2 : Nat) X Y)).toArray #[.int .i64 0, .int .i64 0, .int .i64 0, .int .i64 0, .int .i64 0, .int .i64 0, .int .u8 0, .int .u8 0, .int .u8 0, .int .u8 0, .int .u8 0, .int .u8 0, .int .u8 0, .int .u8 0, .int .u8 0, .int .u8 0, .int .u8 0, .int .u8 0, .int .u8 0, .int .u8 0, .int .u8 0, .int .u8 0, .int .u8 0, .int .u8 0, .int .u8 0, .int .u8 0, .int .u8 0, .int .u8 0, .int .u8 0, .int .u8 0, .int .u8 0, .int .u8 0, .int .u8 0, .int .u8 0, .int .u8 0, .int .u8 0, .int .u8 0, .int .u8 0, .slice none 0 0] Tryd.zeroCells35 L fx w') (fun fi fv fu fw => wPl (shCL (j : Nat) x s As ns cs).toArray (rtC (rtOf (p.n : Nat) (p.n2 : Nat) X Y)).toArray #[] #[] wr.heap.size fi fv fu fw) ⟨(Below.refl _ _).drew, (fun h => by cases h), (fun h => by cases h)⟩ ?_ ?_
      · refine ⟨?_, ?_, ?_, ?_, ?_, ?_, trivial⟩
        all_goals intro L fx w' hC hi hcl hdn hd
        · have hrow := row_kept RS13.out hC.1
          refine wpList_load_row rfl 44 (.tmp 9) rfl (U9.heap.size) rfl 44 _ (0, 0) _ hrow Tryd.underlying44 rfl HSI.out ?_
          clear hd
          go_wp2_with fail
          exact ⟨_, rfl, hC, rfl, fun _ _ _ _ _ h => h⟩
        · have hrow := row_kept RRo13.out hC.1
          refine wpList_load_row rfl 35 (.tmp 7) rfl (U5.heap.size) rfl 35 _ (0, 0) _ hrow Tryd.underlying35 rfl HRI.out ?_
          clear hd
          go_wp2_with fail
          exact ⟨_, rfl, hC, rfl, fun _ _ _ _ _ h => h⟩
        · have hns : L 4 = false := Bool.eq_false_iff.2 (fun h => by have := hcl 4 2 h (by kernel_rfl); rw [hi] at this; cases this)
          go_wp2_with fail
          have hq : Below w'.heap.size w' (w'.alloc (.cells #[.int .i64 0, .int .i64 0, .int .i64 0, .int .i64 0, .int .i64 0, .int .i64 0, .int .u8 0, .int .u8 0, .int .u8 0, .int .u8 0, .int .u8 0, .int .u8 0, .int .u8 0, .int .u8 0, .int .u8 0, .int .u8 0, .int .u8 0, .int .u8 0, .int .u8 0, .int .u8 0, .int .u8 0, .int .u8 0, .int .u8 0, .int .u8 0, .int .u8 0, .int .u8 0, .int .u8 0, .int .u8 0, .int .u8 0, .int .u8 0, .int .u8 0, .int .u8 0, .int .u8 0, .int .u8 0, .int .u8 0, .int .u8 0, .int .u8 0, .int .u8 0, .slice none 0 0] 44)) := (Below.refl _ _).alloc (Nat.le_refl _) _
          have hrw : RowAt wr.heap.size (.pointer (some ⟨w'.heap.size, 0, none⟩)) 44 (bif L 4 then (shCL (j : Nat) x s As ns cs).toArray else #[.int .i64 0, .int .i64 0, .int .i64 0, .int .i64 0, .int .i64 0, .int .i64 0, .int .u8 0, .int .u8 0, .int .u8 0, .int .u8 0, .int .u8 0, .int .u8 0, .int .u8 0, .int .u8 0, .int .u8 0, .int .u8 0, .int .u8 0, .int .u8 0, .int .u8 0, .int .u8 0, .int .u8 0, .int .u8 0, .int .u8 0, .int .u8 0, .int .u8 0, .int .u8 0, .int .u8 0, .int .u8 0, .int .u8 0, .int .u8 0, .int .u8 0, .int .u8 0, .int .u8 0, .int .u8 0, .int .u8 0, .int .u8 0, .int .u8 0, .int .u8 0, .slice none 0 0]) (w'.alloc (.cells #[.int .i64 0, .int .i64 0, .int .i64 0, .int .i64 0, .int .i64 0, .int .i64 0, .int .u8 0, .int .u8 0, .int .u8 0, .int .u8 0, .int .u8 0, .int .u8 0, .int .u8 0, .int .u8 0, .int .u8 0, .int .u8 0, .int .u8 0, .int .u8 0, .int .u8 0, .int .u8 0, .int .u8 0, .int .u8 0, .int .u8 0, .int .u8 0, .int .u8 0, .int .u8 0, .int .u8 0, .int .u8 0, .int .u8 0, .int .u8 0, .int .u8 0, .int .u8 0, .int .u8 0, .int .u8 0, .int .u8 0, .int .u8 0, .int .u8 0, .int .u8 0, .slice none 0 0] 44)) := by rw [hns]; exact ⟨_, rfl, hC.1.size, heap_alloc_new _ _⟩
          refine ⟨.pointer (some ⟨w'.heap.size, 0, none⟩), rfl, ⟨(hC.below hq).1, fun _ => hrw, (hC.below hq).2.2⟩, trivial, fun j v u _ _ h => wPl_below hq j v u h⟩
        · have hns : L 5 = false := Bool.eq_false_iff.2 (fun h => by have := hcl 5 3 h (by kernel_rfl); rw [hi] at this; cases this)
          go_wp2_with fail
          have hq : Below w'.heap.size w' (w'.alloc (.cells Tryd.zeroCells35 35)) := (Below.refl _ _).alloc (Nat.le_refl _) _
          have hrw : RowAt wr.heap.size (.pointer (some ⟨w'.heap.size, 0, none⟩)) 35 (bif L 5 then (rtC (rtOf (p.n : Nat) (p.n2 : Nat) X Y)).toArray else Tryd.zeroCells35) (w'.alloc (.cells Tryd.zeroCells35 35)) := by rw [hns]; exact ⟨_, rfl, hC.1.size, heap_alloc_new _ _⟩
          refine ⟨.pointer (some ⟨w'.heap.size, 0, none⟩), rfl, ⟨(hC.below hq).1, (hC.below hq).2.1, fun _ => hrw⟩, trivial, fun j v u _ _ h => wPl_below hq j v u h⟩
        · have H2 := Lib.hid (hd.1 rfl)
          have h0 : fx 0 = .agg (shCL (j : Nat) x s As ns cs).toArray := hd.2.1 rfl
          obtain ⟨q, eq, hq1, hrow⟩ := hC.2.1 (hdn 2 (by kernel_rfl))
          rw [hi] at hrow
          refine wpList_store_row rfl 44 (.tmp 12) (.tmp 41) rfl q (shCL (j : Nat) x s As ns cs).toArray eq h0 44 _ hrow HSI.out HZ4.out (shCL_one _ _ _ _ _ _) ?_
          clear hd
          go_wp2_with fail
          have hw2 := setRow_heap w' q _ (shCL (j : Nat) x s As ns cs).toArray _ _ hrow
          have hne : 35 ≠ 44 := by decide
          have ho : L 3 = true → RowAt wr.heap.size (fx 3) 35 (bif L 5 then (rtC (rtOf (p.n : Nat) (p.n2 : Nat) X Y)).toArray else Tryd.zeroCells35) (w'.setRow q (shCL (j : Nat) x s As ns cs).toArray) := fun e => RowAt.other (hC.2.2 e) hrow hne _
          refine ⟨undef, (by simp only [upd, h0, eq]; rfl), ⟨below_setRow hC.1 hq1 _, fun _ => ⟨q, eq, hq1, hw2⟩, ho⟩, ⟨q, eq, hq1, hw2⟩, fun j v u hj hu h => ?_⟩
          by_cases e : j = 5
          · subst e; exact RowAt.other h hrow hne _
          · rcases j with _ | _ | _ | _ | _ | _ | j
            · exact h
            · exact h
            · trivial
            · trivial
            · exact absurd hi (by rw [hj]; decide)
            · exact absurd rfl e
            · trivial
        · have H3 := Lib.hid (hd.1 rfl)
          have h1 : fx 1 = .agg (rtC (rtOf (p.n : Nat) (p.n2 : Nat) X Y)).toArray := hd.2.1 rfl
          obtain ⟨q, eq, hq1, hrow⟩ := hC.2.2 (hdn 3 (by kernel_rfl))
          rw [hi] at hrow
          refine wpList_store_row rfl 35 (.tmp 13) (.tmp 42) rfl q (rtC (rtOf (p.n : Nat) (p.n2 : Nat) X Y)).toArray eq h1 35 _ hrow HRI.out HZ5.out (rtC_one _) ?_
          clear hd
          go_wp2_with fail
          have hw2 := setRow_heap w' q _ (rtC (rtOf (p.n : Nat) (p.n2 : Nat) X Y)).toArray _ _ hrow
          have hne : 44 ≠ 35 := by decide
          have ho : L 2 = true → RowAt wr.heap.size (fx 2) 44 (bif L 4 then (shCL (j : Nat) x s As ns cs).toArray else #[.int .i64 0, .int .i64 0, .int .i64 0, .int .i64 0, .int .i64 0, .int .i64 0, .int .u8 0, .int .u8 0, .int .u8 0, .int .u8 0, .int .u8 0, .int .u8 0, .int .u8 0, .int .u8 0, .int .u8 0, .int .u8 0, .int .u8 0, .int .u8 0, .int .u8 0, .int .u8 0, .int .u8 0, .int .u8 0, .int .u8 0, .int .u8 0, .int .u8 0, .int .u8 0, .int .u8 0, .int .u8 0, .int .u8 0, .int .u8 0, .int .u8 0, .int .u8 0, .int .u8 0, .int .u8 0, .int .u8 0, .int .u8 0, .int .u8 0, .int .u8 0, .slice none 0 0]) (w'.setRow q (rtC (rtOf (p.n : Nat) (p.n2 : Nat) X Y)).toArray) := fun e => RowAt.other (hC.2.1 e) hrow hne _
          refine ⟨undef, (by simp only [upd, h1, eq]; rfl), ⟨below_setRow hC.1 hq1 _, ho, fun _ => ⟨q, eq, hq1, hw2⟩⟩, ⟨q, eq, hq1, hw2⟩, fun j v u hj hu h => ?_⟩
          by_cases e : j = 4
          · subst e; exact RowAt.other h hrow hne _
          · rcases j with _ | _ | _ | _ | _ | _ | j
            · exact h
            · exact h
            · trivial
            · trivial
            · exact absurd rfl e
            · exact absurd hi (by rw [hj]; decide)
            · trivial
      · intro L fo w' hC hS
        have H4 := Lib.hid (hS 4 (by decide) rfl)
        have H5 := Lib.hid (hS 5 (by decide) rfl)
        obtain ⟨q2, e2, hq2, hr2⟩ := H4.out
        obtain ⟨q3, e3, hq3, hr3⟩ := H5.out
        have e2' : fo 2 = .pointer (some ⟨q2, 0, none⟩) := e2
        have e3' : fo 3 = .pointer (some ⟨q3, 0, none⟩) := e3
        rw [e2', e3']
        have hne : q3 ≠ q2 := block_ne hr3 hr2 (by decide)
        have HNE := Lib.hid hne
        have HA := Lib.hid hr2
        have HBB := Lib.hid hr3
        have HC1 := Lib.hid hC.1
        have HQ2 := Lib.hid hq2
        have HQ3 := Lib.hid hq3
        clear hS hC H4 H5 e2 e3 e2' e3' hne hr2 hr3 hq2 hq3
        rcases (show c = 0 ∨ c = 1 ∨ c = 2 ∨ c = 3 ∨ c = 4 ∨ c = 5 by omega) with hcm | hcm | hcm | hcm | hcm | hcm
        · have t0 : ((c : Int) == 0) = true := by rw [hcm]; rfl
          have n0 : decide ((c : Int) = 0) = true := by rw [hcm]; rfl
          have HCM := Lib.hid hcm
          clear hcm
          have e := setCell_eq_setRow w' q2 0 _ _ _ (.int .i64 (-1 - (k : Int))) HA.out
          have hr := setRow_heap w' q2 _ ((shCL (j : Nat) x s As ns cs).toArray.setIfInBounds 0 (.int .i64 (-1 - (k : Int)))) _ _ HA.out
          have hb := below_setRow HC1.out HQ2.out ((shCL (j : Nat) x s As ns cs).toArray.setIfInBounds 0 (.int .i64 (-1 - (k : Int))))
          rw [shCL_set_at] at e hr hb
          obtain ⟨W2, HW2⟩ : ∃ W, Hid (w'.setCell ⟨q2, 0, none⟩ (.int .i64 (-1 - (k : Int))) = W) := ⟨_, Lib.hid rfl⟩
          have hfz : w'.frozen? ⟨q2, 0, none⟩ = false := frozen_of_row _ _ _ _ _ HA.out
          have hcl : w'.cell? ⟨q2, 0, none⟩ = some (.int .i64 (j : Nat)) := by rw [cell_of_row _ _ _ _ _ _ HA.out]; rfl
          have ho := (setRow_other w' q2 q3 (shCL (-1 - (k : Int)) x s As ns cs).toArray HNE.out).trans HBB.out
          rw [← e] at hr hb ho
          rw [HW2.out] at hr hb ho
          have HB101 := Lib.hid (HB13.out.trans (hb.mono HB13.out.size))
          have RT101 := Lib.hid (row_kept RT13.out hb)
          have RRo101 := Lib.hid (row_kept RRo13.out hb)
          have RS101 := Lib.hid (row_kept RS13.out hb)
          have KO101 := Lib.hid (KO13.out.below hb)
          have KT101 := Lib.hid (KT13.out.below hb)
          have KP101 := Lib.hid (KP13.out.below hb)
          have KBR101 := Lib.hid (HBR.out.trans (hb.mono HBR.out.size))
          have HA2 : Hid (W2.heap[q2]? = some (.cells (shCL (-1 - (k : Int)) x s As ns cs).toArray 44 (0, 0))) := Lib.hid hr
          have HB2q : Hid (W2.heap[q3]? = some (.cells (rtC (rtOf (p.n : Nat) (p.n2 : Nat) X Y)).toArray 35 (0, 0))) := Lib.hid ho
          have HRK2 : Hid (RtOk (rtOf (p.n : Nat) (p.n2 : Nat) X Y)) := Lib.hid (rtOf_ok (by unfold I64; omega) (by unfold I64; omega) HXO.out HYO.out)
          have HRI2 := Lib.hid (rtC_info HRK2.out)
          have HIN2 : Hid (InD W2 As ns cs ps) := Lib.hid (KP13.out.below hb)
          have HVF : Hid (vfE (vLn x) (lfL x s) (-1 - (k : Int)) (rtOf (p.n : Nat) (p.n2 : Nat) X Y).lin (ps) (rtOf (p.n : Nat) (p.n2 : Nat) X Y).listed = 420) := Lib.hid (vf_arg (by show dArg _ ((p.n : Nat) : Int) _; exact .inr (.inr (.inl (by omega)))))
          have hnp : ns ≤ 100000 := HNS.out
          clear e hr hb ho HB13 RT13 RRo13 RS13 KO13 KT13 KP13 HBR
          go_wp2_with (first | (rw [HW2.out]; refine wpList_load_row rfl 35 (.tmp 13) rfl (q3) rfl 35 _ (0, 0) _ HB2q.out Tryd.underlying35 rfl HRI2.out ?_) | (refine wpList_load_row rfl 35 (.tmp 13) rfl (q3) rfl 35 _ (0, 0) _ HB2q.out Tryd.underlying35 rfl HRI2.out ?_) | (refine wpList_load_row rfl 44 (.tmp 12) rfl (q2) rfl 44 _ (0, 0) _ HA2.out Tryd.underlying44 rfl (shCL_info HSO.out) ?_))
          clear hfz hcl
          refine (verL (rtOf (p.n : Nat) (p.n2 : Nat) X Y) (-1 - (k : Int)) x s As ns cs _ _ HSO HRK2 hnp HIN2 KT101).mono ?_
          rintro e U102 ⟨rfl, hq⟩
          rw [HVF.out]
          have HB103 := Lib.hid (HB101.out.trans (hq.mono HB101.out.size))
          have RT103 := Lib.hid (row_kept RT101.out hq)
          have RRo103 := Lib.hid (row_kept RRo101.out hq)
          have RS103 := Lib.hid (row_kept RS101.out hq)
          have RA103 := Lib.hid (row_kept HA2.out hq)
          have RB103 := Lib.hid (row_kept HB2q.out hq)
          have KO103 := Lib.hid (KO101.out.below hq)
          have KT103 := Lib.hid (KT101.out.below hq)
          have KP103 := Lib.hid (KP101.out.below hq)
          have KBR103 := Lib.hid (KBR101.out.trans (hq.mono KBR101.out.size))
          clear hq HB101 RT101 RRo101 RS101 HA2 HB2q KO101 KT101 KP101 KBR101
          go_wp2_with fail
          go_roundw
          case rel => exact ⟨c + 1, by omega, by go_num, KBR103⟩
          case measure => first | (simp [intOf]; done) | (simp [intOf]; omega)
        · have t0 : ((c : Int) == 0) = false := by rw [hcm]; rfl
          have n0 : decide ((c : Int) = 0) = false := by rw [hcm]; rfl
          have t1 : ((c : Int) == 1) = true := by rw [hcm]; rfl
          have n1 : decide ((c : Int) = 1) = true := by rw [hcm]; rfl
          have HCM := Lib.hid hcm
          clear hcm
          have ml : w'.cell? ⟨U5.heap.size, 4, none⟩ = some (.int .i64 (p.n : Nat)) := by rw [cell_of_row _ _ _ _ _ _ (row_kept RRo13.out HC1.out)]; rfl
          have e := setCell_eq_setRow w' q2 0 _ _ _ (.int .i64 ((p.n : Int) + (k : Int))) HA.out
          have hr := setRow_heap w' q2 _ ((shCL (j : Nat) x s As ns cs).toArray.setIfInBounds 0 (.int .i64 ((p.n : Int) + (k : Int)))) _ _ HA.out
          have hb := below_setRow HC1.out HQ2.out ((shCL (j : Nat) x s As ns cs).toArray.setIfInBounds 0 (.int .i64 ((p.n : Int) + (k : Int))))
          rw [shCL_set_at] at e hr hb
          obtain ⟨W2, HW2⟩ : ∃ W, Hid (w'.setCell ⟨q2, 0, none⟩ (.int .i64 ((p.n : Int) + (k : Int))) = W) := ⟨_, Lib.hid rfl⟩
          have hfz : w'.frozen? ⟨q2, 0, none⟩ = false := frozen_of_row _ _ _ _ _ HA.out
          have hcl : w'.cell? ⟨q2, 0, none⟩ = some (.int .i64 (j : Nat)) := by rw [cell_of_row _ _ _ _ _ _ HA.out]; rfl
          have ho := (setRow_other w' q2 q3 (shCL ((p.n : Int) + (k : Int)) x s As ns cs).toArray HNE.out).trans HBB.out
          rw [← e] at hr hb ho
          rw [HW2.out] at hr hb ho
          have HB201 := Lib.hid (HB13.out.trans (hb.mono HB13.out.size))
          have RT201 := Lib.hid (row_kept RT13.out hb)
          have RRo201 := Lib.hid (row_kept RRo13.out hb)
          have RS201 := Lib.hid (row_kept RS13.out hb)
          have KO201 := Lib.hid (KO13.out.below hb)
          have KT201 := Lib.hid (KT13.out.below hb)
          have KP201 := Lib.hid (KP13.out.below hb)
          have KBR201 := Lib.hid (HBR.out.trans (hb.mono HBR.out.size))
          have HA2 : Hid (W2.heap[q2]? = some (.cells (shCL ((p.n : Int) + (k : Int)) x s As ns cs).toArray 44 (0, 0))) := Lib.hid hr
          have HB2q : Hid (W2.heap[q3]? = some (.cells (rtC (rtOf (p.n : Nat) (p.n2 : Nat) X Y)).toArray 35 (0, 0))) := Lib.hid ho
          have HRK2 : Hid (RtOk (rtOf (p.n : Nat) (p.n2 : Nat) X Y)) := Lib.hid (rtOf_ok (by unfold I64; omega) (by unfold I64; omega) HXO.out HYO.out)
          have HRI2 := Lib.hid (rtC_info HRK2.out)
          have HIN2 : Hid (InD W2 As ns cs ps) := Lib.hid (KP13.out.below hb)
          have HVF : Hid (vfE (vLn x) (lfL x s) ((p.n : Int) + (k : Int)) (rtOf (p.n : Nat) (p.n2 : Nat) X Y).lin (ps) (rtOf (p.n : Nat) (p.n2 : Nat) X Y).listed = 420) := Lib.hid (vf_arg (by show dArg _ ((p.n : Nat) : Int) _; exact .inr (.inr (.inr (.inl (by omega))))))
          have hnp : ns ≤ 100000 := HNS.out
          clear e hr hb ho HB13 RT13 RRo13 RS13 KO13 KT13 KP13 HBR
          go_wp2_with (first | (rw [HW2.out]; refine wpList_load_row rfl 35 (.tmp 13) rfl (q3) rfl 35 _ (0, 0) _ HB2q.out Tryd.underlying35 rfl HRI2.out ?_) | (refine wpList_load_row rfl 35 (.tmp 13) rfl (q3) rfl 35 _ (0, 0) _ HB2q.out Tryd.underlying35 rfl HRI2.out ?_) | (refine wpList_load_row rfl 44 (.tmp 12) rfl (q2) rfl 44 _ (0, 0) _ HA2.out Tryd.underlying44 rfl (shCL_info HSO.out) ?_))
          clear hfz hcl
          refine (verL (rtOf (p.n : Nat) (p.n2 : Nat) X Y) ((p.n : Int) + (k : Int)) x s As ns cs _ _ HSO HRK2 hnp HIN2 KT201).mono ?_
          rintro e U202 ⟨rfl, hq⟩
          rw [HVF.out]
          have HB203 := Lib.hid (HB201.out.trans (hq.mono HB201.out.size))
          have RT203 := Lib.hid (row_kept RT201.out hq)
          have RRo203 := Lib.hid (row_kept RRo201.out hq)
          have RS203 := Lib.hid (row_kept RS201.out hq)
          have RA203 := Lib.hid (row_kept HA2.out hq)
          have RB203 := Lib.hid (row_kept HB2q.out hq)
          have KO203 := Lib.hid (KO201.out.below hq)
          have KT203 := Lib.hid (KT201.out.below hq)
          have KP203 := Lib.hid (KP201.out.below hq)
          have KBR203 := Lib.hid (KBR201.out.trans (hq.mono KBR201.out.size))
          clear hq HB201 RT201 RRo201 RS201 HA2 HB2q KO201 KT201 KP201 KBR201
          go_wp2_with fail
          go_roundw
          case rel => exact ⟨c + 1, by omega, by go_num, KBR203⟩
          case measure => first | (simp [intOf]; done) | (simp [intOf]; omega)
        · have t0 : ((c : Int) == 0) = false := by rw [hcm]; rfl
          have n0 : decide ((c : Int) = 0) = false := by rw [hcm]; rfl
          have t1 : ((c : Int) == 1) = false := by rw [hcm]; rfl
          have n1 : decide ((c : Int) = 1) = false := by rw [hcm]; rfl
          have t2 : ((c : Int) == 2) = true := by rw [hcm]; rfl
          have n2 : decide ((c : Int) = 2) = true := by rw [hcm]; rfl
          have HCM := Lib.hid hcm
          clear hcm
          have mp : w'.cell? ⟨U9.heap.size, 38, none⟩ = some (.slice As ns cs) := shCL_p HSO.out (row_kept RS13.out HC1.out)
          obtain ⟨W5, HW5⟩ : ∃ W, Hid (w'.alloc (.cells #[] 25) = W) := ⟨_, Lib.hid rfl⟩
          have hb5 := (Below.refl _ w').alloc (Nat.le_refl _) (.cells #[] 25)
          have hr5 := heap_alloc_new w' (.cells #[] 25)
          rw [HW5.out] at hb5 hr5
          have HO5 := Lib.hid (own_emptyD hr5 (Nat.le_refl _))
          have HB5 := Lib.hid hb5
          have HP5 := Lib.hid ((KP13.out.below HC1.out).below hb5)
          have mp5 : W5.cell? ⟨U9.heap.size, 38, none⟩ = some (.slice As ns cs) := shCL_p HSO.out (row_kept (row_kept RS13.out HC1.out) hb5)
          have hns := HNS.out
          have HS5 := Lib.hid hb5.size
          clear hb5 hr5
          have HDN : Hid ((ps ++ [zeroD]).length ≠ (dirsD j p.n).length) := Lib.hid (by rw [List.length_append, ← HDL.out]; simp)
          have HZI2 := Lib.hid built_zD
          have HPL : Hid (ps.length ≤ 100000) := Lib.hid (by rw [KP13.out.len]; exact HNS.out)
          have hpl := HPL.out
          go_wp2_with (first | (rw [HW5.out]) | (refine wpList_append_digs rfl (.tmp 60) (.tmp 62) rfl w'.heap.size _ [] ps As ns cs rfl HO5 rfl HP5 (Nat.zero_le _) hns HS5.out ?_; intro v6 W6 HO6 HG6; obtain ⟨A6, n6, c6, rfl⟩ := HO6.out.form) | (refine wpList_zero42 25 _ built_zD rfl rfl ?_; rw [← dgV_agg zeroD]) | (refine wpList_build_digs1 rfl (.tmp 64) rfl zeroD rfl zeroD_ok ?_; (have hba := (Below.refl _ W6).alloc (Nat.le_refl _) (.cells (flatD [zeroD]).toArray 25)); (have HO7 := Lib.hid ((show OwnD W6 w'.heap.size (.slice A6 n6 c6) ps from HO6.out).below hba)); (have HR7 := Lib.hid (heap_alloc_new W6 (.cells (flatD [zeroD]).toArray 25))); (have HB6 := Lib.hid (HB5.out.grown HG6.out HB5.out.size (fun k hk => (HO5.out.block k hk).1))); (have HB7 := Lib.hid (HB6.out.trans (hba.mono HB6.out.size))); (have HS7 := Lib.hid HB7.out.size); clear hba) | (refine wpList_append_dig rfl (.tmp 63) (.tmp 65) rfl w'.heap.size _ ps zeroD rfl HO7 zeroD_ok W6.heap.size rfl HR7 hpl HS7.out ?_; intro v8 W8 HO8 HG8; obtain ⟨A8, n8, c8, rfl⟩ := HO8.out.form; (have HB8 := Lib.hid (HB7.out.grown HG8.out HB7.out.size (fun k hk => (HO7.out.block k hk).1))); (have HB8W := Lib.hid (HC1.out.trans (HB8.out.mono HC1.out.size))); (have HA8 := Lib.hid (row_kept HA.out HB8.out)); (have HBB8 := Lib.hid (row_kept HBB.out HB8.out)); (have e := setCell_eq_setRow W8 q2 38 _ _ _ (.slice A8 n8 c8) HA8.out); (have hr := setRow_heap W8 q2 _ ((shCL (j : Nat) x s As ns cs).toArray.setIfInBounds 38 (.slice A8 n8 c8)) _ _ HA8.out); (have hb := below_setRow HB8W.out HQ2.out ((shCL (j : Nat) x s As ns cs).toArray.setIfInBounds 38 (.slice A8 n8 c8))); (rw [shCL_set_path _ _ _ HSO.out.len] at e hr hb); (obtain ⟨W2, HW2⟩ : ∃ W, Hid (W8.setCell ⟨q2, 38, none⟩ (.slice A8 n8 c8) = W) := ⟨_, Lib.hid rfl⟩); (have hfz : W8.frozen? ⟨q2, 38, none⟩ = false := frozen_of_row _ _ _ _ _ HA8.out); (have hcl : W8.cell? ⟨q2, 38, none⟩ = some (.slice As ns cs) := shCL_p HSO.out HA8.out); (have HIN8 : Hid (InD W8 A8 n8 c8 (ps ++ [zeroD]) ∧ ∀ g8, (Value.slice A8 n8 c8).ownBlock = some g8 → g8 ≠ q2) := Lib.hid (own_apart HO8.out (dgs_ok_app KP13.out.ok zeroD_ok) HA.out)); (have ho := (setRow_other W8 q2 q3 (shCL ((j : Nat)) x s A8 n8 c8).toArray HNE.out).trans HBB8.out); (rw [← e] at hr hb ho); (rw [HW2.out] at hr hb ho); (have HB301 := Lib.hid (HB13.out.trans (hb.mono HB13.out.size))); (have RT301 := Lib.hid (row_kept RT13.out hb)); (have RRo301 := Lib.hid (row_kept RRo13.out hb)); (have RS301 := Lib.hid (row_kept RS13.out hb)); (have KO301 := Lib.hid (KO13.out.below hb)); (have KT301 := Lib.hid (KT13.out.below hb)); (have KP301 := Lib.hid (KP13.out.below hb)); (have KBR301 := Lib.hid (HBR.out.trans (hb.mono HBR.out.size))); (have HA2 : Hid (W2.heap[q2]? = some (.cells (shCL ((j : Nat)) x s A8 n8 c8).toArray 44 (0, 0))) := Lib.hid hr); (have HB2q : Hid (W2.heap[q3]? = some (.cells (rtC (rtOf (p.n : Nat) (p.n2 : Nat) X Y)).toArray 35 (0, 0))) := Lib.hid ho); (have HRK2 : Hid (RtOk (rtOf (p.n : Nat) (p.n2 : Nat) X Y)) := Lib.hid (rtOf_ok (by unfold I64; omega) (by unfold I64; omega) HXO.out HYO.out)); (have HRI2 := Lib.hid (rtC_info HRK2.out)); (have HIN2 : Hid (InD W2 A8 n8 c8 (ps ++ [zeroD])) := Lib.hid (by rw [← HW2.out, e]; exact HIN8.out.1.setRow HIN8.out.2)); (have HVF : Hid (vfE (vLn x) (lfL x s) ((j : Nat)) (rtOf (p.n : Nat) (p.n2 : Nat) X Y).lin ((ps ++ [zeroD])) (rtOf (p.n : Nat) (p.n2 : Nat) X Y).listed = 420) := Lib.hid (vf_arg (by show dArg _ ((p.n : Nat) : Int) _; exact .inr (.inr (.inr (.inr HDN.out)))))); (have hnp : n8 ≤ 100000 := by have h8 := HIN8.out.1.len; rw [List.length_append, List.length_singleton] at h8; have h9 := HNT.out; omega); (clear e hr hb ho HB13 RT13 RRo13 RS13 KO13 KT13 KP13 HBR)) | (rw [HW2.out]; refine wpList_load_row rfl 35 (.tmp 13) rfl (q3) rfl 35 _ (0, 0) _ HB2q.out Tryd.underlying35 rfl HRI2.out ?_) | (refine wpList_load_row rfl 35 (.tmp 13) rfl (q3) rfl 35 _ (0, 0) _ HB2q.out Tryd.underlying35 rfl HRI2.out ?_) | (refine wpList_load_row rfl 44 (.tmp 12) rfl (q2) rfl 44 _ (0, 0) _ HA2.out Tryd.underlying44 rfl (shCL_info HSO.out) ?_))
          refine (verL (rtOf (p.n : Nat) (p.n2 : Nat) X Y) (j : Nat) x s A8 n8 c8 _ _ HSO HRK2 hnp HIN2 KT301).mono ?_
          rintro e U302 ⟨rfl, hq⟩
          rw [HVF.out]
          have HB303 := Lib.hid (HB301.out.trans (hq.mono HB301.out.size))
          have RT303 := Lib.hid (row_kept RT301.out hq)
          have RRo303 := Lib.hid (row_kept RRo301.out hq)
          have RS303 := Lib.hid (row_kept RS301.out hq)
          have RA303 := Lib.hid (row_kept HA2.out hq)
          have RB303 := Lib.hid (row_kept HB2q.out hq)
          have KO303 := Lib.hid (KO301.out.below hq)
          have KT303 := Lib.hid (KT301.out.below hq)
          have KP303 := Lib.hid (KP301.out.below hq)
          have KBR303 := Lib.hid (KBR301.out.trans (hq.mono KBR301.out.size))
          clear hq HB301 RT301 RRo301 RS301 HA2 HB2q KO301 KT301 KP301 KBR301
          go_wp2_with fail
          go_roundw
          case rel => exact ⟨c + 1, by omega, by go_num, KBR303⟩
          case measure => first | (simp [intOf]; done) | (simp [intOf]; omega)
        · have t0 : ((c : Int) == 0) = false := by rw [hcm]; rfl
          have n0 : decide ((c : Int) = 0) = false := by rw [hcm]; rfl
          have t1 : ((c : Int) == 1) = false := by rw [hcm]; rfl
          have n1 : decide ((c : Int) = 1) = false := by rw [hcm]; rfl
          have t2 : ((c : Int) == 2) = false := by rw [hcm]; rfl
          have n2 : decide ((c : Int) = 2) = false := by rw [hcm]; rfl
          have t3 : ((c : Int) == 3) = true := by rw [hcm]; rfl
          have n3 : decide ((c : Int) = 3) = true := by rw [hcm]; rfl
          have HCM := Lib.hid hcm
          clear hcm
          have mp : w'.cell? ⟨U9.heap.size, 38, none⟩ = some (.slice As ns cs) := shCL_p HSO.out (row_kept RS13.out HC1.out)
          by_cases hn0 : ns = 0
          · have tn : ((ns : Int) == 0) = true := by rw [hn0]; rfl
            have HN0 := Lib.hid hn0
            clear hn0
            go_wp2_with fail
            go_roundw
            case rel => exact ⟨c + 1, by omega, by go_num, Lib.hid (HBR.out.trans (HC1.out.mono HBR.out.size))⟩
            case measure => first | (simp [intOf]; done) | (simp [intOf]; omega)
          · have tn : ((ns : Int) == 0) = false := by simp only [beq_eq_false_iff_ne, ne_eq]; omega
            obtain ⟨g1, o1, rfl, hg1, hr1⟩ := KP13.out.rd (by rw [KP13.out.len]; omega)
            have hcap := KP13.out.cap
            have HDN : Hid ((ps.drop 1).length ≠ (dirsD j p.n).length) := Lib.hid (by rw [List.length_drop, ← HDL.out, KP13.out.len]; omega)
            have hd1 := KP13.out.drop 1 (by omega)
            have HDD := Lib.hid hd1
            clear hd1 hg1 hr1
            by_cases hc1 : cs = 1
            · subst hc1
              have hns1 : ns = 1 := by omega
              subst hns1
              have e := setCell_eq_setRow w' q2 38 _ _ _ (.slice (some ⟨g1, o1, none⟩) 0 0) HA.out
              have hr := setRow_heap w' q2 _ ((shCL (j : Nat) x s (some ⟨g1, o1, none⟩) 1 1).toArray.setIfInBounds 38 (.slice (some ⟨g1, o1, none⟩) 0 0)) _ _ HA.out
              have hb := below_setRow HC1.out HQ2.out ((shCL (j : Nat) x s (some ⟨g1, o1, none⟩) 1 1).toArray.setIfInBounds 38 (.slice (some ⟨g1, o1, none⟩) 0 0))
              rw [shCL_set_path _ _ _ HSO.out.len] at e hr hb
              obtain ⟨W2, HW2⟩ : ∃ W, Hid (w'.setCell ⟨q2, 38, none⟩ (.slice (some ⟨g1, o1, none⟩) 0 0) = W) := ⟨_, Lib.hid rfl⟩
              have hfz : w'.frozen? ⟨q2, 38, none⟩ = false := frozen_of_row _ _ _ _ _ HA.out
              have hcl : w'.cell? ⟨q2, 38, none⟩ = some (.slice (some ⟨g1, o1, none⟩) 1 1) := shCL_p HSO.out HA.out
              have ho := (setRow_other w' q2 q3 (shCL ((j : Nat)) x s (some ⟨g1, o1, none⟩) 0 0).toArray HNE.out).trans HBB.out
              rw [← e] at hr hb ho
              rw [HW2.out] at hr hb ho
              have HB451 := Lib.hid (HB13.out.trans (hb.mono HB13.out.size))
              have RT451 := Lib.hid (row_kept RT13.out hb)
              have RRo451 := Lib.hid (row_kept RRo13.out hb)
              have RS451 := Lib.hid (row_kept RS13.out hb)
              have KO451 := Lib.hid (KO13.out.below hb)
              have KT451 := Lib.hid (KT13.out.below hb)
              have KP451 := Lib.hid (KP13.out.below hb)
              have KBR451 := Lib.hid (HBR.out.trans (hb.mono HBR.out.size))
              have HA2 : Hid (W2.heap[q2]? = some (.cells (shCL ((j : Nat)) x s (some ⟨g1, o1, none⟩) 0 0).toArray 44 (0, 0))) := Lib.hid hr
              have HB2q : Hid (W2.heap[q3]? = some (.cells (rtC (rtOf (p.n : Nat) (p.n2 : Nat) X Y)).toArray 35 (0, 0))) := Lib.hid ho
              have HRK2 : Hid (RtOk (rtOf (p.n : Nat) (p.n2 : Nat) X Y)) := Lib.hid (rtOf_ok (by unfold I64; omega) (by unfold I64; omega) HXO.out HYO.out)
              have HRI2 := Lib.hid (rtC_info HRK2.out)
              have HIN2 : Hid (InD W2 (some ⟨g1, o1, none⟩) 0 0 (ps.drop 1)) := Lib.hid (⟨by rw [List.length_drop, KP13.out.len], Nat.le_refl _, fun _ => rfl, (fun y hy => absurd hy (by rw [List.eq_nil_of_length_eq_zero (l := ps.drop 1) (by rw [List.length_drop, KP13.out.len])]; exact List.not_mem_nil)), (fun h0 => absurd h0 (by rw [List.length_drop, KP13.out.len]; omega))⟩)
              have HVF : Hid (vfE (vLn x) (lfL x s) ((j : Nat)) (rtOf (p.n : Nat) (p.n2 : Nat) X Y).lin ((ps.drop 1)) (rtOf (p.n : Nat) (p.n2 : Nat) X Y).listed = 420) := Lib.hid (vf_arg (by show dArg _ ((p.n : Nat) : Int) _; exact .inr (.inr (.inr (.inr HDN.out)))))
              have hnp : 0 ≤ 100000 := by have := HNS.out; omega
              clear e hr hb ho HB13 RT13 RRo13 RS13 KO13 KT13 KP13 HBR
              go_wp2_with (first | (rw [HW2.out]; refine wpList_load_row rfl 35 (.tmp 13) rfl (q3) rfl 35 _ (0, 0) _ HB2q.out Tryd.underlying35 rfl HRI2.out ?_) | (refine wpList_load_row rfl 35 (.tmp 13) rfl (q3) rfl 35 _ (0, 0) _ HB2q.out Tryd.underlying35 rfl HRI2.out ?_) | (refine wpList_load_row rfl 44 (.tmp 12) rfl (q2) rfl 44 _ (0, 0) _ HA2.out Tryd.underlying44 rfl (shCL_info HSO.out) ?_))
              clear hfz hcl
              refine (verL (rtOf (p.n : Nat) (p.n2 : Nat) X Y) ((j : Nat)) x s (some ⟨g1, o1, none⟩) 0 0 _ _ HSO HRK2 hnp HIN2 KT451).mono ?_
              rintro e U452 ⟨rfl, hq⟩
              rw [HVF.out]
              have HB453 := Lib.hid (HB451.out.trans (hq.mono HB451.out.size))
              have RT453 := Lib.hid (row_kept RT451.out hq)
              have RRo453 := Lib.hid (row_kept RRo451.out hq)
              have RS453 := Lib.hid (row_kept RS451.out hq)
              have RA453 := Lib.hid (row_kept HA2.out hq)
              have RB453 := Lib.hid (row_kept HB2q.out hq)
              have KO453 := Lib.hid (KO451.out.below hq)
              have KT453 := Lib.hid (KT451.out.below hq)
              have KP453 := Lib.hid (KP451.out.below hq)
              have KBR453 := Lib.hid (KBR451.out.trans (hq.mono KBR451.out.size))
              clear hq HB451 RT451 RRo451 RS451 HA2 HB2q KO451 KT451 KP451 KBR451
              go_wp2_with fail
              go_roundw
              case rel => exact ⟨c + 1, by omega, by go_num, KBR453⟩
              case measure => first | (simp [intOf]; done) | (simp [intOf]; omega)
            · have e := setCell_eq_setRow w' q2 38 _ _ _ (.slice (some ⟨g1, o1 + 32, none⟩) (ns - 1) (cs - 1)) HA.out
              have hr := setRow_heap w' q2 _ ((shCL (j : Nat) x s (some ⟨g1, o1, none⟩) ns cs).toArray.setIfInBounds 38 (.slice (some ⟨g1, o1 + 32, none⟩) (ns - 1) (cs - 1))) _ _ HA.out
              have hb := below_setRow HC1.out HQ2.out ((shCL (j : Nat) x s (some ⟨g1, o1, none⟩) ns cs).toArray.setIfInBounds 38 (.slice (some ⟨g1, o1 + 32, none⟩) (ns - 1) (cs - 1)))
              rw [shCL_set_path _ _ _ HSO.out.len] at e hr hb
              obtain ⟨W2, HW2⟩ : ∃ W, Hid (w'.setCell ⟨q2, 38, none⟩ (.slice (some ⟨g1, o1 + 32, none⟩) (ns - 1) (cs - 1)) = W) := ⟨_, Lib.hid rfl⟩
              have hfz : w'.frozen? ⟨q2, 38, none⟩ = false := frozen_of_row _ _ _ _ _ HA.out
              have hcl : w'.cell? ⟨q2, 38, none⟩ = some (.slice (some ⟨g1, o1, none⟩) ns cs) := shCL_p HSO.out HA.out
              have ho := (setRow_other w' q2 q3 (shCL ((j : Nat)) x s (some ⟨g1, o1 + 32, none⟩) (ns - 1) (cs - 1)).toArray HNE.out).trans HBB.out
              rw [← e] at hr hb ho
              rw [HW2.out] at hr hb ho
              have HB461 := Lib.hid (HB13.out.trans (hb.mono HB13.out.size))
              have RT461 := Lib.hid (row_kept RT13.out hb)
              have RRo461 := Lib.hid (row_kept RRo13.out hb)
              have RS461 := Lib.hid (row_kept RS13.out hb)
              have KO461 := Lib.hid (KO13.out.below hb)
              have KT461 := Lib.hid (KT13.out.below hb)
              have KP461 := Lib.hid (KP13.out.below hb)
              have KBR461 := Lib.hid (HBR.out.trans (hb.mono HBR.out.size))
              have HA2 : Hid (W2.heap[q2]? = some (.cells (shCL ((j : Nat)) x s (some ⟨g1, o1 + 32, none⟩) (ns - 1) (cs - 1)).toArray 44 (0, 0))) := Lib.hid hr
              have HB2q : Hid (W2.heap[q3]? = some (.cells (rtC (rtOf (p.n : Nat) (p.n2 : Nat) X Y)).toArray 35 (0, 0))) := Lib.hid ho
              have HRK2 : Hid (RtOk (rtOf (p.n : Nat) (p.n2 : Nat) X Y)) := Lib.hid (rtOf_ok (by unfold I64; omega) (by unfold I64; omega) HXO.out HYO.out)
              have HRI2 := Lib.hid (rtC_info HRK2.out)
              have HIN2 : Hid (InD W2 (some ⟨g1, o1 + 32, none⟩) (ns - 1) (cs - 1) (ps.drop 1)) := Lib.hid ((show InD wr (some ⟨g1, o1 + 32, none⟩) (ns - 1) (cs - 1) (ps.drop 1) from by have h := HDD.out; rwa [Nat.one_mul] at h).below hb)
              have HVF : Hid (vfE (vLn x) (lfL x s) ((j : Nat)) (rtOf (p.n : Nat) (p.n2 : Nat) X Y).lin ((ps.drop 1)) (rtOf (p.n : Nat) (p.n2 : Nat) X Y).listed = 420) := Lib.hid (vf_arg (by show dArg _ ((p.n : Nat) : Int) _; exact .inr (.inr (.inr (.inr HDN.out)))))
              have hnp : (ns - 1) ≤ 100000 := by have := HNS.out; omega
              clear e hr hb ho HB13 RT13 RRo13 RS13 KO13 KT13 KP13 HBR
              go_wp2_with (first | (rw [HW2.out]; refine wpList_load_row rfl 35 (.tmp 13) rfl (q3) rfl 35 _ (0, 0) _ HB2q.out Tryd.underlying35 rfl HRI2.out ?_) | (refine wpList_load_row rfl 35 (.tmp 13) rfl (q3) rfl 35 _ (0, 0) _ HB2q.out Tryd.underlying35 rfl HRI2.out ?_) | (refine wpList_load_row rfl 44 (.tmp 12) rfl (q2) rfl 44 _ (0, 0) _ HA2.out Tryd.underlying44 rfl (shCL_info HSO.out) ?_))
              clear hfz hcl
              refine (verL (rtOf (p.n : Nat) (p.n2 : Nat) X Y) ((j : Nat)) x s (some ⟨g1, o1 + 32, none⟩) (ns - 1) (cs - 1) _ _ HSO HRK2 hnp HIN2 KT461).mono ?_
              rintro e U462 ⟨rfl, hq⟩
              rw [HVF.out]
              have HB463 := Lib.hid (HB461.out.trans (hq.mono HB461.out.size))
              have RT463 := Lib.hid (row_kept RT461.out hq)
              have RRo463 := Lib.hid (row_kept RRo461.out hq)
              have RS463 := Lib.hid (row_kept RS461.out hq)
              have RA463 := Lib.hid (row_kept HA2.out hq)
              have RB463 := Lib.hid (row_kept HB2q.out hq)
              have KO463 := Lib.hid (KO461.out.below hq)
              have KT463 := Lib.hid (KT461.out.below hq)
              have KP463 := Lib.hid (KP461.out.below hq)
              have KBR463 := Lib.hid (KBR461.out.trans (hq.mono KBR461.out.size))
              clear hq HB461 RT461 RRo461 RS461 HA2 HB2q KO461 KT461 KP461 KBR461
              go_wp2_with fail
              go_roundw
              case rel => exact ⟨c + 1, by omega, by go_num, KBR463⟩
              case measure => first | (simp [intOf]; done) | (simp [intOf]; omega)
        · have t0 : ((c : Int) == 0) = false := by rw [hcm]; rfl
          have n0 : decide ((c : Int) = 0) = false := by rw [hcm]; rfl
          have t1 : ((c : Int) == 1) = false := by rw [hcm]; rfl
          have n1 : decide ((c : Int) = 1) = false := by rw [hcm]; rfl
          have t2 : ((c : Int) == 2) = false := by rw [hcm]; rfl
          have n2 : decide ((c : Int) = 2) = false := by rw [hcm]; rfl
          have t3 : ((c : Int) == 3) = false := by rw [hcm]; rfl
          have n3 : decide ((c : Int) = 3) = false := by rw [hcm]; rfl
          have t4 : ((c : Int) == 4) = true := by rw [hcm]; rfl
          have n4 : decide ((c : Int) = 4) = true := by rw [hcm]; rfl
          have HCM := Lib.hid hcm
          clear hcm
          have e := setCell_eq_setRow w' q2 3 _ _ _ (.int .i64 13) HA.out
          have hr := setRow_heap w' q2 _ ((shCL (j : Nat) x s As ns cs).toArray.setIfInBounds 3 (.int .i64 13)) _ _ HA.out
          have hb := below_setRow HC1.out HQ2.out ((shCL (j : Nat) x s As ns cs).toArray.setIfInBounds 3 (.int .i64 13))
          rw [shCL_set_grade] at e hr hb
          obtain ⟨W2, HW2⟩ : ∃ W, Hid (w'.setCell ⟨q2, 3, none⟩ (.int .i64 13) = W) := ⟨_, Lib.hid rfl⟩
          have hfz : w'.frozen? ⟨q2, 3, none⟩ = false := frozen_of_row _ _ _ _ _ HA.out
          have hcl : w'.cell? ⟨q2, 3, none⟩ = some (.int .i64 x.c2) := by rw [cell_of_row _ _ _ _ _ _ HA.out]; rfl
          have ho := (setRow_other w' q2 q3 (shCL ((j : Nat)) ⟨x.c0, x.c1, 13, x.c3, x.c4⟩ s As ns cs).toArray HNE.out).trans HBB.out
          rw [← e] at hr hb ho
          rw [HW2.out] at hr hb ho
          have HB501 := Lib.hid (HB13.out.trans (hb.mono HB13.out.size))
          have RT501 := Lib.hid (row_kept RT13.out hb)
          have RRo501 := Lib.hid (row_kept RRo13.out hb)
          have RS501 := Lib.hid (row_kept RS13.out hb)
          have KO501 := Lib.hid (KO13.out.below hb)
          have KT501 := Lib.hid (KT13.out.below hb)
          have KP501 := Lib.hid (KP13.out.below hb)
          have KBR501 := Lib.hid (HBR.out.trans (hb.mono HBR.out.size))
          have HA2 : Hid (W2.heap[q2]? = some (.cells (shCL ((j : Nat)) ⟨x.c0, x.c1, 13, x.c3, x.c4⟩ s As ns cs).toArray 44 (0, 0))) := Lib.hid hr
          have HB2q : Hid (W2.heap[q3]? = some (.cells (rtC (rtOf (p.n : Nat) (p.n2 : Nat) X Y)).toArray 35 (0, 0))) := Lib.hid ho
          have HRK2 : Hid (RtOk (rtOf (p.n : Nat) (p.n2 : Nat) X Y)) := Lib.hid (rtOf_ok (by unfold I64; omega) (by unfold I64; omega) HXO.out HYO.out)
          have HRI2 := Lib.hid (rtC_info HRK2.out)
          have HIN2 : Hid (InD W2 As ns cs ps) := Lib.hid (KP13.out.below hb)
          have HVF : Hid (vfE (vLn ⟨x.c0, x.c1, 13, x.c3, x.c4⟩) (lfL ⟨x.c0, x.c1, 13, x.c3, x.c4⟩ s) ((j : Nat)) (rtOf (p.n : Nat) (p.n2 : Nat) X Y).lin (ps) (rtOf (p.n : Nat) (p.n2 : Nat) X Y).listed = 420) := Lib.hid (vfE_0 _ _ _ _ _ (by unfold vLn; exact decide_eq_false (fun hl => by unfold lOk at hl; simp only at hl; omega)))
          have hnp : ns ≤ 100000 := HNS.out
          clear e hr hb ho HB13 RT13 RRo13 RS13 KO13 KT13 KP13 HBR
          go_wp2_with (first | (rw [HW2.out]; refine wpList_load_row rfl 35 (.tmp 13) rfl (q3) rfl 35 _ (0, 0) _ HB2q.out Tryd.underlying35 rfl HRI2.out ?_) | (refine wpList_load_row rfl 35 (.tmp 13) rfl (q3) rfl 35 _ (0, 0) _ HB2q.out Tryd.underlying35 rfl HRI2.out ?_) | (refine wpList_load_row rfl 44 (.tmp 12) rfl (q2) rfl 44 _ (0, 0) _ HA2.out Tryd.underlying44 rfl (shCL_info HSO.out) ?_))
          clear hfz hcl
          refine (verL (rtOf (p.n : Nat) (p.n2 : Nat) X Y) ((j : Nat)) ⟨x.c0, x.c1, 13, x.c3, x.c4⟩ s As ns cs _ _ HSO HRK2 hnp HIN2 KT501).mono ?_
          rintro e U502 ⟨rfl, hq⟩
          rw [HVF.out]
          have HB503 := Lib.hid (HB501.out.trans (hq.mono HB501.out.size))
          have RT503 := Lib.hid (row_kept RT501.out hq)
          have RRo503 := Lib.hid (row_kept RRo501.out hq)
          have RS503 := Lib.hid (row_kept RS501.out hq)
          have RA503 := Lib.hid (row_kept HA2.out hq)
          have RB503 := Lib.hid (row_kept HB2q.out hq)
          have KO503 := Lib.hid (KO501.out.below hq)
          have KT503 := Lib.hid (KT501.out.below hq)
          have KP503 := Lib.hid (KP501.out.below hq)
          have KBR503 := Lib.hid (KBR501.out.trans (hq.mono KBR501.out.size))
          clear hq HB501 RT501 RRo501 RS501 HA2 HB2q KO501 KT501 KP501 KBR501
          go_wp2_with fail
          go_roundw
          case rel => exact ⟨c + 1, by omega, by go_num, KBR503⟩
          case measure => first | (simp [intOf]; done) | (simp [intOf]; omega)
        · have t0 : ((c : Int) == 0) = false := by rw [hcm]; rfl
          have n0 : decide ((c : Int) = 0) = false := by rw [hcm]; rfl
          have t1 : ((c : Int) == 1) = false := by rw [hcm]; rfl
          have n1 : decide ((c : Int) = 1) = false := by rw [hcm]; rfl
          have t2 : ((c : Int) == 2) = false := by rw [hcm]; rfl
          have n2 : decide ((c : Int) = 2) = false := by rw [hcm]; rfl
          have t3 : ((c : Int) == 3) = false := by rw [hcm]; rfl
          have n3 : decide ((c : Int) = 3) = false := by rw [hcm]; rfl
          have t4 : ((c : Int) == 4) = false := by rw [hcm]; rfl
          have n4 : decide ((c : Int) = 4) = false := by rw [hcm]; rfl
          have t5 : ((c : Int) == 5) = true := by rw [hcm]; rfl
          have n5 : decide ((c : Int) = 5) = true := by rw [hcm]; rfl
          have HCM := Lib.hid hcm
          clear hcm
          have e := setCell_eq_setRow w' q3 4 _ _ _ (.int .i64 0) HBB.out
          have hr := setRow_heap w' q3 _ ((rtC (rtOf (p.n : Nat) (p.n2 : Nat) X Y)).toArray.setIfInBounds 4 (.int .i64 0)) _ _ HBB.out
          have hb := below_setRow HC1.out HQ3.out ((rtC (rtOf (p.n : Nat) (p.n2 : Nat) X Y)).toArray.setIfInBounds 4 (.int .i64 0))
          rw [rtC_set_lin] at e hr hb
          obtain ⟨W2, HW2⟩ : ∃ W, Hid (w'.setCell ⟨q3, 4, none⟩ (.int .i64 0) = W) := ⟨_, Lib.hid rfl⟩
          have hfz : w'.frozen? ⟨q3, 4, none⟩ = false := frozen_of_row _ _ _ _ _ HBB.out
          have hcl : w'.cell? ⟨q3, 4, none⟩ = some (.int .i64 (p.n : Nat)) := by rw [cell_of_row _ _ _ _ _ _ HBB.out]; rfl
          have ho := (setRow_other w' q3 q2 (rtC (rtOf 0 (p.n2 : Nat) X Y)).toArray HNE.out.symm).trans HA.out
          rw [← e] at hr hb ho
          rw [HW2.out] at hr hb ho
          have HB601 := Lib.hid (HB13.out.trans (hb.mono HB13.out.size))
          have RT601 := Lib.hid (row_kept RT13.out hb)
          have RRo601 := Lib.hid (row_kept RRo13.out hb)
          have RS601 := Lib.hid (row_kept RS13.out hb)
          have KO601 := Lib.hid (KO13.out.below hb)
          have KT601 := Lib.hid (KT13.out.below hb)
          have KP601 := Lib.hid (KP13.out.below hb)
          have KBR601 := Lib.hid (HBR.out.trans (hb.mono HBR.out.size))
          have HA2 : Hid (W2.heap[q2]? = some (.cells (shCL ((j : Nat)) x s As ns cs).toArray 44 (0, 0))) := Lib.hid ho
          have HB2q : Hid (W2.heap[q3]? = some (.cells (rtC (rtOf 0 (p.n2 : Nat) X Y)).toArray 35 (0, 0))) := Lib.hid hr
          have HRK2 : Hid (RtOk (rtOf 0 (p.n2 : Nat) X Y)) := Lib.hid (rtOf_ok (by unfold I64; omega) (by unfold I64; omega) HXO.out HYO.out)
          have HRI2 := Lib.hid (rtC_info HRK2.out)
          have HIN2 : Hid (InD W2 As ns cs ps) := Lib.hid (KP13.out.below hb)
          have HVF : Hid (vfE (vLn x) (lfL x s) ((j : Nat)) (rtOf 0 (p.n2 : Nat) X Y).lin (ps) (rtOf 0 (p.n2 : Nat) X Y).listed = 420) := Lib.hid (vf_arg (.inl (by show (0 : Int) < 1; omega)))
          have hnp : ns ≤ 100000 := HNS.out
          clear e hr hb ho HB13 RT13 RRo13 RS13 KO13 KT13 KP13 HBR
          go_wp2_with (first | (rw [HW2.out]; refine wpList_load_row rfl 35 (.tmp 13) rfl (q3) rfl 35 _ (0, 0) _ HB2q.out Tryd.underlying35 rfl HRI2.out ?_) | (refine wpList_load_row rfl 35 (.tmp 13) rfl (q3) rfl 35 _ (0, 0) _ HB2q.out Tryd.underlying35 rfl HRI2.out ?_) | (refine wpList_load_row rfl 44 (.tmp 12) rfl (q2) rfl 44 _ (0, 0) _ HA2.out Tryd.underlying44 rfl (shCL_info HSO.out) ?_))
          clear hfz hcl
          refine (verL (rtOf 0 (p.n2 : Nat) X Y) ((j : Nat)) x s As ns cs _ _ HSO HRK2 hnp HIN2 KT601).mono ?_
          rintro e U602 ⟨rfl, hq⟩
          rw [HVF.out]
          have HB603 := Lib.hid (HB601.out.trans (hq.mono HB601.out.size))
          have RT603 := Lib.hid (row_kept RT601.out hq)
          have RRo603 := Lib.hid (row_kept RRo601.out hq)
          have RS603 := Lib.hid (row_kept RS601.out hq)
          have RA603 := Lib.hid (row_kept HA2.out hq)
          have RB603 := Lib.hid (row_kept HB2q.out hq)
          have KO603 := Lib.hid (KO601.out.below hq)
          have KT603 := Lib.hid (KT601.out.below hq)
          have KP603 := Lib.hid (KP601.out.below hq)
          have KBR603 := Lib.hid (KBR601.out.trans (hq.mono KBR601.out.size))
          clear hq HB601 RT601 RRo601 RS601 HA2 HB2q KO601 KT601 KP601 KBR601
          go_wp2_with fail
          go_roundw
          case rel => exact ⟨c + 1, by omega, by go_num, KBR603⟩
          case measure => first | (simp [intOf]; done) | (simp [intOf]; omega)
    · have d1 : decide ((c : Int) < 6) = false := decide_eq_false (by omega)
      go_wp2_with fail
      go_ret
      exact ⟨rfl, HB13.out⟩
theorem walk (w : World) (hT : Tabs w) (t : Tr) (p : TrP) (h : TrOk w t p) (i : Int) (hi0 : -9223372036854775808 ≤ i) (hi1 : i ≤ 9223372036854775807) (b : Int) (hb0 : -9223372036854775808 ≤ b) (hb1 : b ≤ 9223372036854775807) :
    Calls Tryd.prog 7 #[trV t p, .int .i64 i, .int .i64 b] w fun e w' => e = .returned (.bool true) ∧ Below w.heap.size w w' := by
  by_cases hf : p.n ≤ 12 ∧ p.n2 ≤ 12
  · by_cases hg : trG t = true
    · by_cases hi : i < 0 ∨ (p.n : Int) ≤ i
      · exact bad2 t p i b w (Lib.hid h) (Lib.hid hT) hf.1 hf.2 (Lib.hid (trE_yes hg)) hi
      · obtain ⟨j, rfl⟩ := Int.eq_ofNat_of_zero_le (show 0 ≤ i by omega)
        have hj : j < t.ln.length := by rw [h.ln.len]; omega
        exact good t p j _ b w (Lib.hid h) (Lib.hid hT) hf.1 hf.2 (Lib.hid hg) (by omega) (Lib.hid (List.getElem?_eq_getElem hj))
    · have hg' : trG t = false := by simpa using hg
      exact bad1 t p i b w (Lib.hid h) (Lib.hid hT) hf.1 hf.2 (Lib.hid (trE_no hg')) hg'
  · exact big t p i b w (Lib.hid h) (Lib.hid hT) hf
set_option maxRecDepth 100000 in
theorem lifted (os : Os) (started : os.Started) (H : Type) (enc : TypeId × Value → H) :
    ReturnsInHanded {} Tryd.checked os 7 .any (fun w args => (Rows.disclosePlacesSpec.pre enc Tryd.prog Tryd.f7 [] false w args ∧ laidMetH Tryd.prog laidL w) ∧ sizedMet enc Tryd.prog Tryd.f7 (OpenSpec.ofChange Rows.disclosePlacesSpec) false w args)
      (Rows.disclosePlacesSpec.post enc Tryd.prog Tryd.f7 false true false false) := by
  refine returnsInHanded_of_change_and (C := Tryd.checked) (X := fun w _ => laidMetH Tryd.prog laidL w) (fun _ _ _ hh h => h.of_heap hh) own started (by kernel_rfl) Tryd.func7
    (ChangeSpec.witness_shaped (enc := enc) (C := Tryd.checked) (os := os) (X := fun w _ => laidMetH Tryd.prog laidL w) false (World.doorLaid Tryd.prog 400 os) #[.agg (#[.int .i64 0, .int .i64 0, .int .i64 0, .int .i64 0, .slice none 0 0, .slice none 0 0] ++ Array.replicate 32 (.int .u8 0)), .int .i64 0, .int .i64 0] 8 rfl (World.shaped_of_RefB (by kernel_rfl) (by kernel_rfl)) (by kernel_rfl) (by kernel_rfl) (by kernel_rfl) (door_met os _)) ?_
  intro W base args ds gs before hval0 hW _ hsz0 hL _
  have hval : ∀ (j : Nat) t v, Tryd.f7.params[j]? = some t → args[j]? = some v → Value.okWide Tryd.prog W .any base t v := hval0
  have hW' := hW
  obtain ⟨p, q, hA0, hV, rfl, hfz, hnd⟩ := hW
  have hA : DataW.TrodAll enc Tryd.prog W 0 (fun _ => true) true Tryd.f7.params.toList args.toList ds p := hA0
  have hsz : (DataW.weightsEach Tryd.prog (Tryd.f7.params.toList ++ Rows.disclosePlacesSpec.plain.varTypes Tryd.prog) (ds ++ gs)).all (· ≤ reachBytes) = true := hsz0
  rw [Tryd.params7] at hA hval hsz
  obtain ⟨v0, vs0, d0, ds0, p0, q0, hargs, rfl, rfl, h0, r0⟩ := trodAll_cons hA
  obtain ⟨v1, vs1, d1, ds1, p1, q1, rfl, rfl, rfl, h1, r1⟩ := trodAll_cons r0
  obtain ⟨v2, vs2, d2, ds2, p2, q2, rfl, rfl, rfl, h2, r2⟩ := trodAll_cons r1
  obtain ⟨rfl, rfl, rfl⟩ := trodAll_nil r2
  obtain rfl : args = #[v0, v1, v2] := by cases args; simp_all
  obtain ⟨rfl, rfl⟩ := trodVars_none hV
  obtain ⟨l0, y0, rfl, e0⟩ := arg_tr (hval 0 27 v0 rfl rfl) h0
  obtain ⟨a1, rfl, rfl, rfl, w1⟩ := open_int Tryd.underlying3 (hval 1 3 v1 rfl rfl) h1
  have b1 := bounds_i64 w1
  obtain ⟨a2, rfl, rfl, rfl, w2⟩ := open_int Tryd.underlying3 (hval 2 3 v2 rfl rfl) h2
  have b2 := bounds_i64 w2
  refine (walk W (tabs_of hL) l0 y0 e0 a1 b1.1 b1.2 a2 b2.1 b2.2).mono fun e W' ⟨he, hg⟩ => ?_
  subst he
  exact ⟨_, rfl, law_post (by kernel_rfl) rfl rfl (fun _ => ⟨rfl, rfl, rfl⟩) hW' hg⟩
theorem over : Rows.disclosePlacesRow.holds Tryd.pinned (OpenSpec.ofChange Rows.disclosePlacesSpec) :=
  OpenClaim.holds_of_wide 7 Tryd.f7 rfl rfl rfl rfl rfl rfl rfl ⟨rfl, rfl, rfl, rfl, rfl⟩ rfl rfl rfl rfl rfl (by kernel_rfl) Tryd.func7 (by kernel_rfl)
    (of_decide_eq_true (by kernel_rfl)) (by unfold Func.isWrapper; first | (rw [if_pos (by decide +kernel)]; kernel_rfl) | (rw [if_neg (by decide +kernel)]; exact ⟨rfl, rfl⟩))
    (fun os started H enc _ => lifted os started H enc)
/-- THE STATEMENT: the card -/
theorem proved : Rows.DisclosePlacesCardSaid :=
  Claim7.holds_tied_plain_at .later [] [.data, .data] true Rows.disclosePlacesCard.stood.harness true
    over (fun _ h => by cases h) (by kernel_rfl) (fun _ h => by cases h) disclosePlaces_row_tie rfl ⟨rfl, rfl⟩ (by kernel_rfl) rfl
    (fun f fn hf hfn => by
      obtain rfl : f = 7 := Option.some.inj ((show Tryd.prog.funcNamed "sizar/sizarlaw42.DisclosePlaces" = some 7 by kernel_rfl).symm.trans hf) |>.symm
      obtain rfl : fn = Tryd.f7 := (Option.some.inj (Tryd.func7.symm.trans hfn)).symm
      exact ⟨by kernel_rfl, fun j t ht => stands_of (show Tryd.f7.params.all (fun t => !Tryd.prog.wantsStandIn t) = true by kernel_rfl) ht⟩)
    (by kernel_rfl)
#print axioms proved
end Go.Proofs.YtmfmgeapecapiaaDoor.disclosePlaces
