/- SumsParts: for every transcript and any three bounds the law returns true: the sums of two intervals next to each other are those of both together. No conditions. -/
import Derived.Test.YtmfmgeapecapiaaDoorSM17
import Derived.Test.YtmfmgeapecapiaaDoorSM2
import Derived.Test.YtmfmgeapecapiaaDoorSM6
import Derived.Test.YtmfmgeapecapiaaDoorCards
import Derived.Test.YtmfmgeapecapiaaDoorTie
import Derived.Lib.SmallJoins
namespace Go.Proofs.YtmfmgeapecapiaaDoor.sumsParts
open Go.ChangeShapes Go.WideShapes Go.ChangeAt Go.RowKit SzSha SzTree
set_option linter.unusedVariables false
set_option maxRecDepth 100000
set_option maxHeartbeats 8000000 in
theorem big (t : Tr) (p : TrP) (f u v : Int) (w : World) (h : Hid (TrOk w t p)) (hT : Hid (Tabs w)) (hf : ¬ (p.n ≤ 40 ∧ p.n2 ≤ 20)) :
    Calls Tryd.prog 12 #[trV t p, .int .i64 f, .int .i64 u, .int .i64 v] w fun e w' => e = .returned (.bool true) ∧ Below w.heap.size w w' := by
  have HIT : Hid ((Tryd.prog.info? 27).map (·.size) = some (trC t p).toArray.size) := Lib.hid (trV_info t p h.out.len)
  have hb0 := (Below.refl _ w).alloc (Nat.le_refl _) (.cells (trC t p).toArray 27)
  have RT0 := Lib.hid (heap_alloc_new w (.cells (trC t p).toArray 27))
  have KO0 := Lib.hid (h.out.below hb0)
  have KT0 := Lib.hid (hT.out.below hb0)
  have HB0 := Lib.hid hb0
  clear hb0
  rw [show trV t p = .agg (trC t p).toArray from rfl]
  go_enter Tryd.func12, Tryd.ntmps12
  go_wp2_with fail
  refine (sane43 _ KT0).mono ?_
  rintro e U1 ⟨rfl, hq⟩
  have HB2 := Lib.hid (HB0.out.trans (hq.mono HB0.out.size))
  have RT2 := Lib.hid (row_kept RT0.out hq)
  have KO2 := Lib.hid (KO0.out.below hq)
  have KT2 := Lib.hid (KT0.out.below hq)
  clear hq HB0 RT0 KO0 KT0
  go_wp2_with (refine wpList_load_row rfl 27 (.tmp 4) rfl (w.heap.size) rfl 27 _ (0, 0) _ RT2.out Tryd.underlying27 rfl HIT.out ?_)
  rw [show Value.agg (trC t p).toArray = trV t p from rfl]
  refine (few43_no t p none 0 0 0 0 _ (.inl hf)).mono ?_
  rintro e U3 ⟨rfl, hq⟩
  have HB4 := Lib.hid (HB2.out.trans (hq.mono HB2.out.size))
  have RT4 := Lib.hid (row_kept RT2.out hq)
  have KO4 := Lib.hid (KO2.out.below hq)
  have KT4 := Lib.hid (KT2.out.below hq)
  clear hq HB2 RT2 KO2 KT2
  go_wp2_with fail
  go_ret
  exact ⟨rfl, HB4.out⟩
set_option maxHeartbeats 8000000 in
theorem no1 (t : Tr) (p : TrP) (f u v : Int) (w : World) (h : Hid (TrOk w t p)) (hT : Hid (Tabs w)) (h1 : p.n ≤ 40) (h2 : p.n2 ≤ 20) (y z : Int) (b : Bool) (HG : Hid (trG t = b)) (HS1 : Hid (shE t f u = y)) (HS2 : Hid (shE t u v = z)) (hb : b = false) :
    Calls Tryd.prog 12 #[trV t p, .int .i64 f, .int .i64 u, .int .i64 v] w fun e w' => e = .returned (.bool true) ∧ Below w.heap.size w w' := by
  have HIT : Hid ((Tryd.prog.info? 27).map (·.size) = some (trC t p).toArray.size) := Lib.hid (trV_info t p h.out.len)
  have hb0 := (Below.refl _ w).alloc (Nat.le_refl _) (.cells (trC t p).toArray 27)
  have RT0 := Lib.hid (heap_alloc_new w (.cells (trC t p).toArray 27))
  have KO0 := Lib.hid (h.out.below hb0)
  have KT0 := Lib.hid (hT.out.below hb0)
  have HB0 := Lib.hid hb0
  clear hb0
  rw [show trV t p = .agg (trC t p).toArray from rfl]
  go_enter Tryd.func12, Tryd.ntmps12
  go_wp2_with fail
  refine (sane43 _ KT0).mono ?_
  rintro e U1 ⟨rfl, hq⟩
  have HB2 := Lib.hid (HB0.out.trans (hq.mono HB0.out.size))
  have RT2 := Lib.hid (row_kept RT0.out hq)
  have KO2 := Lib.hid (KO0.out.below hq)
  have KT2 := Lib.hid (KT0.out.below hq)
  clear hq HB0 RT0 KO0 KT0
  go_wp2_with (refine wpList_load_row rfl 27 (.tmp 4) rfl (w.heap.size) rfl 27 _ (0, 0) _ RT2.out Tryd.underlying27 rfl HIT.out ?_)
  rw [show Value.agg (trC t p).toArray = trV t p from rfl]
  refine (few43_yes t p none 0 0 0 0 _ h1 h2 (by omega)).mono ?_
  rintro e U3 ⟨rfl, hq⟩
  have HB4 := Lib.hid (HB2.out.trans (hq.mono HB2.out.size))
  have RT4 := Lib.hid (row_kept RT2.out hq)
  have KO4 := Lib.hid (KO2.out.below hq)
  have KT4 := Lib.hid (KT2.out.below hq)
  clear hq HB2 RT2 KO2 KT2
  have HLN : Hid (t.ln.length = p.n) := Lib.hid h.out.ln.len
  obtain ⟨q, HQ⟩ : ∃ q, Hid (rootR (nds43 t) = q) := ⟨_, Lib.hid rfl⟩
  have HQO : Hid (NdOk q) := Lib.hid (by rw [← HQ.out]; exact rootR_ok nds43_ok)
  have HRK : Hid (RtOk (rt43 (p.n : Nat) q)) := Lib.hid (rt43_ok (by unfold I64; omega) HQO.out)
  have HRI := Lib.hid (rtC_info HRK.out)
  have HRS : Hid ((Tryd.zeroCells35).size = (rtC (rt43 (p.n : Nat) q)).toArray.size) := Lib.hid (by rw [rt43_size HQO.out]; kernel_rfl)
  go_wp2_with (refine wpList_load_row rfl 27 (.tmp 4) rfl (w.heap.size) rfl 27 _ (0, 0) _ RT4.out Tryd.underlying27 rfl HIT.out ?_)
  rw [show Value.agg (trC t p).toArray = trV t p from rfl]
  refine (rooted_any t p _ KO4 KT4).mono ?_
  rintro e U5 ⟨rfl, hq⟩
  rw [HQ.out]
  have HB6 := Lib.hid (HB4.out.trans (hq.mono HB4.out.size))
  have RT6 := Lib.hid (row_kept RT4.out hq)
  have KO6 := Lib.hid (KO4.out.below hq)
  have KT6 := Lib.hid (KT4.out.below hq)
  clear hq HB4 RT4 KO4 KT4
  obtain ⟨V7, HV7⟩ : ∃ W, Hid ((U5.alloc (.cells Tryd.zeroCells35 35)).setRow U5.heap.size (rtC (rt43 (p.n : Nat) q)).toArray = W) := ⟨_, Lib.hid rfl⟩
  have hw := setRow_heap (U5.alloc (.cells Tryd.zeroCells35 35)) U5.heap.size _ (rtC (rt43 (p.n : Nat) q)).toArray _ _ (heap_alloc_new U5 _)
  have hb := below_setRow ((Below.refl _ U5).alloc (Nat.le_refl _) (.cells Tryd.zeroCells35 35)) (Nat.le_refl _) (rtC (rt43 (p.n : Nat) q)).toArray
  rw [HV7.out] at hw hb
  have HB8 := Lib.hid (HB6.out.trans (hb.mono HB6.out.size))
  have RT8 := Lib.hid (row_kept RT6.out hb)
  have KO8 := Lib.hid (KO6.out.below hb)
  have KT8 := Lib.hid (KT6.out.below hb)
  have RR7 := Lib.hid hw
  clear hw hb HB6 RT6 KO6 KT6
  go_wp2_with (first | (refine wpList_store_row rfl 35 (.tmp 9) (.tmp 35) rfl U5.heap.size (rtC (rt43 (p.n : Nat) q)).toArray rfl rfl 35 _ (heap_alloc_new U5 _) HRI.out HRS.out (rtC_one _) ?_; rw [HV7.out]) | (refine wpList_load_row rfl 27 (.tmp 4) rfl (w.heap.size) rfl 27 _ (0, 0) _ RT8.out Tryd.underlying27 rfl HIT.out ?_))
  rw [show Value.agg (trC t p).toArray = trV t p from rfl]
  refine (show43 t p f u _ KO8 KT8).mono ?_
  rintro e U9 ⟨A1, n1, c1, rfl, hin, hq⟩
  rw [HS1.out]
  clear hin
  have HB10 := Lib.hid (HB8.out.trans (hq.mono HB8.out.size))
  have RT10 := Lib.hid (row_kept RT8.out hq)
  have RR10 := Lib.hid (row_kept RR7.out hq)
  have KO10 := Lib.hid (KO8.out.below hq)
  have KT10 := Lib.hid (KT8.out.below hq)
  clear hq HB8 RT8 RR7 KO8 KT8
  obtain ⟨a1, HA1⟩ : ∃ a, Hid ((if shG t f u = true then f else 0) = a) := ⟨_, Lib.hid rfl⟩
  obtain ⟨a2, HA2⟩ : ∃ a, Hid ((if shG t f u = true then u else 0) = a) := ⟨_, Lib.hid rfl⟩
  rw [HA1.out, HA2.out]
  obtain ⟨V11, HV11⟩ : ∃ V, Hid (U9.alloc (.cells #[.int .i64 a1, .int .i64 a2, .slice A1 n1 c1] 74) = V) := ⟨_, Lib.hid rfl⟩
  have hw := heap_alloc_new U9 (.cells #[.int .i64 a1, .int .i64 a2, .slice A1 n1 c1] 74)
  have hb := (Below.refl _ U9).alloc (Nat.le_refl _) (.cells #[.int .i64 a1, .int .i64 a2, .slice A1 n1 c1] 74)
  rw [HV11.out] at hw hb
  have HB12 := Lib.hid (HB10.out.trans (hb.mono HB10.out.size))
  have RT12 := Lib.hid (row_kept RT10.out hb)
  have RR12 := Lib.hid (row_kept RR10.out hb)
  have KO12 := Lib.hid (KO10.out.below hb)
  have KT12 := Lib.hid (KT10.out.below hb)
  have RP11 := Lib.hid hw
  clear hw hb HB10 RT10 RR10 KO10 KT10
  go_wp2_with (first | (rw [HV11.out]) | (refine wpList_load_row rfl 27 (.tmp 4) rfl (w.heap.size) rfl 27 _ (0, 0) _ RT12.out Tryd.underlying27 rfl HIT.out ?_))
  rw [show Value.agg (trC t p).toArray = trV t p from rfl]
  refine (show43 t p u v _ KO12 KT12).mono ?_
  rintro e U13 ⟨A2, n2, c2, rfl, hin, hq⟩
  rw [HS2.out]
  clear hin
  have HB14 := Lib.hid (HB12.out.trans (hq.mono HB12.out.size))
  have RT14 := Lib.hid (row_kept RT12.out hq)
  have RR14 := Lib.hid (row_kept RR12.out hq)
  have RP14 := Lib.hid (row_kept RP11.out hq)
  have KO14 := Lib.hid (KO12.out.below hq)
  have KT14 := Lib.hid (KT12.out.below hq)
  clear hq HB12 RT12 RR12 RP11 KO12 KT12
  obtain ⟨a3, HA3⟩ : ∃ a, Hid ((if shG t u v = true then u else 0) = a) := ⟨_, Lib.hid rfl⟩
  obtain ⟨a4, HA4⟩ : ∃ a, Hid ((if shG t u v = true then v else 0) = a) := ⟨_, Lib.hid rfl⟩
  rw [HA3.out, HA4.out]
  obtain ⟨V15, HV15⟩ : ∃ V, Hid (U13.alloc (.cells #[.int .i64 a3, .int .i64 a4, .slice A2 n2 c2] 74) = V) := ⟨_, Lib.hid rfl⟩
  have hw := heap_alloc_new U13 (.cells #[.int .i64 a3, .int .i64 a4, .slice A2 n2 c2] 74)
  have hb := (Below.refl _ U13).alloc (Nat.le_refl _) (.cells #[.int .i64 a3, .int .i64 a4, .slice A2 n2 c2] 74)
  rw [HV15.out] at hw hb
  have HB16 := Lib.hid (HB14.out.trans (hb.mono HB14.out.size))
  have RT16 := Lib.hid (row_kept RT14.out hb)
  have RR16 := Lib.hid (row_kept RR14.out hb)
  have RP16 := Lib.hid (row_kept RP14.out hb)
  have KO16 := Lib.hid (KO14.out.below hb)
  have KT16 := Lib.hid (KT14.out.below hb)
  have RQ15 := Lib.hid hw
  clear hw hb HB14 RT14 RR14 RP14 KO14 KT14
  have HGG := HG
  go_wp2_with (first | (rw [HV15.out]) | (rw [HGG.out]))
  go_ret
  exact ⟨rfl, HB16.out⟩
set_option maxHeartbeats 8000000 in
theorem no2 (t : Tr) (p : TrP) (f u v : Int) (w : World) (h : Hid (TrOk w t p)) (hT : Hid (Tabs w)) (h1 : p.n ≤ 40) (h2 : p.n2 ≤ 20) (y z : Int) (b : Bool) (HG : Hid (trG t = b)) (HS1 : Hid (shE t f u = y)) (HS2 : Hid (shE t u v = z)) (hb : b = true) (hy : (y != 0) = true) :
    Calls Tryd.prog 12 #[trV t p, .int .i64 f, .int .i64 u, .int .i64 v] w fun e w' => e = .returned (.bool true) ∧ Below w.heap.size w w' := by
  have HIT : Hid ((Tryd.prog.info? 27).map (·.size) = some (trC t p).toArray.size) := Lib.hid (trV_info t p h.out.len)
  have hb0 := (Below.refl _ w).alloc (Nat.le_refl _) (.cells (trC t p).toArray 27)
  have RT0 := Lib.hid (heap_alloc_new w (.cells (trC t p).toArray 27))
  have KO0 := Lib.hid (h.out.below hb0)
  have KT0 := Lib.hid (hT.out.below hb0)
  have HB0 := Lib.hid hb0
  clear hb0
  rw [show trV t p = .agg (trC t p).toArray from rfl]
  go_enter Tryd.func12, Tryd.ntmps12
  go_wp2_with fail
  refine (sane43 _ KT0).mono ?_
  rintro e U1 ⟨rfl, hq⟩
  have HB2 := Lib.hid (HB0.out.trans (hq.mono HB0.out.size))
  have RT2 := Lib.hid (row_kept RT0.out hq)
  have KO2 := Lib.hid (KO0.out.below hq)
  have KT2 := Lib.hid (KT0.out.below hq)
  clear hq HB0 RT0 KO0 KT0
  go_wp2_with (refine wpList_load_row rfl 27 (.tmp 4) rfl (w.heap.size) rfl 27 _ (0, 0) _ RT2.out Tryd.underlying27 rfl HIT.out ?_)
  rw [show Value.agg (trC t p).toArray = trV t p from rfl]
  refine (few43_yes t p none 0 0 0 0 _ h1 h2 (by omega)).mono ?_
  rintro e U3 ⟨rfl, hq⟩
  have HB4 := Lib.hid (HB2.out.trans (hq.mono HB2.out.size))
  have RT4 := Lib.hid (row_kept RT2.out hq)
  have KO4 := Lib.hid (KO2.out.below hq)
  have KT4 := Lib.hid (KT2.out.below hq)
  clear hq HB2 RT2 KO2 KT2
  have HLN : Hid (t.ln.length = p.n) := Lib.hid h.out.ln.len
  obtain ⟨q, HQ⟩ : ∃ q, Hid (rootR (nds43 t) = q) := ⟨_, Lib.hid rfl⟩
  have HQO : Hid (NdOk q) := Lib.hid (by rw [← HQ.out]; exact rootR_ok nds43_ok)
  have HRK : Hid (RtOk (rt43 (p.n : Nat) q)) := Lib.hid (rt43_ok (by unfold I64; omega) HQO.out)
  have HRI := Lib.hid (rtC_info HRK.out)
  have HRS : Hid ((Tryd.zeroCells35).size = (rtC (rt43 (p.n : Nat) q)).toArray.size) := Lib.hid (by rw [rt43_size HQO.out]; kernel_rfl)
  go_wp2_with (refine wpList_load_row rfl 27 (.tmp 4) rfl (w.heap.size) rfl 27 _ (0, 0) _ RT4.out Tryd.underlying27 rfl HIT.out ?_)
  rw [show Value.agg (trC t p).toArray = trV t p from rfl]
  refine (rooted_any t p _ KO4 KT4).mono ?_
  rintro e U5 ⟨rfl, hq⟩
  rw [HQ.out]
  have HB6 := Lib.hid (HB4.out.trans (hq.mono HB4.out.size))
  have RT6 := Lib.hid (row_kept RT4.out hq)
  have KO6 := Lib.hid (KO4.out.below hq)
  have KT6 := Lib.hid (KT4.out.below hq)
  clear hq HB4 RT4 KO4 KT4
  obtain ⟨V7, HV7⟩ : ∃ W, Hid ((U5.alloc (.cells Tryd.zeroCells35 35)).setRow U5.heap.size (rtC (rt43 (p.n : Nat) q)).toArray = W) := ⟨_, Lib.hid rfl⟩
  have hw := setRow_heap (U5.alloc (.cells Tryd.zeroCells35 35)) U5.heap.size _ (rtC (rt43 (p.n : Nat) q)).toArray _ _ (heap_alloc_new U5 _)
  have hb := below_setRow ((Below.refl _ U5).alloc (Nat.le_refl _) (.cells Tryd.zeroCells35 35)) (Nat.le_refl _) (rtC (rt43 (p.n : Nat) q)).toArray
  rw [HV7.out] at hw hb
  have HB8 := Lib.hid (HB6.out.trans (hb.mono HB6.out.size))
  have RT8 := Lib.hid (row_kept RT6.out hb)
  have KO8 := Lib.hid (KO6.out.below hb)
  have KT8 := Lib.hid (KT6.out.below hb)
  have RR7 := Lib.hid hw
  clear hw hb HB6 RT6 KO6 KT6
  go_wp2_with (first | (refine wpList_store_row rfl 35 (.tmp 9) (.tmp 35) rfl U5.heap.size (rtC (rt43 (p.n : Nat) q)).toArray rfl rfl 35 _ (heap_alloc_new U5 _) HRI.out HRS.out (rtC_one _) ?_; rw [HV7.out]) | (refine wpList_load_row rfl 27 (.tmp 4) rfl (w.heap.size) rfl 27 _ (0, 0) _ RT8.out Tryd.underlying27 rfl HIT.out ?_))
  rw [show Value.agg (trC t p).toArray = trV t p from rfl]
  refine (show43 t p f u _ KO8 KT8).mono ?_
  rintro e U9 ⟨A1, n1, c1, rfl, hin, hq⟩
  rw [HS1.out]
  clear hin
  have HB10 := Lib.hid (HB8.out.trans (hq.mono HB8.out.size))
  have RT10 := Lib.hid (row_kept RT8.out hq)
  have RR10 := Lib.hid (row_kept RR7.out hq)
  have KO10 := Lib.hid (KO8.out.below hq)
  have KT10 := Lib.hid (KT8.out.below hq)
  clear hq HB8 RT8 RR7 KO8 KT8
  obtain ⟨a1, HA1⟩ : ∃ a, Hid ((if shG t f u = true then f else 0) = a) := ⟨_, Lib.hid rfl⟩
  obtain ⟨a2, HA2⟩ : ∃ a, Hid ((if shG t f u = true then u else 0) = a) := ⟨_, Lib.hid rfl⟩
  rw [HA1.out, HA2.out]
  obtain ⟨V11, HV11⟩ : ∃ V, Hid (U9.alloc (.cells #[.int .i64 a1, .int .i64 a2, .slice A1 n1 c1] 74) = V) := ⟨_, Lib.hid rfl⟩
  have hw := heap_alloc_new U9 (.cells #[.int .i64 a1, .int .i64 a2, .slice A1 n1 c1] 74)
  have hb := (Below.refl _ U9).alloc (Nat.le_refl _) (.cells #[.int .i64 a1, .int .i64 a2, .slice A1 n1 c1] 74)
  rw [HV11.out] at hw hb
  have HB12 := Lib.hid (HB10.out.trans (hb.mono HB10.out.size))
  have RT12 := Lib.hid (row_kept RT10.out hb)
  have RR12 := Lib.hid (row_kept RR10.out hb)
  have KO12 := Lib.hid (KO10.out.below hb)
  have KT12 := Lib.hid (KT10.out.below hb)
  have RP11 := Lib.hid hw
  clear hw hb HB10 RT10 RR10 KO10 KT10
  go_wp2_with (first | (rw [HV11.out]) | (refine wpList_load_row rfl 27 (.tmp 4) rfl (w.heap.size) rfl 27 _ (0, 0) _ RT12.out Tryd.underlying27 rfl HIT.out ?_))
  rw [show Value.agg (trC t p).toArray = trV t p from rfl]
  refine (show43 t p u v _ KO12 KT12).mono ?_
  rintro e U13 ⟨A2, n2, c2, rfl, hin, hq⟩
  rw [HS2.out]
  clear hin
  have HB14 := Lib.hid (HB12.out.trans (hq.mono HB12.out.size))
  have RT14 := Lib.hid (row_kept RT12.out hq)
  have RR14 := Lib.hid (row_kept RR12.out hq)
  have RP14 := Lib.hid (row_kept RP11.out hq)
  have KO14 := Lib.hid (KO12.out.below hq)
  have KT14 := Lib.hid (KT12.out.below hq)
  clear hq HB12 RT12 RR12 RP11 KO12 KT12
  obtain ⟨a3, HA3⟩ : ∃ a, Hid ((if shG t u v = true then u else 0) = a) := ⟨_, Lib.hid rfl⟩
  obtain ⟨a4, HA4⟩ : ∃ a, Hid ((if shG t u v = true then v else 0) = a) := ⟨_, Lib.hid rfl⟩
  rw [HA3.out, HA4.out]
  obtain ⟨V15, HV15⟩ : ∃ V, Hid (U13.alloc (.cells #[.int .i64 a3, .int .i64 a4, .slice A2 n2 c2] 74) = V) := ⟨_, Lib.hid rfl⟩
  have hw := heap_alloc_new U13 (.cells #[.int .i64 a3, .int .i64 a4, .slice A2 n2 c2] 74)
  have hb := (Below.refl _ U13).alloc (Nat.le_refl _) (.cells #[.int .i64 a3, .int .i64 a4, .slice A2 n2 c2] 74)
  rw [HV15.out] at hw hb
  have HB16 := Lib.hid (HB14.out.trans (hb.mono HB14.out.size))
  have RT16 := Lib.hid (row_kept RT14.out hb)
  have RR16 := Lib.hid (row_kept RR14.out hb)
  have RP16 := Lib.hid (row_kept RP14.out hb)
  have KO16 := Lib.hid (KO14.out.below hb)
  have KT16 := Lib.hid (KT14.out.below hb)
  have RQ15 := Lib.hid hw
  clear hw hb HB14 RT14 RR14 RP14 KO14 KT14
  have HGG := HG
  go_wp2_with (first | (rw [HV15.out]) | (rw [HGG.out]))
  go_ret
  exact ⟨rfl, HB16.out⟩
set_option maxHeartbeats 8000000 in
theorem no3 (t : Tr) (p : TrP) (f u v : Int) (w : World) (h : Hid (TrOk w t p)) (hT : Hid (Tabs w)) (h1 : p.n ≤ 40) (h2 : p.n2 ≤ 20) (y z : Int) (b : Bool) (HG : Hid (trG t = b)) (HS1 : Hid (shE t f u = y)) (HS2 : Hid (shE t u v = z)) (hb : b = true) (hy : (y != 0) = false) (hz : (z != 0) = true) :
    Calls Tryd.prog 12 #[trV t p, .int .i64 f, .int .i64 u, .int .i64 v] w fun e w' => e = .returned (.bool true) ∧ Below w.heap.size w w' := by
  have HIT : Hid ((Tryd.prog.info? 27).map (·.size) = some (trC t p).toArray.size) := Lib.hid (trV_info t p h.out.len)
  have hb0 := (Below.refl _ w).alloc (Nat.le_refl _) (.cells (trC t p).toArray 27)
  have RT0 := Lib.hid (heap_alloc_new w (.cells (trC t p).toArray 27))
  have KO0 := Lib.hid (h.out.below hb0)
  have KT0 := Lib.hid (hT.out.below hb0)
  have HB0 := Lib.hid hb0
  clear hb0
  rw [show trV t p = .agg (trC t p).toArray from rfl]
  go_enter Tryd.func12, Tryd.ntmps12
  go_wp2_with fail
  refine (sane43 _ KT0).mono ?_
  rintro e U1 ⟨rfl, hq⟩
  have HB2 := Lib.hid (HB0.out.trans (hq.mono HB0.out.size))
  have RT2 := Lib.hid (row_kept RT0.out hq)
  have KO2 := Lib.hid (KO0.out.below hq)
  have KT2 := Lib.hid (KT0.out.below hq)
  clear hq HB0 RT0 KO0 KT0
  go_wp2_with (refine wpList_load_row rfl 27 (.tmp 4) rfl (w.heap.size) rfl 27 _ (0, 0) _ RT2.out Tryd.underlying27 rfl HIT.out ?_)
  rw [show Value.agg (trC t p).toArray = trV t p from rfl]
  refine (few43_yes t p none 0 0 0 0 _ h1 h2 (by omega)).mono ?_
  rintro e U3 ⟨rfl, hq⟩
  have HB4 := Lib.hid (HB2.out.trans (hq.mono HB2.out.size))
  have RT4 := Lib.hid (row_kept RT2.out hq)
  have KO4 := Lib.hid (KO2.out.below hq)
  have KT4 := Lib.hid (KT2.out.below hq)
  clear hq HB2 RT2 KO2 KT2
  have HLN : Hid (t.ln.length = p.n) := Lib.hid h.out.ln.len
  obtain ⟨q, HQ⟩ : ∃ q, Hid (rootR (nds43 t) = q) := ⟨_, Lib.hid rfl⟩
  have HQO : Hid (NdOk q) := Lib.hid (by rw [← HQ.out]; exact rootR_ok nds43_ok)
  have HRK : Hid (RtOk (rt43 (p.n : Nat) q)) := Lib.hid (rt43_ok (by unfold I64; omega) HQO.out)
  have HRI := Lib.hid (rtC_info HRK.out)
  have HRS : Hid ((Tryd.zeroCells35).size = (rtC (rt43 (p.n : Nat) q)).toArray.size) := Lib.hid (by rw [rt43_size HQO.out]; kernel_rfl)
  go_wp2_with (refine wpList_load_row rfl 27 (.tmp 4) rfl (w.heap.size) rfl 27 _ (0, 0) _ RT4.out Tryd.underlying27 rfl HIT.out ?_)
  rw [show Value.agg (trC t p).toArray = trV t p from rfl]
  refine (rooted_any t p _ KO4 KT4).mono ?_
  rintro e U5 ⟨rfl, hq⟩
  rw [HQ.out]
  have HB6 := Lib.hid (HB4.out.trans (hq.mono HB4.out.size))
  have RT6 := Lib.hid (row_kept RT4.out hq)
  have KO6 := Lib.hid (KO4.out.below hq)
  have KT6 := Lib.hid (KT4.out.below hq)
  clear hq HB4 RT4 KO4 KT4
  obtain ⟨V7, HV7⟩ : ∃ W, Hid ((U5.alloc (.cells Tryd.zeroCells35 35)).setRow U5.heap.size (rtC (rt43 (p.n : Nat) q)).toArray = W) := ⟨_, Lib.hid rfl⟩
  have hw := setRow_heap (U5.alloc (.cells Tryd.zeroCells35 35)) U5.heap.size _ (rtC (rt43 (p.n : Nat) q)).toArray _ _ (heap_alloc_new U5 _)
  have hb := below_setRow ((Below.refl _ U5).alloc (Nat.le_refl _) (.cells Tryd.zeroCells35 35)) (Nat.le_refl _) (rtC (rt43 (p.n : Nat) q)).toArray
  rw [HV7.out] at hw hb
  have HB8 := Lib.hid (HB6.out.trans (hb.mono HB6.out.size))
  have RT8 := Lib.hid (row_kept RT6.out hb)
  have KO8 := Lib.hid (KO6.out.below hb)
  have KT8 := Lib.hid (KT6.out.below hb)
  have RR7 := Lib.hid hw
  clear hw hb HB6 RT6 KO6 KT6
  go_wp2_with (first | (refine wpList_store_row rfl 35 (.tmp 9) (.tmp 35) rfl U5.heap.size (rtC (rt43 (p.n : Nat) q)).toArray rfl rfl 35 _ (heap_alloc_new U5 _) HRI.out HRS.out (rtC_one _) ?_; rw [HV7.out]) | (refine wpList_load_row rfl 27 (.tmp 4) rfl (w.heap.size) rfl 27 _ (0, 0) _ RT8.out Tryd.underlying27 rfl HIT.out ?_))
  rw [show Value.agg (trC t p).toArray = trV t p from rfl]
  refine (show43 t p f u _ KO8 KT8).mono ?_
  rintro e U9 ⟨A1, n1, c1, rfl, hin, hq⟩
  rw [HS1.out]
  clear hin
  have HB10 := Lib.hid (HB8.out.trans (hq.mono HB8.out.size))
  have RT10 := Lib.hid (row_kept RT8.out hq)
  have RR10 := Lib.hid (row_kept RR7.out hq)
  have KO10 := Lib.hid (KO8.out.below hq)
  have KT10 := Lib.hid (KT8.out.below hq)
  clear hq HB8 RT8 RR7 KO8 KT8
  obtain ⟨a1, HA1⟩ : ∃ a, Hid ((if shG t f u = true then f else 0) = a) := ⟨_, Lib.hid rfl⟩
  obtain ⟨a2, HA2⟩ : ∃ a, Hid ((if shG t f u = true then u else 0) = a) := ⟨_, Lib.hid rfl⟩
  rw [HA1.out, HA2.out]
  obtain ⟨V11, HV11⟩ : ∃ V, Hid (U9.alloc (.cells #[.int .i64 a1, .int .i64 a2, .slice A1 n1 c1] 74) = V) := ⟨_, Lib.hid rfl⟩
  have hw := heap_alloc_new U9 (.cells #[.int .i64 a1, .int .i64 a2, .slice A1 n1 c1] 74)
  have hb := (Below.refl _ U9).alloc (Nat.le_refl _) (.cells #[.int .i64 a1, .int .i64 a2, .slice A1 n1 c1] 74)
  rw [HV11.out] at hw hb
  have HB12 := Lib.hid (HB10.out.trans (hb.mono HB10.out.size))
  have RT12 := Lib.hid (row_kept RT10.out hb)
  have RR12 := Lib.hid (row_kept RR10.out hb)
  have KO12 := Lib.hid (KO10.out.below hb)
  have KT12 := Lib.hid (KT10.out.below hb)
  have RP11 := Lib.hid hw
  clear hw hb HB10 RT10 RR10 KO10 KT10
  go_wp2_with (first | (rw [HV11.out]) | (refine wpList_load_row rfl 27 (.tmp 4) rfl (w.heap.size) rfl 27 _ (0, 0) _ RT12.out Tryd.underlying27 rfl HIT.out ?_))
  rw [show Value.agg (trC t p).toArray = trV t p from rfl]
  refine (show43 t p u v _ KO12 KT12).mono ?_
  rintro e U13 ⟨A2, n2, c2, rfl, hin, hq⟩
  rw [HS2.out]
  clear hin
  have HB14 := Lib.hid (HB12.out.trans (hq.mono HB12.out.size))
  have RT14 := Lib.hid (row_kept RT12.out hq)
  have RR14 := Lib.hid (row_kept RR12.out hq)
  have RP14 := Lib.hid (row_kept RP11.out hq)
  have KO14 := Lib.hid (KO12.out.below hq)
  have KT14 := Lib.hid (KT12.out.below hq)
  clear hq HB12 RT12 RR12 RP11 KO12 KT12
  obtain ⟨a3, HA3⟩ : ∃ a, Hid ((if shG t u v = true then u else 0) = a) := ⟨_, Lib.hid rfl⟩
  obtain ⟨a4, HA4⟩ : ∃ a, Hid ((if shG t u v = true then v else 0) = a) := ⟨_, Lib.hid rfl⟩
  rw [HA3.out, HA4.out]
  obtain ⟨V15, HV15⟩ : ∃ V, Hid (U13.alloc (.cells #[.int .i64 a3, .int .i64 a4, .slice A2 n2 c2] 74) = V) := ⟨_, Lib.hid rfl⟩
  have hw := heap_alloc_new U13 (.cells #[.int .i64 a3, .int .i64 a4, .slice A2 n2 c2] 74)
  have hb := (Below.refl _ U13).alloc (Nat.le_refl _) (.cells #[.int .i64 a3, .int .i64 a4, .slice A2 n2 c2] 74)
  rw [HV15.out] at hw hb
  have HB16 := Lib.hid (HB14.out.trans (hb.mono HB14.out.size))
  have RT16 := Lib.hid (row_kept RT14.out hb)
  have RR16 := Lib.hid (row_kept RR14.out hb)
  have RP16 := Lib.hid (row_kept RP14.out hb)
  have KO16 := Lib.hid (KO14.out.below hb)
  have KT16 := Lib.hid (KT14.out.below hb)
  have RQ15 := Lib.hid hw
  clear hw hb HB14 RT14 RR14 RP14 KO14 KT14
  have HGG := HG
  go_wp2_with (first | (rw [HV15.out]) | (rw [HGG.out]))
  go_ret
  exact ⟨rfl, HB16.out⟩
set_option maxHeartbeats 8000000 in
theorem good (t : Tr) (p : TrP) (f u v : Int) (w : World) (h : Hid (TrOk w t p)) (hT : Hid (Tabs w)) (h1 : p.n ≤ 40) (h2 : p.n2 ≤ 20) (S1 : Hid (shG t f u = true)) (S2 : Hid (shG t u v = true)) (S3 : Hid (shG t f v = true)) :
    Calls Tryd.prog 12 #[trV t p, .int .i64 f, .int .i64 u, .int .i64 v] w fun e w' => e = .returned (.bool true) ∧ Below w.heap.size w w' := by
  have HP1 := Lib.hid (vfS_shown S1.out (tree := rootR (nds43 t)) (rootR_sh S1.out))
  have HP2 := Lib.hid (vfS_shown S2.out (tree := rootR (nds43 t)) (rootR_sh S2.out))
  have HP3 := Lib.hid (vfS_shown S3.out (tree := rootR (nds43 t)) (rootR_sh S3.out))
  have HJ := Lib.hid (sums_join (ndsT t) (f := f.toNat) (u := u.toNat) (v := v.toNat) (by have := (shG_iff S1.out).2; omega) (by have := (shG_iff S2.out).2; omega))
  have HB1 := Lib.hid (sums_lim (ndsT t) (vL_ndL (shG_iff S1.out).1) f.toNat u.toNat)
  have HB2 := Lib.hid (sums_lim (ndsT t) (vL_ndL (shG_iff S1.out).1) u.toNat v.toNat)
  have HE1 : Hid (shE t f u = 0) := Lib.hid (shE_yes S1.out)
  have HE2 : Hid (shE t u v = 0) := Lib.hid (shE_yes S2.out)
  have HE3 : Hid (shE t f v = 0) := Lib.hid (shE_yes S3.out)
  have HG : Hid (trG t = true) := Lib.hid (shG_iff S1.out).1
  obtain ⟨x1, HX1⟩ : ∃ x, Hid (sumC (seg (ndsT t) f.toNat u.toNat) = x) := ⟨_, Lib.hid rfl⟩
  obtain ⟨y1, HY1⟩ : ∃ x, Hid (sumP (seg (ndsT t) f.toNat u.toNat) = x) := ⟨_, Lib.hid rfl⟩
  obtain ⟨x2, HX2⟩ : ∃ x, Hid (sumC (seg (ndsT t) u.toNat v.toNat) = x) := ⟨_, Lib.hid rfl⟩
  obtain ⟨y2, HY2⟩ : ∃ x, Hid (sumP (seg (ndsT t) u.toNat v.toNat) = x) := ⟨_, Lib.hid rfl⟩
  rw [HX1.out, HY1.out] at HP1 HJ HB1
  rw [HX2.out, HY2.out] at HP2 HJ HB2
  rw [HJ.out.1, HJ.out.2] at HP3
  have e1 : IntKind.i64.wrap (x1 + x2) = x1 + x2 := IntWalk.i64_in _ (by have := HB1.out; have := HB2.out; omega)
  have e2 : IntKind.i64.wrap (y1 + y2) = y1 + y2 := IntWalk.i64_in _ (by have := HB1.out; have := HB2.out; omega)
  rw [h.out.ln.len] at HP1 HP2 HP3
  clear HX1 HX2 HY1 HY2 HJ HB1 HB2
  have HIT : Hid ((Tryd.prog.info? 27).map (·.size) = some (trC t p).toArray.size) := Lib.hid (trV_info t p h.out.len)
  have hb0 := (Below.refl _ w).alloc (Nat.le_refl _) (.cells (trC t p).toArray 27)
  have RT0 := Lib.hid (heap_alloc_new w (.cells (trC t p).toArray 27))
  have KO0 := Lib.hid (h.out.below hb0)
  have KT0 := Lib.hid (hT.out.below hb0)
  have HB0 := Lib.hid hb0
  clear hb0
  rw [show trV t p = .agg (trC t p).toArray from rfl]
  go_enter Tryd.func12, Tryd.ntmps12
  go_wp2_with fail
  refine (sane43 _ KT0).mono ?_
  rintro e U1 ⟨rfl, hq⟩
  have HB2 := Lib.hid (HB0.out.trans (hq.mono HB0.out.size))
  have RT2 := Lib.hid (row_kept RT0.out hq)
  have KO2 := Lib.hid (KO0.out.below hq)
  have KT2 := Lib.hid (KT0.out.below hq)
  clear hq HB0 RT0 KO0 KT0
  go_wp2_with (refine wpList_load_row rfl 27 (.tmp 4) rfl (w.heap.size) rfl 27 _ (0, 0) _ RT2.out Tryd.underlying27 rfl HIT.out ?_)
  rw [show Value.agg (trC t p).toArray = trV t p from rfl]
  refine (few43_yes t p none 0 0 0 0 _ h1 h2 (by omega)).mono ?_
  rintro e U3 ⟨rfl, hq⟩
  have HB4 := Lib.hid (HB2.out.trans (hq.mono HB2.out.size))
  have RT4 := Lib.hid (row_kept RT2.out hq)
  have KO4 := Lib.hid (KO2.out.below hq)
  have KT4 := Lib.hid (KT2.out.below hq)
  clear hq HB2 RT2 KO2 KT2
  have HLN : Hid (t.ln.length = p.n) := Lib.hid h.out.ln.len
  obtain ⟨q, HQ⟩ : ∃ q, Hid (rootR (nds43 t) = q) := ⟨_, Lib.hid rfl⟩
  have HQO : Hid (NdOk q) := Lib.hid (by rw [← HQ.out]; exact rootR_ok nds43_ok)
  have HRK : Hid (RtOk (rt43 (p.n : Nat) q)) := Lib.hid (rt43_ok (by unfold I64; omega) HQO.out)
  have HRI := Lib.hid (rtC_info HRK.out)
  have HRS : Hid ((Tryd.zeroCells35).size = (rtC (rt43 (p.n : Nat) q)).toArray.size) := Lib.hid (by rw [rt43_size HQO.out]; kernel_rfl)
  go_wp2_with (refine wpList_load_row rfl 27 (.tmp 4) rfl (w.heap.size) rfl 27 _ (0, 0) _ RT4.out Tryd.underlying27 rfl HIT.out ?_)
  rw [show Value.agg (trC t p).toArray = trV t p from rfl]
  refine (rooted_any t p _ KO4 KT4).mono ?_
  rintro e U5 ⟨rfl, hq⟩
  rw [HQ.out]
  have HB6 := Lib.hid (HB4.out.trans (hq.mono HB4.out.size))
  have RT6 := Lib.hid (row_kept RT4.out hq)
  have KO6 := Lib.hid (KO4.out.below hq)
  have KT6 := Lib.hid (KT4.out.below hq)
  clear hq HB4 RT4 KO4 KT4
  obtain ⟨V7, HV7⟩ : ∃ W, Hid ((U5.alloc (.cells Tryd.zeroCells35 35)).setRow U5.heap.size (rtC (rt43 (p.n : Nat) q)).toArray = W) := ⟨_, Lib.hid rfl⟩
  have hw := setRow_heap (U5.alloc (.cells Tryd.zeroCells35 35)) U5.heap.size _ (rtC (rt43 (p.n : Nat) q)).toArray _ _ (heap_alloc_new U5 _)
  have hb := below_setRow ((Below.refl _ U5).alloc (Nat.le_refl _) (.cells Tryd.zeroCells35 35)) (Nat.le_refl _) (rtC (rt43 (p.n : Nat) q)).toArray
  rw [HV7.out] at hw hb
  have HB8 := Lib.hid (HB6.out.trans (hb.mono HB6.out.size))
  have RT8 := Lib.hid (row_kept RT6.out hb)
  have KO8 := Lib.hid (KO6.out.below hb)
  have KT8 := Lib.hid (KT6.out.below hb)
  have RR7 := Lib.hid hw
  clear hw hb HB6 RT6 KO6 KT6
  go_wp2_with (first | (refine wpList_store_row rfl 35 (.tmp 9) (.tmp 35) rfl U5.heap.size (rtC (rt43 (p.n : Nat) q)).toArray rfl rfl 35 _ (heap_alloc_new U5 _) HRI.out HRS.out (rtC_one _) ?_; rw [HV7.out]) | (refine wpList_load_row rfl 27 (.tmp 4) rfl (w.heap.size) rfl 27 _ (0, 0) _ RT8.out Tryd.underlying27 rfl HIT.out ?_))
  rw [show Value.agg (trC t p).toArray = trV t p from rfl]
  rw [HQ.out] at HP1 HP2 HP3
  refine (show43 t p f u _ KO8 KT8).mono ?_
  rintro e U9 ⟨A1, n1, c1, rfl, hin, hq⟩
  rw [S1.out, HE1.out, if_pos rfl, if_pos rfl]
  have KP1 := Lib.hid hin
  clear hin
  have HB10 := Lib.hid (HB8.out.trans (hq.mono HB8.out.size))
  have RT10 := Lib.hid (row_kept RT8.out hq)
  have RR10 := Lib.hid (row_kept RR7.out hq)
  have KO10 := Lib.hid (KO8.out.below hq)
  have KT10 := Lib.hid (KT8.out.below hq)
  clear hq HB8 RT8 RR7 KO8 KT8
  obtain ⟨V11, HV11⟩ : ∃ V, Hid (U9.alloc (.cells #[.int .i64 f, .int .i64 u, .slice A1 n1 c1] 74) = V) := ⟨_, Lib.hid rfl⟩
  have hw := heap_alloc_new U9 (.cells #[.int .i64 f, .int .i64 u, .slice A1 n1 c1] 74)
  have hb := (Below.refl _ U9).alloc (Nat.le_refl _) (.cells #[.int .i64 f, .int .i64 u, .slice A1 n1 c1] 74)
  rw [HV11.out] at hw hb
  have HB12 := Lib.hid (HB10.out.trans (hb.mono HB10.out.size))
  have RT12 := Lib.hid (row_kept RT10.out hb)
  have RR12 := Lib.hid (row_kept RR10.out hb)
  have KO12 := Lib.hid (KO10.out.below hb)
  have KT12 := Lib.hid (KT10.out.below hb)
  have KP12 := Lib.hid (KP1.out.below hb)
  have RP11 := Lib.hid hw
  clear hw hb HB10 RT10 RR10 KO10 KT10 KP1
  go_wp2_with (first | (rw [HV11.out]) | (refine wpList_load_row rfl 27 (.tmp 4) rfl (w.heap.size) rfl 27 _ (0, 0) _ RT12.out Tryd.underlying27 rfl HIT.out ?_))
  rw [show Value.agg (trC t p).toArray = trV t p from rfl]
  refine (show43 t p u v _ KO12 KT12).mono ?_
  rintro e U13 ⟨A2, n2, c2, rfl, hin, hq⟩
  rw [S2.out, HE2.out, if_pos rfl, if_pos rfl]
  have KP2 := Lib.hid hin
  clear hin
  have HB14 := Lib.hid (HB12.out.trans (hq.mono HB12.out.size))
  have RT14 := Lib.hid (row_kept RT12.out hq)
  have RR14 := Lib.hid (row_kept RR12.out hq)
  have RP14 := Lib.hid (row_kept RP11.out hq)
  have KO14 := Lib.hid (KO12.out.below hq)
  have KT14 := Lib.hid (KT12.out.below hq)
  have KP14 := Lib.hid (KP12.out.below hq)
  clear hq HB12 RT12 RR12 RP11 KO12 KT12 KP12
  obtain ⟨V15, HV15⟩ : ∃ V, Hid (U13.alloc (.cells #[.int .i64 u, .int .i64 v, .slice A2 n2 c2] 74) = V) := ⟨_, Lib.hid rfl⟩
  have hw := heap_alloc_new U13 (.cells #[.int .i64 u, .int .i64 v, .slice A2 n2 c2] 74)
  have hb := (Below.refl _ U13).alloc (Nat.le_refl _) (.cells #[.int .i64 u, .int .i64 v, .slice A2 n2 c2] 74)
  rw [HV15.out] at hw hb
  have HB16 := Lib.hid (HB14.out.trans (hb.mono HB14.out.size))
  have RT16 := Lib.hid (row_kept RT14.out hb)
  have RR16 := Lib.hid (row_kept RR14.out hb)
  have RP16 := Lib.hid (row_kept RP14.out hb)
  have KO16 := Lib.hid (KO14.out.below hb)
  have KT16 := Lib.hid (KT14.out.below hb)
  have KP16 := Lib.hid (KP14.out.below hb)
  have KQ16 := Lib.hid (KP2.out.below hb)
  have RQ15 := Lib.hid hw
  clear hw hb HB14 RT14 RR14 RP14 KO14 KT14 KP14 KP2
  go_wp2_with (first | (rw [HV15.out]) | (rw [HG.out]) | (refine wpList_load_row rfl 27 (.tmp 4) rfl (w.heap.size) rfl 27 _ (0, 0) _ RT16.out Tryd.underlying27 rfl HIT.out ?_))
  rw [show Value.agg (trC t p).toArray = trV t p from rfl]
  refine (show43 t p f v _ KO16 KT16).mono ?_
  rintro e U17 ⟨A3, n3, c3, rfl, hin, hq⟩
  rw [S3.out, HE3.out, if_pos rfl, if_pos rfl]
  have KP3 := Lib.hid hin
  clear hin
  have HB18 := Lib.hid (HB16.out.trans (hq.mono HB16.out.size))
  have RT18 := Lib.hid (row_kept RT16.out hq)
  have RR18 := Lib.hid (row_kept RR16.out hq)
  have RP18 := Lib.hid (row_kept RP16.out hq)
  have RQ18 := Lib.hid (row_kept RQ15.out hq)
  have KO18 := Lib.hid (KO16.out.below hq)
  have KT18 := Lib.hid (KT16.out.below hq)
  have KP18 := Lib.hid (KP16.out.below hq)
  have KQ18 := Lib.hid (KQ16.out.below hq)
  clear hq HB16 RT16 RR16 RP16 RQ15 KO16 KT16 KP16 KQ16
  obtain ⟨V19, HV19⟩ : ∃ V, Hid (U17.alloc (.cells #[.int .i64 f, .int .i64 v, .slice A3 n3 c3] 74) = V) := ⟨_, Lib.hid rfl⟩
  have hw := heap_alloc_new U17 (.cells #[.int .i64 f, .int .i64 v, .slice A3 n3 c3] 74)
  have hb := (Below.refl _ U17).alloc (Nat.le_refl _) (.cells #[.int .i64 f, .int .i64 v, .slice A3 n3 c3] 74)
  rw [HV19.out] at hw hb
  have HB20 := Lib.hid (HB18.out.trans (hb.mono HB18.out.size))
  have RT20 := Lib.hid (row_kept RT18.out hb)
  have RR20 := Lib.hid (row_kept RR18.out hb)
  have RP20 := Lib.hid (row_kept RP18.out hb)
  have RQ20 := Lib.hid (row_kept RQ18.out hb)
  have KO20 := Lib.hid (KO18.out.below hb)
  have KT20 := Lib.hid (KT18.out.below hb)
  have KP20 := Lib.hid (KP18.out.below hb)
  have KQ20 := Lib.hid (KQ18.out.below hb)
  have KX20 := Lib.hid (KP3.out.below hb)
  have RX19 := Lib.hid hw
  clear hw hb HB18 RT18 RR18 RP18 RQ18 KO18 KT18 KP18 KQ18 KP3
  have p0 := cell_of_row _ _ 0 _ _ _ RP20.out
  have p1 := cell_of_row _ _ 1 _ _ _ RP20.out
  have p2 := cell_of_row _ _ 2 _ _ _ RP20.out
  go_wp2_with (first | (rw [HV19.out]) | (refine wpList_load_row rfl 35 (.tmp 9) rfl (U5.heap.size) rfl 35 _ (0, 0) _ RR20.out Tryd.underlying35 rfl HRI.out ?_))
  refine (verify43 (rt43 (p.n : Nat) q) f u _ _ _ (shN t f u) _ HRK KP20 KT20 (shN_len t _ _)).mono ?_
  rintro e U21 ⟨rfl, hq⟩
  rw [show vfS (rt43 (p.n : Nat) q).lin (rt43 (p.n : Nat) q).tree f u (shN t f u) = _ from HP1.out]
  clear p0 p1 p2
  have HB22 := Lib.hid (HB20.out.trans (hq.mono HB20.out.size))
  have RT22 := Lib.hid (row_kept RT20.out hq)
  have RR22 := Lib.hid (row_kept RR20.out hq)
  have RP22 := Lib.hid (row_kept RP20.out hq)
  have RQ22 := Lib.hid (row_kept RQ20.out hq)
  have RX22 := Lib.hid (row_kept RX19.out hq)
  have KO22 := Lib.hid (KO20.out.below hq)
  have KT22 := Lib.hid (KT20.out.below hq)
  have KP22 := Lib.hid (KP20.out.below hq)
  have KQ22 := Lib.hid (KQ20.out.below hq)
  have KX22 := Lib.hid (KX20.out.below hq)
  clear hq HB20 RT20 RR20 RP20 RQ20 RX19 KO20 KT20 KP20 KQ20 KX20
  have p0 := cell_of_row _ _ 0 _ _ _ RQ22.out
  have p1 := cell_of_row _ _ 1 _ _ _ RQ22.out
  have p2 := cell_of_row _ _ 2 _ _ _ RQ22.out
  go_wp2_with (refine wpList_load_row rfl 35 (.tmp 9) rfl (U5.heap.size) rfl 35 _ (0, 0) _ RR22.out Tryd.underlying35 rfl HRI.out ?_)
  refine (verify43 (rt43 (p.n : Nat) q) u v _ _ _ (shN t u v) _ HRK KQ22 KT22 (shN_len t _ _)).mono ?_
  rintro e U23 ⟨rfl, hq⟩
  rw [show vfS (rt43 (p.n : Nat) q).lin (rt43 (p.n : Nat) q).tree u v (shN t u v) = _ from HP2.out]
  clear p0 p1 p2
  have HB24 := Lib.hid (HB22.out.trans (hq.mono HB22.out.size))
  have RT24 := Lib.hid (row_kept RT22.out hq)
  have RR24 := Lib.hid (row_kept RR22.out hq)
  have RP24 := Lib.hid (row_kept RP22.out hq)
  have RQ24 := Lib.hid (row_kept RQ22.out hq)
  have RX24 := Lib.hid (row_kept RX22.out hq)
  have KO24 := Lib.hid (KO22.out.below hq)
  have KT24 := Lib.hid (KT22.out.below hq)
  have KP24 := Lib.hid (KP22.out.below hq)
  have KQ24 := Lib.hid (KQ22.out.below hq)
  have KX24 := Lib.hid (KX22.out.below hq)
  clear hq HB22 RT22 RR22 RP22 RQ22 RX22 KO22 KT22 KP22 KQ22 KX22
  have p0 := cell_of_row _ _ 0 _ _ _ RX24.out
  have p1 := cell_of_row _ _ 1 _ _ _ RX24.out
  have p2 := cell_of_row _ _ 2 _ _ _ RX24.out
  go_wp2_with (refine wpList_load_row rfl 35 (.tmp 9) rfl (U5.heap.size) rfl 35 _ (0, 0) _ RR24.out Tryd.underlying35 rfl HRI.out ?_)
  refine (verify43 (rt43 (p.n : Nat) q) f v _ _ _ (shN t f v) _ HRK KX24 KT24 (shN_len t _ _)).mono ?_
  rintro e U25 ⟨rfl, hq⟩
  rw [show vfS (rt43 (p.n : Nat) q).lin (rt43 (p.n : Nat) q).tree f v (shN t f v) = _ from HP3.out]
  clear p0 p1 p2
  have HB26 := Lib.hid (HB24.out.trans (hq.mono HB24.out.size))
  have RT26 := Lib.hid (row_kept RT24.out hq)
  have RR26 := Lib.hid (row_kept RR24.out hq)
  have RP26 := Lib.hid (row_kept RP24.out hq)
  have RQ26 := Lib.hid (row_kept RQ24.out hq)
  have RX26 := Lib.hid (row_kept RX24.out hq)
  have KO26 := Lib.hid (KO24.out.below hq)
  have KT26 := Lib.hid (KT24.out.below hq)
  have KP26 := Lib.hid (KP24.out.below hq)
  have KQ26 := Lib.hid (KQ24.out.below hq)
  have KX26 := Lib.hid (KX24.out.below hq)
  clear hq HB24 RT24 RR24 RP24 RQ24 RX24 KO24 KT24 KP24 KQ24 KX24
  go_wp2_with fail
  go_ret
  exact ⟨rfl, HB26.out⟩
theorem walk (w : World) (hT : Tabs w) (t : Tr) (p : TrP) (h : TrOk w t p) (f : Int) (hf0 : -9223372036854775808 ≤ f) (hf1 : f ≤ 9223372036854775807) (u : Int) (hu0 : -9223372036854775808 ≤ u) (hu1 : u ≤ 9223372036854775807) (v : Int) (hv0 : -9223372036854775808 ≤ v) (hv1 : v ≤ 9223372036854775807) :
    Calls Tryd.prog 12 #[trV t p, .int .i64 f, .int .i64 u, .int .i64 v] w fun e w' => e = .returned (.bool true) ∧ Below w.heap.size w w' := by
  by_cases hf : p.n ≤ 40 ∧ p.n2 ≤ 20
  case neg => exact big t p f u v w (Lib.hid h) (Lib.hid hT) hf
  cases hg : trG t with
  | false => exact no1 t p f u v w (Lib.hid h) (Lib.hid hT) hf.1 hf.2 _ _ _ (Lib.hid hg) (Lib.hid rfl) (Lib.hid rfl) rfl
  | true =>
    cases s1 : shG t f u with
    | false => exact no2 t p f u v w (Lib.hid h) (Lib.hid hT) hf.1 hf.2 _ _ _ (Lib.hid hg) (Lib.hid (shE_no hg s1)) (Lib.hid rfl) rfl (by decide)
    | true =>
      cases s2 : shG t u v with
      | false => exact no3 t p f u v w (Lib.hid h) (Lib.hid hT) hf.1 hf.2 _ _ _ (Lib.hid hg) (Lib.hid (shE_yes s1)) (Lib.hid (shE_no hg s2)) rfl (by decide) (by decide)
      | true => exact good t p f u v w (Lib.hid h) (Lib.hid hT) hf.1 hf.2 (Lib.hid s1) (Lib.hid s2) (Lib.hid (shG_join s1 s2))
set_option maxRecDepth 100000 in
theorem lifted (os : Os) (started : os.Started) (H : Type) (enc : TypeId × Value → H) :
    ReturnsInHanded {} Tryd.checked os 12 .any (fun w args => (Rows.sumsPartsSpec.pre enc Tryd.prog Tryd.f12 [] false w args ∧ laidMetH Tryd.prog laidL w) ∧ sizedMet enc Tryd.prog Tryd.f12 (OpenSpec.ofChange Rows.sumsPartsSpec) false w args)
      (Rows.sumsPartsSpec.post enc Tryd.prog Tryd.f12 false true false false) := by
  refine returnsInHanded_of_change_and (C := Tryd.checked) (X := fun w _ => laidMetH Tryd.prog laidL w) (fun _ _ _ hh h => h.of_heap hh) own started (by kernel_rfl) Tryd.func12
    (ChangeSpec.witness_shaped (enc := enc) (C := Tryd.checked) (os := os) (X := fun w _ => laidMetH Tryd.prog laidL w) false (World.doorLaid Tryd.prog 400 os) #[.agg (#[.int .i64 0, .int .i64 0, .int .i64 0, .int .i64 0, .slice none 0 0, .slice none 0 0] ++ Array.replicate 32 (.int .u8 0)), .int .i64 0, .int .i64 0, .int .i64 0] 8 rfl (World.shaped_of_RefB (by kernel_rfl) (by kernel_rfl)) (by kernel_rfl) (by kernel_rfl) (by kernel_rfl) (door_met os _)) ?_
  intro W base args ds gs before hval0 hW _ hsz0 hL _
  have hval : ∀ (j : Nat) t v, Tryd.f12.params[j]? = some t → args[j]? = some v → Value.okWide Tryd.prog W .any base t v := hval0
  have hW' := hW
  obtain ⟨p, q, hA0, hV, rfl, hfz, hnd⟩ := hW
  have hA : DataW.TrodAll enc Tryd.prog W 0 (fun _ => true) true Tryd.f12.params.toList args.toList ds p := hA0
  have hsz : (DataW.weightsEach Tryd.prog (Tryd.f12.params.toList ++ Rows.sumsPartsSpec.plain.varTypes Tryd.prog) (ds ++ gs)).all (· ≤ reachBytes) = true := hsz0
  rw [Tryd.params12] at hA hval hsz
  obtain ⟨v0, vs0, d0, ds0, p0, q0, hargs, rfl, rfl, h0, r0⟩ := trodAll_cons hA
  obtain ⟨v1, vs1, d1, ds1, p1, q1, rfl, rfl, rfl, h1, r1⟩ := trodAll_cons r0
  obtain ⟨v2, vs2, d2, ds2, p2, q2, rfl, rfl, rfl, h2, r2⟩ := trodAll_cons r1
  obtain ⟨v3, vs3, d3, ds3, p3, q3, rfl, rfl, rfl, h3, r3⟩ := trodAll_cons r2
  obtain ⟨rfl, rfl, rfl⟩ := trodAll_nil r3
  obtain rfl : args = #[v0, v1, v2, v3] := by cases args; simp_all
  obtain ⟨rfl, rfl⟩ := trodVars_none hV
  obtain ⟨l0, y0, rfl, e0⟩ := arg_tr (hval 0 27 v0 rfl rfl) h0
  obtain ⟨a1, rfl, rfl, rfl, w1⟩ := open_int Tryd.underlying3 (hval 1 3 v1 rfl rfl) h1
  have b1 := bounds_i64 w1
  obtain ⟨a2, rfl, rfl, rfl, w2⟩ := open_int Tryd.underlying3 (hval 2 3 v2 rfl rfl) h2
  have b2 := bounds_i64 w2
  obtain ⟨a3, rfl, rfl, rfl, w3⟩ := open_int Tryd.underlying3 (hval 3 3 v3 rfl rfl) h3
  have b3 := bounds_i64 w3
  refine (walk W (tabs_of hL) l0 y0 e0 a1 b1.1 b1.2 a2 b2.1 b2.2 a3 b3.1 b3.2).mono fun e W' ⟨he, hg⟩ => ?_
  subst he
  exact ⟨_, rfl, law_post (by kernel_rfl) rfl rfl (fun _ => ⟨rfl, rfl, rfl⟩) hW' hg⟩
theorem over : Rows.sumsPartsRow.holds Tryd.pinned (OpenSpec.ofChange Rows.sumsPartsSpec) :=
  OpenClaim.holds_of_wide 12 Tryd.f12 rfl rfl rfl rfl rfl rfl rfl ⟨rfl, rfl, rfl, rfl, rfl⟩ rfl rfl rfl rfl rfl (by kernel_rfl) Tryd.func12 (by kernel_rfl)
    (of_decide_eq_true (by kernel_rfl)) (by unfold Func.isWrapper; first | (rw [if_pos (by decide +kernel)]; kernel_rfl) | (rw [if_neg (by decide +kernel)]; exact ⟨rfl, rfl⟩))
    (fun os started H enc _ => lifted os started H enc)
/-- THE STATEMENT: the card -/
theorem proved : Rows.SumsPartsCardSaid :=
  Claim7.holds_tied_plain_at .later [] [.data, .data] true Rows.sumsPartsCard.stood.harness true
    over (fun _ h => by cases h) (by kernel_rfl) (fun _ h => by cases h) sumsParts_row_tie rfl ⟨rfl, rfl⟩ (by kernel_rfl) rfl
    (fun f fn hf hfn => by
      obtain rfl : f = 12 := Option.some.inj ((show Tryd.prog.funcNamed "sizar/sizarlaw43.SumsParts" = some 12 by kernel_rfl).symm.trans hf) |>.symm
      obtain rfl : fn = Tryd.f12 := (Option.some.inj (Tryd.func12.symm.trans hfn)).symm
      exact ⟨by kernel_rfl, fun j t ht => stands_of (show Tryd.f12.params.all (fun t => !Tryd.prog.wantsStandIn t) = true by kernel_rfl) ht⟩)
    (by kernel_rfl)
#print axioms proved
end Go.Proofs.YtmfmgeapecapiaaDoor.sumsParts
