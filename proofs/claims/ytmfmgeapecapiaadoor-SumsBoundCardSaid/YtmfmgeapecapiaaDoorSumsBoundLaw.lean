/- SumsBound: for every transcript and every part the law returns true: whatever part is accepted for the root of the tree leads to the sums of the lines, or the climb meets two inputs with one hash. No conditions. -/
import Derived.Test.YtmfmgeapecapiaaDoorSB16
import Derived.Test.YtmfmgeapecapiaaDoorSB2
import Derived.Test.YtmfmgeapecapiaaDoorSB6
import Derived.Test.YtmfmgeapecapiaaDoorSB15
import Derived.Test.YtmfmgeapecapiaaDoorSB19
import Derived.Test.YtmfmgeapecapiaaDoorCards
import Derived.Test.YtmfmgeapecapiaaDoorTie
import Derived.Lib.SmallJoins
namespace Go.Proofs.YtmfmgeapecapiaaDoor.sumsBound
open Go.ChangeShapes Go.WideShapes Go.ChangeAt Go.RowKit SzSha SzTree
set_option linter.unusedVariables false
set_option maxRecDepth 100000
set_option maxHeartbeats 8000000 in
theorem big (t : Tr) (p : TrP) (f u : Int) (A : Option Addr) (n c : Nat) (ls : List Nd)  (w : World) (h : Hid (TrOk w t p)) (hin : Hid (InN w A n c ls)) (hT : Hid (Tabs w)) (hf : ¬ (p.n ≤ 40 ∧ p.n2 ≤ 20) ∨ ¬ n ≤ 40) :
    Calls Tryd.prog 11 #[trV t p, .agg #[.int .i64 f, .int .i64 u, .slice A n c]] w fun e w' => e = .returned (.bool true) ∧ Below w.heap.size w w' := by
  have HIT : Hid ((Tryd.prog.info? 27).map (·.size) = some (trC t p).toArray.size) := Lib.hid (trV_info t p h.out.len)
  have hb0 := ((Below.refl _ w).alloc (Nat.le_refl _) (.cells (trC t p).toArray 27)).alloc (by simp) (.cells #[.int .i64 f, .int .i64 u, .slice A n c] 74)
  have hr0 := row_kept (heap_alloc_new w (.cells (trC t p).toArray 27)) ((Below.refl _ (w.alloc (.cells (trC t p).toArray 27))).alloc (Nat.le_refl _) (.cells #[.int .i64 f, .int .i64 u, .slice A n c] 74))
  have hp0 := heap_alloc_new (w.alloc (.cells (trC t p).toArray 27)) (.cells #[.int .i64 f, .int .i64 u, .slice A n c] 74)
  rw [World.size_alloc] at hp0
  obtain ⟨V, HV⟩ : ∃ V, Hid ((w.alloc (.cells (trC t p).toArray 27)).alloc (.cells #[.int .i64 f, .int .i64 u, .slice A n c] 74) = V) := ⟨_, Lib.hid rfl⟩
  rw [HV.out] at hb0 hr0 hp0
  have RT0 := Lib.hid hr0
  have RP0 := Lib.hid hp0
  have KO0 := Lib.hid (h.out.below hb0)
  have KT0 := Lib.hid (hT.out.below hb0)
  have KI0 := Lib.hid (hin.out.below hb0)
  have HB0 := Lib.hid hb0
  clear hb0 hr0 hp0
  rw [show trV t p = .agg (trC t p).toArray from rfl]
  go_enter Tryd.func11, Tryd.ntmps11
  go_wp2_with (rw [HV.out])
  refine (sane43 _ KT0).mono ?_
  rintro e U1 ⟨rfl, hq⟩
  have HB2 := Lib.hid (HB0.out.trans (hq.mono HB0.out.size))
  have RT2 := Lib.hid (row_kept RT0.out hq)
  have RP2 := Lib.hid (row_kept RP0.out hq)
  have KO2 := Lib.hid (KO0.out.below hq)
  have KT2 := Lib.hid (KT0.out.below hq)
  have KI2 := Lib.hid (KI0.out.below hq)
  clear hq HB0 RT0 RP0 KO0 KT0 KI0
  have p0 := cell_of_row _ _ 0 _ _ _ RP2.out
  have p1 := cell_of_row _ _ 1 _ _ _ RP2.out
  have p2 := cell_of_row _ _ 2 _ _ _ RP2.out
  go_wp2_with (refine wpList_load_row rfl 27 (.tmp 2) rfl (w.heap.size) rfl 27 _ (0, 0) _ RT2.out Tryd.underlying27 rfl HIT.out ?_)
  rw [show Value.agg (trC t p).toArray = trV t p from rfl]
  clear p0 p1 p2
  refine (few43_no t p A n c f u _ hf).mono ?_
  rintro e U3 ⟨rfl, hq⟩
  have HB4 := Lib.hid (HB2.out.trans (hq.mono HB2.out.size))
  have RT4 := Lib.hid (row_kept RT2.out hq)
  have RP4 := Lib.hid (row_kept RP2.out hq)
  have KO4 := Lib.hid (KO2.out.below hq)
  have KT4 := Lib.hid (KT2.out.below hq)
  have KI4 := Lib.hid (KI2.out.below hq)
  clear hq HB2 RT2 RP2 KO2 KT2 KI2
  go_wp2_with fail
  go_ret
  exact ⟨rfl, HB4.out⟩
set_option maxHeartbeats 8000000 in
theorem no1 (t : Tr) (p : TrP) (f u : Int) (A : Option Addr) (n c : Nat) (ls : List Nd) (z : Int) (w : World) (h : Hid (TrOk w t p)) (hin : Hid (InN w A n c ls)) (hT : Hid (Tabs w)) (h1 : p.n ≤ 40) (h2 : p.n2 ≤ 20) (h3 : n ≤ 40) (HG : Hid (trG t = false)) (HV1 : Hid (vfS (p.n : Nat) (rootR (nds43 t)) f u ls = (0, 0, z))) :
    Calls Tryd.prog 11 #[trV t p, .agg #[.int .i64 f, .int .i64 u, .slice A n c]] w fun e w' => e = .returned (.bool true) ∧ Below w.heap.size w w' := by
  have HIT : Hid ((Tryd.prog.info? 27).map (·.size) = some (trC t p).toArray.size) := Lib.hid (trV_info t p h.out.len)
  have hb0 := ((Below.refl _ w).alloc (Nat.le_refl _) (.cells (trC t p).toArray 27)).alloc (by simp) (.cells #[.int .i64 f, .int .i64 u, .slice A n c] 74)
  have hr0 := row_kept (heap_alloc_new w (.cells (trC t p).toArray 27)) ((Below.refl _ (w.alloc (.cells (trC t p).toArray 27))).alloc (Nat.le_refl _) (.cells #[.int .i64 f, .int .i64 u, .slice A n c] 74))
  have hp0 := heap_alloc_new (w.alloc (.cells (trC t p).toArray 27)) (.cells #[.int .i64 f, .int .i64 u, .slice A n c] 74)
  rw [World.size_alloc] at hp0
  obtain ⟨V, HV⟩ : ∃ V, Hid ((w.alloc (.cells (trC t p).toArray 27)).alloc (.cells #[.int .i64 f, .int .i64 u, .slice A n c] 74) = V) := ⟨_, Lib.hid rfl⟩
  rw [HV.out] at hb0 hr0 hp0
  have RT0 := Lib.hid hr0
  have RP0 := Lib.hid hp0
  have KO0 := Lib.hid (h.out.below hb0)
  have KT0 := Lib.hid (hT.out.below hb0)
  have KI0 := Lib.hid (hin.out.below hb0)
  have HB0 := Lib.hid hb0
  clear hb0 hr0 hp0
  rw [show trV t p = .agg (trC t p).toArray from rfl]
  go_enter Tryd.func11, Tryd.ntmps11
  go_wp2_with (rw [HV.out])
  refine (sane43 _ KT0).mono ?_
  rintro e U1 ⟨rfl, hq⟩
  have HB2 := Lib.hid (HB0.out.trans (hq.mono HB0.out.size))
  have RT2 := Lib.hid (row_kept RT0.out hq)
  have RP2 := Lib.hid (row_kept RP0.out hq)
  have KO2 := Lib.hid (KO0.out.below hq)
  have KT2 := Lib.hid (KT0.out.below hq)
  have KI2 := Lib.hid (KI0.out.below hq)
  clear hq HB0 RT0 RP0 KO0 KT0 KI0
  have p0 := cell_of_row _ _ 0 _ _ _ RP2.out
  have p1 := cell_of_row _ _ 1 _ _ _ RP2.out
  have p2 := cell_of_row _ _ 2 _ _ _ RP2.out
  go_wp2_with (refine wpList_load_row rfl 27 (.tmp 2) rfl (w.heap.size) rfl 27 _ (0, 0) _ RT2.out Tryd.underlying27 rfl HIT.out ?_)
  rw [show Value.agg (trC t p).toArray = trV t p from rfl]
  clear p0 p1 p2
  refine (few43_yes t p A n c f u _ h1 h2 h3).mono ?_
  rintro e U3 ⟨rfl, hq⟩
  have HB4 := Lib.hid (HB2.out.trans (hq.mono HB2.out.size))
  have RT4 := Lib.hid (row_kept RT2.out hq)
  have RP4 := Lib.hid (row_kept RP2.out hq)
  have KO4 := Lib.hid (KO2.out.below hq)
  have KT4 := Lib.hid (KT2.out.below hq)
  have KI4 := Lib.hid (KI2.out.below hq)
  clear hq HB2 RT2 RP2 KO2 KT2 KI2
  have HLN : Hid (t.ln.length = p.n) := Lib.hid h.out.ln.len
  have HLS : Hid (ls.length ≤ 100000) := Lib.hid (by have := hin.out.len; omega)
  obtain ⟨q, HQ⟩ : ∃ q, Hid (rootR (nds43 t) = q) := ⟨_, Lib.hid rfl⟩
  rw [HQ.out] at HV1
  have HQO : Hid (NdOk q) := Lib.hid (by rw [← HQ.out]; exact rootR_ok nds43_ok)
  have HRK : Hid (RtOk (rt43 (p.n : Nat) q)) := Lib.hid (rt43_ok (by unfold I64; omega) HQO.out)
  have HRI := Lib.hid (rtC_info HRK.out)
  have HRS : Hid ((Tryd.zeroCells35).size = (rtC (rt43 (p.n : Nat) q)).toArray.size) := Lib.hid (by rw [rt43_size HQO.out]; kernel_rfl)
  go_wp2_with (refine wpList_load_row rfl 27 (.tmp 2) rfl (w.heap.size) rfl 27 _ (0, 0) _ RT4.out Tryd.underlying27 rfl HIT.out ?_)
  rw [show Value.agg (trC t p).toArray = trV t p from rfl]
  refine (rooted_any t p _ KO4 KT4).mono ?_
  rintro e U5 ⟨rfl, hq⟩
  rw [HQ.out, HG.out]
  have HB6 := Lib.hid (HB4.out.trans (hq.mono HB4.out.size))
  have RT6 := Lib.hid (row_kept RT4.out hq)
  have RP6 := Lib.hid (row_kept RP4.out hq)
  have KO6 := Lib.hid (KO4.out.below hq)
  have KT6 := Lib.hid (KT4.out.below hq)
  have KI6 := Lib.hid (KI4.out.below hq)
  clear hq HB4 RT4 RP4 KO4 KT4 KI4
  obtain ⟨V7, HV7⟩ : ∃ W, Hid ((U5.alloc (.cells Tryd.zeroCells35 35)).setRow U5.heap.size (rtC (rt43 (p.n : Nat) q)).toArray = W) := ⟨_, Lib.hid rfl⟩
  have hw := setRow_heap (U5.alloc (.cells Tryd.zeroCells35 35)) U5.heap.size _ (rtC (rt43 (p.n : Nat) q)).toArray _ _ (heap_alloc_new U5 _)
  have hb := below_setRow ((Below.refl _ U5).alloc (Nat.le_refl _) (.cells Tryd.zeroCells35 35)) (Nat.le_refl _) (rtC (rt43 (p.n : Nat) q)).toArray
  rw [HV7.out] at hw hb
  have HB8 := Lib.hid (HB6.out.trans (hb.mono HB6.out.size))
  have RT8 := Lib.hid (row_kept RT6.out hb)
  have RP8 := Lib.hid (row_kept RP6.out hb)
  have KO8 := Lib.hid (KO6.out.below hb)
  have KT8 := Lib.hid (KT6.out.below hb)
  have KI8 := Lib.hid (KI6.out.below hb)
  have RR7 := Lib.hid hw
  clear hw hb HB6 RT6 RP6 KO6 KT6 KI6
  have p0 := cell_of_row _ _ 0 _ _ _ RP8.out
  have p1 := cell_of_row _ _ 1 _ _ _ RP8.out
  have p2 := cell_of_row _ _ 2 _ _ _ RP8.out
  go_wp2_with (first | (refine wpList_store_row rfl 35 (.tmp 5) (.tmp 28) rfl U5.heap.size (rtC (rt43 (p.n : Nat) q)).toArray rfl rfl 35 _ (heap_alloc_new U5 _) HRI.out HRS.out (rtC_one _) ?_; rw [HV7.out]) | (refine wpList_load_row rfl 35 (.tmp 5) rfl (U5.heap.size) rfl 35 _ (0, 0) _ RR7.out Tryd.underlying35 rfl HRI.out ?_))
  refine (verify43 (rt43 (p.n : Nat) q) f u _ _ _ ls _ HRK KI8 KT8 HLS.out).mono ?_
  rintro e U9 ⟨rfl, hq⟩
  rw [show vfS (rt43 (p.n : Nat) q).lin (rt43 (p.n : Nat) q).tree f u ls = _ from HV1.out]
  clear p0 p1 p2
  have HB10 := Lib.hid (HB8.out.trans (hq.mono HB8.out.size))
  have RT10 := Lib.hid (row_kept RT8.out hq)
  have RP10 := Lib.hid (row_kept RP8.out hq)
  have RR10 := Lib.hid (row_kept RR7.out hq)
  have KO10 := Lib.hid (KO8.out.below hq)
  have KT10 := Lib.hid (KT8.out.below hq)
  have KI10 := Lib.hid (KI8.out.below hq)
  clear hq HB8 RT8 RP8 RR7 KO8 KT8 KI8
  go_wp2_with fail
  go_ret
  exact ⟨rfl, HB10.out⟩
set_option maxHeartbeats 8000000 in
theorem no2 (t : Tr) (p : TrP) (f u : Int) (A : Option Addr) (n c : Nat) (ls : List Nd) (z : Int) (w : World) (h : Hid (TrOk w t p)) (hin : Hid (InN w A n c ls)) (hT : Hid (Tabs w)) (h1 : p.n ≤ 40) (h2 : p.n2 ≤ 20) (h3 : n ≤ 40) (HG : Hid (trG t = true)) (HV1 : Hid (vfS (p.n : Nat) (rootR (nds43 t)) f u ls = (0, 0, z))) (hz : (z != 0) = true) :
    Calls Tryd.prog 11 #[trV t p, .agg #[.int .i64 f, .int .i64 u, .slice A n c]] w fun e w' => e = .returned (.bool true) ∧ Below w.heap.size w w' := by
  have HIT : Hid ((Tryd.prog.info? 27).map (·.size) = some (trC t p).toArray.size) := Lib.hid (trV_info t p h.out.len)
  have hb0 := ((Below.refl _ w).alloc (Nat.le_refl _) (.cells (trC t p).toArray 27)).alloc (by simp) (.cells #[.int .i64 f, .int .i64 u, .slice A n c] 74)
  have hr0 := row_kept (heap_alloc_new w (.cells (trC t p).toArray 27)) ((Below.refl _ (w.alloc (.cells (trC t p).toArray 27))).alloc (Nat.le_refl _) (.cells #[.int .i64 f, .int .i64 u, .slice A n c] 74))
  have hp0 := heap_alloc_new (w.alloc (.cells (trC t p).toArray 27)) (.cells #[.int .i64 f, .int .i64 u, .slice A n c] 74)
  rw [World.size_alloc] at hp0
  obtain ⟨V, HV⟩ : ∃ V, Hid ((w.alloc (.cells (trC t p).toArray 27)).alloc (.cells #[.int .i64 f, .int .i64 u, .slice A n c] 74) = V) := ⟨_, Lib.hid rfl⟩
  rw [HV.out] at hb0 hr0 hp0
  have RT0 := Lib.hid hr0
  have RP0 := Lib.hid hp0
  have KO0 := Lib.hid (h.out.below hb0)
  have KT0 := Lib.hid (hT.out.below hb0)
  have KI0 := Lib.hid (hin.out.below hb0)
  have HB0 := Lib.hid hb0
  clear hb0 hr0 hp0
  rw [show trV t p = .agg (trC t p).toArray from rfl]
  go_enter Tryd.func11, Tryd.ntmps11
  go_wp2_with (rw [HV.out])
  refine (sane43 _ KT0).mono ?_
  rintro e U1 ⟨rfl, hq⟩
  have HB2 := Lib.hid (HB0.out.trans (hq.mono HB0.out.size))
  have RT2 := Lib.hid (row_kept RT0.out hq)
  have RP2 := Lib.hid (row_kept RP0.out hq)
  have KO2 := Lib.hid (KO0.out.below hq)
  have KT2 := Lib.hid (KT0.out.below hq)
  have KI2 := Lib.hid (KI0.out.below hq)
  clear hq HB0 RT0 RP0 KO0 KT0 KI0
  have p0 := cell_of_row _ _ 0 _ _ _ RP2.out
  have p1 := cell_of_row _ _ 1 _ _ _ RP2.out
  have p2 := cell_of_row _ _ 2 _ _ _ RP2.out
  go_wp2_with (refine wpList_load_row rfl 27 (.tmp 2) rfl (w.heap.size) rfl 27 _ (0, 0) _ RT2.out Tryd.underlying27 rfl HIT.out ?_)
  rw [show Value.agg (trC t p).toArray = trV t p from rfl]
  clear p0 p1 p2
  refine (few43_yes t p A n c f u _ h1 h2 h3).mono ?_
  rintro e U3 ⟨rfl, hq⟩
  have HB4 := Lib.hid (HB2.out.trans (hq.mono HB2.out.size))
  have RT4 := Lib.hid (row_kept RT2.out hq)
  have RP4 := Lib.hid (row_kept RP2.out hq)
  have KO4 := Lib.hid (KO2.out.below hq)
  have KT4 := Lib.hid (KT2.out.below hq)
  have KI4 := Lib.hid (KI2.out.below hq)
  clear hq HB2 RT2 RP2 KO2 KT2 KI2
  have HLN : Hid (t.ln.length = p.n) := Lib.hid h.out.ln.len
  have HLS : Hid (ls.length ≤ 100000) := Lib.hid (by have := hin.out.len; omega)
  obtain ⟨q, HQ⟩ : ∃ q, Hid (rootR (nds43 t) = q) := ⟨_, Lib.hid rfl⟩
  rw [HQ.out] at HV1
  have HQO : Hid (NdOk q) := Lib.hid (by rw [← HQ.out]; exact rootR_ok nds43_ok)
  have HRK : Hid (RtOk (rt43 (p.n : Nat) q)) := Lib.hid (rt43_ok (by unfold I64; omega) HQO.out)
  have HRI := Lib.hid (rtC_info HRK.out)
  have HRS : Hid ((Tryd.zeroCells35).size = (rtC (rt43 (p.n : Nat) q)).toArray.size) := Lib.hid (by rw [rt43_size HQO.out]; kernel_rfl)
  go_wp2_with (refine wpList_load_row rfl 27 (.tmp 2) rfl (w.heap.size) rfl 27 _ (0, 0) _ RT4.out Tryd.underlying27 rfl HIT.out ?_)
  rw [show Value.agg (trC t p).toArray = trV t p from rfl]
  refine (rooted_any t p _ KO4 KT4).mono ?_
  rintro e U5 ⟨rfl, hq⟩
  rw [HQ.out, HG.out]
  have HB6 := Lib.hid (HB4.out.trans (hq.mono HB4.out.size))
  have RT6 := Lib.hid (row_kept RT4.out hq)
  have RP6 := Lib.hid (row_kept RP4.out hq)
  have KO6 := Lib.hid (KO4.out.below hq)
  have KT6 := Lib.hid (KT4.out.below hq)
  have KI6 := Lib.hid (KI4.out.below hq)
  clear hq HB4 RT4 RP4 KO4 KT4 KI4
  obtain ⟨V7, HV7⟩ : ∃ W, Hid ((U5.alloc (.cells Tryd.zeroCells35 35)).setRow U5.heap.size (rtC (rt43 (p.n : Nat) q)).toArray = W) := ⟨_, Lib.hid rfl⟩
  have hw := setRow_heap (U5.alloc (.cells Tryd.zeroCells35 35)) U5.heap.size _ (rtC (rt43 (p.n : Nat) q)).toArray _ _ (heap_alloc_new U5 _)
  have hb := below_setRow ((Below.refl _ U5).alloc (Nat.le_refl _) (.cells Tryd.zeroCells35 35)) (Nat.le_refl _) (rtC (rt43 (p.n : Nat) q)).toArray
  rw [HV7.out] at hw hb
  have HB8 := Lib.hid (HB6.out.trans (hb.mono HB6.out.size))
  have RT8 := Lib.hid (row_kept RT6.out hb)
  have RP8 := Lib.hid (row_kept RP6.out hb)
  have KO8 := Lib.hid (KO6.out.below hb)
  have KT8 := Lib.hid (KT6.out.below hb)
  have KI8 := Lib.hid (KI6.out.below hb)
  have RR7 := Lib.hid hw
  clear hw hb HB6 RT6 RP6 KO6 KT6 KI6
  have p0 := cell_of_row _ _ 0 _ _ _ RP8.out
  have p1 := cell_of_row _ _ 1 _ _ _ RP8.out
  have p2 := cell_of_row _ _ 2 _ _ _ RP8.out
  go_wp2_with (first | (refine wpList_store_row rfl 35 (.tmp 5) (.tmp 28) rfl U5.heap.size (rtC (rt43 (p.n : Nat) q)).toArray rfl rfl 35 _ (heap_alloc_new U5 _) HRI.out HRS.out (rtC_one _) ?_; rw [HV7.out]) | (refine wpList_load_row rfl 35 (.tmp 5) rfl (U5.heap.size) rfl 35 _ (0, 0) _ RR7.out Tryd.underlying35 rfl HRI.out ?_))
  refine (verify43 (rt43 (p.n : Nat) q) f u _ _ _ ls _ HRK KI8 KT8 HLS.out).mono ?_
  rintro e U9 ⟨rfl, hq⟩
  rw [show vfS (rt43 (p.n : Nat) q).lin (rt43 (p.n : Nat) q).tree f u ls = _ from HV1.out]
  clear p0 p1 p2
  have HB10 := Lib.hid (HB8.out.trans (hq.mono HB8.out.size))
  have RT10 := Lib.hid (row_kept RT8.out hq)
  have RP10 := Lib.hid (row_kept RP8.out hq)
  have RR10 := Lib.hid (row_kept RR7.out hq)
  have KO10 := Lib.hid (KO8.out.below hq)
  have KT10 := Lib.hid (KT8.out.below hq)
  have KI10 := Lib.hid (KI8.out.below hq)
  clear hq HB8 RT8 RP8 RR7 KO8 KT8 KI8
  go_wp2_with fail
  go_ret
  exact ⟨rfl, HB10.out⟩
set_option maxHeartbeats 8000000 in
theorem same (t : Tr) (p : TrP) (f u : Int) (A : Option Addr) (n c : Nat) (ls : List Nd) (x y : Int) (l2 : List Nd) (w : World) (h : Hid (TrOk w t p)) (hin : Hid (InN w A n c ls)) (hT : Hid (Tabs w)) (h1 : p.n ≤ 40) (h2 : p.n2 ≤ 20) (h3 : n ≤ 40) (HS : Hid (shG t f u = true)) (HL2 : Hid (shN t f u = l2)) (HV1 : Hid (vfS (p.n : Nat) (rootR (nds43 t)) f u ls = (x, y, 0))) (HV2 : Hid (vfS (p.n : Nat) (rootR (nds43 t)) f u l2 = (x, y, 0))) :
    Calls Tryd.prog 11 #[trV t p, .agg #[.int .i64 f, .int .i64 u, .slice A n c]] w fun e w' => e = .returned (.bool true) ∧ Below w.heap.size w w' := by
  have HE : Hid (shE t f u = 0) := Lib.hid (shE_yes HS.out)
  have HG : Hid (trG t = true) := Lib.hid (shG_iff HS.out).1
  have HLL : Hid (l2.length ≤ 100000) := Lib.hid (by rw [← HL2.out]; exact shN_len t _ _)
  have HIT : Hid ((Tryd.prog.info? 27).map (·.size) = some (trC t p).toArray.size) := Lib.hid (trV_info t p h.out.len)
  have hb0 := ((Below.refl _ w).alloc (Nat.le_refl _) (.cells (trC t p).toArray 27)).alloc (by simp) (.cells #[.int .i64 f, .int .i64 u, .slice A n c] 74)
  have hr0 := row_kept (heap_alloc_new w (.cells (trC t p).toArray 27)) ((Below.refl _ (w.alloc (.cells (trC t p).toArray 27))).alloc (Nat.le_refl _) (.cells #[.int .i64 f, .int .i64 u, .slice A n c] 74))
  have hp0 := heap_alloc_new (w.alloc (.cells (trC t p).toArray 27)) (.cells #[.int .i64 f, .int .i64 u, .slice A n c] 74)
  rw [World.size_alloc] at hp0
  obtain ⟨V, HV⟩ : ∃ V, Hid ((w.alloc (.cells (trC t p).toArray 27)).alloc (.cells #[.int .i64 f, .int .i64 u, .slice A n c] 74) = V) := ⟨_, Lib.hid rfl⟩
  rw [HV.out] at hb0 hr0 hp0
  have RT0 := Lib.hid hr0
  have RP0 := Lib.hid hp0
  have KO0 := Lib.hid (h.out.below hb0)
  have KT0 := Lib.hid (hT.out.below hb0)
  have KI0 := Lib.hid (hin.out.below hb0)
  have HB0 := Lib.hid hb0
  clear hb0 hr0 hp0
  rw [show trV t p = .agg (trC t p).toArray from rfl]
  go_enter Tryd.func11, Tryd.ntmps11
  go_wp2_with (rw [HV.out])
  refine (sane43 _ KT0).mono ?_
  rintro e U1 ⟨rfl, hq⟩
  have HB2 := Lib.hid (HB0.out.trans (hq.mono HB0.out.size))
  have RT2 := Lib.hid (row_kept RT0.out hq)
  have RP2 := Lib.hid (row_kept RP0.out hq)
  have KO2 := Lib.hid (KO0.out.below hq)
  have KT2 := Lib.hid (KT0.out.below hq)
  have KI2 := Lib.hid (KI0.out.below hq)
  clear hq HB0 RT0 RP0 KO0 KT0 KI0
  have p0 := cell_of_row _ _ 0 _ _ _ RP2.out
  have p1 := cell_of_row _ _ 1 _ _ _ RP2.out
  have p2 := cell_of_row _ _ 2 _ _ _ RP2.out
  go_wp2_with (refine wpList_load_row rfl 27 (.tmp 2) rfl (w.heap.size) rfl 27 _ (0, 0) _ RT2.out Tryd.underlying27 rfl HIT.out ?_)
  rw [show Value.agg (trC t p).toArray = trV t p from rfl]
  clear p0 p1 p2
  refine (few43_yes t p A n c f u _ h1 h2 h3).mono ?_
  rintro e U3 ⟨rfl, hq⟩
  have HB4 := Lib.hid (HB2.out.trans (hq.mono HB2.out.size))
  have RT4 := Lib.hid (row_kept RT2.out hq)
  have RP4 := Lib.hid (row_kept RP2.out hq)
  have KO4 := Lib.hid (KO2.out.below hq)
  have KT4 := Lib.hid (KT2.out.below hq)
  have KI4 := Lib.hid (KI2.out.below hq)
  clear hq HB2 RT2 RP2 KO2 KT2 KI2
  have HLN : Hid (t.ln.length = p.n) := Lib.hid h.out.ln.len
  have HLS : Hid (ls.length ≤ 100000) := Lib.hid (by have := hin.out.len; omega)
  obtain ⟨q, HQ⟩ : ∃ q, Hid (rootR (nds43 t) = q) := ⟨_, Lib.hid rfl⟩
  rw [HQ.out] at HV1
  have HQO : Hid (NdOk q) := Lib.hid (by rw [← HQ.out]; exact rootR_ok nds43_ok)
  have HRK : Hid (RtOk (rt43 (p.n : Nat) q)) := Lib.hid (rt43_ok (by unfold I64; omega) HQO.out)
  have HRI := Lib.hid (rtC_info HRK.out)
  have HRS : Hid ((Tryd.zeroCells35).size = (rtC (rt43 (p.n : Nat) q)).toArray.size) := Lib.hid (by rw [rt43_size HQO.out]; kernel_rfl)
  go_wp2_with (refine wpList_load_row rfl 27 (.tmp 2) rfl (w.heap.size) rfl 27 _ (0, 0) _ RT4.out Tryd.underlying27 rfl HIT.out ?_)
  rw [show Value.agg (trC t p).toArray = trV t p from rfl]
  refine (rooted_any t p _ KO4 KT4).mono ?_
  rintro e U5 ⟨rfl, hq⟩
  rw [HQ.out, HG.out]
  have HB6 := Lib.hid (HB4.out.trans (hq.mono HB4.out.size))
  have RT6 := Lib.hid (row_kept RT4.out hq)
  have RP6 := Lib.hid (row_kept RP4.out hq)
  have KO6 := Lib.hid (KO4.out.below hq)
  have KT6 := Lib.hid (KT4.out.below hq)
  have KI6 := Lib.hid (KI4.out.below hq)
  clear hq HB4 RT4 RP4 KO4 KT4 KI4
  obtain ⟨V7, HV7⟩ : ∃ W, Hid ((U5.alloc (.cells Tryd.zeroCells35 35)).setRow U5.heap.size (rtC (rt43 (p.n : Nat) q)).toArray = W) := ⟨_, Lib.hid rfl⟩
  have hw := setRow_heap (U5.alloc (.cells Tryd.zeroCells35 35)) U5.heap.size _ (rtC (rt43 (p.n : Nat) q)).toArray _ _ (heap_alloc_new U5 _)
  have hb := below_setRow ((Below.refl _ U5).alloc (Nat.le_refl _) (.cells Tryd.zeroCells35 35)) (Nat.le_refl _) (rtC (rt43 (p.n : Nat) q)).toArray
  rw [HV7.out] at hw hb
  have HB8 := Lib.hid (HB6.out.trans (hb.mono HB6.out.size))
  have RT8 := Lib.hid (row_kept RT6.out hb)
  have RP8 := Lib.hid (row_kept RP6.out hb)
  have KO8 := Lib.hid (KO6.out.below hb)
  have KT8 := Lib.hid (KT6.out.below hb)
  have KI8 := Lib.hid (KI6.out.below hb)
  have RR7 := Lib.hid hw
  clear hw hb HB6 RT6 RP6 KO6 KT6 KI6
  have p0 := cell_of_row _ _ 0 _ _ _ RP8.out
  have p1 := cell_of_row _ _ 1 _ _ _ RP8.out
  have p2 := cell_of_row _ _ 2 _ _ _ RP8.out
  go_wp2_with (first | (refine wpList_store_row rfl 35 (.tmp 5) (.tmp 28) rfl U5.heap.size (rtC (rt43 (p.n : Nat) q)).toArray rfl rfl 35 _ (heap_alloc_new U5 _) HRI.out HRS.out (rtC_one _) ?_; rw [HV7.out]) | (refine wpList_load_row rfl 35 (.tmp 5) rfl (U5.heap.size) rfl 35 _ (0, 0) _ RR7.out Tryd.underlying35 rfl HRI.out ?_))
  refine (verify43 (rt43 (p.n : Nat) q) f u _ _ _ ls _ HRK KI8 KT8 HLS.out).mono ?_
  rintro e U9 ⟨rfl, hq⟩
  rw [show vfS (rt43 (p.n : Nat) q).lin (rt43 (p.n : Nat) q).tree f u ls = _ from HV1.out]
  clear p0 p1 p2
  have HB10 := Lib.hid (HB8.out.trans (hq.mono HB8.out.size))
  have RT10 := Lib.hid (row_kept RT8.out hq)
  have RP10 := Lib.hid (row_kept RP8.out hq)
  have RR10 := Lib.hid (row_kept RR7.out hq)
  have KO10 := Lib.hid (KO8.out.below hq)
  have KT10 := Lib.hid (KT8.out.below hq)
  have KI10 := Lib.hid (KI8.out.below hq)
  clear hq HB8 RT8 RP8 RR7 KO8 KT8 KI8
  rw [HQ.out] at HV2
  have p0 := cell_of_row _ _ 0 _ _ _ RP10.out
  have p1 := cell_of_row _ _ 1 _ _ _ RP10.out
  have p2 := cell_of_row _ _ 2 _ _ _ RP10.out
  go_wp2_with (refine wpList_load_row rfl 27 (.tmp 2) rfl (w.heap.size) rfl 27 _ (0, 0) _ RT10.out Tryd.underlying27 rfl HIT.out ?_)
  rw [show Value.agg (trC t p).toArray = trV t p from rfl]
  refine (show43 t p f u _ KO10 KT10).mono ?_
  rintro e U11 ⟨A1, n1, c1, rfl, hin1, hq⟩
  rw [HS.out, HE.out, if_pos rfl, if_pos rfl]
  clear p0 p1 p2
  rw [HL2.out] at hin1
  have KQ1 := Lib.hid hin1
  clear hin1
  have HB12 := Lib.hid (HB10.out.trans (hq.mono HB10.out.size))
  have RT12 := Lib.hid (row_kept RT10.out hq)
  have RP12 := Lib.hid (row_kept RP10.out hq)
  have RR12 := Lib.hid (row_kept RR10.out hq)
  have KO12 := Lib.hid (KO10.out.below hq)
  have KT12 := Lib.hid (KT10.out.below hq)
  have KI12 := Lib.hid (KI10.out.below hq)
  clear hq HB10 RT10 RP10 RR10 KO10 KT10 KI10
  obtain ⟨V13, HV13⟩ : ∃ V, Hid (U11.alloc (.cells #[.int .i64 f, .int .i64 u, .slice A1 n1 c1] 74) = V) := ⟨_, Lib.hid rfl⟩
  have hw := heap_alloc_new U11 (.cells #[.int .i64 f, .int .i64 u, .slice A1 n1 c1] 74)
  have hb := (Below.refl _ U11).alloc (Nat.le_refl _) (.cells #[.int .i64 f, .int .i64 u, .slice A1 n1 c1] 74)
  rw [HV13.out] at hw hb
  have HB14 := Lib.hid (HB12.out.trans (hb.mono HB12.out.size))
  have RT14 := Lib.hid (row_kept RT12.out hb)
  have RP14 := Lib.hid (row_kept RP12.out hb)
  have RR14 := Lib.hid (row_kept RR12.out hb)
  have KO14 := Lib.hid (KO12.out.below hb)
  have KT14 := Lib.hid (KT12.out.below hb)
  have KI14 := Lib.hid (KI12.out.below hb)
  have KJ14 := Lib.hid (KQ1.out.below hb)
  have RQ13 := Lib.hid hw
  clear hw hb HB12 RT12 RP12 RR12 KO12 KT12 KI12 KQ1
  have q0 := cell_of_row _ _ 0 _ _ _ RQ13.out
  have q1 := cell_of_row _ _ 1 _ _ _ RQ13.out
  have q2 := cell_of_row _ _ 2 _ _ _ RQ13.out
  go_wp2_with (first | (rw [HV13.out]) | (refine wpList_load_row rfl 35 (.tmp 5) rfl (U5.heap.size) rfl 35 _ (0, 0) _ RR14.out Tryd.underlying35 rfl HRI.out ?_))
  refine (verify43 (rt43 (p.n : Nat) q) f u _ _ _ l2 _ HRK KJ14 KT14 HLL.out).mono ?_
  rintro e U15 ⟨rfl, hq⟩
  rw [show vfS (rt43 (p.n : Nat) q).lin (rt43 (p.n : Nat) q).tree f u l2 = _ from HV2.out]
  clear q0 q1 q2
  have HB16 := Lib.hid (HB14.out.trans (hq.mono HB14.out.size))
  have RT16 := Lib.hid (row_kept RT14.out hq)
  have RP16 := Lib.hid (row_kept RP14.out hq)
  have RR16 := Lib.hid (row_kept RR14.out hq)
  have RQ16 := Lib.hid (row_kept RQ13.out hq)
  have KO16 := Lib.hid (KO14.out.below hq)
  have KT16 := Lib.hid (KT14.out.below hq)
  have KI16 := Lib.hid (KI14.out.below hq)
  have KJ16 := Lib.hid (KJ14.out.below hq)
  clear hq HB14 RT14 RP14 RR14 RQ13 KO14 KT14 KI14 KJ14
  go_wp2_with fail
  go_ret
  exact ⟨rfl, HB16.out⟩
set_option maxHeartbeats 8000000 in
theorem met1 (t : Tr) (p : TrP) (f u : Int) (A : Option Addr) (n c : Nat) (ls : List Nd) (x y x2 y2 : Int) (l2 : List Nd) (w : World) (h : Hid (TrOk w t p)) (hin : Hid (InN w A n c ls)) (hT : Hid (Tabs w)) (h1 : p.n ≤ 40) (h2 : p.n2 ≤ 20) (h3 : n ≤ 40) (HS : Hid (shG t f u = true)) (HL2 : Hid (shN t f u = l2)) (HV1 : Hid (vfS (p.n : Nat) (rootR (nds43 t)) f u ls = (x, y, 0))) (HV2 : Hid (vfS (p.n : Nat) (rootR (nds43 t)) f u l2 = (x2, y2, 0))) (hx : (x == x2) = false) :
    Calls Tryd.prog 11 #[trV t p, .agg #[.int .i64 f, .int .i64 u, .slice A n c]] w fun e w' => e = .returned (.bool true) ∧ Below w.heap.size w w' := by
  obtain ⟨f, rfl⟩ : ∃ k : Nat, f = (k : Int) := ⟨f.toNat, by have := shG_iff HS.out; omega⟩
  obtain ⟨u, rfl⟩ : ∃ k : Nat, u = (k : Int) := ⟨u.toNat, by have := shG_iff HS.out; omega⟩
  have HFU : Hid (f < u ∧ u ≤ p.n) := Lib.hid (by have := shG_iff HS.out; have := h.out.ln.len; omega)
  have HM : Hid ((cl f u 0 p.n ls l2).2.2.2 = true) := Lib.hid (by
    have e := vfS_bind (by rw [HV1.out]) (by rw [HV2.out]) (P := ls) (Q := l2)
    rw [Int.toNat_natCast, Int.toNat_natCast, Int.toNat_natCast] at e
    rcases e with e | e
    · have e2 := HV1.out.symm.trans ((congrArg _ e).trans HV2.out)
      simp only [Prod.mk.injEq] at e2
      simp [e2] at hx
    · exact e)
  have HE : Hid (shE t f u = 0) := Lib.hid (shE_yes HS.out)
  have HG : Hid (trG t = true) := Lib.hid (shG_iff HS.out).1
  have HLL : Hid (l2.length ≤ 100000) := Lib.hid (by rw [← HL2.out]; exact shN_len t _ _)
  have HIT : Hid ((Tryd.prog.info? 27).map (·.size) = some (trC t p).toArray.size) := Lib.hid (trV_info t p h.out.len)
  have hb0 := ((Below.refl _ w).alloc (Nat.le_refl _) (.cells (trC t p).toArray 27)).alloc (by simp) (.cells #[.int .i64 f, .int .i64 u, .slice A n c] 74)
  have hr0 := row_kept (heap_alloc_new w (.cells (trC t p).toArray 27)) ((Below.refl _ (w.alloc (.cells (trC t p).toArray 27))).alloc (Nat.le_refl _) (.cells #[.int .i64 f, .int .i64 u, .slice A n c] 74))
  have hp0 := heap_alloc_new (w.alloc (.cells (trC t p).toArray 27)) (.cells #[.int .i64 f, .int .i64 u, .slice A n c] 74)
  rw [World.size_alloc] at hp0
  obtain ⟨V, HV⟩ : ∃ V, Hid ((w.alloc (.cells (trC t p).toArray 27)).alloc (.cells #[.int .i64 f, .int .i64 u, .slice A n c] 74) = V) := ⟨_, Lib.hid rfl⟩
  rw [HV.out] at hb0 hr0 hp0
  have RT0 := Lib.hid hr0
  have RP0 := Lib.hid hp0
  have KO0 := Lib.hid (h.out.below hb0)
  have KT0 := Lib.hid (hT.out.below hb0)
  have KI0 := Lib.hid (hin.out.below hb0)
  have HB0 := Lib.hid hb0
  clear hb0 hr0 hp0
  rw [show trV t p = .agg (trC t p).toArray from rfl]
  go_enter Tryd.func11, Tryd.ntmps11
  go_wp2_with (rw [HV.out])
  refine (sane43 _ KT0).mono ?_
  rintro e U1 ⟨rfl, hq⟩
  have HB2 := Lib.hid (HB0.out.trans (hq.mono HB0.out.size))
  have RT2 := Lib.hid (row_kept RT0.out hq)
  have RP2 := Lib.hid (row_kept RP0.out hq)
  have KO2 := Lib.hid (KO0.out.below hq)
  have KT2 := Lib.hid (KT0.out.below hq)
  have KI2 := Lib.hid (KI0.out.below hq)
  clear hq HB0 RT0 RP0 KO0 KT0 KI0
  have p0 := cell_of_row _ _ 0 _ _ _ RP2.out
  have p1 := cell_of_row _ _ 1 _ _ _ RP2.out
  have p2 := cell_of_row _ _ 2 _ _ _ RP2.out
  go_wp2_with (refine wpList_load_row rfl 27 (.tmp 2) rfl (w.heap.size) rfl 27 _ (0, 0) _ RT2.out Tryd.underlying27 rfl HIT.out ?_)
  rw [show Value.agg (trC t p).toArray = trV t p from rfl]
  clear p0 p1 p2
  refine (few43_yes t p A n c f u _ h1 h2 h3).mono ?_
  rintro e U3 ⟨rfl, hq⟩
  have HB4 := Lib.hid (HB2.out.trans (hq.mono HB2.out.size))
  have RT4 := Lib.hid (row_kept RT2.out hq)
  have RP4 := Lib.hid (row_kept RP2.out hq)
  have KO4 := Lib.hid (KO2.out.below hq)
  have KT4 := Lib.hid (KT2.out.below hq)
  have KI4 := Lib.hid (KI2.out.below hq)
  clear hq HB2 RT2 RP2 KO2 KT2 KI2
  have HLN : Hid (t.ln.length = p.n) := Lib.hid h.out.ln.len
  have HLS : Hid (ls.length ≤ 100000) := Lib.hid (by have := hin.out.len; omega)
  obtain ⟨q, HQ⟩ : ∃ q, Hid (rootR (nds43 t) = q) := ⟨_, Lib.hid rfl⟩
  rw [HQ.out] at HV1
  have HQO : Hid (NdOk q) := Lib.hid (by rw [← HQ.out]; exact rootR_ok nds43_ok)
  have HRK : Hid (RtOk (rt43 (p.n : Nat) q)) := Lib.hid (rt43_ok (by unfold I64; omega) HQO.out)
  have HRI := Lib.hid (rtC_info HRK.out)
  have HRS : Hid ((Tryd.zeroCells35).size = (rtC (rt43 (p.n : Nat) q)).toArray.size) := Lib.hid (by rw [rt43_size HQO.out]; kernel_rfl)
  go_wp2_with (refine wpList_load_row rfl 27 (.tmp 2) rfl (w.heap.size) rfl 27 _ (0, 0) _ RT4.out Tryd.underlying27 rfl HIT.out ?_)
  rw [show Value.agg (trC t p).toArray = trV t p from rfl]
  refine (rooted_any t p _ KO4 KT4).mono ?_
  rintro e U5 ⟨rfl, hq⟩
  rw [HQ.out, HG.out]
  have HB6 := Lib.hid (HB4.out.trans (hq.mono HB4.out.size))
  have RT6 := Lib.hid (row_kept RT4.out hq)
  have RP6 := Lib.hid (row_kept RP4.out hq)
  have KO6 := Lib.hid (KO4.out.below hq)
  have KT6 := Lib.hid (KT4.out.below hq)
  have KI6 := Lib.hid (KI4.out.below hq)
  clear hq HB4 RT4 RP4 KO4 KT4 KI4
  obtain ⟨V7, HV7⟩ : ∃ W, Hid ((U5.alloc (.cells Tryd.zeroCells35 35)).setRow U5.heap.size (rtC (rt43 (p.n : Nat) q)).toArray = W) := ⟨_, Lib.hid rfl⟩
  have hw := setRow_heap (U5.alloc (.cells Tryd.zeroCells35 35)) U5.heap.size _ (rtC (rt43 (p.n : Nat) q)).toArray _ _ (heap_alloc_new U5 _)
  have hb := below_setRow ((Below.refl _ U5).alloc (Nat.le_refl _) (.cells Tryd.zeroCells35 35)) (Nat.le_refl _) (rtC (rt43 (p.n : Nat) q)).toArray
  rw [HV7.out] at hw hb
  have HB8 := Lib.hid (HB6.out.trans (hb.mono HB6.out.size))
  have RT8 := Lib.hid (row_kept RT6.out hb)
  have RP8 := Lib.hid (row_kept RP6.out hb)
  have KO8 := Lib.hid (KO6.out.below hb)
  have KT8 := Lib.hid (KT6.out.below hb)
  have KI8 := Lib.hid (KI6.out.below hb)
  have RR7 := Lib.hid hw
  clear hw hb HB6 RT6 RP6 KO6 KT6 KI6
  have p0 := cell_of_row _ _ 0 _ _ _ RP8.out
  have p1 := cell_of_row _ _ 1 _ _ _ RP8.out
  have p2 := cell_of_row _ _ 2 _ _ _ RP8.out
  go_wp2_with (first | (refine wpList_store_row rfl 35 (.tmp 5) (.tmp 28) rfl U5.heap.size (rtC (rt43 (p.n : Nat) q)).toArray rfl rfl 35 _ (heap_alloc_new U5 _) HRI.out HRS.out (rtC_one _) ?_; rw [HV7.out]) | (refine wpList_load_row rfl 35 (.tmp 5) rfl (U5.heap.size) rfl 35 _ (0, 0) _ RR7.out Tryd.underlying35 rfl HRI.out ?_))
  refine (verify43 (rt43 (p.n : Nat) q) f u _ _ _ ls _ HRK KI8 KT8 HLS.out).mono ?_
  rintro e U9 ⟨rfl, hq⟩
  rw [show vfS (rt43 (p.n : Nat) q).lin (rt43 (p.n : Nat) q).tree f u ls = _ from HV1.out]
  clear p0 p1 p2
  have HB10 := Lib.hid (HB8.out.trans (hq.mono HB8.out.size))
  have RT10 := Lib.hid (row_kept RT8.out hq)
  have RP10 := Lib.hid (row_kept RP8.out hq)
  have RR10 := Lib.hid (row_kept RR7.out hq)
  have KO10 := Lib.hid (KO8.out.below hq)
  have KT10 := Lib.hid (KT8.out.below hq)
  have KI10 := Lib.hid (KI8.out.below hq)
  clear hq HB8 RT8 RP8 RR7 KO8 KT8 KI8
  rw [HQ.out] at HV2
  have p0 := cell_of_row _ _ 0 _ _ _ RP10.out
  have p1 := cell_of_row _ _ 1 _ _ _ RP10.out
  have p2 := cell_of_row _ _ 2 _ _ _ RP10.out
  go_wp2_with (refine wpList_load_row rfl 27 (.tmp 2) rfl (w.heap.size) rfl 27 _ (0, 0) _ RT10.out Tryd.underlying27 rfl HIT.out ?_)
  rw [show Value.agg (trC t p).toArray = trV t p from rfl]
  refine (show43 t p f u _ KO10 KT10).mono ?_
  rintro e U11 ⟨A1, n1, c1, rfl, hin1, hq⟩
  rw [HS.out, HE.out, if_pos rfl, if_pos rfl]
  clear p0 p1 p2
  rw [HL2.out] at hin1
  have KQ1 := Lib.hid hin1
  clear hin1
  have HB12 := Lib.hid (HB10.out.trans (hq.mono HB10.out.size))
  have RT12 := Lib.hid (row_kept RT10.out hq)
  have RP12 := Lib.hid (row_kept RP10.out hq)
  have RR12 := Lib.hid (row_kept RR10.out hq)
  have KO12 := Lib.hid (KO10.out.below hq)
  have KT12 := Lib.hid (KT10.out.below hq)
  have KI12 := Lib.hid (KI10.out.below hq)
  clear hq HB10 RT10 RP10 RR10 KO10 KT10 KI10
  obtain ⟨V13, HV13⟩ : ∃ V, Hid (U11.alloc (.cells #[.int .i64 f, .int .i64 u, .slice A1 n1 c1] 74) = V) := ⟨_, Lib.hid rfl⟩
  have hw := heap_alloc_new U11 (.cells #[.int .i64 f, .int .i64 u, .slice A1 n1 c1] 74)
  have hb := (Below.refl _ U11).alloc (Nat.le_refl _) (.cells #[.int .i64 f, .int .i64 u, .slice A1 n1 c1] 74)
  rw [HV13.out] at hw hb
  have HB14 := Lib.hid (HB12.out.trans (hb.mono HB12.out.size))
  have RT14 := Lib.hid (row_kept RT12.out hb)
  have RP14 := Lib.hid (row_kept RP12.out hb)
  have RR14 := Lib.hid (row_kept RR12.out hb)
  have KO14 := Lib.hid (KO12.out.below hb)
  have KT14 := Lib.hid (KT12.out.below hb)
  have KI14 := Lib.hid (KI12.out.below hb)
  have KJ14 := Lib.hid (KQ1.out.below hb)
  have RQ13 := Lib.hid hw
  clear hw hb HB12 RT12 RP12 RR12 KO12 KT12 KI12 KQ1
  have q0 := cell_of_row _ _ 0 _ _ _ RQ13.out
  have q1 := cell_of_row _ _ 1 _ _ _ RQ13.out
  have q2 := cell_of_row _ _ 2 _ _ _ RQ13.out
  go_wp2_with (first | (rw [HV13.out]) | (refine wpList_load_row rfl 35 (.tmp 5) rfl (U5.heap.size) rfl 35 _ (0, 0) _ RR14.out Tryd.underlying35 rfl HRI.out ?_))
  refine (verify43 (rt43 (p.n : Nat) q) f u _ _ _ l2 _ HRK KJ14 KT14 HLL.out).mono ?_
  rintro e U15 ⟨rfl, hq⟩
  rw [show vfS (rt43 (p.n : Nat) q).lin (rt43 (p.n : Nat) q).tree f u l2 = _ from HV2.out]
  clear q0 q1 q2
  have HB16 := Lib.hid (HB14.out.trans (hq.mono HB14.out.size))
  have RT16 := Lib.hid (row_kept RT14.out hq)
  have RP16 := Lib.hid (row_kept RP14.out hq)
  have RR16 := Lib.hid (row_kept RR14.out hq)
  have RQ16 := Lib.hid (row_kept RQ13.out hq)
  have KO16 := Lib.hid (KO14.out.below hq)
  have KT16 := Lib.hid (KT14.out.below hq)
  have KI16 := Lib.hid (KI14.out.below hq)
  have KJ16 := Lib.hid (KJ14.out.below hq)
  clear hq HB14 RT14 RP14 RR14 RQ13 KO14 KT14 KI14 KJ14
  have HNL : Hid (n1 ≤ 100000) := Lib.hid (by rw [← KJ16.out.len]; exact HLL.out)
  have HKO := Lib.hid (cl_ok HFU.out.1 0 p.n (by have := HFU.out; omega) ls l2 hin.out.ok KJ16.out.ok)
  obtain ⟨cx, HCX⟩ : ∃ x, Hid ((cl f u 0 p.n ls l2).1 = x) := ⟨_, Lib.hid rfl⟩
  obtain ⟨cy, HCY⟩ : ∃ x, Hid ((cl f u 0 p.n ls l2).2.1 = x) := ⟨_, Lib.hid rfl⟩
  obtain ⟨cn, HCN⟩ : ∃ x, Hid ((cl f u 0 p.n ls l2).2.2.1 = x) := ⟨_, Lib.hid rfl⟩
  rw [HCX.out, HCY.out] at HKO
  have HXS := Lib.hid (size34e HKO.out.1)
  have HYS := Lib.hid (size34e HKO.out.2)
  have HXZ : Hid ((#[.int .u8 0, .int .u8 0, .int .u8 0, .int .u8 0, .int .u8 0, .int .u8 0, .int .u8 0, .int .u8 0, .int .u8 0, .int .u8 0, .int .u8 0, .int .u8 0, .int .u8 0, .int .u8 0, .int .u8 0, .int .u8 0, .int .u8 0, .int .u8 0, .int .u8 0, .int .u8 0, .int .u8 0, .int .u8 0, .int .u8 0, .int .u8 0, .int .u8 0, .int .u8 0, .int .u8 0, .int .u8 0, .int .u8 0, .int .u8 0, .int .u8 0, .int .u8 0, .int .i64 0, .int .i64 0] : Array Value).size = (ndC cx).toArray.size) := Lib.hid (by rw [← zeroN_cells]; simp [ndC_length HKO.out.1, ndC_length zeroN_ok])
  have HYZ : Hid ((#[.int .u8 0, .int .u8 0, .int .u8 0, .int .u8 0, .int .u8 0, .int .u8 0, .int .u8 0, .int .u8 0, .int .u8 0, .int .u8 0, .int .u8 0, .int .u8 0, .int .u8 0, .int .u8 0, .int .u8 0, .int .u8 0, .int .u8 0, .int .u8 0, .int .u8 0, .int .u8 0, .int .u8 0, .int .u8 0, .int .u8 0, .int .u8 0, .int .u8 0, .int .u8 0, .int .u8 0, .int .u8 0, .int .u8 0, .int .u8 0, .int .u8 0, .int .u8 0, .int .i64 0, .int .i64 0] : Array Value).size = (ndC cy).toArray.size) := Lib.hid (by rw [← zeroN_cells]; simp [ndC_length HKO.out.2, ndC_length zeroN_ok])
  have p0 := cell_of_row _ _ 0 _ _ _ RP16.out
  have p1 := cell_of_row _ _ 1 _ _ _ RP16.out
  have p2 := cell_of_row _ _ 2 _ _ _ RP16.out
  have q0 := cell_of_row _ _ 0 _ _ _ RQ16.out
  have q1 := cell_of_row _ _ 1 _ _ _ RQ16.out
  have q2 := cell_of_row _ _ 2 _ _ _ RQ16.out
  have l4 : U15.cell? ⟨U5.heap.size, 4, none⟩ = some (.int .i64 (p.n : Nat)) := by rw [cell_of_row _ _ _ _ _ _ RR16.out]; rfl
  go_wp2_with fail
  refine (climb_any f u 0 p.n 0 f u A A1 n c n1 c1 ls l2 _ KI16 KJ16 KT16 HFU.out.1 (by have := HFU.out; omega) (Nat.le_refl _) (by omega) (by omega) HNL.out).mono ?_
  rintro e U17 ⟨rfl, hq⟩
  rw [List.drop_zero, List.drop_zero, HM.out, HCX.out, HCY.out, HCN.out]
  clear p0 p1 p2
  clear q0 q1 q2
  clear l4
  have HB18 := Lib.hid (HB16.out.trans (hq.mono HB16.out.size))
  have RT18 := Lib.hid (row_kept RT16.out hq)
  have RP18 := Lib.hid (row_kept RP16.out hq)
  have RR18 := Lib.hid (row_kept RR16.out hq)
  have RQ18 := Lib.hid (row_kept RQ16.out hq)
  have KO18 := Lib.hid (KO16.out.below hq)
  have KT18 := Lib.hid (KT16.out.below hq)
  have KI18 := Lib.hid (KI16.out.below hq)
  have KJ18 := Lib.hid (KJ16.out.below hq)
  clear hq HB16 RT16 RP16 RR16 RQ16 KO16 KT16 KI16 KJ16
  have ra0 := (Below.heap_alloc (U17.alloc (.cells #[.int .u8 0, .int .u8 0, .int .u8 0, .int .u8 0, .int .u8 0, .int .u8 0, .int .u8 0, .int .u8 0, .int .u8 0, .int .u8 0, .int .u8 0, .int .u8 0, .int .u8 0, .int .u8 0, .int .u8 0, .int .u8 0, .int .u8 0, .int .u8 0, .int .u8 0, .int .u8 0, .int .u8 0, .int .u8 0, .int .u8 0, .int .u8 0, .int .u8 0, .int .u8 0, .int .u8 0, .int .u8 0, .int .u8 0, .int .u8 0, .int .u8 0, .int .u8 0, .int .i64 0, .int .i64 0] 31)) (.cells #[.int .u8 0, .int .u8 0, .int .u8 0, .int .u8 0, .int .u8 0, .int .u8 0, .int .u8 0, .int .u8 0, .int .u8 0, .int .u8 0, .int .u8 0, .int .u8 0, .int .u8 0, .int .u8 0, .int .u8 0, .int .u8 0, .int .u8 0, .int .u8 0, .int .u8 0, .int .u8 0, .int .u8 0, .int .u8 0, .int .u8 0, .int .u8 0, .int .u8 0, .int .u8 0, .int .u8 0, .int .u8 0, .int .u8 0, .int .u8 0, .int .u8 0, .int .u8 0, .int .i64 0, .int .i64 0] 31) U17.heap.size (by simp)).trans (heap_alloc_new U17 (.cells #[.int .u8 0, .int .u8 0, .int .u8 0, .int .u8 0, .int .u8 0, .int .u8 0, .int .u8 0, .int .u8 0, .int .u8 0, .int .u8 0, .int .u8 0, .int .u8 0, .int .u8 0, .int .u8 0, .int .u8 0, .int .u8 0, .int .u8 0, .int .u8 0, .int .u8 0, .int .u8 0, .int .u8 0, .int .u8 0, .int .u8 0, .int .u8 0, .int .u8 0, .int .u8 0, .int .u8 0, .int .u8 0, .int .u8 0, .int .u8 0, .int .u8 0, .int .u8 0, .int .i64 0, .int .i64 0] 31))
  have rb0 := heap_alloc_new (U17.alloc (.cells #[.int .u8 0, .int .u8 0, .int .u8 0, .int .u8 0, .int .u8 0, .int .u8 0, .int .u8 0, .int .u8 0, .int .u8 0, .int .u8 0, .int .u8 0, .int .u8 0, .int .u8 0, .int .u8 0, .int .u8 0, .int .u8 0, .int .u8 0, .int .u8 0, .int .u8 0, .int .u8 0, .int .u8 0, .int .u8 0, .int .u8 0, .int .u8 0, .int .u8 0, .int .u8 0, .int .u8 0, .int .u8 0, .int .u8 0, .int .u8 0, .int .u8 0, .int .u8 0, .int .i64 0, .int .i64 0] 31)) (.cells #[.int .u8 0, .int .u8 0, .int .u8 0, .int .u8 0, .int .u8 0, .int .u8 0, .int .u8 0, .int .u8 0, .int .u8 0, .int .u8 0, .int .u8 0, .int .u8 0, .int .u8 0, .int .u8 0, .int .u8 0, .int .u8 0, .int .u8 0, .int .u8 0, .int .u8 0, .int .u8 0, .int .u8 0, .int .u8 0, .int .u8 0, .int .u8 0, .int .u8 0, .int .u8 0, .int .u8 0, .int .u8 0, .int .u8 0, .int .u8 0, .int .u8 0, .int .u8 0, .int .i64 0, .int .i64 0] 31)
  rw [World.size_alloc] at rb0
  have hb0 := ((Below.refl _ U17).alloc (Nat.le_refl _) (.cells #[.int .u8 0, .int .u8 0, .int .u8 0, .int .u8 0, .int .u8 0, .int .u8 0, .int .u8 0, .int .u8 0, .int .u8 0, .int .u8 0, .int .u8 0, .int .u8 0, .int .u8 0, .int .u8 0, .int .u8 0, .int .u8 0, .int .u8 0, .int .u8 0, .int .u8 0, .int .u8 0, .int .u8 0, .int .u8 0, .int .u8 0, .int .u8 0, .int .u8 0, .int .u8 0, .int .u8 0, .int .u8 0, .int .u8 0, .int .u8 0, .int .u8 0, .int .u8 0, .int .i64 0, .int .i64 0] 31)).alloc (by simp) (.cells #[.int .u8 0, .int .u8 0, .int .u8 0, .int .u8 0, .int .u8 0, .int .u8 0, .int .u8 0, .int .u8 0, .int .u8 0, .int .u8 0, .int .u8 0, .int .u8 0, .int .u8 0, .int .u8 0, .int .u8 0, .int .u8 0, .int .u8 0, .int .u8 0, .int .u8 0, .int .u8 0, .int .u8 0, .int .u8 0, .int .u8 0, .int .u8 0, .int .u8 0, .int .u8 0, .int .u8 0, .int .u8 0, .int .u8 0, .int .u8 0, .int .u8 0, .int .u8 0, .int .i64 0, .int .i64 0] 31)
  obtain ⟨X19a, HX19a⟩ : ∃ V, Hid (((U17.alloc (.cells #[.int .u8 0, .int .u8 0, .int .u8 0, .int .u8 0, .int .u8 0, .int .u8 0, .int .u8 0, .int .u8 0, .int .u8 0, .int .u8 0, .int .u8 0, .int .u8 0, .int .u8 0, .int .u8 0, .int .u8 0, .int .u8 0, .int .u8 0, .int .u8 0, .int .u8 0, .int .u8 0, .int .u8 0, .int .u8 0, .int .u8 0, .int .u8 0, .int .u8 0, .int .u8 0, .int .u8 0, .int .u8 0, .int .u8 0, .int .u8 0, .int .u8 0, .int .u8 0, .int .i64 0, .int .i64 0] 31)).alloc (.cells #[.int .u8 0, .int .u8 0, .int .u8 0, .int .u8 0, .int .u8 0, .int .u8 0, .int .u8 0, .int .u8 0, .int .u8 0, .int .u8 0, .int .u8 0, .int .u8 0, .int .u8 0, .int .u8 0, .int .u8 0, .int .u8 0, .int .u8 0, .int .u8 0, .int .u8 0, .int .u8 0, .int .u8 0, .int .u8 0, .int .u8 0, .int .u8 0, .int .u8 0, .int .u8 0, .int .u8 0, .int .u8 0, .int .u8 0, .int .u8 0, .int .u8 0, .int .u8 0, .int .i64 0, .int .i64 0] 31)) = V) := ⟨_, Lib.hid rfl⟩
  rw [HX19a.out] at ra0 rb0 hb0
  have ra := Lib.hid ra0
  have rb1 := (setRow_other X19a U17.heap.size (U17.heap.size + 1) (ndC cx).toArray (by omega)).trans rb0
  have ra1 := setRow_heap X19a U17.heap.size _ (ndC cx).toArray _ _ ra0
  have hb1 := below_setRow hb0 (Nat.le_refl _) (ndC cx).toArray
  obtain ⟨X19b, HX19b⟩ : ∃ V, Hid (X19a.setRow U17.heap.size (ndC cx).toArray = V) := ⟨_, Lib.hid rfl⟩
  rw [HX19b.out] at ra1 rb1 hb1
  have rb := Lib.hid rb1
  have ra2 := (setRow_other X19b (U17.heap.size + 1) U17.heap.size (ndC cy).toArray (by omega)).trans ra1
  have rb2 := setRow_heap X19b (U17.heap.size + 1) _ (ndC cy).toArray _ _ rb1
  have hb := below_setRow hb1 (g := (U17.heap.size + 1)) (by omega) (ndC cy).toArray
  obtain ⟨V19, HV19⟩ : ∃ V, Hid (X19b.setRow (U17.heap.size + 1) (ndC cy).toArray = V) := ⟨_, Lib.hid rfl⟩
  rw [HV19.out] at ra2 rb2 hb
  clear ra0 rb0 hb0 ra1 rb1 hb1
  have HB20 := Lib.hid (HB18.out.trans (hb.mono HB18.out.size))
  have RT20 := Lib.hid (row_kept RT18.out hb)
  have RP20 := Lib.hid (row_kept RP18.out hb)
  have RR20 := Lib.hid (row_kept RR18.out hb)
  have RQ20 := Lib.hid (row_kept RQ18.out hb)
  have KO20 := Lib.hid (KO18.out.below hb)
  have KT20 := Lib.hid (KT18.out.below hb)
  have KI20 := Lib.hid (KI18.out.below hb)
  have KJ20 := Lib.hid (KJ18.out.below hb)
  have RCX19 := Lib.hid ra2
  have RCY19 := Lib.hid rb2
  clear ra2 rb2 hb HB18 RT18 RP18 RR18 RQ18 KO18 KT18 KI18 KJ18
  go_wp2_with (first | (rw [HX19a.out]) | (refine wpList_store_row rfl 31 (.tmp 15) (.tmp 85) rfl U17.heap.size (ndC cx).toArray rfl rfl 31 _ ra.out HXS.out HXZ.out (ndC_one _) ?_; rw [HX19b.out]) | (refine wpList_store_row rfl 31 (.tmp 16) (.tmp 86) rfl (U17.heap.size + 1) (ndC cy).toArray rfl rfl 31 _ rb.out HYS.out HYZ.out (ndC_one _) ?_; rw [HV19.out]))
  go_ret
  exact ⟨rfl, HB20.out⟩
set_option maxHeartbeats 8000000 in
theorem met2 (t : Tr) (p : TrP) (f u : Int) (A : Option Addr) (n c : Nat) (ls : List Nd) (x y y2 : Int) (l2 : List Nd) (w : World) (h : Hid (TrOk w t p)) (hin : Hid (InN w A n c ls)) (hT : Hid (Tabs w)) (h1 : p.n ≤ 40) (h2 : p.n2 ≤ 20) (h3 : n ≤ 40) (HS : Hid (shG t f u = true)) (HL2 : Hid (shN t f u = l2)) (HV1 : Hid (vfS (p.n : Nat) (rootR (nds43 t)) f u ls = (x, y, 0))) (HV2 : Hid (vfS (p.n : Nat) (rootR (nds43 t)) f u l2 = (x, y2, 0))) (hx : (y == y2) = false) :
    Calls Tryd.prog 11 #[trV t p, .agg #[.int .i64 f, .int .i64 u, .slice A n c]] w fun e w' => e = .returned (.bool true) ∧ Below w.heap.size w w' := by
  obtain ⟨f, rfl⟩ : ∃ k : Nat, f = (k : Int) := ⟨f.toNat, by have := shG_iff HS.out; omega⟩
  obtain ⟨u, rfl⟩ : ∃ k : Nat, u = (k : Int) := ⟨u.toNat, by have := shG_iff HS.out; omega⟩
  have HFU : Hid (f < u ∧ u ≤ p.n) := Lib.hid (by have := shG_iff HS.out; have := h.out.ln.len; omega)
  have HM : Hid ((cl f u 0 p.n ls l2).2.2.2 = true) := Lib.hid (by
    have e := vfS_bind (by rw [HV1.out]) (by rw [HV2.out]) (P := ls) (Q := l2)
    rw [Int.toNat_natCast, Int.toNat_natCast, Int.toNat_natCast] at e
    rcases e with e | e
    · have e2 := HV1.out.symm.trans ((congrArg _ e).trans HV2.out)
      simp only [Prod.mk.injEq] at e2
      simp [e2] at hx
    · exact e)
  have HE : Hid (shE t f u = 0) := Lib.hid (shE_yes HS.out)
  have HG : Hid (trG t = true) := Lib.hid (shG_iff HS.out).1
  have HLL : Hid (l2.length ≤ 100000) := Lib.hid (by rw [← HL2.out]; exact shN_len t _ _)
  have HIT : Hid ((Tryd.prog.info? 27).map (·.size) = some (trC t p).toArray.size) := Lib.hid (trV_info t p h.out.len)
  have hb0 := ((Below.refl _ w).alloc (Nat.le_refl _) (.cells (trC t p).toArray 27)).alloc (by simp) (.cells #[.int .i64 f, .int .i64 u, .slice A n c] 74)
  have hr0 := row_kept (heap_alloc_new w (.cells (trC t p).toArray 27)) ((Below.refl _ (w.alloc (.cells (trC t p).toArray 27))).alloc (Nat.le_refl _) (.cells #[.int .i64 f, .int .i64 u, .slice A n c] 74))
  have hp0 := heap_alloc_new (w.alloc (.cells (trC t p).toArray 27)) (.cells #[.int .i64 f, .int .i64 u, .slice A n c] 74)
  rw [World.size_alloc] at hp0
  obtain ⟨V, HV⟩ : ∃ V, Hid ((w.alloc (.cells (trC t p).toArray 27)).alloc (.cells #[.int .i64 f, .int .i64 u, .slice A n c] 74) = V) := ⟨_, Lib.hid rfl⟩
  rw [HV.out] at hb0 hr0 hp0
  have RT0 := Lib.hid hr0
  have RP0 := Lib.hid hp0
  have KO0 := Lib.hid (h.out.below hb0)
  have KT0 := Lib.hid (hT.out.below hb0)
  have KI0 := Lib.hid (hin.out.below hb0)
  have HB0 := Lib.hid hb0
  clear hb0 hr0 hp0
  rw [show trV t p = .agg (trC t p).toArray from rfl]
  go_enter Tryd.func11, Tryd.ntmps11
  go_wp2_with (rw [HV.out])
  refine (sane43 _ KT0).mono ?_
  rintro e U1 ⟨rfl, hq⟩
  have HB2 := Lib.hid (HB0.out.trans (hq.mono HB0.out.size))
  have RT2 := Lib.hid (row_kept RT0.out hq)
  have RP2 := Lib.hid (row_kept RP0.out hq)
  have KO2 := Lib.hid (KO0.out.below hq)
  have KT2 := Lib.hid (KT0.out.below hq)
  have KI2 := Lib.hid (KI0.out.below hq)
  clear hq HB0 RT0 RP0 KO0 KT0 KI0
  have p0 := cell_of_row _ _ 0 _ _ _ RP2.out
  have p1 := cell_of_row _ _ 1 _ _ _ RP2.out
  have p2 := cell_of_row _ _ 2 _ _ _ RP2.out
  go_wp2_with (refine wpList_load_row rfl 27 (.tmp 2) rfl (w.heap.size) rfl 27 _ (0, 0) _ RT2.out Tryd.underlying27 rfl HIT.out ?_)
  rw [show Value.agg (trC t p).toArray = trV t p from rfl]
  clear p0 p1 p2
  refine (few43_yes t p A n c f u _ h1 h2 h3).mono ?_
  rintro e U3 ⟨rfl, hq⟩
  have HB4 := Lib.hid (HB2.out.trans (hq.mono HB2.out.size))
  have RT4 := Lib.hid (row_kept RT2.out hq)
  have RP4 := Lib.hid (row_kept RP2.out hq)
  have KO4 := Lib.hid (KO2.out.below hq)
  have KT4 := Lib.hid (KT2.out.below hq)
  have KI4 := Lib.hid (KI2.out.below hq)
  clear hq HB2 RT2 RP2 KO2 KT2 KI2
  have HLN : Hid (t.ln.length = p.n) := Lib.hid h.out.ln.len
  have HLS : Hid (ls.length ≤ 100000) := Lib.hid (by have := hin.out.len; omega)
  obtain ⟨q, HQ⟩ : ∃ q, Hid (rootR (nds43 t) = q) := ⟨_, Lib.hid rfl⟩
  rw [HQ.out] at HV1
  have HQO : Hid (NdOk q) := Lib.hid (by rw [← HQ.out]; exact rootR_ok nds43_ok)
  have HRK : Hid (RtOk (rt43 (p.n : Nat) q)) := Lib.hid (rt43_ok (by unfold I64; omega) HQO.out)
  have HRI := Lib.hid (rtC_info HRK.out)
  have HRS : Hid ((Tryd.zeroCells35).size = (rtC (rt43 (p.n : Nat) q)).toArray.size) := Lib.hid (by rw [rt43_size HQO.out]; kernel_rfl)
  go_wp2_with (refine wpList_load_row rfl 27 (.tmp 2) rfl (w.heap.size) rfl 27 _ (0, 0) _ RT4.out Tryd.underlying27 rfl HIT.out ?_)
  rw [show Value.agg (trC t p).toArray = trV t p from rfl]
  refine (rooted_any t p _ KO4 KT4).mono ?_
  rintro e U5 ⟨rfl, hq⟩
  rw [HQ.out, HG.out]
  have HB6 := Lib.hid (HB4.out.trans (hq.mono HB4.out.size))
  have RT6 := Lib.hid (row_kept RT4.out hq)
  have RP6 := Lib.hid (row_kept RP4.out hq)
  have KO6 := Lib.hid (KO4.out.below hq)
  have KT6 := Lib.hid (KT4.out.below hq)
  have KI6 := Lib.hid (KI4.out.below hq)
  clear hq HB4 RT4 RP4 KO4 KT4 KI4
  obtain ⟨V7, HV7⟩ : ∃ W, Hid ((U5.alloc (.cells Tryd.zeroCells35 35)).setRow U5.heap.size (rtC (rt43 (p.n : Nat) q)).toArray = W) := ⟨_, Lib.hid rfl⟩
  have hw := setRow_heap (U5.alloc (.cells Tryd.zeroCells35 35)) U5.heap.size _ (rtC (rt43 (p.n : Nat) q)).toArray _ _ (heap_alloc_new U5 _)
  have hb := below_setRow ((Below.refl _ U5).alloc (Nat.le_refl _) (.cells Tryd.zeroCells35 35)) (Nat.le_refl _) (rtC (rt43 (p.n : Nat) q)).toArray
  rw [HV7.out] at hw hb
  have HB8 := Lib.hid (HB6.out.trans (hb.mono HB6.out.size))
  have RT8 := Lib.hid (row_kept RT6.out hb)
  have RP8 := Lib.hid (row_kept RP6.out hb)
  have KO8 := Lib.hid (KO6.out.below hb)
  have KT8 := Lib.hid (KT6.out.below hb)
  have KI8 := Lib.hid (KI6.out.below hb)
  have RR7 := Lib.hid hw
  clear hw hb HB6 RT6 RP6 KO6 KT6 KI6
  have p0 := cell_of_row _ _ 0 _ _ _ RP8.out
  have p1 := cell_of_row _ _ 1 _ _ _ RP8.out
  have p2 := cell_of_row _ _ 2 _ _ _ RP8.out
  go_wp2_with (first | (refine wpList_store_row rfl 35 (.tmp 5) (.tmp 28) rfl U5.heap.size (rtC (rt43 (p.n : Nat) q)).toArray rfl rfl 35 _ (heap_alloc_new U5 _) HRI.out HRS.out (rtC_one _) ?_; rw [HV7.out]) | (refine wpList_load_row rfl 35 (.tmp 5) rfl (U5.heap.size) rfl 35 _ (0, 0) _ RR7.out Tryd.underlying35 rfl HRI.out ?_))
  refine (verify43 (rt43 (p.n : Nat) q) f u _ _ _ ls _ HRK KI8 KT8 HLS.out).mono ?_
  rintro e U9 ⟨rfl, hq⟩
  rw [show vfS (rt43 (p.n : Nat) q).lin (rt43 (p.n : Nat) q).tree f u ls = _ from HV1.out]
  clear p0 p1 p2
  have HB10 := Lib.hid (HB8.out.trans (hq.mono HB8.out.size))
  have RT10 := Lib.hid (row_kept RT8.out hq)
  have RP10 := Lib.hid (row_kept RP8.out hq)
  have RR10 := Lib.hid (row_kept RR7.out hq)
  have KO10 := Lib.hid (KO8.out.below hq)
  have KT10 := Lib.hid (KT8.out.below hq)
  have KI10 := Lib.hid (KI8.out.below hq)
  clear hq HB8 RT8 RP8 RR7 KO8 KT8 KI8
  rw [HQ.out] at HV2
  have p0 := cell_of_row _ _ 0 _ _ _ RP10.out
  have p1 := cell_of_row _ _ 1 _ _ _ RP10.out
  have p2 := cell_of_row _ _ 2 _ _ _ RP10.out
  go_wp2_with (refine wpList_load_row rfl 27 (.tmp 2) rfl (w.heap.size) rfl 27 _ (0, 0) _ RT10.out Tryd.underlying27 rfl HIT.out ?_)
  rw [show Value.agg (trC t p).toArray = trV t p from rfl]
  refine (show43 t p f u _ KO10 KT10).mono ?_
  rintro e U11 ⟨A1, n1, c1, rfl, hin1, hq⟩
  rw [HS.out, HE.out, if_pos rfl, if_pos rfl]
  clear p0 p1 p2
  rw [HL2.out] at hin1
  have KQ1 := Lib.hid hin1
  clear hin1
  have HB12 := Lib.hid (HB10.out.trans (hq.mono HB10.out.size))
  have RT12 := Lib.hid (row_kept RT10.out hq)
  have RP12 := Lib.hid (row_kept RP10.out hq)
  have RR12 := Lib.hid (row_kept RR10.out hq)
  have KO12 := Lib.hid (KO10.out.below hq)
  have KT12 := Lib.hid (KT10.out.below hq)
  have KI12 := Lib.hid (KI10.out.below hq)
  clear hq HB10 RT10 RP10 RR10 KO10 KT10 KI10
  obtain ⟨V13, HV13⟩ : ∃ V, Hid (U11.alloc (.cells #[.int .i64 f, .int .i64 u, .slice A1 n1 c1] 74) = V) := ⟨_, Lib.hid rfl⟩
  have hw := heap_alloc_new U11 (.cells #[.int .i64 f, .int .i64 u, .slice A1 n1 c1] 74)
  have hb := (Below.refl _ U11).alloc (Nat.le_refl _) (.cells #[.int .i64 f, .int .i64 u, .slice A1 n1 c1] 74)
  rw [HV13.out] at hw hb
  have HB14 := Lib.hid (HB12.out.trans (hb.mono HB12.out.size))
  have RT14 := Lib.hid (row_kept RT12.out hb)
  have RP14 := Lib.hid (row_kept RP12.out hb)
  have RR14 := Lib.hid (row_kept RR12.out hb)
  have KO14 := Lib.hid (KO12.out.below hb)
  have KT14 := Lib.hid (KT12.out.below hb)
  have KI14 := Lib.hid (KI12.out.below hb)
  have KJ14 := Lib.hid (KQ1.out.below hb)
  have RQ13 := Lib.hid hw
  clear hw hb HB12 RT12 RP12 RR12 KO12 KT12 KI12 KQ1
  have q0 := cell_of_row _ _ 0 _ _ _ RQ13.out
  have q1 := cell_of_row _ _ 1 _ _ _ RQ13.out
  have q2 := cell_of_row _ _ 2 _ _ _ RQ13.out
  go_wp2_with (first | (rw [HV13.out]) | (refine wpList_load_row rfl 35 (.tmp 5) rfl (U5.heap.size) rfl 35 _ (0, 0) _ RR14.out Tryd.underlying35 rfl HRI.out ?_))
  refine (verify43 (rt43 (p.n : Nat) q) f u _ _ _ l2 _ HRK KJ14 KT14 HLL.out).mono ?_
  rintro e U15 ⟨rfl, hq⟩
  rw [show vfS (rt43 (p.n : Nat) q).lin (rt43 (p.n : Nat) q).tree f u l2 = _ from HV2.out]
  clear q0 q1 q2
  have HB16 := Lib.hid (HB14.out.trans (hq.mono HB14.out.size))
  have RT16 := Lib.hid (row_kept RT14.out hq)
  have RP16 := Lib.hid (row_kept RP14.out hq)
  have RR16 := Lib.hid (row_kept RR14.out hq)
  have RQ16 := Lib.hid (row_kept RQ13.out hq)
  have KO16 := Lib.hid (KO14.out.below hq)
  have KT16 := Lib.hid (KT14.out.below hq)
  have KI16 := Lib.hid (KI14.out.below hq)
  have KJ16 := Lib.hid (KJ14.out.below hq)
  clear hq HB14 RT14 RP14 RR14 RQ13 KO14 KT14 KI14 KJ14
  have HNL : Hid (n1 ≤ 100000) := Lib.hid (by rw [← KJ16.out.len]; exact HLL.out)
  have HKO := Lib.hid (cl_ok HFU.out.1 0 p.n (by have := HFU.out; omega) ls l2 hin.out.ok KJ16.out.ok)
  obtain ⟨cx, HCX⟩ : ∃ x, Hid ((cl f u 0 p.n ls l2).1 = x) := ⟨_, Lib.hid rfl⟩
  obtain ⟨cy, HCY⟩ : ∃ x, Hid ((cl f u 0 p.n ls l2).2.1 = x) := ⟨_, Lib.hid rfl⟩
  obtain ⟨cn, HCN⟩ : ∃ x, Hid ((cl f u 0 p.n ls l2).2.2.1 = x) := ⟨_, Lib.hid rfl⟩
  rw [HCX.out, HCY.out] at HKO
  have HXS := Lib.hid (size34e HKO.out.1)
  have HYS := Lib.hid (size34e HKO.out.2)
  have HXZ : Hid ((#[.int .u8 0, .int .u8 0, .int .u8 0, .int .u8 0, .int .u8 0, .int .u8 0, .int .u8 0, .int .u8 0, .int .u8 0, .int .u8 0, .int .u8 0, .int .u8 0, .int .u8 0, .int .u8 0, .int .u8 0, .int .u8 0, .int .u8 0, .int .u8 0, .int .u8 0, .int .u8 0, .int .u8 0, .int .u8 0, .int .u8 0, .int .u8 0, .int .u8 0, .int .u8 0, .int .u8 0, .int .u8 0, .int .u8 0, .int .u8 0, .int .u8 0, .int .u8 0, .int .i64 0, .int .i64 0] : Array Value).size = (ndC cx).toArray.size) := Lib.hid (by rw [← zeroN_cells]; simp [ndC_length HKO.out.1, ndC_length zeroN_ok])
  have HYZ : Hid ((#[.int .u8 0, .int .u8 0, .int .u8 0, .int .u8 0, .int .u8 0, .int .u8 0, .int .u8 0, .int .u8 0, .int .u8 0, .int .u8 0, .int .u8 0, .int .u8 0, .int .u8 0, .int .u8 0, .int .u8 0, .int .u8 0, .int .u8 0, .int .u8 0, .int .u8 0, .int .u8 0, .int .u8 0, .int .u8 0, .int .u8 0, .int .u8 0, .int .u8 0, .int .u8 0, .int .u8 0, .int .u8 0, .int .u8 0, .int .u8 0, .int .u8 0, .int .u8 0, .int .i64 0, .int .i64 0] : Array Value).size = (ndC cy).toArray.size) := Lib.hid (by rw [← zeroN_cells]; simp [ndC_length HKO.out.2, ndC_length zeroN_ok])
  have p0 := cell_of_row _ _ 0 _ _ _ RP16.out
  have p1 := cell_of_row _ _ 1 _ _ _ RP16.out
  have p2 := cell_of_row _ _ 2 _ _ _ RP16.out
  have q0 := cell_of_row _ _ 0 _ _ _ RQ16.out
  have q1 := cell_of_row _ _ 1 _ _ _ RQ16.out
  have q2 := cell_of_row _ _ 2 _ _ _ RQ16.out
  have l4 : U15.cell? ⟨U5.heap.size, 4, none⟩ = some (.int .i64 (p.n : Nat)) := by rw [cell_of_row _ _ _ _ _ _ RR16.out]; rfl
  go_wp2_with fail
  refine (climb_any f u 0 p.n 0 f u A A1 n c n1 c1 ls l2 _ KI16 KJ16 KT16 HFU.out.1 (by have := HFU.out; omega) (Nat.le_refl _) (by omega) (by omega) HNL.out).mono ?_
  rintro e U17 ⟨rfl, hq⟩
  rw [List.drop_zero, List.drop_zero, HM.out, HCX.out, HCY.out, HCN.out]
  clear p0 p1 p2
  clear q0 q1 q2
  clear l4
  have HB18 := Lib.hid (HB16.out.trans (hq.mono HB16.out.size))
  have RT18 := Lib.hid (row_kept RT16.out hq)
  have RP18 := Lib.hid (row_kept RP16.out hq)
  have RR18 := Lib.hid (row_kept RR16.out hq)
  have RQ18 := Lib.hid (row_kept RQ16.out hq)
  have KO18 := Lib.hid (KO16.out.below hq)
  have KT18 := Lib.hid (KT16.out.below hq)
  have KI18 := Lib.hid (KI16.out.below hq)
  have KJ18 := Lib.hid (KJ16.out.below hq)
  clear hq HB16 RT16 RP16 RR16 RQ16 KO16 KT16 KI16 KJ16
  have ra0 := (Below.heap_alloc (U17.alloc (.cells #[.int .u8 0, .int .u8 0, .int .u8 0, .int .u8 0, .int .u8 0, .int .u8 0, .int .u8 0, .int .u8 0, .int .u8 0, .int .u8 0, .int .u8 0, .int .u8 0, .int .u8 0, .int .u8 0, .int .u8 0, .int .u8 0, .int .u8 0, .int .u8 0, .int .u8 0, .int .u8 0, .int .u8 0, .int .u8 0, .int .u8 0, .int .u8 0, .int .u8 0, .int .u8 0, .int .u8 0, .int .u8 0, .int .u8 0, .int .u8 0, .int .u8 0, .int .u8 0, .int .i64 0, .int .i64 0] 31)) (.cells #[.int .u8 0, .int .u8 0, .int .u8 0, .int .u8 0, .int .u8 0, .int .u8 0, .int .u8 0, .int .u8 0, .int .u8 0, .int .u8 0, .int .u8 0, .int .u8 0, .int .u8 0, .int .u8 0, .int .u8 0, .int .u8 0, .int .u8 0, .int .u8 0, .int .u8 0, .int .u8 0, .int .u8 0, .int .u8 0, .int .u8 0, .int .u8 0, .int .u8 0, .int .u8 0, .int .u8 0, .int .u8 0, .int .u8 0, .int .u8 0, .int .u8 0, .int .u8 0, .int .i64 0, .int .i64 0] 31) U17.heap.size (by simp)).trans (heap_alloc_new U17 (.cells #[.int .u8 0, .int .u8 0, .int .u8 0, .int .u8 0, .int .u8 0, .int .u8 0, .int .u8 0, .int .u8 0, .int .u8 0, .int .u8 0, .int .u8 0, .int .u8 0, .int .u8 0, .int .u8 0, .int .u8 0, .int .u8 0, .int .u8 0, .int .u8 0, .int .u8 0, .int .u8 0, .int .u8 0, .int .u8 0, .int .u8 0, .int .u8 0, .int .u8 0, .int .u8 0, .int .u8 0, .int .u8 0, .int .u8 0, .int .u8 0, .int .u8 0, .int .u8 0, .int .i64 0, .int .i64 0] 31))
  have rb0 := heap_alloc_new (U17.alloc (.cells #[.int .u8 0, .int .u8 0, .int .u8 0, .int .u8 0, .int .u8 0, .int .u8 0, .int .u8 0, .int .u8 0, .int .u8 0, .int .u8 0, .int .u8 0, .int .u8 0, .int .u8 0, .int .u8 0, .int .u8 0, .int .u8 0, .int .u8 0, .int .u8 0, .int .u8 0, .int .u8 0, .int .u8 0, .int .u8 0, .int .u8 0, .int .u8 0, .int .u8 0, .int .u8 0, .int .u8 0, .int .u8 0, .int .u8 0, .int .u8 0, .int .u8 0, .int .u8 0, .int .i64 0, .int .i64 0] 31)) (.cells #[.int .u8 0, .int .u8 0, .int .u8 0, .int .u8 0, .int .u8 0, .int .u8 0, .int .u8 0, .int .u8 0, .int .u8 0, .int .u8 0, .int .u8 0, .int .u8 0, .int .u8 0, .int .u8 0, .int .u8 0, .int .u8 0, .int .u8 0, .int .u8 0, .int .u8 0, .int .u8 0, .int .u8 0, .int .u8 0, .int .u8 0, .int .u8 0, .int .u8 0, .int .u8 0, .int .u8 0, .int .u8 0, .int .u8 0, .int .u8 0, .int .u8 0, .int .u8 0, .int .i64 0, .int .i64 0] 31)
  rw [World.size_alloc] at rb0
  have hb0 := ((Below.refl _ U17).alloc (Nat.le_refl _) (.cells #[.int .u8 0, .int .u8 0, .int .u8 0, .int .u8 0, .int .u8 0, .int .u8 0, .int .u8 0, .int .u8 0, .int .u8 0, .int .u8 0, .int .u8 0, .int .u8 0, .int .u8 0, .int .u8 0, .int .u8 0, .int .u8 0, .int .u8 0, .int .u8 0, .int .u8 0, .int .u8 0, .int .u8 0, .int .u8 0, .int .u8 0, .int .u8 0, .int .u8 0, .int .u8 0, .int .u8 0, .int .u8 0, .int .u8 0, .int .u8 0, .int .u8 0, .int .u8 0, .int .i64 0, .int .i64 0] 31)).alloc (by simp) (.cells #[.int .u8 0, .int .u8 0, .int .u8 0, .int .u8 0, .int .u8 0, .int .u8 0, .int .u8 0, .int .u8 0, .int .u8 0, .int .u8 0, .int .u8 0, .int .u8 0, .int .u8 0, .int .u8 0, .int .u8 0, .int .u8 0, .int .u8 0, .int .u8 0, .int .u8 0, .int .u8 0, .int .u8 0, .int .u8 0, .int .u8 0, .int .u8 0, .int .u8 0, .int .u8 0, .int .u8 0, .int .u8 0, .int .u8 0, .int .u8 0, .int .u8 0, .int .u8 0, .int .i64 0, .int .i64 0] 31)
  obtain ⟨X19a, HX19a⟩ : ∃ V, Hid (((U17.alloc (.cells #[.int .u8 0, .int .u8 0, .int .u8 0, .int .u8 0, .int .u8 0, .int .u8 0, .int .u8 0, .int .u8 0, .int .u8 0, .int .u8 0, .int .u8 0, .int .u8 0, .int .u8 0, .int .u8 0, .int .u8 0, .int .u8 0, .int .u8 0, .int .u8 0, .int .u8 0, .int .u8 0, .int .u8 0, .int .u8 0, .int .u8 0, .int .u8 0, .int .u8 0, .int .u8 0, .int .u8 0, .int .u8 0, .int .u8 0, .int .u8 0, .int .u8 0, .int .u8 0, .int .i64 0, .int .i64 0] 31)).alloc (.cells #[.int .u8 0, .int .u8 0, .int .u8 0, .int .u8 0, .int .u8 0, .int .u8 0, .int .u8 0, .int .u8 0, .int .u8 0, .int .u8 0, .int .u8 0, .int .u8 0, .int .u8 0, .int .u8 0, .int .u8 0, .int .u8 0, .int .u8 0, .int .u8 0, .int .u8 0, .int .u8 0, .int .u8 0, .int .u8 0, .int .u8 0, .int .u8 0, .int .u8 0, .int .u8 0, .int .u8 0, .int .u8 0, .int .u8 0, .int .u8 0, .int .u8 0, .int .u8 0, .int .i64 0, .int .i64 0] 31)) = V) := ⟨_, Lib.hid rfl⟩
  rw [HX19a.out] at ra0 rb0 hb0
  have ra := Lib.hid ra0
  have rb1 := (setRow_other X19a U17.heap.size (U17.heap.size + 1) (ndC cx).toArray (by omega)).trans rb0
  have ra1 := setRow_heap X19a U17.heap.size _ (ndC cx).toArray _ _ ra0
  have hb1 := below_setRow hb0 (Nat.le_refl _) (ndC cx).toArray
  obtain ⟨X19b, HX19b⟩ : ∃ V, Hid (X19a.setRow U17.heap.size (ndC cx).toArray = V) := ⟨_, Lib.hid rfl⟩
  rw [HX19b.out] at ra1 rb1 hb1
  have rb := Lib.hid rb1
  have ra2 := (setRow_other X19b (U17.heap.size + 1) U17.heap.size (ndC cy).toArray (by omega)).trans ra1
  have rb2 := setRow_heap X19b (U17.heap.size + 1) _ (ndC cy).toArray _ _ rb1
  have hb := below_setRow hb1 (g := (U17.heap.size + 1)) (by omega) (ndC cy).toArray
  obtain ⟨V19, HV19⟩ : ∃ V, Hid (X19b.setRow (U17.heap.size + 1) (ndC cy).toArray = V) := ⟨_, Lib.hid rfl⟩
  rw [HV19.out] at ra2 rb2 hb
  clear ra0 rb0 hb0 ra1 rb1 hb1
  have HB20 := Lib.hid (HB18.out.trans (hb.mono HB18.out.size))
  have RT20 := Lib.hid (row_kept RT18.out hb)
  have RP20 := Lib.hid (row_kept RP18.out hb)
  have RR20 := Lib.hid (row_kept RR18.out hb)
  have RQ20 := Lib.hid (row_kept RQ18.out hb)
  have KO20 := Lib.hid (KO18.out.below hb)
  have KT20 := Lib.hid (KT18.out.below hb)
  have KI20 := Lib.hid (KI18.out.below hb)
  have KJ20 := Lib.hid (KJ18.out.below hb)
  have RCX19 := Lib.hid ra2
  have RCY19 := Lib.hid rb2
  clear ra2 rb2 hb HB18 RT18 RP18 RR18 RQ18 KO18 KT18 KI18 KJ18
  go_wp2_with (first | (rw [HX19a.out]) | (refine wpList_store_row rfl 31 (.tmp 15) (.tmp 85) rfl U17.heap.size (ndC cx).toArray rfl rfl 31 _ ra.out HXS.out HXZ.out (ndC_one _) ?_; rw [HX19b.out]) | (refine wpList_store_row rfl 31 (.tmp 16) (.tmp 86) rfl (U17.heap.size + 1) (ndC cy).toArray rfl rfl 31 _ rb.out HYS.out HYZ.out (ndC_one _) ?_; rw [HV19.out]))
  go_ret
  exact ⟨rfl, HB20.out⟩
theorem walk (w : World) (hT : Tabs w) (t : Tr) (p : TrP) (h : TrOk w t p) (f u : Int) (A : Option Addr) (n c : Nat) (ls : List Nd) (hp : I64 f ∧ I64 u ∧ InN w A n c ls ∧ c ≤ maxLen) :
    Calls Tryd.prog 11 #[trV t p, .agg #[.int .i64 f, .int .i64 u, .slice A n c]] w fun e w' => e = .returned (.bool true) ∧ Below w.heap.size w w' := by
  obtain ⟨_, _, hin, _⟩ := hp
  by_cases hf : ¬ (p.n ≤ 40 ∧ p.n2 ≤ 20) ∨ ¬ n ≤ 40
  case pos => exact big t p f u A n c ls w (Lib.hid h) (Lib.hid hin) (Lib.hid hT) hf
  have h1 : p.n ≤ 40 := by omega
  have h2 : p.n2 ≤ 20 := by omega
  have h3 : n ≤ 40 := by omega
  have hbd := vfS_bd (p.n : Nat) (rootR (nds43 t)) f u ls
  obtain ⟨⟨x, y, z⟩, hv⟩ : ∃ v, vfS (p.n : Nat) (rootR (nds43 t)) f u ls = v := ⟨_, rfl⟩
  rw [hv] at hbd
  dsimp only at hbd
  cases hg : trG t with
  | false =>
    have hx : x = 0 ∧ y = 0 := by
      by_cases hz : z = 0
      · have := hbd.2.2.2.2.1 hz
        have e : rootR (nds43 t) = emptyN := by unfold nds43; rw [hg]; exact rootR_nil.1
        rw [e] at this
        have e1 : emptyN.c = 0 := rfl
        have e2 : emptyN.p = 0 := rfl
        omega
      · exact hbd.2.2.2.2.2 hz
    obtain ⟨rfl, rfl⟩ := hx
    exact no1 t p f u A n c ls z w (Lib.hid h) (Lib.hid hin) (Lib.hid hT) h1 h2 h3 (Lib.hid hg) (Lib.hid hv)
  | true =>
    by_cases hz : z = 0
    case neg =>
      obtain ⟨rfl, rfl⟩ := hbd.2.2.2.2.2 hz
      exact no2 t p f u A n c ls z w (Lib.hid h) (Lib.hid hin) (Lib.hid hT) h1 h2 h3 (Lib.hid hg) (Lib.hid hv) (by simp [hz])
    subst hz
    have hft : ftB f u (p.n : Nat) = true := by
      cases hf : ftB f u (p.n : Nat) with
      | true => rfl
      | false =>
        unfold vfS at hv
        rw [hf] at hv
        cases hv
    have hs : shG t f u = true := by
      unfold shG
      rw [hg, h.ln.len, hft]; rfl
    have hv2 := vfS_shown hs (tree := rootR (nds43 t)) (rootR_sh hs)
    rw [h.ln.len] at hv2
    obtain ⟨x2, hx2⟩ : ∃ x, sumC (seg (ndsT t) f.toNat u.toNat) = x := ⟨_, rfl⟩
    obtain ⟨y2, hy2⟩ : ∃ x, sumP (seg (ndsT t) f.toNat u.toNat) = x := ⟨_, rfl⟩
    rw [hx2, hy2] at hv2
    by_cases e1 : x = x2
    · subst e1
      by_cases e2 : y = y2
      · subst e2
        exact same t p f u A n c ls x y _ w (Lib.hid h) (Lib.hid hin) (Lib.hid hT) h1 h2 h3 (Lib.hid hs) (Lib.hid rfl) (Lib.hid hv) (Lib.hid hv2)
      · exact met2 t p f u A n c ls x y y2 _ w (Lib.hid h) (Lib.hid hin) (Lib.hid hT) h1 h2 h3 (Lib.hid hs) (Lib.hid rfl) (Lib.hid hv) (Lib.hid hv2) (by simp [e2])
    · exact met1 t p f u A n c ls x y x2 y2 _ w (Lib.hid h) (Lib.hid hin) (Lib.hid hT) h1 h2 h3 (Lib.hid hs) (Lib.hid rfl) (Lib.hid hv) (Lib.hid hv2) (by simp [e1])
set_option maxRecDepth 100000 in
theorem lifted (os : Os) (started : os.Started) (H : Type) (enc : TypeId × Value → H) :
    ReturnsInHanded {} Tryd.checked os 11 .any (fun w args => (Rows.sumsBoundSpec.pre enc Tryd.prog Tryd.f11 [] false w args ∧ laidMetH Tryd.prog laidL w) ∧ sizedMet enc Tryd.prog Tryd.f11 (OpenSpec.ofChange Rows.sumsBoundSpec) false w args)
      (Rows.sumsBoundSpec.post enc Tryd.prog Tryd.f11 false true false false) := by
  refine returnsInHanded_of_change_and (C := Tryd.checked) (X := fun w _ => laidMetH Tryd.prog laidL w) (fun _ _ _ hh h => h.of_heap hh) own started (by kernel_rfl) Tryd.func11
    (ChangeSpec.witness_shaped (enc := enc) (C := Tryd.checked) (os := os) (X := fun w _ => laidMetH Tryd.prog laidL w) false (World.doorLaid Tryd.prog 400 os) #[.agg (#[.int .i64 0, .int .i64 0, .int .i64 0, .int .i64 0, .slice none 0 0, .slice none 0 0] ++ Array.replicate 32 (.int .u8 0)), .agg #[.int .i64 0, .int .i64 0, .slice none 0 0]] 8 rfl (World.shaped_of_RefB (by kernel_rfl) (by kernel_rfl)) (by kernel_rfl) (by kernel_rfl) (by kernel_rfl) (door_met os _)) ?_
  intro W base args ds gs before hval0 hW _ hsz0 hL _
  have hval : ∀ (j : Nat) t v, Tryd.f11.params[j]? = some t → args[j]? = some v → Value.okWide Tryd.prog W .any base t v := hval0
  have hW' := hW
  obtain ⟨p, q, hA0, hV, rfl, hfz, hnd⟩ := hW
  have hA : DataW.TrodAll enc Tryd.prog W 0 (fun _ => true) true Tryd.f11.params.toList args.toList ds p := hA0
  have hsz : (DataW.weightsEach Tryd.prog (Tryd.f11.params.toList ++ Rows.sumsBoundSpec.plain.varTypes Tryd.prog) (ds ++ gs)).all (· ≤ reachBytes) = true := hsz0
  rw [Tryd.params11] at hA hval hsz
  obtain ⟨v0, vs0, d0, ds0, p0, q0, hargs, rfl, rfl, h0, r0⟩ := trodAll_cons hA
  obtain ⟨v1, vs1, d1, ds1, p1, q1, rfl, rfl, rfl, h1, r1⟩ := trodAll_cons r0
  obtain ⟨rfl, rfl, rfl⟩ := trodAll_nil r1
  obtain rfl : args = #[v0, v1] := by cases args; simp_all
  obtain ⟨rfl, rfl⟩ := trodVars_none hV
  obtain ⟨l0, y0, rfl, e0⟩ := arg_tr (hval 0 27 v0 rfl rfl) h0
  obtain ⟨i1, j1, A1, n1, c1, l1, rfl, e1⟩ := arg_pt (hval 1 74 v1 rfl rfl) h1
  refine (walk W (tabs_of hL) l0 y0 e0 i1 j1 A1 n1 c1 l1 e1).mono fun e W' ⟨he, hg⟩ => ?_
  subst he
  exact ⟨_, rfl, law_post (by kernel_rfl) rfl rfl (fun _ => ⟨rfl, rfl, rfl⟩) hW' hg⟩
theorem over : Rows.sumsBoundRow.holds Tryd.pinned (OpenSpec.ofChange Rows.sumsBoundSpec) :=
  OpenClaim.holds_of_wide 11 Tryd.f11 rfl rfl rfl rfl rfl rfl rfl ⟨rfl, rfl, rfl, rfl, rfl⟩ rfl rfl rfl rfl rfl (by kernel_rfl) Tryd.func11 (by kernel_rfl)
    (of_decide_eq_true (by kernel_rfl)) (by unfold Func.isWrapper; first | (rw [if_pos (by decide +kernel)]; kernel_rfl) | (rw [if_neg (by decide +kernel)]; exact ⟨rfl, rfl⟩))
    (fun os started H enc _ => lifted os started H enc)
/-- THE STATEMENT: the card -/
theorem proved : Rows.SumsBoundCardSaid :=
  Claim7.holds_tied_plain_at .later [] [.data, .data] true Rows.sumsBoundCard.stood.harness true
    over (fun _ h => by cases h) (by kernel_rfl) (fun _ h => by cases h) sumsBound_row_tie rfl ⟨rfl, rfl⟩ (by kernel_rfl) rfl
    (fun f fn hf hfn => by
      obtain rfl : f = 11 := Option.some.inj ((show Tryd.prog.funcNamed "sizar/sizarlaw43.SumsBound" = some 11 by kernel_rfl).symm.trans hf) |>.symm
      obtain rfl : fn = Tryd.f11 := (Option.some.inj (Tryd.func11.symm.trans hfn)).symm
      exact ⟨by kernel_rfl, fun j t ht => stands_of (show Tryd.f11.params.all (fun t => !Tryd.prog.wantsStandIn t) = true by kernel_rfl) ht⟩)
    (by kernel_rfl)
#print axioms proved
end Go.Proofs.YtmfmgeapecapiaaDoor.sumsBound
