/- SumsShown: for every transcript and interval, valid or not, the law returns true: what is shown is accepted and leads to the sums and the average of the lines. No conditions. -/
import Derived.Test.YtmfmgeapecapiaaDoorSM17
import Derived.Test.YtmfmgeapecapiaaDoorSM2
import Derived.Test.YtmfmgeapecapiaaDoorSM18
import Derived.Test.YtmfmgeapecapiaaDoorSM6
import Derived.Test.YtmfmgeapecapiaaDoorCards
import Derived.Test.YtmfmgeapecapiaaDoorTie
import Derived.Lib.SmallJoins
namespace Go.Proofs.YtmfmgeapecapiaaDoor.sumsShown
open Go.ChangeShapes Go.WideShapes Go.ChangeAt Go.RowKit SzSha SzTree
set_option linter.unusedVariables false
set_option maxRecDepth 100000
set_option maxHeartbeats 8000000 in
theorem big (t : Tr) (p : TrP) (f g : Int) (w : World) (h : Hid (TrOk w t p)) (hT : Hid (Tabs w)) (hf : ¬ (p.n ≤ 40 ∧ p.n2 ≤ 20)) :
    Calls Tryd.prog 9 #[trV t p, .int .i64 f, .int .i64 g] w fun e w' => e = .returned (.bool true) ∧ Below w.heap.size w w' := by
  have HIT : Hid ((Tryd.prog.info? 27).map (·.size) = some (trC t p).toArray.size) := Lib.hid (trV_info t p h.out.len)
  have hb0 := (Below.refl _ w).alloc (Nat.le_refl _) (.cells (trC t p).toArray 27)
  have RT0 := Lib.hid (heap_alloc_new w (.cells (trC t p).toArray 27))
  have KO0 := Lib.hid (h.out.below hb0)
  have KT0 := Lib.hid (hT.out.below hb0)
  have HB0 := Lib.hid hb0
  clear hb0
  rw [show trV t p = .agg (trC t p).toArray from rfl]
  go_enter Tryd.func9, Tryd.ntmps9
  go_wp2_with fail
  refine (sane43 _ KT0).mono ?_
  rintro e U1 ⟨rfl, hq⟩
  have HB2 := Lib.hid (HB0.out.trans (hq.mono HB0.out.size))
  have RT2 := Lib.hid (row_kept RT0.out hq)
  have KO2 := Lib.hid (KO0.out.below hq)
  have KT2 := Lib.hid (KT0.out.below hq)
  clear hq HB0 RT0 KO0 KT0
  go_wp2_with (refine wpList_load_row rfl 27 (.tmp 3) rfl (w.heap.size) rfl 27 _ (0, 0) _ RT2.out Tryd.underlying27 rfl HIT.out ?_)
  rw [show Value.agg (trC t p).toArray = trV t p from rfl]
  refine (few43_no t p none 0 0 0 0 _ (.inl hf)).mono ?_
  rintro e U3 ⟨rfl, hq⟩
  have HB4 := Lib.hid (HB2.out.trans (hq.mono HB2.out.size))
  have RT4 := Lib.hid (row_kept RT2.out hq)
  have KO4 := Lib.hid (KO2.out.below hq)
  have KT4 := Lib.hid (KT2.out.below hq)
  clear hq HB2 RT2 KO2 KT2
  go_wp2_with fail
  go_ret
  exact ⟨rfl, HB4.out⟩
set_option maxHeartbeats 8000000 in
theorem no (t : Tr) (p : TrP) (f g : Int) (w : World) (h : Hid (TrOk w t p)) (hT : Hid (Tabs w)) (h1 : p.n ≤ 40) (h2 : p.n2 ≤ 20) (z : Int) (HZ : (z != 0) = true) (HS : Hid (shG t f g = false)) (HE : Hid (shE t f g = z)) :
    Calls Tryd.prog 9 #[trV t p, .int .i64 f, .int .i64 g] w fun e w' => e = .returned (.bool true) ∧ Below w.heap.size w w' := by
  have HIT : Hid ((Tryd.prog.info? 27).map (·.size) = some (trC t p).toArray.size) := Lib.hid (trV_info t p h.out.len)
  have hb0 := (Below.refl _ w).alloc (Nat.le_refl _) (.cells (trC t p).toArray 27)
  have RT0 := Lib.hid (heap_alloc_new w (.cells (trC t p).toArray 27))
  have KO0 := Lib.hid (h.out.below hb0)
  have KT0 := Lib.hid (hT.out.below hb0)
  have HB0 := Lib.hid hb0
  clear hb0
  rw [show trV t p = .agg (trC t p).toArray from rfl]
  go_enter Tryd.func9, Tryd.ntmps9
  go_wp2_with fail
  refine (sane43 _ KT0).mono ?_
  rintro e U1 ⟨rfl, hq⟩
  have HB2 := Lib.hid (HB0.out.trans (hq.mono HB0.out.size))
  have RT2 := Lib.hid (row_kept RT0.out hq)
  have KO2 := Lib.hid (KO0.out.below hq)
  have KT2 := Lib.hid (KT0.out.below hq)
  clear hq HB0 RT0 KO0 KT0
  go_wp2_with (refine wpList_load_row rfl 27 (.tmp 3) rfl (w.heap.size) rfl 27 _ (0, 0) _ RT2.out Tryd.underlying27 rfl HIT.out ?_)
  rw [show Value.agg (trC t p).toArray = trV t p from rfl]
  refine (few43_yes t p none 0 0 0 0 _ h1 h2 (by omega)).mono ?_
  rintro e U3 ⟨rfl, hq⟩
  have HB4 := Lib.hid (HB2.out.trans (hq.mono HB2.out.size))
  have RT4 := Lib.hid (row_kept RT2.out hq)
  have KO4 := Lib.hid (KO2.out.below hq)
  have KT4 := Lib.hid (KT2.out.below hq)
  clear hq HB2 RT2 KO2 KT2
  go_wp2_with (refine wpList_load_row rfl 27 (.tmp 3) rfl (w.heap.size) rfl 27 _ (0, 0) _ RT4.out Tryd.underlying27 rfl HIT.out ?_)
  rw [show Value.agg (trC t p).toArray = trV t p from rfl]
  refine (show43 t p f g _ KO4 KT4).mono ?_
  rintro e U5 ⟨A1, n1, c1, rfl, hin, hq⟩
  rw [HS.out, HE.out, if_neg Bool.false_ne_true, if_neg Bool.false_ne_true]
  have hn1 : n1 = 0 := by rw [← hin.len]; unfold shN; rw [HS.out]; rfl
  clear hin
  have HB6 := Lib.hid (HB4.out.trans (hq.mono HB4.out.size))
  have RT6 := Lib.hid (row_kept RT4.out hq)
  have KO6 := Lib.hid (KO4.out.below hq)
  have KT6 := Lib.hid (KT4.out.below hq)
  clear hq HB4 RT4 KO4 KT4
  subst hn1
  obtain ⟨V7, HV7⟩ : ∃ V, Hid (U5.alloc (.cells #[.int .i64 0, .int .i64 0, .slice A1 0 c1] 74) = V) := ⟨_, Lib.hid rfl⟩
  have hw := heap_alloc_new U5 (.cells #[.int .i64 0, .int .i64 0, .slice A1 0 c1] 74)
  have hb := (Below.refl _ U5).alloc (Nat.le_refl _) (.cells #[.int .i64 0, .int .i64 0, .slice A1 0 c1] 74)
  rw [HV7.out] at hw hb
  have HB8 := Lib.hid (HB6.out.trans (hb.mono HB6.out.size))
  have RT8 := Lib.hid (row_kept RT6.out hb)
  have KO8 := Lib.hid (KO6.out.below hb)
  have KT8 := Lib.hid (KT6.out.below hb)
  have RP7 := Lib.hid hw
  clear hw hb HB6 RT6 KO6 KT6
  have p0 := cell_of_row _ _ 0 _ _ _ RP7.out
  have p1 := cell_of_row _ _ 1 _ _ _ RP7.out
  have p2 := cell_of_row _ _ 2 _ _ _ RP7.out
  go_wp2_with (rw [HV7.out])
  go_ret
  exact ⟨rfl, HB8.out⟩
set_option maxHeartbeats 8000000 in
theorem good (t : Tr) (p : TrP) (f g : Nat) (w : World) (h : Hid (TrOk w t p)) (hT : Hid (Tabs w)) (h1 : p.n ≤ 40) (h2 : p.n2 ≤ 20) (HS : Hid (shG t (f : Int) (g : Int) = true)) :
    Calls Tryd.prog 9 #[trV t p, .int .i64 (f : Nat), .int .i64 (g : Nat)] w fun e w' => e = .returned (.bool true) ∧ Below w.heap.size w w' := by
  have HE : Hid (shE t f g = 0) := Lib.hid (shE_yes HS.out)
  have hsg := shG_iff HS.out
  have HG : Hid (trG t = true) := Lib.hid hsg.1
  have hfg : f < g := by omega
  have hgn : g ≤ p.n := by have := h.out.ln.len; omega
  obtain ⟨L, HL⟩ : ∃ l, Hid (attL t f g = l) := ⟨_, Lib.hid rfl⟩
  have HLN : Hid (L.length = g - f) := Lib.hid (by rw [← HL.out]; exact attL_length t f g (by rw [h.out.ln.len]; exact hgn))
  have HLK : Hid (∀ x ∈ L, AtOk x) := Lib.hid (by rw [← HL.out]; exact att_ok hsg.1 f g)
  have hbd := sA_bd L HLK.out
  obtain ⟨c, HCC⟩ : ∃ s, Hid (scr L = s) := ⟨_, Lib.hid rfl⟩
  obtain ⟨d, HDD⟩ : ∃ s, Hid (spt L = s) := ⟨_, Lib.hid rfl⟩
  obtain ⟨q, HQ⟩ : ∃ q, Hid (rootR (nds43 t) = q) := ⟨_, Lib.hid rfl⟩
  have HQO : Hid (NdOk q) := Lib.hid (by rw [← HQ.out]; exact rootR_ok nds43_ok)
  obtain ⟨ls, HLS⟩ : ∃ l, Hid (shN t (f : Int) (g : Int) = l) := ⟨_, Lib.hid rfl⟩
  have HLL : Hid (ls.length ≤ 100000) := Lib.hid (by rw [← HLS.out]; exact shN_len t _ _)
  have HVF : Hid (vfS (p.n : Nat) q f g ls = (c, d, 0)) := Lib.hid (by
    have e := vfS_shown HS.out (tree := rootR (nds43 t)) (rootR_sh HS.out)
    have ea := seg_att hsg.1 f g
    rw [Int.toNat_natCast, Int.toNat_natCast, ea.1, ea.2, HL.out, HCC.out, HDD.out, h.out.ln.len, HQ.out, HLS.out] at e
    exact e)
  rw [HLN.out, HCC.out, HDD.out] at hbd
  have HMZ : Hid ((mnR (c, d, 0)).2.2 = 0) := Lib.hid (mnR_ok hbd.1 (by omega) hbd.2.2.1 (by omega))
  obtain ⟨mr, HMR⟩ : ∃ m, Hid (mnR (c, d, 0) = m) := ⟨_, Lib.hid rfl⟩
  obtain ⟨m1, m2, m3⟩ := mr
  rw [HMR.out] at HMZ
  obtain rfl : m3 = 0 := HMZ.out
  have HRK : Hid (RtOk (rt43 (p.n : Nat) q)) := Lib.hid (rt43_ok (by unfold I64; omega) HQO.out)
  have HRI := Lib.hid (rtC_info HRK.out)
  have HRS : Hid ((Tryd.zeroCells35).size = (rtC (rt43 (p.n : Nat) q)).toArray.size) := Lib.hid (by rw [rt43_size HQO.out]; kernel_rfl)
  have d0 : decide ((f : Int) < 0) = false := decide_eq_false (by omega)
  have d1 : decide ((g : Int) ≤ (f : Int)) = false := decide_eq_false (by omega)
  have d1' : decide (g ≤ f) = false := decide_eq_false (by omega)
  have d2 : decide ((p.n : Int) < (g : Int)) = false := decide_eq_false (by omega)
  have d2' : decide (p.n < g) = false := decide_eq_false (by omega)
  have HGL : Hid (g - f ≤ 100000) := Lib.hid (by omega)
  have HPN : Hid (p.n ≤ 4096) := Lib.hid (by omega)
  clear hsg hbd HMZ
  have HIT : Hid ((Tryd.prog.info? 27).map (·.size) = some (trC t p).toArray.size) := Lib.hid (trV_info t p h.out.len)
  have hb0 := (Below.refl _ w).alloc (Nat.le_refl _) (.cells (trC t p).toArray 27)
  have RT0 := Lib.hid (heap_alloc_new w (.cells (trC t p).toArray 27))
  have KO0 := Lib.hid (h.out.below hb0)
  have KT0 := Lib.hid (hT.out.below hb0)
  have HB0 := Lib.hid hb0
  clear hb0
  rw [show trV t p = .agg (trC t p).toArray from rfl]
  go_enter Tryd.func9, Tryd.ntmps9
  go_wp2_with fail
  refine (sane43 _ KT0).mono ?_
  rintro e U1 ⟨rfl, hq⟩
  have HB2 := Lib.hid (HB0.out.trans (hq.mono HB0.out.size))
  have RT2 := Lib.hid (row_kept RT0.out hq)
  have KO2 := Lib.hid (KO0.out.below hq)
  have KT2 := Lib.hid (KT0.out.below hq)
  clear hq HB0 RT0 KO0 KT0
  go_wp2_with (refine wpList_load_row rfl 27 (.tmp 3) rfl (w.heap.size) rfl 27 _ (0, 0) _ RT2.out Tryd.underlying27 rfl HIT.out ?_)
  rw [show Value.agg (trC t p).toArray = trV t p from rfl]
  refine (few43_yes t p none 0 0 0 0 _ h1 h2 (by omega)).mono ?_
  rintro e U3 ⟨rfl, hq⟩
  have HB4 := Lib.hid (HB2.out.trans (hq.mono HB2.out.size))
  have RT4 := Lib.hid (row_kept RT2.out hq)
  have KO4 := Lib.hid (KO2.out.below hq)
  have KT4 := Lib.hid (KT2.out.below hq)
  clear hq HB2 RT2 KO2 KT2
  go_wp2_with (refine wpList_load_row rfl 27 (.tmp 3) rfl (w.heap.size) rfl 27 _ (0, 0) _ RT4.out Tryd.underlying27 rfl HIT.out ?_)
  rw [show Value.agg (trC t p).toArray = trV t p from rfl]
  refine (show43 t p f g _ KO4 KT4).mono ?_
  rintro e U5 ⟨A1, n1, c1, rfl, hin, hq⟩
  rw [HS.out, HE.out, if_pos rfl, if_pos rfl]
  rw [HLS.out] at hin
  have KP1 := Lib.hid hin
  clear hin
  have HB6 := Lib.hid (HB4.out.trans (hq.mono HB4.out.size))
  have RT6 := Lib.hid (row_kept RT4.out hq)
  have KO6 := Lib.hid (KO4.out.below hq)
  have KT6 := Lib.hid (KT4.out.below hq)
  clear hq HB4 RT4 KO4 KT4
  obtain ⟨V7, HV7⟩ : ∃ V, Hid (U5.alloc (.cells #[.int .i64 (f : Nat), .int .i64 (g : Nat), .slice A1 n1 c1] 74) = V) := ⟨_, Lib.hid rfl⟩
  have hw := heap_alloc_new U5 (.cells #[.int .i64 (f : Nat), .int .i64 (g : Nat), .slice A1 n1 c1] 74)
  have hb := (Below.refl _ U5).alloc (Nat.le_refl _) (.cells #[.int .i64 (f : Nat), .int .i64 (g : Nat), .slice A1 n1 c1] 74)
  rw [HV7.out] at hw hb
  have HB8 := Lib.hid (HB6.out.trans (hb.mono HB6.out.size))
  have RT8 := Lib.hid (row_kept RT6.out hb)
  have KO8 := Lib.hid (KO6.out.below hb)
  have KT8 := Lib.hid (KT6.out.below hb)
  have KP8 := Lib.hid (KP1.out.below hb)
  have RP7 := Lib.hid hw
  clear hw hb HB6 RT6 KO6 KT6 KP1
  have kl : V7.cell? ⟨w.heap.size, 4, none⟩ = some (.slice p.A p.n p.c) := by rw [cell_of_row _ _ _ _ _ _ RT8.out]; rfl
  go_wp2_with (first | (rw [HV7.out]) | (refine wpList_load_row rfl 27 (.tmp 3) rfl (w.heap.size) rfl 27 _ (0, 0) _ RT8.out Tryd.underlying27 rfl HIT.out ?_))
  clear kl
  rw [show Value.agg (trC t p).toArray = trV t p from rfl]
  refine (rooted_any t p _ KO8 KT8).mono ?_
  rintro e U9 ⟨rfl, hq⟩
  rw [HQ.out, HG.out]
  have HB10 := Lib.hid (HB8.out.trans (hq.mono HB8.out.size))
  have RT10 := Lib.hid (row_kept RT8.out hq)
  have RP10 := Lib.hid (row_kept RP7.out hq)
  have KO10 := Lib.hid (KO8.out.below hq)
  have KT10 := Lib.hid (KT8.out.below hq)
  have KP10 := Lib.hid (KP8.out.below hq)
  clear hq HB8 RT8 RP7 KO8 KT8 KP8
  obtain ⟨V11, HV11⟩ : ∃ W, Hid ((U9.alloc (.cells Tryd.zeroCells35 35)).setRow U9.heap.size (rtC (rt43 (p.n : Nat) q)).toArray = W) := ⟨_, Lib.hid rfl⟩
  have hw := setRow_heap (U9.alloc (.cells Tryd.zeroCells35 35)) U9.heap.size _ (rtC (rt43 (p.n : Nat) q)).toArray _ _ (heap_alloc_new U9 _)
  have hb := below_setRow ((Below.refl _ U9).alloc (Nat.le_refl _) (.cells Tryd.zeroCells35 35)) (Nat.le_refl _) (rtC (rt43 (p.n : Nat) q)).toArray
  rw [HV11.out] at hw hb
  have HB12 := Lib.hid (HB10.out.trans (hb.mono HB10.out.size))
  have RT12 := Lib.hid (row_kept RT10.out hb)
  have RP12 := Lib.hid (row_kept RP10.out hb)
  have KO12 := Lib.hid (KO10.out.below hb)
  have KT12 := Lib.hid (KT10.out.below hb)
  have KP12 := Lib.hid (KP10.out.below hb)
  have RR11 := Lib.hid hw
  clear hw hb HB10 RT10 RP10 KO10 KT10 KP10
  have p0 := cell_of_row _ _ 0 _ _ _ RP12.out
  have p1 := cell_of_row _ _ 1 _ _ _ RP12.out
  have p2 := cell_of_row _ _ 2 _ _ _ RP12.out
  go_wp2_with (first | (refine wpList_store_row rfl 35 (.tmp 9) (.tmp 58) rfl U9.heap.size (rtC (rt43 (p.n : Nat) q)).toArray rfl rfl 35 _ (heap_alloc_new U9 _) HRI.out HRS.out (rtC_one _) ?_; rw [HV11.out]) | (refine wpList_load_row rfl 35 (.tmp 9) rfl (U9.heap.size) rfl 35 _ (0, 0) _ RR11.out Tryd.underlying35 rfl HRI.out ?_))
  refine (verify43 (rt43 (p.n : Nat) q) f g _ _ _ ls _ HRK KP12 KT12 HLL.out).mono ?_
  rintro e U13 ⟨rfl, hq⟩
  rw [show vfS (rt43 (p.n : Nat) q).lin (rt43 (p.n : Nat) q).tree f g ls = _ from HVF.out]
  clear p0 p1 p2
  have HB14 := Lib.hid (HB12.out.trans (hq.mono HB12.out.size))
  have RT14 := Lib.hid (row_kept RT12.out hq)
  have RP14 := Lib.hid (row_kept RP12.out hq)
  have RR14 := Lib.hid (row_kept RR11.out hq)
  have KO14 := Lib.hid (KO12.out.below hq)
  have KT14 := Lib.hid (KT12.out.below hq)
  have KP14 := Lib.hid (KP12.out.below hq)
  clear hq HB12 RT12 RP12 RR11 KO12 KT12 KP12
  have p0 := cell_of_row _ _ 0 _ _ _ RP14.out
  have p1 := cell_of_row _ _ 1 _ _ _ RP14.out
  have p2 := cell_of_row _ _ 2 _ _ _ RP14.out
  go_wp2_with (refine wpList_load_row rfl 35 (.tmp 9) rfl (U9.heap.size) rfl 35 _ (0, 0) _ RR14.out Tryd.underlying35 rfl HRI.out ?_)
  refine (mean43 (rt43 (p.n : Nat) q) f g _ _ _ ls _ HRK KP14 KT14 HLL.out).mono ?_
  rintro e U15 ⟨rfl, hq⟩
  rw [show vfS (rt43 (p.n : Nat) q).lin (rt43 (p.n : Nat) q).tree f g ls = _ from HVF.out, HMR.out]
  clear p0 p1 p2
  have HB16 := Lib.hid (HB14.out.trans (hq.mono HB14.out.size))
  have RT16 := Lib.hid (row_kept RT14.out hq)
  have RP16 := Lib.hid (row_kept RP14.out hq)
  have RR16 := Lib.hid (row_kept RR14.out hq)
  have KO16 := Lib.hid (KO14.out.below hq)
  have KT16 := Lib.hid (KT14.out.below hq)
  have KP16 := Lib.hid (KP14.out.below hq)
  clear hq HB14 RT14 RP14 RR14 KO14 KT14 KP14
  obtain ⟨V17, HV17⟩ : ∃ V, Hid (U15.alloc (.cells #[.int .i64 m1, .int .i64 m2] 83) = V) := ⟨_, Lib.hid rfl⟩
  have hw := heap_alloc_new U15 (.cells #[.int .i64 m1, .int .i64 m2] 83)
  have hb := (Below.refl _ U15).alloc (Nat.le_refl _) (.cells #[.int .i64 m1, .int .i64 m2] 83)
  rw [HV17.out] at hw hb
  have HB18 := Lib.hid (HB16.out.trans (hb.mono HB16.out.size))
  have RT18 := Lib.hid (row_kept RT16.out hb)
  have RP18 := Lib.hid (row_kept RP16.out hb)
  have RR18 := Lib.hid (row_kept RR16.out hb)
  have KO18 := Lib.hid (KO16.out.below hb)
  have KT18 := Lib.hid (KT16.out.below hb)
  have KP18 := Lib.hid (KP16.out.below hb)
  have RM17 := Lib.hid hw
  clear hw hb HB16 RT16 RP16 RR16 KO16 KT16 KP16
  go_wp2_with (first | (rw [HV17.out]) | (refine wpList_load_row rfl 27 (.tmp 3) rfl (w.heap.size) rfl 27 _ (0, 0) _ RT18.out Tryd.underlying27 rfl HIT.out ?_))
  rw [show Value.agg (trC t p).toArray = trV t p from rfl]
  refine (attempts_any t p f g _ KO18 hfg hgn HPN.out).mono ?_
  rintro e U19 ⟨A2, n2, c2, rfl, hin, hq⟩
  rw [HL.out] at hin
  obtain ⟨ga, oa, rfl, _, _⟩ := hin.rd (by rw [HLN.out]; omega)
  have hn2 : n2 ≤ 100000 := by rw [← hin.len, HLN.out]; exact HGL.out
  have KA1 := Lib.hid hin
  clear hin
  have HB20 := Lib.hid (HB18.out.trans (hq.mono HB18.out.size))
  have RT20 := Lib.hid (row_kept RT18.out hq)
  have RP20 := Lib.hid (row_kept RP18.out hq)
  have RR20 := Lib.hid (row_kept RR18.out hq)
  have RM20 := Lib.hid (row_kept RM17.out hq)
  have KO20 := Lib.hid (KO18.out.below hq)
  have KT20 := Lib.hid (KT18.out.below hq)
  have KP20 := Lib.hid (KP18.out.below hq)
  clear hq HB18 RT18 RP18 RR18 RM17 KO18 KT18 KP18
  have HN2 := Lib.hid hn2
  clear hn2
  go_wp2_with fail
  refine (asums L ga oa n2 c2 _ HN2.out KA1 (by rw [HLN.out]; omega) HLK).mono ?_
  rintro e U21 ⟨rfl, hq⟩
  rw [HCC.out, HDD.out]
  have HB22 := Lib.hid (HB20.out.trans (hq.mono HB20.out.size))
  have RT22 := Lib.hid (row_kept RT20.out hq)
  have RP22 := Lib.hid (row_kept RP20.out hq)
  have RR22 := Lib.hid (row_kept RR20.out hq)
  have RM22 := Lib.hid (row_kept RM20.out hq)
  have KO22 := Lib.hid (KO20.out.below hq)
  have KT22 := Lib.hid (KT20.out.below hq)
  have KP22 := Lib.hid (KP20.out.below hq)
  have KA22 := Lib.hid (KA1.out.below hq)
  clear hq HB20 RT20 RP20 RR20 RM20 KO20 KT20 KP20 KA1
  go_wp2_with fail
  refine (amean L ga oa n2 c2 _ HN2.out KA22 (by rw [HLN.out]; omega) HLK).mono ?_
  rintro e U23 ⟨rfl, hq⟩
  rw [HCC.out, HDD.out, HMR.out]
  have HB24 := Lib.hid (HB22.out.trans (hq.mono HB22.out.size))
  have RT24 := Lib.hid (row_kept RT22.out hq)
  have RP24 := Lib.hid (row_kept RP22.out hq)
  have RR24 := Lib.hid (row_kept RR22.out hq)
  have RM24 := Lib.hid (row_kept RM22.out hq)
  have KO24 := Lib.hid (KO22.out.below hq)
  have KT24 := Lib.hid (KT22.out.below hq)
  have KP24 := Lib.hid (KP22.out.below hq)
  have KA24 := Lib.hid (KA22.out.below hq)
  clear hq HB22 RT22 RP22 RR22 RM22 KO22 KT22 KP22 KA22
  obtain ⟨V25, HV25⟩ : ∃ V, Hid (U23.alloc (.cells #[.int .i64 m1, .int .i64 m2] 83) = V) := ⟨_, Lib.hid rfl⟩
  have hw := heap_alloc_new U23 (.cells #[.int .i64 m1, .int .i64 m2] 83)
  have hb := (Below.refl _ U23).alloc (Nat.le_refl _) (.cells #[.int .i64 m1, .int .i64 m2] 83)
  rw [HV25.out] at hw hb
  have HB26 := Lib.hid (HB24.out.trans (hb.mono HB24.out.size))
  have RT26 := Lib.hid (row_kept RT24.out hb)
  have RP26 := Lib.hid (row_kept RP24.out hb)
  have RR26 := Lib.hid (row_kept RR24.out hb)
  have RM26 := Lib.hid (row_kept RM24.out hb)
  have KO26 := Lib.hid (KO24.out.below hb)
  have KT26 := Lib.hid (KT24.out.below hb)
  have KP26 := Lib.hid (KP24.out.below hb)
  have KA26 := Lib.hid (KA24.out.below hb)
  have RN25 := Lib.hid hw
  clear hw hb HB24 RT24 RP24 RR24 RM24 KO24 KT24 KP24 KA24
  have p0 := cell_of_row _ _ 0 _ _ _ RP26.out
  have p1 := cell_of_row _ _ 1 _ _ _ RP26.out
  have p2 := cell_of_row _ _ 2 _ _ _ RP26.out
  have mm0 := cell_of_row _ _ 0 _ _ _ RM26.out
  have mm1 := cell_of_row _ _ 1 _ _ _ RM26.out
  have nn0 := cell_of_row _ _ 0 _ _ _ RN25.out
  have nn1 := cell_of_row _ _ 1 _ _ _ RN25.out
  have hra := raEq_refl ⟨m1, m2⟩
  go_wp2_with (first | (rw [HV25.out]) | (refine wpList_unguard rfl ?_; refine wpList_eql_ra rfl (.tmp 116) (.tmp 117) _ rfl ⟨m1, m2⟩ ⟨m1, m2⟩ rfl rfl ?_; rw [raEq_refl]))
  go_ret
  exact ⟨rfl, HB26.out⟩
theorem walk (w : World) (hT : Tabs w) (t : Tr) (p : TrP) (h : TrOk w t p) (f : Int) (hf0 : -9223372036854775808 ≤ f) (hf1 : f ≤ 9223372036854775807) (g : Int) (hg0 : -9223372036854775808 ≤ g) (hg1 : g ≤ 9223372036854775807) :
    Calls Tryd.prog 9 #[trV t p, .int .i64 f, .int .i64 g] w fun e w' => e = .returned (.bool true) ∧ Below w.heap.size w w' := by
  by_cases hf : p.n ≤ 40 ∧ p.n2 ≤ 20
  case neg => exact big t p f g w (Lib.hid h) (Lib.hid hT) hf
  cases hs : shG t f g with
  | false =>
    refine no t p f g w (Lib.hid h) (Lib.hid hT) hf.1 hf.2 _ ?_ (Lib.hid hs) (Lib.hid rfl)
    cases hg : trG t with
    | false => rw [(shE_bad (f := f) (g := g) hg).1]; decide
    | true => rw [shE_no hg hs]; decide
  | true =>
    obtain ⟨_, k1, k2, _, _⟩ := shG_iff hs
    obtain ⟨f', rfl⟩ : ∃ k : Nat, f = (k : Int) := ⟨f.toNat, by omega⟩
    obtain ⟨g', rfl⟩ : ∃ k : Nat, g = (k : Int) := ⟨g.toNat, by omega⟩
    exact good t p f' g' w (Lib.hid h) (Lib.hid hT) hf.1 hf.2 (Lib.hid hs)
set_option maxRecDepth 100000 in
theorem lifted (os : Os) (started : os.Started) (H : Type) (enc : TypeId × Value → H) :
    ReturnsInHanded {} Tryd.checked os 9 .any (fun w args => (Rows.sumsShownSpec.pre enc Tryd.prog Tryd.f9 [] false w args ∧ laidMetH Tryd.prog laidL w) ∧ sizedMet enc Tryd.prog Tryd.f9 (OpenSpec.ofChange Rows.sumsShownSpec) false w args)
      (Rows.sumsShownSpec.post enc Tryd.prog Tryd.f9 false true false false) := by
  refine returnsInHanded_of_change_and (C := Tryd.checked) (X := fun w _ => laidMetH Tryd.prog laidL w) (fun _ _ _ hh h => h.of_heap hh) own started (by kernel_rfl) Tryd.func9
    (ChangeSpec.witness_shaped (enc := enc) (C := Tryd.checked) (os := os) (X := fun w _ => laidMetH Tryd.prog laidL w) false (World.doorLaid Tryd.prog 400 os) #[.agg (#[.int .i64 0, .int .i64 0, .int .i64 0, .int .i64 0, .slice none 0 0, .slice none 0 0] ++ Array.replicate 32 (.int .u8 0)), .int .i64 0, .int .i64 0] 8 rfl (World.shaped_of_RefB (by kernel_rfl) (by kernel_rfl)) (by kernel_rfl) (by kernel_rfl) (by kernel_rfl) (door_met os _)) ?_
  intro W base args ds gs before hval0 hW _ hsz0 hL _
  have hval : ∀ (j : Nat) t v, Tryd.f9.params[j]? = some t → args[j]? = some v → Value.okWide Tryd.prog W .any base t v := hval0
  have hW' := hW
  obtain ⟨p, q, hA0, hV, rfl, hfz, hnd⟩ := hW
  have hA : DataW.TrodAll enc Tryd.prog W 0 (fun _ => true) true Tryd.f9.params.toList args.toList ds p := hA0
  have hsz : (DataW.weightsEach Tryd.prog (Tryd.f9.params.toList ++ Rows.sumsShownSpec.plain.varTypes Tryd.prog) (ds ++ gs)).all (· ≤ reachBytes) = true := hsz0
  rw [Tryd.params9] at hA hval hsz
  obtain ⟨v0, vs0, d0, ds0, p0, q0, hargs, rfl, rfl, h0, r0⟩ := trodAll_cons hA
  obtain ⟨v1, vs1, d1, ds1, p1, q1, rfl, rfl, rfl, h1, r1⟩ := trodAll_cons r0
  obtain ⟨v2, vs2, d2, ds2, p2, q2, rfl, rfl, rfl, h2, r2⟩ := trodAll_cons r1
  obtain ⟨rfl, rfl, rfl⟩ := trodAll_nil r2
  obtain rfl : args = #[v0, v1, v2] := by cases args; simp_all
  obtain ⟨rfl, rfl⟩ := trodVars_none hV
  obtain ⟨l0, y0, rfl, e0⟩ := arg_tr (hval 0 27 v0 rfl rfl) h0
  obtain ⟨a1, rfl, rfl, rfl, w1⟩ := open_int Tryd.underlying3 (hval 1 3 v1 rfl rfl) h1
  have b1 := bounds_i64 w1
  obtain ⟨a2, rfl, rfl, rfl, w2⟩ := open_int Tryd.underlying3 (hval 2 3 v2 rfl rfl) h2
  have b2 := bounds_i64 w2
  refine (walk W (tabs_of hL) l0 y0 e0 a1 b1.1 b1.2 a2 b2.1 b2.2).mono fun e W' ⟨he, hg⟩ => ?_
  subst he
  exact ⟨_, rfl, law_post (by kernel_rfl) rfl rfl (fun _ => ⟨rfl, rfl, rfl⟩) hW' hg⟩
theorem over : Rows.sumsShownRow.holds Tryd.pinned (OpenSpec.ofChange Rows.sumsShownSpec) :=
  OpenClaim.holds_of_wide 9 Tryd.f9 rfl rfl rfl rfl rfl rfl rfl ⟨rfl, rfl, rfl, rfl, rfl⟩ rfl rfl rfl rfl rfl (by kernel_rfl) Tryd.func9 (by kernel_rfl)
    (of_decide_eq_true (by kernel_rfl)) (by unfold Func.isWrapper; first | (rw [if_pos (by decide +kernel)]; kernel_rfl) | (rw [if_neg (by decide +kernel)]; exact ⟨rfl, rfl⟩))
    (fun os started H enc _ => lifted os started H enc)
/-- THE STATEMENT: the card -/
theorem proved : Rows.SumsShownCardSaid :=
  Claim7.holds_tied_plain_at .later [] [.data, .data] true Rows.sumsShownCard.stood.harness true
    over (fun _ h => by cases h) (by kernel_rfl) (fun _ h => by cases h) sumsShown_row_tie rfl ⟨rfl, rfl⟩ (by kernel_rfl) rfl
    (fun f fn hf hfn => by
      obtain rfl : f = 9 := Option.some.inj ((show Tryd.prog.funcNamed "sizar/sizarlaw43.SumsShown" = some 9 by kernel_rfl).symm.trans hf) |>.symm
      obtain rfl : fn = Tryd.f9 := (Option.some.inj (Tryd.func9.symm.trans hfn)).symm
      exact ⟨by kernel_rfl, fun j t ht => stands_of (show Tryd.f9.params.all (fun t => !Tryd.prog.wantsStandIn t) = true by kernel_rfl) ht⟩)
    (by kernel_rfl)
#print axioms proved
end Go.Proofs.YtmfmgeapecapiaaDoor.sumsShown
