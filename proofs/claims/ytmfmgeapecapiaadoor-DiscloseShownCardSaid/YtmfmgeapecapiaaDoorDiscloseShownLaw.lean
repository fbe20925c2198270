/- DiscloseShown: for every transcript the law returns true: each line and each claim of a valid transcript can be shown, and is verified. No conditions. -/
import Derived.Test.YtmfmgeapecapiaaDoorDB17
import Derived.Test.YtmfmgeapecapiaaDoorDB3
import Derived.Test.YtmfmgeapecapiaaDoorCards
import Derived.Test.YtmfmgeapecapiaaDoorTie
import Derived.Lib.SmallJoins
namespace Go.Proofs.YtmfmgeapecapiaaDoor.discloseShown
open Go.ChangeShapes Go.WideShapes Go.ChangeAt Go.RowKit SzSha SzTree
set_option linter.unusedVariables false
set_option maxRecDepth 100000
set_option maxHeartbeats 8000000 in
theorem big (t : Tr) (p : TrP) (w : World) (h : Hid (TrOk w t p)) (hT : Hid (Tabs w)) (hf : ¬ (p.n ≤ 12 ∧ p.n2 ≤ 12)) :
    Calls Tryd.prog 3 #[trV t p] w fun e w' => e = .returned (.bool true) ∧ Below w.heap.size w w' := by
  have HIT : Hid ((Tryd.prog.info? 27).map (·.size) = some (trC t p).toArray.size) := Lib.hid (trV_info t p h.out.len)
  have hb0 := (Below.refl _ w).alloc (Nat.le_refl _) (.cells (trC t p).toArray 27)
  have RT0 := Lib.hid (heap_alloc_new w (.cells (trC t p).toArray 27))
  have KO0 := Lib.hid (h.out.below hb0)
  have KT0 := Lib.hid (hT.out.below hb0)
  have HB0 := Lib.hid hb0
  clear hb0
  rw [show trV t p = .agg (trC t p).toArray from rfl]
  go_enter Tryd.func3, Tryd.ntmps3
  go_wp2_with fail
  refine (sane42 _ KT0).mono ?_
  rintro e U1 ⟨rfl, hq⟩
  have HB2 := Lib.hid (HB0.out.trans (hq.mono HB0.out.size))
  have RT2 := Lib.hid (row_kept RT0.out hq)
  have KO2 := Lib.hid (KO0.out.below hq)
  have KT2 := Lib.hid (KT0.out.below hq)
  clear hq HB0 RT0 KO0 KT0
  go_wp2_with (refine wpList_load_row rfl 27 (.tmp 1) rfl (w.heap.size) rfl 27 _ (0, 0) _ RT2.out Tryd.underlying27 rfl HIT.out ?_)
  rw [show Value.agg (trC t p).toArray = trV t p from rfl]
  refine (few_no t p _ hf).mono ?_
  rintro e U3 ⟨rfl, hq⟩
  have HB4 := Lib.hid (HB2.out.trans (hq.mono HB2.out.size))
  have RT4 := Lib.hid (row_kept RT2.out hq)
  have KO4 := Lib.hid (KO2.out.below hq)
  have KT4 := Lib.hid (KT2.out.below hq)
  clear hq HB2 RT2 KO2 KT2
  go_wp2_with fail
  go_ret
  exact ⟨rfl, HB4.out⟩
set_option maxHeartbeats 8000000 in
theorem bad (t : Tr) (p : TrP) (w : World) (h : Hid (TrOk w t p)) (hT : Hid (Tabs w)) (h1 : p.n ≤ 12) (h2 : p.n2 ≤ 12) (HE : Hid (trE t = 420)) :
    Calls Tryd.prog 3 #[trV t p] w fun e w' => e = .returned (.bool true) ∧ Below w.heap.size w w' := by
  have HIT : Hid ((Tryd.prog.info? 27).map (·.size) = some (trC t p).toArray.size) := Lib.hid (trV_info t p h.out.len)
  have hb0 := (Below.refl _ w).alloc (Nat.le_refl _) (.cells (trC t p).toArray 27)
  have RT0 := Lib.hid (heap_alloc_new w (.cells (trC t p).toArray 27))
  have KO0 := Lib.hid (h.out.below hb0)
  have KT0 := Lib.hid (hT.out.below hb0)
  have HB0 := Lib.hid hb0
  clear hb0
  rw [show trV t p = .agg (trC t p).toArray from rfl]
  go_enter Tryd.func3, Tryd.ntmps3
  go_wp2_with fail
  refine (sane42 _ KT0).mono ?_
  rintro e U1 ⟨rfl, hq⟩
  have HB2 := Lib.hid (HB0.out.trans (hq.mono HB0.out.size))
  have RT2 := Lib.hid (row_kept RT0.out hq)
  have KO2 := Lib.hid (KO0.out.below hq)
  have KT2 := Lib.hid (KT0.out.below hq)
  clear hq HB0 RT0 KO0 KT0
  go_wp2_with (refine wpList_load_row rfl 27 (.tmp 1) rfl (w.heap.size) rfl 27 _ (0, 0) _ RT2.out Tryd.underlying27 rfl HIT.out ?_)
  rw [show Value.agg (trC t p).toArray = trV t p from rfl]
  refine (few_yes t p _ h1 h2).mono ?_
  rintro e U3 ⟨rfl, hq⟩
  have HB4 := Lib.hid (HB2.out.trans (hq.mono HB2.out.size))
  have RT4 := Lib.hid (row_kept RT2.out hq)
  have KO4 := Lib.hid (KO2.out.below hq)
  have KT4 := Lib.hid (KT2.out.below hq)
  clear hq HB2 RT2 KO2 KT2
  obtain ⟨X, HX⟩ : ∃ x, Hid (lstL t = x) := ⟨_, Lib.hid rfl⟩
  obtain ⟨Y, HY⟩ : ∃ y, Hid (lstK t = y) := ⟨_, Lib.hid rfl⟩
  have HXO : Hid (DgOk X) := Lib.hid (by rw [← HX.out]; exact lstL_ok t)
  have HYO : Hid (DgOk Y) := Lib.hid (by rw [← HY.out]; exact lstK_ok t)
  have HRK : Hid (RtOk (rtOf (p.n : Nat) (p.n2 : Nat) X Y)) := Lib.hid (rtOf_ok (by unfold I64; omega) (by unfold I64; omega) HXO.out HYO.out)
  have HRI := Lib.hid (rtC_info HRK.out)
  have HRS : Hid (138 = (rtC (rtOf (p.n : Nat) (p.n2 : Nat) X Y)).toArray.size) := Lib.hid (by simp [rtC, rtOf, ndC_length zeroN_ok, dgC_len32 HXO.out, dgC_len32 HYO.out, dgC_len32 zeroD_ok])
  go_wp2_with (refine wpList_load_row rfl 27 (.tmp 1) rfl (w.heap.size) rfl 27 _ (0, 0) _ RT4.out Tryd.underlying27 rfl HIT.out ?_)
  rw [show Value.agg (trC t p).toArray = trV t p from rfl]
  refine (root42_no t p _ KO4 KT4 HE).mono ?_
  rintro e U5 ⟨rfl, hq⟩
  rw [HX.out, HY.out]
  have HB6 := Lib.hid (HB4.out.trans (hq.mono HB4.out.size))
  have RT6 := Lib.hid (row_kept RT4.out hq)
  have KO6 := Lib.hid (KO4.out.below hq)
  have KT6 := Lib.hid (KT4.out.below hq)
  clear hq HB4 RT4 KO4 KT4
  obtain ⟨V7, HV7⟩ : ∃ W, Hid ((U5.alloc (.cells Tryd.zeroCells35 35)).setRow U5.heap.size (rtC (rtOf (p.n : Nat) (p.n2 : Nat) X Y)).toArray = W) := ⟨_, Lib.hid rfl⟩
  have hw := setRow_heap (U5.alloc (.cells Tryd.zeroCells35 35)) U5.heap.size _ (rtC (rtOf (p.n : Nat) (p.n2 : Nat) X Y)).toArray _ _ (heap_alloc_new U5 _)
  have hb := below_setRow ((Below.refl _ U5).alloc (Nat.le_refl _) (.cells Tryd.zeroCells35 35)) (Nat.le_refl _) (rtC (rtOf (p.n : Nat) (p.n2 : Nat) X Y)).toArray
  rw [HV7.out] at hw hb
  have HB8 := Lib.hid (HB6.out.trans (hb.mono HB6.out.size))
  have RT8 := Lib.hid (row_kept RT6.out hb)
  have KO8 := Lib.hid (KO6.out.below hb)
  have KT8 := Lib.hid (KT6.out.below hb)
  have RRo7 := Lib.hid hw
  clear hw hb HB6 RT6 KO6 KT6
  go_wp2_with (first | (refine wpList_store_row rfl 35 (.tmp 3) (.tmp 21) rfl U5.heap.size (rtC (rtOf (p.n : Nat) (p.n2 : Nat) X Y)).toArray rfl rfl 35 _ (heap_alloc_new U5 _) HRI.out HRS.out (rtC_one _) ?_; rw [HV7.out]) | (refine wpList_load_row rfl 27 (.tmp 1) rfl (w.heap.size) rfl 27 _ (0, 0) _ RT8.out Tryd.underlying27 rfl HIT.out ?_))
  rw [show Value.agg (trC t p).toArray = trV t p from rfl]
  refine (check_any t p _ KO8).mono ?_
  rintro e U9 ⟨rfl, hq⟩
  rw [HE.out]
  have HB10 := Lib.hid (HB8.out.trans (hq.mono HB8.out.size))
  have RT10 := Lib.hid (row_kept RT8.out hq)
  have RRo10 := Lib.hid (row_kept RRo7.out hq)
  have KO10 := Lib.hid (KO8.out.below hq)
  have KT10 := Lib.hid (KT8.out.below hq)
  clear hq HB8 RT8 RRo7 KO8 KT8
  go_wp2_with fail
  go_ret
  exact ⟨rfl, HB10.out⟩
set_option maxHeartbeats 8000000 in
theorem good (t : Tr) (p : TrP) (w : World) (h : Hid (TrOk w t p)) (hT : Hid (Tabs w)) (h1 : p.n ≤ 12) (h2 : p.n2 ≤ 12) (hg : Hid (trG t = true)) :
    Calls Tryd.prog 3 #[trV t p] w fun e w' => e = .returned (.bool true) ∧ Below w.heap.size w w' := by
  have HE : Hid (trE t = 0) := Lib.hid (trE_yes hg.out)
  have HN : Hid (t.ln.length = p.n) := Lib.hid h.out.ln.len
  have HN2 : Hid (t.cl.length = p.n2) := Lib.hid h.out.cl.len
  have HNL : Hid (p.n ≤ 100000) := Lib.hid (by omega)
  have HIT : Hid ((Tryd.prog.info? 27).map (·.size) = some (trC t p).toArray.size) := Lib.hid (trV_info t p h.out.len)
  have hb0 := (Below.refl _ w).alloc (Nat.le_refl _) (.cells (trC t p).toArray 27)
  have RT0 := Lib.hid (heap_alloc_new w (.cells (trC t p).toArray 27))
  have KO0 := Lib.hid (h.out.below hb0)
  have KT0 := Lib.hid (hT.out.below hb0)
  have HB0 := Lib.hid hb0
  clear hb0
  rw [show trV t p = .agg (trC t p).toArray from rfl]
  go_enter Tryd.func3, Tryd.ntmps3
  go_wp2_with fail
  refine (sane42 _ KT0).mono ?_
  rintro e U1 ⟨rfl, hq⟩
  have HB2 := Lib.hid (HB0.out.trans (hq.mono HB0.out.size))
  have RT2 := Lib.hid (row_kept RT0.out hq)
  have KO2 := Lib.hid (KO0.out.below hq)
  have KT2 := Lib.hid (KT0.out.below hq)
  clear hq HB0 RT0 KO0 KT0
  go_wp2_with (refine wpList_load_row rfl 27 (.tmp 1) rfl (w.heap.size) rfl 27 _ (0, 0) _ RT2.out Tryd.underlying27 rfl HIT.out ?_)
  rw [show Value.agg (trC t p).toArray = trV t p from rfl]
  refine (few_yes t p _ h1 h2).mono ?_
  rintro e U3 ⟨rfl, hq⟩
  have HB4 := Lib.hid (HB2.out.trans (hq.mono HB2.out.size))
  have RT4 := Lib.hid (row_kept RT2.out hq)
  have KO4 := Lib.hid (KO2.out.below hq)
  have KT4 := Lib.hid (KT2.out.below hq)
  clear hq HB2 RT2 KO2 KT2
  obtain ⟨X, HX⟩ : ∃ x, Hid (lstL t = x) := ⟨_, Lib.hid rfl⟩
  obtain ⟨Y, HY⟩ : ∃ y, Hid (lstK t = y) := ⟨_, Lib.hid rfl⟩
  have HXO : Hid (DgOk X) := Lib.hid (by rw [← HX.out]; exact lstL_ok t)
  have HYO : Hid (DgOk Y) := Lib.hid (by rw [← HY.out]; exact lstK_ok t)
  have HRK : Hid (RtOk (rtOf (p.n : Nat) (p.n2 : Nat) X Y)) := Lib.hid (rtOf_ok (by unfold I64; omega) (by unfold I64; omega) HXO.out HYO.out)
  have HRI := Lib.hid (rtC_info HRK.out)
  have HRS : Hid (138 = (rtC (rtOf (p.n : Nat) (p.n2 : Nat) X Y)).toArray.size) := Lib.hid (by simp [rtC, rtOf, ndC_length zeroN_ok, dgC_len32 HXO.out, dgC_len32 HYO.out, dgC_len32 zeroD_ok])
  go_wp2_with (refine wpList_load_row rfl 27 (.tmp 1) rfl (w.heap.size) rfl 27 _ (0, 0) _ RT4.out Tryd.underlying27 rfl HIT.out ?_)
  rw [show Value.agg (trC t p).toArray = trV t p from rfl]
  refine (root42_yes t p _ KO4 KT4 HE).mono ?_
  rintro e U5 ⟨rfl, hq⟩
  rw [HX.out, HY.out]
  have HB6 := Lib.hid (HB4.out.trans (hq.mono HB4.out.size))
  have RT6 := Lib.hid (row_kept RT4.out hq)
  have KO6 := Lib.hid (KO4.out.below hq)
  have KT6 := Lib.hid (KT4.out.below hq)
  clear hq HB4 RT4 KO4 KT4
  obtain ⟨V7, HV7⟩ : ∃ W, Hid ((U5.alloc (.cells Tryd.zeroCells35 35)).setRow U5.heap.size (rtC (rtOf (p.n : Nat) (p.n2 : Nat) X Y)).toArray = W) := ⟨_, Lib.hid rfl⟩
  have hw := setRow_heap (U5.alloc (.cells Tryd.zeroCells35 35)) U5.heap.size _ (rtC (rtOf (p.n : Nat) (p.n2 : Nat) X Y)).toArray _ _ (heap_alloc_new U5 _)
  have hb := below_setRow ((Below.refl _ U5).alloc (Nat.le_refl _) (.cells Tryd.zeroCells35 35)) (Nat.le_refl _) (rtC (rtOf (p.n : Nat) (p.n2 : Nat) X Y)).toArray
  rw [HV7.out] at hw hb
  have HB8 := Lib.hid (HB6.out.trans (hb.mono HB6.out.size))
  have RT8 := Lib.hid (row_kept RT6.out hb)
  have KO8 := Lib.hid (KO6.out.below hb)
  have KT8 := Lib.hid (KT6.out.below hb)
  have RRo7 := Lib.hid hw
  clear hw hb HB6 RT6 KO6 KT6
  have kl : V7.cell? ⟨w.heap.size, 4, none⟩ = some (.slice p.A p.n p.c) := by rw [cell_of_row _ _ _ _ _ _ RT8.out]; rfl
  go_wp2_with (refine wpList_store_row rfl 35 (.tmp 3) (.tmp 21) rfl U5.heap.size (rtC (rtOf (p.n : Nat) (p.n2 : Nat) X Y)).toArray rfl rfl 35 _ (heap_alloc_new U5 _) HRI.out HRS.out (rtC_one _) ?_; rw [HV7.out])
  clear kl
  go_loopw [31] (fun s wr => ∃ j : Nat, j ≤ p.n ∧ s = .int .i64 (j : Nat) ∧ Hid (Below V7.heap.size V7 wr)) (fun s _ => p.n - (intOf s).toNat)
  case atStart => exact ⟨0, by omega, rfl, Lib.hid (Below.refl _ _)⟩
  case round =>
    obtain ⟨j, hj, rfl, HBW⟩ := hrel
    have HB9 := Lib.hid (HB8.out.trans (HBW.out.mono HB8.out.size))
    have RT9 := Lib.hid (row_kept RT8.out HBW.out)
    have RRo9 := Lib.hid (row_kept RRo7.out HBW.out)
    have KO9 := Lib.hid (KO8.out.below HBW.out)
    have KT9 := Lib.hid (KT8.out.below HBW.out)
    have HBR := HBW
    clear HBW
    by_cases hlt : j < p.n
    · have d1 : decide ((j : Int) < (p.n : Int)) = true := decide_eq_true (by omega)
      have d2 : decide (j < p.n) = true := decide_eq_true hlt
      have hjl : j < t.ln.length := by have := HN.out; omega
      obtain ⟨g, off, eA, hgl, hr⟩ := KO9.out.ln.rd (by omega)
      obtain ⟨x, HX1⟩ : ∃ x, Hid (t.ln[j] = x) := ⟨_, Lib.hid rfl⟩
      have HXJ : Hid (t.ln[j]? = some x) := Lib.hid (by rw [List.getElem?_eq_getElem hjl, HX1.out])
      have KX0 : Hid (wr.rangeAt g (off + j * 5) (lnC x)) := Lib.hid (by rw [← HX1.out]; exact range_elem (k := 5) (cells := lnC) (fun _ => rfl) hr j hjl)
      have HII := Lib.hid (lnC_infoL x)
      have HIA := Lib.hid (lnC_info x)
      clear hgl hr HX1 hjl
      rw [eA]
      obtain ⟨V10, HV10⟩ : ∃ W, Hid ((wr.alloc (.cells #[.int .i64 0, .int .i64 0, .int .i64 0, .int .i64 0, .int .i64 0] 41)).setRow wr.heap.size (lnC x).toArray = W) := ⟨_, Lib.hid rfl⟩
      have hw := setRow_heap (wr.alloc (.cells #[.int .i64 0, .int .i64 0, .int .i64 0, .int .i64 0, .int .i64 0] 41)) wr.heap.size _ (lnC x).toArray _ _ (heap_alloc_new wr _)
      have hb := below_setRow ((Below.refl _ wr).alloc (Nat.le_refl _) (.cells #[.int .i64 0, .int .i64 0, .int .i64 0, .int .i64 0, .int .i64 0] 41)) (Nat.le_refl _) (lnC x).toArray
      rw [HV10.out] at hw hb
      have HB11 := Lib.hid (HB9.out.trans (hb.mono HB9.out.size))
      have RT11 := Lib.hid (row_kept RT9.out hb)
      have RRo11 := Lib.hid (row_kept RRo9.out hb)
      have KO11 := Lib.hid (KO9.out.below hb)
      have KT11 := Lib.hid (KT9.out.below hb)
      have KBR11 := Lib.hid (HBR.out.trans (hb.mono HBR.out.size))
      have RX10 := Lib.hid hw
      clear hw hb HB9 RT9 RRo9 KO9 KT9 HBR
      go_wp2_with (first | (refine wpList_load_mid rfl 41 (.tmp 34) rfl (g) (off + j * 5) rfl (lnC x) _ KX0.out Tryd.underlying41 rfl HII.out ?_) | (refine wpList_store_row rfl 41 (.tmp 6) (.tmp 35) rfl wr.heap.size (lnC x).toArray rfl rfl 41 _ (heap_alloc_new wr _) HIA.out rfl (lnC_one x) ?_; rw [HV10.out]) | (refine wpList_load_row rfl 27 (.tmp 1) rfl (w.heap.size) rfl 27 _ (0, 0) _ RT11.out Tryd.underlying27 rfl HIT.out ?_))
      rw [show Value.agg (trC t p).toArray = trV t p from rfl]
      obtain ⟨s, HS⟩ : ∃ s, Hid (saltN t.salt 1 (nLn x) = s) := ⟨_, Lib.hid rfl⟩
      have HSO : Hid (DgOk s) := Lib.hid (by rw [← HS.out]; exact saltN_ok _ _ _)
      refine (shwL_yes t p j x _ KO11 KT11 hg hlt HXJ).mono ?_
      rintro e U12 ⟨As, ns, cs, rfl, hin, hq⟩
      rw [HS.out]
      have KP0 := Lib.hid hin
      clear hin
      have HB13 := Lib.hid (HB11.out.trans (hq.mono HB11.out.size))
      have RT13 := Lib.hid (row_kept RT11.out hq)
      have RRo13 := Lib.hid (row_kept RRo11.out hq)
      have RX13 := Lib.hid (row_kept RX10.out hq)
      have KO13 := Lib.hid (KO11.out.below hq)
      have KT13 := Lib.hid (KT11.out.below hq)
      have KBR13 := Lib.hid (KBR11.out.trans (hq.mono KBR11.out.size))
      clear hq HB11 RT11 RRo11 RX10 KO11 KT11 KBR11
      have HSI : Hid ((Tryd.prog.info? 44).map (·.size) = some (shCL (j : Nat) x s As ns cs).toArray.size) := Lib.hid (shCL_info HSO.out)
      have HSH : Hid (39 = (shCL (j : Nat) x s As ns cs).toArray.size) := Lib.hid (by simp [shCL, lnC, dgC_len32 HSO.out])
      obtain ⟨V14, HV14⟩ : ∃ W, Hid ((U12.alloc (.cells #[.int .i64 0, .int .i64 0, .int .i64 0, .int .i64 0, .int .i64 0, .int .i64 0, .int .u8 0, .int .u8 0, .int .u8 0, .int .u8 0, .int .u8 0, .int .u8 0, .int .u8 0, .int .u8 0, .int .u8 0, .int .u8 0, .int .u8 0, .int .u8 0, .int .u8 0, .int .u8 0, .int .u8 0, .int .u8 0, .int .u8 0, .int .u8 0, .int .u8 0, .int .u8 0, .int .u8 0, .int .u8 0, .int .u8 0, .int .u8 0, .int .u8 0, .int .u8 0, .int .u8 0, .int .u8 0, .int .u8 0, .int .u8 0, .int .u8 0, .int .u8 0, .slice none 0 0] 44)).setRow U12.heap.size (shCL (j : Nat) x s As ns cs).toArray = W) := ⟨_, Lib.hid rfl⟩
      have hw := setRow_heap (U12.alloc (.cells #[.int .i64 0, .int .i64 0, .int .i64 0, .int .i64 0, .int .i64 0, .int .i64 0, .int .u8 0, .int .u8 0, .int .u8 0, .int .u8 0, .int .u8 0, .int .u8 0, .int .u8 0, .int .u8 0, .int .u8 0, .int .u8 0, .int .u8 0, .int .u8 0, .int .u8 0, .int .u8 0, .int .u8 0, .int .u8 0, .int .u8 0, .int .u8 0, .int .u8 0, .int .u8 0, .int .u8 0, .int .u8 0, .int .u8 0, .int .u8 0, .int .u8 0, .int .u8 0, .int .u8 0, .int .u8 0, .int .u8 0, .int .u8 0, .int .u8 0, .int .u8 0, .slice none 0 0] 44)) U12.heap.size _ (shCL (j : Nat) x s As ns cs).toArray _ _ (heap_alloc_new U12 _)
      have hb := below_setRow ((Below.refl _ U12).alloc (Nat.le_refl _) (.cells #[.int .i64 0, .int .i64 0, .int .i64 0, .int .i64 0, .int .i64 0, .int .i64 0, .int .u8 0, .int .u8 0, .int .u8 0, .int .u8 0, .int .u8 0, .int .u8 0, .int .u8 0, .int .u8 0, .int .u8 0, .int .u8 0, .int .u8 0, .int .u8 0, .int .u8 0, .int .u8 0, .int .u8 0, .int .u8 0, .int .u8 0, .int .u8 0, .int .u8 0, .int .u8 0, .int .u8 0, .int .u8 0, .int .u8 0, .int .u8 0, .int .u8 0, .int .u8 0, .int .u8 0, .int .u8 0, .int .u8 0, .int .u8 0, .int .u8 0, .int .u8 0, .slice none 0 0] 44)) (Nat.le_refl _) (shCL (j : Nat) x s As ns cs).toArray
      rw [HV14.out] at hw hb
      have HB15 := Lib.hid (HB13.out.trans (hb.mono HB13.out.size))
      have RT15 := Lib.hid (row_kept RT13.out hb)
      have RRo15 := Lib.hid (row_kept RRo13.out hb)
      have RX15 := Lib.hid (row_kept RX13.out hb)
      have KO15 := Lib.hid (KO13.out.below hb)
      have KT15 := Lib.hid (KT13.out.below hb)
      have KBR15 := Lib.hid (KBR13.out.trans (hb.mono KBR13.out.size))
      have KP15 := Lib.hid (KP0.out.below hb)
      have RS14 := Lib.hid hw
      clear hw hb HB13 RT13 RRo13 RX13 KO13 KT13 KBR13 KP0
      have KS0 : Hid (V14.rangeAt U12.heap.size 1 (lnC x)) := Lib.hid (shCL_x RS14.out)
      have m0 : V14.cell? ⟨U12.heap.size, 0, none⟩ = some (.int .i64 (j : Nat)) := by rw [cell_of_row _ _ _ _ _ _ RS14.out]; rfl
      have HVV := Lib.hid (ver_line (m := p.n2) (Y := Y) hg.out HXJ.out HN.out HX.out HS.out)
      have hle : lnEq x x = true := lnEq_refl x
      have hnle : (!lnEq x x) = false := by rw [hle]; rfl
      have hns : ns ≤ 100000 := path_bd KP15.out.len (by rw [List.length_map, HN.out]; omega)
      go_wp2_with (first | (refine wpList_store_row rfl 44 (.tmp 7) (.tmp 40) rfl U12.heap.size (shCL (j : Nat) x s As ns cs).toArray rfl rfl 44 _ (heap_alloc_new U12 _) HSI.out HSH.out (shCL_one _ _ _ _ _ _) ?_; rw [HV14.out]) | (refine wpList_unguard rfl ?_; refine wpList_load_mid rfl 41 (.tmp 51) rfl (U12.heap.size) (1) rfl (lnC x) _ KS0.out Tryd.underlying41 rfl HII.out ?_) | (refine wpList_unguard rfl ?_; refine wpList_load_row rfl 41 (.tmp 6) rfl (wr.heap.size) rfl 41 _ (0, 0) _ RX15.out Tryd.underlying41 rfl HIA.out ?_) | (refine wpList_unguard rfl ?_; refine wpList_neq_ln rfl (.tmp 52) (.tmp 53) _ rfl x x rfl rfl ?_; rw [hnle]) | (refine wpList_unguard rfl ?_; refine wpList_load_row rfl 35 (.tmp 3) rfl (U5.heap.size) rfl 35 _ (0, 0) _ RRo15.out Tryd.underlying35 rfl HRI.out ?_) | (refine wpList_unguard rfl ?_; refine wpList_load_row rfl 44 (.tmp 7) rfl (U12.heap.size) rfl 44 _ (0, 0) _ RS14.out Tryd.underlying44 rfl HSI.out ?_))
      refine (verL (rtOf (p.n : Nat) (p.n2 : Nat) X Y) (j : Nat) x s As ns cs _ _ HSO HRK hns KP15 KT15).mono ?_
      rintro e U16 ⟨rfl, hq⟩
      rw [HVV.out]
      have HB17 := Lib.hid (HB15.out.trans (hq.mono HB15.out.size))
      have RT17 := Lib.hid (row_kept RT15.out hq)
      have RRo17 := Lib.hid (row_kept RRo15.out hq)
      have RX17 := Lib.hid (row_kept RX15.out hq)
      have RS17 := Lib.hid (row_kept RS14.out hq)
      have KO17 := Lib.hid (KO15.out.below hq)
      have KT17 := Lib.hid (KT15.out.below hq)
      have KBR17 := Lib.hid (KBR15.out.trans (hq.mono KBR15.out.size))
      have KP17 := Lib.hid (KP15.out.below hq)
      clear hq HB15 RT15 RRo15 RX15 RS14 KO15 KT15 KBR15 KP15
      go_wp2_with fail
      go_roundw
      case rel => exact ⟨j + 1, by omega, by go_num, KBR17⟩
      case measure => first | (simp [intOf]; done) | (simp [intOf]; omega)
    · have hjn : j = p.n := by omega
      have d1 : decide ((j : Int) < (p.n : Int)) = false := decide_eq_false (by omega)
      have d2 : decide (j < p.n) = false := decide_eq_false hlt
      clear hjn hlt hj HBR
      have kc : wr.cell? ⟨w.heap.size, 5, none⟩ = some (.slice p.A2 p.n2 p.c2) := by rw [cell_of_row _ _ _ _ _ _ RT9.out]; rfl
      go_wp2_with fail
      clear kc d1 d2
      generalize wr = W5 at *
      go_loopw [66] (fun s wr => ∃ j : Nat, j ≤ p.n2 ∧ s = .int .i64 (j : Nat) ∧ Hid (Below W5.heap.size W5 wr)) (fun s _ => p.n2 - (intOf s).toNat)
      case atStart => exact ⟨0, by omega, rfl, Lib.hid (Below.refl _ _)⟩
      case round =>
        obtain ⟨j, hj, rfl, HBW⟩ := hrel
        have HB18 := Lib.hid (HB9.out.trans (HBW.out.mono HB9.out.size))
        have RT18 := Lib.hid (row_kept RT9.out HBW.out)
        have RRo18 := Lib.hid (row_kept RRo9.out HBW.out)
        have KO18 := Lib.hid (KO9.out.below HBW.out)
        have KT18 := Lib.hid (KT9.out.below HBW.out)
        have HBR := HBW
        clear HBW
        by_cases hlt : j < p.n2
        · have d1 : decide ((j : Int) < (p.n2 : Int)) = true := decide_eq_true (by omega)
          have d2 : decide (j < p.n2) = true := decide_eq_true hlt
          have hjl : j < t.cl.length := by have := HN2.out; omega
          obtain ⟨g, off, eA, hgl, hr⟩ := KO18.out.cl.rd (by omega)
          obtain ⟨x, HX1⟩ : ∃ x, Hid (t.cl[j] = x) := ⟨_, Lib.hid rfl⟩
          have HXJ : Hid (t.cl[j]? = some x) := Lib.hid (by rw [List.getElem?_eq_getElem hjl, HX1.out])
          have KX0 : Hid (wr.rangeAt g (off + j * 3) (clC x)) := Lib.hid (by rw [← HX1.out]; exact range_elem (k := 3) (cells := clC) (fun _ => rfl) hr j hjl)
          have HCK : Hid (ClOk x) := Lib.hid (by rw [← HX1.out]; exact KO18.out.cl.ok _ (List.getElem_mem hjl))
          have HII := Lib.hid (clC_infoL x)
          have HIA := Lib.hid (clC_info x)
          clear hgl hr HX1 hjl
          rw [eA]
          obtain ⟨V19, HV19⟩ : ∃ W, Hid ((wr.alloc (.cells #[.int .i64 0, .int .i64 0, .bool false] 49)).setRow wr.heap.size (clC x).toArray = W) := ⟨_, Lib.hid rfl⟩
          have hw := setRow_heap (wr.alloc (.cells #[.int .i64 0, .int .i64 0, .bool false] 49)) wr.heap.size _ (clC x).toArray _ _ (heap_alloc_new wr _)
          have hb := below_setRow ((Below.refl _ wr).alloc (Nat.le_refl _) (.cells #[.int .i64 0, .int .i64 0, .bool false] 49)) (Nat.le_refl _) (clC x).toArray
          rw [HV19.out] at hw hb
          have HB20 := Lib.hid (HB18.out.trans (hb.mono HB18.out.size))
          have RT20 := Lib.hid (row_kept RT18.out hb)
          have RRo20 := Lib.hid (row_kept RRo18.out hb)
          have KO20 := Lib.hid (KO18.out.below hb)
          have KT20 := Lib.hid (KT18.out.below hb)
          have KBR20 := Lib.hid (HBR.out.trans (hb.mono HBR.out.size))
          have RX19 := Lib.hid hw
          clear hw hb HB18 RT18 RRo18 KO18 KT18 HBR
          go_wp2_with (first | (refine wpList_load_mid rfl 49 (.tmp 69) rfl (g) (off + j * 3) rfl (clC x) _ KX0.out Tryd.underlying49 rfl HII.out ?_) | (refine wpList_store_row rfl 49 (.tmp 10) (.tmp 70) rfl wr.heap.size (clC x).toArray rfl rfl 49 _ (heap_alloc_new wr _) HIA.out rfl (clC_one x) ?_; rw [HV19.out]) | (refine wpList_load_row rfl 27 (.tmp 1) rfl (w.heap.size) rfl 27 _ (0, 0) _ RT20.out Tryd.underlying27 rfl HIT.out ?_))
          rw [show Value.agg (trC t p).toArray = trV t p from rfl]
          obtain ⟨s, HS⟩ : ∃ s, Hid (saltN t.salt 2 (nCl x) = s) := ⟨_, Lib.hid rfl⟩
          have HSO : Hid (DgOk s) := Lib.hid (by rw [← HS.out]; exact saltN_ok _ _ _)
          refine (shwK_yes t p j x _ KO20 KT20 hg hlt HXJ).mono ?_
          rintro e U21 ⟨As, ns, cs, rfl, hin, hq⟩
          rw [HS.out]
          have KP0 := Lib.hid hin
          clear hin
          have HB22 := Lib.hid (HB20.out.trans (hq.mono HB20.out.size))
          have RT22 := Lib.hid (row_kept RT20.out hq)
          have RRo22 := Lib.hid (row_kept RRo20.out hq)
          have RX22 := Lib.hid (row_kept RX19.out hq)
          have KO22 := Lib.hid (KO20.out.below hq)
          have KT22 := Lib.hid (KT20.out.below hq)
          have KBR22 := Lib.hid (KBR20.out.trans (hq.mono KBR20.out.size))
          clear hq HB20 RT20 RRo20 RX19 KO20 KT20 KBR20
          have HSI : Hid ((Tryd.prog.info? 51).map (·.size) = some (shCK (j : Nat) x s As ns cs).toArray.size) := Lib.hid (shCK_info HSO.out)
          have HSH : Hid (37 = (shCK (j : Nat) x s As ns cs).toArray.size) := Lib.hid (by simp [shCK, clC, dgC_len32 HSO.out])
          obtain ⟨V23, HV23⟩ : ∃ W, Hid ((U21.alloc (.cells #[.int .i64 0, .int .i64 0, .int .i64 0, .bool false, .int .u8 0, .int .u8 0, .int .u8 0, .int .u8 0, .int .u8 0, .int .u8 0, .int .u8 0, .int .u8 0, .int .u8 0, .int .u8 0, .int .u8 0, .int .u8 0, .int .u8 0, .int .u8 0, .int .u8 0, .int .u8 0, .int .u8 0, .int .u8 0, .int .u8 0, .int .u8 0, .int .u8 0, .int .u8 0, .int .u8 0, .int .u8 0, .int .u8 0, .int .u8 0, .int .u8 0, .int .u8 0, .int .u8 0, .int .u8 0, .int .u8 0, .int .u8 0, .slice none 0 0] 51)).setRow U21.heap.size (shCK (j : Nat) x s As ns cs).toArray = W) := ⟨_, Lib.hid rfl⟩
          have hw := setRow_heap (U21.alloc (.cells #[.int .i64 0, .int .i64 0, .int .i64 0, .bool false, .int .u8 0, .int .u8 0, .int .u8 0, .int .u8 0, .int .u8 0, .int .u8 0, .int .u8 0, .int .u8 0, .int .u8 0, .int .u8 0, .int .u8 0, .int .u8 0, .int .u8 0, .int .u8 0, .int .u8 0, .int .u8 0, .int .u8 0, .int .u8 0, .int .u8 0, .int .u8 0, .int .u8 0, .int .u8 0, .int .u8 0, .int .u8 0, .int .u8 0, .int .u8 0, .int .u8 0, .int .u8 0, .int .u8 0, .int .u8 0, .int .u8 0, .int .u8 0, .slice none 0 0] 51)) U21.heap.size _ (shCK (j : Nat) x s As ns cs).toArray _ _ (heap_alloc_new U21 _)
          have hb := below_setRow ((Below.refl _ U21).alloc (Nat.le_refl _) (.cells #[.int .i64 0, .int .i64 0, .int .i64 0, .bool false, .int .u8 0, .int .u8 0, .int .u8 0, .int .u8 0, .int .u8 0, .int .u8 0, .int .u8 0, .int .u8 0, .int .u8 0, .int .u8 0, .int .u8 0, .int .u8 0, .int .u8 0, .int .u8 0, .int .u8 0, .int .u8 0, .int .u8 0, .int .u8 0, .int .u8 0, .int .u8 0, .int .u8 0, .int .u8 0, .int .u8 0, .int .u8 0, .int .u8 0, .int .u8 0, .int .u8 0, .int .u8 0, .int .u8 0, .int .u8 0, .int .u8 0, .int .u8 0, .slice none 0 0] 51)) (Nat.le_refl _) (shCK (j : Nat) x s As ns cs).toArray
          rw [HV23.out] at hw hb
          have HB24 := Lib.hid (HB22.out.trans (hb.mono HB22.out.size))
          have RT24 := Lib.hid (row_kept RT22.out hb)
          have RRo24 := Lib.hid (row_kept RRo22.out hb)
          have RX24 := Lib.hid (row_kept RX22.out hb)
          have KO24 := Lib.hid (KO22.out.below hb)
          have KT24 := Lib.hid (KT22.out.below hb)
          have KBR24 := Lib.hid (KBR22.out.trans (hb.mono KBR22.out.size))
          have KP24 := Lib.hid (KP0.out.below hb)
          have RS23 := Lib.hid hw
          clear hw hb HB22 RT22 RRo22 RX22 KO22 KT22 KBR22 KP0
          have KS0 : Hid (V23.rangeAt U21.heap.size 1 (clC x)) := Lib.hid (shCK_x RS23.out)
          have m0 : V23.cell? ⟨U21.heap.size, 0, none⟩ = some (.int .i64 (j : Nat)) := by rw [cell_of_row _ _ _ _ _ _ RS23.out]; rfl
          have HVV := Lib.hid (ver_claim (m := p.n) (X := X) hg.out HXJ.out HN2.out HY.out HS.out)
          have hle : clEq x x = true := clEq_refl x
          have hnle : (!clEq x x) = false := by rw [hle]; rfl
          have hns : ns ≤ 100000 := path_bd KP24.out.len (by rw [List.length_map, HN2.out]; omega)
          go_wp2_with (first | (refine wpList_store_row rfl 51 (.tmp 11) (.tmp 75) rfl U21.heap.size (shCK (j : Nat) x s As ns cs).toArray rfl rfl 51 _ (heap_alloc_new U21 _) HSI.out HSH.out (shCK_one _ _ _ _ _ _) ?_; rw [HV23.out]) | (refine wpList_unguard rfl ?_; refine wpList_load_mid rfl 49 (.tmp 86) rfl (U21.heap.size) (1) rfl (clC x) _ KS0.out Tryd.underlying49 rfl HII.out ?_) | (refine wpList_unguard rfl ?_; refine wpList_load_row rfl 49 (.tmp 10) rfl (wr.heap.size) rfl 49 _ (0, 0) _ RX24.out Tryd.underlying49 rfl HIA.out ?_) | (refine wpList_unguard rfl ?_; refine wpList_neq_cl rfl (.tmp 87) (.tmp 88) _ rfl x x rfl rfl ?_; rw [hnle]) | (refine wpList_unguard rfl ?_; refine wpList_load_row rfl 35 (.tmp 3) rfl (U5.heap.size) rfl 35 _ (0, 0) _ RRo24.out Tryd.underlying35 rfl HRI.out ?_) | (refine wpList_unguard rfl ?_; refine wpList_load_row rfl 51 (.tmp 11) rfl (U21.heap.size) rfl 51 _ (0, 0) _ RS23.out Tryd.underlying51 rfl HSI.out ?_))
          refine (verK (rtOf (p.n : Nat) (p.n2 : Nat) X Y) (j : Nat) x s As ns cs _ _ HCK HSO HRK hns KP24 KT24).mono ?_
          rintro e U25 ⟨rfl, hq⟩
          rw [HVV.out]
          have HB26 := Lib.hid (HB24.out.trans (hq.mono HB24.out.size))
          have RT26 := Lib.hid (row_kept RT24.out hq)
          have RRo26 := Lib.hid (row_kept RRo24.out hq)
          have RX26 := Lib.hid (row_kept RX24.out hq)
          have RS26 := Lib.hid (row_kept RS23.out hq)
          have KO26 := Lib.hid (KO24.out.below hq)
          have KT26 := Lib.hid (KT24.out.below hq)
          have KBR26 := Lib.hid (KBR24.out.trans (hq.mono KBR24.out.size))
          have KP26 := Lib.hid (KP24.out.below hq)
          clear hq HB24 RT24 RRo24 RX24 RS23 KO24 KT24 KBR24 KP24
          go_wp2_with fail
          go_roundw
          case rel => exact ⟨j + 1, by omega, by go_num, KBR26⟩
          case measure => first | (simp [intOf]; done) | (simp [intOf]; omega)
        · have hjn : j = p.n2 := by omega
          have d1 : decide ((j : Int) < (p.n2 : Int)) = false := decide_eq_false (by omega)
          have d2 : decide (j < p.n2) = false := decide_eq_false hlt
          clear hjn hlt hj HBR
          go_wp2_with (refine wpList_load_row rfl 27 (.tmp 1) rfl (w.heap.size) rfl 27 _ (0, 0) _ RT18.out Tryd.underlying27 rfl HIT.out ?_)
          rw [show Value.agg (trC t p).toArray = trV t p from rfl]
          refine (check_any t p _ KO18).mono ?_
          rintro e U27 ⟨rfl, hq⟩
          rw [HE.out]
          have HB28 := Lib.hid (HB18.out.trans (hq.mono HB18.out.size))
          have RT28 := Lib.hid (row_kept RT18.out hq)
          have RRo28 := Lib.hid (row_kept RRo18.out hq)
          have KO28 := Lib.hid (KO18.out.below hq)
          have KT28 := Lib.hid (KT18.out.below hq)
          clear hq HB18 RT18 RRo18 KO18 KT18
          go_wp2_with fail
          go_ret
          exact ⟨rfl, HB28.out⟩
theorem walk (w : World) (hT : Tabs w) (t : Tr) (p : TrP) (h : TrOk w t p) :
    Calls Tryd.prog 3 #[trV t p] w fun e w' => e = .returned (.bool true) ∧ Below w.heap.size w w' := by
  by_cases hf : p.n ≤ 12 ∧ p.n2 ≤ 12
  · by_cases hg : trG t = true
    · exact good t p w (Lib.hid h) (Lib.hid hT) hf.1 hf.2 (Lib.hid hg)
    · exact bad t p w (Lib.hid h) (Lib.hid hT) hf.1 hf.2 (Lib.hid (trE_no (by simpa using hg)))
  · exact big t p w (Lib.hid h) (Lib.hid hT) hf
set_option maxRecDepth 100000 in
theorem lifted (os : Os) (started : os.Started) (H : Type) (enc : TypeId × Value → H) :
    ReturnsInHanded {} Tryd.checked os 3 .any (fun w args => (Rows.discloseShownSpec.pre enc Tryd.prog Tryd.f3 [] false w args ∧ laidMetH Tryd.prog laidL w) ∧ sizedMet enc Tryd.prog Tryd.f3 (OpenSpec.ofChange Rows.discloseShownSpec) false w args)
      (Rows.discloseShownSpec.post enc Tryd.prog Tryd.f3 false true false false) := by
  refine returnsInHanded_of_change_and (C := Tryd.checked) (X := fun w _ => laidMetH Tryd.prog laidL w) (fun _ _ _ hh h => h.of_heap hh) own started (by kernel_rfl) Tryd.func3
    (ChangeSpec.witness_shaped (enc := enc) (C := Tryd.checked) (os := os) (X := fun w _ => laidMetH Tryd.prog laidL w) false (World.doorLaid Tryd.prog 400 os) #[.agg (#[.int .i64 0, .int .i64 0, .int .i64 0, .int .i64 0, .slice none 0 0, .slice none 0 0] ++ Array.replicate 32 (.int .u8 0))] 8 rfl (World.shaped_of_RefB (by kernel_rfl) (by kernel_rfl)) (by kernel_rfl) (by kernel_rfl) (by kernel_rfl) (door_met os _)) ?_
  intro W base args ds gs before hval0 hW _ hsz0 hL _
  have hval : ∀ (j : Nat) t v, Tryd.f3.params[j]? = some t → args[j]? = some v → Value.okWide Tryd.prog W .any base t v := hval0
  have hW' := hW
  obtain ⟨p, q, hA0, hV, rfl, hfz, hnd⟩ := hW
  have hA : DataW.TrodAll enc Tryd.prog W 0 (fun _ => true) true Tryd.f3.params.toList args.toList ds p := hA0
  have hsz : (DataW.weightsEach Tryd.prog (Tryd.f3.params.toList ++ Rows.discloseShownSpec.plain.varTypes Tryd.prog) (ds ++ gs)).all (· ≤ reachBytes) = true := hsz0
  rw [Tryd.params3] at hA hval hsz
  obtain ⟨v0, vs0, d0, ds0, p0, q0, hargs, rfl, rfl, h0, r0⟩ := trodAll_cons hA
  obtain ⟨rfl, rfl, rfl⟩ := trodAll_nil r0
  obtain rfl : args = #[v0] := by cases args; simp_all
  obtain ⟨rfl, rfl⟩ := trodVars_none hV
  obtain ⟨l0, y0, rfl, e0⟩ := arg_tr (hval 0 27 v0 rfl rfl) h0
  refine (walk W (tabs_of hL) l0 y0 e0).mono fun e W' ⟨he, hg⟩ => ?_
  subst he
  exact ⟨_, rfl, law_post (by kernel_rfl) rfl rfl (fun _ => ⟨rfl, rfl, rfl⟩) hW' hg⟩
theorem over : Rows.discloseShownRow.holds Tryd.pinned (OpenSpec.ofChange Rows.discloseShownSpec) :=
  OpenClaim.holds_of_wide 3 Tryd.f3 rfl rfl rfl rfl rfl rfl rfl ⟨rfl, rfl, rfl, rfl, rfl⟩ rfl rfl rfl rfl rfl (by kernel_rfl) Tryd.func3 (by kernel_rfl)
    (of_decide_eq_true (by kernel_rfl)) (by unfold Func.isWrapper; first | (rw [if_pos (by decide +kernel)]; kernel_rfl) | (rw [if_neg (by decide +kernel)]; exact ⟨rfl, rfl⟩))
    (fun os started H enc _ => lifted os started H enc)
/-- THE STATEMENT: the card -/
theorem proved : Rows.DiscloseShownCardSaid :=
  Claim7.holds_tied_plain_at .later [] [.data, .data] true Rows.discloseShownCard.stood.harness true
    over (fun _ h => by cases h) (by kernel_rfl) (fun _ h => by cases h) discloseShown_row_tie rfl ⟨rfl, rfl⟩ (by kernel_rfl) rfl
    (fun f fn hf hfn => by
      obtain rfl : f = 3 := Option.some.inj ((show Tryd.prog.funcNamed "sizar/sizarlaw42.DiscloseShown" = some 3 by kernel_rfl).symm.trans hf) |>.symm
      obtain rfl : fn = Tryd.f3 := (Option.some.inj (Tryd.func3.symm.trans hfn)).symm
      exact ⟨by kernel_rfl, fun j t ht => stands_of (show Tryd.f3.params.all (fun t => !Tryd.prog.wantsStandIn t) = true by kernel_rfl) ht⟩)
    (by kernel_rfl)
#print axioms proved
end Go.Proofs.YtmfmgeapecapiaaDoor.discloseShown
