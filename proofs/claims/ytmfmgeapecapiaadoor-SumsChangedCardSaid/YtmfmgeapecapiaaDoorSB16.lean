/- sizarlaw43.sane. sizarref43.Few; plain facts for the laws of layer 43. A part, as it comes in. Two lists of nodes that join to one root are equal, or two inputs have one hash: plain. sizarlaw43.half; kit for the regions of climb. -/
import Derived.Test.YtmfmgeapecapiaaDoorSB15
import Derived.Test.YtmfmgeapecapiaaDoorSB13
import Derived.Test.YtmfmgeapecapiaaDoorSB6
import Derived.Test.YtmfmgeapecapiaaDoorSB2
import Derived.Test.YtmfmgeapecapiaaDoorSB9
namespace Go.Proofs.YtmfmgeapecapiaaDoor
open Go.RowKit SzSha SzTree
set_option linter.unusedVariables false
set_option maxRecDepth 100000
def sS43 (zp zq zr g2 o2 c1 c2 c4 c5 : Nat) (A1 A4 A5 : Option Addr) (q : Nd) : Nat → Value → World → Prop
  | 0, fv, _ => fv = Value.int .i64 (6)
  | 1, fv, _ => fv = Value.bool true
  | 2, fv, _ => fv = Value.bool true
  | 3, fv, _ => fv = Value.int .i64 (42)
  | 4, fv, _ => fv = Value.bool true
  | 5, fv, _ => fv = Value.bool true
  | 6, fv, _ => fv = Value.bool true
  | 7, fv, _ => fv = raV ⟨7, 1⟩
  | 8, fv, _ => fv = raV ⟨7, 1⟩
  | 9, fv, _ => fv = Value.bool true
  | 10, fv, _ => fv = Value.bool true
  | 11, fv, _ => fv = Value.bool true
  | 12, fv, _ => fv = Value.pointer (some ⟨zp, 2, none⟩)
  | 13, fv, _ => fv = Value.slice A1 2 c1
  | 14, fv, _ => fv = Value.int .i64 (2)
  | 15, fv, _ => fv = Value.bool true
  | 16, fv, _ => fv = Value.bool true
  | 17, fv, _ => fv = Value.bool true
  | 18, fv, _ => fv = Value.pointer (some ⟨zq, 2, none⟩)
  | 19, fv, _ => fv = Value.slice (some ⟨g2, o2, none⟩) 1 c2
  | 20, fv, _ => fv = Value.int .i64 (1)
  | 21, fv, _ => fv = Value.bool true
  | 22, fv, _ => fv = Value.bool true
  | 23, fv, _ => fv = Value.bool true
  | 24, fv, _ => fv = Value.pointer (some ⟨zq, 2, none⟩)
  | 25, fv, _ => fv = Value.slice (some ⟨g2, o2, none⟩) 1 c2
  | 26, fv, _ => fv = Value.pointer (some ⟨g2, o2, none⟩)
  | 27, fv, _ => fv = ndV q
  | 28, fv, _ => fv = Value.pointer (some ⟨zr, 6, none⟩)
  | 29, fv, _ => fv = ndV q
  | 30, fv, _ => fv = Value.bool true
  | 31, fv, _ => fv = Value.bool true
  | 32, fv, _ => fv = Value.bool true
  | 33, fv, _ => fv = Value.slice A4 1 c4
  | 34, fv, _ => fv = spnV ⟨0, 5⟩
  | 35, fv, fw => ∃ A c, fv = .slice A 1 c ∧ InS fw A 1 c [⟨0, 5, true⟩]
  | 36, fv, _ => fv = Value.bool true
  | 37, fv, _ => fv = Value.bool true
  | 38, fv, _ => fv = Value.bool true
  | 39, fv, _ => fv = Value.slice A5 2 c5
  | 40, fv, _ => fv = spnV ⟨2, 4⟩
  | 41, fv, _ => fv = spnV ⟨4, 6⟩
  | 42, fv, fw => ∃ A c, fv = .slice A 2 c ∧ InS fw A 2 c [⟨2, 4, true⟩, ⟨4, 6, true⟩]
  | 43, fv, _ => fv = Value.bool true
  | 44, fv, _ => fv = Value.bool true
  | 45, fv, _ => fv = Value.bool true
  | _, _, _ => True
theorem sS43_below {zp zq zr g2 o2 c1 c2 c4 c5 : Nat} {A1 A4 A5 : Option Addr} {q : Nd} {w w' : World} (hb : Below w.heap.size w w') : ∀ j v, sS43 zp zq zr g2 o2 c1 c2 c4 c5 A1 A4 A5 q j v w → sS43 zp zq zr g2 o2 c1 c2 c4 c5 A1 A4 A5 q j v w'
  | 0, v, h => h
  | 1, v, h => h
  | 2, v, h => h
  | 3, v, h => h
  | 4, v, h => h
  | 5, v, h => h
  | 6, v, h => h
  | 7, v, h => h
  | 8, v, h => h
  | 9, v, h => h
  | 10, v, h => h
  | 11, v, h => h
  | 12, v, h => h
  | 13, v, h => h
  | 14, v, h => h
  | 15, v, h => h
  | 16, v, h => h
  | 17, v, h => h
  | 18, v, h => h
  | 19, v, h => h
  | 20, v, h => h
  | 21, v, h => h
  | 22, v, h => h
  | 23, v, h => h
  | 24, v, h => h
  | 25, v, h => h
  | 26, v, h => h
  | 27, v, h => h
  | 28, v, h => h
  | 29, v, h => h
  | 30, v, h => h
  | 31, v, h => h
  | 32, v, h => h
  | 33, v, h => h
  | 34, v, h => h
  | 35, v, ⟨A, c, h1, h2⟩ => ⟨A, c, h1, h2.below hb⟩
  | 36, v, h => h
  | 37, v, h => h
  | 38, v, h => h
  | 39, v, h => h
  | 40, v, h => h
  | 41, v, h => h
  | 42, v, ⟨A, c, h1, h2⟩ => ⟨A, c, h1, h2.below hb⟩
  | 43, v, h => h
  | 44, v, h => h
  | 45, v, h => h
  | n + 46, v, h => trivial
theorem inS_new (w : World) (ls : List Pt) : InS (w.alloc (.cells (flatS ls).toArray 97)) (some ⟨w.heap.size, 0, none⟩) ls.length ls.length ls :=
  ⟨rfl, Nat.le_refl _, (fun e => by cases e), fun _ => ⟨_, 0, rfl, by simp, range_row (heap_alloc_new w _)⟩⟩
theorem fill_spans (ls : List Pt) {i : TypeInfo} {z : Value} (hs : i.size = 2) (hl : ls.length ≤ 100000) : Instr.fill (fun j => some (j * i.size, i.size)) ((Array.range (ls.length * i.size)).map (z.cells[· % z.cells.size]!)) ((ls.map fun x => Value.agg (spC x).toArray).zipIdx.map fun x => (x.2, x.1)) = some (flatS ls).toArray := by
  rw [hs, Great.fill_whole (by omega) (ls.map fun x => Value.agg (spC x).toArray) _ (fun v hv => by
    obtain ⟨x, _, rfl⟩ := List.mem_map.1 hv
    rfl) (by simp)]
  congr 1
  unfold flatS
  rw [List.flatMap_map]
  rfl
theorem wpList_build_span1 {w : World} {ops : Array Oper} {rest : List Oper} {o : Oper} {a : Act} {Q : Exit → Act → World → Prop} (hg : o.guard = none) (x : Operand)
    (ho : o.op = .buildSlice 90 1 #[(0, x)]) (n : Pt) (hx : a.eval x = spnV (ptS n))
    (h : wpList Tryd.prog ops Q rest (a.put o.dst (.slice (some ⟨w.heap.size, 0, none⟩) 1 1)) (w.alloc (.cells (flatS [n]).toArray 97))) : wpList Tryd.prog ops Q (o :: rest) a w := by
  obtain ⟨i0, hi, hz, hs, _⟩ := info_span
  refine wpList_buildSlice hg 90 97 1 _ ho _ i0 _ Tryd.underlying90 hi hz (by rw [hs]; omega) (by rw [hs]; omega) ?_ h
  have e1 : (#[(0, x)].map fun (i, x) => (i, a.eval x)).toList = [(0, spnV (ptS n))] := by simp [hx]
  rw [e1]; exact fill_spans [n] hs (by simp)
theorem wpList_build_span2 {w : World} {ops : Array Oper} {rest : List Oper} {o : Oper} {a : Act} {Q : Exit → Act → World → Prop} (hg : o.guard = none) (x y : Operand)
    (ho : o.op = .buildSlice 90 2 #[(0, x), (1, y)]) (n m : Pt) (hx : a.eval x = spnV (ptS n)) (hy : a.eval y = spnV (ptS m))
    (h : wpList Tryd.prog ops Q rest (a.put o.dst (.slice (some ⟨w.heap.size, 0, none⟩) 2 2)) (w.alloc (.cells (flatS [n, m]).toArray 97))) : wpList Tryd.prog ops Q (o :: rest) a w := by
  obtain ⟨i0, hi, hz, hs, _⟩ := info_span
  refine wpList_buildSlice hg 90 97 2 _ ho _ i0 _ Tryd.underlying90 hi hz (by rw [hs]; omega) (by rw [hs]; omega) ?_ h
  have e1 : (#[(0, x), (1, y)].map fun (i, x) => (i, a.eval x)).toList = [(0, spnV (ptS n)), (1, spnV (ptS m))] := by simp [hx, hy]
  rw [e1]; exact fill_spans [n, m] hs (by simp)
set_option maxHeartbeats 16000000 in
theorem sane43 (w : World) (hT : Hid (Tabs w)) :
    Calls Tryd.prog 29 #[] w fun e w' => e = .returned (.bool true) ∧ Below w.heap.size w w' := by
  go_enter Tryd.func29, Tryd.ntmps29
  go_wp2_with fail
  refine (sample_any w hT).mono ?_
  rintro e U1 ⟨b, rfl, hok, hq⟩
  obtain ⟨q, HQ⟩ : ∃ q, Hid (rootR (nds43 sT) = q) := ⟨_, Lib.hid rfl⟩
  have HQO : Hid (NdOk q) := Lib.hid (by rw [← HQ.out]; exact rootR_ok nds43_ok)
  obtain ⟨R, HRR⟩ : ∃ r, Hid (sR = r) := ⟨_, Lib.hid rfl⟩
  have HRK : Hid (RtOk R) := Lib.hid (by rw [← HRR.out]; exact sR_ok)
  have HRL : Hid (R.lin = 3) := Lib.hid (by rw [← HRR.out]; rfl)
  have HRT : Hid (R.tree = q) := Lib.hid (by rw [← HRR.out, ← HQ.out]; rfl)
  obtain ⟨L2, HL2⟩ : ∃ l, Hid (shN sT 0 2 = l) := ⟨_, Lib.hid rfl⟩
  have HLN : Hid (L2.length = 2) := Lib.hid (by rw [← HL2.out]; exact sh43_02.2.2)
  have HVF : Hid (vfS R.lin R.tree 0 2 L2 = (6, 42, 0)) := Lib.hid (by rw [HRL.out, HRT.out, ← HL2.out, ← HQ.out]; exact vf43_02)
  have HL3 : Hid (shN sT 0 3 = [q]) := Lib.hid (by rw [← HQ.out]; exact sh43_03.2.2)
  rw [HRR.out]
  have HB1 := Lib.hid hq
  have KO1 := Lib.hid hok
  have KT1 := Lib.hid (hT.out.below hq)
  clear hok hq
  have HIT : Hid ((Tryd.prog.info? 27).map (·.size) = some (trC sT (sTp b)).toArray.size) := Lib.hid (trV_info sT _ rfl)
  have HST : Hid (38 = (trC sT (sTp b)).toArray.size) := Lib.hid (sT_size b).symm
  have HIR := Lib.hid (rtC_info HRK.out)
  have HSR : Hid ((Tryd.zeroCells35).size = (rtC R).toArray.size) := Lib.hid (by rw [← HRR.out, sR_size]; kernel_rfl)
  rw [show trV sT (sTp b) = .agg (trC sT (sTp b)).toArray from rfl]
  have ra0 := (Below.heap_alloc (U1.alloc (.cells zT38 27)) (.cells Tryd.zeroCells35 35) U1.heap.size (by simp)).trans (heap_alloc_new U1 (.cells zT38 27))
  have rb0 := heap_alloc_new (U1.alloc (.cells zT38 27)) (.cells Tryd.zeroCells35 35)
  rw [World.size_alloc] at rb0
  have hb0 := ((Below.refl _ U1).alloc (Nat.le_refl _) (.cells zT38 27)).alloc (by simp) (.cells Tryd.zeroCells35 35)
  obtain ⟨X2a, HX2a⟩ : ∃ V, Hid (((U1.alloc (.cells zT38 27)).alloc (.cells Tryd.zeroCells35 35)) = V) := ⟨_, Lib.hid rfl⟩
  rw [HX2a.out] at ra0 rb0 hb0
  have ra := Lib.hid ra0
  have rb1 := (setRow_other X2a U1.heap.size (U1.heap.size + 1) (trC sT (sTp b)).toArray (by omega)).trans rb0
  have ra1 := setRow_heap X2a U1.heap.size _ (trC sT (sTp b)).toArray _ _ ra0
  have hb1 := below_setRow hb0 (Nat.le_refl _) (trC sT (sTp b)).toArray
  obtain ⟨X2b, HX2b⟩ : ∃ V, Hid (X2a.setRow U1.heap.size (trC sT (sTp b)).toArray = V) := ⟨_, Lib.hid rfl⟩
  rw [HX2b.out] at ra1 rb1 hb1
  have rb := Lib.hid rb1
  have ra2 := (setRow_other X2b (U1.heap.size + 1) U1.heap.size (rtC R).toArray (by omega)).trans ra1
  have rb2 := setRow_heap X2b (U1.heap.size + 1) _ (rtC R).toArray _ _ rb1
  have hb := below_setRow hb1 (g := (U1.heap.size + 1)) (by omega) (rtC R).toArray
  obtain ⟨V2, HV2⟩ : ∃ V, Hid (X2b.setRow (U1.heap.size + 1) (rtC R).toArray = V) := ⟨_, Lib.hid rfl⟩
  rw [HV2.out] at ra2 rb2 hb
  clear ra0 rb0 hb0 ra1 rb1 hb1
  have HB3 := Lib.hid (HB1.out.trans (hb.mono HB1.out.size))
  have KO3 := Lib.hid (KO1.out.below hb)
  have KT3 := Lib.hid (KT1.out.below hb)
  have RT2 := Lib.hid ra2
  have RR2 := Lib.hid rb2
  clear ra2 rb2 hb HB1 KO1 KT1
  go_wp2_with (first | (rw [HX2a.out]) | (refine wpList_store_row rfl 27 (.tmp 1) (.tmp 25) rfl U1.heap.size (trC sT (sTp b)).toArray rfl rfl 27 _ ra.out HIT.out HST.out (trC_one _ _) ?_; rw [HX2b.out]) | (refine wpList_store_row rfl 35 (.tmp 2) (.tmp 26) rfl (U1.heap.size + 1) (rtC R).toArray rfl rfl 35 _ rb.out HIR.out HSR.out (rtC_one _) ?_; rw [HV2.out]) | (refine wpList_load_row rfl 27 (.tmp 1) rfl (U1.heap.size) rfl 27 _ (0, 0) _ RT2.out Tryd.underlying27 rfl HIT.out ?_))
  clear ra rb
  rw [show Value.agg (trC sT (sTp b)).toArray = trV sT (sTp b) from rfl]
  refine (show43 sT (sTp b) 0 2 _ KO3 KT3).mono ?_
  rintro e U4 ⟨A1, n1, c1, rfl, hin, hq⟩
  rw [sh43_02.1, sh43_02.2.1, if_pos rfl, if_pos rfl]
  rw [HL2.out] at hin
  have KP1 := Lib.hid hin
  have hn1 : n1 = 2 := by rw [← hin.len]; exact HLN.out
  clear hin
  have HB5 := Lib.hid (HB3.out.trans (hq.mono HB3.out.size))
  have RT5 := Lib.hid (row_kept RT2.out hq)
  have RR5 := Lib.hid (row_kept RR2.out hq)
  have KO5 := Lib.hid (KO3.out.below hq)
  have KT5 := Lib.hid (KT3.out.below hq)
  clear hq HB3 RT2 RR2 KO3 KT3
  subst hn1
  obtain ⟨V6, HV6⟩ : ∃ V, Hid (U4.alloc (.cells #[.int .i64 0, .int .i64 2, .slice A1 2 c1] 74) = V) := ⟨_, Lib.hid rfl⟩
  have hw := heap_alloc_new U4 (.cells #[.int .i64 0, .int .i64 2, .slice A1 2 c1] 74)
  have hb := (Below.refl _ U4).alloc (Nat.le_refl _) (.cells #[.int .i64 0, .int .i64 2, .slice A1 2 c1] 74)
  rw [HV6.out] at hw hb
  have HB7 := Lib.hid (HB5.out.trans (hb.mono HB5.out.size))
  have RT7 := Lib.hid (row_kept RT5.out hb)
  have RR7 := Lib.hid (row_kept RR5.out hb)
  have KO7 := Lib.hid (KO5.out.below hb)
  have KT7 := Lib.hid (KT5.out.below hb)
  have KP7 := Lib.hid (KP1.out.below hb)
  have RP6 := Lib.hid hw
  clear hw hb HB5 RT5 RR5 KO5 KT5 KP1
  have p0 := cell_of_row _ _ 0 _ _ _ RP6.out
  have p1 := cell_of_row _ _ 1 _ _ _ RP6.out
  have p2 := cell_of_row _ _ 2 _ _ _ RP6.out
  go_wp2_with (first | (rw [HV6.out]) | (refine wpList_load_row rfl 35 (.tmp 2) rfl ((U1.heap.size + 1)) rfl 35 _ (0, 0) _ RR7.out Tryd.underlying35 rfl HIR.out ?_))
  refine (verify43 R 0 2 _ _ _ L2 _ HRK KP7 KT7 (by rw [HLN.out]; omega)).mono ?_
  rintro e U8 ⟨rfl, hq⟩
  rw [HVF.out]
  clear p0 p1 p2
  have HB9 := Lib.hid (HB7.out.trans (hq.mono HB7.out.size))
  have RT9 := Lib.hid (row_kept RT7.out hq)
  have RR9 := Lib.hid (row_kept RR7.out hq)
  have RP9 := Lib.hid (row_kept RP6.out hq)
  have KO9 := Lib.hid (KO7.out.below hq)
  have KT9 := Lib.hid (KT7.out.below hq)
  have KP9 := Lib.hid (KP7.out.below hq)
  clear hq HB7 RT7 RR7 RP6 KO7 KT7 KP7
  have p0 := cell_of_row _ _ 0 _ _ _ RP9.out
  have p1 := cell_of_row _ _ 1 _ _ _ RP9.out
  have p2 := cell_of_row _ _ 2 _ _ _ RP9.out
  go_wp2_with (refine wpList_load_row rfl 35 (.tmp 2) rfl ((U1.heap.size + 1)) rfl 35 _ (0, 0) _ RR9.out Tryd.underlying35 rfl HIR.out ?_)
  refine (mean43 R 0 2 _ _ _ L2 _ HRK KP9 KT9 (by rw [HLN.out]; omega)).mono ?_
  rintro e U10 ⟨rfl, hq⟩
  rw [HVF.out, mn43_02]
  clear p0 p1 p2
  have HB11 := Lib.hid (HB9.out.trans (hq.mono HB9.out.size))
  have RT11 := Lib.hid (row_kept RT9.out hq)
  have RR11 := Lib.hid (row_kept RR9.out hq)
  have RP11 := Lib.hid (row_kept RP9.out hq)
  have KO11 := Lib.hid (KO9.out.below hq)
  have KT11 := Lib.hid (KT9.out.below hq)
  have KP11 := Lib.hid (KP9.out.below hq)
  clear hq HB9 RT9 RR9 RP9 KO9 KT9 KP9
  obtain ⟨V12, HV12⟩ : ∃ V, Hid (U10.alloc (.cells #[.int .i64 7, .int .i64 1] 83) = V) := ⟨_, Lib.hid rfl⟩
  have hw := heap_alloc_new U10 (.cells #[.int .i64 7, .int .i64 1] 83)
  have hb := (Below.refl _ U10).alloc (Nat.le_refl _) (.cells #[.int .i64 7, .int .i64 1] 83)
  rw [HV12.out] at hw hb
  have HB13 := Lib.hid (HB11.out.trans (hb.mono HB11.out.size))
  have RT13 := Lib.hid (row_kept RT11.out hb)
  have RR13 := Lib.hid (row_kept RR11.out hb)
  have RP13 := Lib.hid (row_kept RP11.out hb)
  have KO13 := Lib.hid (KO11.out.below hb)
  have KT13 := Lib.hid (KT11.out.below hb)
  have KP13 := Lib.hid (KP11.out.below hb)
  have RM12 := Lib.hid hw
  clear hw hb HB11 RT11 RR11 RP11 KO11 KT11 KP11
  go_wp2_with (first | (rw [HV12.out]) | (refine wpList_load_row rfl 27 (.tmp 1) rfl (U1.heap.size) rfl 27 _ (0, 0) _ RT13.out Tryd.underlying27 rfl HIT.out ?_))
  rw [show Value.agg (trC sT (sTp b)).toArray = trV sT (sTp b) from rfl]
  refine (show43 sT (sTp b) 0 3 _ KO13 KT13).mono ?_
  rintro e U14 ⟨A2, n2, c2, rfl, hin, hq⟩
  rw [sh43_03.1, sh43_03.2.1, if_pos rfl, if_pos rfl]
  rw [HL3.out] at hin
  have KQ1 := Lib.hid hin
  have hn2 : n2 = 1 := hin.len.symm
  clear hin
  have HB15 := Lib.hid (HB13.out.trans (hq.mono HB13.out.size))
  have RT15 := Lib.hid (row_kept RT13.out hq)
  have RR15 := Lib.hid (row_kept RR13.out hq)
  have RP15 := Lib.hid (row_kept RP13.out hq)
  have RM15 := Lib.hid (row_kept RM12.out hq)
  have KO15 := Lib.hid (KO13.out.below hq)
  have KT15 := Lib.hid (KT13.out.below hq)
  have KP15 := Lib.hid (KP13.out.below hq)
  clear hq HB13 RT13 RR13 RP13 RM12 KO13 KT13 KP13
  subst hn2
  obtain ⟨V16, HV16⟩ : ∃ V, Hid (U14.alloc (.cells #[.int .i64 0, .int .i64 3, .slice A2 1 c2] 74) = V) := ⟨_, Lib.hid rfl⟩
  have hw := heap_alloc_new U14 (.cells #[.int .i64 0, .int .i64 3, .slice A2 1 c2] 74)
  have hb := (Below.refl _ U14).alloc (Nat.le_refl _) (.cells #[.int .i64 0, .int .i64 3, .slice A2 1 c2] 74)
  rw [HV16.out] at hw hb
  have HB17 := Lib.hid (HB15.out.trans (hb.mono HB15.out.size))
  have RT17 := Lib.hid (row_kept RT15.out hb)
  have RR17 := Lib.hid (row_kept RR15.out hb)
  have RP17 := Lib.hid (row_kept RP15.out hb)
  have RM17 := Lib.hid (row_kept RM15.out hb)
  have KO17 := Lib.hid (KO15.out.below hb)
  have KT17 := Lib.hid (KT15.out.below hb)
  have KP17 := Lib.hid (KP15.out.below hb)
  have KQ17 := Lib.hid (KQ1.out.below hb)
  have RQ16 := Lib.hid hw
  clear hw hb HB15 RT15 RR15 RP15 RM15 KO15 KT15 KP15 KQ1
  go_wp2_with (rw [HV16.out])
  refine (cover_no 0 0 5 _ (by omega)).mono ?_
  rintro e U18 ⟨rfl, hq⟩
  have HB19 := Lib.hid (HB17.out.trans (hq.mono HB17.out.size))
  have RT19 := Lib.hid (row_kept RT17.out hq)
  have RR19 := Lib.hid (row_kept RR17.out hq)
  have RP19 := Lib.hid (row_kept RP17.out hq)
  have RM19 := Lib.hid (row_kept RM17.out hq)
  have RQ19 := Lib.hid (row_kept RQ16.out hq)
  have KO19 := Lib.hid (KO17.out.below hq)
  have KT19 := Lib.hid (KT17.out.below hq)
  have KP19 := Lib.hid (KP17.out.below hq)
  have KQ19 := Lib.hid (KQ17.out.below hq)
  clear hq HB17 RT17 RR17 RP17 RM17 RQ16 KO17 KT17 KP17 KQ17
  go_wp2_with fail
  refine (cover_yes 0 5 5 _ (by omega) (by omega) (by omega)).mono ?_
  rintro e U20 ⟨A4, n4, c4, rfl, hin, hq⟩
  rw [cov43_a] at hin
  have KC1 := Lib.hid hin
  have hn4 : n4 = 1 := hin.len.symm
  clear hin
  have HB21 := Lib.hid (HB19.out.trans (hq.mono HB19.out.size))
  have RT21 := Lib.hid (row_kept RT19.out hq)
  have RR21 := Lib.hid (row_kept RR19.out hq)
  have RP21 := Lib.hid (row_kept RP19.out hq)
  have RM21 := Lib.hid (row_kept RM19.out hq)
  have RQ21 := Lib.hid (row_kept RQ19.out hq)
  have KO21 := Lib.hid (KO19.out.below hq)
  have KT21 := Lib.hid (KT19.out.below hq)
  have KP21 := Lib.hid (KP19.out.below hq)
  have KQ21 := Lib.hid (KQ19.out.below hq)
  clear hq HB19 RT19 RR19 RP19 RM19 RQ19 KO19 KT19 KP19 KQ19
  subst hn4
  go_wp2_with fail
  refine (cover_yes 2 6 6 _ (by omega) (by omega) (by omega)).mono ?_
  rintro e U22 ⟨A5, n5, c5, rfl, hin, hq⟩
  rw [cov43_b] at hin
  have KD1 := Lib.hid hin
  have hn5 : n5 = 2 := hin.len.symm
  clear hin
  have HB23 := Lib.hid (HB21.out.trans (hq.mono HB21.out.size))
  have RT23 := Lib.hid (row_kept RT21.out hq)
  have RR23 := Lib.hid (row_kept RR21.out hq)
  have RP23 := Lib.hid (row_kept RP21.out hq)
  have RM23 := Lib.hid (row_kept RM21.out hq)
  have RQ23 := Lib.hid (row_kept RQ21.out hq)
  have KO23 := Lib.hid (KO21.out.below hq)
  have KT23 := Lib.hid (KT21.out.below hq)
  have KP23 := Lib.hid (KP21.out.below hq)
  have KQ23 := Lib.hid (KQ21.out.below hq)
  have KC23 := Lib.hid (KC1.out.below hq)
  clear hq HB21 RT21 RR21 RP21 RM21 RQ21 KO21 KT21 KP21 KQ21 KC1
  subst hn5
  go_wp2_with (refine wpList_build_eT rfl rfl ?_)
  refine (show43 eT peT3 0 1 _ (Lib.hid (eT_ok _)) KT23).mono ?_
  rintro e U24 ⟨A6, n6, c6, rfl, hin, hq⟩
  rw [sh43_e.1, sh43_e.2]
  simp only [Bool.false_eq_true, if_false]
  clear hin
  have HB25 := Lib.hid (HB23.out.trans (hq.mono HB23.out.size))
  have RT25 := Lib.hid (row_kept RT23.out hq)
  have RR25 := Lib.hid (row_kept RR23.out hq)
  have RP25 := Lib.hid (row_kept RP23.out hq)
  have RM25 := Lib.hid (row_kept RM23.out hq)
  have RQ25 := Lib.hid (row_kept RQ23.out hq)
  have KO25 := Lib.hid (KO23.out.below hq)
  have KT25 := Lib.hid (KT23.out.below hq)
  have KP25 := Lib.hid (KP23.out.below hq)
  have KQ25 := Lib.hid (KQ23.out.below hq)
  have KC25 := Lib.hid (KC23.out.below hq)
  have KD25 := Lib.hid (KD1.out.below hq)
  clear hq HB23 RT23 RR23 RP23 RM23 RQ23 KO23 KT23 KP23 KQ23 KC23 KD1
  obtain ⟨V26, HV26⟩ : ∃ V, Hid (U24.alloc (.cells #[.int .i64 0, .int .i64 0, .slice A6 n6 c6] 74) = V) := ⟨_, Lib.hid rfl⟩
  have hw := heap_alloc_new U24 (.cells #[.int .i64 0, .int .i64 0, .slice A6 n6 c6] 74)
  have hb := (Below.refl _ U24).alloc (Nat.le_refl _) (.cells #[.int .i64 0, .int .i64 0, .slice A6 n6 c6] 74)
  rw [HV26.out] at hw hb
  have HB27 := Lib.hid (HB25.out.trans (hb.mono HB25.out.size))
  have RT27 := Lib.hid (row_kept RT25.out hb)
  have RR27 := Lib.hid (row_kept RR25.out hb)
  have RP27 := Lib.hid (row_kept RP25.out hb)
  have RM27 := Lib.hid (row_kept RM25.out hb)
  have RQ27 := Lib.hid (row_kept RQ25.out hb)
  have KO27 := Lib.hid (KO25.out.below hb)
  have KT27 := Lib.hid (KT25.out.below hb)
  have KP27 := Lib.hid (KP25.out.below hb)
  have KQ27 := Lib.hid (KQ25.out.below hb)
  have KC27 := Lib.hid (KC25.out.below hb)
  have KD27 := Lib.hid (KD25.out.below hb)
  have RE26 := Lib.hid hw
  clear hw hb HB25 RT25 RR25 RP25 RM25 RQ25 KO25 KT25 KP25 KQ25 KC25 KD25
  go_wp2_with (first | (rw [HV26.out]) | (refine wpList_build_z43 rfl rfl ?_))
  refine (verify43 (rt43 0 zeroN) 0 0 none 0 0 [] _ (Lib.hid (rt43_ok (by unfold I64; omega) zeroN_ok)) (Lib.hid ⟨rfl, Nat.le_refl _, (fun _ => rfl), (fun x hx => by cases hx), (fun h => by simp at h)⟩) KT27 (by simp)).mono ?_
  rintro e U28 ⟨rfl, hq⟩
  rw [show vfS (rt43 0 zeroN).lin (rt43 0 zeroN).tree 0 0 [] = (0, 0, 430) from vf43_z]
  have HB29 := Lib.hid (HB27.out.trans (hq.mono HB27.out.size))
  have RT29 := Lib.hid (row_kept RT27.out hq)
  have RR29 := Lib.hid (row_kept RR27.out hq)
  have RP29 := Lib.hid (row_kept RP27.out hq)
  have RM29 := Lib.hid (row_kept RM27.out hq)
  have RQ29 := Lib.hid (row_kept RQ27.out hq)
  have RE29 := Lib.hid (row_kept RE26.out hq)
  have KO29 := Lib.hid (KO27.out.below hq)
  have KT29 := Lib.hid (KT27.out.below hq)
  have KP29 := Lib.hid (KP27.out.below hq)
  have KQ29 := Lib.hid (KQ27.out.below hq)
  have KC29 := Lib.hid (KC27.out.below hq)
  have KD29 := Lib.hid (KD27.out.below hq)
  clear hq HB27 RT27 RR27 RP27 RM27 RQ27 RE26 KO27 KT27 KP27 KQ27 KC27 KD27
  go_wp2_with fail
  obtain ⟨g2, o2, rfl, hg2, hr2⟩ := KQ29.out.rd (by simp)
  have HG2 := Lib.hid hg2
  have HN2 := Lib.hid hr2
  clear hg2 hr2
  obtain ⟨zr, HZzr⟩ : ∃ q, Hid ((U1.heap.size + 1) = q) := ⟨_, Lib.hid rfl⟩
  have HRzr := RR29
  rw [HZzr.out] at HRzr
  obtain ⟨zp, HZzp⟩ : ∃ q, Hid (U4.heap.size = q) := ⟨_, Lib.hid rfl⟩
  have HRzp := RP29
  rw [HZzp.out] at HRzp
  obtain ⟨zm, HZzm⟩ : ∃ q, Hid (U10.heap.size = q) := ⟨_, Lib.hid rfl⟩
  have HRzm := RM29
  rw [HZzm.out] at HRzm
  obtain ⟨zq, HZzq⟩ : ∃ q, Hid (U14.heap.size = q) := ⟨_, Lib.hid rfl⟩
  have HRzq := RQ29
  rw [HZzq.out] at HRzq
  rw [HZzr.out, HZzp.out, HZzm.out, HZzq.out]
  have HS34 := Lib.hid (size34 HQO.out)
  have HB0 := Lib.hid (Below.refl U28.heap.size U28).drew
  have HNQ : Hid (U28.rangeAt g2 o2 (ndC q)) := Lib.hid (by have h := HN2.out; unfold flatN at h; simpa using h)
  have HNR : Hid (U28.rangeAt zr 6 (ndC q)) := Lib.hid (by rw [← HRT.out]; exact rt_tree HRzr.out)
  have HGR : Hid (zr < U28.heap.size) := Lib.hid (Array.getElem?_eq_some_iff.1 HRzr.out).1
  refine region_flow3 (by kernel_rfl) (by kernel_rfl) (fun i => Nat.beq i 45) (fun i => i) (by kernel_rfl) (fun fx => #[fx 45, Value.pointer (some { block := U1.heap.size, off := 0 }), Value.pointer (some { block := zr, off := 0 }), Value.pointer (some { block := zp, off := 0 }), Value.int IntKind.i64 0, Value.int IntKind.i64 6, Value.int IntKind.i64 42, Value.int IntKind.i64 0, Value.pointer (some { block := zm, off := 0 }), Value.int IntKind.i64 0, Value.pointer (some { block := zq, off := 0 }), Value.int IntKind.i64 0, Value.slice none 0 0, Value.int IntKind.i64 430, Value.slice A4 1 c4, Value.int IntKind.i64 0, Value.slice A5 2 c5, Value.int IntKind.i64 0, Value.pointer (some { block := U24.heap.size, off := 0 }), Value.int IntKind.i64 430, Value.int IntKind.i64 0, Value.int IntKind.i64 0, Value.int IntKind.i64 430, Value.tuple #[trV sT (sTp b), Value.agg (rtC R).toArray], Value.tuple #[trV sT (sTp b), Value.agg (rtC R).toArray], trV sT (sTp b), Value.agg (rtC R).toArray, Value.tuple #[Value.agg #[Value.int IntKind.i64 0, Value.int IntKind.i64 2, Value.slice A1 2 c1], Value.int IntKind.i64 0], trV sT (sTp b), Value.tuple #[Value.agg #[Value.int IntKind.i64 0, Value.int IntKind.i64 2, Value.slice A1 2 c1], Value.int IntKind.i64 0], Value.agg #[Value.int IntKind.i64 0, Value.int IntKind.i64 2, Value.slice A1 2 c1], Value.int IntKind.i64 0, Value.tuple #[Value.int IntKind.i64 6, Value.int IntKind.i64 42, Value.int IntKind.i64 0], Value.agg (rtC R).toArray, Value.agg #[Value.int IntKind.i64 0, Value.int IntKind.i64 2, Value.slice A1 2 c1], Value.tuple #[Value.int IntKind.i64 6, Value.int IntKind.i64 42, Value.int IntKind.i64 0], Value.int IntKind.i64 6, Value.int IntKind.i64 42, Value.int IntKind.i64 0, Value.tuple #[Value.agg #[Value.int IntKind.i64 7, Value.int IntKind.i64 1], Value.int IntKind.i64 0], Value.agg (rtC R).toArray, Value.agg #[Value.int IntKind.i64 0, Value.int IntKind.i64 2, Value.slice A1 2 c1], Value.tuple #[Value.agg #[Value.int IntKind.i64 7, Value.int IntKind.i64 1], Value.int IntKind.i64 0], Value.agg #[Value.int IntKind.i64 7, Value.int IntKind.i64 1], Value.int IntKind.i64 0, Value.tuple #[Value.agg #[Value.int IntKind.i64 0, Value.int IntKind.i64 3, Value.slice (some { block := g2, off := o2 }) 1 c2], Value.int IntKind.i64 0], trV sT (sTp b), Value.tuple #[Value.agg #[Value.int IntKind.i64 0, Value.int IntKind.i64 3, Value.slice (some { block := g2, off := o2 }) 1 c2], Value.int IntKind.i64 0], Value.agg #[Value.int IntKind.i64 0, Value.int IntKind.i64 3, Value.slice (some { block := g2, off := o2 }) 1 c2], Value.int IntKind.i64 0, Value.tuple #[Value.slice none 0 0, Value.int IntKind.i64 430], Value.tuple #[Value.slice none 0 0, Value.int IntKind.i64 430], Value.slice none 0 0, Value.int IntKind.i64 430, Value.tuple #[Value.slice A4 1 c4, Value.int IntKind.i64 0], Value.tuple #[Value.slice A4 1 c4, Value.int IntKind.i64 0], Value.slice A4 1 c4, Value.int IntKind.i64 0, Value.tuple #[Value.slice A5 2 c5, Value.int IntKind.i64 0], Value.tuple #[Value.slice A5 2 c5, Value.int IntKind.i64 0], Value.slice A5 2 c5, Value.int IntKind.i64 0, Value.tuple #[Value.agg #[Value.int IntKind.i64 0, Value.int IntKind.i64 0, Value.slice A6 n6 c6], Value.int IntKind.i64 430], trV eT peT3, Value.tuple #[Value.agg #[Value.int IntKind.i64 0, Value.int IntKind.i64 0, Value.slice A6 n6 c6], Value.int IntKind.i64 430], Value.agg #[Value.int IntKind.i64 0, Value.int IntKind.i64 0, Value.slice A6 n6 c6], Value.int IntKind.i64 430, Value.tuple #[Value.int IntKind.i64 0, Value.int IntKind.i64 0, Value.int IntKind.i64 430], Value.agg (rtC (rt43 0 zeroN)).toArray, Value.agg #[Value.int IntKind.i64 0, Value.int IntKind.i64 0, Value.slice none 0 0], Value.tuple #[Value.int IntKind.i64 0, Value.int IntKind.i64 0, Value.int IntKind.i64 430], Value.int IntKind.i64 0, Value.int IntKind.i64 0, Value.int IntKind.i64 430, Value.int IntKind.i64 0, Value.bool false, Value.bool false, Value.int IntKind.i64 0, Value.bool false, Value.bool false, Value.bool false, Value.int IntKind.i64 0, Value.bool false, Value.bool false, Value.bool false, Value.int IntKind.i64 0, Value.bool false, Value.bool false, Value.bool false, Value.int IntKind.i64 430, Value.bool false, Value.bool false, Value.bool false, Value.int IntKind.i64 0, Value.bool false, Value.bool false, Value.bool false, Value.int IntKind.i64 0, Value.bool false, Value.bool false, Value.bool false, Value.int IntKind.i64 430, Value.bool false, Value.bool false, Value.bool false, Value.int IntKind.i64 430, Value.bool false, Value.bool false, fx 0, fx 1, fx 2, fx 3, fx 4, fx 5, fx 6, fx 7, fx 8, fx 9, fx 10, fx 11, fx 12, fx 13, fx 14, fx 15, fx 16, fx 17, fx 18, fx 19, fx 20, fx 21, fx 22, fx 23, fx 24, fx 25, fx 26, fx 27, fx 28, fx 29, fx 30, fx 31, fx 32, fx 33, fx 34, fx 35, fx 36, fx 37, fx 38, fx 39, fx 40, fx 41, fx 42, fx 43, fx 44]) (fun i => bif Nat.beq i 45 then Value.bool false else undef) (fun _ _ w' => Below U28.heap.size U28 w') (fun fi fv _ fw => sS43 zp zq zr g2 o2 c1 c2 c4 c5 A1 A4 A5 q fi fv fw) HB0.out ?_ ?_
  · refine ⟨?_, ?_, ?_, ?_, ?_, ?_, ?_, ?_, ?_, ?_, ?_, ?_, ?_, ?_, ?_, ?_, ?_, ?_, ?_, ?_, ?_, ?_, ?_, ?_, ?_, ?_, ?_, ?_, ?_, ?_, ?_, ?_, ?_, ?_, ?_, ?_, ?_, ?_, ?_, ?_, ?_, ?_, ?_, ?_, ?_, ?_, trivial⟩
    all_goals intro L fx w' hC hi hcl hdn hd
    · clear hd
      go_wp2_with fail
      exact ⟨_, rfl, hC, rfl, fun _ _ _ _ _ h => h⟩
    · have h0 : fx 0 = Value.int .i64 (6) := hd.1 rfl
      clear hd
      go_wp2_with fail
      exact ⟨_, by simp only [upd, h0]; rfl, hC, rfl, fun _ _ _ _ _ h => h⟩
    · have h1 : fx 1 = Value.bool true := hd.1 rfl
      clear hd
      go_wp2_with fail
      exact ⟨_, by simp only [upd, h1]; rfl, hC, rfl, fun _ _ _ _ _ h => h⟩
    · have h2 : fx 2 = Value.bool true := hd.1 rfl
      dsimp only
      rw [h2]
      refine wpList_unguard rfl ?_
      clear hd
      go_wp2_with fail
      exact ⟨_, by simp only [upd, h2]; rfl, hC, rfl, fun _ _ _ _ _ h => h⟩
    · have h3 : fx 3 = Value.int .i64 (42) := hd.1 rfl
      have h2 : fx 2 = Value.bool true := hd.2.1 rfl
      dsimp only
      rw [h2]
      refine wpList_unguard rfl ?_
      clear hd
      go_wp2_with fail
      exact ⟨_, by simp only [upd, h3, h2]; rfl, hC, rfl, fun _ _ _ _ _ h => h⟩
    · have h2 : fx 2 = Value.bool true := hd.1 rfl
      have h4 : fx 4 = Value.bool true := hd.2.1 rfl
      clear hd
      go_wp2_with fail
      exact ⟨_, by simp only [upd, h2, h4]; rfl, hC, rfl, fun _ _ _ _ _ h => h⟩
    · have h5 : fx 5 = Value.bool true := hd.1 rfl
      clear hd
      go_wp2_with fail
      exact ⟨_, by simp only [upd, h5]; rfl, hC, rfl, fun _ _ _ _ _ h => h⟩
    · have h6 : fx 6 = Value.bool true := hd.1 rfl
      dsimp only
      rw [h6]
      refine wpList_unguard rfl ?_
      have hc0 : w'.cell? ⟨zm, 0, none⟩ = some (.int .i64 7) := by rw [cell_of_row _ _ _ _ _ _ (row_kept HRzm.out hC)]; rfl
      have hc1 : w'.cell? ⟨zm, 1, none⟩ = some (.int .i64 1) := by rw [cell_of_row _ _ _ _ _ _ (row_kept HRzm.out hC)]; rfl
      clear hd
      go_wp2_with fail
      exact ⟨_, by simp only [upd, h6]; rfl, hC, rfl, fun _ _ _ _ _ h => h⟩
    · have h6 : fx 6 = Value.bool true := hd.1 rfl
      dsimp only
      rw [h6]
      refine wpList_unguard rfl ?_
      clear hd
      go_wp2_with fail
      exact ⟨_, by simp only [upd, h6]; rfl, hC, rfl, fun _ _ _ _ _ h => h⟩
    · have h7 : fx 7 = raV ⟨7, 1⟩ := hd.1 rfl
      have h8 : fx 8 = raV ⟨7, 1⟩ := hd.2.1 rfl
      have h6 : fx 6 = Value.bool true := hd.2.2.1 rfl
      dsimp only
      rw [h6]
      refine wpList_unguard rfl ?_
      refine wpList_eql_ra rfl (.tmp 115) (.tmp 116) _ rfl ⟨7, 1⟩ ⟨7, 1⟩ h7 h8 ?_
      rw [raEq_refl]
      clear hd
      go_wp2_with fail
      exact ⟨_, by simp only [upd, h7, h8, h6]; rfl, hC, rfl, fun _ _ _ _ _ h => h⟩
    · have h6 : fx 6 = Value.bool true := hd.1 rfl
      have h9 : fx 9 = Value.bool true := hd.2.1 rfl
      clear hd
      go_wp2_with fail
      exact ⟨_, by simp only [upd, h6, h9]; rfl, hC, rfl, fun _ _ _ _ _ h => h⟩
    · have h10 : fx 10 = Value.bool true := hd.1 rfl
      clear hd
      go_wp2_with fail
      exact ⟨_, by simp only [upd, h10]; rfl, hC, rfl, fun _ _ _ _ _ h => h⟩
    · have h11 : fx 11 = Value.bool true := hd.1 rfl
      dsimp only
      rw [h11]
      refine wpList_unguard rfl ?_
      clear hd
      go_wp2_with fail
      exact ⟨_, by simp only [upd, h11]; rfl, hC, rfl, fun _ _ _ _ _ h => h⟩
    · have h12 : fx 12 = Value.pointer (some ⟨zp, 2, none⟩) := hd.1 rfl
      have h11 : fx 11 = Value.bool true := hd.2.1 rfl
      dsimp only
      rw [h11]
      refine wpList_unguard rfl ?_
      have hcc : w'.cell? ⟨zp, 2, none⟩ = some (Value.slice A1 2 c1) := by rw [cell_of_row _ _ _ _ _ _ (row_kept HRzp.out hC)]; rfl
      clear hd
      go_wp2_with fail
      exact ⟨_, by simp only [upd, h12, h11]; rfl, hC, rfl, fun _ _ _ _ _ h => h⟩
    · have h13 : fx 13 = Value.slice A1 2 c1 := hd.1 rfl
      have h11 : fx 11 = Value.bool true := hd.2.1 rfl
      dsimp only
      rw [h11]
      refine wpList_unguard rfl ?_
      clear hd
      go_wp2_with fail
      exact ⟨_, by simp only [upd, h13, h11]; rfl, hC, rfl, fun _ _ _ _ _ h => h⟩
    · have h14 : fx 14 = Value.int .i64 (2) := hd.1 rfl
      have h11 : fx 11 = Value.bool true := hd.2.1 rfl
      dsimp only
      rw [h11]
      refine wpList_unguard rfl ?_
      clear hd
      go_wp2_with fail
      exact ⟨_, by simp only [upd, h14, h11]; rfl, hC, rfl, fun _ _ _ _ _ h => h⟩
    · have h11 : fx 11 = Value.bool true := hd.1 rfl
      have h15 : fx 15 = Value.bool true := hd.2.1 rfl
      clear hd
      go_wp2_with fail
      exact ⟨_, by simp only [upd, h11, h15]; rfl, hC, rfl, fun _ _ _ _ _ h => h⟩
    · have h16 : fx 16 = Value.bool true := hd.1 rfl
      clear hd
      go_wp2_with fail
      exact ⟨_, by simp only [upd, h16]; rfl, hC, rfl, fun _ _ _ _ _ h => h⟩
    · have h17 : fx 17 = Value.bool true := hd.1 rfl
      dsimp only
      rw [h17]
      refine wpList_unguard rfl ?_
      clear hd
      go_wp2_with fail
      exact ⟨_, by simp only [upd, h17]; rfl, hC, rfl, fun _ _ _ _ _ h => h⟩
    · have h18 : fx 18 = Value.pointer (some ⟨zq, 2, none⟩) := hd.1 rfl
      have h17 : fx 17 = Value.bool true := hd.2.1 rfl
      dsimp only
      rw [h17]
      refine wpList_unguard rfl ?_
      have hcc : w'.cell? ⟨zq, 2, none⟩ = some (Value.slice (some ⟨g2, o2, none⟩) 1 c2) := by rw [cell_of_row _ _ _ _ _ _ (row_kept HRzq.out hC)]; rfl
      clear hd
      go_wp2_with fail
      exact ⟨_, by simp only [upd, h18, h17]; rfl, hC, rfl, fun _ _ _ _ _ h => h⟩
    · have h19 : fx 19 = Value.slice (some ⟨g2, o2, none⟩) 1 c2 := hd.1 rfl
      have h17 : fx 17 = Value.bool true := hd.2.1 rfl
      dsimp only
      rw [h17]
      refine wpList_unguard rfl ?_
      clear hd
      go_wp2_with fail
      exact ⟨_, by simp only [upd, h19, h17]; rfl, hC, rfl, fun _ _ _ _ _ h => h⟩
    · have h20 : fx 20 = Value.int .i64 (1) := hd.1 rfl
      have h17 : fx 17 = Value.bool true := hd.2.1 rfl
      dsimp only
      rw [h17]
      refine wpList_unguard rfl ?_
      clear hd
      go_wp2_with fail
      exact ⟨_, by simp only [upd, h20, h17]; rfl, hC, rfl, fun _ _ _ _ _ h => h⟩
    · have h17 : fx 17 = Value.bool true := hd.1 rfl
      have h21 : fx 21 = Value.bool true := hd.2.1 rfl
      clear hd
      go_wp2_with fail
      exact ⟨_, by simp only [upd, h17, h21]; rfl, hC, rfl, fun _ _ _ _ _ h => h⟩
    · have h22 : fx 22 = Value.bool true := hd.1 rfl
      clear hd
      go_wp2_with fail
      exact ⟨_, by simp only [upd, h22]; rfl, hC, rfl, fun _ _ _ _ _ h => h⟩
    · have h23 : fx 23 = Value.bool true := hd.1 rfl
      dsimp only
      rw [h23]
      refine wpList_unguard rfl ?_
      clear hd
      go_wp2_with fail
      exact ⟨_, by simp only [upd, h23]; rfl, hC, rfl, fun _ _ _ _ _ h => h⟩
    · have h24 : fx 24 = Value.pointer (some ⟨zq, 2, none⟩) := hd.1 rfl
      have h23 : fx 23 = Value.bool true := hd.2.1 rfl
      dsimp only
      rw [h23]
      refine wpList_unguard rfl ?_
      have hcc : w'.cell? ⟨zq, 2, none⟩ = some (Value.slice (some ⟨g2, o2, none⟩) 1 c2) := by rw [cell_of_row _ _ _ _ _ _ (row_kept HRzq.out hC)]; rfl
      clear hd
      go_wp2_with fail
      exact ⟨_, by simp only [upd, h24, h23]; rfl, hC, rfl, fun _ _ _ _ _ h => h⟩
    · have h25 : fx 25 = Value.slice (some ⟨g2, o2, none⟩) 1 c2 := hd.1 rfl
      have h23 : fx 23 = Value.bool true := hd.2.1 rfl
      dsimp only
      rw [h23]
      refine wpList_unguard rfl ?_
      clear hd
      go_wp2_with fail
      exact ⟨_, by simp only [upd, h25, h23]; rfl, hC, rfl, fun _ _ _ _ _ h => h⟩
    · have h26 : fx 26 = Value.pointer (some ⟨g2, o2, none⟩) := hd.1 rfl
      have h23 : fx 23 = Value.bool true := hd.2.1 rfl
      dsimp only
      rw [h23]
      refine wpList_unguard rfl ?_
      have hr := rangeAt_below HNQ.out HG2.out hC
      refine wpList_load_mid rfl 31 (.tmp 134) rfl (g2) (o2) h26 (ndC q) _ hr Tryd.underlying31 rfl HS34.out ?_
      clear hr
      clear hd
      go_wp2_with fail
      exact ⟨_, by simp only [upd, h26, h23]; rfl, hC, rfl, fun _ _ _ _ _ h => h⟩
    · have h23 : fx 23 = Value.bool true := hd.1 rfl
      dsimp only
      rw [h23]
      refine wpList_unguard rfl ?_
      clear hd
      go_wp2_with fail
      exact ⟨_, by simp only [upd, h23]; rfl, hC, rfl, fun _ _ _ _ _ h => h⟩
    · have h28 : fx 28 = Value.pointer (some ⟨zr, 6, none⟩) := hd.1 rfl
      have h23 : fx 23 = Value.bool true := hd.2.1 rfl
      dsimp only
      rw [h23]
      refine wpList_unguard rfl ?_
      have hr := rangeAt_below HNR.out HGR.out hC
      refine wpList_load_mid rfl 31 (.tmp 136) rfl (zr) (6) h28 (ndC q) _ hr Tryd.underlying31 rfl HS34.out ?_
      clear hr
      clear hd
      go_wp2_with fail
      exact ⟨_, by simp only [upd, h28, h23]; rfl, hC, rfl, fun _ _ _ _ _ h => h⟩
    · have h27 : fx 27 = ndV q := hd.1 rfl
      have h29 : fx 29 = ndV q := hd.2.1 rfl
      have h23 : fx 23 = Value.bool true := hd.2.2.1 rfl
      dsimp only
      rw [h23]
      refine wpList_unguard rfl ?_
      refine wpList_eql_nd rfl (.tmp 135) (.tmp 137) _ rfl q q h27 h29 HQO.out HQO.out ?_
      rw [ndEq_refl]
      clear hd
      go_wp2_with fail
      exact ⟨_, by simp only [upd, h27, h29, h23]; rfl, hC, rfl, fun _ _ _ _ _ h => h⟩
    · have h23 : fx 23 = Value.bool true := hd.1 rfl
      have h30 : fx 30 = Value.bool true := hd.2.1 rfl
      clear hd
      go_wp2_with fail
      exact ⟨_, by simp only [upd, h23, h30]; rfl, hC, rfl, fun _ _ _ _ _ h => h⟩
    · have h31 : fx 31 = Value.bool true := hd.1 rfl
      clear hd
      go_wp2_with fail
      exact ⟨_, by simp only [upd, h31]; rfl, hC, rfl, fun _ _ _ _ _ h => h⟩
    · have h32 : fx 32 = Value.bool true := hd.1 rfl
      dsimp only
      rw [h32]
      refine wpList_unguard rfl ?_
      clear hd
      go_wp2_with fail
      exact ⟨_, by simp only [upd, h32]; rfl, hC, rfl, fun _ _ _ _ _ h => h⟩
    · have h32 : fx 32 = Value.bool true := hd.1 rfl
      dsimp only
      rw [h32]
      refine wpList_unguard rfl ?_
      clear hd
      go_wp2_with fail
      exact ⟨_, by simp only [upd, h32]; rfl, hC, rfl, fun _ _ _ _ _ h => h⟩
    · have h34 : fx 34 = spnV ⟨0, 5⟩ := hd.1 rfl
      have h32 : fx 32 = Value.bool true := hd.2.1 rfl
      dsimp only
      rw [h32]
      refine wpList_unguard rfl ?_
      refine wpList_build_span1 rfl (.tmp 142) rfl ⟨0, 5, true⟩ h34 ?_
      have hb := (Below.refl _ w').alloc (Nat.le_refl _) (.cells (flatS [⟨0, 5, true⟩]).toArray 97)
      have hi3 := inS_new w' [⟨0, 5, true⟩]
      clear hd
      go_wp2_with fail
      exact ⟨_, by simp only [upd, h34, h32]; rfl, hC.trans (hb.mono hC.size), ⟨_, _, rfl, hi3⟩, fun j v t _ _ h => sS43_below hb j v h⟩
    · have h33 : fx 33 = Value.slice A4 1 c4 := hd.1 rfl
      have H35 := Lib.hid (hd.2.1 rfl)
      have h32 : fx 32 = Value.bool true := hd.2.2.2.1 rfl
      dsimp only
      rw [h32]
      refine wpList_unguard rfl ?_
      obtain ⟨A7, c7, h35, hin7⟩ := H35.out
      have HA := Lib.hid (KC29.out.below hC)
      clear hd
      go_wp2_with fail
      refine (samespans_yes _ A7 1 _ c7 _ _ w' HA (Lib.hid hin7) (Lib.hid rfl) (by omega)).mono ?_
      rintro e w2 ⟨rfl, hq⟩
      go_wp2_with fail
      exact ⟨_, by simp only [upd, h33, h32, h35]; rfl, hC.trans (hq.mono hC.size), rfl, fun j v t _ _ h => sS43_below hq j v h⟩
    · have h32 : fx 32 = Value.bool true := hd.1 rfl
      have h36 : fx 36 = Value.bool true := hd.2.1 rfl
      clear hd
      go_wp2_with fail
      exact ⟨_, by simp only [upd, h32, h36]; rfl, hC, rfl, fun _ _ _ _ _ h => h⟩
    · have h37 : fx 37 = Value.bool true := hd.1 rfl
      clear hd
      go_wp2_with fail
      exact ⟨_, by simp only [upd, h37]; rfl, hC, rfl, fun _ _ _ _ _ h => h⟩
    · have h38 : fx 38 = Value.bool true := hd.1 rfl
      dsimp only
      rw [h38]
      refine wpList_unguard rfl ?_
      clear hd
      go_wp2_with fail
      exact ⟨_, by simp only [upd, h38]; rfl, hC, rfl, fun _ _ _ _ _ h => h⟩
    · have h38 : fx 38 = Value.bool true := hd.1 rfl
      dsimp only
      rw [h38]
      refine wpList_unguard rfl ?_
      clear hd
      go_wp2_with fail
      exact ⟨_, by simp only [upd, h38]; rfl, hC, rfl, fun _ _ _ _ _ h => h⟩
    · have h38 : fx 38 = Value.bool true := hd.1 rfl
      dsimp only
      rw [h38]
      refine wpList_unguard rfl ?_
      clear hd
      go_wp2_with fail
      exact ⟨_, by simp only [upd, h38]; rfl, hC, rfl, fun _ _ _ _ _ h => h⟩
    · have h40 : fx 40 = spnV ⟨2, 4⟩ := hd.1 rfl
      have h41 : fx 41 = spnV ⟨4, 6⟩ := hd.2.1 rfl
      have h38 : fx 38 = Value.bool true := hd.2.2.1 rfl
      dsimp only
      rw [h38]
      refine wpList_unguard rfl ?_
      refine wpList_build_span2 rfl (.tmp 148) (.tmp 149) rfl ⟨2, 4, true⟩ ⟨4, 6, true⟩ h40 h41 ?_
      have hb := (Below.refl _ w').alloc (Nat.le_refl _) (.cells (flatS [⟨2, 4, true⟩, ⟨4, 6, true⟩]).toArray 97)
      have hi3 := inS_new w' [⟨2, 4, true⟩, ⟨4, 6, true⟩]
      clear hd
      go_wp2_with fail
      exact ⟨_, by simp only [upd, h40, h41, h38]; rfl, hC.trans (hb.mono hC.size), ⟨_, _, rfl, hi3⟩, fun j v t _ _ h => sS43_below hb j v h⟩
    · have h39 : fx 39 = Value.slice A5 2 c5 := hd.1 rfl
      have H42 := Lib.hid (hd.2.1 rfl)
      have h38 : fx 38 = Value.bool true := hd.2.2.2.1 rfl
      dsimp only
      rw [h38]
      refine wpList_unguard rfl ?_
      obtain ⟨A7, c7, h42, hin7⟩ := H42.out
      have HA := Lib.hid (KD29.out.below hC)
      clear hd
      go_wp2_with fail
      refine (samespans_yes _ A7 2 _ c7 _ _ w' HA (Lib.hid hin7) (Lib.hid rfl) (by omega)).mono ?_
      rintro e w2 ⟨rfl, hq⟩
      go_wp2_with fail
      exact ⟨_, by simp only [upd, h39, h38, h42]; rfl, hC.trans (hq.mono hC.size), rfl, fun j v t _ _ h => sS43_below hq j v h⟩
    · have h38 : fx 38 = Value.bool true := hd.1 rfl
      have h43 : fx 43 = Value.bool true := hd.2.1 rfl
      clear hd
      go_wp2_with fail
      exact ⟨_, by simp only [upd, h38, h43]; rfl, hC, rfl, fun _ _ _ _ _ h => h⟩
    · have h44 : fx 44 = Value.bool true := hd.1 rfl
      clear hd
      go_wp2_with fail
      exact ⟨_, by simp only [upd, h44]; rfl, hC, rfl, fun _ _ _ _ _ h => h⟩
  · intro L fo w' hC hS
    have H45 := Lib.hid (hS 45 (by decide) rfl)
    have hl : fo 45 = .bool true := H45.out
    rw [hl]
    have HBC := Lib.hid (HB29.out.trans (hC.mono HB29.out.size))
    clear hS hC H45 hl
    go_wp2_with fail
    go_ret
    exact ⟨rfl, HBC.out⟩
end Go.Proofs.YtmfmgeapecapiaaDoor
namespace Go.Proofs.YtmfmgeapecapiaaDoor
open Go.RowKit SzSha SzTree
set_option linter.unusedVariables false
set_option maxRecDepth 100000
theorem rt43_size {a : Int} {q : Nd} (hq : NdOk q) : (rtC (rt43 a q)).toArray.size = 138 := by
  simp [rtC, rt43, ndC_length hq, dgC_len32 zeroD_ok]
theorem shE_yes {t : Tr} {f g : Int} (h : shG t f g = true) : shE t f g = 0 := by
  unfold shG at h
  rw [Bool.and_eq_true] at h
  unfold shE
  rw [if_pos h.1, if_pos h.2]
theorem shN_len (t : Tr) (f g : Int) : (shN t f g).length ≤ 100000 := by
  unfold shN
  split
  case isTrue h =>
    obtain ⟨h1, h2, h3, h4, h5⟩ := shG_iff h
    rw [List.length_map]
    have := parts_length (f := f.toNat) (t := g.toNat) (by omega) 0 t.ln.length (by omega)
    omega
  case isFalse => simp
theorem rootR_sh {t : Tr} {f g : Int} (h : shG t f g = true) : rootR (nds43 t) = root (ndsT t) := by
  obtain ⟨h1, h2, h3, h4, h5⟩ := shG_iff h
  exact rootR_43 h1 (fun e => by rw [e] at h4; simp at h4; omega)
set_option maxHeartbeats 4000000 in
theorem few43_yes (t : Tr) (p : TrP) (A : Option Addr) (n c : Nat) (a b : Int) (w : World) (h1 : p.n ≤ 40) (h2 : p.n2 ≤ 20) (h3 : n ≤ 40) :
    Calls Tryd.prog 30 #[trV t p, .agg #[.int .i64 a, .int .i64 b, .slice A n c]] w fun e w' => e = .returned (.bool true) ∧ Below w.heap.size w w' := by
  have hb := ((Below.refl _ w).alloc (Nat.le_refl _) (.cells (trC t p).toArray 27)).alloc (by simp) (.cells #[.int .i64 a, .int .i64 b, .slice A n c] 74)
  have hr := row_kept (heap_alloc_new w (.cells (trC t p).toArray 27)) ((Below.refl _ (w.alloc (.cells (trC t p).toArray 27))).alloc (Nat.le_refl _) (.cells #[.int .i64 a, .int .i64 b, .slice A n c] 74))
  have hp := heap_alloc_new (w.alloc (.cells (trC t p).toArray 27)) (.cells #[.int .i64 a, .int .i64 b, .slice A n c] 74)
  rw [World.size_alloc] at hp
  obtain ⟨V, HV⟩ : ∃ V, Hid ((w.alloc (.cells (trC t p).toArray 27)).alloc (.cells #[.int .i64 a, .int .i64 b, .slice A n c] 74) = V) := ⟨_, Lib.hid rfl⟩
  rw [HV.out] at hb hr hp
  have k4 : V.cell? ⟨w.heap.size, 4, none⟩ = some (.slice p.A p.n p.c) := by rw [cell_of_row _ _ _ _ _ _ hr]; rfl
  have k5 : V.cell? ⟨w.heap.size, 5, none⟩ = some (.slice p.A2 p.n2 p.c2) := by rw [cell_of_row _ _ _ _ _ _ hr]; rfl
  have k2 : V.cell? ⟨w.heap.size + 1, 2, none⟩ = some (.slice A n c) := cell_of_row _ _ 2 _ _ _ hp
  have HB := Lib.hid hb
  have d1 : decide ((p.n : Int) ≤ 40) = true := decide_eq_true (by omega)
  have e1 : decide (p.n ≤ 40) = true := decide_eq_true (by omega)
  have d2 : decide ((p.n2 : Int) ≤ 20) = true := decide_eq_true (by omega)
  have e2 : decide (p.n2 ≤ 20) = true := decide_eq_true (by omega)
  have d3 : decide ((n : Int) ≤ 40) = true := decide_eq_true (by omega)
  have e3 : decide (n ≤ 40) = true := decide_eq_true (by omega)
  clear hb hr hp
  rw [show trV t p = .agg (trC t p).toArray from rfl]
  go_enter Tryd.func30, Tryd.ntmps30
  go_wp2_with (rw [HV.out])
  go_ret
  exact ⟨rfl, HB.out⟩
set_option maxHeartbeats 4000000 in
theorem few43_no1 (t : Tr) (p : TrP) (A : Option Addr) (n c : Nat) (a b : Int) (w : World) (h1 : ¬ p.n ≤ 40) :
    Calls Tryd.prog 30 #[trV t p, .agg #[.int .i64 a, .int .i64 b, .slice A n c]] w fun e w' => e = .returned (.bool false) ∧ Below w.heap.size w w' := by
  have hb := ((Below.refl _ w).alloc (Nat.le_refl _) (.cells (trC t p).toArray 27)).alloc (by simp) (.cells #[.int .i64 a, .int .i64 b, .slice A n c] 74)
  have hr := row_kept (heap_alloc_new w (.cells (trC t p).toArray 27)) ((Below.refl _ (w.alloc (.cells (trC t p).toArray 27))).alloc (Nat.le_refl _) (.cells #[.int .i64 a, .int .i64 b, .slice A n c] 74))
  have hp := heap_alloc_new (w.alloc (.cells (trC t p).toArray 27)) (.cells #[.int .i64 a, .int .i64 b, .slice A n c] 74)
  rw [World.size_alloc] at hp
  obtain ⟨V, HV⟩ : ∃ V, Hid ((w.alloc (.cells (trC t p).toArray 27)).alloc (.cells #[.int .i64 a, .int .i64 b, .slice A n c] 74) = V) := ⟨_, Lib.hid rfl⟩
  rw [HV.out] at hb hr hp
  have k4 : V.cell? ⟨w.heap.size, 4, none⟩ = some (.slice p.A p.n p.c) := by rw [cell_of_row _ _ _ _ _ _ hr]; rfl
  have k5 : V.cell? ⟨w.heap.size, 5, none⟩ = some (.slice p.A2 p.n2 p.c2) := by rw [cell_of_row _ _ _ _ _ _ hr]; rfl
  have k2 : V.cell? ⟨w.heap.size + 1, 2, none⟩ = some (.slice A n c) := cell_of_row _ _ 2 _ _ _ hp
  have HB := Lib.hid hb
  have d1 : decide ((p.n : Int) ≤ 40) = false := decide_eq_false (by omega)
  have e1 : decide (p.n ≤ 40) = false := decide_eq_false (by omega)
  clear hb hr hp
  rw [show trV t p = .agg (trC t p).toArray from rfl]
  go_enter Tryd.func30, Tryd.ntmps30
  go_wp2_with (rw [HV.out])
  go_ret
  exact ⟨rfl, HB.out⟩
set_option maxHeartbeats 4000000 in
theorem few43_no2 (t : Tr) (p : TrP) (A : Option Addr) (n c : Nat) (a b : Int) (w : World) (h1 : p.n ≤ 40) (h2 : ¬ p.n2 ≤ 20) :
    Calls Tryd.prog 30 #[trV t p, .agg #[.int .i64 a, .int .i64 b, .slice A n c]] w fun e w' => e = .returned (.bool false) ∧ Below w.heap.size w w' := by
  have hb := ((Below.refl _ w).alloc (Nat.le_refl _) (.cells (trC t p).toArray 27)).alloc (by simp) (.cells #[.int .i64 a, .int .i64 b, .slice A n c] 74)
  have hr := row_kept (heap_alloc_new w (.cells (trC t p).toArray 27)) ((Below.refl _ (w.alloc (.cells (trC t p).toArray 27))).alloc (Nat.le_refl _) (.cells #[.int .i64 a, .int .i64 b, .slice A n c] 74))
  have hp := heap_alloc_new (w.alloc (.cells (trC t p).toArray 27)) (.cells #[.int .i64 a, .int .i64 b, .slice A n c] 74)
  rw [World.size_alloc] at hp
  obtain ⟨V, HV⟩ : ∃ V, Hid ((w.alloc (.cells (trC t p).toArray 27)).alloc (.cells #[.int .i64 a, .int .i64 b, .slice A n c] 74) = V) := ⟨_, Lib.hid rfl⟩
  rw [HV.out] at hb hr hp
  have k4 : V.cell? ⟨w.heap.size, 4, none⟩ = some (.slice p.A p.n p.c) := by rw [cell_of_row _ _ _ _ _ _ hr]; rfl
  have k5 : V.cell? ⟨w.heap.size, 5, none⟩ = some (.slice p.A2 p.n2 p.c2) := by rw [cell_of_row _ _ _ _ _ _ hr]; rfl
  have k2 : V.cell? ⟨w.heap.size + 1, 2, none⟩ = some (.slice A n c) := cell_of_row _ _ 2 _ _ _ hp
  have HB := Lib.hid hb
  have d1 : decide ((p.n : Int) ≤ 40) = true := decide_eq_true (by omega)
  have e1 : decide (p.n ≤ 40) = true := decide_eq_true (by omega)
  have d2 : decide ((p.n2 : Int) ≤ 20) = false := decide_eq_false (by omega)
  have e2 : decide (p.n2 ≤ 20) = false := decide_eq_false (by omega)
  clear hb hr hp
  rw [show trV t p = .agg (trC t p).toArray from rfl]
  go_enter Tryd.func30, Tryd.ntmps30
  go_wp2_with (rw [HV.out])
  go_ret
  exact ⟨rfl, HB.out⟩
set_option maxHeartbeats 4000000 in
theorem few43_no3 (t : Tr) (p : TrP) (A : Option Addr) (n c : Nat) (a b : Int) (w : World) (h1 : p.n ≤ 40) (h2 : p.n2 ≤ 20) (h3 : ¬ n ≤ 40) :
    Calls Tryd.prog 30 #[trV t p, .agg #[.int .i64 a, .int .i64 b, .slice A n c]] w fun e w' => e = .returned (.bool false) ∧ Below w.heap.size w w' := by
  have hb := ((Below.refl _ w).alloc (Nat.le_refl _) (.cells (trC t p).toArray 27)).alloc (by simp) (.cells #[.int .i64 a, .int .i64 b, .slice A n c] 74)
  have hr := row_kept (heap_alloc_new w (.cells (trC t p).toArray 27)) ((Below.refl _ (w.alloc (.cells (trC t p).toArray 27))).alloc (Nat.le_refl _) (.cells #[.int .i64 a, .int .i64 b, .slice A n c] 74))
  have hp := heap_alloc_new (w.alloc (.cells (trC t p).toArray 27)) (.cells #[.int .i64 a, .int .i64 b, .slice A n c] 74)
  rw [World.size_alloc] at hp
  obtain ⟨V, HV⟩ : ∃ V, Hid ((w.alloc (.cells (trC t p).toArray 27)).alloc (.cells #[.int .i64 a, .int .i64 b, .slice A n c] 74) = V) := ⟨_, Lib.hid rfl⟩
  rw [HV.out] at hb hr hp
  have k4 : V.cell? ⟨w.heap.size, 4, none⟩ = some (.slice p.A p.n p.c) := by rw [cell_of_row _ _ _ _ _ _ hr]; rfl
  have k5 : V.cell? ⟨w.heap.size, 5, none⟩ = some (.slice p.A2 p.n2 p.c2) := by rw [cell_of_row _ _ _ _ _ _ hr]; rfl
  have k2 : V.cell? ⟨w.heap.size + 1, 2, none⟩ = some (.slice A n c) := cell_of_row _ _ 2 _ _ _ hp
  have HB := Lib.hid hb
  have d1 : decide ((p.n : Int) ≤ 40) = true := decide_eq_true (by omega)
  have e1 : decide (p.n ≤ 40) = true := decide_eq_true (by omega)
  have d2 : decide ((p.n2 : Int) ≤ 20) = true := decide_eq_true (by omega)
  have e2 : decide (p.n2 ≤ 20) = true := decide_eq_true (by omega)
  have d3 : decide ((n : Int) ≤ 40) = false := decide_eq_false (by omega)
  have e3 : decide (n ≤ 40) = false := decide_eq_false (by omega)
  clear hb hr hp
  rw [show trV t p = .agg (trC t p).toArray from rfl]
  go_enter Tryd.func30, Tryd.ntmps30
  go_wp2_with (rw [HV.out])
  go_ret
  exact ⟨rfl, HB.out⟩
theorem few43_no (t : Tr) (p : TrP) (A : Option Addr) (n c : Nat) (a b : Int) (w : World) (h : ¬ (p.n ≤ 40 ∧ p.n2 ≤ 20) ∨ ¬ n ≤ 40) :
    Calls Tryd.prog 30 #[trV t p, .agg #[.int .i64 a, .int .i64 b, .slice A n c]] w fun e w' => e = .returned (.bool false) ∧ Below w.heap.size w w' := by
  by_cases h1 : p.n ≤ 40
  · by_cases h2 : p.n2 ≤ 20
    · exact few43_no3 t p A n c a b w h1 h2 (by rcases h with h | h; exact absurd ⟨h1, h2⟩ h; exact h)
    · exact few43_no2 t p A n c a b w h1 h2
  · exact few43_no1 t p A n c a b w h1
end Go.Proofs.YtmfmgeapecapiaaDoor
namespace Go.Proofs.YtmfmgeapecapiaaDoor
open Go.ChangeShapes Go.WideShapes Go.ChangeAt Go.RowKit SzSha SzTree Go.Deep
set_option linter.unusedVariables false
set_option maxRecDepth 100000
section
variable {H : Type} {enc : TypeId × Value → H} {W : World} {base : Nat} {fuel : Nat}
theorem cells_nds : Tryd.prog.cellsOf 62 = 1 := by kernel_rfl
theorem cells_pt : Tryd.prog.cellsOf 74 = 3 := by kernel_rfl
theorem pt_fields : ∃ f0 f1 f2 : Field, Tryd.prog.underlying 74 = some (.struct #[f0, f1, f2]) ∧ (f0.type = 3 ∧ f0.offset = 0) ∧ (f1.type = 3 ∧ f1.offset = 1) ∧ f2.type = 62 ∧ f2.offset = 2 :=
  ⟨_, _, _, Tryd.underlying74, ⟨rfl, rfl⟩, ⟨rfl, rfl⟩, rfl, rfl⟩
theorem arg_pt {v : Value} {d : DataW H} {p : List MemPlace} (hval : Value.okWide Tryd.prog W .any base 74 v) (h : DataW.Trod enc Tryd.prog W 0 (fun _ => true) true 74 v d p) : ∃ (i j : Int) (A : Option Addr) (n c : Nat) (ps : List Nd), v = .agg #[.int .i64 i, .int .i64 j, .slice A n c] ∧ I64 i ∧ I64 j ∧ InN W A n c ps ∧ c ≤ maxLen := by
  obtain ⟨f0, f1, f2, hu, ⟨t0, o0⟩, ⟨t1, o1⟩, t2, o2⟩ := pt_fields
  obtain ⟨cs, rfl, hsz⟩ := okWide_struct hu hval
  obtain ⟨fuel, hf⟩ := h
  obtain ⟨xs, m, rfl, hx, hlen, hxl, hget⟩ := DataW.trod_struct hu hf
  rw [cells_pt] at hlen
  have hxl' : xs.length = 3 := hxl
  have g0 := hget 0 f0 rfl
  have g1 := hget 1 f1 rfl
  have g2 := hget 2 f2 rfl
  rw [t0, o0, cells_it, List.getElem?_eq_getElem (by omega)] at g0
  rw [t1, o1, cells_it, List.getElem?_eq_getElem (by omega)] at g1
  rw [t2, o2, cells_nds, List.getElem?_eq_getElem (by omega)] at g2
  obtain ⟨z0, e0, h0⟩ := trod_it g0
  obtain ⟨z1, e1, h1⟩ := trod_it g1
  obtain ⟨A, n, c, ps, e2, l1, l2, l3, l4, l5, l6⟩ := trod_rows (cells := ndC) (ok := NdOk) (k := 34) (by omega) Tryd.underlying62 cells_nd (fun x hx => ndC_length hx) (fun n cs y hy => trod_nd hy) g2
  refine ⟨z0, z1, A, n, c, ps, ?_, h0, h1, ⟨l1, l2, l3, l4, l5⟩, l6⟩
  congr 1
  rw [← Array.toArray_toList (xs := cs)]
  congr 1
  obtain ⟨L, hL⟩ : ∃ L, cs.toList = L := ⟨_, rfl⟩
  have hLl : L.length = 3 := by rw [← hL]; exact hlen
  simp only [Value.cells, hL] at e0 e1 e2 ⊢
  match L, hLl with
  | [x0, x1, x2], _ =>
    simp at e0 e1 e2
    rw [e0, e1, e2]
end
end Go.Proofs.YtmfmgeapecapiaaDoor
namespace Go.Proofs.YtmfmgeapecapiaaDoor
open Go.RowKit SzSha SzTree
set_option linter.unusedVariables false
abbrev CLt := Nd × Nd × Nat × Bool
def ndNe (a b : Nd) : Bool := !ndEq a b
def cl1 (P Q : List Nd) : CLt :=
  match P, Q with
  | x :: _, y :: _ => (x, y, 1, false)
  | _, _ => (zeroN, zeroN, 1, false)
def hereN (a b c d : Nd) : Bool := vL [a, c] && (vL [b, d] && ((joinR a c).d == (joinR b d).d && (ndNe a b || ndNe c d)))
def clJ (g1 g2 : List Nd → List Nd → CLt) (P Q : List Nd) : CLt :=
  let r1 := g1 P Q
  let r2 := g2 (P.drop r1.2.2.1) (Q.drop r1.2.2.1)
  (joinR r1.1 r2.1, joinR r1.2.1 r2.2.1, r1.2.2.1 + r2.2.2.1, (r1.2.2.2 || (r2.2.2.2 || hereN r1.1 r1.2.1 r2.1 r2.2.1)))
def clF : Nat → Nat → Nat → Nat → Nat → List Nd → List Nd → CLt
  | 0, f, t, lo, hi, P, Q => cl1 P Q
  | n + 1, f, t, lo, hi, P, Q => if P = [] ∨ Q = [] then cl1 P Q else if insB f t lo hi || outB f t lo hi then cl1 P Q else clJ (clF n f t lo (lo + half (hi - lo))) (clF n f t (lo + half (hi - lo)) hi) P Q
theorem cl1_nil {P Q : List Nd} (h : P = [] ∨ Q = []) : cl1 P Q = (zeroN, zeroN, 1, false) := by
  unfold cl1
  rcases h with rfl | rfl
  · rfl
  · cases P <;> rfl
theorem clF_fuel {f t : Nat} (hft : f < t) : ∀ n m lo hi P Q, lo < hi → hi - lo ≤ n + 1 → hi - lo ≤ m + 1 → clF n f t lo hi P Q = clF m f t lo hi P Q
  | 0, 0, _, _, _, _, _, _, _ => rfl
  | 0, m + 1, lo, hi, P, Q, h, h1, h2 => by
    conv => rhs; unfold clF
    by_cases hc : (insB f t lo hi || outB f t lo hi) = true
    · rw [if_pos hc]; split <;> rfl
    · have := cut_two h hft (by simpa using hc); omega
  | n + 1, 0, lo, hi, P, Q, h, h1, h2 => by
    conv => lhs; unfold clF
    by_cases hc : (insB f t lo hi || outB f t lo hi) = true
    · rw [if_pos hc]; split <;> rfl
    · have := cut_two h hft (by simpa using hc); omega
  | n + 1, m + 1, lo, hi, P, Q, h, h1, h2 => by
    unfold clF
    by_cases hn : P = [] ∨ Q = []
    · rw [if_pos hn, if_pos hn]
    · rw [if_neg hn, if_neg hn]
      by_cases hc : (insB f t lo hi || outB f t lo hi) = true
      · rw [if_pos hc, if_pos hc]
      · have h3 := cut_two h hft (by simpa using hc)
        have hb := half_bd h3
        rw [if_neg hc, if_neg hc, show clF n f t lo (lo + half (hi - lo)) = clF m f t lo (lo + half (hi - lo)) from funext fun P => funext fun Q => clF_fuel hft n m lo _ P Q (by omega) (by omega) (by omega), show clF n f t (lo + half (hi - lo)) hi = clF m f t (lo + half (hi - lo)) hi from funext fun P => funext fun Q => clF_fuel hft n m _ hi P Q (by omega) (by omega) (by omega)]
/-- the climb of two lists that show one interval, in the part lo .. hi: both nodes, how many were used, whether two inputs have one hash -/
def cl (f t lo hi : Nat) : List Nd → List Nd → CLt := clF (hi - lo) f t lo hi
theorem cl_none {f t lo hi : Nat} (h : lo < hi) {P Q : List Nd} (hn : P = [] ∨ Q = []) : cl f t lo hi P Q = cl1 P Q := by
  obtain ⟨k, e⟩ : ∃ k, hi - lo = k + 1 := ⟨hi - lo - 1, by omega⟩
  unfold cl
  rw [e]
  unfold clF
  rw [if_pos hn]
theorem cl_leaf {f t lo hi : Nat} (h : lo < hi) (hc : (insB f t lo hi || outB f t lo hi) = true) (P Q : List Nd) : cl f t lo hi P Q = cl1 P Q := by
  obtain ⟨k, e⟩ : ∃ k, hi - lo = k + 1 := ⟨hi - lo - 1, by omega⟩
  unfold cl
  rw [e]
  unfold clF
  rw [if_pos hc]; split <;> rfl
theorem cl_cut {f t lo hi : Nat} (h : lo < hi) (hft : f < t) (hc : (insB f t lo hi || outB f t lo hi) = false) {P Q : List Nd} (hn : ¬ (P = [] ∨ Q = [])) : cl f t lo hi P Q = clJ (cl f t lo (lo + half (hi - lo))) (cl f t (lo + half (hi - lo)) hi) P Q := by
  have h2 := cut_two h hft hc
  have hb := half_bd h2
  obtain ⟨k, e⟩ : ∃ k, hi - lo = k + 1 := ⟨hi - lo - 1, by omega⟩
  unfold cl
  conv => lhs; rw [e]; unfold clF
  rw [if_neg hn, if_neg (by rw [hc]; simp), show clF k f t lo (lo + half (hi - lo)) = clF (lo + half (hi - lo) - lo) f t lo (lo + half (hi - lo)) from funext fun P => funext fun Q => clF_fuel hft _ _ lo _ P Q (by omega) (by omega) (by omega), show clF k f t (lo + half (hi - lo)) hi = clF (hi - (lo + half (hi - lo))) f t (lo + half (hi - lo)) hi from funext fun P => funext fun Q => clF_fuel hft _ _ _ hi P Q (by omega) (by omega) (by omega)]
/-- the join uses as many nodes as there are parts -/
theorem vj_used {f t : Nat} (hft : f < t) (lo hi : Nat) (h : lo < hi) : ∀ (ls : List Nd) (x : Nd) (r : List Nd) (c p : Int), vj f t lo hi ls = some (x, r, c, p) → ∃ pre, ls = pre ++ r ∧ pre.length = (parts f t lo hi).length := by
  refine parts_ind hft (M := fun lo hi => ∀ (ls : List Nd) (x : Nd) (r : List Nd) (c p : Int), vj f t lo hi ls = some (x, r, c, p) → ∃ pre, ls = pre ++ r ∧ pre.length = (parts f t lo hi).length) ?_ ?_ (hi - lo) lo hi h (Nat.le_refl _)
  · intro lo hi hlt hc ls x r c p hv
    rw [vj_leaf hlt hc] at hv
    rw [parts_leaf hlt hc]
    cases ls with
    | nil => cases hv
    | cons y ys =>
      rw [vj1_cons] at hv
      split at hv
      · simp only [Option.some.injEq, Prod.mk.injEq] at hv
        exact ⟨[y], by rw [hv.2.1]; rfl, rfl⟩
      · cases hv
  · intro lo hi hlt hc b1 b2 i1 i2 ls x r c p hv
    rw [vj_cut hlt hft hc] at hv
    rw [parts_cut hlt hft hc]
    unfold vjC at hv
    cases h1 : vj f t lo (lo + half (hi - lo)) ls with
    | none => rw [h1] at hv; cases hv
    | some q1 =>
      obtain ⟨a, r1, c1, p1⟩ := q1
      rw [h1] at hv
      dsimp only at hv
      cases h2 : vj f t (lo + half (hi - lo)) hi r1 with
      | none => rw [h2] at hv; cases hv
      | some q2 =>
        obtain ⟨b, r2, c2, p2⟩ := q2
        rw [h2] at hv
        dsimp only at hv
        split at hv
        · simp only [Option.some.injEq, Prod.mk.injEq] at hv
          obtain ⟨_, rfl, _⟩ := hv
          obtain ⟨pre1, e1, l1⟩ := i1 _ _ _ _ _ h1
          obtain ⟨pre2, e2, l2⟩ := i2 _ _ _ _ _ h2
          exact ⟨pre1 ++ pre2, by rw [e1, e2, List.append_assoc], by rw [List.length_append, List.length_append, l1, l2]⟩
        · cases hv
theorem joinR_yes {a b : Nd} (h : vL [a, b] = true) : joinR a b = joinN a b := if_pos h
theorem ndNe_true {a b : Nd} (h : a ≠ b) : ndNe a b = true := by
  unfold ndNe
  cases hh : ndEq a b with
  | false => rfl
  | true => exact absurd ((ndEq_iff a b).1 hh) h
/-- two lists that join to one node are one, or the climb meets two inputs with one hash -/
theorem cl_binds {f t : Nat} (hft : f < t) (lo hi : Nat) (h : lo < hi) : ∀ (P Q : List Nd) (x y : Nd) (P' Q' : List Nd) (c p c' p' : Int), vj f t lo hi P = some (x, P', c, p) → vj f t lo hi Q = some (y, Q', c', p') →
    ∃ pp qq, P = pp ++ P' ∧ Q = qq ++ Q' ∧ pp.length = qq.length ∧ (cl f t lo hi P Q).1 = x ∧ (cl f t lo hi P Q).2.1 = y ∧ (cl f t lo hi P Q).2.2.1 = pp.length ∧ (x = y → pp = qq ∨ (cl f t lo hi P Q).2.2.2 = true) := by
  refine parts_ind hft (M := fun lo hi => ∀ (P Q : List Nd) (x y : Nd) (P' Q' : List Nd) (c p c' p' : Int), vj f t lo hi P = some (x, P', c, p) → vj f t lo hi Q = some (y, Q', c', p') →
    ∃ pp qq, P = pp ++ P' ∧ Q = qq ++ Q' ∧ pp.length = qq.length ∧ (cl f t lo hi P Q).1 = x ∧ (cl f t lo hi P Q).2.1 = y ∧ (cl f t lo hi P Q).2.2.1 = pp.length ∧ (x = y → pp = qq ∨ (cl f t lo hi P Q).2.2.2 = true)) ?_ ?_ (hi - lo) lo hi h (Nat.le_refl _)
  · intro lo hi hlt hc P Q x y P' Q' c p c' p' hv hw
    rw [vj_leaf hlt hc] at hv hw
    rw [cl_leaf hlt hc]
    cases P with
    | nil => cases hv
    | cons a ps =>
      cases Q with
      | nil => cases hw
      | cons b qs =>
        rw [vj1_cons] at hv hw
        split at hv
        · split at hw
          · simp only [Option.some.injEq, Prod.mk.injEq] at hv hw
            obtain ⟨rfl, rfl, _⟩ := hv
            obtain ⟨rfl, rfl, _⟩ := hw
            exact ⟨[a], [b], rfl, rfl, rfl, rfl, rfl, rfl, fun e => .inl (by rw [e])⟩
          · cases hw
        · cases hv
  · intro lo hi hlt hc b1 b2 i1 i2 P Q x y P' Q' c p c' p' hv hw
    have hP : P ≠ [] := fun e => by
      obtain ⟨pre, e1, e2⟩ := vj_used hft lo hi hlt _ _ _ _ _ hv
      rw [e] at e1
      have hp : pre = [] := (List.append_eq_nil_iff.1 e1.symm).1
      have := vj_used hft lo hi hlt _ _ _ _ _ hv
      rw [hp] at e2
      have := parts_cut hlt hft hc
      have h3 : (parts f t lo hi).length ≠ 0 := by
        rw [this, List.length_append]
        have h4 : ∀ lo hi, lo < hi → 1 ≤ (parts f t lo hi).length := fun lo hi hl => parts_ind hft (M := fun lo hi => 1 ≤ (parts f t lo hi).length) (fun lo hi hl hc => by rw [parts_leaf hl hc]; exact Nat.le_refl _) (fun lo hi hl hc h1 h2 j1 j2 => by rw [parts_cut hl hft hc, List.length_append]; omega) (hi - lo) lo hi hl (Nat.le_refl _)
        have := h4 lo (lo + half (hi - lo)) (by omega)
        omega
      exact h3 e2.symm
    have hQ : Q ≠ [] := fun e => by
      obtain ⟨pre, e1, e2⟩ := vj_used hft lo hi hlt _ _ _ _ _ hw
      rw [e] at e1
      have hp : pre = [] := (List.append_eq_nil_iff.1 e1.symm).1
      rw [hp] at e2
      have := parts_cut hlt hft hc
      have h3 : (parts f t lo hi).length ≠ 0 := by
        rw [this, List.length_append]
        have h4 : ∀ lo hi, lo < hi → 1 ≤ (parts f t lo hi).length := fun lo hi hl => parts_ind hft (M := fun lo hi => 1 ≤ (parts f t lo hi).length) (fun lo hi hl hc => by rw [parts_leaf hl hc]; exact Nat.le_refl _) (fun lo hi hl hc h1 h2 j1 j2 => by rw [parts_cut hl hft hc, List.length_append]; omega) (hi - lo) lo hi hl (Nat.le_refl _)
        have := h4 lo (lo + half (hi - lo)) (by omega)
        omega
      exact h3 e2.symm
    rw [cl_cut hlt hft hc (by simp [hP, hQ])]
    rw [vj_cut hlt hft hc] at hv hw
    unfold vjC at hv hw
    cases h1 : vj f t lo (lo + half (hi - lo)) P with
    | none => rw [h1] at hv; cases hv
    | some q1 =>
      obtain ⟨a, r1, c1, p1⟩ := q1
      rw [h1] at hv
      dsimp only at hv
      cases h2 : vj f t (lo + half (hi - lo)) hi r1 with
      | none => rw [h2] at hv; cases hv
      | some q2 =>
        obtain ⟨a2, r2, c2, p2⟩ := q2
        rw [h2] at hv
        dsimp only at hv
        split at hv
        case isFalse => cases hv
        case isTrue hva =>
        cases k1 : vj f t lo (lo + half (hi - lo)) Q with
        | none => rw [k1] at hw; cases hw
        | some s1 =>
          obtain ⟨b, s1, d1, e1⟩ := s1
          rw [k1] at hw
          dsimp only at hw
          cases k2 : vj f t (lo + half (hi - lo)) hi s1 with
          | none => rw [k2] at hw; cases hw
          | some s2 =>
            obtain ⟨b2, s2, d2, e2⟩ := s2
            rw [k2] at hw
            dsimp only at hw
            split at hw
            case isFalse => cases hw
            case isTrue hvb =>
            simp only [Option.some.injEq, Prod.mk.injEq] at hv hw
            obtain ⟨rfl, rfl, _⟩ := hv
            obtain ⟨rfl, rfl, _⟩ := hw
            obtain ⟨pp, qq, f1, f2, f3, f4, f5, f6, f7⟩ := i1 _ _ _ _ _ _ _ _ _ _ h1 k1
            obtain ⟨pp2, qq2, g1, g2, g3, g4, g5, g6, g7⟩ := i2 _ _ _ _ _ _ _ _ _ _ h2 k2
            have eP : P.drop pp.length = r1 := by rw [f1]; simp
            have eQ : Q.drop pp.length = s1 := by rw [f2, f3]; simp
            unfold clJ
            dsimp only
            rw [f4, f5, f6, eP, eQ, g4, g5, g6]
            refine ⟨pp ++ pp2, qq ++ qq2, by rw [f1, g1, List.append_assoc], by rw [f2, g2, List.append_assoc], by rw [List.length_append, List.length_append, f3, g3], joinR_yes hva, joinR_yes hvb, by rw [List.length_append], fun e => ?_⟩
            by_cases ea : a = b
            · by_cases eb : a2 = b2
              · rcases f7 ea with h7 | h7
                · rcases g7 eb with h8 | h8
                  · exact .inl (by rw [h7, h8])
                  · exact .inr (by rw [h8]; simp)
                · exact .inr (by rw [h7]; rfl)
              · refine .inr ?_
                unfold hereN
                rw [hva, hvb, joinR_yes hva, joinR_yes hvb, e, ndNe_true eb]
                simp
            · refine .inr ?_
              unfold hereN
              rw [hva, hvb, joinR_yes hva, joinR_yes hvb, e, ndNe_true ea]
              simp
theorem cl1_ok {P Q : List Nd} (hP : ∀ x ∈ P, NdOk x) (hQ : ∀ x ∈ Q, NdOk x) : NdOk (cl1 P Q).1 ∧ NdOk (cl1 P Q).2.1 := by
  unfold cl1
  split
  · exact ⟨hP _ (by simp), hQ _ (by simp)⟩
  · exact ⟨zeroN_ok, zeroN_ok⟩
/-- accepted parts lead to the same sums, or the climb meets two inputs with one hash -/
theorem vfS_bind {m : Int} {tree : Nd} {f t : Int} {P Q : List Nd} (hP : (vfS m tree f t P).2.2 = 0) (hQ : (vfS m tree f t Q).2.2 = 0) : P = Q ∨ (cl f.toNat t.toNat 0 m.toNat P Q).2.2.2 = true := by
  unfold vfS at hP hQ
  split at hP
  case isFalse => cases hP
  case isTrue hf =>
  rw [if_pos hf] at hQ
  obtain ⟨h0, h1, h2, h3⟩ := ftB_iff hf
  cases hv : vj f.toNat t.toNat 0 m.toNat P with
  | none => rw [hv] at hP; cases hP
  | some q =>
    obtain ⟨x, r, c, p⟩ := q
    rw [hv] at hP
    try dsimp only at hP
    cases r with
    | cons a b => cases hP
    | nil =>
      try dsimp only at hP
      split at hP
      case isFalse => cases hP
      case isTrue hx =>
      cases hw : vj f.toNat t.toNat 0 m.toNat Q with
      | none => rw [hw] at hQ; cases hQ
      | some q2 =>
        obtain ⟨y, r2, c2, p2⟩ := q2
        rw [hw] at hQ
        try dsimp only at hQ
        cases r2 with
        | cons a b => cases hQ
        | nil =>
          try dsimp only at hQ
          split at hQ
          case isFalse => cases hQ
          case isTrue hy =>
          obtain ⟨pp, qq, e1, e2, _, _, _, _, e7⟩ := cl_binds (f := f.toNat) (t := t.toNat) (by omega) 0 m.toNat (by omega) _ _ _ _ _ _ _ _ _ _ hv hw
          rw [List.append_nil] at e1 e2
          rw [← e1, ← e2] at e7
          exact e7 (((ndEq_iff _ _).1 hx).trans ((ndEq_iff _ _).1 hy).symm)
end Go.Proofs.YtmfmgeapecapiaaDoor
namespace Go.Proofs.YtmfmgeapecapiaaDoor
open Go.RowKit SzSha SzTree
set_option linter.unusedVariables false
set_option maxRecDepth 100000
theorem half_step43 {f k n : Nat} (hlt : 2 * k < n) (hn : n ≤ 1000000) (h : 18446744073709551616 ≤ k * 2 ^ f) : ∃ g, halfF f k n = halfF g (2 * k) n ∧ 18446744073709551616 ≤ 2 * k * 2 ^ g := by
  cases f with
  | zero => rw [Nat.pow_zero] at h; omega
  | succ g =>
    refine ⟨g, ?_, ?_⟩
    · conv => lhs; unfold halfF
      rw [if_pos hlt]
    · rw [Nat.pow_succ] at h
      rw [show 2 * k * 2 ^ g = k * (2 ^ g * 2) by rw [Nat.mul_comm (2 ^ g) 2, ← Nat.mul_assoc, Nat.mul_comm k 2]]
      exact h
theorem half_end43 {f k n : Nat} (hlt : ¬ 2 * k < n) : halfF f k n = k := by
  cases f with
  | zero => rfl
  | succ f => unfold halfF; rw [if_neg hlt]
set_option maxHeartbeats 2000000 in
theorem half43_any (n : Nat) (w : World) (hn : n ≤ 1000000) : Calls Tryd.prog 75 #[.int .i64 (n : Nat)] w fun e w' => e = .returned (.int .i64 (half n : Nat)) ∧ w = w' := by
  go_enter Tryd.func75, Tryd.ntmps75
  go_wp2_with fail
  go_loop [3] (fun v => ∃ k : Nat, v = .int .i64 (k : Nat) ∧ 1 ≤ k ∧ k ≤ 1000000 ∧ Hid (∃ f, halfF f k n = half n ∧ 18446744073709551616 ≤ k * 2 ^ f)) (fun v => n - (intOf v).toNat)
  case atStart => exact ⟨1, rfl, by omega, by omega, Lib.hid ⟨64, rfl, by decide⟩⟩
  case round =>
    obtain ⟨k, rfl, hk1, hk2, HF⟩ := hrel
    by_cases hlt : 2 * k < n
    · have d1 : decide (2 * (k : Int) < (n : Int)) = true := decide_eq_true (by omega)
      have HF2 : Hid (∃ f, halfF f (2 * k) n = half n ∧ 18446744073709551616 ≤ 2 * k * 2 ^ f) := Lib.hid (by
        obtain ⟨f, h1, h2⟩ := HF.out
        obtain ⟨g, h3, h4⟩ := half_step43 hlt hn h2
        exact ⟨g, by rw [← h3]; exact h1, h4⟩)
      go_wp2_with fail
      go_round
      case rel => exact ⟨2 * k, by go_num, by omega, by omega, HF2⟩
      case measure => simp [intOf]; omega
    · have d1 : decide (2 * (k : Int) < (n : Int)) = false := decide_eq_false (by omega)
      have HE : Hid (half n = k) := Lib.hid (by
        obtain ⟨f, h1, _⟩ := HF.out
        rw [← h1]; exact half_end43 hlt)
      go_wp2_with fail
      go_ret
      exact ⟨by rw [HE.out]; rfl, rfl⟩
/-- two rows of nodes, b and b + 1, in a call that began in w; all else lies as in W -/
structure CL2 (w W : World) (b : Nat) (z : Bool) (w' : World) : Prop where
  bel : Below w.heap.size w w'
  size : W.heap.size ≤ w'.heap.size
  old : ∀ k, k < W.heap.size → k ≠ b → k ≠ b + 1 → w'.heap[k]? = W.heap[k]?
  z0 : ∃ c, w'.heap[b]? = some (.cells c 31 (0, 0)) ∧ c.size = 34 ∧ (z = true → c = (ndC zeroN).toArray)
  z1 : ∃ c, w'.heap[b + 1]? = some (.cells c 31 (0, 0)) ∧ c.size = 34 ∧ (z = true → c = (ndC zeroN).toArray)
theorem CL2.drew {w W : World} {b : Nat} {z : Bool} {w' : World} (h : CL2 w W b z w') : CL2 w W b z w'.drew := ⟨h.bel.trans ((Below.refl _ _).drew.mono h.bel.size), h.size, h.old, h.z0, h.z1⟩
theorem CL2.row {w W : World} {b k : Nat} {z : Bool} {w' : World} {o : Obj} (h : CL2 w W b z w') (hr : W.heap[k]? = some o) (h0 : k ≠ b) (h1 : k ≠ b + 1) : w'.heap[k]? = some o := (h.old k (Array.getElem?_eq_some_iff.1 hr).1 h0 h1).trans hr
theorem CL2.range {w W : World} {b g off : Nat} {z : Bool} {w' : World} {cs : List Value} (h : CL2 w W b z w') (hr : W.rangeAt g off cs) (hg : g < W.heap.size) (h0 : g ≠ b) (h1 : g ≠ b + 1) : w'.rangeAt g off cs := fun j v hj => by
  have := hr j v hj
  unfold World.cell? at this ⊢
  rw [h.old g hg h0 h1]; exact this
theorem CL2.set0 {w W : World} {b : Nat} {z : Bool} {w' : World} (h : CL2 w W b z w') {x : Nd} (hx : NdOk x) (hb : w.heap.size ≤ b) (hz : z = true → x = zeroN) : CL2 w W b z (w'.setRow b (ndC x).toArray) ∧ (w'.setRow b (ndC x).toArray).heap[b]? = some (.cells (ndC x).toArray 31 (0, 0)) := by
  obtain ⟨c, hc, hs, _⟩ := h.z0
  have hr := setRow_heap w' b c (ndC x).toArray _ _ hc
  have ho : ∀ k, k ≠ b → (w'.setRow b (ndC x).toArray).heap[k]? = w'.heap[k]? := fun k hk => setRow_other w' b k _ hk
  obtain ⟨c1, h1, s1, z1⟩ := h.z1
  exact ⟨⟨below_setRow h.bel hb _, by rw [setRow_size]; exact h.size, fun k hk h0 h1 => (ho k h0).trans (h.old k hk h0 h1), ⟨_, hr, by simp [ndC_length hx], fun e => by rw [hz e]⟩, ⟨c1, (ho _ (by omega)).trans h1, s1, z1⟩⟩, hr⟩
theorem CL2.set1 {w W : World} {b : Nat} {z : Bool} {w' : World} (h : CL2 w W b z w') {x : Nd} (hx : NdOk x) (hb : w.heap.size ≤ b) (hz : z = true → x = zeroN) : CL2 w W b z (w'.setRow (b + 1) (ndC x).toArray) ∧ (w'.setRow (b + 1) (ndC x).toArray).heap[b + 1]? = some (.cells (ndC x).toArray 31 (0, 0)) := by
  obtain ⟨c, hc, hs, _⟩ := h.z1
  have hr := setRow_heap w' (b + 1) c (ndC x).toArray _ _ hc
  have ho : ∀ k, k ≠ b + 1 → (w'.setRow (b + 1) (ndC x).toArray).heap[k]? = w'.heap[k]? := fun k hk => setRow_other w' (b + 1) k _ hk
  obtain ⟨c1, h1, s1, z1⟩ := h.z0
  exact ⟨⟨below_setRow h.bel (Nat.le_succ_of_le hb) _, by rw [setRow_size]; exact h.size, fun k hk h0 h1 => (ho k h1).trans (h.old k hk h0 h1), ⟨c1, (ho _ (by omega)).trans h1, s1, z1⟩, ⟨_, hr, by simp [ndC_length hx], fun e => by rw [hz e]⟩⟩, hr⟩
/-- how many nodes the climb uses -/
theorem cl_used {f t : Nat} (hft : f < t) (lo hi : Nat) (h : lo < hi) : ∀ P Q, (cl f t lo hi P Q).2.2.1 ≤ hi - lo := by
  have one : ∀ P Q, (cl1 P Q).2.2.1 = 1 := fun P Q => by unfold cl1; split <;> rfl
  refine parts_ind hft (M := fun lo hi => ∀ P Q, (cl f t lo hi P Q).2.2.1 ≤ hi - lo) ?_ ?_ (hi - lo) lo hi h (Nat.le_refl _)
  · intro lo hi hlt hc P Q
    rw [cl_leaf hlt hc, one]; omega
  · intro lo hi hlt hc b1 b2 i1 i2 P Q
    by_cases hn : P = [] ∨ Q = []
    · rw [cl_none hlt hn, one]; omega
    · rw [cl_cut hlt hft hc hn]
      unfold clJ
      dsimp only
      have h1 := i1 P Q
      have h2 := i2 (P.drop (cl f t lo (lo + half (hi - lo)) P Q).2.2.1) (Q.drop (cl f t lo (lo + half (hi - lo)) P Q).2.2.1)
      omega
theorem cl_ok {f t : Nat} (hft : f < t) (lo hi : Nat) (h : lo < hi) : ∀ P Q, (∀ x ∈ P, NdOk x) → (∀ x ∈ Q, NdOk x) → NdOk (cl f t lo hi P Q).1 ∧ NdOk (cl f t lo hi P Q).2.1 := by
  refine parts_ind hft (M := fun lo hi => ∀ P Q, (∀ x ∈ P, NdOk x) → (∀ x ∈ Q, NdOk x) → NdOk (cl f t lo hi P Q).1 ∧ NdOk (cl f t lo hi P Q).2.1) ?_ ?_ (hi - lo) lo hi h (Nat.le_refl _)
  · intro lo hi hlt hc P Q hP hQ
    rw [cl_leaf hlt hc]; exact cl1_ok hP hQ
  · intro lo hi hlt hc b1 b2 i1 i2 P Q hP hQ
    by_cases hn : P = [] ∨ Q = []
    · rw [cl_none hlt hn]; exact cl1_ok hP hQ
    · rw [cl_cut hlt hft hc hn]
      unfold clJ
      dsimp only
      have h1 := i1 P Q hP hQ
      have h2 := i2 (P.drop (cl f t lo (lo + half (hi - lo)) P Q).2.2.1) (Q.drop (cl f t lo (lo + half (hi - lo)) P Q).2.2.1) (fun x hx => hP x (List.mem_of_mem_drop hx)) (fun x hx => hQ x (List.mem_of_mem_drop hx))
      exact ⟨joinR_ok43 h1.1 h2.1, joinR_ok43 h1.2 h2.2⟩
end Go.Proofs.YtmfmgeapecapiaaDoor
