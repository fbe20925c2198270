/- sizarlaw43.sane. sizarref43: lists of parts that show an interval (three cells each). sizarref43.half, fits, Parts. sizarref43.Cover. -/
import Derived.Test.YtmfmgeapecapiaaDoorCV14
import Derived.Test.YtmfmgeapecapiaaDoorCV12
import Derived.Test.YtmfmgeapecapiaaDoorCV6
import Derived.Laws.AppendOwnNone
import Derived.Test.YtmfmgeapecapiaaDoorCV2
namespace Go.Proofs.YtmfmgeapecapiaaDoor
open Go.RowKit SzSha SzTree
set_option linter.unusedVariables false
set_option maxRecDepth 100000
def sS43 (zp zq zr g2 o2 c1 c2 c4 c5 : Nat) (A1 A4 A5 : Option Addr) (q : Nd) : Nat → Value → World → Prop
  | 0, fv, _ => fv = Value.int .i64 (6)
  | 1, fv, _ => fv = Value.bool true
  | 2, fv, _ => fv = Value.bool true
  | 3, fv, _ => fv = Value.int .i64 (42)
  | 4, fv, _ => fv = Value.bool true
  | 5, fv, _ => fv = Value.bool true
  | 6, fv, _ => fv = Value.bool true
  | 7, fv, _ => fv = raV ⟨7, 1⟩
  | 8, fv, _ => fv = raV ⟨7, 1⟩
  | 9, fv, _ => fv = Value.bool true
  | 10, fv, _ => fv = Value.bool true
  | 11, fv, _ => fv = Value.bool true
  | 12, fv, _ => fv = Value.pointer (some ⟨zp, 2, none⟩)
  | 13, fv, _ => fv = Value.slice A1 2 c1
  | 14, fv, _ => fv = Value.int .i64 (2)
  | 15, fv, _ => fv = Value.bool true
  | 16, fv, _ => fv = Value.bool true
  | 17, fv, _ => fv = Value.bool true
  | 18, fv, _ => fv = Value.pointer (some ⟨zq, 2, none⟩)
  | 19, fv, _ => fv = Value.slice (some ⟨g2, o2, none⟩) 1 c2
  | 20, fv, _ => fv = Value.int .i64 (1)
  | 21, fv, _ => fv = Value.bool true
  | 22, fv, _ => fv = Value.bool true
  | 23, fv, _ => fv = Value.bool true
  | 24, fv, _ => fv = Value.pointer (some ⟨zq, 2, none⟩)
  | 25, fv, _ => fv = Value.slice (some ⟨g2, o2, none⟩) 1 c2
  | 26, fv, _ => fv = Value.pointer (some ⟨g2, o2, none⟩)
  | 27, fv, _ => fv = ndV q
  | 28, fv, _ => fv = Value.pointer (some ⟨zr, 6, none⟩)
  | 29, fv, _ => fv = ndV q
  | 30, fv, _ => fv = Value.bool true
  | 31, fv, _ => fv = Value.bool true
  | 32, fv, _ => fv = Value.bool true
  | 33, fv, _ => fv = Value.slice A4 1 c4
  | 34, fv, _ => fv = spnV ⟨0, 5⟩
  | 35, fv, fw => ∃ A c, fv = .slice A 1 c ∧ InS fw A 1 c [⟨0, 5, true⟩]
  | 36, fv, _ => fv = Value.bool true
  | 37, fv, _ => fv = Value.bool true
  | 38, fv, _ => fv = Value.bool true
  | 39, fv, _ => fv = Value.slice A5 2 c5
  | 40, fv, _ => fv = spnV ⟨2, 4⟩
  | 41, fv, _ => fv = spnV ⟨4, 6⟩
  | 42, fv, fw => ∃ A c, fv = .slice A 2 c ∧ InS fw A 2 c [⟨2, 4, true⟩, ⟨4, 6, true⟩]
  | 43, fv, _ => fv = Value.bool true
  | 44, fv, _ => fv = Value.bool true
  | 45, fv, _ => fv = Value.bool true
  | _, _, _ => True
theorem sS43_below {zp zq zr g2 o2 c1 c2 c4 c5 : Nat} {A1 A4 A5 : Option Addr} {q : Nd} {w w' : World} (hb : Below w.heap.size w w') : ∀ j v, sS43 zp zq zr g2 o2 c1 c2 c4 c5 A1 A4 A5 q j v w → sS43 zp zq zr g2 o2 c1 c2 c4 c5 A1 A4 A5 q j v w'
  | 0, v, h => h
  | 1, v, h => h
  | 2, v, h => h
  | 3, v, h => h
  | 4, v, h => h
  | 5, v, h => h
  | 6, v, h => h
  | 7, v, h => h
  | 8, v, h => h
  | 9, v, h => h
  | 10, v, h => h
  | 11, v, h => h
  | 12, v, h => h
  | 13, v, h => h
  | 14, v, h => h
  | 15, v, h => h
  | 16, v, h => h
  | 17, v, h => h
  | 18, v, h => h
  | 19, v, h => h
  | 20, v, h => h
  | 21, v, h => h
  | 22, v, h => h
  | 23, v, h => h
  | 24, v, h => h
  | 25, v, h => h
  | 26, v, h => h
  | 27, v, h => h
  | 28, v, h => h
  | 29, v, h => h
  | 30, v, h => h
  | 31, v, h => h
  | 32, v, h => h
  | 33, v, h => h
  | 34, v, h => h
  | 35, v, ⟨A, c, h1, h2⟩ => ⟨A, c, h1, h2.below hb⟩
  | 36, v, h => h
  | 37, v, h => h
  | 38, v, h => h
  | 39, v, h => h
  | 40, v, h => h
  | 41, v, h => h
  | 42, v, ⟨A, c, h1, h2⟩ => ⟨A, c, h1, h2.below hb⟩
  | 43, v, h => h
  | 44, v, h => h
  | 45, v, h => h
  | n + 46, v, h => trivial
theorem inS_new (w : World) (ls : List Pt) : InS (w.alloc (.cells (flatS ls).toArray 97)) (some ⟨w.heap.size, 0, none⟩) ls.length ls.length ls :=
  ⟨rfl, Nat.le_refl _, (fun e => by cases e), fun _ => ⟨_, 0, rfl, by simp, range_row (heap_alloc_new w _)⟩⟩
theorem fill_spans (ls : List Pt) {i : TypeInfo} {z : Value} (hs : i.size = 2) (hl : ls.length ≤ 100000) : Instr.fill (fun j => some (j * i.size, i.size)) ((Array.range (ls.length * i.size)).map (z.cells[· % z.cells.size]!)) ((ls.map fun x => Value.agg (spC x).toArray).zipIdx.map fun x => (x.2, x.1)) = some (flatS ls).toArray := by
  rw [hs, Great.fill_whole (by omega) (ls.map fun x => Value.agg (spC x).toArray) _ (fun v hv => by
    obtain ⟨x, _, rfl⟩ := List.mem_map.1 hv
    rfl) (by simp)]
  congr 1
  unfold flatS
  rw [List.flatMap_map]
  rfl
theorem wpList_build_span1 {w : World} {ops : Array Oper} {rest : List Oper} {o : Oper} {a : Act} {Q : Exit → Act → World → Prop} (hg : o.guard = none) (x : Operand)
    (ho : o.op = .buildSlice 90 1 #[(0, x)]) (n : Pt) (hx : a.eval x = spnV (ptS n))
    (h : wpList Tryd.prog ops Q rest (a.put o.dst (.slice (some ⟨w.heap.size, 0, none⟩) 1 1)) (w.alloc (.cells (flatS [n]).toArray 97))) : wpList Tryd.prog ops Q (o :: rest) a w := by
  obtain ⟨i0, hi, hz, hs, _⟩ := info_span
  refine wpList_buildSlice hg 90 97 1 _ ho _ i0 _ Tryd.underlying90 hi hz (by rw [hs]; omega) (by rw [hs]; omega) ?_ h
  have e1 : (#[(0, x)].map fun (i, x) => (i, a.eval x)).toList = [(0, spnV (ptS n))] := by simp [hx]
  rw [e1]; exact fill_spans [n] hs (by simp)
theorem wpList_build_span2 {w : World} {ops : Array Oper} {rest : List Oper} {o : Oper} {a : Act} {Q : Exit → Act → World → Prop} (hg : o.guard = none) (x y : Operand)
    (ho : o.op = .buildSlice 90 2 #[(0, x), (1, y)]) (n m : Pt) (hx : a.eval x = spnV (ptS n)) (hy : a.eval y = spnV (ptS m))
    (h : wpList Tryd.prog ops Q rest (a.put o.dst (.slice (some ⟨w.heap.size, 0, none⟩) 2 2)) (w.alloc (.cells (flatS [n, m]).toArray 97))) : wpList Tryd.prog ops Q (o :: rest) a w := by
  obtain ⟨i0, hi, hz, hs, _⟩ := info_span
  refine wpList_buildSlice hg 90 97 2 _ ho _ i0 _ Tryd.underlying90 hi hz (by rw [hs]; omega) (by rw [hs]; omega) ?_ h
  have e1 : (#[(0, x), (1, y)].map fun (i, x) => (i, a.eval x)).toList = [(0, spnV (ptS n)), (1, spnV (ptS m))] := by simp [hx, hy]
  rw [e1]; exact fill_spans [n, m] hs (by simp)
set_option maxHeartbeats 16000000 in
theorem sane43 (w : World) (hT : Hid (Tabs w)) :
    Calls Tryd.prog 29 #[] w fun e w' => e = .returned (.bool true) ∧ Below w.heap.size w w' := by
  go_enter Tryd.func29, Tryd.ntmps29
  go_wp2_with fail
  refine (sample_any w hT).mono ?_
  rintro e U1 ⟨b, rfl, hok, hq⟩
  obtain ⟨q, HQ⟩ : ∃ q, Hid (rootR (nds43 sT) = q) := ⟨_, Lib.hid rfl⟩
  have HQO : Hid (NdOk q) := Lib.hid (by rw [← HQ.out]; exact rootR_ok nds43_ok)
  obtain ⟨R, HRR⟩ : ∃ r, Hid (sR = r) := ⟨_, Lib.hid rfl⟩
  have HRK : Hid (RtOk R) := Lib.hid (by rw [← HRR.out]; exact sR_ok)
  have HRL : Hid (R.lin = 3) := Lib.hid (by rw [← HRR.out]; rfl)
  have HRT : Hid (R.tree = q) := Lib.hid (by rw [← HRR.out, ← HQ.out]; rfl)
  obtain ⟨L2, HL2⟩ : ∃ l, Hid (shN sT 0 2 = l) := ⟨_, Lib.hid rfl⟩
  have HLN : Hid (L2.length = 2) := Lib.hid (by rw [← HL2.out]; exact sh43_02.2.2)
  have HVF : Hid (vfS R.lin R.tree 0 2 L2 = (6, 42, 0)) := Lib.hid (by rw [HRL.out, HRT.out, ← HL2.out, ← HQ.out]; exact vf43_02)
  have HL3 : Hid (shN sT 0 3 = [q]) := Lib.hid (by rw [← HQ.out]; exact sh43_03.2.2)
  rw [HRR.out]
  have HB1 := Lib.hid hq
  have KO1 := Lib.hid hok
  have KT1 := Lib.hid (hT.out.below hq)
  clear hok hq
  have HIT : Hid ((Tryd.prog.info? 27).map (·.size) = some (trC sT (sTp b)).toArray.size) := Lib.hid (trV_info sT _ rfl)
  have HST : Hid (38 = (trC sT (sTp b)).toArray.size) := Lib.hid (sT_size b).symm
  have HIR := Lib.hid (rtC_info HRK.out)
  have HSR : Hid ((Tryd.zeroCells35).size = (rtC R).toArray.size) := Lib.hid (by rw [← HRR.out, sR_size]; kernel_rfl)
  rw [show trV sT (sTp b) = .agg (trC sT (sTp b)).toArray from rfl]
  have ra0 := (Below.heap_alloc (U1.alloc (.cells #[.int .i64 0, .int .i64 0, .int .i64 0, .int .i64 0, .slice none 0 0, .slice none 0 0, .int .u8 0, .int .u8 0, .int .u8 0, .int .u8 0, .int .u8 0, .int .u8 0, .int .u8 0, .int .u8 0, .int .u8 0, .int .u8 0, .int .u8 0, .int .u8 0, .int .u8 0, .int .u8 0, .int .u8 0, .int .u8 0, .int .u8 0, .int .u8 0, .int .u8 0, .int .u8 0, .int .u8 0, .int .u8 0, .int .u8 0, .int .u8 0, .int .u8 0, .int .u8 0, .int .u8 0, .int .u8 0, .int .u8 0, .int .u8 0, .int .u8 0, .int .u8 0] 27)) (.cells Tryd.zeroCells35 35) U1.heap.size (by simp)).trans (heap_alloc_new U1 (.cells #[.int .i64 0, .int .i64 0, .int .i64 0, .int .i64 0, .slice none 0 0, .slice none 0 0, .int .u8 0, .int .u8 0, .int .u8 0, .int .u8 0, .int .u8 0, .int .u8 0, .int .u8 0, .int .u8 0, .int .u8 0, .int .u8 0, .int .u8 0, .int .u8 0, .int .u8 0, .int .u8 0, .int .u8 0, .int .u8 0, .int .u8 0, .int .u8 0, .int .u8 0, .int .u8 0, .int .u8 0, .int .u8 0, .int .u8 0, .int .u8 0, .int .u8 0, .int .u8 0, .int .u8 0, .int .u8 0, .int .u8 0, .int .u8 0, .int .u8 0, .int .u8 0] 27))
  have rb0 := heap_alloc_new (U1.alloc (.cells #[.int .i64 0, .int .i64 0, .int .i64 0, .int .i64 0, .slice none 0 0, .slice none 0 0, .int .u8 0, .int .u8 0, .int .u8 0, .int .u8 0, .int .u8 0, .int .u8 0, .int .u8 0, .int .u8 0, .int .u8 0, .int .u8 0, .int .u8 0, .int .u8 0, .int .u8 0, .int .u8 0, .int .u8 0, .int .u8 0, .int .u8 0, .int .u8 0, .int .u8 0, .int .u8 0, .int .u8 0, .int .u8 0, .int .u8 0, .int .u8 0, .int .u8 0, .int .u8 0, .int .u8 0, .int .u8 0, .int .u8 0, .int .u8 0, .int .u8 0, .int .u8 0] 27)) (.cells Tryd.zeroCells35 35)
  rw [World.size_alloc] at rb0
  have hb0 := ((Below.refl _ U1).alloc (Nat.le_refl _) (.cells #[.int .i64 0, .int .i64 0, .int .i64 0, .int .i64 0, .slice none 0 0, .slice none 0 0, .int .u8 0, .int .u8 0, .int .u8 0, .int .u8 0, .int .u8 0, .int .u8 0, .int .u8 0, .int .u8 0, .int .u8 0, .int .u8 0, .int .u8 0, .int .u8 0, .int .u8 0, .int .u8 0, .int .u8 0, .int .u8 0, .int .u8 0, .int .u8 0, .int .u8 0, .int .u8 0, .int .u8 0, .int .u8 0, .int .u8 0, .int .u8 0, .int .u8 0, .int .u8 0, .int .u8 0, .int .u8 0, .int .u8 0, .int .u8 0, .int .u8 0, .int .u8 0] 27)).alloc (by simp) (.cells Tryd.zeroCells35 35)
  obtain ⟨X2a, HX2a⟩ : ∃ V, Hid (((U1.alloc (.cells #[.int .i64 0, .int .i64 0, .int .i64 0, .int .i64 0, .slice none 0 0, .slice none 0 0, .int .u8 0, .int .u8 0, .int .u8 0, .int .u8 0, .int .u8 0, .int .u8 0, .int .u8 0, .int .u8 0, .int .u8 0, .int .u8 0, .int .u8 0, .int .u8 0, .int .u8 0, .int .u8 0, .int .u8 0, .int .u8 0, .int .u8 0, .int .u8 0, .int .u8 0, .int .u8 0, .int .u8 0, .int .u8 0, .int .u8 0, .int .u8 0, .int .u8 0, .int .u8 0, .int .u8 0, .int .u8 0, .int .u8 0, .int .u8 0, .int .u8 0, .int .u8 0] 27)).alloc (.cells Tryd.zeroCells35 35)) = V) := ⟨_, Lib.hid rfl⟩
  rw [HX2a.out] at ra0 rb0 hb0
  have ra := Lib.hid ra0
  have rb1 := (setRow_other X2a U1.heap.size (U1.heap.size + 1) (trC sT (sTp b)).toArray (by omega)).trans rb0
  have ra1 := setRow_heap X2a U1.heap.size _ (trC sT (sTp b)).toArray _ _ ra0
  have hb1 := below_setRow hb0 (Nat.le_refl _) (trC sT (sTp b)).toArray
  obtain ⟨X2b, HX2b⟩ : ∃ V, Hid (X2a.setRow U1.heap.size (trC sT (sTp b)).toArray = V) := ⟨_, Lib.hid rfl⟩
  rw [HX2b.out] at ra1 rb1 hb1
  have rb := Lib.hid rb1
  have ra2 := (setRow_other X2b (U1.heap.size + 1) U1.heap.size (rtC R).toArray (by omega)).trans ra1
  have rb2 := setRow_heap X2b (U1.heap.size + 1) _ (rtC R).toArray _ _ rb1
  have hb := below_setRow hb1 (g := (U1.heap.size + 1)) (by omega) (rtC R).toArray
  obtain ⟨V2, HV2⟩ : ∃ V, Hid (X2b.setRow (U1.heap.size + 1) (rtC R).toArray = V) := ⟨_, Lib.hid rfl⟩
  rw [HV2.out] at ra2 rb2 hb
  clear ra0 rb0 hb0 ra1 rb1 hb1
  have HB3 := Lib.hid (HB1.out.trans (hb.mono HB1.out.size))
  have KO3 := Lib.hid (KO1.out.below hb)
  have KT3 := Lib.hid (KT1.out.below hb)
  have RT2 := Lib.hid ra2
  have RR2 := Lib.hid rb2
  clear ra2 rb2 hb HB1 KO1 KT1
  go_wp2_with (first | (rw [HX2a.out]) | (refine wpList_store_row rfl 27 (.tmp 1) (.tmp 25) rfl U1.heap.size (trC sT (sTp b)).toArray rfl rfl 27 _ ra.out HIT.out HST.out (trC_one _ _) ?_; rw [HX2b.out]) | (refine wpList_store_row rfl 35 (.tmp 2) (.tmp 26) rfl (U1.heap.size + 1) (rtC R).toArray rfl rfl 35 _ rb.out HIR.out HSR.out (rtC_one _) ?_; rw [HV2.out]) | (refine wpList_load_row rfl 27 (.tmp 1) rfl (U1.heap.size) rfl 27 _ (0, 0) _ RT2.out Tryd.underlying27 rfl HIT.out ?_))
  clear ra rb
  rw [show Value.agg (trC sT (sTp b)).toArray = trV sT (sTp b) from rfl]
  refine (show43 sT (sTp b) 0 2 _ KO3 KT3).mono ?_
  rintro e U4 ⟨A1, n1, c1, rfl, hin, hq⟩
  rw [sh43_02.1, sh43_02.2.1, if_pos rfl, if_pos rfl]
  rw [HL2.out] at hin
  have KP1 := Lib.hid hin
  have hn1 : n1 = 2 := by rw [← hin.len]; exact HLN.out
  clear hin
  have HB5 := Lib.hid (HB3.out.trans (hq.mono HB3.out.size))
  have RT5 := Lib.hid (row_kept RT2.out hq)
  have RR5 := Lib.hid (row_kept RR2.out hq)
  have KO5 := Lib.hid (KO3.out.below hq)
  have KT5 := Lib.hid (KT3.out.below hq)
  clear hq HB3 RT2 RR2 KO3 KT3
  subst hn1
  obtain ⟨V6, HV6⟩ : ∃ V, Hid (U4.alloc (.cells #[.int .i64 0, .int .i64 2, .slice A1 2 c1] 74) = V) := ⟨_, Lib.hid rfl⟩
  have hw := heap_alloc_new U4 (.cells #[.int .i64 0, .int .i64 2, .slice A1 2 c1] 74)
  have hb := (Below.refl _ U4).alloc (Nat.le_refl _) (.cells #[.int .i64 0, .int .i64 2, .slice A1 2 c1] 74)
  rw [HV6.out] at hw hb
  have HB7 := Lib.hid (HB5.out.trans (hb.mono HB5.out.size))
  have RT7 := Lib.hid (row_kept RT5.out hb)
  have RR7 := Lib.hid (row_kept RR5.out hb)
  have KO7 := Lib.hid (KO5.out.below hb)
  have KT7 := Lib.hid (KT5.out.below hb)
  have KP7 := Lib.hid (KP1.out.below hb)
  have RP6 := Lib.hid hw
  clear hw hb HB5 RT5 RR5 KO5 KT5 KP1
  have p0 := cell_of_row _ _ 0 _ _ _ RP6.out
  have p1 := cell_of_row _ _ 1 _ _ _ RP6.out
  have p2 := cell_of_row _ _ 2 _ _ _ RP6.out
  go_wp2_with (first | (rw [HV6.out]) | (refine wpList_load_row rfl 35 (.tmp 2) rfl ((U1.heap.size + 1)) rfl 35 _ (0, 0) _ RR7.out Tryd.underlying35 rfl HIR.out ?_))
  refine (verify43 R 0 2 _ _ _ L2 _ HRK KP7 KT7 (by rw [HLN.out]; omega)).mono ?_
  rintro e U8 ⟨rfl, hq⟩
  rw [HVF.out]
  clear p0 p1 p2
  have HB9 := Lib.hid (HB7.out.trans (hq.mono HB7.out.size))
  have RT9 := Lib.hid (row_kept RT7.out hq)
  have RR9 := Lib.hid (row_kept RR7.out hq)
  have RP9 := Lib.hid (row_kept RP6.out hq)
  have KO9 := Lib.hid (KO7.out.below hq)
  have KT9 := Lib.hid (KT7.out.below hq)
  have KP9 := Lib.hid (KP7.out.below hq)
  clear hq HB7 RT7 RR7 RP6 KO7 KT7 KP7
  have p0 := cell_of_row _ _ 0 _ _ _ RP9.out
  have p1 := cell_of_row _ _ 1 _ _ _ RP9.out
  have p2 := cell_of_row _ _ 2 _ _ _ RP9.out
  go_wp2_with (refine wpList_load_row rfl 35 (.tmp 2) rfl ((U1.heap.size + 1)) rfl 35 _ (0, 0) _ RR9.out Tryd.underlying35 rfl HIR.out ?_)
  refine (mean43 R 0 2 _ _ _ L2 _ HRK KP9 KT9 (by rw [HLN.out]; omega)).mono ?_
  rintro e U10 ⟨rfl, hq⟩
  rw [HVF.out, mn43_02]
  clear p0 p1 p2
  have HB11 := Lib.hid (HB9.out.trans (hq.mono HB9.out.size))
  have RT11 := Lib.hid (row_kept RT9.out hq)
  have RR11 := Lib.hid (row_kept RR9.out hq)
  have RP11 := Lib.hid (row_kept RP9.out hq)
  have KO11 := Lib.hid (KO9.out.below hq)
  have KT11 := Lib.hid (KT9.out.below hq)
  have KP11 := Lib.hid (KP9.out.below hq)
  clear hq HB9 RT9 RR9 RP9 KO9 KT9 KP9
  obtain ⟨V12, HV12⟩ : ∃ V, Hid (U10.alloc (.cells #[.int .i64 7, .int .i64 1] 83) = V) := ⟨_, Lib.hid rfl⟩
  have hw := heap_alloc_new U10 (.cells #[.int .i64 7, .int .i64 1] 83)
  have hb := (Below.refl _ U10).alloc (Nat.le_refl _) (.cells #[.int .i64 7, .int .i64 1] 83)
  rw [HV12.out] at hw hb
  have HB13 := Lib.hid (HB11.out.trans (hb.mono HB11.out.size))
  have RT13 := Lib.hid (row_kept RT11.out hb)
  have RR13 := Lib.hid (row_kept RR11.out hb)
  have RP13 := Lib.hid (row_kept RP11.out hb)
  have KO13 := Lib.hid (KO11.out.below hb)
  have KT13 := Lib.hid (KT11.out.below hb)
  have KP13 := Lib.hid (KP11.out.below hb)
  have RM12 := Lib.hid hw
  clear hw hb HB11 RT11 RR11 RP11 KO11 KT11 KP11
  go_wp2_with (first | (rw [HV12.out]) | (refine wpList_load_row rfl 27 (.tmp 1) rfl (U1.heap.size) rfl 27 _ (0, 0) _ RT13.out Tryd.underlying27 rfl HIT.out ?_))
  rw [show Value.agg (trC sT (sTp b)).toArray = trV sT (sTp b) from rfl]
  refine (show43 sT (sTp b) 0 3 _ KO13 KT13).mono ?_
  rintro e U14 ⟨A2, n2, c2, rfl, hin, hq⟩
  rw [sh43_03.1, sh43_03.2.1, if_pos rfl, if_pos rfl]
  rw [HL3.out] at hin
  have KQ1 := Lib.hid hin
  have hn2 : n2 = 1 := hin.len.symm
  clear hin
  have HB15 := Lib.hid (HB13.out.trans (hq.mono HB13.out.size))
  have RT15 := Lib.hid (row_kept RT13.out hq)
  have RR15 := Lib.hid (row_kept RR13.out hq)
  have RP15 := Lib.hid (row_kept RP13.out hq)
  have RM15 := Lib.hid (row_kept RM12.out hq)
  have KO15 := Lib.hid (KO13.out.below hq)
  have KT15 := Lib.hid (KT13.out.below hq)
  have KP15 := Lib.hid (KP13.out.below hq)
  clear hq HB13 RT13 RR13 RP13 RM12 KO13 KT13 KP13
  subst hn2
  obtain ⟨V16, HV16⟩ : ∃ V, Hid (U14.alloc (.cells #[.int .i64 0, .int .i64 3, .slice A2 1 c2] 74) = V) := ⟨_, Lib.hid rfl⟩
  have hw := heap_alloc_new U14 (.cells #[.int .i64 0, .int .i64 3, .slice A2 1 c2] 74)
  have hb := (Below.refl _ U14).alloc (Nat.le_refl _) (.cells #[.int .i64 0, .int .i64 3, .slice A2 1 c2] 74)
  rw [HV16.out] at hw hb
  have HB17 := Lib.hid (HB15.out.trans (hb.mono HB15.out.size))
  have RT17 := Lib.hid (row_kept RT15.out hb)
  have RR17 := Lib.hid (row_kept RR15.out hb)
  have RP17 := Lib.hid (row_kept RP15.out hb)
  have RM17 := Lib.hid (row_kept RM15.out hb)
  have KO17 := Lib.hid (KO15.out.below hb)
  have KT17 := Lib.hid (KT15.out.below hb)
  have KP17 := Lib.hid (KP15.out.below hb)
  have KQ17 := Lib.hid (KQ1.out.below hb)
  have RQ16 := Lib.hid hw
  clear hw hb HB15 RT15 RR15 RP15 RM15 KO15 KT15 KP15 KQ1
  go_wp2_with (rw [HV16.out])
  refine (cover_no 0 0 5 _ (by omega)).mono ?_
  rintro e U18 ⟨rfl, hq⟩
  have HB19 := Lib.hid (HB17.out.trans (hq.mono HB17.out.size))
  have RT19 := Lib.hid (row_kept RT17.out hq)
  have RR19 := Lib.hid (row_kept RR17.out hq)
  have RP19 := Lib.hid (row_kept RP17.out hq)
  have RM19 := Lib.hid (row_kept RM17.out hq)
  have RQ19 := Lib.hid (row_kept RQ16.out hq)
  have KO19 := Lib.hid (KO17.out.below hq)
  have KT19 := Lib.hid (KT17.out.below hq)
  have KP19 := Lib.hid (KP17.out.below hq)
  have KQ19 := Lib.hid (KQ17.out.below hq)
  clear hq HB17 RT17 RR17 RP17 RM17 RQ16 KO17 KT17 KP17 KQ17
  go_wp2_with fail
  refine (cover_yes 0 5 5 _ (by omega) (by omega) (by omega)).mono ?_
  rintro e U20 ⟨A4, n4, c4, rfl, hin, hq⟩
  rw [cov43_a] at hin
  have KC1 := Lib.hid hin
  have hn4 : n4 = 1 := hin.len.symm
  clear hin
  have HB21 := Lib.hid (HB19.out.trans (hq.mono HB19.out.size))
  have RT21 := Lib.hid (row_kept RT19.out hq)
  have RR21 := Lib.hid (row_kept RR19.out hq)
  have RP21 := Lib.hid (row_kept RP19.out hq)
  have RM21 := Lib.hid (row_kept RM19.out hq)
  have RQ21 := Lib.hid (row_kept RQ19.out hq)
  have KO21 := Lib.hid (KO19.out.below hq)
  have KT21 := Lib.hid (KT19.out.below hq)
  have KP21 := Lib.hid (KP19.out.below hq)
  have KQ21 := Lib.hid (KQ19.out.below hq)
  clear hq HB19 RT19 RR19 RP19 RM19 RQ19 KO19 KT19 KP19 KQ19
  subst hn4
  go_wp2_with fail
  refine (cover_yes 2 6 6 _ (by omega) (by omega) (by omega)).mono ?_
  rintro e U22 ⟨A5, n5, c5, rfl, hin, hq⟩
  rw [cov43_b] at hin
  have KD1 := Lib.hid hin
  have hn5 : n5 = 2 := hin.len.symm
  clear hin
  have HB23 := Lib.hid (HB21.out.trans (hq.mono HB21.out.size))
  have RT23 := Lib.hid (row_kept RT21.out hq)
  have RR23 := Lib.hid (row_kept RR21.out hq)
  have RP23 := Lib.hid (row_kept RP21.out hq)
  have RM23 := Lib.hid (row_kept RM21.out hq)
  have RQ23 := Lib.hid (row_kept RQ21.out hq)
  have KO23 := Lib.hid (KO21.out.below hq)
  have KT23 := Lib.hid (KT21.out.below hq)
  have KP23 := Lib.hid (KP21.out.below hq)
  have KQ23 := Lib.hid (KQ21.out.below hq)
  have KC23 := Lib.hid (KC1.out.below hq)
  clear hq HB21 RT21 RR21 RP21 RM21 RQ21 KO21 KT21 KP21 KQ21 KC1
  subst hn5
  go_wp2_with (refine wpList_build_eT rfl rfl ?_)
  refine (show43 eT peT3 0 1 _ (Lib.hid (eT_ok _)) KT23).mono ?_
  rintro e U24 ⟨A6, n6, c6, rfl, hin, hq⟩
  rw [sh43_e.1, sh43_e.2]
  simp only [Bool.false_eq_true, if_false]
  clear hin
  have HB25 := Lib.hid (HB23.out.trans (hq.mono HB23.out.size))
  have RT25 := Lib.hid (row_kept RT23.out hq)
  have RR25 := Lib.hid (row_kept RR23.out hq)
  have RP25 := Lib.hid (row_kept RP23.out hq)
  have RM25 := Lib.hid (row_kept RM23.out hq)
  have RQ25 := Lib.hid (row_kept RQ23.out hq)
  have KO25 := Lib.hid (KO23.out.below hq)
  have KT25 := Lib.hid (KT23.out.below hq)
  have KP25 := Lib.hid (KP23.out.below hq)
  have KQ25 := Lib.hid (KQ23.out.below hq)
  have KC25 := Lib.hid (KC23.out.below hq)
  have KD25 := Lib.hid (KD1.out.below hq)
  clear hq HB23 RT23 RR23 RP23 RM23 RQ23 KO23 KT23 KP23 KQ23 KC23 KD1
  obtain ⟨V26, HV26⟩ : ∃ V, Hid (U24.alloc (.cells #[.int .i64 0, .int .i64 0, .slice A6 n6 c6] 74) = V) := ⟨_, Lib.hid rfl⟩
  have hw := heap_alloc_new U24 (.cells #[.int .i64 0, .int .i64 0, .slice A6 n6 c6] 74)
  have hb := (Below.refl _ U24).alloc (Nat.le_refl _) (.cells #[.int .i64 0, .int .i64 0, .slice A6 n6 c6] 74)
  rw [HV26.out] at hw hb
  have HB27 := Lib.hid (HB25.out.trans (hb.mono HB25.out.size))
  have RT27 := Lib.hid (row_kept RT25.out hb)
  have RR27 := Lib.hid (row_kept RR25.out hb)
  have RP27 := Lib.hid (row_kept RP25.out hb)
  have RM27 := Lib.hid (row_kept RM25.out hb)
  have RQ27 := Lib.hid (row_kept RQ25.out hb)
  have KO27 := Lib.hid (KO25.out.below hb)
  have KT27 := Lib.hid (KT25.out.below hb)
  have KP27 := Lib.hid (KP25.out.below hb)
  have KQ27 := Lib.hid (KQ25.out.below hb)
  have KC27 := Lib.hid (KC25.out.below hb)
  have KD27 := Lib.hid (KD25.out.below hb)
  have RE26 := Lib.hid hw
  clear hw hb HB25 RT25 RR25 RP25 RM25 RQ25 KO25 KT25 KP25 KQ25 KC25 KD25
  go_wp2_with (first | (rw [HV26.out]) | (refine wpList_build_z43 rfl rfl ?_))
  refine (verify43 (rt43 0 zeroN) 0 0 none 0 0 [] _ (Lib.hid (rt43_ok (by unfold I64; omega) zeroN_ok)) (Lib.hid ⟨rfl, Nat.le_refl _, (fun _ => rfl), (fun x hx => by cases hx), (fun h => by simp at h)⟩) KT27 (by simp)).mono ?_
  rintro e U28 ⟨rfl, hq⟩
  rw [show vfS (rt43 0 zeroN).lin (rt43 0 zeroN).tree 0 0 [] = (0, 0, 430) from vf43_z]
  have HB29 := Lib.hid (HB27.out.trans (hq.mono HB27.out.size))
  have RT29 := Lib.hid (row_kept RT27.out hq)
  have RR29 := Lib.hid (row_kept RR27.out hq)
  have RP29 := Lib.hid (row_kept RP27.out hq)
  have RM29 := Lib.hid (row_kept RM27.out hq)
  have RQ29 := Lib.hid (row_kept RQ27.out hq)
  have RE29 := Lib.hid (row_kept RE26.out hq)
  have KO29 := Lib.hid (KO27.out.below hq)
  have KT29 := Lib.hid (KT27.out.below hq)
  have KP29 := Lib.hid (KP27.out.below hq)
  have KQ29 := Lib.hid (KQ27.out.below hq)
  have KC29 := Lib.hid (KC27.out.below hq)
  have KD29 := Lib.hid (KD27.out.below hq)
  clear hq HB27 RT27 RR27 RP27 RM27 RQ27 RE26 KO27 KT27 KP27 KQ27 KC27 KD27
  go_wp2_with fail
  obtain ⟨g2, o2, rfl, hg2, hr2⟩ := KQ29.out.rd (by simp)
  have HG2 := Lib.hid hg2
  have HN2 := Lib.hid hr2
  clear hg2 hr2
  obtain ⟨zr, HZzr⟩ : ∃ q, Hid ((U1.heap.size + 1) = q) := ⟨_, Lib.hid rfl⟩
  have HRzr := RR29
  rw [HZzr.out] at HRzr
  obtain ⟨zp, HZzp⟩ : ∃ q, Hid (U4.heap.size = q) := ⟨_, Lib.hid rfl⟩
  have HRzp := RP29
  rw [HZzp.out] at HRzp
  obtain ⟨zm, HZzm⟩ : ∃ q, Hid (U10.heap.size = q) := ⟨_, Lib.hid rfl⟩
  have HRzm := RM29
  rw [HZzm.out] at HRzm
  obtain ⟨zq, HZzq⟩ : ∃ q, Hid (U14.heap.size = q) := ⟨_, Lib.hid rfl⟩
  have HRzq := RQ29
  rw [HZzq.out] at HRzq
  rw [HZzr.out, HZzp.out, HZzm.out, HZzq.out]
  have HS34 := Lib.hid (size34 HQO.out)
  have HB0 := Lib.hid (Below.refl U28.heap.size U28).drew
  have HNQ : Hid (U28.rangeAt g2 o2 (ndC q)) := Lib.hid (by have h := HN2.out; unfold flatN at h; simpa using h)
  have HNR : Hid (U28.rangeAt zr 6 (ndC q)) := Lib.hid (by rw [← HRT.out]; exact rt_tree HRzr.out)
  have HGR : Hid (zr < U28.heap.size) := Lib.hid (Array.getElem?_eq_some_iff.1 HRzr.out).1
  refine region_flow3 (by kernel_rfl) (by kernel_rfl) (fun i => Nat.beq i 45) (fun i => i) (by kernel_rfl) (fun fx => #[fx 45, Value.pointer (some { block := U1.heap.size, off := 0 }), Value.pointer (some { block := zr, off := 0 }), Value.pointer (some { block := zp, off := 0 }), Value.int IntKind.i64 0, Value.int IntKind.i64 6, Value.int IntKind.i64 42, Value.int IntKind.i64 0, Value.pointer (some { block := zm, off := 0 }), Value.int IntKind.i64 0, Value.pointer (some { block := zq, off := 0 }), Value.int IntKind.i64 0, Value.slice none 0 0, Value.int IntKind.i64 430, Value.slice A4 1 c4, Value.int IntKind.i64 0, Value.slice A5 2 c5, Value.int IntKind.i64 0, Value.pointer (some { block := U24.heap.size, off := 0 }), Value.int IntKind.i64 430, Value.int IntKind.i64 0, Value.int IntKind.i64 0, Value.int IntKind.i64 430, Value.tuple #[trV sT (sTp b), Value.agg (rtC R).toArray], Value.tuple #[trV sT (sTp b), Value.agg (rtC R).toArray], trV sT (sTp b), Value.agg (rtC R).toArray, Value.tuple #[Value.agg #[Value.int IntKind.i64 0, Value.int IntKind.i64 2, Value.slice A1 2 c1], Value.int IntKind.i64 0], trV sT (sTp b), Value.tuple #[Value.agg #[Value.int IntKind.i64 0, Value.int IntKind.i64 2, Value.slice A1 2 c1], Value.int IntKind.i64 0], Value.agg #[Value.int IntKind.i64 0, Value.int IntKind.i64 2, Value.slice A1 2 c1], Value.int IntKind.i64 0, Value.tuple #[Value.int IntKind.i64 6, Value.int IntKind.i64 42, Value.int IntKind.i64 0], Value.agg (rtC R).toArray, Value.agg #[Value.int IntKind.i64 0, Value.int IntKind.i64 2, Value.slice A1 2 c1], Value.tuple #[Value.int IntKind.i64 6, Value.int IntKind.i64 42, Value.int IntKind.i64 0], Value.int IntKind.i64 6, Value.int IntKind.i64 42, Value.int IntKind.i64 0, Value.tuple #[Value.agg #[Value.int IntKind.i64 7, Value.int IntKind.i64 1], Value.int IntKind.i64 0], Value.agg (rtC R).toArray, Value.agg #[Value.int IntKind.i64 0, Value.int IntKind.i64 2, Value.slice A1 2 c1], Value.tuple #[Value.agg #[Value.int IntKind.i64 7, Value.int IntKind.i64 1], Value.int IntKind.i64 0], Value.agg #[Value.int IntKind.i64 7, Value.int IntKind.i64 1], Value.int IntKind.i64 0, Value.tuple #[Value.agg #[Value.int IntKind.i64 0, Value.int IntKind.i64 3, Value.slice (some { block := g2, off := o2 }) 1 c2], Value.int IntKind.i64 0], trV sT (sTp b), Value.tuple #[Value.agg #[Value.int IntKind.i64 0, Value.int IntKind.i64 3, Value.slice (some { block := g2, off := o2 }) 1 c2], Value.int IntKind.i64 0], Value.agg #[Value.int IntKind.i64 0, Value.int IntKind.i64 3, Value.slice (some { block := g2, off := o2 }) 1 c2], Value.int IntKind.i64 0, Value.tuple #[Value.slice none 0 0, Value.int IntKind.i64 430], Value.tuple #[Value.slice none 0 0, Value.int IntKind.i64 430], Value.slice none 0 0, Value.int IntKind.i64 430, Value.tuple #[Value.slice A4 1 c4, Value.int IntKind.i64 0], Value.tuple #[Value.slice A4 1 c4, Value.int IntKind.i64 0], Value.slice A4 1 c4, Value.int IntKind.i64 0, Value.tuple #[Value.slice A5 2 c5, Value.int IntKind.i64 0], Value.tuple #[Value.slice A5 2 c5, Value.int IntKind.i64 0], Value.slice A5 2 c5, Value.int IntKind.i64 0, Value.tuple #[Value.agg #[Value.int IntKind.i64 0, Value.int IntKind.i64 0, Value.slice A6 n6 c6], Value.int IntKind.i64 430], trV eT peT3, Value.tuple #[Value.agg #[Value.int IntKind.i64 0, Value.int IntKind.i64 0, Value.slice A6 n6 c6], Value.int IntKind.i64 430], Value.agg #[Value.int IntKind.i64 0, Value.int IntKind.i64 0, Value.slice A6 n6 c6], Value.int IntKind.i64 430, Value.tuple #[Value.int IntKind.i64 0, Value.int IntKind.i64 0, Value.int IntKind.i64 430], Value.agg (rtC (rt43 0 zeroN)).toArray, Value.agg #[Value.int IntKind.i64 0, Value.int IntKind.i64 0, Value.slice none 0 0], Value.tuple #[Value.int IntKind.i64 0, Value.int IntKind.i64 0, Value.int IntKind.i64 430], Value.int IntKind.i64 0, Value.int IntKind.i64 0, Value.int IntKind.i64 430, Value.int IntKind.i64 0, Value.bool false, Value.bool false, Value.int IntKind.i64 0, Value.bool false, Value.bool false, Value.bool false, Value.int IntKind.i64 0, Value.bool false, Value.bool false, Value.bool false, Value.int IntKind.i64 0, Value.bool false, Value.bool false, Value.bool false, Value.int IntKind.i64 430, Value.bool false, Value.bool false, Value.bool false, Value.int IntKind.i64 0, Value.bool false, Value.bool false, Value.bool false, Value.int IntKind.i64 0, Value.bool false, Value.bool false, Value.bool false, Value.int IntKind.i64 430, Value.bool false, Value.bool false, Value.bool false, Value.int IntKind.i64 430, Value.bool false, Value.bool false, fx 0, fx 1, fx 2, fx 3, fx 4, fx 5, fx 6, fx 7, fx 8, fx 9, fx 10, fx 11, fx 12, fx 13, fx 14, fx 15, fx 16, fx 17, fx 18, fx 19, fx 20, fx 21, fx 22, fx 23, fx 24, fx 25, fx 26, fx 27, fx 28, fx 29, fx 30, fx 31, fx 32, fx 33, fx 34, fx 35, fx 36, fx 37, fx 38, fx 39, fx 40, fx 41, fx 42, fx 43, fx 44]) (fun i => bif Nat.beq i 45 then Value.bool false else undef) (fun _ _ w' => Below U28.heap.size U28 w') (fun fi fv _ fw => sS43 zp zq zr g2 o2 c1 c2 c4 c5 A1 A4 A5 q fi fv fw) HB0.out ?_ ?_
  · refine ⟨?_, ?_, ?_, ?_, ?_, ?_, ?_, ?_, ?_, ?_, ?_, ?_, ?_, ?_, ?_, ?_, ?_, ?_, ?_, ?_, ?_, ?_, ?_, ?_, ?_, ?_, ?_, ?_, ?_, ?_, ?_, ?_, ?_, ?_, ?_, ?_, ?_, ?_, ?_, ?_, ?_, ?_, ?_, ?_, ?_, ?_, trivial⟩
    all_goals intro L fx w' hC hi hcl hdn hd
    · clear hd
      go_wp2_with fail
      exact ⟨_, rfl, hC, rfl, fun _ _ _ _ _ h => h⟩
    · have h0 : fx 0 = Value.int .i64 (6) := hd.1 rfl
      clear hd
      go_wp2_with fail
      exact ⟨_, by simp only [upd, h0]; rfl, hC, rfl, fun _ _ _ _ _ h => h⟩
    · have h1 : fx 1 = Value.bool true := hd.1 rfl
      clear hd
      go_wp2_with fail
      exact ⟨_, by simp only [upd, h1]; rfl, hC, rfl, fun _ _ _ _ _ h => h⟩
    · have h2 : fx 2 = Value.bool true := hd.1 rfl
      dsimp only
      rw [h2]
      refine wpList_unguard rfl ?_
      clear hd
      go_wp2_with fail
      exact ⟨_, by simp only [upd, h2]; rfl, hC, rfl, fun _ _ _ _ _ h => h⟩
    · have h3 : fx 3 = Value.int .i64 (42) := hd.1 rfl
      have h2 : fx 2 = Value.bool true := hd.2.1 rfl
      dsimp only
      rw [h2]
      refine wpList_unguard rfl ?_
      clear hd
      go_wp2_with fail
      exact ⟨_, by simp only [upd, h3, h2]; rfl, hC, rfl, fun _ _ _ _ _ h => h⟩
    · have h2 : fx 2 = Value.bool true := hd.1 rfl
      have h4 : fx 4 = Value.bool true := hd.2.1 rfl
      clear hd
      go_wp2_with fail
      exact ⟨_, by simp only [upd, h2, h4]; rfl, hC, rfl, fun _ _ _ _ _ h => h⟩
    · have h5 : fx 5 = Value.bool true := hd.1 rfl
      clear hd
      go_wp2_with fail
      exact ⟨_, by simp only [upd, h5]; rfl, hC, rfl, fun _ _ _ _ _ h => h⟩
    · have h6 : fx 6 = Value.bool true := hd.1 rfl
      dsimp only
      rw [h6]
      refine wpList_unguard rfl ?_
      have hc0 : w'.cell? ⟨zm, 0, none⟩ = some (.int .i64 7) := by rw [cell_of_row _ _ _ _ _ _ (row_kept HRzm.out hC)]; rfl
      have hc1 : w'.cell? ⟨zm, 1, none⟩ = some (.int .i64 1) := by rw [cell_of_row _ _ _ _ _ _ (row_kept HRzm.out hC)]; rfl
      clear hd
      go_wp2_with fail
      exact ⟨_, by simp only [upd, h6]; rfl, hC, rfl, fun _ _ _ _ _ h => h⟩
    · have h6 : fx 6 = Value.bool true := hd.1 rfl
      dsimp only
      rw [h6]
      refine wpList_unguard rfl ?_
      clear hd
      go_wp2_with fail
      exact ⟨_, by simp only [upd, h6]; rfl, hC, rfl, fun _ _ _ _ _ h => h⟩
    · have h7 : fx 7 = raV ⟨7, 1⟩ := hd.1 rfl
      have h8 : fx 8 = raV ⟨7, 1⟩ := hd.2.1 rfl
      have h6 : fx 6 = Value.bool true := hd.2.2.1 rfl
      dsimp only
      rw [h6]
      refine wpList_unguard rfl ?_
      refine wpList_eql_ra rfl (.tmp 115) (.tmp 116) _ rfl ⟨7, 1⟩ ⟨7, 1⟩ h7 h8 ?_
      rw [raEq_refl]
      clear hd
      go_wp2_with fail
      exact ⟨_, by simp only [upd, h7, h8, h6]; rfl, hC, rfl, fun _ _ _ _ _ h => h⟩
    · have h6 : fx 6 = Value.bool true := hd.1 rfl
      have h9 : fx 9 = Value.bool true := hd.2.1 rfl
      clear hd
      go_wp2_with fail
      exact ⟨_, by simp only [upd, h6, h9]; rfl, hC, rfl, fun _ _ _ _ _ h => h⟩
    · have h10 : fx 10 = Value.bool true := hd.1 rfl
      clear hd
      go_wp2_with fail
      exact ⟨_, by simp only [upd, h10]; rfl, hC, rfl, fun _ _ _ _ _ h => h⟩
    · have h11 : fx 11 = Value.bool true := hd.1 rfl
      dsimp only
      rw [h11]
      refine wpList_unguard rfl ?_
      clear hd
      go_wp2_with fail
      exact ⟨_, by simp only [upd, h11]; rfl, hC, rfl, fun _ _ _ _ _ h => h⟩
    · have h12 : fx 12 = Value.pointer (some ⟨zp, 2, none⟩) := hd.1 rfl
      have h11 : fx 11 = Value.bool true := hd.2.1 rfl
      dsimp only
      rw [h11]
      refine wpList_unguard rfl ?_
      have hcc : w'.cell? ⟨zp, 2, none⟩ = some (Value.slice A1 2 c1) := by rw [cell_of_row _ _ _ _ _ _ (row_kept HRzp.out hC)]; rfl
      clear hd
      go_wp2_with fail
      exact ⟨_, by simp only [upd, h12, h11]; rfl, hC, rfl, fun _ _ _ _ _ h => h⟩
    · have h13 : fx 13 = Value.slice A1 2 c1 := hd.1 rfl
      have h11 : fx 11 = Value.bool true := hd.2.1 rfl
      dsimp only
      rw [h11]
      refine wpList_unguard rfl ?_
      clear hd
      go_wp2_with fail
      exact ⟨_, by simp only [upd, h13, h11]; rfl, hC, rfl, fun _ _ _ _ _ h => h⟩
    · have h14 : fx 14 = Value.int .i64 (2) := hd.1 rfl
      have h11 : fx 11 = Value.bool true := hd.2.1 rfl
      dsimp only
      rw [h11]
      refine wpList_unguard rfl ?_
      clear hd
      go_wp2_with fail
      exact ⟨_, by simp only [upd, h14, h11]; rfl, hC, rfl, fun _ _ _ _ _ h => h⟩
    · have h11 : fx 11 = Value.bool true := hd.1 rfl
      have h15 : fx 15 = Value.bool true := hd.2.1 rfl
      clear hd
      go_wp2_with fail
      exact ⟨_, by simp only [upd, h11, h15]; rfl, hC, rfl, fun _ _ _ _ _ h => h⟩
    · have h16 : fx 16 = Value.bool true := hd.1 rfl
      clear hd
      go_wp2_with fail
      exact ⟨_, by simp only [upd, h16]; rfl, hC, rfl, fun _ _ _ _ _ h => h⟩
    · have h17 : fx 17 = Value.bool true := hd.1 rfl
      dsimp only
      rw [h17]
      refine wpList_unguard rfl ?_
      clear hd
      go_wp2_with fail
      exact ⟨_, by simp only [upd, h17]; rfl, hC, rfl, fun _ _ _ _ _ h => h⟩
    · have h18 : fx 18 = Value.pointer (some ⟨zq, 2, none⟩) := hd.1 rfl
      have h17 : fx 17 = Value.bool true := hd.2.1 rfl
      dsimp only
      rw [h17]
      refine wpList_unguard rfl ?_
      have hcc : w'.cell? ⟨zq, 2, none⟩ = some (Value.slice (some ⟨g2, o2, none⟩) 1 c2) := by rw [cell_of_row _ _ _ _ _ _ (row_kept HRzq.out hC)]; rfl
      clear hd
      go_wp2_with fail
      exact ⟨_, by simp only [upd, h18, h17]; rfl, hC, rfl, fun _ _ _ _ _ h => h⟩
    · have h19 : fx 19 = Value.slice (some ⟨g2, o2, none⟩) 1 c2 := hd.1 rfl
      have h17 : fx 17 = Value.bool true := hd.2.1 rfl
      dsimp only
      rw [h17]
      refine wpList_unguard rfl ?_
      clear hd
      go_wp2_with fail
      exact ⟨_, by simp only [upd, h19, h17]; rfl, hC, rfl, fun _ _ _ _ _ h => h⟩
    · have h20 : fx 20 = Value.int .i64 (1) := hd.1 rfl
      have h17 : fx 17 = Value.bool true := hd.2.1 rfl
      dsimp only
      rw [h17]
      refine wpList_unguard rfl ?_
      clear hd
      go_wp2_with fail
      exact ⟨_, by simp only [upd, h20, h17]; rfl, hC, rfl, fun _ _ _ _ _ h => h⟩
    · have h17 : fx 17 = Value.bool true := hd.1 rfl
      have h21 : fx 21 = Value.bool true := hd.2.1 rfl
      clear hd
      go_wp2_with fail
      exact ⟨_, by simp only [upd, h17, h21]; rfl, hC, rfl, fun _ _ _ _ _ h => h⟩
    · have h22 : fx 22 = Value.bool true := hd.1 rfl
      clear hd
      go_wp2_with fail
      exact ⟨_, by simp only [upd, h22]; rfl, hC, rfl, fun _ _ _ _ _ h => h⟩
    · have h23 : fx 23 = Value.bool true := hd.1 rfl
      dsimp only
      rw [h23]
      refine wpList_unguard rfl ?_
      clear hd
      go_wp2_with fail
      exact ⟨_, by simp only [upd, h23]; rfl, hC, rfl, fun _ _ _ _ _ h => h⟩
    · have h24 : fx 24 = Value.pointer (some ⟨zq, 2, none⟩) := hd.1 rfl
      have h23 : fx 23 = Value.bool true := hd.2.1 rfl
      dsimp only
      rw [h23]
      refine wpList_unguard rfl ?_
      have hcc : w'.cell? ⟨zq, 2, none⟩ = some (Value.slice (some ⟨g2, o2, none⟩) 1 c2) := by rw [cell_of_row _ _ _ _ _ _ (row_kept HRzq.out hC)]; rfl
      clear hd
      go_wp2_with fail
      exact ⟨_, by simp only [upd, h24, h23]; rfl, hC, rfl, fun _ _ _ _ _ h => h⟩
    · have h25 : fx 25 = Value.slice (some ⟨g2, o2, none⟩) 1 c2 := hd.1 rfl
      have h23 : fx 23 = Value.bool true := hd.2.1 rfl
      dsimp only
      rw [h23]
      refine wpList_unguard rfl ?_
      clear hd
      go_wp2_with fail
      exact ⟨_, by simp only [upd, h25, h23]; rfl, hC, rfl, fun _ _ _ _ _ h => h⟩
    · have h26 : fx 26 = Value.pointer (some ⟨g2, o2, none⟩) := hd.1 rfl
      have h23 : fx 23 = Value.bool true := hd.2.1 rfl
      dsimp only
      rw [h23]
      refine wpList_unguard rfl ?_
      have hr := rangeAt_below HNQ.out HG2.out hC
      refine wpList_load_mid rfl 31 (.tmp 134) rfl (g2) (o2) h26 (ndC q) _ hr Tryd.underlying31 rfl HS34.out ?_
      clear hr
      clear hd
      go_wp2_with fail
      exact ⟨_, by simp only [upd, h26, h23]; rfl, hC, rfl, fun _ _ _ _ _ h => h⟩
    · have h23 : fx 23 = Value.bool true := hd.1 rfl
      dsimp only
      rw [h23]
      refine wpList_unguard rfl ?_
      clear hd
      go_wp2_with fail
      exact ⟨_, by simp only [upd, h23]; rfl, hC, rfl, fun _ _ _ _ _ h => h⟩
    · have h28 : fx 28 = Value.pointer (some ⟨zr, 6, none⟩) := hd.1 rfl
      have h23 : fx 23 = Value.bool true := hd.2.1 rfl
      dsimp only
      rw [h23]
      refine wpList_unguard rfl ?_
      have hr := rangeAt_below HNR.out HGR.out hC
      refine wpList_load_mid rfl 31 (.tmp 136) rfl (zr) (6) h28 (ndC q) _ hr Tryd.underlying31 rfl HS34.out ?_
      clear hr
      clear hd
      go_wp2_with fail
      exact ⟨_, by simp only [upd, h28, h23]; rfl, hC, rfl, fun _ _ _ _ _ h => h⟩
    · have h27 : fx 27 = ndV q := hd.1 rfl
      have h29 : fx 29 = ndV q := hd.2.1 rfl
      have h23 : fx 23 = Value.bool true := hd.2.2.1 rfl
      dsimp only
      rw [h23]
      refine wpList_unguard rfl ?_
      refine wpList_eql_nd rfl (.tmp 135) (.tmp 137) _ rfl q q h27 h29 HQO.out HQO.out ?_
      rw [ndEq_refl]
      clear hd
      go_wp2_with fail
      exact ⟨_, by simp only [upd, h27, h29, h23]; rfl, hC, rfl, fun _ _ _ _ _ h => h⟩
    · have h23 : fx 23 = Value.bool true := hd.1 rfl
      have h30 : fx 30 = Value.bool true := hd.2.1 rfl
      clear hd
      go_wp2_with fail
      exact ⟨_, by simp only [upd, h23, h30]; rfl, hC, rfl, fun _ _ _ _ _ h => h⟩
    · have h31 : fx 31 = Value.bool true := hd.1 rfl
      clear hd
      go_wp2_with fail
      exact ⟨_, by simp only [upd, h31]; rfl, hC, rfl, fun _ _ _ _ _ h => h⟩
    · have h32 : fx 32 = Value.bool true := hd.1 rfl
      dsimp only
      rw [h32]
      refine wpList_unguard rfl ?_
      clear hd
      go_wp2_with fail
      exact ⟨_, by simp only [upd, h32]; rfl, hC, rfl, fun _ _ _ _ _ h => h⟩
    · have h32 : fx 32 = Value.bool true := hd.1 rfl
      dsimp only
      rw [h32]
      refine wpList_unguard rfl ?_
      clear hd
      go_wp2_with fail
      exact ⟨_, by simp only [upd, h32]; rfl, hC, rfl, fun _ _ _ _ _ h => h⟩
    · have h34 : fx 34 = spnV ⟨0, 5⟩ := hd.1 rfl
      have h32 : fx 32 = Value.bool true := hd.2.1 rfl
      dsimp only
      rw [h32]
      refine wpList_unguard rfl ?_
      refine wpList_build_span1 rfl (.tmp 142) rfl ⟨0, 5, true⟩ h34 ?_
      have hb := (Below.refl _ w').alloc (Nat.le_refl _) (.cells (flatS [⟨0, 5, true⟩]).toArray 97)
      have hi3 := inS_new w' [⟨0, 5, true⟩]
      clear hd
      go_wp2_with fail
      exact ⟨_, by simp only [upd, h34, h32]; rfl, hC.trans (hb.mono hC.size), ⟨_, _, rfl, hi3⟩, fun j v t _ _ h => sS43_below hb j v h⟩
    · have h33 : fx 33 = Value.slice A4 1 c4 := hd.1 rfl
      have H35 := Lib.hid (hd.2.1 rfl)
      have h32 : fx 32 = Value.bool true := hd.2.2.2.1 rfl
      dsimp only
      rw [h32]
      refine wpList_unguard rfl ?_
      obtain ⟨A7, c7, h35, hin7⟩ := H35.out
      have HA := Lib.hid (KC29.out.below hC)
      clear hd
      go_wp2_with fail
      refine (samespans_yes _ A7 1 _ c7 _ _ w' HA (Lib.hid hin7) (Lib.hid rfl) (by omega)).mono ?_
      rintro e w2 ⟨rfl, hq⟩
      go_wp2_with fail
      exact ⟨_, by simp only [upd, h33, h32, h35]; rfl, hC.trans (hq.mono hC.size), rfl, fun j v t _ _ h => sS43_below hq j v h⟩
    · have h32 : fx 32 = Value.bool true := hd.1 rfl
      have h36 : fx 36 = Value.bool true := hd.2.1 rfl
      clear hd
      go_wp2_with fail
      exact ⟨_, by simp only [upd, h32, h36]; rfl, hC, rfl, fun _ _ _ _ _ h => h⟩
    · have h37 : fx 37 = Value.bool true := hd.1 rfl
      clear hd
      go_wp2_with fail
      exact ⟨_, by simp only [upd, h37]; rfl, hC, rfl, fun _ _ _ _ _ h => h⟩
    · have h38 : fx 38 = Value.bool true := hd.1 rfl
      dsimp only
      rw [h38]
      refine wpList_unguard rfl ?_
      clear hd
      go_wp2_with fail
      exact ⟨_, by simp only [upd, h38]; rfl, hC, rfl, fun _ _ _ _ _ h => h⟩
    · have h38 : fx 38 = Value.bool true := hd.1 rfl
      dsimp only
      rw [h38]
      refine wpList_unguard rfl ?_
      clear hd
      go_wp2_with fail
      exact ⟨_, by simp only [upd, h38]; rfl, hC, rfl, fun _ _ _ _ _ h => h⟩
    · have h38 : fx 38 = Value.bool true := hd.1 rfl
      dsimp only
      rw [h38]
      refine wpList_unguard rfl ?_
      clear hd
      go_wp2_with fail
      exact ⟨_, by simp only [upd, h38]; rfl, hC, rfl, fun _ _ _ _ _ h => h⟩
    · have h40 : fx 40 = spnV ⟨2, 4⟩ := hd.1 rfl
      have h41 : fx 41 = spnV ⟨4, 6⟩ := hd.2.1 rfl
      have h38 : fx 38 = Value.bool true := hd.2.2.1 rfl
      dsimp only
      rw [h38]
      refine wpList_unguard rfl ?_
      refine wpList_build_span2 rfl (.tmp 148) (.tmp 149) rfl ⟨2, 4, true⟩ ⟨4, 6, true⟩ h40 h41 ?_
      have hb := (Below.refl _ w').alloc (Nat.le_refl _) (.cells (flatS [⟨2, 4, true⟩, ⟨4, 6, true⟩]).toArray 97)
      have hi3 := inS_new w' [⟨2, 4, true⟩, ⟨4, 6, true⟩]
      clear hd
      go_wp2_with fail
      exact ⟨_, by simp only [upd, h40, h41, h38]; rfl, hC.trans (hb.mono hC.size), ⟨_, _, rfl, hi3⟩, fun j v t _ _ h => sS43_below hb j v h⟩
    · have h39 : fx 39 = Value.slice A5 2 c5 := hd.1 rfl
      have H42 := Lib.hid (hd.2.1 rfl)
      have h38 : fx 38 = Value.bool true := hd.2.2.2.1 rfl
      dsimp only
      rw [h38]
      refine wpList_unguard rfl ?_
      obtain ⟨A7, c7, h42, hin7⟩ := H42.out
      have HA := Lib.hid (KD29.out.below hC)
      clear hd
      go_wp2_with fail
      refine (samespans_yes _ A7 2 _ c7 _ _ w' HA (Lib.hid hin7) (Lib.hid rfl) (by omega)).mono ?_
      rintro e w2 ⟨rfl, hq⟩
      go_wp2_with fail
      exact ⟨_, by simp only [upd, h39, h38, h42]; rfl, hC.trans (hq.mono hC.size), rfl, fun j v t _ _ h => sS43_below hq j v h⟩
    · have h38 : fx 38 = Value.bool true := hd.1 rfl
      have h43 : fx 43 = Value.bool true := hd.2.1 rfl
      clear hd
      go_wp2_with fail
      exact ⟨_, by simp only [upd, h38, h43]; rfl, hC, rfl, fun _ _ _ _ _ h => h⟩
    · have h44 : fx 44 = Value.bool true := hd.1 rfl
      clear hd
      go_wp2_with fail
      exact ⟨_, by simp only [upd, h44]; rfl, hC, rfl, fun _ _ _ _ _ h => h⟩
  · intro L fo w' hC hS
    have H45 := Lib.hid (hS 45 (by decide) rfl)
    have hl : fo 45 = .bool true := H45.out
    rw [hl]
    have HBC := Lib.hid (HB29.out.trans (hC.mono HB29.out.size))
    clear hS hC H45 hl
    go_wp2_with fail
    go_ret
    exact ⟨rfl, HBC.out⟩
end Go.Proofs.YtmfmgeapecapiaaDoor
namespace Go.Proofs.YtmfmgeapecapiaaDoor
open Go.RowKit Go.Shelf SzSha SzTree
set_option linter.unusedVariables false
set_option maxRecDepth 100000
/-- a part as cells -/
def shP (x : Pt) : List Value := [.int .i64 (x.lo : Nat), .int .i64 (x.hi : Nat), .bool x.ins]
def flatH (ls : List Pt) : List Value := ls.flatMap shP
theorem flatH_append (a b : List Pt) : flatH (a ++ b) = flatH a ++ flatH b := by unfold flatH; rw [List.flatMap_append]
theorem flatH_length : ∀ ls : List Pt, (flatH ls).length = ls.length * 3
  | [] => rfl
  | x :: ls => by
    show (shP x ++ flatH ls).length = _
    rw [List.length_append, flatH_length ls, List.length_cons]
    show 3 + _ = _
    omega
theorem flatH_one (ls : List Pt) : ∀ u ∈ flatH ls, u.oneCell' = true := fun u hu => by
  obtain ⟨n, _, h⟩ := List.mem_flatMap.1 hu
  unfold shP at h
  simp only [List.mem_cons, List.not_mem_nil, or_false] at h
  rcases h with rfl | rfl | rfl <;> rfl
theorem info_shown : ∃ i, Tryd.prog.info? 160 = some i ∧ i.zero = some (.agg #[.int .i64 0, .int .i64 0, .bool false]) ∧ i.size = 3 ∧ i.bytes = 24 := by
  refine ⟨_, rfl, ?_, ?_, ?_⟩ <;> kernel_rfl
theorem fill_shown1 (n : Pt) {i : TypeInfo} {z : Value} (hs : i.size = 3) : Instr.fill (fun j => some (j * i.size, i.size)) ((Array.range (1 * i.size)).map (z.cells[· % z.cells.size]!)) [(0, .agg (shP n).toArray)] = some (flatH [n]).toArray := by
  rw [hs]
  have e1 : ([(0, .agg (shP n).toArray)] : List (Nat × Value)) = (([.agg (shP n).toArray] : List Value).zipIdx 0).map fun x => (x.2, x.1) := by simp
  rw [e1, Great.fill_whole (by omega) [.agg (shP n).toArray] _ (fun v hv => by
    simp only [List.mem_cons, List.not_mem_nil, or_false] at hv
    subst hv; rfl) (by simp)]
  rfl
theorem wpList_build_shown1 {w : World} {ops : Array Oper} {rest : List Oper} {o : Oper} {a : Act} {Q : Exit → Act → World → Prop} (hg : o.guard = none) (x : Operand)
    (ho : o.op = .buildSlice 157 1 #[(0, x)]) (n : Pt) (hx : a.eval x = .agg (shP n).toArray)
    (h : wpList Tryd.prog ops Q rest (a.put o.dst (.slice (some ⟨w.heap.size, 0, none⟩) 1 1)) (w.alloc (.cells (flatH [n]).toArray 160))) : wpList Tryd.prog ops Q (o :: rest) a w := by
  obtain ⟨i0, hi, hz, hs, _⟩ := info_shown
  refine wpList_buildSlice hg 157 160 1 _ ho _ i0 _ Tryd.underlying157 hi hz (by rw [hs]; omega) (by rw [hs]; omega) ?_ h
  have e1 : (#[(0, x)].map fun (i, x) => (i, a.eval x)).toList = [(0, .agg (shP n).toArray)] := by simp [hx]
  rw [e1]; exact fill_shown1 n hs
def OwnH (w : World) (base : Nat) (v : Value) (ls : List Pt) : Prop := w.ownsRow base 160 3 v ls.length (flatH ls)
theorem OwnH.kept {w w' : World} {base : Nat} {v : Value} {ls : List Pt} (h : OwnH w base v ls) (hk : ∀ g, v.ownBlock = some g → w'.heap[g]? = w.heap[g]?) : OwnH w' base v ls := by
  refine ⟨h.1, ?_⟩
  rcases h.2 with h0 | ⟨g, cap, cur, rfl, hb, hh, r⟩
  · exact .inl h0
  · exact .inr ⟨g, cap, cur, rfl, hb, (hk g rfl).trans hh, r⟩
theorem OwnH.block {w : World} {base : Nat} {v : Value} {ls : List Pt} (h : OwnH w base v ls) (g : Nat) (hg : v.ownBlock = some g) : base ≤ g ∧ g < w.heap.size ∧ ∃ cur, w.heap[g]? = some (.cells cur 160 (0, 0)) := by
  rcases h.2 with ⟨rfl, h0⟩ | ⟨g', cap, cur, rfl, hb, hh, r⟩
  · cases hg
  · have : g' = g := by simpa [Value.ownBlock] using hg
    subst this
    exact ⟨hb, (Array.getElem?_eq_some_iff.1 hh).1, cur, hh⟩
theorem OwnH.below {w w' : World} {base : Nat} {v : Value} {ls : List Pt} (h : OwnH w base v ls) (hb : Below w.heap.size w w') : OwnH w' base v ls := h.kept fun g hg => hb.block g (h.block g hg).2.1
theorem OwnH.form {w : World} {base : Nat} {v : Value} {ls : List Pt} (h : OwnH w base v ls) : ∃ A n c, v = .slice A n c := by
  rcases h.2 with ⟨rfl, h0⟩ | ⟨g, cap, cur, rfl, r⟩
  · exact ⟨_, _, _, rfl⟩
  · exact ⟨_, _, _, rfl⟩
/-- a slice of parts -/
structure InH (w : World) (A : Option Addr) (n c : Nat) (ls : List Pt) : Prop where
  len : ls.length = n
  cap : n ≤ c
  none_ : A = none → c = 0
  rd : 0 < ls.length → ∃ g off, A = some ⟨g, off, none⟩ ∧ g < w.heap.size ∧ w.rangeAt g off (flatH ls)
theorem OwnH.slice {w : World} {base : Nat} {v : Value} {ls : List Pt} (h : OwnH w base v ls) : ∃ A n c, v = .slice A n c ∧ InH w A n c ls := by
  rcases h.2 with ⟨rfl, h0⟩ | ⟨g, cap, cur, rfl, hb, hh, hc, hm, hs, ht⟩
  · exact ⟨none, 0, 0, rfl, ⟨h0, Nat.le_refl _, fun _ => rfl, fun h1 => by omega⟩⟩
  · refine ⟨_, _, cap, rfl, ⟨rfl, hc, (fun e => by cases e), fun _ => ⟨g, 0, rfl, (Array.getElem?_eq_some_iff.1 hh).1, fun j u hj => ?_⟩⟩⟩
    have hj2 : j < ls.length * 3 := by rw [← flatH_length ls]; exact (List.getElem?_eq_some_iff.1 hj).1
    rw [Nat.zero_add, cell_of_row w g j cur _ _ hh]
    rw [← ht, List.getElem?_take_of_lt hj2] at hj
    simpa using hj
theorem OwnH.one {w : World} {g M : Nat} {x : Pt} (h : w.heap[g]? = some (.cells (flatH [x]).toArray 160 (0, 0))) (hM : M ≤ g) : OwnH w M (.slice (some ⟨g, 0, none⟩) 1 1) [x] :=
  ⟨rfl, .inr ⟨g, 1, _, rfl, hM, h, Nat.le_refl _, by unfold maxLen; omega, rfl, rfl⟩⟩
theorem wpList_append_shown {w : World} {ops : Array Oper} {rest : List Oper} {o : Oper} {a : Act} {Q : Exit → Act → World → Prop} (hgd : o.guard = none) (s x : Operand)
    (ho : o.op = .call { callee := .builtin .append, args := #[s, x], argTypes := #[157, 157] })
    (base : Nat) (v : Value) (ls ps : List Pt) (A : Option Addr) (n c : Nat) (hs : a.eval s = v) (hown : Hid (OwnH w base v ls)) (hx : a.eval x = .slice A n c) (hin : Hid (InH w A n c ps)) (hlen : ls.length ≤ 100000) (hn : n ≤ 100000) (hbase : base ≤ w.heap.size)
    (h : ∀ v' w', Hid (OwnH w' base v' (ls ++ ps)) → Hid (w.grownBy w' v.ownBlock) → Hid (v'.ownBlock = v.ownBlock ∨ v'.ownBlock = some w.heap.size) → wpList Tryd.prog ops Q rest (a.put o.dst v') w') : wpList Tryd.prog ops Q (o :: rest) a w := by
  obtain ⟨i0, hi, hz, hz1, hz2⟩ := info_shown
  rcases A with _ | ad
  · have hc := hin.out.none_ rfl
    have h0 : n = 0 := by have := hin.out.cap; omega
    have hp : ps = [] := List.eq_nil_of_length_eq_zero (by rw [hin.out.len]; exact h0)
    subst hp h0 hc
    refine wpList_append_own_none hgd s x _ ho base _ i0 3 Tryd.underlying157 hi v _ _ hs hown.out hx ?_
    exact h v w (Lib.hid (by rw [List.append_nil]; exact hown.out)) (Lib.hid ⟨rfl, rfl, rfl, Nat.le_refl _, fun _ _ _ => rfl⟩) (Lib.hid (.inl rfl))
  · have hl := flatH_length ps
    rw [hin.out.len] at hl
    refine wpList_append_own_at _ hgd s x _ ho base _ i0 _ 3 24 Tryd.underlying157 hi hz hz1 hz2 (by simp [Value.cells]) (by omega) v _ _ hs hown.out ad n c (flatH ps) hx hl (fun j u hu => ?_) (flatH_one _) (by unfold maxLen; omega) (by omega) hbase ?_
    · have hj := (List.getElem?_eq_some_iff.1 hu).1
      obtain ⟨g, off, e, hg, hr⟩ := hin.out.rd (by rw [hin.out.len]; omega)
      cases e
      rw [add_row]; exact hr j u hu
    · intro v' w' h1 h2 h3 h4
      refine h v' w' (Lib.hid ?_) (Lib.hid h2) (Lib.hid h4)
      unfold OwnH
      rw [flatH_append, List.length_append, hin.out.len]; exact h1
end Go.Proofs.YtmfmgeapecapiaaDoor
namespace Go.Proofs.YtmfmgeapecapiaaDoor
open Go.RowKit Go.Shelf SzSha SzTree
set_option linter.unusedVariables false
set_option maxRecDepth 100000
theorem rh_step43 {f k n : Nat} (hlt : 2 * k < n) (hn : n ≤ 1000000) (h : 18446744073709551616 ≤ k * 2 ^ f) : ∃ g, halfF f k n = halfF g (2 * k) n ∧ 18446744073709551616 ≤ 2 * k * 2 ^ g := by
  cases f with
  | zero => rw [Nat.pow_zero] at h; omega
  | succ g =>
    refine ⟨g, ?_, ?_⟩
    · conv => lhs; unfold halfF
      rw [if_pos hlt]
    · rw [Nat.pow_succ] at h
      rw [show 2 * k * 2 ^ g = k * (2 ^ g * 2) by rw [Nat.mul_comm (2 ^ g) 2, ← Nat.mul_assoc, Nat.mul_comm k 2]]
      exact h
theorem rh_end43 {f k n : Nat} (hlt : ¬ 2 * k < n) : halfF f k n = k := by
  cases f with
  | zero => rfl
  | succ f => unfold halfF; rw [if_neg hlt]
set_option maxHeartbeats 2000000 in
theorem rhalf43_any (n : Nat) (w : World) (hn : n ≤ 1000000) : Calls Tryd.prog 117 #[.int .i64 (n : Nat)] w fun e w' => e = .returned (.int .i64 (half n : Nat)) ∧ w = w' := by
  go_enter Tryd.func117, Tryd.ntmps117
  go_wp2_with fail
  go_loop [3] (fun v => ∃ k : Nat, v = .int .i64 (k : Nat) ∧ 1 ≤ k ∧ k ≤ 1000000 ∧ Hid (∃ f, halfF f k n = half n ∧ 18446744073709551616 ≤ k * 2 ^ f)) (fun v => n - (intOf v).toNat)
  case atStart => exact ⟨1, rfl, by omega, by omega, Lib.hid ⟨64, rfl, by decide⟩⟩
  case round =>
    obtain ⟨k, rfl, hk1, hk2, HF⟩ := hrel
    by_cases hlt : 2 * k < n
    · have d1 : decide (2 * (k : Int) < (n : Int)) = true := decide_eq_true (by omega)
      have HF2 : Hid (∃ f, halfF f (2 * k) n = half n ∧ 18446744073709551616 ≤ 2 * k * 2 ^ f) := Lib.hid (by
        obtain ⟨f, h1, h2⟩ := HF.out
        obtain ⟨g, h3, h4⟩ := rh_step43 hlt hn h2
        exact ⟨g, by rw [← h3]; exact h1, h4⟩)
      go_wp2_with fail
      go_round
      case rel => exact ⟨2 * k, by go_num, by omega, by omega, HF2⟩
      case measure => simp [intOf]; omega
    · have d1 : decide (2 * (k : Int) < (n : Int)) = false := decide_eq_false (by omega)
      have HE : Hid (half n = k) := Lib.hid (by
        obtain ⟨f, h1, _⟩ := HF.out
        rw [← h1]; exact rh_end43 hlt)
      go_wp2_with fail
      go_ret
      exact ⟨by rw [HE.out]; rfl, rfl⟩
theorem rfits_any (f t m : Int) (w : World) : Calls Tryd.prog 79 #[.int .i64 f, .int .i64 t, .int .i64 m] w fun e w' => e = .returned (.bool (ftB f t m)) ∧ w = w' := by
  unfold ftB
  by_cases h0 : 0 ≤ f
  · have d0 : decide (0 ≤ f) = true := decide_eq_true h0
    by_cases h1 : f < t
    · have d1 : decide (f < t) = true := decide_eq_true h1
      by_cases h2 : t ≤ m
      · have d2 : decide (t ≤ m) = true := decide_eq_true h2
        go_enter Tryd.func79, Tryd.ntmps79
        go_wp2_with fail
        go_ret
        exact ⟨by first | rfl | (rw [d0, d1, d2]; rfl), rfl⟩
      · have d2 : decide (t ≤ m) = false := decide_eq_false h2
        go_enter Tryd.func79, Tryd.ntmps79
        go_wp2_with fail
        go_ret
        exact ⟨by first | rfl | (rw [d0, d1, d2]; rfl), rfl⟩
    · have d1 : decide (f < t) = false := decide_eq_false h1
      go_enter Tryd.func79, Tryd.ntmps79
      go_wp2_with fail
      go_ret
      exact ⟨by first | rfl | (rw [d0, d1]; rfl), rfl⟩
  · have d0 : decide (0 ≤ f) = false := decide_eq_false h0
    go_enter Tryd.func79, Tryd.ntmps79
    go_wp2_with fail
    go_ret
    exact ⟨by first | rfl | (rw [d0]; rfl), rfl⟩
def RPts (f t lo hi : Nat) : Prop := hi ≤ 4096 → ∀ w : World, Calls Tryd.prog 80 #[.int .i64 (f : Nat), .int .i64 (t : Nat), .int .i64 (lo : Nat), .int .i64 (hi : Nat)] w fun e w' => ∃ A n c, e = .returned (.slice A n c) ∧ OwnH w' w.heap.size (.slice A n c) (parts f t lo hi) ∧ Below w.heap.size w w'
set_option maxHeartbeats 4000000 in
theorem rparts_leaf (f t lo up : Nat) (hft : f < t) (ht : t ≤ 4096) (hlt : lo < up) (hc : (insB f t lo up || outB f t lo up) = true) : RPts f t lo up := by
  intro hhi w
  rw [parts_leaf hlt hc]
  unfold insB outB at hc
  unfold insB
  obtain ⟨b, HB⟩ : ∃ b, Hid ((decide (f ≤ lo) && decide (up ≤ t)) = b) := ⟨_, Lib.hid rfl⟩
  rw [HB.out]
  obtain ⟨W, HW⟩ : ∃ W, Hid (w.alloc (.cells (flatH [⟨lo, up, b⟩]).toArray 160) = W) := ⟨_, Lib.hid rfl⟩
  have hr := heap_alloc_new w (.cells (flatH [⟨lo, up, b⟩]).toArray 160)
  have hb := (Below.refl _ w).alloc (Nat.le_refl _) (.cells (flatH [⟨lo, up, b⟩]).toArray 160)
  rw [HW.out] at hr hb
  have HO := Lib.hid (OwnH.one hr (Nat.le_refl _))
  have HBW := Lib.hid hb
  clear hr hb
  obtain ⟨b1, e1⟩ : ∃ b, decide (f ≤ lo) = b := ⟨_, rfl⟩
  obtain ⟨b2, e2⟩ : ∃ b, decide (up ≤ t) = b := ⟨_, rfl⟩
  obtain ⟨b3, e3⟩ : ∃ b, decide (up ≤ f) = b := ⟨_, rfl⟩
  obtain ⟨b4, e4⟩ : ∃ b, decide (t ≤ lo) = b := ⟨_, rfl⟩
  have d1 : decide ((f : Int) ≤ (lo : Int)) = b1 := by rw [← e1]; simp
  have d2 : decide ((up : Int) ≤ (t : Int)) = b2 := by rw [← e2]; simp
  have d3 : decide ((up : Int) ≤ (f : Int)) = b3 := by rw [← e3]; simp
  have d4 : decide ((t : Int) ≤ (lo : Int)) = b4 := by rw [← e4]; simp
  have HC := Lib.hid hc
  rw [e1, e2] at HB
  rw [e1, e2, e3, e4] at HC
  have HF : Hid (f < t) := Lib.hid hft
  clear hc hft
  cases b1
  · cases b3
    · cases b4
      · have := HC.out; cases this
      · have hbt : b = false := HB.out.symm
        subst hbt
        go_enter Tryd.func80, Tryd.ntmps80
        go_wp2_with (first | (refine wpList_build_shown1 rfl (.tmp 32) rfl ⟨lo, up, false⟩ rfl ?_; rw [HW.out]))
        go_ret
        exact ⟨_, _, _, rfl, HO.out, HBW.out⟩
    · have hbt : b = false := HB.out.symm
      subst hbt
      go_enter Tryd.func80, Tryd.ntmps80
      go_wp2_with (first | (refine wpList_build_shown1 rfl (.tmp 32) rfl ⟨lo, up, false⟩ rfl ?_; rw [HW.out]))
      go_ret
      exact ⟨_, _, _, rfl, HO.out, HBW.out⟩
  · cases b2
    · cases b3
      · cases b4
        · have := HC.out; cases this
        · have hbt : b = false := HB.out.symm
          subst hbt
          go_enter Tryd.func80, Tryd.ntmps80
          go_wp2_with (first | (refine wpList_build_shown1 rfl (.tmp 32) rfl ⟨lo, up, false⟩ rfl ?_; rw [HW.out]))
          go_ret
          exact ⟨_, _, _, rfl, HO.out, HBW.out⟩
      · have hbt : b = false := HB.out.symm
        subst hbt
        go_enter Tryd.func80, Tryd.ntmps80
        go_wp2_with (first | (refine wpList_build_shown1 rfl (.tmp 32) rfl ⟨lo, up, false⟩ rfl ?_; rw [HW.out]))
        go_ret
        exact ⟨_, _, _, rfl, HO.out, HBW.out⟩
    · have hbt : b = true := HB.out.symm
      subst hbt
      go_enter Tryd.func80, Tryd.ntmps80
      go_wp2_with (first | (refine wpList_build_shown1 rfl (.tmp 20) rfl ⟨lo, up, true⟩ rfl ?_; rw [HW.out]))
      go_ret
      exact ⟨_, _, _, rfl, HO.out, HBW.out⟩
set_option maxHeartbeats 4000000 in
theorem rparts_cut (f t lo up mid : Nat) (hft : f < t) (ht : t ≤ 4096) (hlt : lo < up) (hc : (insB f t lo up || outB f t lo up) = false) (hm : Hid (lo + half (up - lo) = mid)) (hm1 : lo < mid) (hm2 : mid < up) (ih1 : RPts f t lo mid) (ih2 : RPts f t mid up) : RPts f t lo up := by
  intro hhi w
  rw [parts_cut hlt hft hc, hm.out]
  have HL1 := Lib.hid (parts_length hft lo mid hm1)
  have HL2 := Lib.hid (parts_length hft mid up hm2)
  obtain ⟨dn, HDN⟩ : ∃ k, Hid (up - lo = k) := ⟨_, Lib.hid rfl⟩
  obtain ⟨hf, HHF⟩ : ∃ k, Hid (half dn = k) := ⟨_, Lib.hid rfl⟩
  have hmm : lo + hf = mid := by rw [← HHF.out, ← HDN.out]; exact hm.out
  have w1 : IntKind.i64.wrap ((up : Int) - (lo : Int)) = (dn : Int) := by have := HDN.out; rw [IntWalk.i64_in _ (by omega)]; omega
  have w2 : IntKind.i64.wrap ((lo : Int) + (hf : Int)) = (mid : Int) := by rw [IntWalk.i64_in _ (by omega)]; omega
  have hdn : dn ≤ 1000000 := by have := HDN.out; omega
  have q1 := ih1 (by omega)
  have q2 := ih2 hhi
  have HQ1 := Lib.hid q1
  have HQ2 := Lib.hid q2
  have HLN : Hid (mid ≤ 4096 ∧ up ≤ 4096) := Lib.hid ⟨by omega, hhi⟩
  obtain ⟨b1, e1⟩ : ∃ b, decide (f ≤ lo) = b := ⟨_, rfl⟩
  obtain ⟨b2, e2⟩ : ∃ b, decide (up ≤ t) = b := ⟨_, rfl⟩
  obtain ⟨b3, e3⟩ : ∃ b, decide (up ≤ f) = b := ⟨_, rfl⟩
  obtain ⟨b4, e4⟩ : ∃ b, decide (t ≤ lo) = b := ⟨_, rfl⟩
  have d1 : decide ((f : Int) ≤ (lo : Int)) = b1 := by rw [← e1]; simp
  have d2 : decide ((up : Int) ≤ (t : Int)) = b2 := by rw [← e2]; simp
  have d3 : decide ((up : Int) ≤ (f : Int)) = b3 := by rw [← e3]; simp
  have d4 : decide ((t : Int) ≤ (lo : Int)) = b4 := by rw [← e4]; simp
  have HC := Lib.hid hc
  unfold insB outB at HC
  rw [e1, e2, e3, e4] at HC
  clear q1 q2 ih1 ih2 hc hm1 hm2 hlt hhi hmm hft ht
  have h3 : b3 = false := by cases b3 with
    | false => rfl
    | true => have := HC.out; simp at this
  have h4 : b4 = false := by cases b4 with
    | false => rfl
    | true => have := HC.out; simp at this
  subst h3 h4
  obtain ⟨mm, hmm⟩ : ∃ q, q = mid := ⟨_, rfl⟩
  cases b1
  rotate_left
  · cases b2
    rotate_left
    · have := HC.out; simp at this
    go_enter Tryd.func80, Tryd.ntmps80
    go_wp2_with fail
    refine (rhalf43_any dn _ hdn).mono ?_
    rintro e w2 ⟨rfl, rfl⟩
    rw [HHF.out]
    go_wp2_with fail
    refine (HQ1.out _).mono ?_
    rintro e w3 ⟨A1, n1, c1, rfl, ho1, hb1⟩
    have HO1 := Lib.hid ho1
    have HB1 := Lib.hid hb1
    clear ho1 hb1
    go_wp2_with fail
    refine (HQ2.out _).mono ?_
    rintro e w4 ⟨A2, n2, c2, rfl, ho2, hb2⟩
    obtain ⟨A3, n3, c3, e3, hi3⟩ := ho2.slice
    cases e3
    have HI := Lib.hid hi3
    have HO2 := Lib.hid (HO1.out.below hb2)
    have HB2 := Lib.hid (HB1.out.trans (hb2.mono HB1.out.size))
    have HN : Hid (n2 ≤ 100000 ∧ (parts f t lo mid).length ≤ 100000) := Lib.hid ⟨by rw [← hi3.len]; have := HL2.out; have := HLN.out; omega, by have := HL1.out; have := HLN.out; omega⟩
    clear ho2 hb2 hi3
    go_wp2_with (first | (refine wpList_append_shown rfl (.tmp 44) (.tmp 49) rfl w.heap.size _ _ _ A2 n2 c2 rfl HO2 rfl HI HN.out.2 HN.out.1 HB2.out.size ?_; intro v2 w5 HO3 HG HV; obtain ⟨A4, n4, c4, rfl⟩ := HO3.out.form))
    go_ret
    exact ⟨_, _, _, rfl, HO3.out, HB2.out.grown HG.out HB2.out.size (fun k e => (HO2.out.block k e).1)⟩
  go_enter Tryd.func80, Tryd.ntmps80
  go_wp2_with fail
  refine (rhalf43_any dn _ hdn).mono ?_
  rintro e w2 ⟨rfl, rfl⟩
  rw [HHF.out]
  go_wp2_with fail
  refine (HQ1.out _).mono ?_
  rintro e w3 ⟨A1, n1, c1, rfl, ho1, hb1⟩
  have HO1 := Lib.hid ho1
  have HB1 := Lib.hid hb1
  clear ho1 hb1
  go_wp2_with fail
  refine (HQ2.out _).mono ?_
  rintro e w4 ⟨A2, n2, c2, rfl, ho2, hb2⟩
  obtain ⟨A3, n3, c3, e3, hi3⟩ := ho2.slice
  cases e3
  have HI := Lib.hid hi3
  have HO2 := Lib.hid (HO1.out.below hb2)
  have HB2 := Lib.hid (HB1.out.trans (hb2.mono HB1.out.size))
  have HN : Hid (n2 ≤ 100000 ∧ (parts f t lo mid).length ≤ 100000) := Lib.hid ⟨by rw [← hi3.len]; have := HL2.out; have := HLN.out; omega, by have := HL1.out; have := HLN.out; omega⟩
  clear ho2 hb2 hi3
  go_wp2_with (first | (refine wpList_append_shown rfl (.tmp 44) (.tmp 49) rfl w.heap.size _ _ _ A2 n2 c2 rfl HO2 rfl HI HN.out.2 HN.out.1 HB2.out.size ?_; intro v2 w5 HO3 HG HV; obtain ⟨A4, n4, c4, rfl⟩ := HO3.out.form))
  go_ret
  exact ⟨_, _, _, rfl, HO3.out, HB2.out.grown HG.out HB2.out.size (fun k e => (HO2.out.block k e).1)⟩
theorem rparts_any (f t : Nat) (hft : f < t) (ht : t ≤ 4096) (lo hi : Nat) (h : lo < hi) : RPts f t lo hi :=
  parts_ind hft (M := RPts f t) (fun lo hi hlt hc => rparts_leaf f t lo hi hft ht hlt hc) (fun lo hi hlt hc h1 h2 ih1 ih2 => rparts_cut f t lo hi _ hft ht hlt hc (Lib.hid rfl) (by omega) (by omega) ih1 ih2) (hi - lo) lo hi h (Nat.le_refl _)
end Go.Proofs.YtmfmgeapecapiaaDoor
namespace Go.Proofs.YtmfmgeapecapiaaDoor
open Go.RowKit SzSha SzTree
set_option linter.unusedVariables false
set_option maxRecDepth 100000
theorem wpList_build_spanR {w : World} {ops : Array Oper} {rest : List Oper} {o : Oper} {a : Act} {Q : Exit → Act → World → Prop} (hg : o.guard = none) (x : Operand)
    (ho : o.op = .buildSlice 90 1 #[(0, x)]) (n : Pt) (hx : a.eval x = .agg (spC n).toArray)
    (h : wpList Tryd.prog ops Q rest (a.put o.dst (.slice (some ⟨w.heap.size, 0, none⟩) 1 1)) (w.alloc (.cells (flatS [n]).toArray 97))) : wpList Tryd.prog ops Q (o :: rest) a w := by
  obtain ⟨i0, hi, hz, hs, _⟩ := info_span
  refine wpList_buildSlice hg 90 97 1 _ ho _ i0 _ Tryd.underlying90 hi hz (by rw [hs]; omega) (by rw [hs]; omega) ?_ h
  have e1 : (#[(0, x)].map fun (i, x) => (i, a.eval x)).toList = [(0, .agg (spC n).toArray)] := by simp [hx]
  rw [e1]; exact fill_span1 n hs
theorem wpList_append_spanR {w : World} {ops : Array Oper} {rest : List Oper} {o : Oper} {a : Act} {Q : Exit → Act → World → Prop} (hgd : o.guard = none) (s x : Operand)
    (ho : o.op = .call { callee := .builtin .append, args := #[s, x], argTypes := #[90, 90] })
    (base : Nat) (v : Value) (ls : List Pt) (n : Pt) (hs : a.eval s = v) (hown : Hid (OwnS w base v ls)) (g : Nat) (hx : a.eval x = .slice (some ⟨g, 0, none⟩) 1 1)
    (hr : Hid (w.heap[g]? = some (.cells (flatS [n]).toArray 97 (0, 0)))) (hlen : ls.length ≤ 100000) (hbase : base ≤ w.heap.size)
    (h : ∀ v' w', Hid (OwnS w' base v' (ls ++ [n])) → Hid (w.grownBy w' v.ownBlock) → wpList Tryd.prog ops Q rest (a.put o.dst v') w') : wpList Tryd.prog ops Q (o :: rest) a w := by
  obtain ⟨i0, hi, hz, hz1, hz2⟩ := info_span
  refine wpList_append_own_at _ hgd s x _ ho base _ i0 _ 2 16 Tryd.underlying90 hi hz hz1 hz2 (by simp [Value.cells]) (by omega) v _ _ hs hown.out ⟨g, 0, none⟩ 1 1 (flatS [n]) hx (by rw [flatS_length]; rfl) (fun j u hu => by rw [add_row]; exact range_row hr.out j u hu) (flatS_one _) (by unfold maxLen; omega) (by omega) hbase ?_
  intro v' w' h1 h2 h3 h4
  refine h v' w' (Lib.hid ?_) (Lib.hid h2)
  unfold OwnS
  rw [flatS_append, List.length_append]; exact h1
theorem own_emptySR {w : World} {g M : Nat} (h : w.heap[g]? = some (.cells #[] 97 (0, 0))) (hM : M ≤ g) : OwnS w M (.slice (some ⟨g, 0, none⟩) 0 0) [] :=
  ⟨rfl, .inr ⟨g, 0, #[], rfl, hM, h, Nat.le_refl _, Nat.zero_le _, rfl, rfl⟩⟩
theorem rangeAt_belowSR {w w' : World} {M g off : Nat} {cs : List Value} (h : w.rangeAt g off cs) (hg : g < M) (hb : Below M w w') : w'.rangeAt g off cs := fun j v hj => (hb.cell (p := ⟨g, off + j, none⟩) hg).trans (h j v hj)
def wR43c (M : Nat) (g : Nat) (off : Nat) (n : Nat) (c : Nat) (jn : Nat) (x : Pt) (A3 : Option Addr) (n3 : Nat) (c3 : Nat) (P : List Pt) : Nat → Value → World → Prop
  | 0, fv, _ => fv = Value.slice A3 n3 c3
  | 1, fv, _ => fv = Value.slice (some ⟨g, off, none⟩) n c
  | 2, fv, _ => fv = Value.int .i64 ((jn : Nat))
  | 3, fv, _ => fv = Value.pointer (some ⟨g, off + jn * 3, none⟩)
  | 4, fv, _ => fv = Value.pointer (some ⟨g, off + jn * 3, none⟩)
  | 5, fv, _ => fv = .int .i64 (x.lo : Nat)
  | 6, fv, _ => fv = Value.slice (some ⟨g, off, none⟩) n c
  | 7, fv, _ => fv = Value.int .i64 ((jn : Nat))
  | 8, fv, _ => fv = Value.pointer (some ⟨g, off + jn * 3, none⟩)
  | 9, fv, _ => fv = Value.pointer (some ⟨g, off + jn * 3 + 1, none⟩)
  | 10, fv, _ => fv = .int .i64 (x.hi : Nat)
  | 11, fv, _ => fv = .agg (spC x).toArray
  | 12, fv, fw => ∃ q, fv = .slice (some ⟨q, 0, none⟩) 1 1 ∧ fw.heap[q]? = some (.cells (flatS [x]).toArray 97 (0, 0))
  | 13, fv, fw => OwnS fw M fv (P ++ [x])
  | 14, fv, fw => OwnS fw M fv (P ++ [x])
  | _, _, _ => True
theorem wR43c_below {M : Nat} {g : Nat} {off : Nat} {n : Nat} {c : Nat} {jn : Nat} {x : Pt} {A3 : Option Addr} {n3 : Nat} {c3 : Nat} {P : List Pt} {w w' : World} (hb : Below w.heap.size w w') : ∀ j v, wR43c M g off n c jn x A3 n3 c3 P j v w → wR43c M g off n c jn x A3 n3 c3 P j v w'
  | 0, v, h => h
  | 1, v, h => h
  | 2, v, h => h
  | 3, v, h => h
  | 4, v, h => h
  | 5, v, h => h
  | 6, v, h => h
  | 7, v, h => h
  | 8, v, h => h
  | 9, v, h => h
  | 10, v, h => h
  | 11, v, h => h
  | 12, v, ⟨q, h1, h2⟩ => ⟨q, h1, row_kept h2 hb⟩
  | 13, v, h => h.below hb
  | 14, v, h => h.below hb
  | n + 15, v, h => trivial
theorem wR43c_pure {M : Nat} {g : Nat} {off : Nat} {n : Nat} {c : Nat} {jn : Nat} {x : Pt} {A3 : Option Addr} {n3 : Nat} {c3 : Nat} {P : List Pt} {w w' : World} : ∀ j v, j ≠ 12 → j ≠ 13 → j ≠ 14 → wR43c M g off n c jn x A3 n3 c3 P j v w → wR43c M g off n c jn x A3 n3 c3 P j v w'
  | 0, v, _, _, _, h => h
  | 1, v, _, _, _, h => h
  | 2, v, _, _, _, h => h
  | 3, v, _, _, _, h => h
  | 4, v, _, _, _, h => h
  | 5, v, _, _, _, h => h
  | 6, v, _, _, _, h => h
  | 7, v, _, _, _, h => h
  | 8, v, _, _, _, h => h
  | 9, v, _, _, _, h => h
  | 10, v, _, _, _, h => h
  | 11, v, _, _, _, h => h
  | 12, v, hh, _, _, _ => absurd rfl hh
  | 13, v, _, hh, _, _ => absurd rfl hh
  | 14, v, _, _, hh, _ => absurd rfl hh
  | n + 15, v, _, _, _, h => trivial
set_option maxHeartbeats 4000000 in
theorem rcover_no (f t m : Int) (w : World) (h : Hid (ftB f t m = false)) :
    Calls Tryd.prog 40 #[.int .i64 f, .int .i64 t, .int .i64 m] w fun e w' => e = .returned (.tuple #[.slice none 0 0, .int .i64 430]) ∧ Below w.heap.size w w' := by
  go_enter Tryd.func40, Tryd.ntmps40
  go_wp2_with fail
  refine (rfits_any _ _ _ _).mono ?_
  rintro e w2 ⟨rfl, rfl⟩
  rw [h.out]
  go_wp2_with fail
  go_ret2
  exact ⟨rfl, Below.refl _ _⟩
set_option maxHeartbeats 8000000 in
theorem rcover_yes (f t m : Nat) (w : World) (h1 : f < t) (h2 : t ≤ m) (h3 : m ≤ 4096) :
    Calls Tryd.prog 40 #[.int .i64 (f : Nat), .int .i64 (t : Nat), .int .i64 (m : Nat)] w fun e w' => ∃ A n c, e = .returned (.tuple #[.slice A n c, .int .i64 0]) ∧ InS w' A n c ((parts f t 0 m).filter (·.ins)) ∧ Below w.heap.size w w' := by
  have HF := Lib.hid (ftB_yes (f := (f : Int)) (t := (t : Int)) (m := (m : Int)) (by omega))
  have HPT := Lib.hid (rparts_any f t h1 (by omega) 0 m (by omega) h3)
  have HLL := Lib.hid (parts_length h1 0 m (by omega))
  have HM := Lib.hid h3
  clear h1 h2 h3
  generalize parts f t 0 m = ls at HPT HLL ⊢
  go_enter Tryd.func40, Tryd.ntmps40
  go_wp2_with fail
  refine (rfits_any _ _ _ _).mono ?_
  rintro e w2 ⟨rfl, rfl⟩
  rw [HF.out]
  go_wp2_with fail
  refine (HPT.out _).mono ?_
  rintro e W2 ⟨A, n, c, rfl, ho, hb⟩
  obtain ⟨A1, n1, c1, e1, hi1⟩ := ho.slice
  cases e1
  have HI := Lib.hid hi1
  have HB2 := Lib.hid hb
  have HN : Hid (ls.length = n) := Lib.hid hi1.len
  have HNL : Hid (n ≤ 100000) := Lib.hid (by have := HLL.out; have := HM.out; rw [← hi1.len]; omega)
  have HBE := Lib.hid ((Below.refl W2.heap.size W2).alloc (Nat.le_refl _) (.cells #[] 97))
  have HOE := Lib.hid (own_emptySR (heap_alloc_new W2 (.cells #[] 97)) (Nat.le_refl W2.heap.size))
  clear ho hb hi1
  go_wp2_with fail
  go_loopw [10, 9] (fun i dd wr => ∃ (j : Nat) (P : List Pt), j ≤ n ∧ i = .int .i64 j ∧ Hid (P = (ls.take j).filter (·.ins)) ∧ Hid (OwnS wr W2.heap.size dd P) ∧ Hid (Below W2.heap.size W2 wr) ∧ ∃ A3 n3 c3, dd = .slice A3 n3 c3) (fun i _ _ => n - (intOf i).toNat)
  case atStart => exact ⟨0, [], by omega, rfl, Lib.hid rfl, HOE, HBE, _, _, _, rfl⟩
  case round =>
    clear HOE HBE
    obtain ⟨j, P, hj, rfl, HP, HOW, HB, A3, n3, c3, rfl⟩ := hrel
    by_cases hlt : j < n
    · have d1 : decide ((j : Int) < (n : Int)) = true := decide_eq_true (by omega)
      have d2 : decide (j < n) = true := decide_eq_true hlt
      have HLT := Lib.hid hlt
      have hjl : j < ls.length := by rw [HN.out]; exact hlt
      obtain ⟨g, off, eA, hgl, hr⟩ := HI.out.rd (by omega)
      obtain ⟨x, HX⟩ : ∃ x, Hid (ls[j] = x) := ⟨_, Lib.hid rfl⟩
      have HR : Hid (wr.rangeAt g (off + j * 3) (shP x)) := Lib.hid (by
        rw [← HX.out]
        exact rangeAt_belowSR (range_elem (k := 3) (cells := shP) (fun _ => rfl) hr j hjl) hgl HB.out)
      have HGL : Hid (g < W2.heap.size) := Lib.hid hgl
      have HPL : Hid (P.length ≤ 100000) := Lib.hid (by have h4 := HNL.out; rw [HP.out]; exact Nat.le_trans (List.length_filter_le _ _) (by rw [List.length_take]; omega))
      have HMS := Lib.hid HB.out.size
      have HTK : Hid ((ls.take (j + 1)).filter (·.ins) = P ++ [x].filter (·.ins)) := Lib.hid (by rw [List.take_succ_eq_append_getElem hjl, List.filter_append, ← HP.out, HX.out])
      subst eA
      have k2 : wr.cell? ⟨g, off + j * 3 + 2, none⟩ = some (.bool x.ins) := HR.out 2 _ rfl
      clear hr hgl
      cases hxi : x.ins with
      | false =>
        rw [hxi] at k2
        have hnl := HNL.out
        have HTF : Hid ((ls.take (j + 1)).filter (·.ins) = P) := Lib.hid (by rw [HTK.out]; simp [hxi])
        go_wp2_with fail
        go_roundw
        case rel => exact ⟨j + 1, P, by omega, by go_num, Lib.hid HTF.out.symm, HOW, HB, _, _, _, rfl⟩
        case measure => simp [intOf]; omega
      | true =>
        rw [hxi] at k2
        have HPN : Hid (P ++ [x] = (ls.take (j + 1)).filter (·.ins)) := Lib.hid (by rw [HTK.out]; simp [hxi])
        clear HTK
        go_wp2_with fail
        clear k2
        have HBL := Lib.hid (fun (a1 a2 : World) (hb : Below a1.heap.size a1 a2) => wR43c_below (M := W2.heap.size) (g := g) (off := off) (n := n) (c := c) (jn := j) (x := x) (A3 := A3) (n3 := n3) (c3 := c3) (P := P) hb)
        refine region_flow3 (by kernel_rfl) (by kernel_rfl) (fun i => Nat.beq i 14) (fun i => i) (by kernel_rfl) (fun fx => #[Value.int IntKind.i64 ↑f, Value.int IntKind.i64 ↑t, Value.int IntKind.i64 ↑m, undef, undef, undef, Value.slice none 0 0, Value.int IntKind.i64 0, Value.slice (some { block := g, off := off }) n c, fx 14, Value.int IntKind.i64 ↑j, Value.int IntKind.i64 ↑f, Value.int IntKind.i64 ↑t, Value.int IntKind.i64 ↑m, Value.bool true, Value.bool false, Value.int IntKind.i64 ↑f, Value.int IntKind.i64 ↑t, Value.int IntKind.i64 ↑m, Value.slice (some { block := g, off := off }) n c, Value.slice (some { block := W2.heap.size, off := 0 }) 0 0, Value.int IntKind.i64 ↑j, Value.slice (some { block := g, off := off }) n c, Value.int IntKind.i64 ↑n, Value.bool true, u25, u26, Value.slice (some { block := g, off := off }) n c, Value.int IntKind.i64 ↑j, Value.pointer (some { block := g, off := off + j * 3 }), Value.pointer (some { block := g, off := off + j * 3 + 2 }), Value.bool true, fx 0, fx 1, fx 2, fx 3, fx 4, fx 5, fx 6, fx 7, fx 8, fx 9, fx 10, fx 11, fx 12, fx 13, undef]) (fun i => bif Nat.beq i 0 then u32 else bif Nat.beq i 1 then u33 else bif Nat.beq i 2 then u34 else bif Nat.beq i 3 then u35 else bif Nat.beq i 4 then u36 else bif Nat.beq i 5 then u37 else bif Nat.beq i 6 then u38 else bif Nat.beq i 7 then u39 else bif Nat.beq i 8 then u40 else bif Nat.beq i 9 then u41 else bif Nat.beq i 10 then u42 else bif Nat.beq i 11 then u43 else bif Nat.beq i 12 then u44 else bif Nat.beq i 13 then u45 else bif Nat.beq i 14 then Value.slice A3 n3 c3 else undef) (fun L fx w' => Below W2.heap.size wr w' ∧ (L 13 = false → OwnS w' W2.heap.size (.slice A3 n3 c3) P) ∧ (L 14 = false → fx 14 = Value.slice A3 n3 c3)) (fun fi fv _ fw => wR43c W2.heap.size g off n c j x A3 n3 c3 P fi fv fw) ⟨(Below.refl _ _).drew, fun _ => HOW.out, fun _ => rfl⟩ ?_ ?_
        · refine ⟨?_, ?_, ?_, ?_, ?_, ?_, ?_, ?_, ?_, ?_, ?_, ?_, ?_, ?_, ?_, trivial⟩
          all_goals intro L fx w' hC hi hcl hdn hd
          · have hn14 : L 14 = false := Bool.eq_false_iff.2 (fun h => by have := (hcl 13 0 (hcl 14 13 h (by kernel_rfl)) (by kernel_rfl)); rw [hi] at this; cases this)
            have h14 : fx 14 = Value.slice A3 n3 c3 := hC.2.2 hn14
            clear hd
            go_wp2_with fail
            exact ⟨Value.slice A3 n3 c3, by simp only [upd, h14]; rfl, ⟨hC.1, fun h => hC.2.1 h, fun h => hC.2.2 h⟩, rfl, fun _ _ _ _ _ h => h⟩
          · clear hd
            go_wp2_with fail
            exact ⟨_, rfl, ⟨hC.1, fun h => hC.2.1 h, fun h => hC.2.2 h⟩, rfl, fun _ _ _ _ _ h => h⟩
          · clear hd
            go_wp2_with fail
            exact ⟨_, rfl, ⟨hC.1, fun h => hC.2.1 h, fun h => hC.2.2 h⟩, rfl, fun _ _ _ _ _ h => h⟩
          · have h1 : fx 1 = Value.slice (some ⟨g, off, none⟩) n c := hd.1 rfl
            have h2 : fx 2 = Value.int .i64 ((j : Nat)) := hd.2.1 rfl
            have hlt := HLT.out
            have hltn : decide (j < n) = true := decide_eq_true hlt
            clear hd
            go_wp2_with fail
            exact ⟨_, by simp only [upd, h1, h2]; rfl, ⟨hC.1, fun h => hC.2.1 h, fun h => hC.2.2 h⟩, rfl, fun _ _ _ _ _ h => h⟩
          · have h3 : fx 3 = Value.pointer (some ⟨g, off + j * 3, none⟩) := hd.1 rfl
            clear hd
            go_wp2_with fail
            exact ⟨_, by simp only [upd, h3]; rfl, ⟨hC.1, fun h => hC.2.1 h, fun h => hC.2.2 h⟩, rfl, fun _ _ _ _ _ h => h⟩
          · have h4 : fx 4 = Value.pointer (some ⟨g, off + j * 3, none⟩) := hd.1 rfl
            have hrow := rangeAt_belowSR HR.out HGL.out hC.1
            have hc0 : w'.cell? ⟨g, off + j * 3, none⟩ = some (.int .i64 (x.lo : Nat)) := hrow 0 _ rfl
            clear hrow
            clear hd
            go_wp2_with fail
            exact ⟨_, by simp only [upd, h4]; rfl, ⟨hC.1, fun h => hC.2.1 h, fun h => hC.2.2 h⟩, rfl, fun _ _ _ _ _ h => h⟩
          · clear hd
            go_wp2_with fail
            exact ⟨_, rfl, ⟨hC.1, fun h => hC.2.1 h, fun h => hC.2.2 h⟩, rfl, fun _ _ _ _ _ h => h⟩
          · clear hd
            go_wp2_with fail
            exact ⟨_, rfl, ⟨hC.1, fun h => hC.2.1 h, fun h => hC.2.2 h⟩, rfl, fun _ _ _ _ _ h => h⟩
          · have h6 : fx 6 = Value.slice (some ⟨g, off, none⟩) n c := hd.1 rfl
            have h7 : fx 7 = Value.int .i64 ((j : Nat)) := hd.2.1 rfl
            have hlt := HLT.out
            have hltn : decide (j < n) = true := decide_eq_true hlt
            clear hd
            go_wp2_with fail
            exact ⟨_, by simp only [upd, h6, h7]; rfl, ⟨hC.1, fun h => hC.2.1 h, fun h => hC.2.2 h⟩, rfl, fun _ _ _ _ _ h => h⟩
          · have h8 : fx 8 = Value.pointer (some ⟨g, off + j * 3, none⟩) := hd.1 rfl
            clear hd
            go_wp2_with fail
            exact ⟨_, by simp only [upd, h8]; rfl, ⟨hC.1, fun h => hC.2.1 h, fun h => hC.2.2 h⟩, rfl, fun _ _ _ _ _ h => h⟩
          · have h9 : fx 9 = Value.pointer (some ⟨g, off + j * 3 + 1, none⟩) := hd.1 rfl
            have hrow := rangeAt_belowSR HR.out HGL.out hC.1
            have hc0 : w'.cell? ⟨g, off + j * 3 + 1, none⟩ = some (.int .i64 (x.hi : Nat)) := hrow 1 _ rfl
            clear hrow
            clear hd
            go_wp2_with fail
            exact ⟨_, by simp only [upd, h9]; rfl, ⟨hC.1, fun h => hC.2.1 h, fun h => hC.2.2 h⟩, rfl, fun _ _ _ _ _ h => h⟩
          · have h5 : fx 5 = .int .i64 (x.lo : Nat) := hd.1 rfl
            have h10 : fx 10 = .int .i64 (x.hi : Nat) := hd.2.1 rfl
            clear hd
            go_wp2_with fail
            exact ⟨_, by simp only [upd, h5, h10]; rfl, ⟨hC.1, fun h => hC.2.1 h, fun h => hC.2.2 h⟩, rfl, fun _ _ _ _ _ h => h⟩
          · have h11 : fx 11 = .agg (spC x).toArray := hd.1 rfl
            refine wpList_build_spanR rfl (.tmp 43) rfl x h11 ?_
            clear hd
            go_wp2_with fail
            have hq : Below w'.heap.size w' (w'.alloc (.cells (flatS [x]).toArray 97)) := (Below.refl _ _).alloc (Nat.le_refl _) _
            exact ⟨_, by simp only [upd, h11]; rfl, ⟨hC.1.trans (hq.mono (Nat.le_trans HMS.out hC.1.size)), fun h => (hC.2.1 h).below hq, fun h => hC.2.2 h⟩, ⟨_, rfl, heap_alloc_new _ _⟩, fun i v u _ _ h => HBL.out _ _ hq i v h⟩
          · have h0 : fx 0 = Value.slice A3 n3 c3 := hd.1 rfl
            have H12 := Lib.hid (hd.2.1 rfl)
            obtain ⟨q, hx, hrow⟩ := H12.out
            have HQR := Lib.hid hrow
            have HOV := Lib.hid (hC.2.1 hi)
            have HSZ := Lib.hid (Nat.le_trans HMS.out hC.1.size)
            refine wpList_append_spanR rfl (.tmp 32) (.tmp 44) rfl W2.heap.size (.slice A3 n3 c3) P x h0 HOV q hx HQR HPL.out HSZ.out ?_
            intro v2 w2 HO2 HG2
            have HB2' := Lib.hid ((Below.refl W2.heap.size w').grown HG2.out HSZ.out (fun g hg => (HOV.out.block g hg).1))
            clear hd hrow
            go_wp2_with fail
            refine ⟨v2, by simp only [upd, h0, hx]; rfl, ⟨hC.1.trans HB2'.out, fun h => (updB_self h).elim, fun h => hC.2.2 h⟩, HO2.out, fun j v t hj hu h => ?_⟩
            refine wR43c_pure j v ?_ ?_ ?_ h <;> intro e <;> subst e
            · refine absurd hu (not_needed (E := (fun i => Nat.beq i 14)) (j := 12) [13] (by kernel_rfl) (by kernel_rfl) ?_)
              intro m hm hne; simp at hm; omega
            · rw [hi] at hj; cases hj
            · have := hcl 14 13 hj (by kernel_rfl); rw [hi] at this; cases this
          · have H13 := Lib.hid (hd.1 rfl)
            clear hd
            go_wp2_with fail
            exact ⟨fx 13, rfl, ⟨hC.1, fun h => hC.2.1 h, fun h => (updB_self h).elim⟩, H13.out, fun _ _ _ _ _ h => h⟩
        · intro L fo w' hC hS
          have H14 := Lib.hid (hS 14 (by decide) rfl)
          obtain ⟨A2, n2, c2, e17⟩ := H14.out.form
          have HO2 : Hid (OwnS w' W2.heap.size (.slice A2 n2 c2) ((ls.take (j + 1)).filter (·.ins))) := Lib.hid (by rw [← HPN.out, ← e17]; exact H14.out)
          have e17' : fo 14 = Value.slice A2 n2 c2 := e17
          rw [e17']
          have HB5 := Lib.hid (HB.out.trans hC.1)
          clear hS hC e17 e17' H14
          have hnl := HNL.out
          go_wp2_with fail
          go_roundw
          case rel => exact ⟨j + 1, _, by omega, by go_num, Lib.hid rfl, HO2, HB5, _, _, _, rfl⟩
          case measure => simp [intOf]; omega
    · have d1 : decide ((j : Int) < (n : Int)) = false := decide_eq_false (by omega)
      have d1n : decide (j < n) = false := decide_eq_false hlt
      have HPF : Hid (P = ls.filter (·.ins)) := Lib.hid (by rw [HP.out, List.take_of_length_le (by rw [HN.out]; omega)])
      obtain ⟨A4, n4, c4, e4, hin4⟩ := HOW.out.slice
      cases e4
      have HI4 := Lib.hid hin4
      have HB4 := Lib.hid (HB2.out.trans (HB.out.mono HB2.out.size))
      clear hin4
      go_wp2_with fail
      go_ret2
      exact ⟨_, _, _, rfl, by rw [← HPF.out]; exact HI4.out, HB4.out⟩
end Go.Proofs.YtmfmgeapecapiaaDoor
