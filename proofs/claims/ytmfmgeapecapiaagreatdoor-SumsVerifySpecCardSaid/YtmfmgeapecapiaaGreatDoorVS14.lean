/- sizarlaw43.sane. sizarref43.join and Verify, plain: what they compute, and that it is what the program computes. sizarref43: lists of parts that show an interval (three cells each). sizarref43.half, fits, Parts. The reference of layer 2: ror, word, numbers: each returns what its plain function says. -/
import Derived.Test.YtmfmgeapecapiaaGreatDoorVS13
import Derived.Test.YtmfmgeapecapiaaGreatDoorVS11
import Derived.Test.YtmfmgeapecapiaaGreatDoorVS6
import Derived.Laws.AppendOwnNone
import Derived.Deep.QuietTactic
import Derived.BigQuiet
import Derived.StillTailTactics
import Derived.Test.YtmfmgeapecapiaaGreatDoorVS2
set_option maxHeartbeats 64000001
open Go.Lib (hid)
namespace Go.Proofs.YtmfmgeapecapiaaGreatDoor
open Go.RowKit SzSha SzTree
set_option linter.unusedVariables false
set_option maxRecDepth 100000
def sS43 (zp zq zr g2 o2 c1 c2 c4 c5 : Nat) (A1 A4 A5 : Option Addr) (q : Nd) : Nat → Value → World → Prop
 | 0, fv, _ => fv = .int .i64 (6)
 | 1, fv, _ => fv = .bool true
 | 2, fv, _ => fv = .bool true
 | 3, fv, _ => fv = .int .i64 (42)
 | 4, fv, _ => fv = .bool true
 | 5, fv, _ => fv = .bool true
 | 6, fv, _ => fv = .bool true
 | 7, fv, _ => fv = raV ⟨7, 1⟩
 | 8, fv, _ => fv = raV ⟨7, 1⟩
 | 9, fv, _ => fv = .bool true
 | 10, fv, _ => fv = .bool true
 | 11, fv, _ => fv = .bool true
 | 12, fv, _ => fv = .pointer (some ⟨zp, 2, none⟩)
 | 13, fv, _ => fv = .slice A1 2 c1
 | 14, fv, _ => fv = .int .i64 (2)
 | 15, fv, _ => fv = .bool true
 | 16, fv, _ => fv = .bool true
 | 17, fv, _ => fv = .bool true
 | 18, fv, _ => fv = .pointer (some ⟨zq, 2, none⟩)
 | 19, fv, _ => fv = .slice (some ⟨g2, o2, none⟩) 1 c2
 | 20, fv, _ => fv = .int .i64 (1)
 | 21, fv, _ => fv = .bool true
 | 22, fv, _ => fv = .bool true
 | 23, fv, _ => fv = .bool true
 | 24, fv, _ => fv = .pointer (some ⟨zq, 2, none⟩)
 | 25, fv, _ => fv = .slice (some ⟨g2, o2, none⟩) 1 c2
 | 26, fv, _ => fv = .pointer (some ⟨g2, o2, none⟩)
 | 27, fv, _ => fv = ndV q
 | 28, fv, _ => fv = .pointer (some ⟨zr, 6, none⟩)
 | 29, fv, _ => fv = ndV q
 | 30, fv, _ => fv = .bool true
 | 31, fv, _ => fv = .bool true
 | 32, fv, _ => fv = .bool true
 | 33, fv, _ => fv = .slice A4 1 c4
 | 34, fv, _ => fv = spnV ⟨0, 5⟩
 | 35, fv, fw => ∃ A c, fv = .slice A 1 c ∧ InS fw A 1 c [⟨0, 5, true⟩]
 | 36, fv, _ => fv = .bool true
 | 37, fv, _ => fv = .bool true
 | 38, fv, _ => fv = .bool true
 | 39, fv, _ => fv = .slice A5 2 c5
 | 40, fv, _ => fv = spnV ⟨2, 4⟩
 | 41, fv, _ => fv = spnV ⟨4, 6⟩
 | 42, fv, fw => ∃ A c, fv = .slice A 2 c ∧ InS fw A 2 c [⟨2, 4, true⟩, ⟨4, 6, true⟩]
 | 43, fv, _ => fv = .bool true
 | 44, fv, _ => fv = .bool true
 | 45, fv, _ => fv = .bool true
 | _, _, _ => True
theorem sS43_below {zp zq zr g2 o2 c1 c2 c4 c5 : Nat} {A1 A4 A5 : Option Addr} {q : Nd} {w w' : World} (hb : Below w.heap.size w w') : ∀ j v, sS43 zp zq zr g2 o2 c1 c2 c4 c5 A1 A4 A5 q j v w → sS43 zp zq zr g2 o2 c1 c2 c4 c5 A1 A4 A5 q j v w'
 | 0, v, h => h
 | 1, v, h => h
 | 2, v, h => h
 | 3, v, h => h
 | 4, v, h => h
 | 5, v, h => h
 | 6, v, h => h
 | 7, v, h => h
 | 8, v, h => h
 | 9, v, h => h
 | 10, v, h => h
 | 11, v, h => h
 | 12, v, h => h
 | 13, v, h => h
 | 14, v, h => h
 | 15, v, h => h
 | 16, v, h => h
 | 17, v, h => h
 | 18, v, h => h
 | 19, v, h => h
 | 20, v, h => h
 | 21, v, h => h
 | 22, v, h => h
 | 23, v, h => h
 | 24, v, h => h
 | 25, v, h => h
 | 26, v, h => h
 | 27, v, h => h
 | 28, v, h => h
 | 29, v, h => h
 | 30, v, h => h
 | 31, v, h => h
 | 32, v, h => h
 | 33, v, h => h
 | 34, v, h => h
 | 35, v, ⟨A, c, h1, h2⟩ => ⟨A, c, h1, h2.below hb⟩
 | 36, v, h => h
 | 37, v, h => h
 | 38, v, h => h
 | 39, v, h => h
 | 40, v, h => h
 | 41, v, h => h
 | 42, v, ⟨A, c, h1, h2⟩ => ⟨A, c, h1, h2.below hb⟩
 | 43, v, h => h
 | 44, v, h => h
 | 45, v, h => h
 | n + 46, v, h => trivial
theorem inS_new (w : World) (ls : List Pt) : InS (w.alloc (.cells (flatS ls).toArray 119)) (some ⟨w.heap.size, 0, none⟩) ls.length ls.length ls :=
 ⟨rfl, Nat.le_refl _, (fun e => by cases e), fun _ => ⟨_, 0, rfl, by simp, range_row (heap_alloc_new w _)⟩⟩
theorem fill_spans (ls : List Pt) {i : TypeInfo} {z : Value} (hs : i.size = 2) (hl : ls.length ≤ 100000) : Instr.fill (fun j => some (j * i.size, i.size)) ((Array.range (ls.length * i.size)).map (z.cells[· % z.cells.size]!)) ((ls.map fun x => Value.agg (spC x).toArray).zipIdx.map fun x => (x.2, x.1)) = some (flatS ls).toArray := by
 rw [hs, Great.fill_whole (by omega) (ls.map fun x => Value.agg (spC x).toArray) _ (fun v hv => by
  obtain ⟨x, _, rfl⟩ := List.mem_map.1 hv
  rfl) (by simp)]
 congr 1
 unfold flatS
 rw [List.flatMap_map]
 rfl
theorem wpList_build_span1 {w : World} {ops : Array Oper} {rest : List Oper} {o : Oper} {a : Act} {Q : Exit → Act → World → Prop} (hg : o.guard = none) (x : Operand)
  (ho : o.op = .buildSlice 114 1 #[(0, x)]) (n : Pt) (hx : a.eval x = spnV (ptS n))
  (h : wpList Tryz.prog ops Q rest (a.put o.dst (.slice (some ⟨w.heap.size, 0, none⟩) 1 1)) (w.alloc (.cells (flatS [n]).toArray 119))) : wpList Tryz.prog ops Q (o :: rest) a w := by
 obtain ⟨i0, hi, hz, hs, _⟩ := info_span
 refine wpList_buildSlice hg 114 119 1 _ ho _ i0 _ Tryz.underlying114 hi hz (by rw [hs]; omega) (by rw [hs]; omega) ?_ h
 have e1 : (#[(0, x)].map fun (i, x) => (i, a.eval x)).toList = [(0, spnV (ptS n))] := by simp [hx]
 rw [e1]; exact fill_spans [n] hs (by simp)
theorem wpList_build_span2 {w : World} {ops : Array Oper} {rest : List Oper} {o : Oper} {a : Act} {Q : Exit → Act → World → Prop} (hg : o.guard = none) (x y : Operand)
  (ho : o.op = .buildSlice 114 2 #[(0, x), (1, y)]) (n m : Pt) (hx : a.eval x = spnV (ptS n)) (hy : a.eval y = spnV (ptS m))
  (h : wpList Tryz.prog ops Q rest (a.put o.dst (.slice (some ⟨w.heap.size, 0, none⟩) 2 2)) (w.alloc (.cells (flatS [n, m]).toArray 119))) : wpList Tryz.prog ops Q (o :: rest) a w := by
 obtain ⟨i0, hi, hz, hs, _⟩ := info_span
 refine wpList_buildSlice hg 114 119 2 _ ho _ i0 _ Tryz.underlying114 hi hz (by rw [hs]; omega) (by rw [hs]; omega) ?_ h
 have e1 : (#[(0, x), (1, y)].map fun (i, x) => (i, a.eval x)).toList = [(0, spnV (ptS n)), (1, spnV (ptS m))] := by simp [hx, hy]
 rw [e1]; exact fill_spans [n, m] hs (by simp)
theorem sane43 (w : World) (hT : Hid (Tabs w)) :
  Calls Tryz.prog 30 #[] w fun e w' => e = .returned (.bool true) ∧ Below w.heap.size w w' := by
 go_enter Tryz.func30, Tryz.ntmps30
 go_wp2_with fail
 refine (sample_any w hT).mono ?_
 rintro e U1 ⟨b, rfl, hok, hq⟩
 obtain ⟨q, HQ⟩ : ∃ q, Hid (rootR (nds43 sT) = q) := ⟨_, hid rfl⟩
 have HQO : Hid (NdOk q) := hid (by rw [← HQ.out]; exact rootR_ok nds43_ok)
 obtain ⟨R, HRR⟩ : ∃ r, Hid (sR = r) := ⟨_, hid rfl⟩
 have HRK : Hid (RtOk R) := hid (by rw [← HRR.out]; exact sR_ok)
 have HRL : Hid (R.lin = 3) := hid (by rw [← HRR.out]; rfl)
 have HRT : Hid (R.tree = q) := hid (by rw [← HRR.out, ← HQ.out]; rfl)
 obtain ⟨L2, HL2⟩ : ∃ l, Hid (shN sT 0 2 = l) := ⟨_, hid rfl⟩
 have HLN : Hid (L2.length = 2) := hid (by rw [← HL2.out]; exact sh43_02.2.2)
 have HVF : Hid (vfS R.lin R.tree 0 2 L2 = (6, 42, 0)) := hid (by rw [HRL.out, HRT.out, ← HL2.out, ← HQ.out]; exact vf43_02)
 have HL3 : Hid (shN sT 0 3 = [q]) := hid (by rw [← HQ.out]; exact sh43_03.2.2)
 rw [HRR.out]
 have HB1 := hid hq
 have KO1 := hid hok
 have KT1 := hid (hT.out.below hq)
 clear hok hq
 have HIT : Hid ((Tryz.prog.info? 27).map (·.size) = some (trC sT (sTp b)).toArray.size) := hid (trV_info sT _ rfl)
 have HST : Hid (38 = (trC sT (sTp b)).toArray.size) := hid (sT_size b).symm
 have HIR := hid (rtC_info HRK.out)
 have HSR : Hid ((Tryz.zeroCells43).size = (rtC R).toArray.size) := hid (by rw [← HRR.out, sR_size]; kernel_rfl)
 rw [show trV sT (sTp b) = .agg (trC sT (sTp b)).toArray from rfl]
 have ra0 := (Below.heap_alloc (U1.alloc (.cells #[.int .i64 0, .int .i64 0, .int .i64 0, .int .i64 0, .slice none 0 0, .slice none 0 0, .int .u8 0, .int .u8 0, .int .u8 0, .int .u8 0, .int .u8 0, .int .u8 0, .int .u8 0, .int .u8 0, .int .u8 0, .int .u8 0, .int .u8 0, .int .u8 0, .int .u8 0, .int .u8 0, .int .u8 0, .int .u8 0, .int .u8 0, .int .u8 0, .int .u8 0, .int .u8 0, .int .u8 0, .int .u8 0, .int .u8 0, .int .u8 0, .int .u8 0, .int .u8 0, .int .u8 0, .int .u8 0, .int .u8 0, .int .u8 0, .int .u8 0, .int .u8 0] 27)) (.cells Tryz.zeroCells43 43) U1.heap.size (by simp)).trans (heap_alloc_new U1 (.cells #[.int .i64 0, .int .i64 0, .int .i64 0, .int .i64 0, .slice none 0 0, .slice none 0 0, .int .u8 0, .int .u8 0, .int .u8 0, .int .u8 0, .int .u8 0, .int .u8 0, .int .u8 0, .int .u8 0, .int .u8 0, .int .u8 0, .int .u8 0, .int .u8 0, .int .u8 0, .int .u8 0, .int .u8 0, .int .u8 0, .int .u8 0, .int .u8 0, .int .u8 0, .int .u8 0, .int .u8 0, .int .u8 0, .int .u8 0, .int .u8 0, .int .u8 0, .int .u8 0, .int .u8 0, .int .u8 0, .int .u8 0, .int .u8 0, .int .u8 0, .int .u8 0] 27))
 have rb0 := heap_alloc_new (U1.alloc (.cells #[.int .i64 0, .int .i64 0, .int .i64 0, .int .i64 0, .slice none 0 0, .slice none 0 0, .int .u8 0, .int .u8 0, .int .u8 0, .int .u8 0, .int .u8 0, .int .u8 0, .int .u8 0, .int .u8 0, .int .u8 0, .int .u8 0, .int .u8 0, .int .u8 0, .int .u8 0, .int .u8 0, .int .u8 0, .int .u8 0, .int .u8 0, .int .u8 0, .int .u8 0, .int .u8 0, .int .u8 0, .int .u8 0, .int .u8 0, .int .u8 0, .int .u8 0, .int .u8 0, .int .u8 0, .int .u8 0, .int .u8 0, .int .u8 0, .int .u8 0, .int .u8 0] 27)) (.cells Tryz.zeroCells43 43)
 rw [World.size_alloc] at rb0
 have hb0 := ((Below.refl _ U1).alloc (Nat.le_refl _) (.cells #[.int .i64 0, .int .i64 0, .int .i64 0, .int .i64 0, .slice none 0 0, .slice none 0 0, .int .u8 0, .int .u8 0, .int .u8 0, .int .u8 0, .int .u8 0, .int .u8 0, .int .u8 0, .int .u8 0, .int .u8 0, .int .u8 0, .int .u8 0, .int .u8 0, .int .u8 0, .int .u8 0, .int .u8 0, .int .u8 0, .int .u8 0, .int .u8 0, .int .u8 0, .int .u8 0, .int .u8 0, .int .u8 0, .int .u8 0, .int .u8 0, .int .u8 0, .int .u8 0, .int .u8 0, .int .u8 0, .int .u8 0, .int .u8 0, .int .u8 0, .int .u8 0] 27)).alloc (by simp) (.cells Tryz.zeroCells43 43)
 obtain ⟨X2a, HX2a⟩ : ∃ V, Hid (((U1.alloc (.cells #[.int .i64 0, .int .i64 0, .int .i64 0, .int .i64 0, .slice none 0 0, .slice none 0 0, .int .u8 0, .int .u8 0, .int .u8 0, .int .u8 0, .int .u8 0, .int .u8 0, .int .u8 0, .int .u8 0, .int .u8 0, .int .u8 0, .int .u8 0, .int .u8 0, .int .u8 0, .int .u8 0, .int .u8 0, .int .u8 0, .int .u8 0, .int .u8 0, .int .u8 0, .int .u8 0, .int .u8 0, .int .u8 0, .int .u8 0, .int .u8 0, .int .u8 0, .int .u8 0, .int .u8 0, .int .u8 0, .int .u8 0, .int .u8 0, .int .u8 0, .int .u8 0] 27)).alloc (.cells Tryz.zeroCells43 43)) = V) := ⟨_, hid rfl⟩
 rw [HX2a.out] at ra0 rb0 hb0
 have ra := hid ra0
 have rb1 := (setRow_other X2a U1.heap.size (U1.heap.size + 1) (trC sT (sTp b)).toArray (by omega)).trans rb0
 have ra1 := setRow_heap X2a U1.heap.size _ (trC sT (sTp b)).toArray _ _ ra0
 have hb1 := below_setRow hb0 (Nat.le_refl _) (trC sT (sTp b)).toArray
 obtain ⟨X2b, HX2b⟩ : ∃ V, Hid (X2a.setRow U1.heap.size (trC sT (sTp b)).toArray = V) := ⟨_, hid rfl⟩
 rw [HX2b.out] at ra1 rb1 hb1
 have rb := hid rb1
 have ra2 := (setRow_other X2b (U1.heap.size + 1) U1.heap.size (rtC R).toArray (by omega)).trans ra1
 have rb2 := setRow_heap X2b (U1.heap.size + 1) _ (rtC R).toArray _ _ rb1
 have hb := below_setRow hb1 (g := (U1.heap.size + 1)) (by omega) (rtC R).toArray
 obtain ⟨V2, HV2⟩ : ∃ V, Hid (X2b.setRow (U1.heap.size + 1) (rtC R).toArray = V) := ⟨_, hid rfl⟩
 rw [HV2.out] at ra2 rb2 hb
 clear ra0 rb0 hb0 ra1 rb1 hb1
 have HB3 := hid (HB1.out.trans (hb.mono HB1.out.size))
 have KO3 := hid (KO1.out.below hb)
 have KT3 := hid (KT1.out.below hb)
 have RT2 := hid ra2
 have RR2 := hid rb2
 clear ra2 rb2 hb HB1 KO1 KT1
 go_wp2_with (first | (rw [HX2a.out]) | (refine wpList_store_row rfl 27 (.tmp 1) (.tmp 25) rfl U1.heap.size (trC sT (sTp b)).toArray rfl rfl 27 _ ra.out HIT.out HST.out (trC_one _ _) ?_; rw [HX2b.out]) | (refine wpList_store_row rfl 43 (.tmp 2) (.tmp 26) rfl (U1.heap.size + 1) (rtC R).toArray rfl rfl 43 _ rb.out HIR.out HSR.out (rtC_one _) ?_; rw [HV2.out]) | (refine wpList_load_row rfl 27 (.tmp 1) rfl (U1.heap.size) rfl 27 _ (0, 0) _ RT2.out Tryz.underlying27 rfl HIT.out ?_))
 clear ra rb
 rw [show Value.agg (trC sT (sTp b)).toArray = trV sT (sTp b) from rfl]
 refine (show43 sT (sTp b) 0 2 _ KO3 KT3).mono ?_
 rintro e U4 ⟨A1, n1, c1, rfl, hin, hq⟩
 rw [sh43_02.1, sh43_02.2.1, if_pos rfl, if_pos rfl]
 rw [HL2.out] at hin
 have KP1 := hid hin
 have hn1 : n1 = 2 := by rw [← hin.len]; exact HLN.out
 clear hin
 have HB5 := hid (HB3.out.trans (hq.mono HB3.out.size))
 have RT5 := hid (row_kept RT2.out hq)
 have RR5 := hid (row_kept RR2.out hq)
 have KO5 := hid (KO3.out.below hq)
 have KT5 := hid (KT3.out.below hq)
 clear hq HB3 RT2 RR2 KO3 KT3
 subst hn1
 obtain ⟨V6, HV6⟩ : ∃ V, Hid (U4.alloc (.cells #[.int .i64 0, .int .i64 2, .slice A1 2 c1] 66) = V) := ⟨_, hid rfl⟩
 have hw := heap_alloc_new U4 (.cells #[.int .i64 0, .int .i64 2, .slice A1 2 c1] 66)
 have hb := (Below.refl _ U4).alloc (Nat.le_refl _) (.cells #[.int .i64 0, .int .i64 2, .slice A1 2 c1] 66)
 rw [HV6.out] at hw hb
 have HB7 := hid (HB5.out.trans (hb.mono HB5.out.size))
 have RT7 := hid (row_kept RT5.out hb)
 have RR7 := hid (row_kept RR5.out hb)
 have KO7 := hid (KO5.out.below hb)
 have KT7 := hid (KT5.out.below hb)
 have KP7 := hid (KP1.out.below hb)
 have RP6 := hid hw
 clear hw hb HB5 RT5 RR5 KO5 KT5 KP1
 have p0 := cell_of_row _ _ 0 _ _ _ RP6.out
 have p1 := cell_of_row _ _ 1 _ _ _ RP6.out
 have p2 := cell_of_row _ _ 2 _ _ _ RP6.out
 go_wp2_with (first | (rw [HV6.out]) | (refine wpList_load_row rfl 43 (.tmp 2) rfl ((U1.heap.size + 1)) rfl 43 _ (0, 0) _ RR7.out Tryz.underlying43 rfl HIR.out ?_))
 refine (verify43 R 0 2 _ _ _ L2 _ HRK KP7 KT7 (by rw [HLN.out]; omega)).mono ?_
 rintro e U8 ⟨rfl, hq⟩
 rw [HVF.out]
 clear p0 p1 p2
 have HB9 := hid (HB7.out.trans (hq.mono HB7.out.size))
 have RT9 := hid (row_kept RT7.out hq)
 have RR9 := hid (row_kept RR7.out hq)
 have RP9 := hid (row_kept RP6.out hq)
 have KO9 := hid (KO7.out.below hq)
 have KT9 := hid (KT7.out.below hq)
 have KP9 := hid (KP7.out.below hq)
 clear hq HB7 RT7 RR7 RP6 KO7 KT7 KP7
 have p0 := cell_of_row _ _ 0 _ _ _ RP9.out
 have p1 := cell_of_row _ _ 1 _ _ _ RP9.out
 have p2 := cell_of_row _ _ 2 _ _ _ RP9.out
 go_wp2_with (refine wpList_load_row rfl 43 (.tmp 2) rfl ((U1.heap.size + 1)) rfl 43 _ (0, 0) _ RR9.out Tryz.underlying43 rfl HIR.out ?_)
 refine (mean43 R 0 2 _ _ _ L2 _ HRK KP9 KT9 (by rw [HLN.out]; omega)).mono ?_
 rintro e U10 ⟨rfl, hq⟩
 rw [HVF.out, mn43_02]
 clear p0 p1 p2
 have HB11 := hid (HB9.out.trans (hq.mono HB9.out.size))
 have RT11 := hid (row_kept RT9.out hq)
 have RR11 := hid (row_kept RR9.out hq)
 have RP11 := hid (row_kept RP9.out hq)
 have KO11 := hid (KO9.out.below hq)
 have KT11 := hid (KT9.out.below hq)
 have KP11 := hid (KP9.out.below hq)
 clear hq HB9 RT9 RR9 RP9 KO9 KT9 KP9
 obtain ⟨V12, HV12⟩ : ∃ V, Hid (U10.alloc (.cells #[.int .i64 7, .int .i64 1] 74) = V) := ⟨_, hid rfl⟩
 have hw := heap_alloc_new U10 (.cells #[.int .i64 7, .int .i64 1] 74)
 have hb := (Below.refl _ U10).alloc (Nat.le_refl _) (.cells #[.int .i64 7, .int .i64 1] 74)
 rw [HV12.out] at hw hb
 have HB13 := hid (HB11.out.trans (hb.mono HB11.out.size))
 have RT13 := hid (row_kept RT11.out hb)
 have RR13 := hid (row_kept RR11.out hb)
 have RP13 := hid (row_kept RP11.out hb)
 have KO13 := hid (KO11.out.below hb)
 have KT13 := hid (KT11.out.below hb)
 have KP13 := hid (KP11.out.below hb)
 have RM12 := hid hw
 clear hw hb HB11 RT11 RR11 RP11 KO11 KT11 KP11
 go_wp2_with (first | (rw [HV12.out]) | (refine wpList_load_row rfl 27 (.tmp 1) rfl (U1.heap.size) rfl 27 _ (0, 0) _ RT13.out Tryz.underlying27 rfl HIT.out ?_))
 rw [show Value.agg (trC sT (sTp b)).toArray = trV sT (sTp b) from rfl]
 refine (show43 sT (sTp b) 0 3 _ KO13 KT13).mono ?_
 rintro e U14 ⟨A2, n2, c2, rfl, hin, hq⟩
 rw [sh43_03.1, sh43_03.2.1, if_pos rfl, if_pos rfl]
 rw [HL3.out] at hin
 have KQ1 := hid hin
 have hn2 : n2 = 1 := hin.len.symm
 clear hin
 have HB15 := hid (HB13.out.trans (hq.mono HB13.out.size))
 have RT15 := hid (row_kept RT13.out hq)
 have RR15 := hid (row_kept RR13.out hq)
 have RP15 := hid (row_kept RP13.out hq)
 have RM15 := hid (row_kept RM12.out hq)
 have KO15 := hid (KO13.out.below hq)
 have KT15 := hid (KT13.out.below hq)
 have KP15 := hid (KP13.out.below hq)
 clear hq HB13 RT13 RR13 RP13 RM12 KO13 KT13 KP13
 subst hn2
 obtain ⟨V16, HV16⟩ : ∃ V, Hid (U14.alloc (.cells #[.int .i64 0, .int .i64 3, .slice A2 1 c2] 66) = V) := ⟨_, hid rfl⟩
 have hw := heap_alloc_new U14 (.cells #[.int .i64 0, .int .i64 3, .slice A2 1 c2] 66)
 have hb := (Below.refl _ U14).alloc (Nat.le_refl _) (.cells #[.int .i64 0, .int .i64 3, .slice A2 1 c2] 66)
 rw [HV16.out] at hw hb
 have HB17 := hid (HB15.out.trans (hb.mono HB15.out.size))
 have RT17 := hid (row_kept RT15.out hb)
 have RR17 := hid (row_kept RR15.out hb)
 have RP17 := hid (row_kept RP15.out hb)
 have RM17 := hid (row_kept RM15.out hb)
 have KO17 := hid (KO15.out.below hb)
 have KT17 := hid (KT15.out.below hb)
 have KP17 := hid (KP15.out.below hb)
 have KQ17 := hid (KQ1.out.below hb)
 have RQ16 := hid hw
 clear hw hb HB15 RT15 RR15 RP15 RM15 KO15 KT15 KP15 KQ1
 go_wp2_with (rw [HV16.out])
 refine (cover_no 0 0 5 _ (by omega)).mono ?_
 rintro e U18 ⟨rfl, hq⟩
 have HB19 := hid (HB17.out.trans (hq.mono HB17.out.size))
 have RT19 := hid (row_kept RT17.out hq)
 have RR19 := hid (row_kept RR17.out hq)
 have RP19 := hid (row_kept RP17.out hq)
 have RM19 := hid (row_kept RM17.out hq)
 have RQ19 := hid (row_kept RQ16.out hq)
 have KO19 := hid (KO17.out.below hq)
 have KT19 := hid (KT17.out.below hq)
 have KP19 := hid (KP17.out.below hq)
 have KQ19 := hid (KQ17.out.below hq)
 clear hq HB17 RT17 RR17 RP17 RM17 RQ16 KO17 KT17 KP17 KQ17
 go_wp2_with fail
 refine (cover_yes 0 5 5 _ (by omega) (by omega) (by omega)).mono ?_
 rintro e U20 ⟨A4, n4, c4, rfl, hin, hq⟩
 rw [cov43_a] at hin
 have KC1 := hid hin
 have hn4 : n4 = 1 := hin.len.symm
 clear hin
 have HB21 := hid (HB19.out.trans (hq.mono HB19.out.size))
 have RT21 := hid (row_kept RT19.out hq)
 have RR21 := hid (row_kept RR19.out hq)
 have RP21 := hid (row_kept RP19.out hq)
 have RM21 := hid (row_kept RM19.out hq)
 have RQ21 := hid (row_kept RQ19.out hq)
 have KO21 := hid (KO19.out.below hq)
 have KT21 := hid (KT19.out.below hq)
 have KP21 := hid (KP19.out.below hq)
 have KQ21 := hid (KQ19.out.below hq)
 clear hq HB19 RT19 RR19 RP19 RM19 RQ19 KO19 KT19 KP19 KQ19
 subst hn4
 go_wp2_with fail
 refine (cover_yes 2 6 6 _ (by omega) (by omega) (by omega)).mono ?_
 rintro e U22 ⟨A5, n5, c5, rfl, hin, hq⟩
 rw [cov43_b] at hin
 have KD1 := hid hin
 have hn5 : n5 = 2 := hin.len.symm
 clear hin
 have HB23 := hid (HB21.out.trans (hq.mono HB21.out.size))
 have RT23 := hid (row_kept RT21.out hq)
 have RR23 := hid (row_kept RR21.out hq)
 have RP23 := hid (row_kept RP21.out hq)
 have RM23 := hid (row_kept RM21.out hq)
 have RQ23 := hid (row_kept RQ21.out hq)
 have KO23 := hid (KO21.out.below hq)
 have KT23 := hid (KT21.out.below hq)
 have KP23 := hid (KP21.out.below hq)
 have KQ23 := hid (KQ21.out.below hq)
 have KC23 := hid (KC1.out.below hq)
 clear hq HB21 RT21 RR21 RP21 RM21 RQ21 KO21 KT21 KP21 KQ21 KC1
 subst hn5
 go_wp2_with (refine wpList_build_eT rfl rfl ?_)
 refine (show43 eT peT3 0 1 _ (hid (eT_ok _)) KT23).mono ?_
 rintro e U24 ⟨A6, n6, c6, rfl, hin, hq⟩
 rw [sh43_e.1, sh43_e.2]
 simp only [Bool.false_eq_true, if_false]
 clear hin
 have HB25 := hid (HB23.out.trans (hq.mono HB23.out.size))
 have RT25 := hid (row_kept RT23.out hq)
 have RR25 := hid (row_kept RR23.out hq)
 have RP25 := hid (row_kept RP23.out hq)
 have RM25 := hid (row_kept RM23.out hq)
 have RQ25 := hid (row_kept RQ23.out hq)
 have KO25 := hid (KO23.out.below hq)
 have KT25 := hid (KT23.out.below hq)
 have KP25 := hid (KP23.out.below hq)
 have KQ25 := hid (KQ23.out.below hq)
 have KC25 := hid (KC23.out.below hq)
 have KD25 := hid (KD1.out.below hq)
 clear hq HB23 RT23 RR23 RP23 RM23 RQ23 KO23 KT23 KP23 KQ23 KC23 KD1
 obtain ⟨V26, HV26⟩ : ∃ V, Hid (U24.alloc (.cells #[.int .i64 0, .int .i64 0, .slice A6 n6 c6] 66) = V) := ⟨_, hid rfl⟩
 have hw := heap_alloc_new U24 (.cells #[.int .i64 0, .int .i64 0, .slice A6 n6 c6] 66)
 have hb := (Below.refl _ U24).alloc (Nat.le_refl _) (.cells #[.int .i64 0, .int .i64 0, .slice A6 n6 c6] 66)
 rw [HV26.out] at hw hb
 have HB27 := hid (HB25.out.trans (hb.mono HB25.out.size))
 have RT27 := hid (row_kept RT25.out hb)
 have RR27 := hid (row_kept RR25.out hb)
 have RP27 := hid (row_kept RP25.out hb)
 have RM27 := hid (row_kept RM25.out hb)
 have RQ27 := hid (row_kept RQ25.out hb)
 have KO27 := hid (KO25.out.below hb)
 have KT27 := hid (KT25.out.below hb)
 have KP27 := hid (KP25.out.below hb)
 have KQ27 := hid (KQ25.out.below hb)
 have KC27 := hid (KC25.out.below hb)
 have KD27 := hid (KD25.out.below hb)
 have RE26 := hid hw
 clear hw hb HB25 RT25 RR25 RP25 RM25 RQ25 KO25 KT25 KP25 KQ25 KC25 KD25
 go_wp2_with (first | (rw [HV26.out]) | (refine wpList_build_z43 rfl rfl ?_))
 refine (verify43 (rt43 0 zeroN) 0 0 none 0 0 [] _ (hid (rt43_ok (by unfold I64; omega) zeroN_ok)) (hid ⟨rfl, Nat.le_refl _, (fun _ => rfl), (fun x hx => by cases hx), (fun h => by simp at h)⟩) KT27 (by simp)).mono ?_
 rintro e U28 ⟨rfl, hq⟩
 rw [show vfS (rt43 0 zeroN).lin (rt43 0 zeroN).tree 0 0 [] = (0, 0, 430) from vf43_z]
 have HB29 := hid (HB27.out.trans (hq.mono HB27.out.size))
 have RT29 := hid (row_kept RT27.out hq)
 have RR29 := hid (row_kept RR27.out hq)
 have RP29 := hid (row_kept RP27.out hq)
 have RM29 := hid (row_kept RM27.out hq)
 have RQ29 := hid (row_kept RQ27.out hq)
 have RE29 := hid (row_kept RE26.out hq)
 have KO29 := hid (KO27.out.below hq)
 have KT29 := hid (KT27.out.below hq)
 have KP29 := hid (KP27.out.below hq)
 have KQ29 := hid (KQ27.out.below hq)
 have KC29 := hid (KC27.out.below hq)
 have KD29 := hid (KD27.out.below hq)
 clear hq HB27 RT27 RR27 RP27 RM27 RQ27 RE26 KO27 KT27 KP27 KQ27 KC27 KD27
 go_wp2_with fail
 obtain ⟨g2, o2, rfl, hg2, hr2⟩ := KQ29.out.rd (by simp)
 have HG2 := hid hg2
 have HN2 := hid hr2
 clear hg2 hr2
 obtain ⟨zr, HZzr⟩ : ∃ q, Hid ((U1.heap.size + 1) = q) := ⟨_, hid rfl⟩
 have HRzr := RR29
 rw [HZzr.out] at HRzr
 obtain ⟨zp, HZzp⟩ : ∃ q, Hid (U4.heap.size = q) := ⟨_, hid rfl⟩
 have HRzp := RP29
 rw [HZzp.out] at HRzp
 obtain ⟨zm, HZzm⟩ : ∃ q, Hid (U10.heap.size = q) := ⟨_, hid rfl⟩
 have HRzm := RM29
 rw [HZzm.out] at HRzm
 obtain ⟨zq, HZzq⟩ : ∃ q, Hid (U14.heap.size = q) := ⟨_, hid rfl⟩
 have HRzq := RQ29
 rw [HZzq.out] at HRzq
 rw [HZzr.out, HZzp.out, HZzm.out, HZzq.out]
 have HS34 := hid (size34 HQO.out)
 have HB0 := hid (Below.refl U28.heap.size U28).drew
 have HNQ : Hid (U28.rangeAt g2 o2 (ndC q)) := hid (by have h := HN2.out; unfold flatN at h; simpa using h)
 have HNR : Hid (U28.rangeAt zr 6 (ndC q)) := hid (by rw [← HRT.out]; exact rt_tree HRzr.out)
 have HGR : Hid (zr < U28.heap.size) := hid (Array.getElem?_eq_some_iff.1 HRzr.out).1
 refine region_flow3 (by kernel_rfl) (by kernel_rfl) (fun i => Nat.beq i 45) (fun i => i) (by kernel_rfl) (fun fx => #[fx 45, .pointer (some { block := U1.heap.size, off := 0 }), .pointer (some { block := zr, off := 0 }), .pointer (some { block := zp, off := 0 }), .int IntKind.i64 0, .int IntKind.i64 6, .int IntKind.i64 42, .int IntKind.i64 0, .pointer (some { block := zm, off := 0 }), .int IntKind.i64 0, .pointer (some { block := zq, off := 0 }), .int IntKind.i64 0, .slice none 0 0, .int IntKind.i64 430, .slice A4 1 c4, .int IntKind.i64 0, .slice A5 2 c5, .int IntKind.i64 0, .pointer (some { block := U24.heap.size, off := 0 }), .int IntKind.i64 430, .int IntKind.i64 0, .int IntKind.i64 0, .int IntKind.i64 430, .tuple #[trV sT (sTp b), .agg (rtC R).toArray], .tuple #[trV sT (sTp b), .agg (rtC R).toArray], trV sT (sTp b), .agg (rtC R).toArray, .tuple #[.agg #[.int IntKind.i64 0, .int IntKind.i64 2, .slice A1 2 c1], .int IntKind.i64 0], trV sT (sTp b), .tuple #[.agg #[.int IntKind.i64 0, .int IntKind.i64 2, .slice A1 2 c1], .int IntKind.i64 0], .agg #[.int IntKind.i64 0, .int IntKind.i64 2, .slice A1 2 c1], .int IntKind.i64 0, .tuple #[.int IntKind.i64 6, .int IntKind.i64 42, .int IntKind.i64 0], .agg (rtC R).toArray, .agg #[.int IntKind.i64 0, .int IntKind.i64 2, .slice A1 2 c1], .tuple #[.int IntKind.i64 6, .int IntKind.i64 42, .int IntKind.i64 0], .int IntKind.i64 6, .int IntKind.i64 42, .int IntKind.i64 0, .tuple #[.agg #[.int IntKind.i64 7, .int IntKind.i64 1], .int IntKind.i64 0], .agg (rtC R).toArray, .agg #[.int IntKind.i64 0, .int IntKind.i64 2, .slice A1 2 c1], .tuple #[.agg #[.int IntKind.i64 7, .int IntKind.i64 1], .int IntKind.i64 0], .agg #[.int IntKind.i64 7, .int IntKind.i64 1], .int IntKind.i64 0, .tuple #[.agg #[.int IntKind.i64 0, .int IntKind.i64 3, .slice (some { block := g2, off := o2 }) 1 c2], .int IntKind.i64 0], trV sT (sTp b), .tuple #[.agg #[.int IntKind.i64 0, .int IntKind.i64 3, .slice (some { block := g2, off := o2 }) 1 c2], .int IntKind.i64 0], .agg #[.int IntKind.i64 0, .int IntKind.i64 3, .slice (some { block := g2, off := o2 }) 1 c2], .int IntKind.i64 0, .tuple #[.slice none 0 0, .int IntKind.i64 430], .tuple #[.slice none 0 0, .int IntKind.i64 430], .slice none 0 0, .int IntKind.i64 430, .tuple #[.slice A4 1 c4, .int IntKind.i64 0], .tuple #[.slice A4 1 c4, .int IntKind.i64 0], .slice A4 1 c4, .int IntKind.i64 0, .tuple #[.slice A5 2 c5, .int IntKind.i64 0], .tuple #[.slice A5 2 c5, .int IntKind.i64 0], .slice A5 2 c5, .int IntKind.i64 0, .tuple #[.agg #[.int IntKind.i64 0, .int IntKind.i64 0, .slice A6 n6 c6], .int IntKind.i64 430], trV eT peT3, .tuple #[.agg #[.int IntKind.i64 0, .int IntKind.i64 0, .slice A6 n6 c6], .int IntKind.i64 430], .agg #[.int IntKind.i64 0, .int IntKind.i64 0, .slice A6 n6 c6], .int IntKind.i64 430, .tuple #[.int IntKind.i64 0, .int IntKind.i64 0, .int IntKind.i64 430], .agg (rtC (rt43 0 zeroN)).toArray, .agg #[.int IntKind.i64 0, .int IntKind.i64 0, .slice none 0 0], .tuple #[.int IntKind.i64 0, .int IntKind.i64 0, .int IntKind.i64 430], .int IntKind.i64 0, .int IntKind.i64 0, .int IntKind.i64 430, .int IntKind.i64 0, .bool false, .bool false, .int IntKind.i64 0, .bool false, .bool false, .bool false, .int IntKind.i64 0, .bool false, .bool false, .bool false, .int IntKind.i64 0, .bool false, .bool false, .bool false, .int IntKind.i64 430, .bool false, .bool false, .bool false, .int IntKind.i64 0, .bool false, .bool false, .bool false, .int IntKind.i64 0, .bool false, .bool false, .bool false, .int IntKind.i64 430, .bool false, .bool false, .bool false, .int IntKind.i64 430, .bool false, .bool false, fx 0, fx 1, fx 2, fx 3, fx 4, fx 5, fx 6, fx 7, fx 8, fx 9, fx 10, fx 11, fx 12, fx 13, fx 14, fx 15, fx 16, fx 17, fx 18, fx 19, fx 20, fx 21, fx 22, fx 23, fx 24, fx 25, fx 26, fx 27, fx 28, fx 29, fx 30, fx 31, fx 32, fx 33, fx 34, fx 35, fx 36, fx 37, fx 38, fx 39, fx 40, fx 41, fx 42, fx 43, fx 44]) (fun i => bif Nat.beq i 45 then Value.bool false else undef) (fun _ _ w' => Below U28.heap.size U28 w') (fun fi fv _ fw => sS43 zp zq zr g2 o2 c1 c2 c4 c5 A1 A4 A5 q fi fv fw) HB0.out ?_ ?_
 ·refine ⟨?_, ?_, ?_, ?_, ?_, ?_, ?_, ?_, ?_, ?_, ?_, ?_, ?_, ?_, ?_, ?_, ?_, ?_, ?_, ?_, ?_, ?_, ?_, ?_, ?_, ?_, ?_, ?_, ?_, ?_, ?_, ?_, ?_, ?_, ?_, ?_, ?_, ?_, ?_, ?_, ?_, ?_, ?_, ?_, ?_, ?_, trivial⟩
  all_goals intro L fx w' hC hi hcl hdn hd
  ·clear hd
   go_wp2_with fail
   exact ⟨_, rfl, hC, rfl, kP⟩
  ·have h0 : fx 0 = .int .i64 (6) := hd.1 rfl
   clear hd
   go_wp2_with fail
   exact ⟨_, by simp only [upd, h0]; rfl, hC, rfl, kP⟩
  ·have h1 : fx 1 = .bool true := hd.1 rfl
   clear hd
   go_wp2_with fail
   exact ⟨_, by simp only [upd, h1]; rfl, hC, rfl, kP⟩
  ·have h2 : fx 2 = .bool true := hd.1 rfl
   dsimp only
   rw [h2]
   refine wpList_unguard rfl ?_
   clear hd
   go_wp2_with fail
   exact ⟨_, by simp only [upd, h2]; rfl, hC, rfl, kP⟩
  ·have h3 : fx 3 = .int .i64 (42) := hd.1 rfl
   have h2 : fx 2 = .bool true := hd.2.1 rfl
   dsimp only
   rw [h2]
   refine wpList_unguard rfl ?_
   clear hd
   go_wp2_with fail
   exact ⟨_, by simp only [upd, h3, h2]; rfl, hC, rfl, kP⟩
  ·have h2 : fx 2 = .bool true := hd.1 rfl
   have h4 : fx 4 = .bool true := hd.2.1 rfl
   clear hd
   go_wp2_with fail
   exact ⟨_, by simp only [upd, h2, h4]; rfl, hC, rfl, kP⟩
  ·have h5 : fx 5 = .bool true := hd.1 rfl
   clear hd
   go_wp2_with fail
   exact ⟨_, by simp only [upd, h5]; rfl, hC, rfl, kP⟩
  ·have h6 : fx 6 = .bool true := hd.1 rfl
   dsimp only
   rw [h6]
   refine wpList_unguard rfl ?_
   have hc0 : w'.cell? ⟨zm, 0, none⟩ = some (.int .i64 7) := by rw [cell_of_row _ _ _ _ _ _ (row_kept HRzm.out hC)]; rfl
   have hc1 : w'.cell? ⟨zm, 1, none⟩ = some (.int .i64 1) := by rw [cell_of_row _ _ _ _ _ _ (row_kept HRzm.out hC)]; rfl
   clear hd
   go_wp2_with fail
   exact ⟨_, by simp only [upd, h6]; rfl, hC, rfl, kP⟩
  ·have h6 : fx 6 = .bool true := hd.1 rfl
   dsimp only
   rw [h6]
   refine wpList_unguard rfl ?_
   clear hd
   go_wp2_with fail
   exact ⟨_, by simp only [upd, h6]; rfl, hC, rfl, kP⟩
  ·have h7 : fx 7 = raV ⟨7, 1⟩ := hd.1 rfl
   have h8 : fx 8 = raV ⟨7, 1⟩ := hd.2.1 rfl
   have h6 : fx 6 = .bool true := hd.2.2.1 rfl
   dsimp only
   rw [h6]
   refine wpList_unguard rfl ?_
   refine wpList_eql_ra rfl (.tmp 115) (.tmp 116) _ rfl ⟨7, 1⟩ ⟨7, 1⟩ h7 h8 ?_
   rw [raEq_refl]
   clear hd
   go_wp2_with fail
   exact ⟨_, by simp only [upd, h7, h8, h6]; rfl, hC, rfl, kP⟩
  ·have h6 : fx 6 = .bool true := hd.1 rfl
   have h9 : fx 9 = .bool true := hd.2.1 rfl
   clear hd
   go_wp2_with fail
   exact ⟨_, by simp only [upd, h6, h9]; rfl, hC, rfl, kP⟩
  ·have h10 : fx 10 = .bool true := hd.1 rfl
   clear hd
   go_wp2_with fail
   exact ⟨_, by simp only [upd, h10]; rfl, hC, rfl, kP⟩
  ·have h11 : fx 11 = .bool true := hd.1 rfl
   dsimp only
   rw [h11]
   refine wpList_unguard rfl ?_
   clear hd
   go_wp2_with fail
   exact ⟨_, by simp only [upd, h11]; rfl, hC, rfl, kP⟩
  ·have h12 : fx 12 = .pointer (some ⟨zp, 2, none⟩) := hd.1 rfl
   have h11 : fx 11 = .bool true := hd.2.1 rfl
   dsimp only
   rw [h11]
   refine wpList_unguard rfl ?_
   have hcc : w'.cell? ⟨zp, 2, none⟩ = some (Value.slice A1 2 c1) := by rw [cell_of_row _ _ _ _ _ _ (row_kept HRzp.out hC)]; rfl
   clear hd
   go_wp2_with fail
   exact ⟨_, by simp only [upd, h12, h11]; rfl, hC, rfl, kP⟩
  ·have h13 : fx 13 = .slice A1 2 c1 := hd.1 rfl
   have h11 : fx 11 = .bool true := hd.2.1 rfl
   dsimp only
   rw [h11]
   refine wpList_unguard rfl ?_
   clear hd
   go_wp2_with fail
   exact ⟨_, by simp only [upd, h13, h11]; rfl, hC, rfl, kP⟩
  ·have h14 : fx 14 = .int .i64 (2) := hd.1 rfl
   have h11 : fx 11 = .bool true := hd.2.1 rfl
   dsimp only
   rw [h11]
   refine wpList_unguard rfl ?_
   clear hd
   go_wp2_with fail
   exact ⟨_, by simp only [upd, h14, h11]; rfl, hC, rfl, kP⟩
  ·have h11 : fx 11 = .bool true := hd.1 rfl
   have h15 : fx 15 = .bool true := hd.2.1 rfl
   clear hd
   go_wp2_with fail
   exact ⟨_, by simp only [upd, h11, h15]; rfl, hC, rfl, kP⟩
  ·have h16 : fx 16 = .bool true := hd.1 rfl
   clear hd
   go_wp2_with fail
   exact ⟨_, by simp only [upd, h16]; rfl, hC, rfl, kP⟩
  ·have h17 : fx 17 = .bool true := hd.1 rfl
   dsimp only
   rw [h17]
   refine wpList_unguard rfl ?_
   clear hd
   go_wp2_with fail
   exact ⟨_, by simp only [upd, h17]; rfl, hC, rfl, kP⟩
  ·have h18 : fx 18 = .pointer (some ⟨zq, 2, none⟩) := hd.1 rfl
   have h17 : fx 17 = .bool true := hd.2.1 rfl
   dsimp only
   rw [h17]
   refine wpList_unguard rfl ?_
   have hcc : w'.cell? ⟨zq, 2, none⟩ = some (Value.slice (some ⟨g2, o2, none⟩) 1 c2) := by rw [cell_of_row _ _ _ _ _ _ (row_kept HRzq.out hC)]; rfl
   clear hd
   go_wp2_with fail
   exact ⟨_, by simp only [upd, h18, h17]; rfl, hC, rfl, kP⟩
  ·have h19 : fx 19 = .slice (some ⟨g2, o2, none⟩) 1 c2 := hd.1 rfl
   have h17 : fx 17 = .bool true := hd.2.1 rfl
   dsimp only
   rw [h17]
   refine wpList_unguard rfl ?_
   clear hd
   go_wp2_with fail
   exact ⟨_, by simp only [upd, h19, h17]; rfl, hC, rfl, kP⟩
  ·have h20 : fx 20 = .int .i64 (1) := hd.1 rfl
   have h17 : fx 17 = .bool true := hd.2.1 rfl
   dsimp only
   rw [h17]
   refine wpList_unguard rfl ?_
   clear hd
   go_wp2_with fail
   exact ⟨_, by simp only [upd, h20, h17]; rfl, hC, rfl, kP⟩
  ·have h17 : fx 17 = .bool true := hd.1 rfl
   have h21 : fx 21 = .bool true := hd.2.1 rfl
   clear hd
   go_wp2_with fail
   exact ⟨_, by simp only [upd, h17, h21]; rfl, hC, rfl, kP⟩
  ·have h22 : fx 22 = .bool true := hd.1 rfl
   clear hd
   go_wp2_with fail
   exact ⟨_, by simp only [upd, h22]; rfl, hC, rfl, kP⟩
  ·have h23 : fx 23 = .bool true := hd.1 rfl
   dsimp only
   rw [h23]
   refine wpList_unguard rfl ?_
   clear hd
   go_wp2_with fail
   exact ⟨_, by simp only [upd, h23]; rfl, hC, rfl, kP⟩
  ·have h24 : fx 24 = .pointer (some ⟨zq, 2, none⟩) := hd.1 rfl
   have h23 : fx 23 = .bool true := hd.2.1 rfl
   dsimp only
   rw [h23]
   refine wpList_unguard rfl ?_
   have hcc : w'.cell? ⟨zq, 2, none⟩ = some (Value.slice (some ⟨g2, o2, none⟩) 1 c2) := by rw [cell_of_row _ _ _ _ _ _ (row_kept HRzq.out hC)]; rfl
   clear hd
   go_wp2_with fail
   exact ⟨_, by simp only [upd, h24, h23]; rfl, hC, rfl, kP⟩
  ·have h25 : fx 25 = .slice (some ⟨g2, o2, none⟩) 1 c2 := hd.1 rfl
   have h23 : fx 23 = .bool true := hd.2.1 rfl
   dsimp only
   rw [h23]
   refine wpList_unguard rfl ?_
   clear hd
   go_wp2_with fail
   exact ⟨_, by simp only [upd, h25, h23]; rfl, hC, rfl, kP⟩
  ·have h26 : fx 26 = .pointer (some ⟨g2, o2, none⟩) := hd.1 rfl
   have h23 : fx 23 = .bool true := hd.2.1 rfl
   dsimp only
   rw [h23]
   refine wpList_unguard rfl ?_
   have hr := rangeAt_below HNQ.out HG2.out hC
   refine wpList_load_mid rfl 39 (.tmp 134) rfl (g2) (o2) h26 (ndC q) _ hr Tryz.underlying39 rfl HS34.out ?_
   clear hr
   clear hd
   go_wp2_with fail
   exact ⟨_, by simp only [upd, h26, h23]; rfl, hC, rfl, kP⟩
  ·have h23 : fx 23 = .bool true := hd.1 rfl
   dsimp only
   rw [h23]
   refine wpList_unguard rfl ?_
   clear hd
   go_wp2_with fail
   exact ⟨_, by simp only [upd, h23]; rfl, hC, rfl, kP⟩
  ·have h28 : fx 28 = .pointer (some ⟨zr, 6, none⟩) := hd.1 rfl
   have h23 : fx 23 = .bool true := hd.2.1 rfl
   dsimp only
   rw [h23]
   refine wpList_unguard rfl ?_
   have hr := rangeAt_below HNR.out HGR.out hC
   refine wpList_load_mid rfl 39 (.tmp 136) rfl (zr) (6) h28 (ndC q) _ hr Tryz.underlying39 rfl HS34.out ?_
   clear hr
   clear hd
   go_wp2_with fail
   exact ⟨_, by simp only [upd, h28, h23]; rfl, hC, rfl, kP⟩
  ·have h27 : fx 27 = ndV q := hd.1 rfl
   have h29 : fx 29 = ndV q := hd.2.1 rfl
   have h23 : fx 23 = .bool true := hd.2.2.1 rfl
   dsimp only
   rw [h23]
   refine wpList_unguard rfl ?_
   refine wpList_eql_nd rfl (.tmp 135) (.tmp 137) _ rfl q q h27 h29 HQO.out HQO.out ?_
   rw [ndEq_refl]
   clear hd
   go_wp2_with fail
   exact ⟨_, by simp only [upd, h27, h29, h23]; rfl, hC, rfl, kP⟩
  ·have h23 : fx 23 = .bool true := hd.1 rfl
   have h30 : fx 30 = .bool true := hd.2.1 rfl
   clear hd
   go_wp2_with fail
   exact ⟨_, by simp only [upd, h23, h30]; rfl, hC, rfl, kP⟩
  ·have h31 : fx 31 = .bool true := hd.1 rfl
   clear hd
   go_wp2_with fail
   exact ⟨_, by simp only [upd, h31]; rfl, hC, rfl, kP⟩
  ·have h32 : fx 32 = .bool true := hd.1 rfl
   dsimp only
   rw [h32]
   refine wpList_unguard rfl ?_
   clear hd
   go_wp2_with fail
   exact ⟨_, by simp only [upd, h32]; rfl, hC, rfl, kP⟩
  ·have h32 : fx 32 = .bool true := hd.1 rfl
   dsimp only
   rw [h32]
   refine wpList_unguard rfl ?_
   clear hd
   go_wp2_with fail
   exact ⟨_, by simp only [upd, h32]; rfl, hC, rfl, kP⟩
  ·have h34 : fx 34 = spnV ⟨0, 5⟩ := hd.1 rfl
   have h32 : fx 32 = .bool true := hd.2.1 rfl
   dsimp only
   rw [h32]
   refine wpList_unguard rfl ?_
   refine wpList_build_span1 rfl (.tmp 142) rfl ⟨0, 5, true⟩ h34 ?_
   have hb := (Below.refl _ w').alloc (Nat.le_refl _) (.cells (flatS [⟨0, 5, true⟩]).toArray 119)
   have hi3 := inS_new w' [⟨0, 5, true⟩]
   clear hd
   go_wp2_with fail
   exact ⟨_, by simp only [upd, h34, h32]; rfl, hC.trans (hb.mono hC.size), ⟨_, _, rfl, hi3⟩, fun j v t _ _ h => sS43_below hb j v h⟩
  ·have h33 : fx 33 = .slice A4 1 c4 := hd.1 rfl
   have H35 := hid (hd.2.1 rfl)
   have h32 : fx 32 = .bool true := hd.2.2.2.1 rfl
   dsimp only
   rw [h32]
   refine wpList_unguard rfl ?_
   obtain ⟨A7, c7, h35, hin7⟩ := H35.out
   have HA := hid (KC29.out.below hC)
   clear hd
   go_wp2_with fail
   refine (samespans_yes _ A7 1 _ c7 _ _ w' HA (hid hin7) (hid rfl) (by omega)).mono ?_
   rintro e w2 ⟨rfl, hq⟩
   go_wp2_with fail
   exact ⟨_, by simp only [upd, h33, h32, h35]; rfl, hC.trans (hq.mono hC.size), rfl, fun j v t _ _ h => sS43_below hq j v h⟩
  ·have h32 : fx 32 = .bool true := hd.1 rfl
   have h36 : fx 36 = .bool true := hd.2.1 rfl
   clear hd
   go_wp2_with fail
   exact ⟨_, by simp only [upd, h32, h36]; rfl, hC, rfl, kP⟩
  ·have h37 : fx 37 = .bool true := hd.1 rfl
   clear hd
   go_wp2_with fail
   exact ⟨_, by simp only [upd, h37]; rfl, hC, rfl, kP⟩
  ·have h38 : fx 38 = .bool true := hd.1 rfl
   dsimp only
   rw [h38]
   refine wpList_unguard rfl ?_
   clear hd
   go_wp2_with fail
   exact ⟨_, by simp only [upd, h38]; rfl, hC, rfl, kP⟩
  ·have h38 : fx 38 = .bool true := hd.1 rfl
   dsimp only
   rw [h38]
   refine wpList_unguard rfl ?_
   clear hd
   go_wp2_with fail
   exact ⟨_, by simp only [upd, h38]; rfl, hC, rfl, kP⟩
  ·have h38 : fx 38 = .bool true := hd.1 rfl
   dsimp only
   rw [h38]
   refine wpList_unguard rfl ?_
   clear hd
   go_wp2_with fail
   exact ⟨_, by simp only [upd, h38]; rfl, hC, rfl, kP⟩
  ·have h40 : fx 40 = spnV ⟨2, 4⟩ := hd.1 rfl
   have h41 : fx 41 = spnV ⟨4, 6⟩ := hd.2.1 rfl
   have h38 : fx 38 = .bool true := hd.2.2.1 rfl
   dsimp only
   rw [h38]
   refine wpList_unguard rfl ?_
   refine wpList_build_span2 rfl (.tmp 148) (.tmp 149) rfl ⟨2, 4, true⟩ ⟨4, 6, true⟩ h40 h41 ?_
   have hb := (Below.refl _ w').alloc (Nat.le_refl _) (.cells (flatS [⟨2, 4, true⟩, ⟨4, 6, true⟩]).toArray 119)
   have hi3 := inS_new w' [⟨2, 4, true⟩, ⟨4, 6, true⟩]
   clear hd
   go_wp2_with fail
   exact ⟨_, by simp only [upd, h40, h41, h38]; rfl, hC.trans (hb.mono hC.size), ⟨_, _, rfl, hi3⟩, fun j v t _ _ h => sS43_below hb j v h⟩
  ·have h39 : fx 39 = .slice A5 2 c5 := hd.1 rfl
   have H42 := hid (hd.2.1 rfl)
   have h38 : fx 38 = .bool true := hd.2.2.2.1 rfl
   dsimp only
   rw [h38]
   refine wpList_unguard rfl ?_
   obtain ⟨A7, c7, h42, hin7⟩ := H42.out
   have HA := hid (KD29.out.below hC)
   clear hd
   go_wp2_with fail
   refine (samespans_yes _ A7 2 _ c7 _ _ w' HA (hid hin7) (hid rfl) (by omega)).mono ?_
   rintro e w2 ⟨rfl, hq⟩
   go_wp2_with fail
   exact ⟨_, by simp only [upd, h39, h38, h42]; rfl, hC.trans (hq.mono hC.size), rfl, fun j v t _ _ h => sS43_below hq j v h⟩
  ·have h38 : fx 38 = .bool true := hd.1 rfl
   have h43 : fx 43 = .bool true := hd.2.1 rfl
   clear hd
   go_wp2_with fail
   exact ⟨_, by simp only [upd, h38, h43]; rfl, hC, rfl, kP⟩
  ·have h44 : fx 44 = .bool true := hd.1 rfl
   clear hd
   go_wp2_with fail
   exact ⟨_, by simp only [upd, h44]; rfl, hC, rfl, kP⟩
 ·intro L fo w' hC hS
  have H45 := hid (hS 45 (by decide) rfl)
  have hl : fo 45 = .bool true := H45.out
  rw [hl]
  have HBC := hid (HB29.out.trans (hC.mono HB29.out.size))
  clear hS hC H45 hl
  go_wp2_with fail
  go_ret
  exact ⟨rfl, HBC.out⟩
def rjF : Nat → Nat → Nat → Nat → Nat → List Nd → Nd × Bool
 | 0, f, t, lo, hi, ls => (ls.headD zeroN, true)
 | n + 1, f, t, lo, hi, ls => if insB f t lo hi || outB f t lo hi then (ls.headD zeroN, true) else
   if (rjF n f t lo (lo + half (hi - lo)) ls).2 && (rjF n f t (lo + half (hi - lo)) hi (ls.drop (parts f t lo (lo + half (hi - lo))).length)).2 then
    (if vL [(rjF n f t lo (lo + half (hi - lo)) ls).1, (rjF n f t (lo + half (hi - lo)) hi (ls.drop (parts f t lo (lo + half (hi - lo))).length)).1] then joinN (rjF n f t lo (lo + half (hi - lo)) ls).1 (rjF n f t (lo + half (hi - lo)) hi (ls.drop (parts f t lo (lo + half (hi - lo))).length)).1 else zeroN,
     vL [(rjF n f t lo (lo + half (hi - lo)) ls).1, (rjF n f t (lo + half (hi - lo)) hi (ls.drop (parts f t lo (lo + half (hi - lo))).length)).1])
   else (zeroN, false)
theorem rjF_fuel {f t : Nat} (hft : f < t) : ∀ n m lo hi, lo < hi → hi - lo ≤ n + 1 → hi - lo ≤ m + 1 → rjF n f t lo hi = rjF m f t lo hi
 | 0, 0, _, _, _, _, _ => rfl
 | 0, m + 1, lo, hi, h, h1, h2 => by
  funext ls
  conv => rhs; unfold rjF
  by_cases hc : (insB f t lo hi || outB f t lo hi) = true
  ·rw [if_pos hc]; rfl
  ·have := cut_two h hft (by simpa using hc); omega
 | n + 1, 0, lo, hi, h, h1, h2 => by
  funext ls
  conv => lhs; unfold rjF
  by_cases hc : (insB f t lo hi || outB f t lo hi) = true
  ·rw [if_pos hc]; rfl
  ·have := cut_two h hft (by simpa using hc); omega
 | n + 1, m + 1, lo, hi, h, h1, h2 => by
  funext ls
  unfold rjF
  by_cases hc : (insB f t lo hi || outB f t lo hi) = true
  ·rw [if_pos hc, if_pos hc]
  ·have h3 := cut_two h hft (by simpa using hc)
   have hb := half_bd h3
   rw [if_neg hc, if_neg hc, rjF_fuel hft n m lo _ (by omega) (by omega) (by omega), rjF_fuel hft n m _ hi (by omega) (by omega) (by omega)]
/-- what the reference's join of a part leads to: the node, and whether there was no error -/
def rj (f t lo hi : Nat) : List Nd → Nd × Bool := rjF (hi - lo) f t lo hi
theorem rj_leaf {f t lo hi : Nat} (h : lo < hi) (hc : (insB f t lo hi || outB f t lo hi) = true) (ls : List Nd) : rj f t lo hi ls = (ls.headD zeroN, true) := by
 obtain ⟨k, e⟩ : ∃ k, hi - lo = k + 1 := ⟨hi - lo - 1, by omega⟩
 unfold rj
 rw [e]
 unfold rjF
 rw [if_pos hc]
def rjC (a b : Nd × Bool) : Nd × Bool := if a.2 && b.2 then (joinR a.1 b.1, vL [a.1, b.1]) else (zeroN, false)
theorem rj_cut {f t lo hi : Nat} (h : lo < hi) (hft : f < t) (hc : (insB f t lo hi || outB f t lo hi) = false) (ls : List Nd) : rj f t lo hi ls = rjC (rj f t lo (lo + half (hi - lo)) ls) (rj f t (lo + half (hi - lo)) hi (ls.drop (parts f t lo (lo + half (hi - lo))).length)) := by
 have h2 := cut_two h hft hc
 have hb := half_bd h2
 obtain ⟨k, e⟩ : ∃ k, hi - lo = k + 1 := ⟨hi - lo - 1, by omega⟩
 unfold rj
 conv => lhs; rw [e]; unfold rjF
 rw [if_neg (by rw [hc]; simp), rjF_fuel hft k (lo + half (hi - lo) - lo) lo _ (by omega) (by omega) (by omega), rjF_fuel hft k (hi - (lo + half (hi - lo))) _ hi (by omega) (by omega) (by omega)]
 rfl
/-- the sum of the nodes inside -/
def scS (g : Nd → Int) : List Pt → List Nd → Int
 | [], _ => 0
 | _ :: _, [] => 0
 | p :: ps, x :: xs => (if p.ins then g x else 0) + scS g ps xs
theorem scS_nil (g : Nd → Int) : ∀ ps, scS g ps [] = 0
 | [] => rfl
 | _ :: _ => rfl
theorem scS_append (g : Nd → Int) : ∀ (ps qs : List Pt) (xs : List Nd), scS g (ps ++ qs) xs = scS g ps xs + scS g qs (xs.drop ps.length)
 | [], qs, xs => by simp [scS]
 | p :: ps, qs, [] => by simp [scS, scS_nil]
 | p :: ps, qs, x :: xs => by
  show (if p.ins then g x else 0) + scS g (ps ++ qs) xs = _
  rw [scS_append g ps qs xs]
  show _ = (if p.ins then g x else 0) + scS g ps xs + scS g qs (xs.drop ps.length)
  omega
theorem scS_snoc (g : Nd → Int) (ps : List Pt) (xs : List Nd) (j : Nat) (h1 : j < ps.length) (h2 : j < xs.length) : scS g (ps.take (j + 1)) xs = scS g (ps.take j) xs + (if ps[j].ins then g xs[j] else 0) := by
 have e : ps.take (j + 1) = ps.take j ++ [ps[j]] := by rw [List.take_add_one, List.getElem?_eq_getElem h1]; rfl
 rw [e, scS_append, List.length_take, Nat.min_eq_left (by omega), List.drop_eq_getElem_cons h2]
 show _ = _ + _
 have : scS g [ps[j]] (xs[j] :: xs.drop (j + 1)) = (if ps[j].ins then g xs[j] else 0) + 0 := rfl
 rw [this]
 omega
theorem scS_bd {g : Nd → Int} {M : Int} (hM : 0 ≤ M) : ∀ (ps : List Pt) (xs : List Nd), (∀ x ∈ xs, 0 ≤ g x ∧ g x ≤ M) → 0 ≤ scS g ps xs ∧ scS g ps xs ≤ M * (ps.length : Nat)
 | [], xs, h => by simp [scS]
 | p :: ps, [], h => by
  refine ⟨Int.le_refl _, ?_⟩
  exact Int.mul_nonneg hM (by omega)
 | p :: ps, x :: xs, h => by
  have h1 := h x (by simp)
  have h2 := scS_bd hM ps xs (fun y hy => h y (by simp [hy]))
  have e : M * ((p :: ps).length : Nat) = M * (ps.length : Nat) + M := by rw [List.length_cons]; push_cast; rw [Int.mul_add]; omega
  rw [e]
  show 0 ≤ (if p.ins then g x else 0) + scS g ps xs ∧ (if p.ins then g x else 0) + scS g ps xs ≤ _
  split <;> omega
theorem scS_take (g : Nd → Int) : ∀ (ps : List Pt) (xs : List Nd), scS g ps xs = scS g ps (xs.take ps.length)
 | [], xs => rfl
 | p :: ps, [] => rfl
 | p :: ps, x :: xs => by
  show (if p.ins then g x else 0) + scS g ps xs = (if p.ins then g x else 0) + scS g ps (xs.take ps.length)
  rw [← scS_take g ps xs]
/-- the program's join is the reference's -/
theorem vj_rj {f t : Nat} (hft : f < t) (lo hi : Nat) (h : lo < hi) : ∀ ls : List Nd, vj f t lo hi ls = if (parts f t lo hi).length ≤ ls.length ∧ (ls.take (parts f t lo hi).length).all vN = true ∧ (rj f t lo hi ls).2 = true then some ((rj f t lo hi ls).1, ls.drop (parts f t lo hi).length, scS (·.c) (parts f t lo hi) ls, scS (·.p) (parts f t lo hi) ls) else none := by
 refine parts_ind hft (M := fun lo hi => ∀ ls : List Nd, vj f t lo hi ls = if (parts f t lo hi).length ≤ ls.length ∧ (ls.take (parts f t lo hi).length).all vN = true ∧ (rj f t lo hi ls).2 = true then some ((rj f t lo hi ls).1, ls.drop (parts f t lo hi).length, scS (·.c) (parts f t lo hi) ls, scS (·.p) (parts f t lo hi) ls) else none) ?_ ?_ (hi - lo) lo hi h (Nat.le_refl _)
 ·intro lo hi hlt hc ls
  rw [vj_leaf hlt hc, parts_leaf hlt hc, rj_leaf hlt hc]
  cases ls with
  | nil => rw [if_neg (by simp)]; rfl
  | cons x r =>
   show (if vN x = true then some (x, r, (if insB f t lo hi = true then x.c else 0), (if insB f t lo hi = true then x.p else 0)) else none) = _
   by_cases hx : vN x = true
   ·refine (if_pos hx).trans (Eq.symm ((if_pos ⟨by simp, by simp [hx], rfl⟩).trans ?_))
    show some (x, r, (if insB f t lo hi = true then x.c else 0) + 0, (if insB f t lo hi = true then x.p else 0) + 0) = _
    rw [Int.add_zero, Int.add_zero]
   ·rw [if_neg hx, if_neg (fun hh => hx (by simpa using hh.2.1))]
 ·intro lo hi hlt hc b1 b2 i1 i2 ls
  rw [vj_cut hlt hft hc, parts_cut hlt hft hc, rj_cut hlt hft hc]
  unfold vjC
  rw [i1 ls]
  obtain ⟨P1, e1⟩ : ∃ P, parts f t lo (lo + half (hi - lo)) = P := ⟨_, rfl⟩
  obtain ⟨P2, e2⟩ : ∃ P, parts f t (lo + half (hi - lo)) hi = P := ⟨_, rfl⟩
  obtain ⟨a, ea⟩ : ∃ P, rj f t lo (lo + half (hi - lo)) ls = P := ⟨_, rfl⟩
  rw [e1, ea]
  obtain ⟨b, eb⟩ : ∃ P, rj f t (lo + half (hi - lo)) hi (ls.drop P1.length) = P := ⟨_, rfl⟩
  rw [eb, e2, List.length_append]
  have hsp : ls.take (P1.length + P2.length) = ls.take P1.length ++ (ls.drop P1.length).take P2.length := by rw [List.take_add]
  by_cases h1 : P1.length ≤ ls.length ∧ (ls.take P1.length).all vN = true ∧ a.2 = true
  ·rw [if_pos h1]
   dsimp only
   rw [i2 (ls.drop P1.length), e2, eb, List.length_drop]
   by_cases h2 : P2.length ≤ ls.length - P1.length ∧ ((ls.drop P1.length).take P2.length).all vN = true ∧ b.2 = true
   ·rw [if_pos h2]
    dsimp only
    have er : rjC a b = (joinR a.1 b.1, vL [a.1, b.1]) := by unfold rjC; rw [h1.2.2, h2.2.2]; rfl
    rw [er]
    by_cases hv : vL [a.1, b.1] = true
    ·rw [if_pos hv, if_pos ⟨by omega, by rw [hsp, List.all_append, h1.2.1, h2.2.1]; rfl, hv⟩]
     have ej : joinR a.1 b.1 = joinN a.1 b.1 := by unfold joinR; rw [if_pos hv]
     dsimp only
     rw [ej, scS_append, scS_append, List.drop_drop]
    ·rw [if_neg hv, if_neg (fun hh => hv hh.2.2)]
   ·rw [if_neg h2]
    dsimp only
    rw [if_neg]
    intro hh
    refine h2 ⟨by omega, ?_, ?_⟩
    ·have := hh.2.1; rw [hsp, List.all_append, Bool.and_eq_true] at this; exact this.2
    ·have := hh.2.2; unfold rjC at this; split at this
     case isTrue hq => rw [Bool.and_eq_true] at hq; exact hq.2
     case isFalse => cases this
  ·rw [if_neg h1]
   dsimp only
   rw [if_neg]
   intro hh
   refine h1 ⟨by omega, ?_, ?_⟩
   ·have := hh.2.1; rw [hsp, List.all_append, Bool.and_eq_true] at this; exact this.1
   ·have := hh.2.2; unfold rjC at this; split at this
    case isTrue hq => rw [Bool.and_eq_true] at hq; exact hq.1
    case isFalse => cases this
/-- what the reference's Verify returns, when the interval fits -/
def rvS (f t m : Nat) (tree : Nd) (ls : List Nd) : Int × Int × Int :=
 if (parts f t 0 m).length = ls.length ∧ ls.all vN = true ∧ (rj f t 0 m ls).2 = true ∧ ndEq (rj f t 0 m ls).1 tree = true then (scS (·.c) (parts f t 0 m) ls, scS (·.p) (parts f t 0 m) ls, 0) else (0, 0, 430)
theorem rvS_vfS {f t m : Nat} (hft : f < t) (htm : t ≤ m) (hm : m ≤ 4096) (tree : Nd) (ls : List Nd) : rvS f t m tree ls = vfS (m : Nat) tree (f : Nat) (t : Nat) ls := by
 unfold vfS
 rw [show ftB (f : Int) (t : Int) (m : Int) = true by unfold ftB; simp; omega, if_pos rfl, Int.toNat_natCast, Int.toNat_natCast, Int.toNat_natCast, vj_rj hft 0 m (by omega)]
 unfold rvS
 by_cases h1 : (parts f t 0 m).length ≤ ls.length ∧ (ls.take (parts f t 0 m).length).all vN = true ∧ (rj f t 0 m ls).2 = true
 ·rw [if_pos h1]
  by_cases hl : (parts f t 0 m).length = ls.length
  ·have e0 : ls.drop (parts f t 0 m).length = [] := List.drop_eq_nil_of_le (by omega)
   have e1 : ls.take (parts f t 0 m).length = ls := List.take_of_length_le (by omega)
   rw [e0]
   dsimp only
   rw [e1] at h1
   by_cases hn : ndEq (rj f t 0 m ls).1 tree = true
   ·rw [if_pos hn, if_pos ⟨hl, h1.2.1, h1.2.2, hn⟩]
   ·rw [if_neg hn, if_neg (fun hh => hn hh.2.2.2)]
  ·rw [if_neg (fun hh => hl hh.1)]
   obtain ⟨x, xs, ex⟩ : ∃ x xs, ls.drop (parts f t 0 m).length = x :: xs := by
    cases hd : ls.drop (parts f t 0 m).length with
    | nil => have := congrArg List.length hd; rw [List.length_drop] at this; simp at this; omega
    | cons x xs => exact ⟨x, xs, rfl⟩
   rw [ex]
 ·rw [if_neg h1, if_neg]
  intro hh
  exact h1 ⟨by omega, by rw [List.take_of_length_le (by omega)]; exact hh.2.1, hh.2.2.1⟩
theorem scS_vN {ps : List Pt} {ls : List Nd} {j : Nat} (hv : (ls.take j).all vN = true) (hj : ps.length = j) (h : j ≤ 100000) : (0 ≤ scS (·.c) ps ls ∧ scS (·.c) ps ls ≤ 107374182400000) ∧ 0 ≤ scS (·.p) ps ls ∧ scS (·.p) ps ls ≤ 1288490188800000 := by
 have hb : ∀ x ∈ ls.take j, 0 ≤ x.c ∧ x.c ≤ 1073741824 ∧ 0 ≤ x.p ∧ x.p ≤ 12884901888 := fun x hx => by
  have h1 := List.all_eq_true.1 hv x hx
  simp only [vN, Bool.and_eq_true, decide_eq_true_eq] at h1
  omega
 rw [scS_take (·.c), scS_take (·.p), hj]
 have h1 := scS_bd (g := (·.c)) (M := 1073741824) (by decide) ps (ls.take j) (fun x hx => ⟨(hb x hx).1, (hb x hx).2.1⟩)
 have h2 := scS_bd (g := (·.p)) (M := 12884901888) (by decide) ps (ls.take j) (fun x hx => (hb x hx).2.2)
 rw [hj] at h1 h2
 omega
theorem rootE_one (x : Nd) : rootE [x] = if vN x then 0 else 410 := by
 unfold rootE
 have e : (vL [x] = true) ↔ vN x = true := by
  unfold vL
  simp only [List.all_cons, List.all_nil, Bool.and_true, Bool.and_eq_true, sumC]
  constructor
  ·exact fun h => h.1
  ·intro h
   refine ⟨h, ?_⟩
   simp only [vN, Bool.and_eq_true, decide_eq_true_eq] at h
   simp
   omega
 by_cases h : vN x = true
 ·rw [if_pos ⟨by simp, e.2 h⟩, if_pos h]
 ·rw [if_neg (fun hh => h (e.1 hh.2)), if_neg h]
open Go.Shelf
/-- a part as cells -/
def shP (x : Pt) : List Value := [.int .i64 (x.lo : Nat), .int .i64 (x.hi : Nat), .bool x.ins]
def flatH (ls : List Pt) : List Value := ls.flatMap shP
theorem flatH_append (a b : List Pt) : flatH (a ++ b) = flatH a ++ flatH b := by unfold flatH; rw [List.flatMap_append]
theorem flatH_length : ∀ ls : List Pt, (flatH ls).length = ls.length * 3
 | [] => rfl
 | x :: ls => by
  show (shP x ++ flatH ls).length = _
  rw [List.length_append, flatH_length ls, List.length_cons]
  show 3 + _ = _
  omega
theorem flatH_one (ls : List Pt) : ∀ u ∈ flatH ls, u.oneCell' = true := fun u hu => by
 obtain ⟨n, _, h⟩ := List.mem_flatMap.1 hu
 unfold shP at h
 simp only [List.mem_cons, List.not_mem_nil, or_false] at h
 rcases h with rfl | rfl | rfl <;> rfl
theorem info_shown : ∃ i, Tryz.prog.info? 131 = some i ∧ i.zero = some (.agg #[.int .i64 0, .int .i64 0, .bool false]) ∧ i.size = 3 ∧ i.bytes = 24 := by
 refine ⟨_, rfl, ?_, ?_, ?_⟩ <;> kernel_rfl
theorem fill_shown1 (n : Pt) {i : TypeInfo} {z : Value} (hs : i.size = 3) : Instr.fill (fun j => some (j * i.size, i.size)) ((Array.range (1 * i.size)).map (z.cells[· % z.cells.size]!)) [(0, .agg (shP n).toArray)] = some (flatH [n]).toArray := by
 rw [hs]
 have e1 : ([(0, .agg (shP n).toArray)] : List (Nat × Value)) = (([.agg (shP n).toArray] : List Value).zipIdx 0).map fun x => (x.2, x.1) := by simp
 rw [e1, Great.fill_whole (by omega) [.agg (shP n).toArray] _ (fun v hv => by
  simp only [List.mem_cons, List.not_mem_nil, or_false] at hv
  subst hv; rfl) (by simp)]
 rfl
theorem wpList_build_shown1 {w : World} {ops : Array Oper} {rest : List Oper} {o : Oper} {a : Act} {Q : Exit → Act → World → Prop} (hg : o.guard = none) (x : Operand)
  (ho : o.op = .buildSlice 128 1 #[(0, x)]) (n : Pt) (hx : a.eval x = .agg (shP n).toArray)
  (h : wpList Tryz.prog ops Q rest (a.put o.dst (.slice (some ⟨w.heap.size, 0, none⟩) 1 1)) (w.alloc (.cells (flatH [n]).toArray 131))) : wpList Tryz.prog ops Q (o :: rest) a w := by
 obtain ⟨i0, hi, hz, hs, _⟩ := info_shown
 refine wpList_buildSlice hg 128 131 1 _ ho _ i0 _ Tryz.underlying128 hi hz (by rw [hs]; omega) (by rw [hs]; omega) ?_ h
 have e1 : (#[(0, x)].map fun (i, x) => (i, a.eval x)).toList = [(0, .agg (shP n).toArray)] := by simp [hx]
 rw [e1]; exact fill_shown1 n hs
def OwnH (w : World) (base : Nat) (v : Value) (ls : List Pt) : Prop := w.ownsRow base 131 3 v ls.length (flatH ls)
theorem OwnH.kept {w w' : World} {base : Nat} {v : Value} {ls : List Pt} (h : OwnH w base v ls) (hk : ∀ g, v.ownBlock = some g → w'.heap[g]? = w.heap[g]?) : OwnH w' base v ls := by
 refine ⟨h.1, ?_⟩
 rcases h.2 with h0 | ⟨g, cap, cur, rfl, hb, hh, r⟩
 ·exact .inl h0
 ·exact .inr ⟨g, cap, cur, rfl, hb, (hk g rfl).trans hh, r⟩
theorem OwnH.block {w : World} {base : Nat} {v : Value} {ls : List Pt} (h : OwnH w base v ls) (g : Nat) (hg : v.ownBlock = some g) : base ≤ g ∧ g < w.heap.size ∧ ∃ cur, w.heap[g]? = some (.cells cur 131 (0, 0)) := by
 rcases h.2 with ⟨rfl, h0⟩ | ⟨g', cap, cur, rfl, hb, hh, r⟩
 ·cases hg
 ·have : g' = g := by simpa [Value.ownBlock] using hg
  subst this
  exact ⟨hb, (Array.getElem?_eq_some_iff.1 hh).1, cur, hh⟩
theorem OwnH.below {w w' : World} {base : Nat} {v : Value} {ls : List Pt} (h : OwnH w base v ls) (hb : Below w.heap.size w w') : OwnH w' base v ls := h.kept fun g hg => hb.block g (h.block g hg).2.1
theorem OwnH.form {w : World} {base : Nat} {v : Value} {ls : List Pt} (h : OwnH w base v ls) : ∃ A n c, v = .slice A n c := by
 rcases h.2 with ⟨rfl, h0⟩ | ⟨g, cap, cur, rfl, r⟩
 ·exact ⟨_, _, _, rfl⟩
 ·exact ⟨_, _, _, rfl⟩
/-- a slice of parts -/
structure InH (w : World) (A : Option Addr) (n c : Nat) (ls : List Pt) : Prop where
 len : ls.length = n
 cap : n ≤ c
 none_ : A = none → c = 0
 rd : 0 < ls.length → ∃ g off, A = some ⟨g, off, none⟩ ∧ g < w.heap.size ∧ w.rangeAt g off (flatH ls)
theorem InH.below {w w' : World} {A : Option Addr} {n c : Nat} {ls : List Pt} (h : InH w A n c ls) (hb : Below w.heap.size w w') : InH w' A n c ls :=
 ⟨h.len, h.cap, h.none_, fun h0 => by
  obtain ⟨g, off, e, hg, hr⟩ := h.rd h0
  exact ⟨g, off, e, Nat.lt_of_lt_of_le hg hb.size, rangeAt_below hr hg hb⟩⟩
theorem OwnH.slice {w : World} {base : Nat} {v : Value} {ls : List Pt} (h : OwnH w base v ls) : ∃ A n c, v = .slice A n c ∧ InH w A n c ls := by
 rcases h.2 with ⟨rfl, h0⟩ | ⟨g, cap, cur, rfl, hb, hh, hc, hm, hs, ht⟩
 ·exact ⟨none, 0, 0, rfl, ⟨h0, Nat.le_refl _, fun _ => rfl, fun h1 => by omega⟩⟩
 ·refine ⟨_, _, cap, rfl, ⟨rfl, hc, (fun e => by cases e), fun _ => ⟨g, 0, rfl, (Array.getElem?_eq_some_iff.1 hh).1, fun j u hj => ?_⟩⟩⟩
  have hj2 : j < ls.length * 3 := by rw [← flatH_length ls]; exact (List.getElem?_eq_some_iff.1 hj).1
  rw [Nat.zero_add, cell_of_row w g j cur _ _ hh]
  rw [← ht, List.getElem?_take_of_lt hj2] at hj
  simpa using hj
theorem OwnH.one {w : World} {g M : Nat} {x : Pt} (h : w.heap[g]? = some (.cells (flatH [x]).toArray 131 (0, 0))) (hM : M ≤ g) : OwnH w M (.slice (some ⟨g, 0, none⟩) 1 1) [x] :=
 ⟨rfl, .inr ⟨g, 1, _, rfl, hM, h, Nat.le_refl _, by unfold maxLen; omega, rfl, rfl⟩⟩
theorem wpList_append_shown {w : World} {ops : Array Oper} {rest : List Oper} {o : Oper} {a : Act} {Q : Exit → Act → World → Prop} (hgd : o.guard = none) (s x : Operand)
  (ho : o.op = .call { callee := .builtin .append, args := #[s, x], argTypes := #[128, 128] })
  (base : Nat) (v : Value) (ls ps : List Pt) (A : Option Addr) (n c : Nat) (hs : a.eval s = v) (hown : Hid (OwnH w base v ls)) (hx : a.eval x = .slice A n c) (hin : Hid (InH w A n c ps)) (hlen : ls.length ≤ 100000) (hn : n ≤ 100000) (hbase : base ≤ w.heap.size)
  (h : ∀ v' w', Hid (OwnH w' base v' (ls ++ ps)) → Hid (w.grownBy w' v.ownBlock) → Hid (v'.ownBlock = v.ownBlock ∨ v'.ownBlock = some w.heap.size) → wpList Tryz.prog ops Q rest (a.put o.dst v') w') : wpList Tryz.prog ops Q (o :: rest) a w := by
 obtain ⟨i0, hi, hz, hz1, hz2⟩ := info_shown
 rcases A with _ | ad
 ·have hc := hin.out.none_ rfl
  have h0 : n = 0 := by have := hin.out.cap; omega
  have hp : ps = [] := List.eq_nil_of_length_eq_zero (by rw [hin.out.len]; exact h0)
  subst hp h0 hc
  refine wpList_append_own_none hgd s x _ ho base _ i0 3 Tryz.underlying128 hi v _ _ hs hown.out hx ?_
  exact h v w (hid (by rw [List.append_nil]; exact hown.out)) (hid ⟨rfl, rfl, rfl, Nat.le_refl _, fun _ _ _ => rfl⟩) (hid (.inl rfl))
 ·have hl := flatH_length ps
  rw [hin.out.len] at hl
  refine wpList_append_own_at _ hgd s x _ ho base _ i0 _ 3 24 Tryz.underlying128 hi hz hz1 hz2 (by simp [Value.cells]) (by omega) v _ _ hs hown.out ad n c (flatH ps) hx hl (fun j u hu => ?_) (flatH_one _) (by unfold maxLen; omega) (by omega) hbase ?_
  ·have hj := (List.getElem?_eq_some_iff.1 hu).1
   obtain ⟨g, off, e, hg, hr⟩ := hin.out.rd (by rw [hin.out.len]; omega)
   cases e
   rw [add_row]; exact hr j u hu
  ·intro v' w' h1 h2 h3 h4
   refine h v' w' (hid ?_) (hid h2) (hid h4)
   unfold OwnH
   rw [flatH_append, List.length_append, hin.out.len]; exact h1
theorem rh_step43 {f k n : Nat} (hlt : 2 * k < n) (hn : n ≤ 1000000) (h : 18446744073709551616 ≤ k * 2 ^ f) : ∃ g, halfF f k n = halfF g (2 * k) n ∧ 18446744073709551616 ≤ 2 * k * 2 ^ g := by
 cases f with
 | zero => rw [Nat.pow_zero] at h; omega
 | succ g =>
  refine ⟨g, ?_, ?_⟩
  ·conv => lhs; unfold halfF
   rw [if_pos hlt]
  ·rw [Nat.pow_succ] at h
   rw [show 2 * k * 2 ^ g = k * (2 ^ g * 2) by rw [Nat.mul_comm (2 ^ g) 2, ← Nat.mul_assoc, Nat.mul_comm k 2]]
   exact h
theorem rh_end43 {f k n : Nat} (hlt : ¬ 2 * k < n) : halfF f k n = k := by
 cases f with
 | zero => rfl
 | succ f => unfold halfF; rw [if_neg hlt]
theorem rhalf43_any (n : Nat) (w : World) (hn : n ≤ 1000000) : Calls Tryz.prog 124 #[.int .i64 (n : Nat)] w fun e w' => e = .returned (.int .i64 (half n : Nat)) ∧ w = w' := by
 go_enter Tryz.func124, Tryz.ntmps124
 go_wp2_with fail
 go_loop [3] (fun v => ∃ k : Nat, v = .int .i64 (k : Nat) ∧ 1 ≤ k ∧ k ≤ 1000000 ∧ Hid (∃ f, halfF f k n = half n ∧ 18446744073709551616 ≤ k * 2 ^ f)) (fun v => n - (intOf v).toNat)
 case atStart => exact ⟨1, rfl, by omega, by omega, hid ⟨64, rfl, by decide⟩⟩
 case round =>
  obtain ⟨k, rfl, hk1, hk2, HF⟩ := hrel
  by_cases hlt : 2 * k < n
  ·have d1 : decide (2 * (k : Int) < (n : Int)) = true := eQ (by omega)
   have HF2 : Hid (∃ f, halfF f (2 * k) n = half n ∧ 18446744073709551616 ≤ 2 * k * 2 ^ f) := hid (by
    obtain ⟨f, h1, h2⟩ := HF.out
    obtain ⟨g, h3, h4⟩ := rh_step43 hlt hn h2
    exact ⟨g, by rw [← h3]; exact h1, h4⟩)
   go_wp2_with fail
   go_round
   case rel => exact ⟨2 * k, by go_num, by omega, by omega, HF2⟩
   case measure => simp [intOf]; omega
  ·have d1 : decide (2 * (k : Int) < (n : Int)) = false := dQ (by omega)
   have HE : Hid (half n = k) := hid (by
    obtain ⟨f, h1, _⟩ := HF.out
    rw [← h1]; exact rh_end43 hlt)
   go_wp2_with fail
   go_ret
   exact ⟨by rw [HE.out]; rfl, rfl⟩
theorem rfits_any (f t m : Int) (w : World) : Calls Tryz.prog 79 #[.int .i64 f, .int .i64 t, .int .i64 m] w fun e w' => e = .returned (.bool (ftB f t m)) ∧ w = w' := by
 unfold ftB
 by_cases h0 : 0 ≤ f
 ·have d0 : decide (0 ≤ f) = true := eQ h0
  by_cases h1 : f < t
  ·have d1 : decide (f < t) = true := eQ h1
   by_cases h2 : t ≤ m
   ·have d2 : decide (t ≤ m) = true := eQ h2
    go_enter Tryz.func79, Tryz.ntmps79
    go_wp2_with fail
    go_ret
    exact ⟨by first | rfl | (rw [d0, d1, d2]; rfl), rfl⟩
   ·have d2 : decide (t ≤ m) = false := dQ h2
    go_enter Tryz.func79, Tryz.ntmps79
    go_wp2_with fail
    go_ret
    exact ⟨by first | rfl | (rw [d0, d1, d2]; rfl), rfl⟩
  ·have d1 : decide (f < t) = false := dQ h1
   go_enter Tryz.func79, Tryz.ntmps79
   go_wp2_with fail
   go_ret
   exact ⟨by first | rfl | (rw [d0, d1]; rfl), rfl⟩
 ·have d0 : decide (0 ≤ f) = false := dQ h0
  go_enter Tryz.func79, Tryz.ntmps79
  go_wp2_with fail
  go_ret
  exact ⟨by first | rfl | (rw [d0]; rfl), rfl⟩
def RPts (f t lo hi : Nat) : Prop := hi ≤ 4096 → ∀ w : World, Calls Tryz.prog 80 #[.int .i64 (f : Nat), .int .i64 (t : Nat), .int .i64 (lo : Nat), .int .i64 (hi : Nat)] w fun e w' => ∃ A n c, e = .returned (.slice A n c) ∧ OwnH w' w.heap.size (.slice A n c) (parts f t lo hi) ∧ Below w.heap.size w w'
theorem rparts_leaf (f t lo up : Nat) (hft : f < t) (ht : t ≤ 4096) (hlt : lo < up) (hc : (insB f t lo up || outB f t lo up) = true) : RPts f t lo up := by
 intro hhi w
 rw [parts_leaf hlt hc]
 unfold insB outB at hc
 unfold insB
 obtain ⟨b, HB⟩ : ∃ b, Hid ((decide (f ≤ lo) && decide (up ≤ t)) = b) := ⟨_, hid rfl⟩
 rw [HB.out]
 obtain ⟨W, HW⟩ : ∃ W, Hid (w.alloc (.cells (flatH [⟨lo, up, b⟩]).toArray 131) = W) := ⟨_, hid rfl⟩
 have hr := heap_alloc_new w (.cells (flatH [⟨lo, up, b⟩]).toArray 131)
 have hb := (Below.refl _ w).alloc (Nat.le_refl _) (.cells (flatH [⟨lo, up, b⟩]).toArray 131)
 rw [HW.out] at hr hb
 have HO := hid (OwnH.one hr (Nat.le_refl _))
 have HBW := hid hb
 clear hr hb
 obtain ⟨b1, e1⟩ : ∃ b, decide (f ≤ lo) = b := ⟨_, rfl⟩
 obtain ⟨b2, e2⟩ : ∃ b, decide (up ≤ t) = b := ⟨_, rfl⟩
 obtain ⟨b3, e3⟩ : ∃ b, decide (up ≤ f) = b := ⟨_, rfl⟩
 obtain ⟨b4, e4⟩ : ∃ b, decide (t ≤ lo) = b := ⟨_, rfl⟩
 have d1 : decide ((f : Int) ≤ (lo : Int)) = b1 := by rw [← e1]; simp
 have d2 : decide ((up : Int) ≤ (t : Int)) = b2 := by rw [← e2]; simp
 have d3 : decide ((up : Int) ≤ (f : Int)) = b3 := by rw [← e3]; simp
 have d4 : decide ((t : Int) ≤ (lo : Int)) = b4 := by rw [← e4]; simp
 have HC := hid hc
 rw [e1, e2] at HB
 rw [e1, e2, e3, e4] at HC
 have HF : Hid (f < t) := hid hft
 clear hc hft
 cases b1
 ·cases b3
  ·cases b4
   ·have := HC.out; cases this
   ·have hbt : b = false := HB.out.symm
    subst hbt
    go_enter Tryz.func80, Tryz.ntmps80
    go_wp2_with (first | (refine wpList_build_shown1 rfl (.tmp 32) rfl ⟨lo, up, false⟩ rfl ?_; rw [HW.out]))
    go_ret
    exact ⟨_, _, _, rfl, HO.out, HBW.out⟩
  ·have hbt : b = false := HB.out.symm
   subst hbt
   go_enter Tryz.func80, Tryz.ntmps80
   go_wp2_with (first | (refine wpList_build_shown1 rfl (.tmp 32) rfl ⟨lo, up, false⟩ rfl ?_; rw [HW.out]))
   go_ret
   exact ⟨_, _, _, rfl, HO.out, HBW.out⟩
 ·cases b2
  ·cases b3
   ·cases b4
    ·have := HC.out; cases this
    ·have hbt : b = false := HB.out.symm
     subst hbt
     go_enter Tryz.func80, Tryz.ntmps80
     go_wp2_with (first | (refine wpList_build_shown1 rfl (.tmp 32) rfl ⟨lo, up, false⟩ rfl ?_; rw [HW.out]))
     go_ret
     exact ⟨_, _, _, rfl, HO.out, HBW.out⟩
   ·have hbt : b = false := HB.out.symm
    subst hbt
    go_enter Tryz.func80, Tryz.ntmps80
    go_wp2_with (first | (refine wpList_build_shown1 rfl (.tmp 32) rfl ⟨lo, up, false⟩ rfl ?_; rw [HW.out]))
    go_ret
    exact ⟨_, _, _, rfl, HO.out, HBW.out⟩
  ·have hbt : b = true := HB.out.symm
   subst hbt
   go_enter Tryz.func80, Tryz.ntmps80
   go_wp2_with (first | (refine wpList_build_shown1 rfl (.tmp 20) rfl ⟨lo, up, true⟩ rfl ?_; rw [HW.out]))
   go_ret
   exact ⟨_, _, _, rfl, HO.out, HBW.out⟩
theorem rparts_cut (f t lo up mid : Nat) (hft : f < t) (ht : t ≤ 4096) (hlt : lo < up) (hc : (insB f t lo up || outB f t lo up) = false) (hm : Hid (lo + half (up - lo) = mid)) (hm1 : lo < mid) (hm2 : mid < up) (ih1 : RPts f t lo mid) (ih2 : RPts f t mid up) : RPts f t lo up := by
 intro hhi w
 rw [parts_cut hlt hft hc, hm.out]
 have HL1 := hid (parts_length hft lo mid hm1)
 have HL2 := hid (parts_length hft mid up hm2)
 obtain ⟨dn, HDN⟩ : ∃ k, Hid (up - lo = k) := ⟨_, hid rfl⟩
 obtain ⟨hf, HHF⟩ : ∃ k, Hid (half dn = k) := ⟨_, hid rfl⟩
 have hmm : lo + hf = mid := by rw [← HHF.out, ← HDN.out]; exact hm.out
 have w1 : IntKind.i64.wrap ((up : Int) - (lo : Int)) = (dn : Int) := by have := HDN.out; rw [IntWalk.i64_in _ (by omega)]; omega
 have w2 : IntKind.i64.wrap ((lo : Int) + (hf : Int)) = (mid : Int) := by rw [IntWalk.i64_in _ (by omega)]; omega
 have hdn : dn ≤ 1000000 := by have := HDN.out; omega
 have q1 := ih1 (by omega)
 have q2 := ih2 hhi
 have HQ1 := hid q1
 have HQ2 := hid q2
 have HLN : Hid (mid ≤ 4096 ∧ up ≤ 4096) := hid ⟨by omega, hhi⟩
 obtain ⟨b1, e1⟩ : ∃ b, decide (f ≤ lo) = b := ⟨_, rfl⟩
 obtain ⟨b2, e2⟩ : ∃ b, decide (up ≤ t) = b := ⟨_, rfl⟩
 obtain ⟨b3, e3⟩ : ∃ b, decide (up ≤ f) = b := ⟨_, rfl⟩
 obtain ⟨b4, e4⟩ : ∃ b, decide (t ≤ lo) = b := ⟨_, rfl⟩
 have d1 : decide ((f : Int) ≤ (lo : Int)) = b1 := by rw [← e1]; simp
 have d2 : decide ((up : Int) ≤ (t : Int)) = b2 := by rw [← e2]; simp
 have d3 : decide ((up : Int) ≤ (f : Int)) = b3 := by rw [← e3]; simp
 have d4 : decide ((t : Int) ≤ (lo : Int)) = b4 := by rw [← e4]; simp
 have HC := hid hc
 unfold insB outB at HC
 rw [e1, e2, e3, e4] at HC
 clear q1 q2 ih1 ih2 hc hm1 hm2 hlt hhi hmm hft ht
 have h3 : b3 = false := by cases b3 with
  | false => rfl
  | true => have := HC.out; simp at this
 have h4 : b4 = false := by cases b4 with
  | false => rfl
  | true => have := HC.out; simp at this
 subst h3 h4
 obtain ⟨mm, hmm⟩ : ∃ q, q = mid := ⟨_, rfl⟩
 cases b1
 rotate_left
 ·cases b2
  rotate_left
  ·have := HC.out; simp at this
  go_enter Tryz.func80, Tryz.ntmps80
  go_wp2_with fail
  refine (rhalf43_any dn _ hdn).mono ?_
  rintro e w2 ⟨rfl, rfl⟩
  rw [HHF.out]
  go_wp2_with fail
  refine (HQ1.out _).mono ?_
  rintro e w3 ⟨A1, n1, c1, rfl, ho1, hb1⟩
  have HO1 := hid ho1
  have HB1 := hid hb1
  clear ho1 hb1
  go_wp2_with fail
  refine (HQ2.out _).mono ?_
  rintro e w4 ⟨A2, n2, c2, rfl, ho2, hb2⟩
  obtain ⟨A3, n3, c3, e3, hi3⟩ := ho2.slice
  cases e3
  have HI := hid hi3
  have HO2 := hid (HO1.out.below hb2)
  have HB2 := hid (HB1.out.trans (hb2.mono HB1.out.size))
  have HN : Hid (n2 ≤ 100000 ∧ (parts f t lo mid).length ≤ 100000) := hid ⟨by rw [← hi3.len]; have := HL2.out; have := HLN.out; omega, by have := HL1.out; have := HLN.out; omega⟩
  clear ho2 hb2 hi3
  go_wp2_with (first | (refine wpList_append_shown rfl (.tmp 44) (.tmp 49) rfl w.heap.size _ _ _ A2 n2 c2 rfl HO2 rfl HI HN.out.2 HN.out.1 HB2.out.size ?_; intro v2 w5 HO3 HG HV; obtain ⟨A4, n4, c4, rfl⟩ := HO3.out.form))
  go_ret
  exact ⟨_, _, _, rfl, HO3.out, HB2.out.grown HG.out HB2.out.size (fun k e => (HO2.out.block k e).1)⟩
 go_enter Tryz.func80, Tryz.ntmps80
 go_wp2_with fail
 refine (rhalf43_any dn _ hdn).mono ?_
 rintro e w2 ⟨rfl, rfl⟩
 rw [HHF.out]
 go_wp2_with fail
 refine (HQ1.out _).mono ?_
 rintro e w3 ⟨A1, n1, c1, rfl, ho1, hb1⟩
 have HO1 := hid ho1
 have HB1 := hid hb1
 clear ho1 hb1
 go_wp2_with fail
 refine (HQ2.out _).mono ?_
 rintro e w4 ⟨A2, n2, c2, rfl, ho2, hb2⟩
 obtain ⟨A3, n3, c3, e3, hi3⟩ := ho2.slice
 cases e3
 have HI := hid hi3
 have HO2 := hid (HO1.out.below hb2)
 have HB2 := hid (HB1.out.trans (hb2.mono HB1.out.size))
 have HN : Hid (n2 ≤ 100000 ∧ (parts f t lo mid).length ≤ 100000) := hid ⟨by rw [← hi3.len]; have := HL2.out; have := HLN.out; omega, by have := HL1.out; have := HLN.out; omega⟩
 clear ho2 hb2 hi3
 go_wp2_with (first | (refine wpList_append_shown rfl (.tmp 44) (.tmp 49) rfl w.heap.size _ _ _ A2 n2 c2 rfl HO2 rfl HI HN.out.2 HN.out.1 HB2.out.size ?_; intro v2 w5 HO3 HG HV; obtain ⟨A4, n4, c4, rfl⟩ := HO3.out.form))
 go_ret
 exact ⟨_, _, _, rfl, HO3.out, HB2.out.grown HG.out HB2.out.size (fun k e => (HO2.out.block k e).1)⟩
theorem rparts_any (f t : Nat) (hft : f < t) (ht : t ≤ 4096) (lo hi : Nat) (h : lo < hi) : RPts f t lo hi :=
 parts_ind hft (M := RPts f t) (fun lo hi hlt hc => rparts_leaf f t lo hi hft ht hlt hc) (fun lo hi hlt hc h1 h2 ih1 ih2 => rparts_cut f t lo hi _ hft ht hlt hc (hid rfl) (by omega) (by omega) ih1 ih2) (hi - lo) lo hi h (Nat.le_refl _)
theorem rror_bits (x n : Nat) (hx : x < 4294967296) (h1 : 1 ≤ n) (h2 : n ≤ 31) : bits .or .u32 ((x : Int) / 2 ^ n) (IntKind.u32.wrap ((x : Int) * 2 ^ (32 - n))) = (ror x n : Nat) := by
 have e1 : IntKind.u32.wrap ((x : Int) * 2 ^ (32 - n)) = ((x * 2 ^ (32 - n) % 4294967296 : Nat) : Int) := by rw [IntKind.wrap_u32']; rfl
 have e2 : ((x : Int) / 2 ^ n) = ((x / 2 ^ n : Nat) : Int) := rfl
 rw [e1, e2, u32_or_nat _ _ (div_lt _ hx) (Nat.mod_lt _ (by decide))]; rfl
theorem rror_any (x n : Nat) (w : World) (hx : x < 4294967296) (h1 : 1 ≤ n) (h2 : n ≤ 31) :
  Calls Tryz.prog 171 #[.int .u32 x, .int .i64 n] w fun e w' => e = .returned (.int .u32 (ror x n : Nat)) ∧ w.drew = w' := by
 obtain ⟨m, hm⟩ : ∃ m, n + m = 32 := ⟨32 - n, by omega⟩
 have hm1 : m ≤ 31 := by omega
 have e32 : IntKind.i64.wrap (32 - (n : Int)) = (m : Int) := by rw [IntWalk.i64_in _ (by omega)]; omega
 have R := hid (rror_bits x n hx h1 h2)
 have HM := hid hm
 clear hm
 go_enter Tryz.func171, Tryz.ntmps171
 go_wp2_with fail
 refine wp_region_still_lit (by kernel_rfl) (by kernel_rfl) ?_
 repeat still_step
 refine wpStill_nil ?_
 change Exit.then _ _ _ _ w.drew
 go_wp2_with fail
 go_ret
 refine ⟨?_, rfl⟩
 rw [← R.out, show 32 - n = m by have := HM.out; omega]; rfl
theorem or_low (a b k : Nat) (hb : b < 2 ^ k) : a * 2 ^ k ||| b = a * 2 ^ k + b := by
 rw [Nat.mul_comm, ← Nat.two_pow_add_eq_or_of_lt hb]
theorem rword_bits (a b c d : Nat) (ha : a < 256) (hb : b < 256) (hc : c < 256) (hd : d < 256) :
  bits .or .u32 (bits .or .u32 (bits .or .u32 (IntKind.u32.wrap ((a : Int) * 16777216)) (IntKind.u32.wrap ((b : Int) * 65536))) (IntKind.u32.wrap ((c : Int) * 256))) (d : Int) = ((((a * 256 + b) * 256 + c) * 256 + d : Nat) : Int) := by
 have e1 : IntKind.u32.wrap ((a : Int) * 16777216) = ((a * 16777216 : Nat) : Int) := by rw [IntKind.wrap_u32']; omega
 have e2 : IntKind.u32.wrap ((b : Int) * 65536) = ((b * 65536 : Nat) : Int) := by rw [IntKind.wrap_u32']; omega
 have e3 : IntKind.u32.wrap ((c : Int) * 256) = ((c * 256 : Nat) : Int) := by rw [IntKind.wrap_u32']; omega
 rw [e1, e2, e3, u32_or_nat _ _ (by omega) (by omega)]
 have o1 : a * 16777216 ||| b * 65536 = a * 16777216 + b * 65536 := or_low a (b * 65536) 24 (by omega)
 rw [o1, u32_or_nat _ _ (by omega) (by omega)]
 have o2 : (a * 16777216 + b * 65536) ||| c * 256 = a * 16777216 + b * 65536 + c * 256 := by
  have := or_low (a * 256 + b) (c * 256) 16 (by omega)
  rw [show (a * 256 + b) * 2 ^ 16 = a * 16777216 + b * 65536 by omega] at this
  exact this
 rw [o2, u32_or_nat _ _ (by omega) (by omega)]
 have o3 : (a * 16777216 + b * 65536 + c * 256) ||| d = a * 16777216 + b * 65536 + c * 256 + d := by
  have := or_low ((a * 256 + b) * 256 + c) d 8 (by omega)
  rw [show ((a * 256 + b) * 256 + c) * 2 ^ 8 = a * 16777216 + b * 65536 + c * 256 by omega] at this
  exact this
 rw [o3]
 exact congrArg Nat.cast (show a * 16777216 + b * 65536 + c * 256 + d = ((a * 256 + b) * 256 + c) * 256 + d by omega)
theorem rword_any (g off c : Nat) (x0 x1 x2 x3 : Nat) (w : World) (h0 : x0 < 256) (h1 : x1 < 256) (h2 : x2 < 256) (h3 : x3 < 256)
  (c0 : w.cell? ⟨g, off, none⟩ = some (.int .u8 x0)) (c1 : w.cell? ⟨g, off + 1, none⟩ = some (.int .u8 x1)) (c2 : w.cell? ⟨g, off + 2, none⟩ = some (.int .u8 x2)) (c3 : w.cell? ⟨g, off + 3, none⟩ = some (.int .u8 x3)) :
  Calls Tryz.prog 170 #[.slice (some ⟨g, off, none⟩) 4 c] w fun e w' => e = .returned (.int .u32 (((x0 * 256 + x1) * 256 + x2) * 256 + x3 : Nat)) ∧ w.drew = w' := by
 have R := hid (rword_bits x0 x1 x2 x3 h0 h1 h2 h3)
 have u0 : IntKind.u32.wrap (x0 : Int) = x0 := by rw [IntKind.wrap_u32']; omega
 have u1 : IntKind.u32.wrap (x1 : Int) = x1 := by rw [IntKind.wrap_u32']; omega
 have u2 : IntKind.u32.wrap (x2 : Int) = x2 := by rw [IntKind.wrap_u32']; omega
 have u3 : IntKind.u32.wrap (x3 : Int) = x3 := by rw [IntKind.wrap_u32']; omega
 go_enter Tryz.func170, Tryz.ntmps170
 go_wp2_with fail
 refine wp_region_still_lit (by kernel_rfl) (by kernel_rfl) ?_
 change wpStill _ _ w.drew (fun a' => Exit.then _ _ _ a' w.drew) _ _
 have c0' : w.drew.cell? ⟨g, off, none⟩ = some (.int .u8 x0) := c0
 have c1' : w.drew.cell? ⟨g, off + 1, none⟩ = some (.int .u8 x1) := c1
 have c2' : w.drew.cell? ⟨g, off + 2, none⟩ = some (.int .u8 x2) := c2
 have c3' : w.drew.cell? ⟨g, off + 3, none⟩ = some (.int .u8 x3) := c3
 generalize hw : w.drew = w1 at *
 have HW := hid hw
 clear hw c0 c1 c2 c3
 repeat still_step
 refine wpStill_nil ?_
 go_wp2_with fail
 go_ret
 refine ⟨?_, HW.out⟩
 rw [← R.out]; rfl
/-- the table K as a value -/
def ksV : Array Value := (ks.map fun x => Value.int .u32 (x : Nat)).toArray
set_option maxRecDepth 100000 in
theorem numbers_any (w : World) : Calls Tryz.prog 172 #[] w fun e w' => e = .returned (.agg ksV) ∧ Below w.heap.size w w' := by
 go_enter Tryz.func172, Tryz.ntmps172
 go_wp2_with (refine wpList_store_row rfl 205 (.tmp 0) (.tmp 1) rfl w.heap.size ksV rfl rfl 205 _ (heap_alloc_new w _) (by kernel_rfl) rfl (by decide +kernel) ?_)
 refine bodyPost_ret (results_cell_row rfl _ _ w.heap.size 205 ksV (0, 0) _ rfl (laid_row w _ ksV 205).2.2 Tryz.underlying205 rfl (by kernel_rfl)) rfl ?_
 exact ⟨rfl, (laid_row w _ ksV 205).1⟩
end Go.Proofs.YtmfmgeapecapiaaGreatDoor
