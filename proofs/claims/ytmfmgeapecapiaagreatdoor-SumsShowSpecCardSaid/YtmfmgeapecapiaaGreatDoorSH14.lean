/- sizarlaw43.sane. sizarref42: in, IsLine, IsClaim, LineNo, ClaimNo. sizarref42.Check, refused by one of the first tests. Guarded loads and comparisons in a region: the operation is known first, then that it is wanted. -/
import Derived.Test.YtmfmgeapecapiaaGreatDoorSH13
import Derived.Test.YtmfmgeapecapiaaGreatDoorSH11
import Derived.Test.YtmfmgeapecapiaaGreatDoorSH6
import Derived.Test.YtmfmgeapecapiaaGreatDoorSH7
import Derived.Deep.MidRow
set_option maxHeartbeats 64000001
open Go.Lib (hid)
namespace Go.Proofs.YtmfmgeapecapiaaGreatDoor
open Go.RowKit SzSha SzTree
set_option linter.unusedVariables false
set_option maxRecDepth 100000
def sS43 (zp zq zr g2 o2 c1 c2 c4 c5 : Nat) (A1 A4 A5 : Option Addr) (q : Nd) : Nat → Value → World → Prop
 | 0, fv, _ => fv = .int .i64 (6)
 | 1, fv, _ => fv = .bool true
 | 2, fv, _ => fv = .bool true
 | 3, fv, _ => fv = .int .i64 (42)
 | 4, fv, _ => fv = .bool true
 | 5, fv, _ => fv = .bool true
 | 6, fv, _ => fv = .bool true
 | 7, fv, _ => fv = raV ⟨7, 1⟩
 | 8, fv, _ => fv = raV ⟨7, 1⟩
 | 9, fv, _ => fv = .bool true
 | 10, fv, _ => fv = .bool true
 | 11, fv, _ => fv = .bool true
 | 12, fv, _ => fv = .pointer (some ⟨zp, 2, none⟩)
 | 13, fv, _ => fv = .slice A1 2 c1
 | 14, fv, _ => fv = .int .i64 (2)
 | 15, fv, _ => fv = .bool true
 | 16, fv, _ => fv = .bool true
 | 17, fv, _ => fv = .bool true
 | 18, fv, _ => fv = .pointer (some ⟨zq, 2, none⟩)
 | 19, fv, _ => fv = .slice (some ⟨g2, o2, none⟩) 1 c2
 | 20, fv, _ => fv = .int .i64 (1)
 | 21, fv, _ => fv = .bool true
 | 22, fv, _ => fv = .bool true
 | 23, fv, _ => fv = .bool true
 | 24, fv, _ => fv = .pointer (some ⟨zq, 2, none⟩)
 | 25, fv, _ => fv = .slice (some ⟨g2, o2, none⟩) 1 c2
 | 26, fv, _ => fv = .pointer (some ⟨g2, o2, none⟩)
 | 27, fv, _ => fv = ndV q
 | 28, fv, _ => fv = .pointer (some ⟨zr, 6, none⟩)
 | 29, fv, _ => fv = ndV q
 | 30, fv, _ => fv = .bool true
 | 31, fv, _ => fv = .bool true
 | 32, fv, _ => fv = .bool true
 | 33, fv, _ => fv = .slice A4 1 c4
 | 34, fv, _ => fv = spnV ⟨0, 5⟩
 | 35, fv, fw => ∃ A c, fv = .slice A 1 c ∧ InS fw A 1 c [⟨0, 5, true⟩]
 | 36, fv, _ => fv = .bool true
 | 37, fv, _ => fv = .bool true
 | 38, fv, _ => fv = .bool true
 | 39, fv, _ => fv = .slice A5 2 c5
 | 40, fv, _ => fv = spnV ⟨2, 4⟩
 | 41, fv, _ => fv = spnV ⟨4, 6⟩
 | 42, fv, fw => ∃ A c, fv = .slice A 2 c ∧ InS fw A 2 c [⟨2, 4, true⟩, ⟨4, 6, true⟩]
 | 43, fv, _ => fv = .bool true
 | 44, fv, _ => fv = .bool true
 | 45, fv, _ => fv = .bool true
 | _, _, _ => True
theorem sS43_below {zp zq zr g2 o2 c1 c2 c4 c5 : Nat} {A1 A4 A5 : Option Addr} {q : Nd} {w w' : World} (hb : Below w.heap.size w w') : ∀ j v, sS43 zp zq zr g2 o2 c1 c2 c4 c5 A1 A4 A5 q j v w → sS43 zp zq zr g2 o2 c1 c2 c4 c5 A1 A4 A5 q j v w'
 | 0, v, h => h
 | 1, v, h => h
 | 2, v, h => h
 | 3, v, h => h
 | 4, v, h => h
 | 5, v, h => h
 | 6, v, h => h
 | 7, v, h => h
 | 8, v, h => h
 | 9, v, h => h
 | 10, v, h => h
 | 11, v, h => h
 | 12, v, h => h
 | 13, v, h => h
 | 14, v, h => h
 | 15, v, h => h
 | 16, v, h => h
 | 17, v, h => h
 | 18, v, h => h
 | 19, v, h => h
 | 20, v, h => h
 | 21, v, h => h
 | 22, v, h => h
 | 23, v, h => h
 | 24, v, h => h
 | 25, v, h => h
 | 26, v, h => h
 | 27, v, h => h
 | 28, v, h => h
 | 29, v, h => h
 | 30, v, h => h
 | 31, v, h => h
 | 32, v, h => h
 | 33, v, h => h
 | 34, v, h => h
 | 35, v, ⟨A, c, h1, h2⟩ => ⟨A, c, h1, h2.below hb⟩
 | 36, v, h => h
 | 37, v, h => h
 | 38, v, h => h
 | 39, v, h => h
 | 40, v, h => h
 | 41, v, h => h
 | 42, v, ⟨A, c, h1, h2⟩ => ⟨A, c, h1, h2.below hb⟩
 | 43, v, h => h
 | 44, v, h => h
 | 45, v, h => h
 | n + 46, v, h => trivial
theorem inS_new (w : World) (ls : List Pt) : InS (w.alloc (.cells (flatS ls).toArray 119)) (some ⟨w.heap.size, 0, none⟩) ls.length ls.length ls :=
 ⟨rfl, Nat.le_refl _, (fun e => by cases e), fun _ => ⟨_, 0, rfl, by simp, range_row (heap_alloc_new w _)⟩⟩
theorem fill_spans (ls : List Pt) {i : TypeInfo} {z : Value} (hs : i.size = 2) (hl : ls.length ≤ 100000) : Instr.fill (fun j => some (j * i.size, i.size)) ((Array.range (ls.length * i.size)).map (z.cells[· % z.cells.size]!)) ((ls.map fun x => Value.agg (spC x).toArray).zipIdx.map fun x => (x.2, x.1)) = some (flatS ls).toArray := by
 rw [hs, Great.fill_whole (by omega) (ls.map fun x => Value.agg (spC x).toArray) _ (fun v hv => by
  obtain ⟨x, _, rfl⟩ := List.mem_map.1 hv
  rfl) (by simp)]
 congr 1
 unfold flatS
 rw [List.flatMap_map]
 rfl
theorem wpList_build_span1 {w : World} {ops : Array Oper} {rest : List Oper} {o : Oper} {a : Act} {Q : Exit → Act → World → Prop} (hg : o.guard = none) (x : Operand)
  (ho : o.op = .buildSlice 114 1 #[(0, x)]) (n : Pt) (hx : a.eval x = spnV (ptS n))
  (h : wpList Tryz.prog ops Q rest (a.put o.dst (.slice (some ⟨w.heap.size, 0, none⟩) 1 1)) (w.alloc (.cells (flatS [n]).toArray 119))) : wpList Tryz.prog ops Q (o :: rest) a w := by
 obtain ⟨i0, hi, hz, hs, _⟩ := info_span
 refine wpList_buildSlice hg 114 119 1 _ ho _ i0 _ Tryz.underlying114 hi hz (by rw [hs]; omega) (by rw [hs]; omega) ?_ h
 have e1 : (#[(0, x)].map fun (i, x) => (i, a.eval x)).toList = [(0, spnV (ptS n))] := by simp [hx]
 rw [e1]; exact fill_spans [n] hs (by simp)
theorem wpList_build_span2 {w : World} {ops : Array Oper} {rest : List Oper} {o : Oper} {a : Act} {Q : Exit → Act → World → Prop} (hg : o.guard = none) (x y : Operand)
  (ho : o.op = .buildSlice 114 2 #[(0, x), (1, y)]) (n m : Pt) (hx : a.eval x = spnV (ptS n)) (hy : a.eval y = spnV (ptS m))
  (h : wpList Tryz.prog ops Q rest (a.put o.dst (.slice (some ⟨w.heap.size, 0, none⟩) 2 2)) (w.alloc (.cells (flatS [n, m]).toArray 119))) : wpList Tryz.prog ops Q (o :: rest) a w := by
 obtain ⟨i0, hi, hz, hs, _⟩ := info_span
 refine wpList_buildSlice hg 114 119 2 _ ho _ i0 _ Tryz.underlying114 hi hz (by rw [hs]; omega) (by rw [hs]; omega) ?_ h
 have e1 : (#[(0, x), (1, y)].map fun (i, x) => (i, a.eval x)).toList = [(0, spnV (ptS n)), (1, spnV (ptS m))] := by simp [hx, hy]
 rw [e1]; exact fill_spans [n, m] hs (by simp)
theorem sane43 (w : World) (hT : Hid (Tabs w)) :
  Calls Tryz.prog 30 #[] w fun e w' => e = .returned (.bool true) ∧ Below w.heap.size w w' := by
 go_enter Tryz.func30, Tryz.ntmps30
 go_wp2_with fail
 refine (sample_any w hT).mono ?_
 rintro e U1 ⟨b, rfl, hok, hq⟩
 obtain ⟨q, HQ⟩ : ∃ q, Hid (rootR (nds43 sT) = q) := ⟨_, hid rfl⟩
 have HQO : Hid (NdOk q) := hid (by rw [← HQ.out]; exact rootR_ok nds43_ok)
 obtain ⟨R, HRR⟩ : ∃ r, Hid (sR = r) := ⟨_, hid rfl⟩
 have HRK : Hid (RtOk R) := hid (by rw [← HRR.out]; exact sR_ok)
 have HRL : Hid (R.lin = 3) := hid (by rw [← HRR.out]; rfl)
 have HRT : Hid (R.tree = q) := hid (by rw [← HRR.out, ← HQ.out]; rfl)
 obtain ⟨L2, HL2⟩ : ∃ l, Hid (shN sT 0 2 = l) := ⟨_, hid rfl⟩
 have HLN : Hid (L2.length = 2) := hid (by rw [← HL2.out]; exact sh43_02.2.2)
 have HVF : Hid (vfS R.lin R.tree 0 2 L2 = (6, 42, 0)) := hid (by rw [HRL.out, HRT.out, ← HL2.out, ← HQ.out]; exact vf43_02)
 have HL3 : Hid (shN sT 0 3 = [q]) := hid (by rw [← HQ.out]; exact sh43_03.2.2)
 rw [HRR.out]
 have HB1 := hid hq
 have KO1 := hid hok
 have KT1 := hid (hT.out.below hq)
 clear hok hq
 have HIT : Hid ((Tryz.prog.info? 27).map (·.size) = some (trC sT (sTp b)).toArray.size) := hid (trV_info sT _ rfl)
 have HST : Hid (38 = (trC sT (sTp b)).toArray.size) := hid (sT_size b).symm
 have HIR := hid (rtC_info HRK.out)
 have HSR : Hid ((Tryz.zeroCells43).size = (rtC R).toArray.size) := hid (by rw [← HRR.out, sR_size]; kernel_rfl)
 rw [show trV sT (sTp b) = .agg (trC sT (sTp b)).toArray from rfl]
 have ra0 := (Below.heap_alloc (U1.alloc (.cells #[.int .i64 0, .int .i64 0, .int .i64 0, .int .i64 0, .slice none 0 0, .slice none 0 0, .int .u8 0, .int .u8 0, .int .u8 0, .int .u8 0, .int .u8 0, .int .u8 0, .int .u8 0, .int .u8 0, .int .u8 0, .int .u8 0, .int .u8 0, .int .u8 0, .int .u8 0, .int .u8 0, .int .u8 0, .int .u8 0, .int .u8 0, .int .u8 0, .int .u8 0, .int .u8 0, .int .u8 0, .int .u8 0, .int .u8 0, .int .u8 0, .int .u8 0, .int .u8 0, .int .u8 0, .int .u8 0, .int .u8 0, .int .u8 0, .int .u8 0, .int .u8 0] 27)) (.cells Tryz.zeroCells43 43) U1.heap.size (by simp)).trans (heap_alloc_new U1 (.cells #[.int .i64 0, .int .i64 0, .int .i64 0, .int .i64 0, .slice none 0 0, .slice none 0 0, .int .u8 0, .int .u8 0, .int .u8 0, .int .u8 0, .int .u8 0, .int .u8 0, .int .u8 0, .int .u8 0, .int .u8 0, .int .u8 0, .int .u8 0, .int .u8 0, .int .u8 0, .int .u8 0, .int .u8 0, .int .u8 0, .int .u8 0, .int .u8 0, .int .u8 0, .int .u8 0, .int .u8 0, .int .u8 0, .int .u8 0, .int .u8 0, .int .u8 0, .int .u8 0, .int .u8 0, .int .u8 0, .int .u8 0, .int .u8 0, .int .u8 0, .int .u8 0] 27))
 have rb0 := heap_alloc_new (U1.alloc (.cells #[.int .i64 0, .int .i64 0, .int .i64 0, .int .i64 0, .slice none 0 0, .slice none 0 0, .int .u8 0, .int .u8 0, .int .u8 0, .int .u8 0, .int .u8 0, .int .u8 0, .int .u8 0, .int .u8 0, .int .u8 0, .int .u8 0, .int .u8 0, .int .u8 0, .int .u8 0, .int .u8 0, .int .u8 0, .int .u8 0, .int .u8 0, .int .u8 0, .int .u8 0, .int .u8 0, .int .u8 0, .int .u8 0, .int .u8 0, .int .u8 0, .int .u8 0, .int .u8 0, .int .u8 0, .int .u8 0, .int .u8 0, .int .u8 0, .int .u8 0, .int .u8 0] 27)) (.cells Tryz.zeroCells43 43)
 rw [World.size_alloc] at rb0
 have hb0 := ((Below.refl _ U1).alloc (Nat.le_refl _) (.cells #[.int .i64 0, .int .i64 0, .int .i64 0, .int .i64 0, .slice none 0 0, .slice none 0 0, .int .u8 0, .int .u8 0, .int .u8 0, .int .u8 0, .int .u8 0, .int .u8 0, .int .u8 0, .int .u8 0, .int .u8 0, .int .u8 0, .int .u8 0, .int .u8 0, .int .u8 0, .int .u8 0, .int .u8 0, .int .u8 0, .int .u8 0, .int .u8 0, .int .u8 0, .int .u8 0, .int .u8 0, .int .u8 0, .int .u8 0, .int .u8 0, .int .u8 0, .int .u8 0, .int .u8 0, .int .u8 0, .int .u8 0, .int .u8 0, .int .u8 0, .int .u8 0] 27)).alloc (by simp) (.cells Tryz.zeroCells43 43)
 obtain ⟨X2a, HX2a⟩ : ∃ V, Hid (((U1.alloc (.cells #[.int .i64 0, .int .i64 0, .int .i64 0, .int .i64 0, .slice none 0 0, .slice none 0 0, .int .u8 0, .int .u8 0, .int .u8 0, .int .u8 0, .int .u8 0, .int .u8 0, .int .u8 0, .int .u8 0, .int .u8 0, .int .u8 0, .int .u8 0, .int .u8 0, .int .u8 0, .int .u8 0, .int .u8 0, .int .u8 0, .int .u8 0, .int .u8 0, .int .u8 0, .int .u8 0, .int .u8 0, .int .u8 0, .int .u8 0, .int .u8 0, .int .u8 0, .int .u8 0, .int .u8 0, .int .u8 0, .int .u8 0, .int .u8 0, .int .u8 0, .int .u8 0] 27)).alloc (.cells Tryz.zeroCells43 43)) = V) := ⟨_, hid rfl⟩
 rw [HX2a.out] at ra0 rb0 hb0
 have ra := hid ra0
 have rb1 := (setRow_other X2a U1.heap.size (U1.heap.size + 1) (trC sT (sTp b)).toArray (by omega)).trans rb0
 have ra1 := setRow_heap X2a U1.heap.size _ (trC sT (sTp b)).toArray _ _ ra0
 have hb1 := below_setRow hb0 (Nat.le_refl _) (trC sT (sTp b)).toArray
 obtain ⟨X2b, HX2b⟩ : ∃ V, Hid (X2a.setRow U1.heap.size (trC sT (sTp b)).toArray = V) := ⟨_, hid rfl⟩
 rw [HX2b.out] at ra1 rb1 hb1
 have rb := hid rb1
 have ra2 := (setRow_other X2b (U1.heap.size + 1) U1.heap.size (rtC R).toArray (by omega)).trans ra1
 have rb2 := setRow_heap X2b (U1.heap.size + 1) _ (rtC R).toArray _ _ rb1
 have hb := below_setRow hb1 (g := (U1.heap.size + 1)) (by omega) (rtC R).toArray
 obtain ⟨V2, HV2⟩ : ∃ V, Hid (X2b.setRow (U1.heap.size + 1) (rtC R).toArray = V) := ⟨_, hid rfl⟩
 rw [HV2.out] at ra2 rb2 hb
 clear ra0 rb0 hb0 ra1 rb1 hb1
 have HB3 := hid (HB1.out.trans (hb.mono HB1.out.size))
 have KO3 := hid (KO1.out.below hb)
 have KT3 := hid (KT1.out.below hb)
 have RT2 := hid ra2
 have RR2 := hid rb2
 clear ra2 rb2 hb HB1 KO1 KT1
 go_wp2_with (first | (rw [HX2a.out]) | (refine wpList_store_row rfl 27 (.tmp 1) (.tmp 25) rfl U1.heap.size (trC sT (sTp b)).toArray rfl rfl 27 _ ra.out HIT.out HST.out (trC_one _ _) ?_; rw [HX2b.out]) | (refine wpList_store_row rfl 43 (.tmp 2) (.tmp 26) rfl (U1.heap.size + 1) (rtC R).toArray rfl rfl 43 _ rb.out HIR.out HSR.out (rtC_one _) ?_; rw [HV2.out]) | (refine wpList_load_row rfl 27 (.tmp 1) rfl (U1.heap.size) rfl 27 _ (0, 0) _ RT2.out Tryz.underlying27 rfl HIT.out ?_))
 clear ra rb
 rw [show Value.agg (trC sT (sTp b)).toArray = trV sT (sTp b) from rfl]
 refine (show43 sT (sTp b) 0 2 _ KO3 KT3).mono ?_
 rintro e U4 ⟨A1, n1, c1, rfl, hin, hq⟩
 rw [sh43_02.1, sh43_02.2.1, if_pos rfl, if_pos rfl]
 rw [HL2.out] at hin
 have KP1 := hid hin
 have hn1 : n1 = 2 := by rw [← hin.len]; exact HLN.out
 clear hin
 have HB5 := hid (HB3.out.trans (hq.mono HB3.out.size))
 have RT5 := hid (row_kept RT2.out hq)
 have RR5 := hid (row_kept RR2.out hq)
 have KO5 := hid (KO3.out.below hq)
 have KT5 := hid (KT3.out.below hq)
 clear hq HB3 RT2 RR2 KO3 KT3
 subst hn1
 obtain ⟨V6, HV6⟩ : ∃ V, Hid (U4.alloc (.cells #[.int .i64 0, .int .i64 2, .slice A1 2 c1] 66) = V) := ⟨_, hid rfl⟩
 have hw := heap_alloc_new U4 (.cells #[.int .i64 0, .int .i64 2, .slice A1 2 c1] 66)
 have hb := (Below.refl _ U4).alloc (Nat.le_refl _) (.cells #[.int .i64 0, .int .i64 2, .slice A1 2 c1] 66)
 rw [HV6.out] at hw hb
 have HB7 := hid (HB5.out.trans (hb.mono HB5.out.size))
 have RT7 := hid (row_kept RT5.out hb)
 have RR7 := hid (row_kept RR5.out hb)
 have KO7 := hid (KO5.out.below hb)
 have KT7 := hid (KT5.out.below hb)
 have KP7 := hid (KP1.out.below hb)
 have RP6 := hid hw
 clear hw hb HB5 RT5 RR5 KO5 KT5 KP1
 have p0 := cell_of_row _ _ 0 _ _ _ RP6.out
 have p1 := cell_of_row _ _ 1 _ _ _ RP6.out
 have p2 := cell_of_row _ _ 2 _ _ _ RP6.out
 go_wp2_with (first | (rw [HV6.out]) | (refine wpList_load_row rfl 43 (.tmp 2) rfl ((U1.heap.size + 1)) rfl 43 _ (0, 0) _ RR7.out Tryz.underlying43 rfl HIR.out ?_))
 refine (verify43 R 0 2 _ _ _ L2 _ HRK KP7 KT7 (by rw [HLN.out]; omega)).mono ?_
 rintro e U8 ⟨rfl, hq⟩
 rw [HVF.out]
 clear p0 p1 p2
 have HB9 := hid (HB7.out.trans (hq.mono HB7.out.size))
 have RT9 := hid (row_kept RT7.out hq)
 have RR9 := hid (row_kept RR7.out hq)
 have RP9 := hid (row_kept RP6.out hq)
 have KO9 := hid (KO7.out.below hq)
 have KT9 := hid (KT7.out.below hq)
 have KP9 := hid (KP7.out.below hq)
 clear hq HB7 RT7 RR7 RP6 KO7 KT7 KP7
 have p0 := cell_of_row _ _ 0 _ _ _ RP9.out
 have p1 := cell_of_row _ _ 1 _ _ _ RP9.out
 have p2 := cell_of_row _ _ 2 _ _ _ RP9.out
 go_wp2_with (refine wpList_load_row rfl 43 (.tmp 2) rfl ((U1.heap.size + 1)) rfl 43 _ (0, 0) _ RR9.out Tryz.underlying43 rfl HIR.out ?_)
 refine (mean43 R 0 2 _ _ _ L2 _ HRK KP9 KT9 (by rw [HLN.out]; omega)).mono ?_
 rintro e U10 ⟨rfl, hq⟩
 rw [HVF.out, mn43_02]
 clear p0 p1 p2
 have HB11 := hid (HB9.out.trans (hq.mono HB9.out.size))
 have RT11 := hid (row_kept RT9.out hq)
 have RR11 := hid (row_kept RR9.out hq)
 have RP11 := hid (row_kept RP9.out hq)
 have KO11 := hid (KO9.out.below hq)
 have KT11 := hid (KT9.out.below hq)
 have KP11 := hid (KP9.out.below hq)
 clear hq HB9 RT9 RR9 RP9 KO9 KT9 KP9
 obtain ⟨V12, HV12⟩ : ∃ V, Hid (U10.alloc (.cells #[.int .i64 7, .int .i64 1] 74) = V) := ⟨_, hid rfl⟩
 have hw := heap_alloc_new U10 (.cells #[.int .i64 7, .int .i64 1] 74)
 have hb := (Below.refl _ U10).alloc (Nat.le_refl _) (.cells #[.int .i64 7, .int .i64 1] 74)
 rw [HV12.out] at hw hb
 have HB13 := hid (HB11.out.trans (hb.mono HB11.out.size))
 have RT13 := hid (row_kept RT11.out hb)
 have RR13 := hid (row_kept RR11.out hb)
 have RP13 := hid (row_kept RP11.out hb)
 have KO13 := hid (KO11.out.below hb)
 have KT13 := hid (KT11.out.below hb)
 have KP13 := hid (KP11.out.below hb)
 have RM12 := hid hw
 clear hw hb HB11 RT11 RR11 RP11 KO11 KT11 KP11
 go_wp2_with (first | (rw [HV12.out]) | (refine wpList_load_row rfl 27 (.tmp 1) rfl (U1.heap.size) rfl 27 _ (0, 0) _ RT13.out Tryz.underlying27 rfl HIT.out ?_))
 rw [show Value.agg (trC sT (sTp b)).toArray = trV sT (sTp b) from rfl]
 refine (show43 sT (sTp b) 0 3 _ KO13 KT13).mono ?_
 rintro e U14 ⟨A2, n2, c2, rfl, hin, hq⟩
 rw [sh43_03.1, sh43_03.2.1, if_pos rfl, if_pos rfl]
 rw [HL3.out] at hin
 have KQ1 := hid hin
 have hn2 : n2 = 1 := hin.len.symm
 clear hin
 have HB15 := hid (HB13.out.trans (hq.mono HB13.out.size))
 have RT15 := hid (row_kept RT13.out hq)
 have RR15 := hid (row_kept RR13.out hq)
 have RP15 := hid (row_kept RP13.out hq)
 have RM15 := hid (row_kept RM12.out hq)
 have KO15 := hid (KO13.out.below hq)
 have KT15 := hid (KT13.out.below hq)
 have KP15 := hid (KP13.out.below hq)
 clear hq HB13 RT13 RR13 RP13 RM12 KO13 KT13 KP13
 subst hn2
 obtain ⟨V16, HV16⟩ : ∃ V, Hid (U14.alloc (.cells #[.int .i64 0, .int .i64 3, .slice A2 1 c2] 66) = V) := ⟨_, hid rfl⟩
 have hw := heap_alloc_new U14 (.cells #[.int .i64 0, .int .i64 3, .slice A2 1 c2] 66)
 have hb := (Below.refl _ U14).alloc (Nat.le_refl _) (.cells #[.int .i64 0, .int .i64 3, .slice A2 1 c2] 66)
 rw [HV16.out] at hw hb
 have HB17 := hid (HB15.out.trans (hb.mono HB15.out.size))
 have RT17 := hid (row_kept RT15.out hb)
 have RR17 := hid (row_kept RR15.out hb)
 have RP17 := hid (row_kept RP15.out hb)
 have RM17 := hid (row_kept RM15.out hb)
 have KO17 := hid (KO15.out.below hb)
 have KT17 := hid (KT15.out.below hb)
 have KP17 := hid (KP15.out.below hb)
 have KQ17 := hid (KQ1.out.below hb)
 have RQ16 := hid hw
 clear hw hb HB15 RT15 RR15 RP15 RM15 KO15 KT15 KP15 KQ1
 go_wp2_with (rw [HV16.out])
 refine (cover_no 0 0 5 _ (by omega)).mono ?_
 rintro e U18 ⟨rfl, hq⟩
 have HB19 := hid (HB17.out.trans (hq.mono HB17.out.size))
 have RT19 := hid (row_kept RT17.out hq)
 have RR19 := hid (row_kept RR17.out hq)
 have RP19 := hid (row_kept RP17.out hq)
 have RM19 := hid (row_kept RM17.out hq)
 have RQ19 := hid (row_kept RQ16.out hq)
 have KO19 := hid (KO17.out.below hq)
 have KT19 := hid (KT17.out.below hq)
 have KP19 := hid (KP17.out.below hq)
 have KQ19 := hid (KQ17.out.below hq)
 clear hq HB17 RT17 RR17 RP17 RM17 RQ16 KO17 KT17 KP17 KQ17
 go_wp2_with fail
 refine (cover_yes 0 5 5 _ (by omega) (by omega) (by omega)).mono ?_
 rintro e U20 ⟨A4, n4, c4, rfl, hin, hq⟩
 rw [cov43_a] at hin
 have KC1 := hid hin
 have hn4 : n4 = 1 := hin.len.symm
 clear hin
 have HB21 := hid (HB19.out.trans (hq.mono HB19.out.size))
 have RT21 := hid (row_kept RT19.out hq)
 have RR21 := hid (row_kept RR19.out hq)
 have RP21 := hid (row_kept RP19.out hq)
 have RM21 := hid (row_kept RM19.out hq)
 have RQ21 := hid (row_kept RQ19.out hq)
 have KO21 := hid (KO19.out.below hq)
 have KT21 := hid (KT19.out.below hq)
 have KP21 := hid (KP19.out.below hq)
 have KQ21 := hid (KQ19.out.below hq)
 clear hq HB19 RT19 RR19 RP19 RM19 RQ19 KO19 KT19 KP19 KQ19
 subst hn4
 go_wp2_with fail
 refine (cover_yes 2 6 6 _ (by omega) (by omega) (by omega)).mono ?_
 rintro e U22 ⟨A5, n5, c5, rfl, hin, hq⟩
 rw [cov43_b] at hin
 have KD1 := hid hin
 have hn5 : n5 = 2 := hin.len.symm
 clear hin
 have HB23 := hid (HB21.out.trans (hq.mono HB21.out.size))
 have RT23 := hid (row_kept RT21.out hq)
 have RR23 := hid (row_kept RR21.out hq)
 have RP23 := hid (row_kept RP21.out hq)
 have RM23 := hid (row_kept RM21.out hq)
 have RQ23 := hid (row_kept RQ21.out hq)
 have KO23 := hid (KO21.out.below hq)
 have KT23 := hid (KT21.out.below hq)
 have KP23 := hid (KP21.out.below hq)
 have KQ23 := hid (KQ21.out.below hq)
 have KC23 := hid (KC1.out.below hq)
 clear hq HB21 RT21 RR21 RP21 RM21 RQ21 KO21 KT21 KP21 KQ21 KC1
 subst hn5
 go_wp2_with (refine wpList_build_eT rfl rfl ?_)
 refine (show43 eT peT3 0 1 _ (hid (eT_ok _)) KT23).mono ?_
 rintro e U24 ⟨A6, n6, c6, rfl, hin, hq⟩
 rw [sh43_e.1, sh43_e.2]
 simp only [Bool.false_eq_true, if_false]
 clear hin
 have HB25 := hid (HB23.out.trans (hq.mono HB23.out.size))
 have RT25 := hid (row_kept RT23.out hq)
 have RR25 := hid (row_kept RR23.out hq)
 have RP25 := hid (row_kept RP23.out hq)
 have RM25 := hid (row_kept RM23.out hq)
 have RQ25 := hid (row_kept RQ23.out hq)
 have KO25 := hid (KO23.out.below hq)
 have KT25 := hid (KT23.out.below hq)
 have KP25 := hid (KP23.out.below hq)
 have KQ25 := hid (KQ23.out.below hq)
 have KC25 := hid (KC23.out.below hq)
 have KD25 := hid (KD1.out.below hq)
 clear hq HB23 RT23 RR23 RP23 RM23 RQ23 KO23 KT23 KP23 KQ23 KC23 KD1
 obtain ⟨V26, HV26⟩ : ∃ V, Hid (U24.alloc (.cells #[.int .i64 0, .int .i64 0, .slice A6 n6 c6] 66) = V) := ⟨_, hid rfl⟩
 have hw := heap_alloc_new U24 (.cells #[.int .i64 0, .int .i64 0, .slice A6 n6 c6] 66)
 have hb := (Below.refl _ U24).alloc (Nat.le_refl _) (.cells #[.int .i64 0, .int .i64 0, .slice A6 n6 c6] 66)
 rw [HV26.out] at hw hb
 have HB27 := hid (HB25.out.trans (hb.mono HB25.out.size))
 have RT27 := hid (row_kept RT25.out hb)
 have RR27 := hid (row_kept RR25.out hb)
 have RP27 := hid (row_kept RP25.out hb)
 have RM27 := hid (row_kept RM25.out hb)
 have RQ27 := hid (row_kept RQ25.out hb)
 have KO27 := hid (KO25.out.below hb)
 have KT27 := hid (KT25.out.below hb)
 have KP27 := hid (KP25.out.below hb)
 have KQ27 := hid (KQ25.out.below hb)
 have KC27 := hid (KC25.out.below hb)
 have KD27 := hid (KD25.out.below hb)
 have RE26 := hid hw
 clear hw hb HB25 RT25 RR25 RP25 RM25 RQ25 KO25 KT25 KP25 KQ25 KC25 KD25
 go_wp2_with (first | (rw [HV26.out]) | (refine wpList_build_z43 rfl rfl ?_))
 refine (verify43 (rt43 0 zeroN) 0 0 none 0 0 [] _ (hid (rt43_ok (by unfold I64; omega) zeroN_ok)) (hid ⟨rfl, Nat.le_refl _, (fun _ => rfl), (fun x hx => by cases hx), (fun h => by simp at h)⟩) KT27 (by simp)).mono ?_
 rintro e U28 ⟨rfl, hq⟩
 rw [show vfS (rt43 0 zeroN).lin (rt43 0 zeroN).tree 0 0 [] = (0, 0, 430) from vf43_z]
 have HB29 := hid (HB27.out.trans (hq.mono HB27.out.size))
 have RT29 := hid (row_kept RT27.out hq)
 have RR29 := hid (row_kept RR27.out hq)
 have RP29 := hid (row_kept RP27.out hq)
 have RM29 := hid (row_kept RM27.out hq)
 have RQ29 := hid (row_kept RQ27.out hq)
 have RE29 := hid (row_kept RE26.out hq)
 have KO29 := hid (KO27.out.below hq)
 have KT29 := hid (KT27.out.below hq)
 have KP29 := hid (KP27.out.below hq)
 have KQ29 := hid (KQ27.out.below hq)
 have KC29 := hid (KC27.out.below hq)
 have KD29 := hid (KD27.out.below hq)
 clear hq HB27 RT27 RR27 RP27 RM27 RQ27 RE26 KO27 KT27 KP27 KQ27 KC27 KD27
 go_wp2_with fail
 obtain ⟨g2, o2, rfl, hg2, hr2⟩ := KQ29.out.rd (by simp)
 have HG2 := hid hg2
 have HN2 := hid hr2
 clear hg2 hr2
 obtain ⟨zr, HZzr⟩ : ∃ q, Hid ((U1.heap.size + 1) = q) := ⟨_, hid rfl⟩
 have HRzr := RR29
 rw [HZzr.out] at HRzr
 obtain ⟨zp, HZzp⟩ : ∃ q, Hid (U4.heap.size = q) := ⟨_, hid rfl⟩
 have HRzp := RP29
 rw [HZzp.out] at HRzp
 obtain ⟨zm, HZzm⟩ : ∃ q, Hid (U10.heap.size = q) := ⟨_, hid rfl⟩
 have HRzm := RM29
 rw [HZzm.out] at HRzm
 obtain ⟨zq, HZzq⟩ : ∃ q, Hid (U14.heap.size = q) := ⟨_, hid rfl⟩
 have HRzq := RQ29
 rw [HZzq.out] at HRzq
 rw [HZzr.out, HZzp.out, HZzm.out, HZzq.out]
 have HS34 := hid (size34 HQO.out)
 have HB0 := hid (Below.refl U28.heap.size U28).drew
 have HNQ : Hid (U28.rangeAt g2 o2 (ndC q)) := hid (by have h := HN2.out; unfold flatN at h; simpa using h)
 have HNR : Hid (U28.rangeAt zr 6 (ndC q)) := hid (by rw [← HRT.out]; exact rt_tree HRzr.out)
 have HGR : Hid (zr < U28.heap.size) := hid (Array.getElem?_eq_some_iff.1 HRzr.out).1
 refine region_flow3 (by kernel_rfl) (by kernel_rfl) (fun i => Nat.beq i 45) (fun i => i) (by kernel_rfl) (fun fx => #[fx 45, .pointer (some { block := U1.heap.size, off := 0 }), .pointer (some { block := zr, off := 0 }), .pointer (some { block := zp, off := 0 }), .int IntKind.i64 0, .int IntKind.i64 6, .int IntKind.i64 42, .int IntKind.i64 0, .pointer (some { block := zm, off := 0 }), .int IntKind.i64 0, .pointer (some { block := zq, off := 0 }), .int IntKind.i64 0, .slice none 0 0, .int IntKind.i64 430, .slice A4 1 c4, .int IntKind.i64 0, .slice A5 2 c5, .int IntKind.i64 0, .pointer (some { block := U24.heap.size, off := 0 }), .int IntKind.i64 430, .int IntKind.i64 0, .int IntKind.i64 0, .int IntKind.i64 430, .tuple #[trV sT (sTp b), .agg (rtC R).toArray], .tuple #[trV sT (sTp b), .agg (rtC R).toArray], trV sT (sTp b), .agg (rtC R).toArray, .tuple #[.agg #[.int IntKind.i64 0, .int IntKind.i64 2, .slice A1 2 c1], .int IntKind.i64 0], trV sT (sTp b), .tuple #[.agg #[.int IntKind.i64 0, .int IntKind.i64 2, .slice A1 2 c1], .int IntKind.i64 0], .agg #[.int IntKind.i64 0, .int IntKind.i64 2, .slice A1 2 c1], .int IntKind.i64 0, .tuple #[.int IntKind.i64 6, .int IntKind.i64 42, .int IntKind.i64 0], .agg (rtC R).toArray, .agg #[.int IntKind.i64 0, .int IntKind.i64 2, .slice A1 2 c1], .tuple #[.int IntKind.i64 6, .int IntKind.i64 42, .int IntKind.i64 0], .int IntKind.i64 6, .int IntKind.i64 42, .int IntKind.i64 0, .tuple #[.agg #[.int IntKind.i64 7, .int IntKind.i64 1], .int IntKind.i64 0], .agg (rtC R).toArray, .agg #[.int IntKind.i64 0, .int IntKind.i64 2, .slice A1 2 c1], .tuple #[.agg #[.int IntKind.i64 7, .int IntKind.i64 1], .int IntKind.i64 0], .agg #[.int IntKind.i64 7, .int IntKind.i64 1], .int IntKind.i64 0, .tuple #[.agg #[.int IntKind.i64 0, .int IntKind.i64 3, .slice (some { block := g2, off := o2 }) 1 c2], .int IntKind.i64 0], trV sT (sTp b), .tuple #[.agg #[.int IntKind.i64 0, .int IntKind.i64 3, .slice (some { block := g2, off := o2 }) 1 c2], .int IntKind.i64 0], .agg #[.int IntKind.i64 0, .int IntKind.i64 3, .slice (some { block := g2, off := o2 }) 1 c2], .int IntKind.i64 0, .tuple #[.slice none 0 0, .int IntKind.i64 430], .tuple #[.slice none 0 0, .int IntKind.i64 430], .slice none 0 0, .int IntKind.i64 430, .tuple #[.slice A4 1 c4, .int IntKind.i64 0], .tuple #[.slice A4 1 c4, .int IntKind.i64 0], .slice A4 1 c4, .int IntKind.i64 0, .tuple #[.slice A5 2 c5, .int IntKind.i64 0], .tuple #[.slice A5 2 c5, .int IntKind.i64 0], .slice A5 2 c5, .int IntKind.i64 0, .tuple #[.agg #[.int IntKind.i64 0, .int IntKind.i64 0, .slice A6 n6 c6], .int IntKind.i64 430], trV eT peT3, .tuple #[.agg #[.int IntKind.i64 0, .int IntKind.i64 0, .slice A6 n6 c6], .int IntKind.i64 430], .agg #[.int IntKind.i64 0, .int IntKind.i64 0, .slice A6 n6 c6], .int IntKind.i64 430, .tuple #[.int IntKind.i64 0, .int IntKind.i64 0, .int IntKind.i64 430], .agg (rtC (rt43 0 zeroN)).toArray, .agg #[.int IntKind.i64 0, .int IntKind.i64 0, .slice none 0 0], .tuple #[.int IntKind.i64 0, .int IntKind.i64 0, .int IntKind.i64 430], .int IntKind.i64 0, .int IntKind.i64 0, .int IntKind.i64 430, .int IntKind.i64 0, .bool false, .bool false, .int IntKind.i64 0, .bool false, .bool false, .bool false, .int IntKind.i64 0, .bool false, .bool false, .bool false, .int IntKind.i64 0, .bool false, .bool false, .bool false, .int IntKind.i64 430, .bool false, .bool false, .bool false, .int IntKind.i64 0, .bool false, .bool false, .bool false, .int IntKind.i64 0, .bool false, .bool false, .bool false, .int IntKind.i64 430, .bool false, .bool false, .bool false, .int IntKind.i64 430, .bool false, .bool false, fx 0, fx 1, fx 2, fx 3, fx 4, fx 5, fx 6, fx 7, fx 8, fx 9, fx 10, fx 11, fx 12, fx 13, fx 14, fx 15, fx 16, fx 17, fx 18, fx 19, fx 20, fx 21, fx 22, fx 23, fx 24, fx 25, fx 26, fx 27, fx 28, fx 29, fx 30, fx 31, fx 32, fx 33, fx 34, fx 35, fx 36, fx 37, fx 38, fx 39, fx 40, fx 41, fx 42, fx 43, fx 44]) (fun i => bif Nat.beq i 45 then Value.bool false else undef) (fun _ _ w' => Below U28.heap.size U28 w') (fun fi fv _ fw => sS43 zp zq zr g2 o2 c1 c2 c4 c5 A1 A4 A5 q fi fv fw) HB0.out ?_ ?_
 ·refine ⟨?_, ?_, ?_, ?_, ?_, ?_, ?_, ?_, ?_, ?_, ?_, ?_, ?_, ?_, ?_, ?_, ?_, ?_, ?_, ?_, ?_, ?_, ?_, ?_, ?_, ?_, ?_, ?_, ?_, ?_, ?_, ?_, ?_, ?_, ?_, ?_, ?_, ?_, ?_, ?_, ?_, ?_, ?_, ?_, ?_, ?_, trivial⟩
  all_goals intro L fx w' hC hi hcl hdn hd
  ·clear hd
   go_wp2_with fail
   exact ⟨_, rfl, hC, rfl, kP⟩
  ·have h0 : fx 0 = .int .i64 (6) := hd.1 rfl
   clear hd
   go_wp2_with fail
   exact ⟨_, by simp only [upd, h0]; rfl, hC, rfl, kP⟩
  ·have h1 : fx 1 = .bool true := hd.1 rfl
   clear hd
   go_wp2_with fail
   exact ⟨_, by simp only [upd, h1]; rfl, hC, rfl, kP⟩
  ·have h2 : fx 2 = .bool true := hd.1 rfl
   dsimp only
   rw [h2]
   refine wpList_unguard rfl ?_
   clear hd
   go_wp2_with fail
   exact ⟨_, by simp only [upd, h2]; rfl, hC, rfl, kP⟩
  ·have h3 : fx 3 = .int .i64 (42) := hd.1 rfl
   have h2 : fx 2 = .bool true := hd.2.1 rfl
   dsimp only
   rw [h2]
   refine wpList_unguard rfl ?_
   clear hd
   go_wp2_with fail
   exact ⟨_, by simp only [upd, h3, h2]; rfl, hC, rfl, kP⟩
  ·have h2 : fx 2 = .bool true := hd.1 rfl
   have h4 : fx 4 = .bool true := hd.2.1 rfl
   clear hd
   go_wp2_with fail
   exact ⟨_, by simp only [upd, h2, h4]; rfl, hC, rfl, kP⟩
  ·have h5 : fx 5 = .bool true := hd.1 rfl
   clear hd
   go_wp2_with fail
   exact ⟨_, by simp only [upd, h5]; rfl, hC, rfl, kP⟩
  ·have h6 : fx 6 = .bool true := hd.1 rfl
   dsimp only
   rw [h6]
   refine wpList_unguard rfl ?_
   have hc0 : w'.cell? ⟨zm, 0, none⟩ = some (.int .i64 7) := by rw [cell_of_row _ _ _ _ _ _ (row_kept HRzm.out hC)]; rfl
   have hc1 : w'.cell? ⟨zm, 1, none⟩ = some (.int .i64 1) := by rw [cell_of_row _ _ _ _ _ _ (row_kept HRzm.out hC)]; rfl
   clear hd
   go_wp2_with fail
   exact ⟨_, by simp only [upd, h6]; rfl, hC, rfl, kP⟩
  ·have h6 : fx 6 = .bool true := hd.1 rfl
   dsimp only
   rw [h6]
   refine wpList_unguard rfl ?_
   clear hd
   go_wp2_with fail
   exact ⟨_, by simp only [upd, h6]; rfl, hC, rfl, kP⟩
  ·have h7 : fx 7 = raV ⟨7, 1⟩ := hd.1 rfl
   have h8 : fx 8 = raV ⟨7, 1⟩ := hd.2.1 rfl
   have h6 : fx 6 = .bool true := hd.2.2.1 rfl
   dsimp only
   rw [h6]
   refine wpList_unguard rfl ?_
   refine wpList_eql_ra rfl (.tmp 115) (.tmp 116) _ rfl ⟨7, 1⟩ ⟨7, 1⟩ h7 h8 ?_
   rw [raEq_refl]
   clear hd
   go_wp2_with fail
   exact ⟨_, by simp only [upd, h7, h8, h6]; rfl, hC, rfl, kP⟩
  ·have h6 : fx 6 = .bool true := hd.1 rfl
   have h9 : fx 9 = .bool true := hd.2.1 rfl
   clear hd
   go_wp2_with fail
   exact ⟨_, by simp only [upd, h6, h9]; rfl, hC, rfl, kP⟩
  ·have h10 : fx 10 = .bool true := hd.1 rfl
   clear hd
   go_wp2_with fail
   exact ⟨_, by simp only [upd, h10]; rfl, hC, rfl, kP⟩
  ·have h11 : fx 11 = .bool true := hd.1 rfl
   dsimp only
   rw [h11]
   refine wpList_unguard rfl ?_
   clear hd
   go_wp2_with fail
   exact ⟨_, by simp only [upd, h11]; rfl, hC, rfl, kP⟩
  ·have h12 : fx 12 = .pointer (some ⟨zp, 2, none⟩) := hd.1 rfl
   have h11 : fx 11 = .bool true := hd.2.1 rfl
   dsimp only
   rw [h11]
   refine wpList_unguard rfl ?_
   have hcc : w'.cell? ⟨zp, 2, none⟩ = some (Value.slice A1 2 c1) := by rw [cell_of_row _ _ _ _ _ _ (row_kept HRzp.out hC)]; rfl
   clear hd
   go_wp2_with fail
   exact ⟨_, by simp only [upd, h12, h11]; rfl, hC, rfl, kP⟩
  ·have h13 : fx 13 = .slice A1 2 c1 := hd.1 rfl
   have h11 : fx 11 = .bool true := hd.2.1 rfl
   dsimp only
   rw [h11]
   refine wpList_unguard rfl ?_
   clear hd
   go_wp2_with fail
   exact ⟨_, by simp only [upd, h13, h11]; rfl, hC, rfl, kP⟩
  ·have h14 : fx 14 = .int .i64 (2) := hd.1 rfl
   have h11 : fx 11 = .bool true := hd.2.1 rfl
   dsimp only
   rw [h11]
   refine wpList_unguard rfl ?_
   clear hd
   go_wp2_with fail
   exact ⟨_, by simp only [upd, h14, h11]; rfl, hC, rfl, kP⟩
  ·have h11 : fx 11 = .bool true := hd.1 rfl
   have h15 : fx 15 = .bool true := hd.2.1 rfl
   clear hd
   go_wp2_with fail
   exact ⟨_, by simp only [upd, h11, h15]; rfl, hC, rfl, kP⟩
  ·have h16 : fx 16 = .bool true := hd.1 rfl
   clear hd
   go_wp2_with fail
   exact ⟨_, by simp only [upd, h16]; rfl, hC, rfl, kP⟩
  ·have h17 : fx 17 = .bool true := hd.1 rfl
   dsimp only
   rw [h17]
   refine wpList_unguard rfl ?_
   clear hd
   go_wp2_with fail
   exact ⟨_, by simp only [upd, h17]; rfl, hC, rfl, kP⟩
  ·have h18 : fx 18 = .pointer (some ⟨zq, 2, none⟩) := hd.1 rfl
   have h17 : fx 17 = .bool true := hd.2.1 rfl
   dsimp only
   rw [h17]
   refine wpList_unguard rfl ?_
   have hcc : w'.cell? ⟨zq, 2, none⟩ = some (Value.slice (some ⟨g2, o2, none⟩) 1 c2) := by rw [cell_of_row _ _ _ _ _ _ (row_kept HRzq.out hC)]; rfl
   clear hd
   go_wp2_with fail
   exact ⟨_, by simp only [upd, h18, h17]; rfl, hC, rfl, kP⟩
  ·have h19 : fx 19 = .slice (some ⟨g2, o2, none⟩) 1 c2 := hd.1 rfl
   have h17 : fx 17 = .bool true := hd.2.1 rfl
   dsimp only
   rw [h17]
   refine wpList_unguard rfl ?_
   clear hd
   go_wp2_with fail
   exact ⟨_, by simp only [upd, h19, h17]; rfl, hC, rfl, kP⟩
  ·have h20 : fx 20 = .int .i64 (1) := hd.1 rfl
   have h17 : fx 17 = .bool true := hd.2.1 rfl
   dsimp only
   rw [h17]
   refine wpList_unguard rfl ?_
   clear hd
   go_wp2_with fail
   exact ⟨_, by simp only [upd, h20, h17]; rfl, hC, rfl, kP⟩
  ·have h17 : fx 17 = .bool true := hd.1 rfl
   have h21 : fx 21 = .bool true := hd.2.1 rfl
   clear hd
   go_wp2_with fail
   exact ⟨_, by simp only [upd, h17, h21]; rfl, hC, rfl, kP⟩
  ·have h22 : fx 22 = .bool true := hd.1 rfl
   clear hd
   go_wp2_with fail
   exact ⟨_, by simp only [upd, h22]; rfl, hC, rfl, kP⟩
  ·have h23 : fx 23 = .bool true := hd.1 rfl
   dsimp only
   rw [h23]
   refine wpList_unguard rfl ?_
   clear hd
   go_wp2_with fail
   exact ⟨_, by simp only [upd, h23]; rfl, hC, rfl, kP⟩
  ·have h24 : fx 24 = .pointer (some ⟨zq, 2, none⟩) := hd.1 rfl
   have h23 : fx 23 = .bool true := hd.2.1 rfl
   dsimp only
   rw [h23]
   refine wpList_unguard rfl ?_
   have hcc : w'.cell? ⟨zq, 2, none⟩ = some (Value.slice (some ⟨g2, o2, none⟩) 1 c2) := by rw [cell_of_row _ _ _ _ _ _ (row_kept HRzq.out hC)]; rfl
   clear hd
   go_wp2_with fail
   exact ⟨_, by simp only [upd, h24, h23]; rfl, hC, rfl, kP⟩
  ·have h25 : fx 25 = .slice (some ⟨g2, o2, none⟩) 1 c2 := hd.1 rfl
   have h23 : fx 23 = .bool true := hd.2.1 rfl
   dsimp only
   rw [h23]
   refine wpList_unguard rfl ?_
   clear hd
   go_wp2_with fail
   exact ⟨_, by simp only [upd, h25, h23]; rfl, hC, rfl, kP⟩
  ·have h26 : fx 26 = .pointer (some ⟨g2, o2, none⟩) := hd.1 rfl
   have h23 : fx 23 = .bool true := hd.2.1 rfl
   dsimp only
   rw [h23]
   refine wpList_unguard rfl ?_
   have hr := rangeAt_below HNQ.out HG2.out hC
   refine wpList_load_mid rfl 39 (.tmp 134) rfl (g2) (o2) h26 (ndC q) _ hr Tryz.underlying39 rfl HS34.out ?_
   clear hr
   clear hd
   go_wp2_with fail
   exact ⟨_, by simp only [upd, h26, h23]; rfl, hC, rfl, kP⟩
  ·have h23 : fx 23 = .bool true := hd.1 rfl
   dsimp only
   rw [h23]
   refine wpList_unguard rfl ?_
   clear hd
   go_wp2_with fail
   exact ⟨_, by simp only [upd, h23]; rfl, hC, rfl, kP⟩
  ·have h28 : fx 28 = .pointer (some ⟨zr, 6, none⟩) := hd.1 rfl
   have h23 : fx 23 = .bool true := hd.2.1 rfl
   dsimp only
   rw [h23]
   refine wpList_unguard rfl ?_
   have hr := rangeAt_below HNR.out HGR.out hC
   refine wpList_load_mid rfl 39 (.tmp 136) rfl (zr) (6) h28 (ndC q) _ hr Tryz.underlying39 rfl HS34.out ?_
   clear hr
   clear hd
   go_wp2_with fail
   exact ⟨_, by simp only [upd, h28, h23]; rfl, hC, rfl, kP⟩
  ·have h27 : fx 27 = ndV q := hd.1 rfl
   have h29 : fx 29 = ndV q := hd.2.1 rfl
   have h23 : fx 23 = .bool true := hd.2.2.1 rfl
   dsimp only
   rw [h23]
   refine wpList_unguard rfl ?_
   refine wpList_eql_nd rfl (.tmp 135) (.tmp 137) _ rfl q q h27 h29 HQO.out HQO.out ?_
   rw [ndEq_refl]
   clear hd
   go_wp2_with fail
   exact ⟨_, by simp only [upd, h27, h29, h23]; rfl, hC, rfl, kP⟩
  ·have h23 : fx 23 = .bool true := hd.1 rfl
   have h30 : fx 30 = .bool true := hd.2.1 rfl
   clear hd
   go_wp2_with fail
   exact ⟨_, by simp only [upd, h23, h30]; rfl, hC, rfl, kP⟩
  ·have h31 : fx 31 = .bool true := hd.1 rfl
   clear hd
   go_wp2_with fail
   exact ⟨_, by simp only [upd, h31]; rfl, hC, rfl, kP⟩
  ·have h32 : fx 32 = .bool true := hd.1 rfl
   dsimp only
   rw [h32]
   refine wpList_unguard rfl ?_
   clear hd
   go_wp2_with fail
   exact ⟨_, by simp only [upd, h32]; rfl, hC, rfl, kP⟩
  ·have h32 : fx 32 = .bool true := hd.1 rfl
   dsimp only
   rw [h32]
   refine wpList_unguard rfl ?_
   clear hd
   go_wp2_with fail
   exact ⟨_, by simp only [upd, h32]; rfl, hC, rfl, kP⟩
  ·have h34 : fx 34 = spnV ⟨0, 5⟩ := hd.1 rfl
   have h32 : fx 32 = .bool true := hd.2.1 rfl
   dsimp only
   rw [h32]
   refine wpList_unguard rfl ?_
   refine wpList_build_span1 rfl (.tmp 142) rfl ⟨0, 5, true⟩ h34 ?_
   have hb := (Below.refl _ w').alloc (Nat.le_refl _) (.cells (flatS [⟨0, 5, true⟩]).toArray 119)
   have hi3 := inS_new w' [⟨0, 5, true⟩]
   clear hd
   go_wp2_with fail
   exact ⟨_, by simp only [upd, h34, h32]; rfl, hC.trans (hb.mono hC.size), ⟨_, _, rfl, hi3⟩, fun j v t _ _ h => sS43_below hb j v h⟩
  ·have h33 : fx 33 = .slice A4 1 c4 := hd.1 rfl
   have H35 := hid (hd.2.1 rfl)
   have h32 : fx 32 = .bool true := hd.2.2.2.1 rfl
   dsimp only
   rw [h32]
   refine wpList_unguard rfl ?_
   obtain ⟨A7, c7, h35, hin7⟩ := H35.out
   have HA := hid (KC29.out.below hC)
   clear hd
   go_wp2_with fail
   refine (samespans_yes _ A7 1 _ c7 _ _ w' HA (hid hin7) (hid rfl) (by omega)).mono ?_
   rintro e w2 ⟨rfl, hq⟩
   go_wp2_with fail
   exact ⟨_, by simp only [upd, h33, h32, h35]; rfl, hC.trans (hq.mono hC.size), rfl, fun j v t _ _ h => sS43_below hq j v h⟩
  ·have h32 : fx 32 = .bool true := hd.1 rfl
   have h36 : fx 36 = .bool true := hd.2.1 rfl
   clear hd
   go_wp2_with fail
   exact ⟨_, by simp only [upd, h32, h36]; rfl, hC, rfl, kP⟩
  ·have h37 : fx 37 = .bool true := hd.1 rfl
   clear hd
   go_wp2_with fail
   exact ⟨_, by simp only [upd, h37]; rfl, hC, rfl, kP⟩
  ·have h38 : fx 38 = .bool true := hd.1 rfl
   dsimp only
   rw [h38]
   refine wpList_unguard rfl ?_
   clear hd
   go_wp2_with fail
   exact ⟨_, by simp only [upd, h38]; rfl, hC, rfl, kP⟩
  ·have h38 : fx 38 = .bool true := hd.1 rfl
   dsimp only
   rw [h38]
   refine wpList_unguard rfl ?_
   clear hd
   go_wp2_with fail
   exact ⟨_, by simp only [upd, h38]; rfl, hC, rfl, kP⟩
  ·have h38 : fx 38 = .bool true := hd.1 rfl
   dsimp only
   rw [h38]
   refine wpList_unguard rfl ?_
   clear hd
   go_wp2_with fail
   exact ⟨_, by simp only [upd, h38]; rfl, hC, rfl, kP⟩
  ·have h40 : fx 40 = spnV ⟨2, 4⟩ := hd.1 rfl
   have h41 : fx 41 = spnV ⟨4, 6⟩ := hd.2.1 rfl
   have h38 : fx 38 = .bool true := hd.2.2.1 rfl
   dsimp only
   rw [h38]
   refine wpList_unguard rfl ?_
   refine wpList_build_span2 rfl (.tmp 148) (.tmp 149) rfl ⟨2, 4, true⟩ ⟨4, 6, true⟩ h40 h41 ?_
   have hb := (Below.refl _ w').alloc (Nat.le_refl _) (.cells (flatS [⟨2, 4, true⟩, ⟨4, 6, true⟩]).toArray 119)
   have hi3 := inS_new w' [⟨2, 4, true⟩, ⟨4, 6, true⟩]
   clear hd
   go_wp2_with fail
   exact ⟨_, by simp only [upd, h40, h41, h38]; rfl, hC.trans (hb.mono hC.size), ⟨_, _, rfl, hi3⟩, fun j v t _ _ h => sS43_below hb j v h⟩
  ·have h39 : fx 39 = .slice A5 2 c5 := hd.1 rfl
   have H42 := hid (hd.2.1 rfl)
   have h38 : fx 38 = .bool true := hd.2.2.2.1 rfl
   dsimp only
   rw [h38]
   refine wpList_unguard rfl ?_
   obtain ⟨A7, c7, h42, hin7⟩ := H42.out
   have HA := hid (KD29.out.below hC)
   clear hd
   go_wp2_with fail
   refine (samespans_yes _ A7 2 _ c7 _ _ w' HA (hid hin7) (hid rfl) (by omega)).mono ?_
   rintro e w2 ⟨rfl, hq⟩
   go_wp2_with fail
   exact ⟨_, by simp only [upd, h39, h38, h42]; rfl, hC.trans (hq.mono hC.size), rfl, fun j v t _ _ h => sS43_below hq j v h⟩
  ·have h38 : fx 38 = .bool true := hd.1 rfl
   have h43 : fx 43 = .bool true := hd.2.1 rfl
   clear hd
   go_wp2_with fail
   exact ⟨_, by simp only [upd, h38, h43]; rfl, hC, rfl, kP⟩
  ·have h44 : fx 44 = .bool true := hd.1 rfl
   clear hd
   go_wp2_with fail
   exact ⟨_, by simp only [upd, h44]; rfl, hC, rfl, kP⟩
 ·intro L fo w' hC hS
  have H45 := hid (hS 45 (by decide) rfl)
  have hl : fo 45 = .bool true := H45.out
  rw [hl]
  have HBC := hid (HB29.out.trans (hC.mono HB29.out.size))
  clear hS hC H45 hl
  go_wp2_with fail
  go_ret
  exact ⟨rfl, HBC.out⟩
theorem rin_any (x lo hi : Int) (w : World) : Calls Tryz.prog 55 #[.int .i64 x, .int .i64 lo, .int .i64 hi] w fun e w' => e = .returned (.bool (decide (lo ≤ x) && decide (x ≤ hi))) ∧ w = w' := by
 by_cases h : lo ≤ x
 ·have d : decide (lo ≤ x) = true := eQ h
  have HE : Hid ((decide (lo ≤ x) && decide (x ≤ hi)) = decide (x ≤ hi)) := hid (by rw [d]; rfl)
  rw [HE.out]
  go_enter Tryz.func55, Tryz.ntmps55
  go_wp2_with fail
  go_ret
  exact ⟨rfl, rfl⟩
 ·have d : decide (lo ≤ x) = false := dQ h
  have HE : Hid ((decide (lo ≤ x) && decide (x ≤ hi)) = false) := hid (by rw [d]; rfl)
  rw [HE.out]
  go_enter Tryz.func55, Tryz.ntmps55
  go_wp2_with fail
  go_ret
  exact ⟨rfl, rfl⟩
theorem rvline_0 (c0 c1 c2 c3 c4 : Int) (w : World) (d0 : (decide (0 ≤ c0) && decide (c0 ≤ 4095)) = false) : Calls Tryz.prog 56 #[.agg #[.int .i64 c0, .int .i64 c1, .int .i64 c2, .int .i64 c3, .int .i64 c4]] w fun e w' => e = .returned (.bool false) ∧ Below w.heap.size w w' := by
 have HB := hid ((Below.refl _ w).alloc (Nat.le_refl _) (.cells #[.int .i64 c0, .int .i64 c1, .int .i64 c2, .int .i64 c3, .int .i64 c4] 45))
 have D0 := hid d0
 clear d0
 go_enter Tryz.func56, Tryz.ntmps56
 go_wp2_with fail
 refine (rin_any _ _ _ _).mono ?_
 rintro e w0 ⟨rfl, rfl⟩
 rw [D0.out]
 go_wp2_with fail
 go_ret
 exact ⟨rfl, HB.out⟩
theorem rvline_1 (c0 c1 c2 c3 c4 : Int) (w : World) (d0 : (decide (0 ≤ c0) && decide (c0 ≤ 4095)) = true) (d1 : (decide (0 ≤ c1) && decide (c1 ≤ 1023)) = false) : Calls Tryz.prog 56 #[.agg #[.int .i64 c0, .int .i64 c1, .int .i64 c2, .int .i64 c3, .int .i64 c4]] w fun e w' => e = .returned (.bool false) ∧ Below w.heap.size w w' := by
 have HB := hid ((Below.refl _ w).alloc (Nat.le_refl _) (.cells #[.int .i64 c0, .int .i64 c1, .int .i64 c2, .int .i64 c3, .int .i64 c4] 45))
 have D0 := hid d0
 have D1 := hid d1
 clear d0 d1
 go_enter Tryz.func56, Tryz.ntmps56
 go_wp2_with fail
 refine (rin_any _ _ _ _).mono ?_
 rintro e w0 ⟨rfl, rfl⟩
 rw [D0.out]
 go_wp2_with fail
 refine (rin_any _ _ _ _).mono ?_
 rintro e w1 ⟨rfl, rfl⟩
 rw [D1.out]
 go_wp2_with fail
 go_ret
 exact ⟨rfl, HB.out⟩
theorem rvline_2 (c0 c1 c2 c3 c4 : Int) (w : World) (d0 : (decide (0 ≤ c0) && decide (c0 ≤ 4095)) = true) (d1 : (decide (0 ≤ c1) && decide (c1 ≤ 1023)) = true) (d2 : (decide (0 ≤ c2) && decide (c2 ≤ 12)) = false) : Calls Tryz.prog 56 #[.agg #[.int .i64 c0, .int .i64 c1, .int .i64 c2, .int .i64 c3, .int .i64 c4]] w fun e w' => e = .returned (.bool false) ∧ Below w.heap.size w w' := by
 have HB := hid ((Below.refl _ w).alloc (Nat.le_refl _) (.cells #[.int .i64 c0, .int .i64 c1, .int .i64 c2, .int .i64 c3, .int .i64 c4] 45))
 have D0 := hid d0
 have D1 := hid d1
 have D2 := hid d2
 clear d0 d1 d2
 go_enter Tryz.func56, Tryz.ntmps56
 go_wp2_with fail
 refine (rin_any _ _ _ _).mono ?_
 rintro e w0 ⟨rfl, rfl⟩
 rw [D0.out]
 go_wp2_with fail
 refine (rin_any _ _ _ _).mono ?_
 rintro e w1 ⟨rfl, rfl⟩
 rw [D1.out]
 go_wp2_with fail
 refine (rin_any _ _ _ _).mono ?_
 rintro e w2 ⟨rfl, rfl⟩
 rw [D2.out]
 go_wp2_with fail
 go_ret
 exact ⟨rfl, HB.out⟩
theorem rvline_3 (c0 c1 c2 c3 c4 : Int) (w : World) (d0 : (decide (0 ≤ c0) && decide (c0 ≤ 4095)) = true) (d1 : (decide (0 ≤ c1) && decide (c1 ≤ 1023)) = true) (d2 : (decide (0 ≤ c2) && decide (c2 ≤ 12)) = true) (d3 : (decide (0 ≤ c3) && decide (c3 ≤ 60)) = false) : Calls Tryz.prog 56 #[.agg #[.int .i64 c0, .int .i64 c1, .int .i64 c2, .int .i64 c3, .int .i64 c4]] w fun e w' => e = .returned (.bool false) ∧ Below w.heap.size w w' := by
 have HB := hid ((Below.refl _ w).alloc (Nat.le_refl _) (.cells #[.int .i64 c0, .int .i64 c1, .int .i64 c2, .int .i64 c3, .int .i64 c4] 45))
 have D0 := hid d0
 have D1 := hid d1
 have D2 := hid d2
 have D3 := hid d3
 clear d0 d1 d2 d3
 go_enter Tryz.func56, Tryz.ntmps56
 go_wp2_with fail
 refine (rin_any _ _ _ _).mono ?_
 rintro e w0 ⟨rfl, rfl⟩
 rw [D0.out]
 go_wp2_with fail
 refine (rin_any _ _ _ _).mono ?_
 rintro e w1 ⟨rfl, rfl⟩
 rw [D1.out]
 go_wp2_with fail
 refine (rin_any _ _ _ _).mono ?_
 rintro e w2 ⟨rfl, rfl⟩
 rw [D2.out]
 go_wp2_with fail
 refine (rin_any _ _ _ _).mono ?_
 rintro e w3 ⟨rfl, rfl⟩
 rw [D3.out]
 go_wp2_with fail
 go_ret
 exact ⟨rfl, HB.out⟩
theorem rvline_4 (c0 c1 c2 c3 c4 : Int) (w : World) (d0 : (decide (0 ≤ c0) && decide (c0 ≤ 4095)) = true) (d1 : (decide (0 ≤ c1) && decide (c1 ≤ 1023)) = true) (d2 : (decide (0 ≤ c2) && decide (c2 ≤ 12)) = true) (d3 : (decide (0 ≤ c3) && decide (c3 ≤ 60)) = true) (d4 : (decide (0 ≤ c4) && decide (c4 ≤ 6)) = false) : Calls Tryz.prog 56 #[.agg #[.int .i64 c0, .int .i64 c1, .int .i64 c2, .int .i64 c3, .int .i64 c4]] w fun e w' => e = .returned (.bool false) ∧ Below w.heap.size w w' := by
 have HB := hid ((Below.refl _ w).alloc (Nat.le_refl _) (.cells #[.int .i64 c0, .int .i64 c1, .int .i64 c2, .int .i64 c3, .int .i64 c4] 45))
 have D0 := hid d0
 have D1 := hid d1
 have D2 := hid d2
 have D3 := hid d3
 have D4 := hid d4
 clear d0 d1 d2 d3 d4
 go_enter Tryz.func56, Tryz.ntmps56
 go_wp2_with fail
 refine (rin_any _ _ _ _).mono ?_
 rintro e w0 ⟨rfl, rfl⟩
 rw [D0.out]
 go_wp2_with fail
 refine (rin_any _ _ _ _).mono ?_
 rintro e w1 ⟨rfl, rfl⟩
 rw [D1.out]
 go_wp2_with fail
 refine (rin_any _ _ _ _).mono ?_
 rintro e w2 ⟨rfl, rfl⟩
 rw [D2.out]
 go_wp2_with fail
 refine (rin_any _ _ _ _).mono ?_
 rintro e w3 ⟨rfl, rfl⟩
 rw [D3.out]
 go_wp2_with fail
 refine (rin_any _ _ _ _).mono ?_
 rintro e w4 ⟨rfl, rfl⟩
 rw [D4.out]
 go_wp2_with fail
 go_ret
 exact ⟨rfl, HB.out⟩
theorem rvline_5 (c0 c1 c2 c3 c4 : Int) (w : World) (d0 : (decide (0 ≤ c0) && decide (c0 ≤ 4095)) = true) (d1 : (decide (0 ≤ c1) && decide (c1 ≤ 1023)) = true) (d2 : (decide (0 ≤ c2) && decide (c2 ≤ 12)) = true) (d3 : (decide (0 ≤ c3) && decide (c3 ≤ 60)) = true) (d4 : (decide (0 ≤ c4) && decide (c4 ≤ 6)) = true) : Calls Tryz.prog 56 #[.agg #[.int .i64 c0, .int .i64 c1, .int .i64 c2, .int .i64 c3, .int .i64 c4]] w fun e w' => e = .returned (.bool true) ∧ Below w.heap.size w w' := by
 have HB := hid ((Below.refl _ w).alloc (Nat.le_refl _) (.cells #[.int .i64 c0, .int .i64 c1, .int .i64 c2, .int .i64 c3, .int .i64 c4] 45))
 have D0 := hid d0
 have D1 := hid d1
 have D2 := hid d2
 have D3 := hid d3
 have D4 := hid d4
 clear d0 d1 d2 d3 d4
 go_enter Tryz.func56, Tryz.ntmps56
 go_wp2_with fail
 refine (rin_any _ _ _ _).mono ?_
 rintro e w0 ⟨rfl, rfl⟩
 rw [D0.out]
 go_wp2_with fail
 refine (rin_any _ _ _ _).mono ?_
 rintro e w1 ⟨rfl, rfl⟩
 rw [D1.out]
 go_wp2_with fail
 refine (rin_any _ _ _ _).mono ?_
 rintro e w2 ⟨rfl, rfl⟩
 rw [D2.out]
 go_wp2_with fail
 refine (rin_any _ _ _ _).mono ?_
 rintro e w3 ⟨rfl, rfl⟩
 rw [D3.out]
 go_wp2_with fail
 refine (rin_any _ _ _ _).mono ?_
 rintro e w4 ⟨rfl, rfl⟩
 rw [D4.out]
 go_wp2_with fail
 go_ret
 exact ⟨rfl, HB.out⟩
theorem rvline_any (c0 c1 c2 c3 c4 : Int) (w : World) : Calls Tryz.prog 56 #[.agg #[.int .i64 c0, .int .i64 c1, .int .i64 c2, .int .i64 c3, .int .i64 c4]] w fun e w' => e = .returned (.bool (decide (lOk c0 c1 c2 c3 c4))) ∧ Below w.heap.size w w' := by
 by_cases b0 : 0 ≤ c0 ∧ c0 ≤ 4095
 case neg =>
  rw [dQ (show ¬ (lOk c0 c1 c2 c3 c4) by unfold lOk; omega)]
  exact rvline_0 c0 c1 c2 c3 c4  w (and_dec_no b0)
 by_cases b1 : 0 ≤ c1 ∧ c1 ≤ 1023
 case neg =>
  rw [dQ (show ¬ (lOk c0 c1 c2 c3 c4) by unfold lOk; omega)]
  exact rvline_1 c0 c1 c2 c3 c4  w (and_dec b0) (and_dec_no b1)
 by_cases b2 : 0 ≤ c2 ∧ c2 ≤ 12
 case neg =>
  rw [dQ (show ¬ (lOk c0 c1 c2 c3 c4) by unfold lOk; omega)]
  exact rvline_2 c0 c1 c2 c3 c4  w (and_dec b0) (and_dec b1) (and_dec_no b2)
 by_cases b3 : 0 ≤ c3 ∧ c3 ≤ 60
 case neg =>
  rw [dQ (show ¬ (lOk c0 c1 c2 c3 c4) by unfold lOk; omega)]
  exact rvline_3 c0 c1 c2 c3 c4  w (and_dec b0) (and_dec b1) (and_dec b2) (and_dec_no b3)
 by_cases b4 : 0 ≤ c4 ∧ c4 ≤ 6
 case neg =>
  rw [dQ (show ¬ (lOk c0 c1 c2 c3 c4) by unfold lOk; omega)]
  exact rvline_4 c0 c1 c2 c3 c4  w (and_dec b0) (and_dec b1) (and_dec b2) (and_dec b3) (and_dec_no b4)
 rw [eQ (show lOk c0 c1 c2 c3 c4 by unfold lOk; omega)]
 exact rvline_5 c0 c1 c2 c3 c4  w (and_dec b0) (and_dec b1) (and_dec b2) (and_dec b3) (and_dec b4)
theorem rvclaim_0 (p r : Int) (m : Bool) (w : World) (d0 : (decide (0 ≤ p) && decide (p ≤ 255)) = false) : Calls Tryz.prog 58 #[.agg #[.int .i64 p, .int .i64 r, .bool m]] w fun e w' => e = .returned (.bool false) ∧ Below w.heap.size w w' := by
 have HB := hid ((Below.refl _ w).alloc (Nat.le_refl _) (.cells #[.int .i64 p, .int .i64 r, .bool m] 56))
 have D0 := hid d0
 clear d0
 go_enter Tryz.func58, Tryz.ntmps58
 go_wp2_with fail
 refine (rin_any _ _ _ _).mono ?_
 rintro e w0 ⟨rfl, rfl⟩
 rw [D0.out]
 go_wp2_with fail
 go_ret
 exact ⟨rfl, HB.out⟩
theorem rvclaim_1 (p r : Int) (m : Bool) (w : World) (d0 : (decide (0 ≤ p) && decide (p ≤ 255)) = true) (d1 : (decide (0 ≤ r) && decide (r ≤ 63)) = false) : Calls Tryz.prog 58 #[.agg #[.int .i64 p, .int .i64 r, .bool m]] w fun e w' => e = .returned (.bool false) ∧ Below w.heap.size w w' := by
 have HB := hid ((Below.refl _ w).alloc (Nat.le_refl _) (.cells #[.int .i64 p, .int .i64 r, .bool m] 56))
 have D0 := hid d0
 have D1 := hid d1
 clear d0 d1
 go_enter Tryz.func58, Tryz.ntmps58
 go_wp2_with fail
 refine (rin_any _ _ _ _).mono ?_
 rintro e w0 ⟨rfl, rfl⟩
 rw [D0.out]
 go_wp2_with fail
 refine (rin_any _ _ _ _).mono ?_
 rintro e w1 ⟨rfl, rfl⟩
 rw [D1.out]
 go_wp2_with fail
 go_ret
 exact ⟨rfl, HB.out⟩
theorem rvclaim_2 (p r : Int) (m : Bool) (w : World) (d0 : (decide (0 ≤ p) && decide (p ≤ 255)) = true) (d1 : (decide (0 ≤ r) && decide (r ≤ 63)) = true) : Calls Tryz.prog 58 #[.agg #[.int .i64 p, .int .i64 r, .bool m]] w fun e w' => e = .returned (.bool true) ∧ Below w.heap.size w w' := by
 have HB := hid ((Below.refl _ w).alloc (Nat.le_refl _) (.cells #[.int .i64 p, .int .i64 r, .bool m] 56))
 have D0 := hid d0
 have D1 := hid d1
 clear d0 d1
 go_enter Tryz.func58, Tryz.ntmps58
 go_wp2_with fail
 refine (rin_any _ _ _ _).mono ?_
 rintro e w0 ⟨rfl, rfl⟩
 rw [D0.out]
 go_wp2_with fail
 refine (rin_any _ _ _ _).mono ?_
 rintro e w1 ⟨rfl, rfl⟩
 rw [D1.out]
 go_wp2_with fail
 go_ret
 exact ⟨rfl, HB.out⟩
theorem rvclaim_any (p r : Int) (m : Bool) (w : World) : Calls Tryz.prog 58 #[.agg #[.int .i64 p, .int .i64 r, .bool m]] w fun e w' => e = .returned (.bool (decide (kOk p r))) ∧ Below w.heap.size w w' := by
 by_cases b0 : 0 ≤ p ∧ p ≤ 255
 case neg =>
  rw [dQ (show ¬ (kOk p r) by unfold kOk; omega)]
  exact rvclaim_0 p r  m  w (and_dec_no b0)
 by_cases b1 : 0 ≤ r ∧ r ≤ 63
 case neg =>
  rw [dQ (show ¬ (kOk p r) by unfold kOk; omega)]
  exact rvclaim_1 p r  m  w (and_dec b0) (and_dec_no b1)
 rw [eQ (show kOk p r by unfold kOk; omega)]
 exact rvclaim_2 p r  m  w (and_dec b0) (and_dec b1)
theorem rnoL_any (c0 c1 c2 c3 c4 : Int) (w : World) : Calls Tryz.prog 57 #[.agg #[.int .i64 c0, .int .i64 c1, .int .i64 c2, .int .i64 c3, .int .i64 c4]] w fun e w' => e = .returned (.int .i64 (noL c0 c1)) ∧ Below w.heap.size w w' := by
 have HB := hid ((Below.refl _ w).alloc (Nat.le_refl _) (.cells #[.int .i64 c0, .int .i64 c1, .int .i64 c2, .int .i64 c3, .int .i64 c4] 45))
 go_enter Tryz.func57, Tryz.ntmps57
 go_wp2_with fail
 go_ret
 exact ⟨by unfold noL; rfl, HB.out⟩
theorem rnoK_any (p r : Int) (m : Bool) (w : World) : Calls Tryz.prog 59 #[.agg #[.int .i64 p, .int .i64 r, .bool m]] w fun e w' => e = .returned (.int .i64 (noK p r)) ∧ Below w.heap.size w w' := by
 have HB := hid ((Below.refl _ w).alloc (Nat.le_refl _) (.cells #[.int .i64 p, .int .i64 r, .bool m] 56))
 go_enter Tryz.func59, Tryz.ntmps59
 go_wp2_with fail
 go_ret
 exact ⟨by unfold noK; rfl, HB.out⟩
theorem rin_b (x lo hi : Int) (w : World) : Calls Tryz.prog 55 #[.int .i64 x, .int .i64 lo, .int .i64 hi] w fun e w' => e = .returned (.bool (inB x lo hi)) ∧ w = w' := rin_any x lo hi w
open Go.ChangeShapes Go.WideShapes Go.ChangeAt
/-- to be used under 'with_reducible' ahead of an arm's law: the goal is a list of operations -/
theorem wpList_here {P : Program} {ops : Array Oper} {rest : List Oper} {o : Oper} {a : Act} {w : World} {Q : Exit → Act → World → Prop} (h : wpList P ops Q (o :: rest) a w) : wpList P ops Q (o :: rest) a w := h
end Go.Proofs.YtmfmgeapecapiaaGreatDoor
