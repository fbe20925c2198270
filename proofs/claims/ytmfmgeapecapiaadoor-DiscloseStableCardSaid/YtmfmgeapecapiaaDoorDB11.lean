/- sizar/disclose.Check, case 7. sizar/disclose.Check. sizar/disclose: salts; the leaf of a line. sizar/disclose: the leaf of a claim. -/
import Derived.Test.YtmfmgeapecapiaaDoorDB9
import Derived.Test.YtmfmgeapecapiaaDoorDB10
import Derived.Test.YtmfmgeapecapiaaDoorDB8
namespace Go.Proofs.YtmfmgeapecapiaaDoor
open Go.RowKit SzSha SzTree
set_option linter.unusedVariables false
set_option maxRecDepth 100000
def wCk7 (bt : Nat) (t : Tr) (p : TrP) : Nat → Value → World → Prop
  | 0, fv, _ => fv = Value.pointer (some { block := bt, off := 0 })
  | 1, fv, _ => fv = Value.int .i64 t.cam
  | 2, fv, _ => fv = Value.bool true
  | 3, fv, _ => fv = Value.bool false
  | 4, fv, _ => fv = Value.bool false
  | 5, fv, _ => fv = Value.pointer (some { block := bt, off := 1 })
  | 6, fv, _ => fv = Value.int .i64 t.stu
  | 7, fv, _ => fv = Value.bool true
  | 8, fv, _ => fv = Value.bool false
  | 9, fv, _ => fv = Value.bool false
  | 10, fv, _ => fv = Value.bool false
  | 11, fv, _ => fv = Value.pointer (some { block := bt, off := 2 })
  | 12, fv, _ => fv = Value.int .i64 t.ver
  | 13, fv, _ => fv = Value.bool true
  | 14, fv, _ => fv = Value.bool false
  | 15, fv, _ => fv = Value.bool false
  | 16, fv, _ => fv = Value.bool false
  | 17, fv, _ => fv = Value.pointer (some { block := bt, off := 3 })
  | 18, fv, _ => fv = Value.int .i64 t.kno
  | 19, fv, _ => fv = Value.bool true
  | 20, fv, _ => fv = Value.bool false
  | 21, fv, _ => fv = Value.bool false
  | 22, fv, _ => fv = Value.bool false
  | 23, fv, _ => fv = Value.pointer (some { block := bt, off := 4 })
  | 24, fv, _ => fv = Value.slice p.A p.n p.c
  | 25, fv, _ => fv = Value.int .i64 (p.n : Nat)
  | 26, fv, _ => fv = Value.bool false
  | 27, fv, _ => fv = Value.bool false
  | 28, fv, _ => fv = Value.bool false
  | 29, fv, _ => fv = Value.agg tabL
  | 30, fv, _ => fv = Value.pointer (some { block := bt, off := 4 })
  | 31, fv, _ => fv = Value.slice p.A p.n p.c
  | 32, fv, _ => fv = Value.bool true
  | 33, fv, _ => fv = Value.bool false
  | 34, fv, _ => fv = Value.bool false
  | 35, fv, _ => fv = Value.bool false
  | 36, fv, _ => fv = Value.agg tabK
  | 37, fv, _ => fv = Value.pointer (some { block := bt, off := 5 })
  | 38, fv, _ => fv = Value.slice p.A2 p.n2 p.c2
  | 39, fv, _ => fv = Value.bool true
  | 40, fv, _ => fv = Value.bool false
  | 41, fv, _ => fv = Value.bool false
  | _, _, _ => True
theorem wCk7_below {bt : Nat} {t : Tr} {p : TrP} {w w' : World} (hb : Below w.heap.size w w') : ∀ j v, wCk7 bt t p j v w → wCk7 bt t p j v w'
  | 0, v, h => h
  | 1, v, h => h
  | 2, v, h => h
  | 3, v, h => h
  | 4, v, h => h
  | 5, v, h => h
  | 6, v, h => h
  | 7, v, h => h
  | 8, v, h => h
  | 9, v, h => h
  | 10, v, h => h
  | 11, v, h => h
  | 12, v, h => h
  | 13, v, h => h
  | 14, v, h => h
  | 15, v, h => h
  | 16, v, h => h
  | 17, v, h => h
  | 18, v, h => h
  | 19, v, h => h
  | 20, v, h => h
  | 21, v, h => h
  | 22, v, h => h
  | 23, v, h => h
  | 24, v, h => h
  | 25, v, h => h
  | 26, v, h => h
  | 27, v, h => h
  | 28, v, h => h
  | 29, v, h => h
  | 30, v, h => h
  | 31, v, h => h
  | 32, v, h => h
  | 33, v, h => h
  | 34, v, h => h
  | 35, v, h => h
  | 36, v, h => h
  | 37, v, h => h
  | 38, v, h => h
  | 39, v, h => h
  | 40, v, h => h
  | 41, v, h => h
  | n + 42, v, h => trivial
set_option maxHeartbeats 8000000 in
theorem check_7 (t : Tr) (p : TrP) (w : World) (h : Hid (TrOk w t p)) (g0 : Hid (inB t.cam 0 6 = true)) (g1 : Hid (inB t.stu 0 19999 = true)) (g2 : Hid (inB t.ver 1 1048576 = true)) (g3 : Hid (inB t.kno 1 16777216 = true)) (g4 : Hid (decide (t.ln.length ≤ 4096) = true)) (g5 : Hid (chkE vLn nLn (-1) t.ln = true)) (g6 : Hid (chkE vCl nCl (-1) t.cl = true)) :
    Calls Tryd.prog 17 #[trV t p] w fun e w' => e = .returned (.int .i64 0) ∧ Below w.heap.size w w' := by
  have hml : maxLen ≤ 9223372036854775807 := by unfold maxLen; omega
  have HM1 : Hid (p.n ≤ 9223372036854775807) := Lib.hid (Nat.le_trans h.out.mn hml)
  have HM2 : Hid (p.n2 ≤ 9223372036854775807) := Lib.hid (Nat.le_trans h.out.mc hml)
  have HLN : Hid (t.ln.length = p.n) := Lib.hid h.out.ln.len
  have d4 : decide ((4096 : Int) < (p.n : Int)) = false := by
    have hg := g4.out
    rw [HLN.out] at hg
    exact decide_eq_false (by have := of_decide_eq_true hg; omega)
  clear HLN
  have HB0 := Lib.hid ((Below.refl _ w).alloc (Nat.le_refl _) (.cells (trC t p).toArray 27))
  have HR0 := Lib.hid (heap_alloc_new w (.cells (trC t p).toArray 27))
  have HO1 := Lib.hid (h.out.below HB0.out)
  rw [show trV t p = .agg (trC t p).toArray from rfl]
  clear hml
  go_enter Tryd.func17, Tryd.ntmps17
  go_wp2_with fail
  generalize w.alloc (.cells (trC t p).toArray 27) = W1 at *
  refine region_flow3 (by kernel_rfl) (by kernel_rfl) (fun i => Nat.beq i 41) (fun i => i) (by kernel_rfl) (fun fx => #[Value.agg (trC t p).toArray, Value.pointer (some { block := w.heap.size, off := 0 }), Value.int .i64 0, fx 0, fx 1, fx 2, fx 3, fx 4, fx 5, fx 6, fx 7, fx 8, fx 9, fx 10, fx 11, fx 12, fx 13, fx 14, fx 15, fx 16, fx 17, fx 18, fx 19, fx 20, fx 21, fx 22, fx 23, fx 24, fx 25, fx 26, fx 27, fx 28, fx 29, fx 30, fx 31, fx 32, fx 33, fx 34, fx 35, fx 36, fx 37, fx 38, fx 39, fx 40, fx 41]) (fun _ => undef) (fun L fx w' => Below W1.heap.size W1 w') (fun fi fv _ fw => wCk7 w.heap.size t p fi fv fw) (Below.refl _ _).drew ?_ ?_
  · refine ⟨?_, ?_, ?_, ?_, ?_, ?_, ?_, ?_, ?_, ?_, ?_, ?_, ?_, ?_, ?_, ?_, ?_, ?_, ?_, ?_, ?_, ?_, ?_, ?_, ?_, ?_, ?_, ?_, ?_, ?_, ?_, ?_, ?_, ?_, ?_, ?_, ?_, ?_, ?_, ?_, ?_, ?_, trivial⟩
    all_goals intro L fx w' hC hi hcl hdn hd
    · clear hd
      go_wp2_with fail
      exact ⟨_, rfl, hC, rfl, fun _ _ _ _ _ h => h⟩
    · have h0 : fx 0 = Value.pointer (some { block := w.heap.size, off := 0 }) := hd.1 rfl
      have hcc : w'.cell? ⟨w.heap.size, 0, none⟩ = some (Value.int .i64 t.cam) := by rw [cell_of_row _ _ _ _ _ _ (row_kept HR0.out hC)]; rfl
      clear hd
      go_wp2_with fail
      exact ⟨_, by simp only [upd, h0]; rfl, hC, rfl, fun _ _ _ _ _ h => h⟩
    · have h1 : fx 1 = Value.int .i64 t.cam := hd.1 rfl
      go_wp2_with fail
      refine (in_any t.cam 0 6 w').mono ?_
      rintro e w2 ⟨rfl, rfl⟩
      rw [show (decide (0 ≤ t.cam) && decide (t.cam ≤ 6)) = true from g0.out]
      go_wp2_with fail
      exact ⟨_, by simp only [upd, h1]; rfl, hC, rfl, fun _ _ _ _ _ h => h⟩
    · have h2 : fx 2 = Value.bool true := hd.1 rfl
      clear hd
      go_wp2_with fail
      exact ⟨_, by simp only [upd, h2]; rfl, hC, rfl, fun _ _ _ _ _ h => h⟩
    · have h3 : fx 3 = Value.bool false := hd.1 rfl
      clear hd
      go_wp2_with fail
      exact ⟨_, by simp only [upd, h3]; rfl, hC, rfl, fun _ _ _ _ _ h => h⟩
    · have h4 : fx 4 = Value.bool false := hd.1 rfl
      dsimp only
      rw [h4]
      refine wpList_unguard rfl ?_
      clear hd
      go_wp2_with fail
      exact ⟨_, by simp only [upd, h4]; rfl, hC, rfl, fun _ _ _ _ _ h => h⟩
    · have h5 : fx 5 = Value.pointer (some { block := w.heap.size, off := 1 }) := hd.1 rfl
      have h4 : fx 4 = Value.bool false := hd.2.1 rfl
      dsimp only
      rw [h4]
      refine wpList_unguard rfl ?_
      have hcc : w'.cell? ⟨w.heap.size, 1, none⟩ = some (Value.int .i64 t.stu) := by rw [cell_of_row _ _ _ _ _ _ (row_kept HR0.out hC)]; rfl
      clear hd
      go_wp2_with fail
      exact ⟨_, by simp only [upd, h5, h4]; rfl, hC, rfl, fun _ _ _ _ _ h => h⟩
    · have h6 : fx 6 = Value.int .i64 t.stu := hd.1 rfl
      have h4 : fx 4 = Value.bool false := hd.2.2.1 rfl
      dsimp only
      rw [h4]
      refine wpList_unguard rfl ?_
      go_wp2_with fail
      refine (in_any t.stu 0 19999 w').mono ?_
      rintro e w2 ⟨rfl, rfl⟩
      rw [show (decide (0 ≤ t.stu) && decide (t.stu ≤ 19999)) = true from g1.out]
      go_wp2_with fail
      exact ⟨_, by simp only [upd, h6, h4]; rfl, hC, rfl, fun _ _ _ _ _ h => h⟩
    · have h7 : fx 7 = Value.bool true := hd.1 rfl
      have h4 : fx 4 = Value.bool false := hd.2.1 rfl
      dsimp only
      rw [h4]
      refine wpList_unguard rfl ?_
      clear hd
      go_wp2_with fail
      exact ⟨_, by simp only [upd, h7, h4]; rfl, hC, rfl, fun _ _ _ _ _ h => h⟩
    · have h4 : fx 4 = Value.bool false := hd.1 rfl
      have h8 : fx 8 = Value.bool false := hd.2.1 rfl
      clear hd
      go_wp2_with fail
      exact ⟨_, by simp only [upd, h4, h8]; rfl, hC, rfl, fun _ _ _ _ _ h => h⟩
    · have h9 : fx 9 = Value.bool false := hd.1 rfl
      clear hd
      go_wp2_with fail
      exact ⟨_, by simp only [upd, h9]; rfl, hC, rfl, fun _ _ _ _ _ h => h⟩
    · have h10 : fx 10 = Value.bool false := hd.1 rfl
      dsimp only
      rw [h10]
      refine wpList_unguard rfl ?_
      clear hd
      go_wp2_with fail
      exact ⟨_, by simp only [upd, h10]; rfl, hC, rfl, fun _ _ _ _ _ h => h⟩
    · have h11 : fx 11 = Value.pointer (some { block := w.heap.size, off := 2 }) := hd.1 rfl
      have h10 : fx 10 = Value.bool false := hd.2.1 rfl
      dsimp only
      rw [h10]
      refine wpList_unguard rfl ?_
      have hcc : w'.cell? ⟨w.heap.size, 2, none⟩ = some (Value.int .i64 t.ver) := by rw [cell_of_row _ _ _ _ _ _ (row_kept HR0.out hC)]; rfl
      clear hd
      go_wp2_with fail
      exact ⟨_, by simp only [upd, h11, h10]; rfl, hC, rfl, fun _ _ _ _ _ h => h⟩
    · have h12 : fx 12 = Value.int .i64 t.ver := hd.1 rfl
      have h10 : fx 10 = Value.bool false := hd.2.2.1 rfl
      dsimp only
      rw [h10]
      refine wpList_unguard rfl ?_
      go_wp2_with fail
      refine (in_any t.ver 1 1048576 w').mono ?_
      rintro e w2 ⟨rfl, rfl⟩
      rw [show (decide (1 ≤ t.ver) && decide (t.ver ≤ 1048576)) = true from g2.out]
      go_wp2_with fail
      exact ⟨_, by simp only [upd, h12, h10]; rfl, hC, rfl, fun _ _ _ _ _ h => h⟩
    · have h13 : fx 13 = Value.bool true := hd.1 rfl
      have h10 : fx 10 = Value.bool false := hd.2.1 rfl
      dsimp only
      rw [h10]
      refine wpList_unguard rfl ?_
      clear hd
      go_wp2_with fail
      exact ⟨_, by simp only [upd, h13, h10]; rfl, hC, rfl, fun _ _ _ _ _ h => h⟩
    · have h10 : fx 10 = Value.bool false := hd.1 rfl
      have h14 : fx 14 = Value.bool false := hd.2.1 rfl
      clear hd
      go_wp2_with fail
      exact ⟨_, by simp only [upd, h10, h14]; rfl, hC, rfl, fun _ _ _ _ _ h => h⟩
    · have h15 : fx 15 = Value.bool false := hd.1 rfl
      clear hd
      go_wp2_with fail
      exact ⟨_, by simp only [upd, h15]; rfl, hC, rfl, fun _ _ _ _ _ h => h⟩
    · have h16 : fx 16 = Value.bool false := hd.1 rfl
      dsimp only
      rw [h16]
      refine wpList_unguard rfl ?_
      clear hd
      go_wp2_with fail
      exact ⟨_, by simp only [upd, h16]; rfl, hC, rfl, fun _ _ _ _ _ h => h⟩
    · have h17 : fx 17 = Value.pointer (some { block := w.heap.size, off := 3 }) := hd.1 rfl
      have h16 : fx 16 = Value.bool false := hd.2.1 rfl
      dsimp only
      rw [h16]
      refine wpList_unguard rfl ?_
      have hcc : w'.cell? ⟨w.heap.size, 3, none⟩ = some (Value.int .i64 t.kno) := by rw [cell_of_row _ _ _ _ _ _ (row_kept HR0.out hC)]; rfl
      clear hd
      go_wp2_with fail
      exact ⟨_, by simp only [upd, h17, h16]; rfl, hC, rfl, fun _ _ _ _ _ h => h⟩
    · have h18 : fx 18 = Value.int .i64 t.kno := hd.1 rfl
      have h16 : fx 16 = Value.bool false := hd.2.2.1 rfl
      dsimp only
      rw [h16]
      refine wpList_unguard rfl ?_
      go_wp2_with fail
      refine (in_any t.kno 1 16777216 w').mono ?_
      rintro e w2 ⟨rfl, rfl⟩
      rw [show (decide (1 ≤ t.kno) && decide (t.kno ≤ 16777216)) = true from g3.out]
      go_wp2_with fail
      exact ⟨_, by simp only [upd, h18, h16]; rfl, hC, rfl, fun _ _ _ _ _ h => h⟩
    · have h19 : fx 19 = Value.bool true := hd.1 rfl
      have h16 : fx 16 = Value.bool false := hd.2.1 rfl
      dsimp only
      rw [h16]
      refine wpList_unguard rfl ?_
      clear hd
      go_wp2_with fail
      exact ⟨_, by simp only [upd, h19, h16]; rfl, hC, rfl, fun _ _ _ _ _ h => h⟩
    · have h16 : fx 16 = Value.bool false := hd.1 rfl
      have h20 : fx 20 = Value.bool false := hd.2.1 rfl
      clear hd
      go_wp2_with fail
      exact ⟨_, by simp only [upd, h16, h20]; rfl, hC, rfl, fun _ _ _ _ _ h => h⟩
    · have h21 : fx 21 = Value.bool false := hd.1 rfl
      clear hd
      go_wp2_with fail
      exact ⟨_, by simp only [upd, h21]; rfl, hC, rfl, fun _ _ _ _ _ h => h⟩
    · have h22 : fx 22 = Value.bool false := hd.1 rfl
      dsimp only
      rw [h22]
      refine wpList_unguard rfl ?_
      clear hd
      go_wp2_with fail
      exact ⟨_, by simp only [upd, h22]; rfl, hC, rfl, fun _ _ _ _ _ h => h⟩
    · have h23 : fx 23 = Value.pointer (some { block := w.heap.size, off := 4 }) := hd.1 rfl
      have h22 : fx 22 = Value.bool false := hd.2.1 rfl
      dsimp only
      rw [h22]
      refine wpList_unguard rfl ?_
      have hcc : w'.cell? ⟨w.heap.size, 4, none⟩ = some (Value.slice p.A p.n p.c) := by rw [cell_of_row _ _ _ _ _ _ (row_kept HR0.out hC)]; rfl
      clear hd
      go_wp2_with fail
      exact ⟨_, by simp only [upd, h23, h22]; rfl, hC, rfl, fun _ _ _ _ _ h => h⟩
    · have h24 : fx 24 = Value.slice p.A p.n p.c := hd.1 rfl
      have h22 : fx 22 = Value.bool false := hd.2.1 rfl
      dsimp only
      rw [h22]
      refine wpList_unguard rfl ?_
      clear hd
      go_wp2_with fail
      exact ⟨_, by simp only [upd, h24, h22]; rfl, hC, rfl, fun _ _ _ _ _ h => h⟩
    · have h25 : fx 25 = Value.int .i64 (p.n : Nat) := hd.1 rfl
      have h22 : fx 22 = Value.bool false := hd.2.1 rfl
      dsimp only
      rw [h22]
      refine wpList_unguard rfl ?_
      clear hd
      go_wp2_with fail
      exact ⟨_, by simp only [upd, h25, h22]; rfl, hC, rfl, fun _ _ _ _ _ h => h⟩
    · have h22 : fx 22 = Value.bool false := hd.1 rfl
      have h26 : fx 26 = Value.bool false := hd.2.1 rfl
      clear hd
      go_wp2_with fail
      exact ⟨_, by simp only [upd, h22, h26]; rfl, hC, rfl, fun _ _ _ _ _ h => h⟩
    · have h27 : fx 27 = Value.bool false := hd.1 rfl
      clear hd
      go_wp2_with fail
      exact ⟨_, by simp only [upd, h27]; rfl, hC, rfl, fun _ _ _ _ _ h => h⟩
    · have h28 : fx 28 = Value.bool false := hd.2.1 rfl
      dsimp only
      rw [h28]
      refine wpList_unguard rfl ?_
      go_wp2_with fail
      refine (lines_any w').mono ?_
      rintro e w2 ⟨rfl, hq⟩
      go_wp2_with fail
      exact ⟨_, by simp only [upd, h28]; rfl, hC.trans (hq.mono hC.size), rfl, fun j v t _ _ h => wCk7_below hq j v h⟩
    · have h28 : fx 28 = Value.bool false := hd.1 rfl
      dsimp only
      rw [h28]
      refine wpList_unguard rfl ?_
      clear hd
      go_wp2_with fail
      exact ⟨_, by simp only [upd, h28]; rfl, hC, rfl, fun _ _ _ _ _ h => h⟩
    · have h30 : fx 30 = Value.pointer (some { block := w.heap.size, off := 4 }) := hd.1 rfl
      have h28 : fx 28 = Value.bool false := hd.2.1 rfl
      dsimp only
      rw [h28]
      refine wpList_unguard rfl ?_
      have hcc : w'.cell? ⟨w.heap.size, 4, none⟩ = some (Value.slice p.A p.n p.c) := by rw [cell_of_row _ _ _ _ _ _ (row_kept HR0.out hC)]; rfl
      clear hd
      go_wp2_with fail
      exact ⟨_, by simp only [upd, h30, h28]; rfl, hC, rfl, fun _ _ _ _ _ h => h⟩
    · have h29 : fx 29 = Value.agg tabL := hd.1 rfl
      have h31 : fx 31 = Value.slice p.A p.n p.c := hd.2.1 rfl
      have h28 : fx 28 = Value.bool false := hd.2.2.2.1 rfl
      dsimp only
      rw [h28]
      refine wpList_unguard rfl ?_
      go_wp2_with fail
      refine (checkL t.ln p.A p.n p.c w' HM1.out (Lib.hid (HO1.out.ln.below hC))).mono ?_
      rintro e w2 ⟨rfl, hq⟩
      rw [g5.out]
      go_wp2_with fail
      exact ⟨_, by simp only [upd, h29, h31, h28]; rfl, hC.trans (hq.mono hC.size), rfl, fun j v t _ _ h => wCk7_below hq j v h⟩
    · have h32 : fx 32 = Value.bool true := hd.1 rfl
      have h28 : fx 28 = Value.bool false := hd.2.1 rfl
      dsimp only
      rw [h28]
      refine wpList_unguard rfl ?_
      clear hd
      go_wp2_with fail
      exact ⟨_, by simp only [upd, h32, h28]; rfl, hC, rfl, fun _ _ _ _ _ h => h⟩
    · have h28 : fx 28 = Value.bool false := hd.1 rfl
      have h33 : fx 33 = Value.bool false := hd.2.1 rfl
      clear hd
      go_wp2_with fail
      exact ⟨_, by simp only [upd, h28, h33]; rfl, hC, rfl, fun _ _ _ _ _ h => h⟩
    · have h34 : fx 34 = Value.bool false := hd.1 rfl
      clear hd
      go_wp2_with fail
      exact ⟨_, by simp only [upd, h34]; rfl, hC, rfl, fun _ _ _ _ _ h => h⟩
    · have h35 : fx 35 = Value.bool false := hd.2.1 rfl
      dsimp only
      rw [h35]
      refine wpList_unguard rfl ?_
      go_wp2_with fail
      refine (claims_any w').mono ?_
      rintro e w2 ⟨rfl, hq⟩
      go_wp2_with fail
      exact ⟨_, by simp only [upd, h35]; rfl, hC.trans (hq.mono hC.size), rfl, fun j v t _ _ h => wCk7_below hq j v h⟩
    · have h35 : fx 35 = Value.bool false := hd.1 rfl
      dsimp only
      rw [h35]
      refine wpList_unguard rfl ?_
      clear hd
      go_wp2_with fail
      exact ⟨_, by simp only [upd, h35]; rfl, hC, rfl, fun _ _ _ _ _ h => h⟩
    · have h37 : fx 37 = Value.pointer (some { block := w.heap.size, off := 5 }) := hd.1 rfl
      have h35 : fx 35 = Value.bool false := hd.2.1 rfl
      dsimp only
      rw [h35]
      refine wpList_unguard rfl ?_
      have hcc : w'.cell? ⟨w.heap.size, 5, none⟩ = some (Value.slice p.A2 p.n2 p.c2) := by rw [cell_of_row _ _ _ _ _ _ (row_kept HR0.out hC)]; rfl
      clear hd
      go_wp2_with fail
      exact ⟨_, by simp only [upd, h37, h35]; rfl, hC, rfl, fun _ _ _ _ _ h => h⟩
    · have h36 : fx 36 = Value.agg tabK := hd.1 rfl
      have h38 : fx 38 = Value.slice p.A2 p.n2 p.c2 := hd.2.1 rfl
      have h35 : fx 35 = Value.bool false := hd.2.2.2.1 rfl
      dsimp only
      rw [h35]
      refine wpList_unguard rfl ?_
      go_wp2_with fail
      refine (checkK t.cl p.A2 p.n2 p.c2 w' HM2.out (Lib.hid (HO1.out.cl.below hC))).mono ?_
      rintro e w2 ⟨rfl, hq⟩
      rw [g6.out]
      go_wp2_with fail
      exact ⟨_, by simp only [upd, h36, h38, h35]; rfl, hC.trans (hq.mono hC.size), rfl, fun j v t _ _ h => wCk7_below hq j v h⟩
    · have h39 : fx 39 = Value.bool true := hd.1 rfl
      have h35 : fx 35 = Value.bool false := hd.2.1 rfl
      dsimp only
      rw [h35]
      refine wpList_unguard rfl ?_
      clear hd
      go_wp2_with fail
      exact ⟨_, by simp only [upd, h39, h35]; rfl, hC, rfl, fun _ _ _ _ _ h => h⟩
    · have h35 : fx 35 = Value.bool false := hd.1 rfl
      have h40 : fx 40 = Value.bool false := hd.2.1 rfl
      clear hd
      go_wp2_with fail
      exact ⟨_, by simp only [upd, h35, h40]; rfl, hC, rfl, fun _ _ _ _ _ h => h⟩
  · intro L fo w' hC hS
    have H41 := Lib.hid (hS 41 (by decide) rfl)
    have h41 : fo 41 = Value.bool false := H41.out
    rw [h41]
    have HBC := Lib.hid (HB0.out.trans (hC.mono HB0.out.size))
    clear hS hC h41 H41
    go_wp2_with fail
    go_ret
    exact ⟨rfl, HBC.out⟩
end Go.Proofs.YtmfmgeapecapiaaDoor
namespace Go.Proofs.YtmfmgeapecapiaaDoor
open Go.RowKit SzSha SzTree
set_option linter.unusedVariables false
set_option maxRecDepth 100000
theorem check_any (t : Tr) (p : TrP) (w : World) (h : Hid (TrOk w t p)) :
    Calls Tryd.prog 17 #[trV t p] w fun e w' => e = .returned (.int .i64 (trE t)) ∧ Below w.heap.size w w' := by
  by_cases g0 : (inB t.cam 0 6) = true
  rotate_left
  · have hf : (inB t.cam 0 6) = false := by rw [Bool.not_eq_true] at g0; exact g0
    rw [show trE t = 420 from by unfold trE trG; rw [hf]; rfl]
    exact check_0 t p w h  (Lib.hid hf)
  by_cases g1 : (inB t.stu 0 19999) = true
  rotate_left
  · have hf : (inB t.stu 0 19999) = false := by rw [Bool.not_eq_true] at g1; exact g1
    rw [show trE t = 420 from by unfold trE trG; rw [g0, hf]; rfl]
    exact check_1 t p w h (Lib.hid g0) (Lib.hid hf)
  by_cases g2 : (inB t.ver 1 1048576) = true
  rotate_left
  · have hf : (inB t.ver 1 1048576) = false := by rw [Bool.not_eq_true] at g2; exact g2
    rw [show trE t = 420 from by unfold trE trG; rw [g0, g1, hf]; rfl]
    exact check_2 t p w h (Lib.hid g0) (Lib.hid g1) (Lib.hid hf)
  by_cases g3 : (inB t.kno 1 16777216) = true
  rotate_left
  · have hf : (inB t.kno 1 16777216) = false := by rw [Bool.not_eq_true] at g3; exact g3
    rw [show trE t = 420 from by unfold trE trG; rw [g0, g1, g2, hf]; rfl]
    exact check_3 t p w h (Lib.hid g0) (Lib.hid g1) (Lib.hid g2) (Lib.hid hf)
  by_cases g4 : (decide (t.ln.length ≤ 4096)) = true
  rotate_left
  · have hf : (decide (t.ln.length ≤ 4096)) = false := by rw [Bool.not_eq_true] at g4; exact g4
    rw [show trE t = 420 from by unfold trE trG; rw [g0, g1, g2, g3, hf]; rfl]
    exact check_4 t p w h (Lib.hid g0) (Lib.hid g1) (Lib.hid g2) (Lib.hid g3) (Lib.hid hf)
  by_cases g5 : (chkE vLn nLn (-1) t.ln) = true
  rotate_left
  · have hf : (chkE vLn nLn (-1) t.ln) = false := by rw [Bool.not_eq_true] at g5; exact g5
    rw [show trE t = 420 from by unfold trE trG; rw [g0, g1, g2, g3, g4, hf]; rfl]
    exact check_5 t p w h (Lib.hid g0) (Lib.hid g1) (Lib.hid g2) (Lib.hid g3) (Lib.hid g4) (Lib.hid hf)
  by_cases g6 : (chkE vCl nCl (-1) t.cl) = true
  rotate_left
  · have hf : (chkE vCl nCl (-1) t.cl) = false := by rw [Bool.not_eq_true] at g6; exact g6
    rw [show trE t = 420 from by unfold trE trG; rw [g0, g1, g2, g3, g4, g5, hf]; rfl]
    exact check_6 t p w h (Lib.hid g0) (Lib.hid g1) (Lib.hid g2) (Lib.hid g3) (Lib.hid g4) (Lib.hid g5) (Lib.hid hf)
  rw [show trE t = 0 from by unfold trE trG; rw [g0, g1, g2, g3, g4, g5, g6]; rfl]
  exact check_7 t p w h (Lib.hid g0) (Lib.hid g1) (Lib.hid g2) (Lib.hid g3) (Lib.hid g4) (Lib.hid g5) (Lib.hid g6)
end Go.Proofs.YtmfmgeapecapiaaDoor
namespace Go.Proofs.YtmfmgeapecapiaaDoor
open Go.RowKit SzSha SzTree
set_option linter.unusedVariables false
set_option maxRecDepth 100000
theorem rows_four (w : World) (X Y Z : Array Value) (s t u : Nat) (o : Obj) : Below w.heap.size w ((((w.alloc (.cells X s)).alloc (.cells Y t)).alloc (.cells Z u)).alloc o) ∧ ((((w.alloc (.cells X s)).alloc (.cells Y t)).alloc (.cells Z u)).alloc o).heap[w.heap.size]? = some (.cells X s (0, 0)) ∧ ((((w.alloc (.cells X s)).alloc (.cells Y t)).alloc (.cells Z u)).alloc o).heap[w.heap.size + 1]? = some (.cells Y t (0, 0)) ∧ ((((w.alloc (.cells X s)).alloc (.cells Y t)).alloc (.cells Z u)).alloc o).heap[w.heap.size + 1 + 1]? = some (.cells Z u (0, 0)) ∧ ((((w.alloc (.cells X s)).alloc (.cells Y t)).alloc (.cells Z u)).alloc o).heap[w.heap.size + 1 + 1 + 1]? = some o := by
  have h1 := heap_alloc_new (w.alloc (.cells X s)) (.cells Y t)
  have h2 := heap_alloc_new ((w.alloc (.cells X s)).alloc (.cells Y t)) (.cells Z u)
  have h3 := heap_alloc_new (((w.alloc (.cells X s)).alloc (.cells Y t)).alloc (.cells Z u)) o
  simp only [World.size_alloc] at h1 h2 h3
  exact ⟨((((Below.refl _ w).alloc (Nat.le_refl _) _).alloc (by simp) _).alloc (by simp; omega) _).alloc (by simp; omega) _, by rw [Below.heap_alloc _ _ _ (by simp; omega), Below.heap_alloc _ _ _ (by simp; omega), Below.heap_alloc _ _ _ (by simp)]; exact heap_alloc_new w _, by rw [Below.heap_alloc _ _ _ (by simp), Below.heap_alloc _ _ _ (by simp)]; exact h1, by rw [Below.heap_alloc _ _ _ (by simp)]; exact h2, h3⟩
theorem rows_three (w : World) (X Y : Array Value) (s t : Nat) (o : Obj) : Below w.heap.size w (((w.alloc (.cells X s)).alloc (.cells Y t)).alloc o) ∧ (((w.alloc (.cells X s)).alloc (.cells Y t)).alloc o).heap[w.heap.size]? = some (.cells X s (0, 0)) ∧ (((w.alloc (.cells X s)).alloc (.cells Y t)).alloc o).heap[w.heap.size + 1]? = some (.cells Y t (0, 0)) ∧ (((w.alloc (.cells X s)).alloc (.cells Y t)).alloc o).heap[w.heap.size + 1 + 1]? = some o := by
  have h1 := heap_alloc_new (w.alloc (.cells X s)) (.cells Y t)
  have h2 := heap_alloc_new ((w.alloc (.cells X s)).alloc (.cells Y t)) o
  simp only [World.size_alloc] at h1 h2
  exact ⟨(((Below.refl _ w).alloc (Nat.le_refl _) _).alloc (by simp) _).alloc (by simp; omega) _, by rw [Below.heap_alloc _ _ _ (by simp; omega), Below.heap_alloc _ _ _ (by simp)]; exact heap_alloc_new w _, by rw [Below.heap_alloc _ _ _ (by simp)]; exact h1, h2⟩
theorem saltN_ok (l : List Nat) (k z : Int) : DgOk (saltN l k z) := ⟨saltN_length l k z, tagged_bytes _ _⟩
theorem lnC_info3 (x : Ln) : (Tryd.prog.info? 41).map (·.size) = some (lnC x).toArray.size := by show _ = some 5; kernel_rfl
theorem clC_info3 (x : Cl) : (Tryd.prog.info? 49).map (·.size) = some (clC x).toArray.size := by show _ = some 3; kernel_rfl
def wSaL (W0 : World) (bt : Nat) (br : Nat) (base : List Nat) (x : Ln) : Nat → Value → World → Prop
  | 0, fv, _ => fv = dgV base
  | 1, fv, _ => fv = Value.pointer (some { block := bt, off := 0 })
  | 2, fv, _ => fv = Value.int .i64 1
  | 3, fv, _ => fv = Value.pointer (some { block := bt, off := 2 })
  | 4, fv, _ => fv = Value.func (.func 86) #[] #[]
  | 5, fv, _ => fv = lnV x
  | 6, fv, _ => fv = Value.int .i64 (nLn x)
  | 7, fv, _ => fv = dgV (saltN base 1 (nLn x))
  | 8, fv, fw => fw.heap[br]? = some (.cells (dgC (saltN base 1 (nLn x))).toArray 25 (0, 0)) ∧ Below W0.heap.size W0 fw
  | _, _, _ => True
theorem wSaL_below {W0 : World} {bt : Nat} {br : Nat} {base : List Nat} {x : Ln} {w w' : World} (hb : Below w.heap.size w w') : ∀ j v, wSaL W0 bt br base x j v w → wSaL W0 bt br base x j v w'
  | 0, v, h => h
  | 1, v, h => h
  | 2, v, h => h
  | 3, v, h => h
  | 4, v, h => h
  | 5, v, h => h
  | 6, v, h => h
  | 7, v, h => h
  | 8, v, h => ⟨row_kept h.1 hb, h.2.trans (hb.mono h.2.size)⟩
  | n + 9, v, h => trivial
theorem wSaL_pure {W0 : World} {bt : Nat} {br : Nat} {base : List Nat} {x : Ln} {w w' : World} : ∀ j v, j ≠ 8 → wSaL W0 bt br base x j v w → wSaL W0 bt br base x j v w'
  | 0, v, _, h => h
  | 1, v, _, h => h
  | 2, v, _, h => h
  | 3, v, _, h => h
  | 4, v, _, h => h
  | 5, v, _, h => h
  | 6, v, _, h => h
  | 7, v, _, h => h
  | 8, v, hh, _ => absurd rfl hh
  | n + 9, v, _, h => trivial
set_option maxHeartbeats 4000000 in
theorem saltL (base : List Nat) (x : Ln) (w : World) (hba : Hid (DgOk base)) (hT : Hid (Tabs w)) :
    Calls Tryd.prog 61 #[.agg tabL, dgV base, lnV x] w fun e w' => e = .returned (dgV (saltN base 1 (nLn x))) ∧ Below w.heap.size w w' := by
  obtain ⟨t1, t2, t3, t4, t5⟩ := rows_four w tabL (dgC base).toArray (lnC x).toArray 106 25 41 (.cells (dgC zeroD).toArray 25)
  rw [zeroD_cells] at t1 t2 t3 t4 t5
  have HB0 := Lib.hid t1
  have HT0 := Lib.hid t2
  have HRB := Lib.hid t3
  have HRX := Lib.hid t4
  have HRR := Lib.hid t5
  have hT1 := Lib.hid (hT.out.below t1)
  have HIB := Lib.hid (dgC_info hba.out)
  have HIX := Lib.hid (lnC_info3 x)
  have HBD := Lib.hid (noL_bd x.c0 x.c1)
  have HS1 := Lib.hid (dgC_info (saltN_ok base 1 (nLn x)))
  have HS2 := Lib.hid (dgC_size (saltN_ok base 1 (nLn x)))
  clear t1 t2 t3 t4 t5
  rw [dgV_agg base, show lnV x = .agg (lnC x).toArray from rfl]
  go_enter Tryd.func61, Tryd.ntmps61
  go_wp2_with fail
  generalize ((((w.alloc (.cells tabL 106)).alloc (.cells (dgC base).toArray 25)).alloc (.cells (lnC x).toArray 41)).alloc (.cells #[.int .u8 0, .int .u8 0, .int .u8 0, .int .u8 0, .int .u8 0, .int .u8 0, .int .u8 0, .int .u8 0, .int .u8 0, .int .u8 0, .int .u8 0, .int .u8 0, .int .u8 0, .int .u8 0, .int .u8 0, .int .u8 0, .int .u8 0, .int .u8 0, .int .u8 0, .int .u8 0, .int .u8 0, .int .u8 0, .int .u8 0, .int .u8 0, .int .u8 0, .int .u8 0, .int .u8 0, .int .u8 0, .int .u8 0, .int .u8 0, .int .u8 0, .int .u8 0] 25)) = W1 at *
  refine region_flow4 (by kernel_rfl) (by kernel_rfl) (fun i => Nat.beq i 8) (fun i => i) (by kernel_rfl) (fun fx => #[Value.agg tabL, Value.agg (dgC base).toArray, Value.agg (lnC x).toArray, Value.pointer (some { block := w.heap.size, off := 0 }), Value.pointer (some { block := w.heap.size + 1, off := 0 }), Value.pointer (some { block := w.heap.size + 1 + 1, off := 0 }), Value.pointer (some { block := w.heap.size + 1 + 1 + 1, off := 0 }), fx 0, fx 1, fx 2, fx 3, fx 4, fx 5, fx 6, fx 7]) (fun _ => undef) (fun L fx w' => (L 8 = false → Below W1.heap.size W1 w')) (fun fi fv _ fw => wSaL w w.heap.size (w.heap.size + 1 + 1 + 1) base x fi fv fw) (fun _ => (Below.refl _ _).drew) ?_ ?_
  · refine ⟨?_, ?_, ?_, ?_, ?_, ?_, ?_, ?_, ?_, trivial⟩
    all_goals intro L fx w' hC hi hcl hdn hd
    · have hnd : L 8 = false := Bool.eq_false_iff.2 (fun h => by have := hcl 8 0 h (by kernel_rfl); rw [hi] at this; cases this)
      have hrow := row_kept HRB.out (hC hnd)
      refine wpList_load_row rfl 25 (.tmp 4) rfl (w.heap.size + 1) rfl 25 _ (0, 0) _ hrow Tryd.underlying25 rfl HIB.out ?_
      clear hd
      go_wp2_with fail
      exact ⟨_, rfl, fun _ => hC hnd, rfl, fun _ _ _ _ _ h => h⟩
    · have hnd : L 8 = false := Bool.eq_false_iff.2 (fun h => by have := hcl 8 1 h (by kernel_rfl); rw [hi] at this; cases this)
      go_wp2_with fail
      exact ⟨_, rfl, (fun _ => hC hnd), rfl, fun _ _ _ _ _ h => h⟩
    · have h1 : fx 1 = Value.pointer (some { block := w.heap.size, off := 0 }) := hd.1 rfl
      have hnd : L 8 = false := Bool.eq_false_iff.2 (fun h => by have := hcl 8 2 h (by kernel_rfl); rw [hi] at this; cases this)
      have hcc : w'.cell? ⟨w.heap.size, 0, none⟩ = some (Value.int .i64 1) := by rw [cell_of_row _ _ _ _ _ _ (row_kept HT0.out (hC hnd))]; rfl
      go_wp2_with fail
      exact ⟨_, by simp only [upd, h1]; rfl, (fun _ => hC hnd), rfl, fun _ _ _ _ _ h => h⟩
    · have hnd : L 8 = false := Bool.eq_false_iff.2 (fun h => by have := hcl 8 3 h (by kernel_rfl); rw [hi] at this; cases this)
      go_wp2_with fail
      exact ⟨_, rfl, (fun _ => hC hnd), rfl, fun _ _ _ _ _ h => h⟩
    · have h3 : fx 3 = Value.pointer (some { block := w.heap.size, off := 2 }) := hd.1 rfl
      have hnd : L 8 = false := Bool.eq_false_iff.2 (fun h => by have := hcl 8 4 h (by kernel_rfl); rw [hi] at this; cases this)
      have hcc : w'.cell? ⟨w.heap.size, 2, none⟩ = some (Value.func (.func 86) #[] #[]) := by rw [cell_of_row _ _ _ _ _ _ (row_kept HT0.out (hC hnd))]; rfl
      go_wp2_with fail
      exact ⟨_, by simp only [upd, h3]; rfl, (fun _ => hC hnd), rfl, fun _ _ _ _ _ h => h⟩
    · have hnd : L 8 = false := Bool.eq_false_iff.2 (fun h => by have := hcl 8 5 h (by kernel_rfl); rw [hi] at this; cases this)
      have hrow := row_kept HRX.out (hC hnd)
      refine wpList_load_row rfl 41 (.tmp 5) rfl (w.heap.size + 1 + 1) rfl 41 _ (0, 0) _ hrow Tryd.underlying41 rfl HIX.out ?_
      clear hd
      go_wp2_with fail
      exact ⟨_, rfl, fun _ => hC hnd, rfl, fun _ _ _ _ _ h => h⟩
    · have h4 : fx 4 = Value.func (.func 86) #[] #[] := hd.1 rfl
      have h5 : fx 5 = lnV x := hd.2.1 rfl
      have hnd : L 8 = false := Bool.eq_false_iff.2 (fun h => by have := hcl 8 6 h (by kernel_rfl); rw [hi] at this; cases this)
      have hb12 := hC hnd
      go_wp2_with fail
      refine (nline_x x w').mono ?_
      rintro e w2 ⟨rfl, hq⟩
      go_wp2_with fail
      exact ⟨_, by simp only [upd, h4, h5]; rfl, fun _ => hb12.trans (hq.mono hb12.size), rfl, fun j v t _ _ h => wSaL_below hq j v h⟩
    · have h0 : fx 0 = dgV base := hd.1 rfl
      have h2 : fx 2 = Value.int .i64 1 := hd.2.1 rfl
      have h6 : fx 6 = Value.int .i64 (nLn x) := hd.2.2.1 rfl
      have hnd : L 8 = false := Bool.eq_false_iff.2 (fun h => by have := hcl 8 7 h (by kernel_rfl); rw [hi] at this; cases this)
      have hb12 := hC hnd
      go_wp2_with fail
      refine (salt_any base 1 (nLn x) w' (Lib.hid hba.out.len) (Lib.hid hba.out.bytes) (by decide) (by decide) HBD.out.1 HBD.out.2 (Lib.hid (hT1.out.below hb12))).mono ?_
      rintro e w2 ⟨rfl, hq⟩
      go_wp2_with fail
      exact ⟨_, by simp only [upd, h0, h2, h6]; rfl, fun _ => hb12.trans (hq.mono hb12.size), rfl, fun j v t _ _ h => wSaL_below hq j v h⟩
    · have h7 : fx 7 = dgV (saltN base 1 (nLn x)) := hd.1 rfl
      have hb21 := hC hi
      have hrow := row_kept HRR.out hb21
      refine wpList_store_row rfl 25 (.tmp 6) (.tmp 14) rfl (w.heap.size + 1 + 1 + 1) (dgC (saltN base 1 (nLn x))).toArray rfl h7 25 _ hrow HS1.out HS2.out (dgC_one _) ?_
      clear hd
      go_wp2_with fail
      refine ⟨undef, by rw [← h7]; rfl, fun h => (updB_self h).elim, ⟨setRow_heap _ _ _ _ _ _ hrow, below_setRow (HB0.out.trans (hb21.mono HB0.out.size)) (by omega) _⟩, fun j v t hj hu h => ?_⟩
      refine wSaL_pure j v ?_ h
      intro e; subst e
      rw [hi] at hj; cases hj
  · intro L fx w' hC hS
    have H8 := Lib.hid (hS 8 (by decide) rfl)
    clear hS hC
    go_wp2_with fail
    refine bodyPost_ret (results_cell_row rfl _ _ (w.heap.size + 1 + 1 + 1) 25 _ (0, 0) _ rfl H8.out.1 Tryd.underlying25 rfl HS1.out) rfl ?_
    exact ⟨rfl, H8.out.2⟩
def wSaK (W0 : World) (bt : Nat) (br : Nat) (base : List Nat) (x : Cl) : Nat → Value → World → Prop
  | 0, fv, _ => fv = dgV base
  | 1, fv, _ => fv = Value.pointer (some { block := bt, off := 0 })
  | 2, fv, _ => fv = Value.int .i64 2
  | 3, fv, _ => fv = Value.pointer (some { block := bt, off := 2 })
  | 4, fv, _ => fv = Value.func (.func 91) #[] #[]
  | 5, fv, _ => fv = clV x
  | 6, fv, _ => fv = Value.int .i64 (nCl x)
  | 7, fv, _ => fv = dgV (saltN base 2 (nCl x))
  | 8, fv, fw => fw.heap[br]? = some (.cells (dgC (saltN base 2 (nCl x))).toArray 25 (0, 0)) ∧ Below W0.heap.size W0 fw
  | _, _, _ => True
theorem wSaK_below {W0 : World} {bt : Nat} {br : Nat} {base : List Nat} {x : Cl} {w w' : World} (hb : Below w.heap.size w w') : ∀ j v, wSaK W0 bt br base x j v w → wSaK W0 bt br base x j v w'
  | 0, v, h => h
  | 1, v, h => h
  | 2, v, h => h
  | 3, v, h => h
  | 4, v, h => h
  | 5, v, h => h
  | 6, v, h => h
  | 7, v, h => h
  | 8, v, h => ⟨row_kept h.1 hb, h.2.trans (hb.mono h.2.size)⟩
  | n + 9, v, h => trivial
theorem wSaK_pure {W0 : World} {bt : Nat} {br : Nat} {base : List Nat} {x : Cl} {w w' : World} : ∀ j v, j ≠ 8 → wSaK W0 bt br base x j v w → wSaK W0 bt br base x j v w'
  | 0, v, _, h => h
  | 1, v, _, h => h
  | 2, v, _, h => h
  | 3, v, _, h => h
  | 4, v, _, h => h
  | 5, v, _, h => h
  | 6, v, _, h => h
  | 7, v, _, h => h
  | 8, v, hh, _ => absurd rfl hh
  | n + 9, v, _, h => trivial
set_option maxHeartbeats 4000000 in
theorem saltK (base : List Nat) (x : Cl) (w : World) (hba : Hid (DgOk base)) (hT : Hid (Tabs w)) :
    Calls Tryd.prog 98 #[.agg tabK, dgV base, clV x] w fun e w' => e = .returned (dgV (saltN base 2 (nCl x))) ∧ Below w.heap.size w w' := by
  obtain ⟨t1, t2, t3, t4, t5⟩ := rows_four w tabK (dgC base).toArray (clC x).toArray 113 25 49 (.cells (dgC zeroD).toArray 25)
  rw [zeroD_cells] at t1 t2 t3 t4 t5
  have HB0 := Lib.hid t1
  have HT0 := Lib.hid t2
  have HRB := Lib.hid t3
  have HRX := Lib.hid t4
  have HRR := Lib.hid t5
  have hT1 := Lib.hid (hT.out.below t1)
  have HIB := Lib.hid (dgC_info hba.out)
  have HIX := Lib.hid (clC_info3 x)
  have HBD := Lib.hid (noK_bd x.p x.r)
  have HS1 := Lib.hid (dgC_info (saltN_ok base 2 (nCl x)))
  have HS2 := Lib.hid (dgC_size (saltN_ok base 2 (nCl x)))
  clear t1 t2 t3 t4 t5
  rw [dgV_agg base, show clV x = .agg (clC x).toArray from rfl]
  go_enter Tryd.func98, Tryd.ntmps98
  go_wp2_with fail
  generalize ((((w.alloc (.cells tabK 113)).alloc (.cells (dgC base).toArray 25)).alloc (.cells (clC x).toArray 49)).alloc (.cells #[.int .u8 0, .int .u8 0, .int .u8 0, .int .u8 0, .int .u8 0, .int .u8 0, .int .u8 0, .int .u8 0, .int .u8 0, .int .u8 0, .int .u8 0, .int .u8 0, .int .u8 0, .int .u8 0, .int .u8 0, .int .u8 0, .int .u8 0, .int .u8 0, .int .u8 0, .int .u8 0, .int .u8 0, .int .u8 0, .int .u8 0, .int .u8 0, .int .u8 0, .int .u8 0, .int .u8 0, .int .u8 0, .int .u8 0, .int .u8 0, .int .u8 0, .int .u8 0] 25)) = W1 at *
  refine region_flow4 (by kernel_rfl) (by kernel_rfl) (fun i => Nat.beq i 8) (fun i => i) (by kernel_rfl) (fun fx => #[Value.agg tabK, Value.agg (dgC base).toArray, Value.agg (clC x).toArray, Value.pointer (some { block := w.heap.size, off := 0 }), Value.pointer (some { block := w.heap.size + 1, off := 0 }), Value.pointer (some { block := w.heap.size + 1 + 1, off := 0 }), Value.pointer (some { block := w.heap.size + 1 + 1 + 1, off := 0 }), fx 0, fx 1, fx 2, fx 3, fx 4, fx 5, fx 6, fx 7]) (fun _ => undef) (fun L fx w' => (L 8 = false → Below W1.heap.size W1 w')) (fun fi fv _ fw => wSaK w w.heap.size (w.heap.size + 1 + 1 + 1) base x fi fv fw) (fun _ => (Below.refl _ _).drew) ?_ ?_
  · refine ⟨?_, ?_, ?_, ?_, ?_, ?_, ?_, ?_, ?_, trivial⟩
    all_goals intro L fx w' hC hi hcl hdn hd
    · have hnd : L 8 = false := Bool.eq_false_iff.2 (fun h => by have := hcl 8 0 h (by kernel_rfl); rw [hi] at this; cases this)
      have hrow := row_kept HRB.out (hC hnd)
      refine wpList_load_row rfl 25 (.tmp 4) rfl (w.heap.size + 1) rfl 25 _ (0, 0) _ hrow Tryd.underlying25 rfl HIB.out ?_
      clear hd
      go_wp2_with fail
      exact ⟨_, rfl, fun _ => hC hnd, rfl, fun _ _ _ _ _ h => h⟩
    · have hnd : L 8 = false := Bool.eq_false_iff.2 (fun h => by have := hcl 8 1 h (by kernel_rfl); rw [hi] at this; cases this)
      go_wp2_with fail
      exact ⟨_, rfl, (fun _ => hC hnd), rfl, fun _ _ _ _ _ h => h⟩
    · have h1 : fx 1 = Value.pointer (some { block := w.heap.size, off := 0 }) := hd.1 rfl
      have hnd : L 8 = false := Bool.eq_false_iff.2 (fun h => by have := hcl 8 2 h (by kernel_rfl); rw [hi] at this; cases this)
      have hcc : w'.cell? ⟨w.heap.size, 0, none⟩ = some (Value.int .i64 2) := by rw [cell_of_row _ _ _ _ _ _ (row_kept HT0.out (hC hnd))]; rfl
      go_wp2_with fail
      exact ⟨_, by simp only [upd, h1]; rfl, (fun _ => hC hnd), rfl, fun _ _ _ _ _ h => h⟩
    · have hnd : L 8 = false := Bool.eq_false_iff.2 (fun h => by have := hcl 8 3 h (by kernel_rfl); rw [hi] at this; cases this)
      go_wp2_with fail
      exact ⟨_, rfl, (fun _ => hC hnd), rfl, fun _ _ _ _ _ h => h⟩
    · have h3 : fx 3 = Value.pointer (some { block := w.heap.size, off := 2 }) := hd.1 rfl
      have hnd : L 8 = false := Bool.eq_false_iff.2 (fun h => by have := hcl 8 4 h (by kernel_rfl); rw [hi] at this; cases this)
      have hcc : w'.cell? ⟨w.heap.size, 2, none⟩ = some (Value.func (.func 91) #[] #[]) := by rw [cell_of_row _ _ _ _ _ _ (row_kept HT0.out (hC hnd))]; rfl
      go_wp2_with fail
      exact ⟨_, by simp only [upd, h3]; rfl, (fun _ => hC hnd), rfl, fun _ _ _ _ _ h => h⟩
    · have hnd : L 8 = false := Bool.eq_false_iff.2 (fun h => by have := hcl 8 5 h (by kernel_rfl); rw [hi] at this; cases this)
      have hrow := row_kept HRX.out (hC hnd)
      refine wpList_load_row rfl 49 (.tmp 5) rfl (w.heap.size + 1 + 1) rfl 49 _ (0, 0) _ hrow Tryd.underlying49 rfl HIX.out ?_
      clear hd
      go_wp2_with fail
      exact ⟨_, rfl, fun _ => hC hnd, rfl, fun _ _ _ _ _ h => h⟩
    · have h4 : fx 4 = Value.func (.func 91) #[] #[] := hd.1 rfl
      have h5 : fx 5 = clV x := hd.2.1 rfl
      have hnd : L 8 = false := Bool.eq_false_iff.2 (fun h => by have := hcl 8 6 h (by kernel_rfl); rw [hi] at this; cases this)
      have hb12 := hC hnd
      go_wp2_with fail
      refine (nclaim_x x w').mono ?_
      rintro e w2 ⟨rfl, hq⟩
      go_wp2_with fail
      exact ⟨_, by simp only [upd, h4, h5]; rfl, fun _ => hb12.trans (hq.mono hb12.size), rfl, fun j v t _ _ h => wSaK_below hq j v h⟩
    · have h0 : fx 0 = dgV base := hd.1 rfl
      have h2 : fx 2 = Value.int .i64 2 := hd.2.1 rfl
      have h6 : fx 6 = Value.int .i64 (nCl x) := hd.2.2.1 rfl
      have hnd : L 8 = false := Bool.eq_false_iff.2 (fun h => by have := hcl 8 7 h (by kernel_rfl); rw [hi] at this; cases this)
      have hb12 := hC hnd
      go_wp2_with fail
      refine (salt_any base 2 (nCl x) w' (Lib.hid hba.out.len) (Lib.hid hba.out.bytes) (by decide) (by decide) HBD.out.1 HBD.out.2 (Lib.hid (hT1.out.below hb12))).mono ?_
      rintro e w2 ⟨rfl, hq⟩
      go_wp2_with fail
      exact ⟨_, by simp only [upd, h0, h2, h6]; rfl, fun _ => hb12.trans (hq.mono hb12.size), rfl, fun j v t _ _ h => wSaK_below hq j v h⟩
    · have h7 : fx 7 = dgV (saltN base 2 (nCl x)) := hd.1 rfl
      have hb21 := hC hi
      have hrow := row_kept HRR.out hb21
      refine wpList_store_row rfl 25 (.tmp 6) (.tmp 14) rfl (w.heap.size + 1 + 1 + 1) (dgC (saltN base 2 (nCl x))).toArray rfl h7 25 _ hrow HS1.out HS2.out (dgC_one _) ?_
      clear hd
      go_wp2_with fail
      refine ⟨undef, by rw [← h7]; rfl, fun h => (updB_self h).elim, ⟨setRow_heap _ _ _ _ _ _ hrow, below_setRow (HB0.out.trans (hb21.mono HB0.out.size)) (by omega) _⟩, fun j v t hj hu h => ?_⟩
      refine wSaK_pure j v ?_ h
      intro e; subst e
      rw [hi] at hj; cases hj
  · intro L fx w' hC hS
    have H8 := Lib.hid (hS 8 (by decide) rfl)
    clear hS hC
    go_wp2_with fail
    refine bodyPost_ret (results_cell_row rfl _ _ (w.heap.size + 1 + 1 + 1) 25 _ (0, 0) _ rfl H8.out.1 Tryd.underlying25 rfl HS1.out) rfl ?_
    exact ⟨rfl, H8.out.2⟩
theorem size34d {n : Nd} (h : NdOk n) : (Tryd.prog.info? 31).map (·.size) = some (ndC n).toArray.size := by rw [size34 h]; simp
theorem leafR_okL (x : Ln) (l : List Nat) : NdOk (leafR x.c0 x.c1 x.c2 x.c3 x.c4 l) := by
  unfold leafR
  split
  · next h => exact leafN_ok l h
  · exact zeroN_ok
/-- the leaf's digest of a line, of a claim -/
def lfL (x : Ln) (l : List Nat) : List Nat := (leafR x.c0 x.c1 x.c2 x.c3 x.c4 l).d
theorem lfL_ok (x : Ln) (l : List Nat) : DgOk (lfL x l) := ⟨(leafR_okL x l).len, (leafR_okL x l).bytes⟩
theorem lfL_rd {w : World} {g : Nat} {x : Ln} {l : List Nat} {t : Nat} (h : w.heap[g]? = some (.cells (ndC (leafR x.c0 x.c1 x.c2 x.c3 x.c4 l)).toArray t (0, 0))) : w.rangeAt g 0 (dgC (lfL x l)) := fun j v hj => by
  refine range_row h j v ?_
  have : j < (dgC (lfL x l)).length := (List.getElem?_eq_some_iff.1 hj).1
  rw [ndC, List.getElem?_append_left (by simpa [dgC, lfL] using this)]
  exact hj
set_option maxHeartbeats 4000000 in
theorem leafL (x : Ln) (l : List Nat) (w : World) (hd : Hid (DgOk l)) (hT : Hid (Tabs w)) :
    Calls Tryd.prog 87 #[lnV x, dgV l] w fun e w' => e = .returned (dgV (lfL x l)) ∧ Below w.heap.size w w' := by
  obtain ⟨t1, t2, t3, t4⟩ := rows_three w (lnC x).toArray (dgC l).toArray 41 25 (.cells (dgC zeroD).toArray 25)
  rw [zeroD_cells] at t1 t2 t3 t4
  have HB0 := Lib.hid t1
  have HRX := Lib.hid t2
  have HRL := Lib.hid t3
  have HRR := Lib.hid t4
  have hT1 := Lib.hid (hT.out.below t1)
  have HIL := Lib.hid (dgC_info hd.out)
  have HIX := Lib.hid (lnC_info3 x)
  have HOK := Lib.hid (leafR_okL x l)
  have HS1 := Lib.hid (dgC_info (lfL_ok x l))
  have HS2 := Lib.hid (dgC_size (lfL_ok x l))
  have HS3 := Lib.hid (dgC_infoL (lfL_ok x l))
  have HN1 := Lib.hid (size34d (leafR_okL x l))
  have HN2 := Lib.hid (show 34 = (ndC (leafR x.c0 x.c1 x.c2 x.c3 x.c4 l)).toArray.size from by simp [ndC_length (leafR_okL x l)])
  clear t1 t2 t3 t4
  rw [dgV_agg l, show lnV x = .agg (lnC x).toArray from rfl]
  go_enter Tryd.func87, Tryd.ntmps87
  go_wp2_with (first | (refine wpList_load_row rfl 41 (.tmp 2) rfl w.heap.size rfl 41 _ (0, 0) _ HRX.out Tryd.underlying41 rfl HIX.out ?_) | (refine wpList_load_row rfl 25 (.tmp 3) rfl (w.heap.size + 1) rfl 25 _ (0, 0) _ HRL.out Tryd.underlying25 rfl HIL.out ?_))
  rw [← dgV_agg l, show Value.agg (lnC x).toArray = .agg #[.int .i64 x.c0, .int .i64 x.c1, .int .i64 x.c2, .int .i64 x.c3, .int .i64 x.c4] from rfl]
  refine (leaf_any x.c0 x.c1 x.c2 x.c3 x.c4 l _ (Lib.hid hd.out.len) (Lib.hid hd.out.bytes) hT1).mono ?_
  rintro e w2 ⟨rfl, hq⟩
  have HB2 := Lib.hid (HB0.out.trans (hq.mono HB0.out.size))
  have HR2 := Lib.hid (row_kept HRR.out hq)
  clear hq
  obtain ⟨W4, HW4⟩ : ∃ W, Hid ((w2.alloc (.cells #[.int .u8 0, .int .u8 0, .int .u8 0, .int .u8 0, .int .u8 0, .int .u8 0, .int .u8 0, .int .u8 0, .int .u8 0, .int .u8 0, .int .u8 0, .int .u8 0, .int .u8 0, .int .u8 0, .int .u8 0, .int .u8 0, .int .u8 0, .int .u8 0, .int .u8 0, .int .u8 0, .int .u8 0, .int .u8 0, .int .u8 0, .int .u8 0, .int .u8 0, .int .u8 0, .int .u8 0, .int .u8 0, .int .u8 0, .int .u8 0, .int .u8 0, .int .u8 0, .int .i64 0, .int .i64 0] 31)).setRow w2.heap.size (ndC (leafR x.c0 x.c1 x.c2 x.c3 x.c4 l)).toArray = W) := ⟨_, Lib.hid rfl⟩
  have hw4 := setRow_heap (w2.alloc (.cells #[.int .u8 0, .int .u8 0, .int .u8 0, .int .u8 0, .int .u8 0, .int .u8 0, .int .u8 0, .int .u8 0, .int .u8 0, .int .u8 0, .int .u8 0, .int .u8 0, .int .u8 0, .int .u8 0, .int .u8 0, .int .u8 0, .int .u8 0, .int .u8 0, .int .u8 0, .int .u8 0, .int .u8 0, .int .u8 0, .int .u8 0, .int .u8 0, .int .u8 0, .int .u8 0, .int .u8 0, .int .u8 0, .int .u8 0, .int .u8 0, .int .u8 0, .int .u8 0, .int .i64 0, .int .i64 0] 31)) w2.heap.size _ (ndC (leafR x.c0 x.c1 x.c2 x.c3 x.c4 l)).toArray _ _ (heap_alloc_new w2 _)
  have hb4 := below_setRow ((Below.refl _ w2).alloc (Nat.le_refl _) (.cells #[.int .u8 0, .int .u8 0, .int .u8 0, .int .u8 0, .int .u8 0, .int .u8 0, .int .u8 0, .int .u8 0, .int .u8 0, .int .u8 0, .int .u8 0, .int .u8 0, .int .u8 0, .int .u8 0, .int .u8 0, .int .u8 0, .int .u8 0, .int .u8 0, .int .u8 0, .int .u8 0, .int .u8 0, .int .u8 0, .int .u8 0, .int .u8 0, .int .u8 0, .int .u8 0, .int .u8 0, .int .u8 0, .int .u8 0, .int .u8 0, .int .u8 0, .int .u8 0, .int .i64 0, .int .i64 0] 31)) (Nat.le_refl _) (ndC (leafR x.c0 x.c1 x.c2 x.c3 x.c4 l)).toArray
  rw [HW4.out] at hw4 hb4
  have HRD := Lib.hid (lfL_rd hw4)
  have HR4 := Lib.hid (row_kept HR2.out hb4)
  have HB4 := Lib.hid (HB2.out.trans (hb4.mono HB2.out.size))
  clear hw4 hb4
  rw [show ndV (leafR x.c0 x.c1 x.c2 x.c3 x.c4 l) = .agg (ndC (leafR x.c0 x.c1 x.c2 x.c3 x.c4 l)).toArray from rfl]
  go_wp2_with (first | (refine wpList_store_row rfl 31 (.tmp 5) (.tmp 11) rfl w2.heap.size (ndC (leafR x.c0 x.c1 x.c2 x.c3 x.c4 l)).toArray rfl rfl 31 _ (heap_alloc_new w2 _) HN1.out HN2.out (ndC_one _) ?_; rw [HW4.out]) | (with_reducible refine wpList_load_mid rfl 25 (.tmp 13) rfl w2.heap.size 0 rfl (dgC (lfL x l)) _ HRD.out Tryd.underlying25 rfl HS3.out ?_) | (refine wpList_store_row rfl 25 (.tmp 4) (.tmp 14) rfl (w.heap.size + 1 + 1) (dgC (lfL x l)).toArray rfl rfl 25 _ HR4.out HS1.out HS2.out (dgC_one _) ?_))
  refine bodyPost_ret (results_cell_row rfl _ _ (w.heap.size + 1 + 1) 25 _ (0, 0) _ rfl (setRow_heap W4 (w.heap.size + 1 + 1) _ _ _ _ HR4.out) Tryd.underlying25 rfl HS1.out) rfl ?_
  exact ⟨rfl, below_setRow HB4.out (by omega) _⟩
end Go.Proofs.YtmfmgeapecapiaaDoor
namespace Go.Proofs.YtmfmgeapecapiaaDoor
open Go.RowKit SzSha SzTree
set_option linter.unusedVariables false
set_option maxRecDepth 100000
def claimT : ByteArray := ⟨#[99, 108, 97, 105, 109]⟩
/-- the leaf of a claim -/
def lfK (x : Cl) (l : List Nat) : List Nat := hashT (strL claimT) l [x.p, x.r, if x.m then 1 else 0]
theorem lfK_ok (x : Cl) (l : List Nat) : DgOk (lfK x l) := ⟨tagged_length _ _, tagged_bytes _ _⟩
theorem encI_pos (zs : List Int) : 0 < (encI zs).length := by unfold encI; simp
set_option maxHeartbeats 4000000 in
theorem leafK_y (x : Cl) (l : List Nat) (w : World) (hm : Hid (x.m = true)) (hx : Hid (ClOk x)) (hd : Hid (DgOk l)) (hT : Hid (Tabs w)) :
    Calls Tryd.prog 92 #[clV x, dgV l] w fun e w' => e = .returned (dgV (lfK x l)) ∧ Below w.heap.size w w' := by
  obtain ⟨zs, HZS⟩ : ∃ zs : List Int, Hid ([x.p, x.r, 1] = zs) := ⟨_, Lib.hid rfl⟩
  have HLF : Hid (dgV (hashT (strL claimT) l zs) = dgV (lfK x l)) := Lib.hid (by unfold lfK; rw [hm.out, ← HZS.out]; rfl)
  have HM : Hid (zs.length = 3) := Lib.hid (by rw [← HZS.out]; rfl)
  have hz : Hid (∀ z ∈ zs, -9223372036854775808 ≤ z ∧ z ≤ 9223372036854775807) := Lib.hid (fun z hz => by
    have h0 := hx.out.b0; have h1 := hx.out.b1
    unfold I64 at h0 h1
    rw [← HZS.out] at hz
    simp only [List.mem_cons, List.not_mem_nil, or_false] at hz
    rcases hz with rfl | rfl | rfl <;> omega)
  obtain ⟨s1, s2, s3, s4⟩ := rows_three w (clC x).toArray (dgC l).toArray 49 25 (.cells #[.int .u8 0, .int .u8 0, .int .u8 0, .int .u8 0, .int .u8 0, .int .u8 0, .int .u8 0, .int .u8 0, .int .u8 0, .int .u8 0, .int .u8 0, .int .u8 0, .int .u8 0, .int .u8 0, .int .u8 0, .int .u8 0, .int .u8 0, .int .u8 0, .int .u8 0, .int .u8 0, .int .u8 0, .int .u8 0, .int .u8 0, .int .u8 0, .int .u8 0, .int .u8 0, .int .u8 0, .int .u8 0, .int .u8 0, .int .u8 0, .int .u8 0, .int .u8 0] 25)
  obtain ⟨t1, t2, t3, t4, t5⟩ := rows_four w (clC x).toArray (dgC l).toArray #[.int .u8 0, .int .u8 0, .int .u8 0, .int .u8 0, .int .u8 0, .int .u8 0, .int .u8 0, .int .u8 0, .int .u8 0, .int .u8 0, .int .u8 0, .int .u8 0, .int .u8 0, .int .u8 0, .int .u8 0, .int .u8 0, .int .u8 0, .int .u8 0, .int .u8 0, .int .u8 0, .int .u8 0, .int .u8 0, .int .u8 0, .int .u8 0, .int .u8 0, .int .u8 0, .int .u8 0, .int .u8 0, .int .u8 0, .int .u8 0, .int .u8 0, .int .u8 0] 49 25 25 (.cells #[.int .i64 3, .int .i64 0, .string ⟨#[]⟩, .slice none 0 0] 124)
  have hb5 := (Below.refl _ ((((w.alloc (.cells (clC x).toArray 49)).alloc (.cells (dgC l).toArray 25)).alloc (.cells #[.int .u8 0, .int .u8 0, .int .u8 0, .int .u8 0, .int .u8 0, .int .u8 0, .int .u8 0, .int .u8 0, .int .u8 0, .int .u8 0, .int .u8 0, .int .u8 0, .int .u8 0, .int .u8 0, .int .u8 0, .int .u8 0, .int .u8 0, .int .u8 0, .int .u8 0, .int .u8 0, .int .u8 0, .int .u8 0, .int .u8 0, .int .u8 0, .int .u8 0, .int .u8 0, .int .u8 0, .int .u8 0, .int .u8 0, .int .u8 0, .int .u8 0, .int .u8 0] 25)).alloc (.cells #[.int .i64 3, .int .i64 0, .string ⟨#[]⟩, .slice none 0 0] 124))).alloc (Nat.le_refl _) (.cells #[.int .i64 x.p, .int .i64 x.r, .int .i64 1] 3)
  have hn5 := heap_alloc_new ((((w.alloc (.cells (clC x).toArray 49)).alloc (.cells (dgC l).toArray 25)).alloc (.cells #[.int .u8 0, .int .u8 0, .int .u8 0, .int .u8 0, .int .u8 0, .int .u8 0, .int .u8 0, .int .u8 0, .int .u8 0, .int .u8 0, .int .u8 0, .int .u8 0, .int .u8 0, .int .u8 0, .int .u8 0, .int .u8 0, .int .u8 0, .int .u8 0, .int .u8 0, .int .u8 0, .int .u8 0, .int .u8 0, .int .u8 0, .int .u8 0, .int .u8 0, .int .u8 0, .int .u8 0, .int .u8 0, .int .u8 0, .int .u8 0, .int .u8 0, .int .u8 0] 25)).alloc (.cells #[.int .i64 3, .int .i64 0, .string ⟨#[]⟩, .slice none 0 0] 124)) (.cells #[.int .i64 x.p, .int .i64 x.r, .int .i64 1] 3)
  rw [show ((((w.alloc (.cells (clC x).toArray 49)).alloc (.cells (dgC l).toArray 25)).alloc (.cells #[.int .u8 0, .int .u8 0, .int .u8 0, .int .u8 0, .int .u8 0, .int .u8 0, .int .u8 0, .int .u8 0, .int .u8 0, .int .u8 0, .int .u8 0, .int .u8 0, .int .u8 0, .int .u8 0, .int .u8 0, .int .u8 0, .int .u8 0, .int .u8 0, .int .u8 0, .int .u8 0, .int .u8 0, .int .u8 0, .int .u8 0, .int .u8 0, .int .u8 0, .int .u8 0, .int .u8 0, .int .u8 0, .int .u8 0, .int .u8 0, .int .u8 0, .int .u8 0] 25)).alloc (.cells #[.int .i64 3, .int .i64 0, .string ⟨#[]⟩, .slice none 0 0] 124)).heap.size = w.heap.size + 1 + 1 + 1 + 1 by simp] at hn5
  have k2 : (((w.alloc (.cells (clC x).toArray 49)).alloc (.cells (dgC l).toArray 25)).alloc (.cells #[.int .u8 0, .int .u8 0, .int .u8 0, .int .u8 0, .int .u8 0, .int .u8 0, .int .u8 0, .int .u8 0, .int .u8 0, .int .u8 0, .int .u8 0, .int .u8 0, .int .u8 0, .int .u8 0, .int .u8 0, .int .u8 0, .int .u8 0, .int .u8 0, .int .u8 0, .int .u8 0, .int .u8 0, .int .u8 0, .int .u8 0, .int .u8 0, .int .u8 0, .int .u8 0, .int .u8 0, .int .u8 0, .int .u8 0, .int .u8 0, .int .u8 0, .int .u8 0] 25)).cell? ⟨w.heap.size, 2, none⟩ = some (.bool true) := by rw [cell_of_row _ _ _ _ _ _ s2, ← hm.out]; rfl
  have k0 : ((((w.alloc (.cells (clC x).toArray 49)).alloc (.cells (dgC l).toArray 25)).alloc (.cells #[.int .u8 0, .int .u8 0, .int .u8 0, .int .u8 0, .int .u8 0, .int .u8 0, .int .u8 0, .int .u8 0, .int .u8 0, .int .u8 0, .int .u8 0, .int .u8 0, .int .u8 0, .int .u8 0, .int .u8 0, .int .u8 0, .int .u8 0, .int .u8 0, .int .u8 0, .int .u8 0, .int .u8 0, .int .u8 0, .int .u8 0, .int .u8 0, .int .u8 0, .int .u8 0, .int .u8 0, .int .u8 0, .int .u8 0, .int .u8 0, .int .u8 0, .int .u8 0] 25)).alloc (.cells #[.int .i64 3, .int .i64 0, .string ⟨#[]⟩, .slice none 0 0] 124)).cell? ⟨w.heap.size, 0, none⟩ = some (.int .i64 x.p) := by rw [cell_of_row _ _ _ _ _ _ t2]; rfl
  have k1 : ((((w.alloc (.cells (clC x).toArray 49)).alloc (.cells (dgC l).toArray 25)).alloc (.cells #[.int .u8 0, .int .u8 0, .int .u8 0, .int .u8 0, .int .u8 0, .int .u8 0, .int .u8 0, .int .u8 0, .int .u8 0, .int .u8 0, .int .u8 0, .int .u8 0, .int .u8 0, .int .u8 0, .int .u8 0, .int .u8 0, .int .u8 0, .int .u8 0, .int .u8 0, .int .u8 0, .int .u8 0, .int .u8 0, .int .u8 0, .int .u8 0, .int .u8 0, .int .u8 0, .int .u8 0, .int .u8 0, .int .u8 0, .int .u8 0, .int .u8 0, .int .u8 0] 25)).alloc (.cells #[.int .i64 3, .int .i64 0, .string ⟨#[]⟩, .slice none 0 0] 124)).cell? ⟨w.heap.size, 1, none⟩ = some (.int .i64 x.r) := by rw [cell_of_row _ _ _ _ _ _ t2]; rfl
  have HSA0 := Lib.hid (row_kept t3 hb5)
  have HD0 := Lib.hid (row_kept t4 hb5)
  have HV0 := Lib.hid (row_kept t5 hb5)
  have HI0 := Lib.hid hn5
  have HB0 := Lib.hid (t1.trans (hb5.mono t1.size))
  clear s1 s2 s3 s4 t1 t2 t3 t4 t5 hb5 hn5
  rw [show clV x = .agg (clC x).toArray from rfl, dgV_agg l]
  go_enter Tryd.func92, Tryd.ntmps92
  go_wp2_with fail
  go_loopw [21] (fun i wr => ∃ j : Nat, j ≤ 3 ∧ i = .int .i64 j ∧ ∃ vl, Hid (wr.heap[w.heap.size + 1]? = some (.cells (dgC l).toArray 25 (0, 0))) ∧ Hid (wr.heap[w.heap.size + 1 + 1]? = some (.cells #[.int .u8 0, .int .u8 0, .int .u8 0, .int .u8 0, .int .u8 0, .int .u8 0, .int .u8 0, .int .u8 0, .int .u8 0, .int .u8 0, .int .u8 0, .int .u8 0, .int .u8 0, .int .u8 0, .int .u8 0, .int .u8 0, .int .u8 0, .int .u8 0, .int .u8 0, .int .u8 0, .int .u8 0, .int .u8 0, .int .u8 0, .int .u8 0, .int .u8 0, .int .u8 0, .int .u8 0, .int .u8 0, .int .u8 0, .int .u8 0, .int .u8 0, .int .u8 0] 25 (0, 0))) ∧ Hid (wr.heap[w.heap.size + 1 + 1 + 1]? = some (.cells #[.int .i64 3, .int .i64 0, .string ⟨#[]⟩, vl] 124 (0, 0))) ∧ Hid (wr.heap[w.heap.size + 1 + 1 + 1 + 1]? = some (.cells #[.int .i64 x.p, .int .i64 x.r, .int .i64 1] 3 (0, 0))) ∧ Hid (OwnV wr (w.heap.size + 1 + 1 + 1 + 1 + 1) vl (zs.take j)) ∧ Hid (Below w.heap.size w wr)) (fun i _ => 3 - (intOf i).toNat)
  case atStart => exact ⟨0, by omega, rfl, _, HSA0, HD0, HV0, HI0, Lib.hid (OwnV.nil _ _), HB0⟩
  case round =>
    clear HSA0 HD0 HV0 HI0 HB0 k0 k1 k2
    obtain ⟨j, hj, rfl, vl, HSA, HD, HV, HI, HO, HB⟩ := hrel
    by_cases hlt : j < 3
    · have d1 : decide ((j : Int) < 3) = true := decide_eq_true (by omega)
      have d2 : decide (j < 3) = true := decide_eq_true hlt
      obtain ⟨z, HZ⟩ : ∃ z, Hid (zs.getD j 0 = z) := ⟨_, Lib.hid rfl⟩
      have hcell : wr.cell? ⟨w.heap.size + 1 + 1 + 1 + 1, j, none⟩ = some (.int .i64 z) := by
        rw [cell_of_row _ _ _ _ _ _ HI.out, ← HZ.out, ← HZS.out]
        rcases j with _ | _ | _ | j
        · rfl
        · rfl
        · rfl
        · omega
      have k3 : wr.cell? ⟨w.heap.size + 1 + 1 + 1, 3, none⟩ = some vl := by rw [cell_of_row _ _ _ _ _ _ HV.out]; rfl
      have HSZ : Hid (w.heap.size + 1 + 1 + 1 + 1 + 1 ≤ wr.heap.size) := Lib.hid (Array.getElem?_eq_some_iff.1 HI.out).1
      have HBA := Lib.hid ((Below.refl _ wr).alloc (Nat.le_refl _) (.cells #[.int .i64 1, .int .i64 z, .string ⟨#[]⟩, .slice none 0 0] 124))
      have HOA := Lib.hid (HO.out.kept (fun k _ hk => HBA.out.block k hk))
      have HVA := Lib.hid (row_kept HV.out HBA.out)
      have HRA := Lib.hid (heap_alloc_new wr (.cells #[.int .i64 1, .int .i64 z, .string ⟨#[]⟩, .slice none 0 0] 124))
      have HLN : Hid ((zs.take j).length ≤ 100000) := Lib.hid (by rw [List.length_take]; omega)
      have HSA2 := Lib.hid (Nat.le_trans HSZ.out HBA.out.size)
      have HNX : Hid (zs.take j ++ [z] = zs.take (j + 1)) := Lib.hid (by
        have h1 : j < zs.length := by rw [HM.out]; exact hlt
        rw [List.take_succ_eq_append_getElem h1, ← HZ.out]; simp [List.getD_eq_getElem?_getD, h1])
      go_wp2_with (at_builtin; refine wpList_append_val rfl (.tmp 26) (.tmp 29) rfl (w.heap.size + 1 + 1 + 1 + 1 + 1) vl (zs.take j) z ?ha HOA wr.heap.size ?hb ?hc HLN.out HSA2.out ?_)
      case ha => rfl
      case hb => rfl
      case hc => exact HRA
      intro v2 w2 HO2 HB2
      obtain ⟨A', n', c', rfl⟩ := ownV_form HO2.out
      have keepr : ∀ {b : Nat} {cs : Array Value} {t : TypeId}, b < w.heap.size + 1 + 1 + 1 + 1 + 1 → wr.heap[b]? = some (.cells cs t (0, 0)) → w2.heap[b]? = some (.cells cs t (0, 0)) := fun {b cs t} hb h => (HB2.out.block b hb).trans (row_kept h HBA.out)
      have HV2 := Lib.hid (keepr (by omega) HV.out)
      obtain ⟨k3', f3'⟩ := row3 HV2.out
      go_wp2_with fail
      have HBB := Lib.hid (((HB.out.trans (HBA.out.mono HB.out.size)).trans (HB2.out.mono (by omega))).setCell (p := ⟨w.heap.size + 1 + 1 + 1, 3, none⟩) (by show w.heap.size ≤ w.heap.size + 1 + 1 + 1; omega) (.slice A' n' c'))
      have HV3 := Lib.hid (set3 (v' := .slice A' n' c') HV2.out)
      have hoth : ∀ b, b ≠ w.heap.size + 1 + 1 + 1 → (w2.setCell ⟨w.heap.size + 1 + 1 + 1, 3, none⟩ (.slice A' n' c')).heap[b]? = w2.heap[b]? := fun b hb => Below.heap_setCell w2 ⟨w.heap.size + 1 + 1 + 1, 3, none⟩ (.slice A' n' c') b (by intro e; exact hb e)
      have HD3 := Lib.hid ((hoth (w.heap.size + 1 + 1) (by omega)).trans (keepr (by omega) HD.out))
      have HSA3 := Lib.hid ((hoth (w.heap.size + 1) (by omega)).trans (keepr (by omega) HSA.out))
      have HI3 := Lib.hid ((hoth (w.heap.size + 1 + 1 + 1 + 1) (by omega)).trans (keepr (by omega) HI.out))
      have HO3 := Lib.hid (HO2.out.kept (fun k hk hk2 => hoth k (by omega)))
      rw [HNX.out] at HO3
      clear k3' f3' k3 hcell keepr hoth
      go_roundw
      case rel => exact ⟨j + 1, by omega, by go_num, _, HSA3, HD3, HV3, HI3, HO3, HBB⟩
      case measure => simp [intOf]; omega
    · have d1 : decide ((j : Int) < 3) = false := decide_eq_false (by omega)
      have HOm : Hid (OwnV wr (w.heap.size + 1 + 1 + 1 + 1 + 1) vl zs) := Lib.hid (by have := HO.out; rwa [List.take_of_length_le (by rw [HM.out]; omega)] at this)
      obtain ⟨Av, cv, rfl, hvr⟩ := HOm.out.slice
      have HVR := Lib.hid hvr
      have c0 : wr.cell? ⟨w.heap.size + 1 + 1 + 1, 0, none⟩ = some (.int .i64 3) := by rw [cell_of_row _ _ _ _ _ _ HV.out]; rfl
      have c1 : wr.cell? ⟨w.heap.size + 1 + 1 + 1, 1, none⟩ = some (.int .i64 0) := by rw [cell_of_row _ _ _ _ _ _ HV.out]; rfl
      have c2 : wr.cell? ⟨w.heap.size + 1 + 1 + 1, 2, none⟩ = some (.string ⟨#[]⟩) := by rw [cell_of_row _ _ _ _ _ _ HV.out]; rfl
      have c3 : wr.cell? ⟨w.heap.size + 1 + 1 + 1, 3, none⟩ = some (.slice Av zs.length cv) := by rw [cell_of_row _ _ _ _ _ _ HV.out]; rfl
      clear hvr
      go_wp2_with fail
      refine (encode_list zs Av cv _ hz (by rw [HM.out]; omega) HVR).mono ?_
      rintro e w2 ⟨v2, rfl, ho2, hb2⟩
      obtain ⟨A2, n2, cc2, rfl, hn2, hc2, hA2, HR2⟩ := ho2.slice
      obtain ⟨g2, o2, rfl, hg2, HBY0⟩ := HR2.out (encI_pos zs)
      obtain rfl : o2 = 0 := by
        rcases ho2.2 with ⟨e, _⟩ | ⟨g, cap, cur, e, _⟩
        · cases e
        · injection e with e; injection e with e; injection e
      have HBY := Lib.hid HBY0
      have HB2 := Lib.hid (HB.out.trans (hb2.mono HB.out.size))
      have HD2 := Lib.hid (row_kept HD.out hb2)
      have HSA2 := Lib.hid (bytesAt_arr (row_kept HSA.out hb2))
      have HNP : Hid (0 < n2) := Lib.hid (by rw [← hn2.out]; exact encI_pos zs)
      have HEL : Hid (n2 ≤ 20000) := Lib.hid (by rw [← hn2.out]; have := encI_length zs; rw [HM.out] at this; omega)
      have HL3 : Hid (32 + n2 ≤ 1000000) := Lib.hid (by have := HEL.out; omega)
      clear ho2 hb2 c0 c1 c2 c3 HR2 HBY0
      go_wp2_with (at_builtin; refine wpList_append_full rfl (.tmp 38) (.tmp 39) rfl (w.heap.size + 1) 32 g2 n2 cc2 l (encI zs) rfl rfl hd.out.len hn2.out HSA2 HBY HNP.out HL3.out ?_)
      intro v4 w4 HO4 HB4
      obtain ⟨A6, n6, c6, rfl, hn6, hc6, hA6, HR6⟩ := HO4.out.slice
      have HB5 := Lib.hid (HB2.out.trans (HB4.out.mono HB2.out.size))
      have HD4 := Lib.hid (row_kept HD2.out HB4.out)
      go_wp2_with fail
      refine (tagged_any claimT A6 n6 c6 (l ++ encI zs) _ (by decide) hn6 hc6 hA6.out (by rw [← hn6.out, List.length_append, hd.out.len, hn2.out]; have := HEL.out; omega) (Lib.hid (bytes_app2 hd.out.bytes (encI_bytes zs))) (Lib.hid (hT.out.below HB5.out)) HR6).mono ?_
      rintro e w5 ⟨rfl, hb5⟩
      have HB6 := Lib.hid (HB5.out.trans (hb5.mono HB5.out.size))
      have HD5 := Lib.hid (row_kept HD4.out hb5)
      have HE : Hid (dgV (tagged (strL claimT) (l ++ encI zs)) = dgV (lfK x l)) := Lib.hid (by rw [← HLF.out]; rfl)
      have HS1 := Lib.hid (dgC_info (lfK_ok x l))
      have HS2 := Lib.hid (dgC_size (lfK_ok x l))
      rw [HE.out, dgV_agg]
      clear hb5
      go_wp2_with (refine wpList_store_row rfl 25 (.tmp 4) (.tmp 41) rfl (w.heap.size + 1 + 1) (dgC (lfK x l)).toArray rfl rfl 25 _ HD5.out HS1.out HS2.out (dgC_one _) ?_)
      refine bodyPost_ret (results_cell_row rfl _ _ (w.heap.size + 1 + 1) 25 _ (0, 0) _ rfl (setRow_heap w5 (w.heap.size + 1 + 1) _ _ _ _ HD5.out) Tryd.underlying25 rfl HS1.out) rfl ?_
      exact ⟨rfl, below_setRow HB6.out (by omega) _⟩
set_option maxHeartbeats 4000000 in
theorem leafK_n (x : Cl) (l : List Nat) (w : World) (hm : Hid (x.m = false)) (hx : Hid (ClOk x)) (hd : Hid (DgOk l)) (hT : Hid (Tabs w)) :
    Calls Tryd.prog 92 #[clV x, dgV l] w fun e w' => e = .returned (dgV (lfK x l)) ∧ Below w.heap.size w w' := by
  obtain ⟨zs, HZS⟩ : ∃ zs : List Int, Hid ([x.p, x.r, 0] = zs) := ⟨_, Lib.hid rfl⟩
  have HLF : Hid (dgV (hashT (strL claimT) l zs) = dgV (lfK x l)) := Lib.hid (by unfold lfK; rw [hm.out, ← HZS.out]; rfl)
  have HM : Hid (zs.length = 3) := Lib.hid (by rw [← HZS.out]; rfl)
  have hz : Hid (∀ z ∈ zs, -9223372036854775808 ≤ z ∧ z ≤ 9223372036854775807) := Lib.hid (fun z hz => by
    have h0 := hx.out.b0; have h1 := hx.out.b1
    unfold I64 at h0 h1
    rw [← HZS.out] at hz
    simp only [List.mem_cons, List.not_mem_nil, or_false] at hz
    rcases hz with rfl | rfl | rfl <;> omega)
  obtain ⟨s1, s2, s3, s4⟩ := rows_three w (clC x).toArray (dgC l).toArray 49 25 (.cells #[.int .u8 0, .int .u8 0, .int .u8 0, .int .u8 0, .int .u8 0, .int .u8 0, .int .u8 0, .int .u8 0, .int .u8 0, .int .u8 0, .int .u8 0, .int .u8 0, .int .u8 0, .int .u8 0, .int .u8 0, .int .u8 0, .int .u8 0, .int .u8 0, .int .u8 0, .int .u8 0, .int .u8 0, .int .u8 0, .int .u8 0, .int .u8 0, .int .u8 0, .int .u8 0, .int .u8 0, .int .u8 0, .int .u8 0, .int .u8 0, .int .u8 0, .int .u8 0] 25)
  obtain ⟨t1, t2, t3, t4, t5⟩ := rows_four w (clC x).toArray (dgC l).toArray #[.int .u8 0, .int .u8 0, .int .u8 0, .int .u8 0, .int .u8 0, .int .u8 0, .int .u8 0, .int .u8 0, .int .u8 0, .int .u8 0, .int .u8 0, .int .u8 0, .int .u8 0, .int .u8 0, .int .u8 0, .int .u8 0, .int .u8 0, .int .u8 0, .int .u8 0, .int .u8 0, .int .u8 0, .int .u8 0, .int .u8 0, .int .u8 0, .int .u8 0, .int .u8 0, .int .u8 0, .int .u8 0, .int .u8 0, .int .u8 0, .int .u8 0, .int .u8 0] 49 25 25 (.cells #[.int .i64 3, .int .i64 0, .string ⟨#[]⟩, .slice none 0 0] 124)
  have hb5 := (Below.refl _ ((((w.alloc (.cells (clC x).toArray 49)).alloc (.cells (dgC l).toArray 25)).alloc (.cells #[.int .u8 0, .int .u8 0, .int .u8 0, .int .u8 0, .int .u8 0, .int .u8 0, .int .u8 0, .int .u8 0, .int .u8 0, .int .u8 0, .int .u8 0, .int .u8 0, .int .u8 0, .int .u8 0, .int .u8 0, .int .u8 0, .int .u8 0, .int .u8 0, .int .u8 0, .int .u8 0, .int .u8 0, .int .u8 0, .int .u8 0, .int .u8 0, .int .u8 0, .int .u8 0, .int .u8 0, .int .u8 0, .int .u8 0, .int .u8 0, .int .u8 0, .int .u8 0] 25)).alloc (.cells #[.int .i64 3, .int .i64 0, .string ⟨#[]⟩, .slice none 0 0] 124))).alloc (Nat.le_refl _) (.cells #[.int .i64 x.p, .int .i64 x.r, .int .i64 0] 3)
  have hn5 := heap_alloc_new ((((w.alloc (.cells (clC x).toArray 49)).alloc (.cells (dgC l).toArray 25)).alloc (.cells #[.int .u8 0, .int .u8 0, .int .u8 0, .int .u8 0, .int .u8 0, .int .u8 0, .int .u8 0, .int .u8 0, .int .u8 0, .int .u8 0, .int .u8 0, .int .u8 0, .int .u8 0, .int .u8 0, .int .u8 0, .int .u8 0, .int .u8 0, .int .u8 0, .int .u8 0, .int .u8 0, .int .u8 0, .int .u8 0, .int .u8 0, .int .u8 0, .int .u8 0, .int .u8 0, .int .u8 0, .int .u8 0, .int .u8 0, .int .u8 0, .int .u8 0, .int .u8 0] 25)).alloc (.cells #[.int .i64 3, .int .i64 0, .string ⟨#[]⟩, .slice none 0 0] 124)) (.cells #[.int .i64 x.p, .int .i64 x.r, .int .i64 0] 3)
  rw [show ((((w.alloc (.cells (clC x).toArray 49)).alloc (.cells (dgC l).toArray 25)).alloc (.cells #[.int .u8 0, .int .u8 0, .int .u8 0, .int .u8 0, .int .u8 0, .int .u8 0, .int .u8 0, .int .u8 0, .int .u8 0, .int .u8 0, .int .u8 0, .int .u8 0, .int .u8 0, .int .u8 0, .int .u8 0, .int .u8 0, .int .u8 0, .int .u8 0, .int .u8 0, .int .u8 0, .int .u8 0, .int .u8 0, .int .u8 0, .int .u8 0, .int .u8 0, .int .u8 0, .int .u8 0, .int .u8 0, .int .u8 0, .int .u8 0, .int .u8 0, .int .u8 0] 25)).alloc (.cells #[.int .i64 3, .int .i64 0, .string ⟨#[]⟩, .slice none 0 0] 124)).heap.size = w.heap.size + 1 + 1 + 1 + 1 by simp] at hn5
  have k2 : (((w.alloc (.cells (clC x).toArray 49)).alloc (.cells (dgC l).toArray 25)).alloc (.cells #[.int .u8 0, .int .u8 0, .int .u8 0, .int .u8 0, .int .u8 0, .int .u8 0, .int .u8 0, .int .u8 0, .int .u8 0, .int .u8 0, .int .u8 0, .int .u8 0, .int .u8 0, .int .u8 0, .int .u8 0, .int .u8 0, .int .u8 0, .int .u8 0, .int .u8 0, .int .u8 0, .int .u8 0, .int .u8 0, .int .u8 0, .int .u8 0, .int .u8 0, .int .u8 0, .int .u8 0, .int .u8 0, .int .u8 0, .int .u8 0, .int .u8 0, .int .u8 0] 25)).cell? ⟨w.heap.size, 2, none⟩ = some (.bool false) := by rw [cell_of_row _ _ _ _ _ _ s2, ← hm.out]; rfl
  have k0 : ((((w.alloc (.cells (clC x).toArray 49)).alloc (.cells (dgC l).toArray 25)).alloc (.cells #[.int .u8 0, .int .u8 0, .int .u8 0, .int .u8 0, .int .u8 0, .int .u8 0, .int .u8 0, .int .u8 0, .int .u8 0, .int .u8 0, .int .u8 0, .int .u8 0, .int .u8 0, .int .u8 0, .int .u8 0, .int .u8 0, .int .u8 0, .int .u8 0, .int .u8 0, .int .u8 0, .int .u8 0, .int .u8 0, .int .u8 0, .int .u8 0, .int .u8 0, .int .u8 0, .int .u8 0, .int .u8 0, .int .u8 0, .int .u8 0, .int .u8 0, .int .u8 0] 25)).alloc (.cells #[.int .i64 3, .int .i64 0, .string ⟨#[]⟩, .slice none 0 0] 124)).cell? ⟨w.heap.size, 0, none⟩ = some (.int .i64 x.p) := by rw [cell_of_row _ _ _ _ _ _ t2]; rfl
  have k1 : ((((w.alloc (.cells (clC x).toArray 49)).alloc (.cells (dgC l).toArray 25)).alloc (.cells #[.int .u8 0, .int .u8 0, .int .u8 0, .int .u8 0, .int .u8 0, .int .u8 0, .int .u8 0, .int .u8 0, .int .u8 0, .int .u8 0, .int .u8 0, .int .u8 0, .int .u8 0, .int .u8 0, .int .u8 0, .int .u8 0, .int .u8 0, .int .u8 0, .int .u8 0, .int .u8 0, .int .u8 0, .int .u8 0, .int .u8 0, .int .u8 0, .int .u8 0, .int .u8 0, .int .u8 0, .int .u8 0, .int .u8 0, .int .u8 0, .int .u8 0, .int .u8 0] 25)).alloc (.cells #[.int .i64 3, .int .i64 0, .string ⟨#[]⟩, .slice none 0 0] 124)).cell? ⟨w.heap.size, 1, none⟩ = some (.int .i64 x.r) := by rw [cell_of_row _ _ _ _ _ _ t2]; rfl
  have HSA0 := Lib.hid (row_kept t3 hb5)
  have HD0 := Lib.hid (row_kept t4 hb5)
  have HV0 := Lib.hid (row_kept t5 hb5)
  have HI0 := Lib.hid hn5
  have HB0 := Lib.hid (t1.trans (hb5.mono t1.size))
  clear s1 s2 s3 s4 t1 t2 t3 t4 t5 hb5 hn5
  rw [show clV x = .agg (clC x).toArray from rfl, dgV_agg l]
  go_enter Tryd.func92, Tryd.ntmps92
  go_wp2_with fail
  go_loopw [21] (fun i wr => ∃ j : Nat, j ≤ 3 ∧ i = .int .i64 j ∧ ∃ vl, Hid (wr.heap[w.heap.size + 1]? = some (.cells (dgC l).toArray 25 (0, 0))) ∧ Hid (wr.heap[w.heap.size + 1 + 1]? = some (.cells #[.int .u8 0, .int .u8 0, .int .u8 0, .int .u8 0, .int .u8 0, .int .u8 0, .int .u8 0, .int .u8 0, .int .u8 0, .int .u8 0, .int .u8 0, .int .u8 0, .int .u8 0, .int .u8 0, .int .u8 0, .int .u8 0, .int .u8 0, .int .u8 0, .int .u8 0, .int .u8 0, .int .u8 0, .int .u8 0, .int .u8 0, .int .u8 0, .int .u8 0, .int .u8 0, .int .u8 0, .int .u8 0, .int .u8 0, .int .u8 0, .int .u8 0, .int .u8 0] 25 (0, 0))) ∧ Hid (wr.heap[w.heap.size + 1 + 1 + 1]? = some (.cells #[.int .i64 3, .int .i64 0, .string ⟨#[]⟩, vl] 124 (0, 0))) ∧ Hid (wr.heap[w.heap.size + 1 + 1 + 1 + 1]? = some (.cells #[.int .i64 x.p, .int .i64 x.r, .int .i64 0] 3 (0, 0))) ∧ Hid (OwnV wr (w.heap.size + 1 + 1 + 1 + 1 + 1) vl (zs.take j)) ∧ Hid (Below w.heap.size w wr)) (fun i _ => 3 - (intOf i).toNat)
  case atStart => exact ⟨0, by omega, rfl, _, HSA0, HD0, HV0, HI0, Lib.hid (OwnV.nil _ _), HB0⟩
  case round =>
    clear HSA0 HD0 HV0 HI0 HB0 k0 k1 k2
    obtain ⟨j, hj, rfl, vl, HSA, HD, HV, HI, HO, HB⟩ := hrel
    by_cases hlt : j < 3
    · have d1 : decide ((j : Int) < 3) = true := decide_eq_true (by omega)
      have d2 : decide (j < 3) = true := decide_eq_true hlt
      obtain ⟨z, HZ⟩ : ∃ z, Hid (zs.getD j 0 = z) := ⟨_, Lib.hid rfl⟩
      have hcell : wr.cell? ⟨w.heap.size + 1 + 1 + 1 + 1, j, none⟩ = some (.int .i64 z) := by
        rw [cell_of_row _ _ _ _ _ _ HI.out, ← HZ.out, ← HZS.out]
        rcases j with _ | _ | _ | j
        · rfl
        · rfl
        · rfl
        · omega
      have k3 : wr.cell? ⟨w.heap.size + 1 + 1 + 1, 3, none⟩ = some vl := by rw [cell_of_row _ _ _ _ _ _ HV.out]; rfl
      have HSZ : Hid (w.heap.size + 1 + 1 + 1 + 1 + 1 ≤ wr.heap.size) := Lib.hid (Array.getElem?_eq_some_iff.1 HI.out).1
      have HBA := Lib.hid ((Below.refl _ wr).alloc (Nat.le_refl _) (.cells #[.int .i64 1, .int .i64 z, .string ⟨#[]⟩, .slice none 0 0] 124))
      have HOA := Lib.hid (HO.out.kept (fun k _ hk => HBA.out.block k hk))
      have HVA := Lib.hid (row_kept HV.out HBA.out)
      have HRA := Lib.hid (heap_alloc_new wr (.cells #[.int .i64 1, .int .i64 z, .string ⟨#[]⟩, .slice none 0 0] 124))
      have HLN : Hid ((zs.take j).length ≤ 100000) := Lib.hid (by rw [List.length_take]; omega)
      have HSA2 := Lib.hid (Nat.le_trans HSZ.out HBA.out.size)
      have HNX : Hid (zs.take j ++ [z] = zs.take (j + 1)) := Lib.hid (by
        have h1 : j < zs.length := by rw [HM.out]; exact hlt
        rw [List.take_succ_eq_append_getElem h1, ← HZ.out]; simp [List.getD_eq_getElem?_getD, h1])
      go_wp2_with (at_builtin; refine wpList_append_val rfl (.tmp 26) (.tmp 29) rfl (w.heap.size + 1 + 1 + 1 + 1 + 1) vl (zs.take j) z ?ha HOA wr.heap.size ?hb ?hc HLN.out HSA2.out ?_)
      case ha => rfl
      case hb => rfl
      case hc => exact HRA
      intro v2 w2 HO2 HB2
      obtain ⟨A', n', c', rfl⟩ := ownV_form HO2.out
      have keepr : ∀ {b : Nat} {cs : Array Value} {t : TypeId}, b < w.heap.size + 1 + 1 + 1 + 1 + 1 → wr.heap[b]? = some (.cells cs t (0, 0)) → w2.heap[b]? = some (.cells cs t (0, 0)) := fun {b cs t} hb h => (HB2.out.block b hb).trans (row_kept h HBA.out)
      have HV2 := Lib.hid (keepr (by omega) HV.out)
      obtain ⟨k3', f3'⟩ := row3 HV2.out
      go_wp2_with fail
      have HBB := Lib.hid (((HB.out.trans (HBA.out.mono HB.out.size)).trans (HB2.out.mono (by omega))).setCell (p := ⟨w.heap.size + 1 + 1 + 1, 3, none⟩) (by show w.heap.size ≤ w.heap.size + 1 + 1 + 1; omega) (.slice A' n' c'))
      have HV3 := Lib.hid (set3 (v' := .slice A' n' c') HV2.out)
      have hoth : ∀ b, b ≠ w.heap.size + 1 + 1 + 1 → (w2.setCell ⟨w.heap.size + 1 + 1 + 1, 3, none⟩ (.slice A' n' c')).heap[b]? = w2.heap[b]? := fun b hb => Below.heap_setCell w2 ⟨w.heap.size + 1 + 1 + 1, 3, none⟩ (.slice A' n' c') b (by intro e; exact hb e)
      have HD3 := Lib.hid ((hoth (w.heap.size + 1 + 1) (by omega)).trans (keepr (by omega) HD.out))
      have HSA3 := Lib.hid ((hoth (w.heap.size + 1) (by omega)).trans (keepr (by omega) HSA.out))
      have HI3 := Lib.hid ((hoth (w.heap.size + 1 + 1 + 1 + 1) (by omega)).trans (keepr (by omega) HI.out))
      have HO3 := Lib.hid (HO2.out.kept (fun k hk hk2 => hoth k (by omega)))
      rw [HNX.out] at HO3
      clear k3' f3' k3 hcell keepr hoth
      go_roundw
      case rel => exact ⟨j + 1, by omega, by go_num, _, HSA3, HD3, HV3, HI3, HO3, HBB⟩
      case measure => simp [intOf]; omega
    · have d1 : decide ((j : Int) < 3) = false := decide_eq_false (by omega)
      have HOm : Hid (OwnV wr (w.heap.size + 1 + 1 + 1 + 1 + 1) vl zs) := Lib.hid (by have := HO.out; rwa [List.take_of_length_le (by rw [HM.out]; omega)] at this)
      obtain ⟨Av, cv, rfl, hvr⟩ := HOm.out.slice
      have HVR := Lib.hid hvr
      have c0 : wr.cell? ⟨w.heap.size + 1 + 1 + 1, 0, none⟩ = some (.int .i64 3) := by rw [cell_of_row _ _ _ _ _ _ HV.out]; rfl
      have c1 : wr.cell? ⟨w.heap.size + 1 + 1 + 1, 1, none⟩ = some (.int .i64 0) := by rw [cell_of_row _ _ _ _ _ _ HV.out]; rfl
      have c2 : wr.cell? ⟨w.heap.size + 1 + 1 + 1, 2, none⟩ = some (.string ⟨#[]⟩) := by rw [cell_of_row _ _ _ _ _ _ HV.out]; rfl
      have c3 : wr.cell? ⟨w.heap.size + 1 + 1 + 1, 3, none⟩ = some (.slice Av zs.length cv) := by rw [cell_of_row _ _ _ _ _ _ HV.out]; rfl
      clear hvr
      go_wp2_with fail
      refine (encode_list zs Av cv _ hz (by rw [HM.out]; omega) HVR).mono ?_
      rintro e w2 ⟨v2, rfl, ho2, hb2⟩
      obtain ⟨A2, n2, cc2, rfl, hn2, hc2, hA2, HR2⟩ := ho2.slice
      obtain ⟨g2, o2, rfl, hg2, HBY0⟩ := HR2.out (encI_pos zs)
      obtain rfl : o2 = 0 := by
        rcases ho2.2 with ⟨e, _⟩ | ⟨g, cap, cur, e, _⟩
        · cases e
        · injection e with e; injection e with e; injection e
      have HBY := Lib.hid HBY0
      have HB2 := Lib.hid (HB.out.trans (hb2.mono HB.out.size))
      have HD2 := Lib.hid (row_kept HD.out hb2)
      have HSA2 := Lib.hid (bytesAt_arr (row_kept HSA.out hb2))
      have HNP : Hid (0 < n2) := Lib.hid (by rw [← hn2.out]; exact encI_pos zs)
      have HEL : Hid (n2 ≤ 20000) := Lib.hid (by rw [← hn2.out]; have := encI_length zs; rw [HM.out] at this; omega)
      have HL3 : Hid (32 + n2 ≤ 1000000) := Lib.hid (by have := HEL.out; omega)
      clear ho2 hb2 c0 c1 c2 c3 HR2 HBY0
      go_wp2_with (at_builtin; refine wpList_append_full rfl (.tmp 38) (.tmp 39) rfl (w.heap.size + 1) 32 g2 n2 cc2 l (encI zs) rfl rfl hd.out.len hn2.out HSA2 HBY HNP.out HL3.out ?_)
      intro v4 w4 HO4 HB4
      obtain ⟨A6, n6, c6, rfl, hn6, hc6, hA6, HR6⟩ := HO4.out.slice
      have HB5 := Lib.hid (HB2.out.trans (HB4.out.mono HB2.out.size))
      have HD4 := Lib.hid (row_kept HD2.out HB4.out)
      go_wp2_with fail
      refine (tagged_any claimT A6 n6 c6 (l ++ encI zs) _ (by decide) hn6 hc6 hA6.out (by rw [← hn6.out, List.length_append, hd.out.len, hn2.out]; have := HEL.out; omega) (Lib.hid (bytes_app2 hd.out.bytes (encI_bytes zs))) (Lib.hid (hT.out.below HB5.out)) HR6).mono ?_
      rintro e w5 ⟨rfl, hb5⟩
      have HB6 := Lib.hid (HB5.out.trans (hb5.mono HB5.out.size))
      have HD5 := Lib.hid (row_kept HD4.out hb5)
      have HE : Hid (dgV (tagged (strL claimT) (l ++ encI zs)) = dgV (lfK x l)) := Lib.hid (by rw [← HLF.out]; rfl)
      have HS1 := Lib.hid (dgC_info (lfK_ok x l))
      have HS2 := Lib.hid (dgC_size (lfK_ok x l))
      rw [HE.out, dgV_agg]
      clear hb5
      go_wp2_with (refine wpList_store_row rfl 25 (.tmp 4) (.tmp 41) rfl (w.heap.size + 1 + 1) (dgC (lfK x l)).toArray rfl rfl 25 _ HD5.out HS1.out HS2.out (dgC_one _) ?_)
      refine bodyPost_ret (results_cell_row rfl _ _ (w.heap.size + 1 + 1) 25 _ (0, 0) _ rfl (setRow_heap w5 (w.heap.size + 1 + 1) _ _ _ _ HD5.out) Tryd.underlying25 rfl HS1.out) rfl ?_
      exact ⟨rfl, below_setRow HB6.out (by omega) _⟩
theorem leafK (x : Cl) (l : List Nat) (w : World) (hx : Hid (ClOk x)) (hd : Hid (DgOk l)) (hT : Hid (Tabs w)) :
    Calls Tryd.prog 92 #[clV x, dgV l] w fun e w' => e = .returned (dgV (lfK x l)) ∧ Below w.heap.size w w' := by
  by_cases h : x.m = true
  · exact leafK_y x l w (Lib.hid h) hx hd hT
  · exact leafK_n x l w (Lib.hid (by simpa using h)) hx hd hT
end Go.Proofs.YtmfmgeapecapiaaDoor
