/- sizar/disclose.Check, case 4. sizar/disclose.Check, case 5. sizar/disclose.Check, case 6. sizar/disclose.Check, case 7. sizar/disclose.Check. -/
import Derived.Test.YtmfmgeapecapiaaDoorDT7
namespace Go.Proofs.YtmfmgeapecapiaaDoor
open Go.RowKit SzSha SzTree
set_option linter.unusedVariables false
set_option maxRecDepth 100000
def wCk4 (bt : Nat) (t : Tr) (p : TrP) : Nat → Value → World → Prop
  | 0, fv, _ => fv = Value.pointer (some { block := bt, off := 0 })
  | 1, fv, _ => fv = Value.int .i64 t.cam
  | 2, fv, _ => fv = Value.bool true
  | 3, fv, _ => fv = Value.bool false
  | 4, fv, _ => fv = Value.bool false
  | 5, fv, _ => fv = Value.pointer (some { block := bt, off := 1 })
  | 6, fv, _ => fv = Value.int .i64 t.stu
  | 7, fv, _ => fv = Value.bool true
  | 8, fv, _ => fv = Value.bool false
  | 9, fv, _ => fv = Value.bool false
  | 10, fv, _ => fv = Value.bool false
  | 11, fv, _ => fv = Value.pointer (some { block := bt, off := 2 })
  | 12, fv, _ => fv = Value.int .i64 t.ver
  | 13, fv, _ => fv = Value.bool true
  | 14, fv, _ => fv = Value.bool false
  | 15, fv, _ => fv = Value.bool false
  | 16, fv, _ => fv = Value.bool false
  | 17, fv, _ => fv = Value.pointer (some { block := bt, off := 3 })
  | 18, fv, _ => fv = Value.int .i64 t.kno
  | 19, fv, _ => fv = Value.bool true
  | 20, fv, _ => fv = Value.bool false
  | 21, fv, _ => fv = Value.bool false
  | 22, fv, _ => fv = Value.bool false
  | 23, fv, _ => fv = Value.pointer (some { block := bt, off := 4 })
  | 24, fv, _ => fv = Value.slice p.A p.n p.c
  | 25, fv, _ => fv = Value.int .i64 (p.n : Nat)
  | 26, fv, _ => fv = Value.bool true
  | 27, fv, _ => fv = Value.bool true
  | 28, fv, _ => fv = Value.bool true
  | 29, fv, _ => fv = undef
  | 30, fv, _ => fv = undef
  | 31, fv, _ => fv = undef
  | 32, fv, _ => fv = undef
  | 33, fv, _ => fv = undef
  | 34, fv, _ => fv = Value.bool true
  | 35, fv, _ => fv = Value.bool true
  | 36, fv, _ => fv = undef
  | 37, fv, _ => fv = undef
  | 38, fv, _ => fv = undef
  | 39, fv, _ => fv = undef
  | 40, fv, _ => fv = undef
  | 41, fv, _ => fv = Value.bool true
  | _, _, _ => True
set_option maxHeartbeats 8000000 in
theorem check_4 (t : Tr) (p : TrP) (w : World) (h : Hid (TrOk w t p)) (g0 : Hid (inB t.cam 0 6 = true)) (g1 : Hid (inB t.stu 0 19999 = true)) (g2 : Hid (inB t.ver 1 1048576 = true)) (g3 : Hid (inB t.kno 1 16777216 = true)) (g4 : Hid (decide (t.ln.length ≤ 4096) = false)) :
    Calls Tryd.prog 17 #[trV t p] w fun e w' => e = .returned (.int .i64 420) ∧ Below w.heap.size w w' := by
  have hml : maxLen ≤ 9223372036854775807 := by unfold maxLen; omega
  have HM1 : Hid (p.n ≤ 9223372036854775807) := Lib.hid (Nat.le_trans h.out.mn hml)
  have HM2 : Hid (p.n2 ≤ 9223372036854775807) := Lib.hid (Nat.le_trans h.out.mc hml)
  have HLN : Hid (t.ln.length = p.n) := Lib.hid h.out.ln.len
  have d4 : decide ((4096 : Int) < (p.n : Int)) = true := by
    have hg := g4.out
    rw [HLN.out] at hg
    exact decide_eq_true (by have := of_decide_eq_false hg; omega)
  clear HLN
  have HB0 := Lib.hid ((Below.refl _ w).alloc (Nat.le_refl _) (.cells (trC t p).toArray 27))
  have HR0 := Lib.hid (heap_alloc_new w (.cells (trC t p).toArray 27))
  have HO1 := Lib.hid (h.out.below HB0.out)
  rw [show trV t p = .agg (trC t p).toArray from rfl]
  clear hml
  go_enter Tryd.func17, Tryd.ntmps17
  go_wp2_with fail
  generalize w.alloc (.cells (trC t p).toArray 27) = W1 at *
  refine region_flow3 (by kernel_rfl) (by kernel_rfl) (fun i => Nat.beq i 41) (fun i => i) (by kernel_rfl) (fun fx => #[Value.agg (trC t p).toArray, Value.pointer (some { block := w.heap.size, off := 0 }), Value.int .i64 0, fx 0, fx 1, fx 2, fx 3, fx 4, fx 5, fx 6, fx 7, fx 8, fx 9, fx 10, fx 11, fx 12, fx 13, fx 14, fx 15, fx 16, fx 17, fx 18, fx 19, fx 20, fx 21, fx 22, fx 23, fx 24, fx 25, fx 26, fx 27, fx 28, fx 29, fx 30, fx 31, fx 32, fx 33, fx 34, fx 35, fx 36, fx 37, fx 38, fx 39, fx 40, fx 41]) (fun _ => undef) (fun L fx w' => Below W1.heap.size W1 w') (fun fi fv _ fw => wCk4 w.heap.size t p fi fv fw) (Below.refl _ _).drew ?_ ?_
  · refine ⟨?_, ?_, ?_, ?_, ?_, ?_, ?_, ?_, ?_, ?_, ?_, ?_, ?_, ?_, ?_, ?_, ?_, ?_, ?_, ?_, ?_, ?_, ?_, ?_, ?_, ?_, ?_, ?_, ?_, ?_, ?_, ?_, ?_, ?_, ?_, ?_, ?_, ?_, ?_, ?_, ?_, ?_, trivial⟩
    all_goals intro L fx w' hC hi hcl hdn hd
    · clear hd
      go_wp2_with fail
      exact ⟨_, rfl, hC, rfl, fun _ _ _ _ _ h => h⟩
    · have h0 : fx 0 = Value.pointer (some { block := w.heap.size, off := 0 }) := hd.1 rfl
      have hcc : w'.cell? ⟨w.heap.size, 0, none⟩ = some (Value.int .i64 t.cam) := by rw [cell_of_row _ _ _ _ _ _ (row_kept HR0.out hC)]; rfl
      clear hd
      go_wp2_with fail
      exact ⟨_, by simp only [upd, h0]; rfl, hC, rfl, fun _ _ _ _ _ h => h⟩
    · have h1 : fx 1 = Value.int .i64 t.cam := hd.1 rfl
      go_wp2_with fail
      refine (in_any t.cam 0 6 w').mono ?_
      rintro e w2 ⟨rfl, rfl⟩
      rw [show (decide (0 ≤ t.cam) && decide (t.cam ≤ 6)) = true from g0.out]
      go_wp2_with fail
      exact ⟨_, by simp only [upd, h1]; rfl, hC, rfl, fun _ _ _ _ _ h => h⟩
    · have h2 : fx 2 = Value.bool true := hd.1 rfl
      clear hd
      go_wp2_with fail
      exact ⟨_, by simp only [upd, h2]; rfl, hC, rfl, fun _ _ _ _ _ h => h⟩
    · have h3 : fx 3 = Value.bool false := hd.1 rfl
      clear hd
      go_wp2_with fail
      exact ⟨_, by simp only [upd, h3]; rfl, hC, rfl, fun _ _ _ _ _ h => h⟩
    · have h4 : fx 4 = Value.bool false := hd.1 rfl
      dsimp only
      rw [h4]
      refine wpList_unguard rfl ?_
      clear hd
      go_wp2_with fail
      exact ⟨_, by simp only [upd, h4]; rfl, hC, rfl, fun _ _ _ _ _ h => h⟩
    · have h5 : fx 5 = Value.pointer (some { block := w.heap.size, off := 1 }) := hd.1 rfl
      have h4 : fx 4 = Value.bool false := hd.2.1 rfl
      dsimp only
      rw [h4]
      refine wpList_unguard rfl ?_
      have hcc : w'.cell? ⟨w.heap.size, 1, none⟩ = some (Value.int .i64 t.stu) := by rw [cell_of_row _ _ _ _ _ _ (row_kept HR0.out hC)]; rfl
      clear hd
      go_wp2_with fail
      exact ⟨_, by simp only [upd, h5, h4]; rfl, hC, rfl, fun _ _ _ _ _ h => h⟩
    · have h6 : fx 6 = Value.int .i64 t.stu := hd.1 rfl
      have h4 : fx 4 = Value.bool false := hd.2.2.1 rfl
      dsimp only
      rw [h4]
      refine wpList_unguard rfl ?_
      go_wp2_with fail
      refine (in_any t.stu 0 19999 w').mono ?_
      rintro e w2 ⟨rfl, rfl⟩
      rw [show (decide (0 ≤ t.stu) && decide (t.stu ≤ 19999)) = true from g1.out]
      go_wp2_with fail
      exact ⟨_, by simp only [upd, h6, h4]; rfl, hC, rfl, fun _ _ _ _ _ h => h⟩
    · have h7 : fx 7 = Value.bool true := hd.1 rfl
      have h4 : fx 4 = Value.bool false := hd.2.1 rfl
      dsimp only
      rw [h4]
      refine wpList_unguard rfl ?_
      clear hd
      go_wp2_with fail
      exact ⟨_, by simp only [upd, h7, h4]; rfl, hC, rfl, fun _ _ _ _ _ h => h⟩
    · have h4 : fx 4 = Value.bool false := hd.1 rfl
      have h8 : fx 8 = Value.bool false := hd.2.1 rfl
      clear hd
      go_wp2_with fail
      exact ⟨_, by simp only [upd, h4, h8]; rfl, hC, rfl, fun _ _ _ _ _ h => h⟩
    · have h9 : fx 9 = Value.bool false := hd.1 rfl
      clear hd
      go_wp2_with fail
      exact ⟨_, by simp only [upd, h9]; rfl, hC, rfl, fun _ _ _ _ _ h => h⟩
    · have h10 : fx 10 = Value.bool false := hd.1 rfl
      dsimp only
      rw [h10]
      refine wpList_unguard rfl ?_
      clear hd
      go_wp2_with fail
      exact ⟨_, by simp only [upd, h10]; rfl, hC, rfl, fun _ _ _ _ _ h => h⟩
    · have h11 : fx 11 = Value.pointer (some { block := w.heap.size, off := 2 }) := hd.1 rfl
      have h10 : fx 10 = Value.bool false := hd.2.1 rfl
      dsimp only
      rw [h10]
      refine wpList_unguard rfl ?_
      have hcc : w'.cell? ⟨w.heap.size, 2, none⟩ = some (Value.int .i64 t.ver) := by rw [cell_of_row _ _ _ _ _ _ (row_kept HR0.out hC)]; rfl
      clear hd
      go_wp2_with fail
      exact ⟨_, by simp only [upd, h11, h10]; rfl, hC, rfl, fun _ _ _ _ _ h => h⟩
    · have h12 : fx 12 = Value.int .i64 t.ver := hd.1 rfl
      have h10 : fx 10 = Value.bool false := hd.2.2.1 rfl
      dsimp only
      rw [h10]
      refine wpList_unguard rfl ?_
      go_wp2_with fail
      refine (in_any t.ver 1 1048576 w').mono ?_
      rintro e w2 ⟨rfl, rfl⟩
      rw [show (decide (1 ≤ t.ver) && decide (t.ver ≤ 1048576)) = true from g2.out]
      go_wp2_with fail
      exact ⟨_, by simp only [upd, h12, h10]; rfl, hC, rfl, fun _ _ _ _ _ h => h⟩
    · have h13 : fx 13 = Value.bool true := hd.1 rfl
      have h10 : fx 10 = Value.bool false := hd.2.1 rfl
      dsimp only
      rw [h10]
      refine wpList_unguard rfl ?_
      clear hd
      go_wp2_with fail
      exact ⟨_, by simp only [upd, h13, h10]; rfl, hC, rfl, fun _ _ _ _ _ h => h⟩
    · have h10 : fx 10 = Value.bool false := hd.1 rfl
      have h14 : fx 14 = Value.bool false := hd.2.1 rfl
      clear hd
      go_wp2_with fail
      exact ⟨_, by simp only [upd, h10, h14]; rfl, hC, rfl, fun _ _ _ _ _ h => h⟩
    · have h15 : fx 15 = Value.bool false := hd.1 rfl
      clear hd
      go_wp2_with fail
      exact ⟨_, by simp only [upd, h15]; rfl, hC, rfl, fun _ _ _ _ _ h => h⟩
    · have h16 : fx 16 = Value.bool false := hd.1 rfl
      dsimp only
      rw [h16]
      refine wpList_unguard rfl ?_
      clear hd
      go_wp2_with fail
      exact ⟨_, by simp only [upd, h16]; rfl, hC, rfl, fun _ _ _ _ _ h => h⟩
    · have h17 : fx 17 = Value.pointer (some { block := w.heap.size, off := 3 }) := hd.1 rfl
      have h16 : fx 16 = Value.bool false := hd.2.1 rfl
      dsimp only
      rw [h16]
      refine wpList_unguard rfl ?_
      have hcc : w'.cell? ⟨w.heap.size, 3, none⟩ = some (Value.int .i64 t.kno) := by rw [cell_of_row _ _ _ _ _ _ (row_kept HR0.out hC)]; rfl
      clear hd
      go_wp2_with fail
      exact ⟨_, by simp only [upd, h17, h16]; rfl, hC, rfl, fun _ _ _ _ _ h => h⟩
    · have h18 : fx 18 = Value.int .i64 t.kno := hd.1 rfl
      have h16 : fx 16 = Value.bool false := hd.2.2.1 rfl
      dsimp only
      rw [h16]
      refine wpList_unguard rfl ?_
      go_wp2_with fail
      refine (in_any t.kno 1 16777216 w').mono ?_
      rintro e w2 ⟨rfl, rfl⟩
      rw [show (decide (1 ≤ t.kno) && decide (t.kno ≤ 16777216)) = true from g3.out]
      go_wp2_with fail
      exact ⟨_, by simp only [upd, h18, h16]; rfl, hC, rfl, fun _ _ _ _ _ h => h⟩
    · have h19 : fx 19 = Value.bool true := hd.1 rfl
      have h16 : fx 16 = Value.bool false := hd.2.1 rfl
      dsimp only
      rw [h16]
      refine wpList_unguard rfl ?_
      clear hd
      go_wp2_with fail
      exact ⟨_, by simp only [upd, h19, h16]; rfl, hC, rfl, fun _ _ _ _ _ h => h⟩
    · have h16 : fx 16 = Value.bool false := hd.1 rfl
      have h20 : fx 20 = Value.bool false := hd.2.1 rfl
      clear hd
      go_wp2_with fail
      exact ⟨_, by simp only [upd, h16, h20]; rfl, hC, rfl, fun _ _ _ _ _ h => h⟩
    · have h21 : fx 21 = Value.bool false := hd.1 rfl
      clear hd
      go_wp2_with fail
      exact ⟨_, by simp only [upd, h21]; rfl, hC, rfl, fun _ _ _ _ _ h => h⟩
    · have h22 : fx 22 = Value.bool false := hd.1 rfl
      dsimp only
      rw [h22]
      refine wpList_unguard rfl ?_
      clear hd
      go_wp2_with fail
      exact ⟨_, by simp only [upd, h22]; rfl, hC, rfl, fun _ _ _ _ _ h => h⟩
    · have h23 : fx 23 = Value.pointer (some { block := w.heap.size, off := 4 }) := hd.1 rfl
      have h22 : fx 22 = Value.bool false := hd.2.1 rfl
      dsimp only
      rw [h22]
      refine wpList_unguard rfl ?_
      have hcc : w'.cell? ⟨w.heap.size, 4, none⟩ = some (Value.slice p.A p.n p.c) := by rw [cell_of_row _ _ _ _ _ _ (row_kept HR0.out hC)]; rfl
      clear hd
      go_wp2_with fail
      exact ⟨_, by simp only [upd, h23, h22]; rfl, hC, rfl, fun _ _ _ _ _ h => h⟩
    · have h24 : fx 24 = Value.slice p.A p.n p.c := hd.1 rfl
      have h22 : fx 22 = Value.bool false := hd.2.1 rfl
      dsimp only
      rw [h22]
      refine wpList_unguard rfl ?_
      clear hd
      go_wp2_with fail
      exact ⟨_, by simp only [upd, h24, h22]; rfl, hC, rfl, fun _ _ _ _ _ h => h⟩
    · have h25 : fx 25 = Value.int .i64 (p.n : Nat) := hd.1 rfl
      have h22 : fx 22 = Value.bool false := hd.2.1 rfl
      dsimp only
      rw [h22]
      refine wpList_unguard rfl ?_
      clear hd
      go_wp2_with fail
      exact ⟨_, by simp only [upd, h25, h22]; rfl, hC, rfl, fun _ _ _ _ _ h => h⟩
    · have h22 : fx 22 = Value.bool false := hd.1 rfl
      have h26 : fx 26 = Value.bool true := hd.2.1 rfl
      clear hd
      go_wp2_with fail
      exact ⟨_, by simp only [upd, h22, h26]; rfl, hC, rfl, fun _ _ _ _ _ h => h⟩
    · have h27 : fx 27 = Value.bool true := hd.1 rfl
      clear hd
      go_wp2_with fail
      exact ⟨_, by simp only [upd, h27]; rfl, hC, rfl, fun _ _ _ _ _ h => h⟩
    · have h28 : fx 28 = Value.bool true := hd.2.1 rfl
      go_wp2_with fail
      exact ⟨_, by simp only [upd, h28]; rfl, hC, rfl, fun _ _ _ _ _ h => h⟩
    · have h28 : fx 28 = Value.bool true := hd.1 rfl
      go_wp2_with fail
      exact ⟨_, by simp only [upd, h28]; rfl, hC, rfl, fun _ _ _ _ _ h => h⟩
    · have h30 : fx 30 = undef := hd.1 rfl
      have h28 : fx 28 = Value.bool true := hd.2.1 rfl
      go_wp2_with fail
      exact ⟨_, by simp only [upd, h30, h28]; rfl, hC, rfl, fun _ _ _ _ _ h => h⟩
    · have h29 : fx 29 = undef := hd.1 rfl
      have h31 : fx 31 = undef := hd.2.1 rfl
      have h28 : fx 28 = Value.bool true := hd.2.2.2.1 rfl
      go_wp2_with fail
      exact ⟨_, by simp only [upd, h29, h31, h28]; rfl, hC, rfl, fun _ _ _ _ _ h => h⟩
    · have h32 : fx 32 = undef := hd.1 rfl
      have h28 : fx 28 = Value.bool true := hd.2.1 rfl
      go_wp2_with fail
      exact ⟨_, by simp only [upd, h32, h28]; rfl, hC, rfl, fun _ _ _ _ _ h => h⟩
    · have h28 : fx 28 = Value.bool true := hd.1 rfl
      have h33 : fx 33 = undef := hd.2.1 rfl
      clear hd
      go_wp2_with fail
      exact ⟨_, by simp only [upd, h28, h33]; rfl, hC, rfl, fun _ _ _ _ _ h => h⟩
    · have h34 : fx 34 = Value.bool true := hd.1 rfl
      clear hd
      go_wp2_with fail
      exact ⟨_, by simp only [upd, h34]; rfl, hC, rfl, fun _ _ _ _ _ h => h⟩
    · have h35 : fx 35 = Value.bool true := hd.2.1 rfl
      go_wp2_with fail
      exact ⟨_, by simp only [upd, h35]; rfl, hC, rfl, fun _ _ _ _ _ h => h⟩
    · have h35 : fx 35 = Value.bool true := hd.1 rfl
      go_wp2_with fail
      exact ⟨_, by simp only [upd, h35]; rfl, hC, rfl, fun _ _ _ _ _ h => h⟩
    · have h37 : fx 37 = undef := hd.1 rfl
      have h35 : fx 35 = Value.bool true := hd.2.1 rfl
      go_wp2_with fail
      exact ⟨_, by simp only [upd, h37, h35]; rfl, hC, rfl, fun _ _ _ _ _ h => h⟩
    · have h36 : fx 36 = undef := hd.1 rfl
      have h38 : fx 38 = undef := hd.2.1 rfl
      have h35 : fx 35 = Value.bool true := hd.2.2.2.1 rfl
      go_wp2_with fail
      exact ⟨_, by simp only [upd, h36, h38, h35]; rfl, hC, rfl, fun _ _ _ _ _ h => h⟩
    · have h39 : fx 39 = undef := hd.1 rfl
      have h35 : fx 35 = Value.bool true := hd.2.1 rfl
      go_wp2_with fail
      exact ⟨_, by simp only [upd, h39, h35]; rfl, hC, rfl, fun _ _ _ _ _ h => h⟩
    · have h35 : fx 35 = Value.bool true := hd.1 rfl
      have h40 : fx 40 = undef := hd.2.1 rfl
      clear hd
      go_wp2_with fail
      exact ⟨_, by simp only [upd, h35, h40]; rfl, hC, rfl, fun _ _ _ _ _ h => h⟩
  · intro L fo w' hC hS
    have H41 := Lib.hid (hS 41 (by decide) rfl)
    have h41 : fo 41 = Value.bool true := H41.out
    rw [h41]
    have HBC := Lib.hid (HB0.out.trans (hC.mono HB0.out.size))
    clear hS hC h41 H41
    go_wp2_with fail
    go_ret
    exact ⟨rfl, HBC.out⟩
end Go.Proofs.YtmfmgeapecapiaaDoor
namespace Go.Proofs.YtmfmgeapecapiaaDoor
open Go.RowKit SzSha SzTree
set_option linter.unusedVariables false
set_option maxRecDepth 100000
def wCk5 (bt : Nat) (t : Tr) (p : TrP) : Nat → Value → World → Prop
  | 0, fv, _ => fv = Value.pointer (some { block := bt, off := 0 })
  | 1, fv, _ => fv = Value.int .i64 t.cam
  | 2, fv, _ => fv = Value.bool true
  | 3, fv, _ => fv = Value.bool false
  | 4, fv, _ => fv = Value.bool false
  | 5, fv, _ => fv = Value.pointer (some { block := bt, off := 1 })
  | 6, fv, _ => fv = Value.int .i64 t.stu
  | 7, fv, _ => fv = Value.bool true
  | 8, fv, _ => fv = Value.bool false
  | 9, fv, _ => fv = Value.bool false
  | 10, fv, _ => fv = Value.bool false
  | 11, fv, _ => fv = Value.pointer (some { block := bt, off := 2 })
  | 12, fv, _ => fv = Value.int .i64 t.ver
  | 13, fv, _ => fv = Value.bool true
  | 14, fv, _ => fv = Value.bool false
  | 15, fv, _ => fv = Value.bool false
  | 16, fv, _ => fv = Value.bool false
  | 17, fv, _ => fv = Value.pointer (some { block := bt, off := 3 })
  | 18, fv, _ => fv = Value.int .i64 t.kno
  | 19, fv, _ => fv = Value.bool true
  | 20, fv, _ => fv = Value.bool false
  | 21, fv, _ => fv = Value.bool false
  | 22, fv, _ => fv = Value.bool false
  | 23, fv, _ => fv = Value.pointer (some { block := bt, off := 4 })
  | 24, fv, _ => fv = Value.slice p.A p.n p.c
  | 25, fv, _ => fv = Value.int .i64 (p.n : Nat)
  | 26, fv, _ => fv = Value.bool false
  | 27, fv, _ => fv = Value.bool false
  | 28, fv, _ => fv = Value.bool false
  | 29, fv, _ => fv = Value.agg tabL
  | 30, fv, _ => fv = Value.pointer (some { block := bt, off := 4 })
  | 31, fv, _ => fv = Value.slice p.A p.n p.c
  | 32, fv, _ => fv = Value.bool false
  | 33, fv, _ => fv = Value.bool true
  | 34, fv, _ => fv = Value.bool true
  | 35, fv, _ => fv = Value.bool true
  | 36, fv, _ => fv = undef
  | 37, fv, _ => fv = undef
  | 38, fv, _ => fv = undef
  | 39, fv, _ => fv = undef
  | 40, fv, _ => fv = undef
  | 41, fv, _ => fv = Value.bool true
  | _, _, _ => True
theorem wCk5_below {bt : Nat} {t : Tr} {p : TrP} {w w' : World} (hb : Below w.heap.size w w') : ∀ j v, wCk5 bt t p j v w → wCk5 bt t p j v w'
  | 0, v, h => h
  | 1, v, h => h
  | 2, v, h => h
  | 3, v, h => h
  | 4, v, h => h
  | 5, v, h => h
  | 6, v, h => h
  | 7, v, h => h
  | 8, v, h => h
  | 9, v, h => h
  | 10, v, h => h
  | 11, v, h => h
  | 12, v, h => h
  | 13, v, h => h
  | 14, v, h => h
  | 15, v, h => h
  | 16, v, h => h
  | 17, v, h => h
  | 18, v, h => h
  | 19, v, h => h
  | 20, v, h => h
  | 21, v, h => h
  | 22, v, h => h
  | 23, v, h => h
  | 24, v, h => h
  | 25, v, h => h
  | 26, v, h => h
  | 27, v, h => h
  | 28, v, h => h
  | 29, v, h => h
  | 30, v, h => h
  | 31, v, h => h
  | 32, v, h => h
  | 33, v, h => h
  | 34, v, h => h
  | 35, v, h => h
  | 36, v, h => h
  | 37, v, h => h
  | 38, v, h => h
  | 39, v, h => h
  | 40, v, h => h
  | 41, v, h => h
  | n + 42, v, h => trivial
set_option maxHeartbeats 8000000 in
theorem check_5 (t : Tr) (p : TrP) (w : World) (h : Hid (TrOk w t p)) (g0 : Hid (inB t.cam 0 6 = true)) (g1 : Hid (inB t.stu 0 19999 = true)) (g2 : Hid (inB t.ver 1 1048576 = true)) (g3 : Hid (inB t.kno 1 16777216 = true)) (g4 : Hid (decide (t.ln.length ≤ 4096) = true)) (g5 : Hid (chkE vLn nLn (-1) t.ln = false)) :
    Calls Tryd.prog 17 #[trV t p] w fun e w' => e = .returned (.int .i64 420) ∧ Below w.heap.size w w' := by
  have hml : maxLen ≤ 9223372036854775807 := by unfold maxLen; omega
  have HM1 : Hid (p.n ≤ 9223372036854775807) := Lib.hid (Nat.le_trans h.out.mn hml)
  have HM2 : Hid (p.n2 ≤ 9223372036854775807) := Lib.hid (Nat.le_trans h.out.mc hml)
  have HLN : Hid (t.ln.length = p.n) := Lib.hid h.out.ln.len
  have d4 : decide ((4096 : Int) < (p.n : Int)) = false := by
    have hg := g4.out
    rw [HLN.out] at hg
    exact decide_eq_false (by have := of_decide_eq_true hg; omega)
  clear HLN
  have HB0 := Lib.hid ((Below.refl _ w).alloc (Nat.le_refl _) (.cells (trC t p).toArray 27))
  have HR0 := Lib.hid (heap_alloc_new w (.cells (trC t p).toArray 27))
  have HO1 := Lib.hid (h.out.below HB0.out)
  rw [show trV t p = .agg (trC t p).toArray from rfl]
  clear hml
  go_enter Tryd.func17, Tryd.ntmps17
  go_wp2_with fail
  generalize w.alloc (.cells (trC t p).toArray 27) = W1 at *
  refine region_flow3 (by kernel_rfl) (by kernel_rfl) (fun i => Nat.beq i 41) (fun i => i) (by kernel_rfl) (fun fx => #[Value.agg (trC t p).toArray, Value.pointer (some { block := w.heap.size, off := 0 }), Value.int .i64 0, fx 0, fx 1, fx 2, fx 3, fx 4, fx 5, fx 6, fx 7, fx 8, fx 9, fx 10, fx 11, fx 12, fx 13, fx 14, fx 15, fx 16, fx 17, fx 18, fx 19, fx 20, fx 21, fx 22, fx 23, fx 24, fx 25, fx 26, fx 27, fx 28, fx 29, fx 30, fx 31, fx 32, fx 33, fx 34, fx 35, fx 36, fx 37, fx 38, fx 39, fx 40, fx 41]) (fun _ => undef) (fun L fx w' => Below W1.heap.size W1 w') (fun fi fv _ fw => wCk5 w.heap.size t p fi fv fw) (Below.refl _ _).drew ?_ ?_
  · refine ⟨?_, ?_, ?_, ?_, ?_, ?_, ?_, ?_, ?_, ?_, ?_, ?_, ?_, ?_, ?_, ?_, ?_, ?_, ?_, ?_, ?_, ?_, ?_, ?_, ?_, ?_, ?_, ?_, ?_, ?_, ?_, ?_, ?_, ?_, ?_, ?_, ?_, ?_, ?_, ?_, ?_, ?_, trivial⟩
    all_goals intro L fx w' hC hi hcl hdn hd
    · clear hd
      go_wp2_with fail
      exact ⟨_, rfl, hC, rfl, fun _ _ _ _ _ h => h⟩
    · have h0 : fx 0 = Value.pointer (some { block := w.heap.size, off := 0 }) := hd.1 rfl
      have hcc : w'.cell? ⟨w.heap.size, 0, none⟩ = some (Value.int .i64 t.cam) := by rw [cell_of_row _ _ _ _ _ _ (row_kept HR0.out hC)]; rfl
      clear hd
      go_wp2_with fail
      exact ⟨_, by simp only [upd, h0]; rfl, hC, rfl, fun _ _ _ _ _ h => h⟩
    · have h1 : fx 1 = Value.int .i64 t.cam := hd.1 rfl
      go_wp2_with fail
      refine (in_any t.cam 0 6 w').mono ?_
      rintro e w2 ⟨rfl, rfl⟩
      rw [show (decide (0 ≤ t.cam) && decide (t.cam ≤ 6)) = true from g0.out]
      go_wp2_with fail
      exact ⟨_, by simp only [upd, h1]; rfl, hC, rfl, fun _ _ _ _ _ h => h⟩
    · have h2 : fx 2 = Value.bool true := hd.1 rfl
      clear hd
      go_wp2_with fail
      exact ⟨_, by simp only [upd, h2]; rfl, hC, rfl, fun _ _ _ _ _ h => h⟩
    · have h3 : fx 3 = Value.bool false := hd.1 rfl
      clear hd
      go_wp2_with fail
      exact ⟨_, by simp only [upd, h3]; rfl, hC, rfl, fun _ _ _ _ _ h => h⟩
    · have h4 : fx 4 = Value.bool false := hd.1 rfl
      dsimp only
      rw [h4]
      refine wpList_unguard rfl ?_
      clear hd
      go_wp2_with fail
      exact ⟨_, by simp only [upd, h4]; rfl, hC, rfl, fun _ _ _ _ _ h => h⟩
    · have h5 : fx 5 = Value.pointer (some { block := w.heap.size, off := 1 }) := hd.1 rfl
      have h4 : fx 4 = Value.bool false := hd.2.1 rfl
      dsimp only
      rw [h4]
      refine wpList_unguard rfl ?_
      have hcc : w'.cell? ⟨w.heap.size, 1, none⟩ = some (Value.int .i64 t.stu) := by rw [cell_of_row _ _ _ _ _ _ (row_kept HR0.out hC)]; rfl
      clear hd
      go_wp2_with fail
      exact ⟨_, by simp only [upd, h5, h4]; rfl, hC, rfl, fun _ _ _ _ _ h => h⟩
    · have h6 : fx 6 = Value.int .i64 t.stu := hd.1 rfl
      have h4 : fx 4 = Value.bool false := hd.2.2.1 rfl
      dsimp only
      rw [h4]
      refine wpList_unguard rfl ?_
      go_wp2_with fail
      refine (in_any t.stu 0 19999 w').mono ?_
      rintro e w2 ⟨rfl, rfl⟩
      rw [show (decide (0 ≤ t.stu) && decide (t.stu ≤ 19999)) = true from g1.out]
      go_wp2_with fail
      exact ⟨_, by simp only [upd, h6, h4]; rfl, hC, rfl, fun _ _ _ _ _ h => h⟩
    · have h7 : fx 7 = Value.bool true := hd.1 rfl
      have h4 : fx 4 = Value.bool false := hd.2.1 rfl
      dsimp only
      rw [h4]
      refine wpList_unguard rfl ?_
      clear hd
      go_wp2_with fail
      exact ⟨_, by simp only [upd, h7, h4]; rfl, hC, rfl, fun _ _ _ _ _ h => h⟩
    · have h4 : fx 4 = Value.bool false := hd.1 rfl
      have h8 : fx 8 = Value.bool false := hd.2.1 rfl
      clear hd
      go_wp2_with fail
      exact ⟨_, by simp only [upd, h4, h8]; rfl, hC, rfl, fun _ _ _ _ _ h => h⟩
    · have h9 : fx 9 = Value.bool false := hd.1 rfl
      clear hd
      go_wp2_with fail
      exact ⟨_, by simp only [upd, h9]; rfl, hC, rfl, fun _ _ _ _ _ h => h⟩
    · have h10 : fx 10 = Value.bool false := hd.1 rfl
      dsimp only
      rw [h10]
      refine wpList_unguard rfl ?_
      clear hd
      go_wp2_with fail
      exact ⟨_, by simp only [upd, h10]; rfl, hC, rfl, fun _ _ _ _ _ h => h⟩
    · have h11 : fx 11 = Value.pointer (some { block := w.heap.size, off := 2 }) := hd.1 rfl
      have h10 : fx 10 = Value.bool false := hd.2.1 rfl
      dsimp only
      rw [h10]
      refine wpList_unguard rfl ?_
      have hcc : w'.cell? ⟨w.heap.size, 2, none⟩ = some (Value.int .i64 t.ver) := by rw [cell_of_row _ _ _ _ _ _ (row_kept HR0.out hC)]; rfl
      clear hd
      go_wp2_with fail
      exact ⟨_, by simp only [upd, h11, h10]; rfl, hC, rfl, fun _ _ _ _ _ h => h⟩
    · have h12 : fx 12 = Value.int .i64 t.ver := hd.1 rfl
      have h10 : fx 10 = Value.bool false := hd.2.2.1 rfl
      dsimp only
      rw [h10]
      refine wpList_unguard rfl ?_
      go_wp2_with fail
      refine (in_any t.ver 1 1048576 w').mono ?_
      rintro e w2 ⟨rfl, rfl⟩
      rw [show (decide (1 ≤ t.ver) && decide (t.ver ≤ 1048576)) = true from g2.out]
      go_wp2_with fail
      exact ⟨_, by simp only [upd, h12, h10]; rfl, hC, rfl, fun _ _ _ _ _ h => h⟩
    · have h13 : fx 13 = Value.bool true := hd.1 rfl
      have h10 : fx 10 = Value.bool false := hd.2.1 rfl
      dsimp only
      rw [h10]
      refine wpList_unguard rfl ?_
      clear hd
      go_wp2_with fail
      exact ⟨_, by simp only [upd, h13, h10]; rfl, hC, rfl, fun _ _ _ _ _ h => h⟩
    · have h10 : fx 10 = Value.bool false := hd.1 rfl
      have h14 : fx 14 = Value.bool false := hd.2.1 rfl
      clear hd
      go_wp2_with fail
      exact ⟨_, by simp only [upd, h10, h14]; rfl, hC, rfl, fun _ _ _ _ _ h => h⟩
    · have h15 : fx 15 = Value.bool false := hd.1 rfl
      clear hd
      go_wp2_with fail
      exact ⟨_, by simp only [upd, h15]; rfl, hC, rfl, fun _ _ _ _ _ h => h⟩
    · have h16 : fx 16 = Value.bool false := hd.1 rfl
      dsimp only
      rw [h16]
      refine wpList_unguard rfl ?_
      clear hd
      go_wp2_with fail
      exact ⟨_, by simp only [upd, h16]; rfl, hC, rfl, fun _ _ _ _ _ h => h⟩
    · have h17 : fx 17 = Value.pointer (some { block := w.heap.size, off := 3 }) := hd.1 rfl
      have h16 : fx 16 = Value.bool false := hd.2.1 rfl
      dsimp only
      rw [h16]
      refine wpList_unguard rfl ?_
      have hcc : w'.cell? ⟨w.heap.size, 3, none⟩ = some (Value.int .i64 t.kno) := by rw [cell_of_row _ _ _ _ _ _ (row_kept HR0.out hC)]; rfl
      clear hd
      go_wp2_with fail
      exact ⟨_, by simp only [upd, h17, h16]; rfl, hC, rfl, fun _ _ _ _ _ h => h⟩
    · have h18 : fx 18 = Value.int .i64 t.kno := hd.1 rfl
      have h16 : fx 16 = Value.bool false := hd.2.2.1 rfl
      dsimp only
      rw [h16]
      refine wpList_unguard rfl ?_
      go_wp2_with fail
      refine (in_any t.kno 1 16777216 w').mono ?_
      rintro e w2 ⟨rfl, rfl⟩
      rw [show (decide (1 ≤ t.kno) && decide (t.kno ≤ 16777216)) = true from g3.out]
      go_wp2_with fail
      exact ⟨_, by simp only [upd, h18, h16]; rfl, hC, rfl, fun _ _ _ _ _ h => h⟩
    · have h19 : fx 19 = Value.bool true := hd.1 rfl
      have h16 : fx 16 = Value.bool false := hd.2.1 rfl
      dsimp only
      rw [h16]
      refine wpList_unguard rfl ?_
      clear hd
      go_wp2_with fail
      exact ⟨_, by simp only [upd, h19, h16]; rfl, hC, rfl, fun _ _ _ _ _ h => h⟩
    · have h16 : fx 16 = Value.bool false := hd.1 rfl
      have h20 : fx 20 = Value.bool false := hd.2.1 rfl
      clear hd
      go_wp2_with fail
      exact ⟨_, by simp only [upd, h16, h20]; rfl, hC, rfl, fun _ _ _ _ _ h => h⟩
    · have h21 : fx 21 = Value.bool false := hd.1 rfl
      clear hd
      go_wp2_with fail
      exact ⟨_, by simp only [upd, h21]; rfl, hC, rfl, fun _ _ _ _ _ h => h⟩
    · have h22 : fx 22 = Value.bool false := hd.1 rfl
      dsimp only
      rw [h22]
      refine wpList_unguard rfl ?_
      clear hd
      go_wp2_with fail
      exact ⟨_, by simp only [upd, h22]; rfl, hC, rfl, fun _ _ _ _ _ h => h⟩
    · have h23 : fx 23 = Value.pointer (some { block := w.heap.size, off := 4 }) := hd.1 rfl
      have h22 : fx 22 = Value.bool false := hd.2.1 rfl
      dsimp only
      rw [h22]
      refine wpList_unguard rfl ?_
      have hcc : w'.cell? ⟨w.heap.size, 4, none⟩ = some (Value.slice p.A p.n p.c) := by rw [cell_of_row _ _ _ _ _ _ (row_kept HR0.out hC)]; rfl
      clear hd
      go_wp2_with fail
      exact ⟨_, by simp only [upd, h23, h22]; rfl, hC, rfl, fun _ _ _ _ _ h => h⟩
    · have h24 : fx 24 = Value.slice p.A p.n p.c := hd.1 rfl
      have h22 : fx 22 = Value.bool false := hd.2.1 rfl
      dsimp only
      rw [h22]
      refine wpList_unguard rfl ?_
      clear hd
      go_wp2_with fail
      exact ⟨_, by simp only [upd, h24, h22]; rfl, hC, rfl, fun _ _ _ _ _ h => h⟩
    · have h25 : fx 25 = Value.int .i64 (p.n : Nat) := hd.1 rfl
      have h22 : fx 22 = Value.bool false := hd.2.1 rfl
      dsimp only
      rw [h22]
      refine wpList_unguard rfl ?_
      clear hd
      go_wp2_with fail
      exact ⟨_, by simp only [upd, h25, h22]; rfl, hC, rfl, fun _ _ _ _ _ h => h⟩
    · have h22 : fx 22 = Value.bool false := hd.1 rfl
      have h26 : fx 26 = Value.bool false := hd.2.1 rfl
      clear hd
      go_wp2_with fail
      exact ⟨_, by simp only [upd, h22, h26]; rfl, hC, rfl, fun _ _ _ _ _ h => h⟩
    · have h27 : fx 27 = Value.bool false := hd.1 rfl
      clear hd
      go_wp2_with fail
      exact ⟨_, by simp only [upd, h27]; rfl, hC, rfl, fun _ _ _ _ _ h => h⟩
    · have h28 : fx 28 = Value.bool false := hd.2.1 rfl
      dsimp only
      rw [h28]
      refine wpList_unguard rfl ?_
      go_wp2_with fail
      refine (lines_any w').mono ?_
      rintro e w2 ⟨rfl, hq⟩
      go_wp2_with fail
      exact ⟨_, by simp only [upd, h28]; rfl, hC.trans (hq.mono hC.size), rfl, fun j v t _ _ h => wCk5_below hq j v h⟩
    · have h28 : fx 28 = Value.bool false := hd.1 rfl
      dsimp only
      rw [h28]
      refine wpList_unguard rfl ?_
      clear hd
      go_wp2_with fail
      exact ⟨_, by simp only [upd, h28]; rfl, hC, rfl, fun _ _ _ _ _ h => h⟩
    · have h30 : fx 30 = Value.pointer (some { block := w.heap.size, off := 4 }) := hd.1 rfl
      have h28 : fx 28 = Value.bool false := hd.2.1 rfl
      dsimp only
      rw [h28]
      refine wpList_unguard rfl ?_
      have hcc : w'.cell? ⟨w.heap.size, 4, none⟩ = some (Value.slice p.A p.n p.c) := by rw [cell_of_row _ _ _ _ _ _ (row_kept HR0.out hC)]; rfl
      clear hd
      go_wp2_with fail
      exact ⟨_, by simp only [upd, h30, h28]; rfl, hC, rfl, fun _ _ _ _ _ h => h⟩
    · have h29 : fx 29 = Value.agg tabL := hd.1 rfl
      have h31 : fx 31 = Value.slice p.A p.n p.c := hd.2.1 rfl
      have h28 : fx 28 = Value.bool false := hd.2.2.2.1 rfl
      dsimp only
      rw [h28]
      refine wpList_unguard rfl ?_
      go_wp2_with fail
      refine (checkL t.ln p.A p.n p.c w' HM1.out (Lib.hid (HO1.out.ln.below hC))).mono ?_
      rintro e w2 ⟨rfl, hq⟩
      rw [g5.out]
      go_wp2_with fail
      exact ⟨_, by simp only [upd, h29, h31, h28]; rfl, hC.trans (hq.mono hC.size), rfl, fun j v t _ _ h => wCk5_below hq j v h⟩
    · have h32 : fx 32 = Value.bool false := hd.1 rfl
      have h28 : fx 28 = Value.bool false := hd.2.1 rfl
      dsimp only
      rw [h28]
      refine wpList_unguard rfl ?_
      clear hd
      go_wp2_with fail
      exact ⟨_, by simp only [upd, h32, h28]; rfl, hC, rfl, fun _ _ _ _ _ h => h⟩
    · have h28 : fx 28 = Value.bool false := hd.1 rfl
      have h33 : fx 33 = Value.bool true := hd.2.1 rfl
      clear hd
      go_wp2_with fail
      exact ⟨_, by simp only [upd, h28, h33]; rfl, hC, rfl, fun _ _ _ _ _ h => h⟩
    · have h34 : fx 34 = Value.bool true := hd.1 rfl
      clear hd
      go_wp2_with fail
      exact ⟨_, by simp only [upd, h34]; rfl, hC, rfl, fun _ _ _ _ _ h => h⟩
    · have h35 : fx 35 = Value.bool true := hd.2.1 rfl
      go_wp2_with fail
      exact ⟨_, by simp only [upd, h35]; rfl, hC, rfl, fun _ _ _ _ _ h => h⟩
    · have h35 : fx 35 = Value.bool true := hd.1 rfl
      go_wp2_with fail
      exact ⟨_, by simp only [upd, h35]; rfl, hC, rfl, fun _ _ _ _ _ h => h⟩
    · have h37 : fx 37 = undef := hd.1 rfl
      have h35 : fx 35 = Value.bool true := hd.2.1 rfl
      go_wp2_with fail
      exact ⟨_, by simp only [upd, h37, h35]; rfl, hC, rfl, fun _ _ _ _ _ h => h⟩
    · have h36 : fx 36 = undef := hd.1 rfl
      have h38 : fx 38 = undef := hd.2.1 rfl
      have h35 : fx 35 = Value.bool true := hd.2.2.2.1 rfl
      go_wp2_with fail
      exact ⟨_, by simp only [upd, h36, h38, h35]; rfl, hC, rfl, fun _ _ _ _ _ h => h⟩
    · have h39 : fx 39 = undef := hd.1 rfl
      have h35 : fx 35 = Value.bool true := hd.2.1 rfl
      go_wp2_with fail
      exact ⟨_, by simp only [upd, h39, h35]; rfl, hC, rfl, fun _ _ _ _ _ h => h⟩
    · have h35 : fx 35 = Value.bool true := hd.1 rfl
      have h40 : fx 40 = undef := hd.2.1 rfl
      clear hd
      go_wp2_with fail
      exact ⟨_, by simp only [upd, h35, h40]; rfl, hC, rfl, fun _ _ _ _ _ h => h⟩
  · intro L fo w' hC hS
    have H41 := Lib.hid (hS 41 (by decide) rfl)
    have h41 : fo 41 = Value.bool true := H41.out
    rw [h41]
    have HBC := Lib.hid (HB0.out.trans (hC.mono HB0.out.size))
    clear hS hC h41 H41
    go_wp2_with fail
    go_ret
    exact ⟨rfl, HBC.out⟩
end Go.Proofs.YtmfmgeapecapiaaDoor
namespace Go.Proofs.YtmfmgeapecapiaaDoor
open Go.RowKit SzSha SzTree
set_option linter.unusedVariables false
set_option maxRecDepth 100000
def wCk6 (bt : Nat) (t : Tr) (p : TrP) : Nat → Value → World → Prop
  | 0, fv, _ => fv = Value.pointer (some { block := bt, off := 0 })
  | 1, fv, _ => fv = Value.int .i64 t.cam
  | 2, fv, _ => fv = Value.bool true
  | 3, fv, _ => fv = Value.bool false
  | 4, fv, _ => fv = Value.bool false
  | 5, fv, _ => fv = Value.pointer (some { block := bt, off := 1 })
  | 6, fv, _ => fv = Value.int .i64 t.stu
  | 7, fv, _ => fv = Value.bool true
  | 8, fv, _ => fv = Value.bool false
  | 9, fv, _ => fv = Value.bool false
  | 10, fv, _ => fv = Value.bool false
  | 11, fv, _ => fv = Value.pointer (some { block := bt, off := 2 })
  | 12, fv, _ => fv = Value.int .i64 t.ver
  | 13, fv, _ => fv = Value.bool true
  | 14, fv, _ => fv = Value.bool false
  | 15, fv, _ => fv = Value.bool false
  | 16, fv, _ => fv = Value.bool false
  | 17, fv, _ => fv = Value.pointer (some { block := bt, off := 3 })
  | 18, fv, _ => fv = Value.int .i64 t.kno
  | 19, fv, _ => fv = Value.bool true
  | 20, fv, _ => fv = Value.bool false
  | 21, fv, _ => fv = Value.bool false
  | 22, fv, _ => fv = Value.bool false
  | 23, fv, _ => fv = Value.pointer (some { block := bt, off := 4 })
  | 24, fv, _ => fv = Value.slice p.A p.n p.c
  | 25, fv, _ => fv = Value.int .i64 (p.n : Nat)
  | 26, fv, _ => fv = Value.bool false
  | 27, fv, _ => fv = Value.bool false
  | 28, fv, _ => fv = Value.bool false
  | 29, fv, _ => fv = Value.agg tabL
  | 30, fv, _ => fv = Value.pointer (some { block := bt, off := 4 })
  | 31, fv, _ => fv = Value.slice p.A p.n p.c
  | 32, fv, _ => fv = Value.bool true
  | 33, fv, _ => fv = Value.bool false
  | 34, fv, _ => fv = Value.bool false
  | 35, fv, _ => fv = Value.bool false
  | 36, fv, _ => fv = Value.agg tabK
  | 37, fv, _ => fv = Value.pointer (some { block := bt, off := 5 })
  | 38, fv, _ => fv = Value.slice p.A2 p.n2 p.c2
  | 39, fv, _ => fv = Value.bool false
  | 40, fv, _ => fv = Value.bool true
  | 41, fv, _ => fv = Value.bool true
  | _, _, _ => True
theorem wCk6_below {bt : Nat} {t : Tr} {p : TrP} {w w' : World} (hb : Below w.heap.size w w') : ∀ j v, wCk6 bt t p j v w → wCk6 bt t p j v w'
  | 0, v, h => h
  | 1, v, h => h
  | 2, v, h => h
  | 3, v, h => h
  | 4, v, h => h
  | 5, v, h => h
  | 6, v, h => h
  | 7, v, h => h
  | 8, v, h => h
  | 9, v, h => h
  | 10, v, h => h
  | 11, v, h => h
  | 12, v, h => h
  | 13, v, h => h
  | 14, v, h => h
  | 15, v, h => h
  | 16, v, h => h
  | 17, v, h => h
  | 18, v, h => h
  | 19, v, h => h
  | 20, v, h => h
  | 21, v, h => h
  | 22, v, h => h
  | 23, v, h => h
  | 24, v, h => h
  | 25, v, h => h
  | 26, v, h => h
  | 27, v, h => h
  | 28, v, h => h
  | 29, v, h => h
  | 30, v, h => h
  | 31, v, h => h
  | 32, v, h => h
  | 33, v, h => h
  | 34, v, h => h
  | 35, v, h => h
  | 36, v, h => h
  | 37, v, h => h
  | 38, v, h => h
  | 39, v, h => h
  | 40, v, h => h
  | 41, v, h => h
  | n + 42, v, h => trivial
set_option maxHeartbeats 8000000 in
theorem check_6 (t : Tr) (p : TrP) (w : World) (h : Hid (TrOk w t p)) (g0 : Hid (inB t.cam 0 6 = true)) (g1 : Hid (inB t.stu 0 19999 = true)) (g2 : Hid (inB t.ver 1 1048576 = true)) (g3 : Hid (inB t.kno 1 16777216 = true)) (g4 : Hid (decide (t.ln.length ≤ 4096) = true)) (g5 : Hid (chkE vLn nLn (-1) t.ln = true)) (g6 : Hid (chkE vCl nCl (-1) t.cl = false)) :
    Calls Tryd.prog 17 #[trV t p] w fun e w' => e = .returned (.int .i64 420) ∧ Below w.heap.size w w' := by
  have hml : maxLen ≤ 9223372036854775807 := by unfold maxLen; omega
  have HM1 : Hid (p.n ≤ 9223372036854775807) := Lib.hid (Nat.le_trans h.out.mn hml)
  have HM2 : Hid (p.n2 ≤ 9223372036854775807) := Lib.hid (Nat.le_trans h.out.mc hml)
  have HLN : Hid (t.ln.length = p.n) := Lib.hid h.out.ln.len
  have d4 : decide ((4096 : Int) < (p.n : Int)) = false := by
    have hg := g4.out
    rw [HLN.out] at hg
    exact decide_eq_false (by have := of_decide_eq_true hg; omega)
  clear HLN
  have HB0 := Lib.hid ((Below.refl _ w).alloc (Nat.le_refl _) (.cells (trC t p).toArray 27))
  have HR0 := Lib.hid (heap_alloc_new w (.cells (trC t p).toArray 27))
  have HO1 := Lib.hid (h.out.below HB0.out)
  rw [show trV t p = .agg (trC t p).toArray from rfl]
  clear hml
  go_enter Tryd.func17, Tryd.ntmps17
  go_wp2_with fail
  generalize w.alloc (.cells (trC t p).toArray 27) = W1 at *
  refine region_flow3 (by kernel_rfl) (by kernel_rfl) (fun i => Nat.beq i 41) (fun i => i) (by kernel_rfl) (fun fx => #[Value.agg (trC t p).toArray, Value.pointer (some { block := w.heap.size, off := 0 }), Value.int .i64 0, fx 0, fx 1, fx 2, fx 3, fx 4, fx 5, fx 6, fx 7, fx 8, fx 9, fx 10, fx 11, fx 12, fx 13, fx 14, fx 15, fx 16, fx 17, fx 18, fx 19, fx 20, fx 21, fx 22, fx 23, fx 24, fx 25, fx 26, fx 27, fx 28, fx 29, fx 30, fx 31, fx 32, fx 33, fx 34, fx 35, fx 36, fx 37, fx 38, fx 39, fx 40, fx 41]) (fun _ => undef) (fun L fx w' => Below W1.heap.size W1 w') (fun fi fv _ fw => wCk6 w.heap.size t p fi fv fw) (Below.refl _ _).drew ?_ ?_
  · refine ⟨?_, ?_, ?_, ?_, ?_, ?_, ?_, ?_, ?_, ?_, ?_, ?_, ?_, ?_, ?_, ?_, ?_, ?_, ?_, ?_, ?_, ?_, ?_, ?_, ?_, ?_, ?_, ?_, ?_, ?_, ?_, ?_, ?_, ?_, ?_, ?_, ?_, ?_, ?_, ?_, ?_, ?_, trivial⟩
    all_goals intro L fx w' hC hi hcl hdn hd
    · clear hd
      go_wp2_with fail
      exact ⟨_, rfl, hC, rfl, fun _ _ _ _ _ h => h⟩
    · have h0 : fx 0 = Value.pointer (some { block := w.heap.size, off := 0 }) := hd.1 rfl
      have hcc : w'.cell? ⟨w.heap.size, 0, none⟩ = some (Value.int .i64 t.cam) := by rw [cell_of_row _ _ _ _ _ _ (row_kept HR0.out hC)]; rfl
      clear hd
      go_wp2_with fail
      exact ⟨_, by simp only [upd, h0]; rfl, hC, rfl, fun _ _ _ _ _ h => h⟩
    · have h1 : fx 1 = Value.int .i64 t.cam := hd.1 rfl
      go_wp2_with fail
      refine (in_any t.cam 0 6 w').mono ?_
      rintro e w2 ⟨rfl, rfl⟩
      rw [show (decide (0 ≤ t.cam) && decide (t.cam ≤ 6)) = true from g0.out]
      go_wp2_with fail
      exact ⟨_, by simp only [upd, h1]; rfl, hC, rfl, fun _ _ _ _ _ h => h⟩
    · have h2 : fx 2 = Value.bool true := hd.1 rfl
      clear hd
      go_wp2_with fail
      exact ⟨_, by simp only [upd, h2]; rfl, hC, rfl, fun _ _ _ _ _ h => h⟩
    · have h3 : fx 3 = Value.bool false := hd.1 rfl
      clear hd
      go_wp2_with fail
      exact ⟨_, by simp only [upd, h3]; rfl, hC, rfl, fun _ _ _ _ _ h => h⟩
    · have h4 : fx 4 = Value.bool false := hd.1 rfl
      dsimp only
      rw [h4]
      refine wpList_unguard rfl ?_
      clear hd
      go_wp2_with fail
      exact ⟨_, by simp only [upd, h4]; rfl, hC, rfl, fun _ _ _ _ _ h => h⟩
    · have h5 : fx 5 = Value.pointer (some { block := w.heap.size, off := 1 }) := hd.1 rfl
      have h4 : fx 4 = Value.bool false := hd.2.1 rfl
      dsimp only
      rw [h4]
      refine wpList_unguard rfl ?_
      have hcc : w'.cell? ⟨w.heap.size, 1, none⟩ = some (Value.int .i64 t.stu) := by rw [cell_of_row _ _ _ _ _ _ (row_kept HR0.out hC)]; rfl
      clear hd
      go_wp2_with fail
      exact ⟨_, by simp only [upd, h5, h4]; rfl, hC, rfl, fun _ _ _ _ _ h => h⟩
    · have h6 : fx 6 = Value.int .i64 t.stu := hd.1 rfl
      have h4 : fx 4 = Value.bool false := hd.2.2.1 rfl
      dsimp only
      rw [h4]
      refine wpList_unguard rfl ?_
      go_wp2_with fail
      refine (in_any t.stu 0 19999 w').mono ?_
      rintro e w2 ⟨rfl, rfl⟩
      rw [show (decide (0 ≤ t.stu) && decide (t.stu ≤ 19999)) = true from g1.out]
      go_wp2_with fail
      exact ⟨_, by simp only [upd, h6, h4]; rfl, hC, rfl, fun _ _ _ _ _ h => h⟩
    · have h7 : fx 7 = Value.bool true := hd.1 rfl
      have h4 : fx 4 = Value.bool false := hd.2.1 rfl
      dsimp only
      rw [h4]
      refine wpList_unguard rfl ?_
      clear hd
      go_wp2_with fail
      exact ⟨_, by simp only [upd, h7, h4]; rfl, hC, rfl, fun _ _ _ _ _ h => h⟩
    · have h4 : fx 4 = Value.bool false := hd.1 rfl
      have h8 : fx 8 = Value.bool false := hd.2.1 rfl
      clear hd
      go_wp2_with fail
      exact ⟨_, by simp only [upd, h4, h8]; rfl, hC, rfl, fun _ _ _ _ _ h => h⟩
    · have h9 : fx 9 = Value.bool false := hd.1 rfl
      clear hd
      go_wp2_with fail
      exact ⟨_, by simp only [upd, h9]; rfl, hC, rfl, fun _ _ _ _ _ h => h⟩
    · have h10 : fx 10 = Value.bool false := hd.1 rfl
      dsimp only
      rw [h10]
      refine wpList_unguard rfl ?_
      clear hd
      go_wp2_with fail
      exact ⟨_, by simp only [upd, h10]; rfl, hC, rfl, fun _ _ _ _ _ h => h⟩
    · have h11 : fx 11 = Value.pointer (some { block := w.heap.size, off := 2 }) := hd.1 rfl
      have h10 : fx 10 = Value.bool false := hd.2.1 rfl
      dsimp only
      rw [h10]
      refine wpList_unguard rfl ?_
      have hcc : w'.cell? ⟨w.heap.size, 2, none⟩ = some (Value.int .i64 t.ver) := by rw [cell_of_row _ _ _ _ _ _ (row_kept HR0.out hC)]; rfl
      clear hd
      go_wp2_with fail
      exact ⟨_, by simp only [upd, h11, h10]; rfl, hC, rfl, fun _ _ _ _ _ h => h⟩
    · have h12 : fx 12 = Value.int .i64 t.ver := hd.1 rfl
      have h10 : fx 10 = Value.bool false := hd.2.2.1 rfl
      dsimp only
      rw [h10]
      refine wpList_unguard rfl ?_
      go_wp2_with fail
      refine (in_any t.ver 1 1048576 w').mono ?_
      rintro e w2 ⟨rfl, rfl⟩
      rw [show (decide (1 ≤ t.ver) && decide (t.ver ≤ 1048576)) = true from g2.out]
      go_wp2_with fail
      exact ⟨_, by simp only [upd, h12, h10]; rfl, hC, rfl, fun _ _ _ _ _ h => h⟩
    · have h13 : fx 13 = Value.bool true := hd.1 rfl
      have h10 : fx 10 = Value.bool false := hd.2.1 rfl
      dsimp only
      rw [h10]
      refine wpList_unguard rfl ?_
      clear hd
      go_wp2_with fail
      exact ⟨_, by simp only [upd, h13, h10]; rfl, hC, rfl, fun _ _ _ _ _ h => h⟩
    · have h10 : fx 10 = Value.bool false := hd.1 rfl
      have h14 : fx 14 = Value.bool false := hd.2.1 rfl
      clear hd
      go_wp2_with fail
      exact ⟨_, by simp only [upd, h10, h14]; rfl, hC, rfl, fun _ _ _ _ _ h => h⟩
    · have h15 : fx 15 = Value.bool false := hd.1 rfl
      clear hd
      go_wp2_with fail
      exact ⟨_, by simp only [upd, h15]; rfl, hC, rfl, fun _ _ _ _ _ h => h⟩
    · have h16 : fx 16 = Value.bool false := hd.1 rfl
      dsimp only
      rw [h16]
      refine wpList_unguard rfl ?_
      clear hd
      go_wp2_with fail
      exact ⟨_, by simp only [upd, h16]; rfl, hC, rfl, fun _ _ _ _ _ h => h⟩
    · have h17 : fx 17 = Value.pointer (some { block := w.heap.size, off := 3 }) := hd.1 rfl
      have h16 : fx 16 = Value.bool false := hd.2.1 rfl
      dsimp only
      rw [h16]
      refine wpList_unguard rfl ?_
      have hcc : w'.cell? ⟨w.heap.size, 3, none⟩ = some (Value.int .i64 t.kno) := by rw [cell_of_row _ _ _ _ _ _ (row_kept HR0.out hC)]; rfl
      clear hd
      go_wp2_with fail
      exact ⟨_, by simp only [upd, h17, h16]; rfl, hC, rfl, fun _ _ _ _ _ h => h⟩
    · have h18 : fx 18 = Value.int .i64 t.kno := hd.1 rfl
      have h16 : fx 16 = Value.bool false := hd.2.2.1 rfl
      dsimp only
      rw [h16]
      refine wpList_unguard rfl ?_
      go_wp2_with fail
      refine (in_any t.kno 1 16777216 w').mono ?_
      rintro e w2 ⟨rfl, rfl⟩
      rw [show (decide (1 ≤ t.kno) && decide (t.kno ≤ 16777216)) = true from g3.out]
      go_wp2_with fail
      exact ⟨_, by simp only [upd, h18, h16]; rfl, hC, rfl, fun _ _ _ _ _ h => h⟩
    · have h19 : fx 19 = Value.bool true := hd.1 rfl
      have h16 : fx 16 = Value.bool false := hd.2.1 rfl
      dsimp only
      rw [h16]
      refine wpList_unguard rfl ?_
      clear hd
      go_wp2_with fail
      exact ⟨_, by simp only [upd, h19, h16]; rfl, hC, rfl, fun _ _ _ _ _ h => h⟩
    · have h16 : fx 16 = Value.bool false := hd.1 rfl
      have h20 : fx 20 = Value.bool false := hd.2.1 rfl
      clear hd
      go_wp2_with fail
      exact ⟨_, by simp only [upd, h16, h20]; rfl, hC, rfl, fun _ _ _ _ _ h => h⟩
    · have h21 : fx 21 = Value.bool false := hd.1 rfl
      clear hd
      go_wp2_with fail
      exact ⟨_, by simp only [upd, h21]; rfl, hC, rfl, fun _ _ _ _ _ h => h⟩
    · have h22 : fx 22 = Value.bool false := hd.1 rfl
      dsimp only
      rw [h22]
      refine wpList_unguard rfl ?_
      clear hd
      go_wp2_with fail
      exact ⟨_, by simp only [upd, h22]; rfl, hC, rfl, fun _ _ _ _ _ h => h⟩
    · have h23 : fx 23 = Value.pointer (some { block := w.heap.size, off := 4 }) := hd.1 rfl
      have h22 : fx 22 = Value.bool false := hd.2.1 rfl
      dsimp only
      rw [h22]
      refine wpList_unguard rfl ?_
      have hcc : w'.cell? ⟨w.heap.size, 4, none⟩ = some (Value.slice p.A p.n p.c) := by rw [cell_of_row _ _ _ _ _ _ (row_kept HR0.out hC)]; rfl
      clear hd
      go_wp2_with fail
      exact ⟨_, by simp only [upd, h23, h22]; rfl, hC, rfl, fun _ _ _ _ _ h => h⟩
    · have h24 : fx 24 = Value.slice p.A p.n p.c := hd.1 rfl
      have h22 : fx 22 = Value.bool false := hd.2.1 rfl
      dsimp only
      rw [h22]
      refine wpList_unguard rfl ?_
      clear hd
      go_wp2_with fail
      exact ⟨_, by simp only [upd, h24, h22]; rfl, hC, rfl, fun _ _ _ _ _ h => h⟩
    · have h25 : fx 25 = Value.int .i64 (p.n : Nat) := hd.1 rfl
      have h22 : fx 22 = Value.bool false := hd.2.1 rfl
      dsimp only
      rw [h22]
      refine wpList_unguard rfl ?_
      clear hd
      go_wp2_with fail
      exact ⟨_, by simp only [upd, h25, h22]; rfl, hC, rfl, fun _ _ _ _ _ h => h⟩
    · have h22 : fx 22 = Value.bool false := hd.1 rfl
      have h26 : fx 26 = Value.bool false := hd.2.1 rfl
      clear hd
      go_wp2_with fail
      exact ⟨_, by simp only [upd, h22, h26]; rfl, hC, rfl, fun _ _ _ _ _ h => h⟩
    · have h27 : fx 27 = Value.bool false := hd.1 rfl
      clear hd
      go_wp2_with fail
      exact ⟨_, by simp only [upd, h27]; rfl, hC, rfl, fun _ _ _ _ _ h => h⟩
    · have h28 : fx 28 = Value.bool false := hd.2.1 rfl
      dsimp only
      rw [h28]
      refine wpList_unguard rfl ?_
      go_wp2_with fail
      refine (lines_any w').mono ?_
      rintro e w2 ⟨rfl, hq⟩
      go_wp2_with fail
      exact ⟨_, by simp only [upd, h28]; rfl, hC.trans (hq.mono hC.size), rfl, fun j v t _ _ h => wCk6_below hq j v h⟩
    · have h28 : fx 28 = Value.bool false := hd.1 rfl
      dsimp only
      rw [h28]
      refine wpList_unguard rfl ?_
      clear hd
      go_wp2_with fail
      exact ⟨_, by simp only [upd, h28]; rfl, hC, rfl, fun _ _ _ _ _ h => h⟩
    · have h30 : fx 30 = Value.pointer (some { block := w.heap.size, off := 4 }) := hd.1 rfl
      have h28 : fx 28 = Value.bool false := hd.2.1 rfl
      dsimp only
      rw [h28]
      refine wpList_unguard rfl ?_
      have hcc : w'.cell? ⟨w.heap.size, 4, none⟩ = some (Value.slice p.A p.n p.c) := by rw [cell_of_row _ _ _ _ _ _ (row_kept HR0.out hC)]; rfl
      clear hd
      go_wp2_with fail
      exact ⟨_, by simp only [upd, h30, h28]; rfl, hC, rfl, fun _ _ _ _ _ h => h⟩
    · have h29 : fx 29 = Value.agg tabL := hd.1 rfl
      have h31 : fx 31 = Value.slice p.A p.n p.c := hd.2.1 rfl
      have h28 : fx 28 = Value.bool false := hd.2.2.2.1 rfl
      dsimp only
      rw [h28]
      refine wpList_unguard rfl ?_
      go_wp2_with fail
      refine (checkL t.ln p.A p.n p.c w' HM1.out (Lib.hid (HO1.out.ln.below hC))).mono ?_
      rintro e w2 ⟨rfl, hq⟩
      rw [g5.out]
      go_wp2_with fail
      exact ⟨_, by simp only [upd, h29, h31, h28]; rfl, hC.trans (hq.mono hC.size), rfl, fun j v t _ _ h => wCk6_below hq j v h⟩
    · have h32 : fx 32 = Value.bool true := hd.1 rfl
      have h28 : fx 28 = Value.bool false := hd.2.1 rfl
      dsimp only
      rw [h28]
      refine wpList_unguard rfl ?_
      clear hd
      go_wp2_with fail
      exact ⟨_, by simp only [upd, h32, h28]; rfl, hC, rfl, fun _ _ _ _ _ h => h⟩
    · have h28 : fx 28 = Value.bool false := hd.1 rfl
      have h33 : fx 33 = Value.bool false := hd.2.1 rfl
      clear hd
      go_wp2_with fail
      exact ⟨_, by simp only [upd, h28, h33]; rfl, hC, rfl, fun _ _ _ _ _ h => h⟩
    · have h34 : fx 34 = Value.bool false := hd.1 rfl
      clear hd
      go_wp2_with fail
      exact ⟨_, by simp only [upd, h34]; rfl, hC, rfl, fun _ _ _ _ _ h => h⟩
    · have h35 : fx 35 = Value.bool false := hd.2.1 rfl
      dsimp only
      rw [h35]
      refine wpList_unguard rfl ?_
      go_wp2_with fail
      refine (claims_any w').mono ?_
      rintro e w2 ⟨rfl, hq⟩
      go_wp2_with fail
      exact ⟨_, by simp only [upd, h35]; rfl, hC.trans (hq.mono hC.size), rfl, fun j v t _ _ h => wCk6_below hq j v h⟩
    · have h35 : fx 35 = Value.bool false := hd.1 rfl
      dsimp only
      rw [h35]
      refine wpList_unguard rfl ?_
      clear hd
      go_wp2_with fail
      exact ⟨_, by simp only [upd, h35]; rfl, hC, rfl, fun _ _ _ _ _ h => h⟩
    · have h37 : fx 37 = Value.pointer (some { block := w.heap.size, off := 5 }) := hd.1 rfl
      have h35 : fx 35 = Value.bool false := hd.2.1 rfl
      dsimp only
      rw [h35]
      refine wpList_unguard rfl ?_
      have hcc : w'.cell? ⟨w.heap.size, 5, none⟩ = some (Value.slice p.A2 p.n2 p.c2) := by rw [cell_of_row _ _ _ _ _ _ (row_kept HR0.out hC)]; rfl
      clear hd
      go_wp2_with fail
      exact ⟨_, by simp only [upd, h37, h35]; rfl, hC, rfl, fun _ _ _ _ _ h => h⟩
    · have h36 : fx 36 = Value.agg tabK := hd.1 rfl
      have h38 : fx 38 = Value.slice p.A2 p.n2 p.c2 := hd.2.1 rfl
      have h35 : fx 35 = Value.bool false := hd.2.2.2.1 rfl
      dsimp only
      rw [h35]
      refine wpList_unguard rfl ?_
      go_wp2_with fail
      refine (checkK t.cl p.A2 p.n2 p.c2 w' HM2.out (Lib.hid (HO1.out.cl.below hC))).mono ?_
      rintro e w2 ⟨rfl, hq⟩
      rw [g6.out]
      go_wp2_with fail
      exact ⟨_, by simp only [upd, h36, h38, h35]; rfl, hC.trans (hq.mono hC.size), rfl, fun j v t _ _ h => wCk6_below hq j v h⟩
    · have h39 : fx 39 = Value.bool false := hd.1 rfl
      have h35 : fx 35 = Value.bool false := hd.2.1 rfl
      dsimp only
      rw [h35]
      refine wpList_unguard rfl ?_
      clear hd
      go_wp2_with fail
      exact ⟨_, by simp only [upd, h39, h35]; rfl, hC, rfl, fun _ _ _ _ _ h => h⟩
    · have h35 : fx 35 = Value.bool false := hd.1 rfl
      have h40 : fx 40 = Value.bool true := hd.2.1 rfl
      clear hd
      go_wp2_with fail
      exact ⟨_, by simp only [upd, h35, h40]; rfl, hC, rfl, fun _ _ _ _ _ h => h⟩
  · intro L fo w' hC hS
    have H41 := Lib.hid (hS 41 (by decide) rfl)
    have h41 : fo 41 = Value.bool true := H41.out
    rw [h41]
    have HBC := Lib.hid (HB0.out.trans (hC.mono HB0.out.size))
    clear hS hC h41 H41
    go_wp2_with fail
    go_ret
    exact ⟨rfl, HBC.out⟩
end Go.Proofs.YtmfmgeapecapiaaDoor
namespace Go.Proofs.YtmfmgeapecapiaaDoor
open Go.RowKit SzSha SzTree
set_option linter.unusedVariables false
set_option maxRecDepth 100000
def wCk7 (bt : Nat) (t : Tr) (p : TrP) : Nat → Value → World → Prop
  | 0, fv, _ => fv = Value.pointer (some { block := bt, off := 0 })
  | 1, fv, _ => fv = Value.int .i64 t.cam
  | 2, fv, _ => fv = Value.bool true
  | 3, fv, _ => fv = Value.bool false
  | 4, fv, _ => fv = Value.bool false
  | 5, fv, _ => fv = Value.pointer (some { block := bt, off := 1 })
  | 6, fv, _ => fv = Value.int .i64 t.stu
  | 7, fv, _ => fv = Value.bool true
  | 8, fv, _ => fv = Value.bool false
  | 9, fv, _ => fv = Value.bool false
  | 10, fv, _ => fv = Value.bool false
  | 11, fv, _ => fv = Value.pointer (some { block := bt, off := 2 })
  | 12, fv, _ => fv = Value.int .i64 t.ver
  | 13, fv, _ => fv = Value.bool true
  | 14, fv, _ => fv = Value.bool false
  | 15, fv, _ => fv = Value.bool false
  | 16, fv, _ => fv = Value.bool false
  | 17, fv, _ => fv = Value.pointer (some { block := bt, off := 3 })
  | 18, fv, _ => fv = Value.int .i64 t.kno
  | 19, fv, _ => fv = Value.bool true
  | 20, fv, _ => fv = Value.bool false
  | 21, fv, _ => fv = Value.bool false
  | 22, fv, _ => fv = Value.bool false
  | 23, fv, _ => fv = Value.pointer (some { block := bt, off := 4 })
  | 24, fv, _ => fv = Value.slice p.A p.n p.c
  | 25, fv, _ => fv = Value.int .i64 (p.n : Nat)
  | 26, fv, _ => fv = Value.bool false
  | 27, fv, _ => fv = Value.bool false
  | 28, fv, _ => fv = Value.bool false
  | 29, fv, _ => fv = Value.agg tabL
  | 30, fv, _ => fv = Value.pointer (some { block := bt, off := 4 })
  | 31, fv, _ => fv = Value.slice p.A p.n p.c
  | 32, fv, _ => fv = Value.bool true
  | 33, fv, _ => fv = Value.bool false
  | 34, fv, _ => fv = Value.bool false
  | 35, fv, _ => fv = Value.bool false
  | 36, fv, _ => fv = Value.agg tabK
  | 37, fv, _ => fv = Value.pointer (some { block := bt, off := 5 })
  | 38, fv, _ => fv = Value.slice p.A2 p.n2 p.c2
  | 39, fv, _ => fv = Value.bool true
  | 40, fv, _ => fv = Value.bool false
  | 41, fv, _ => fv = Value.bool false
  | _, _, _ => True
theorem wCk7_below {bt : Nat} {t : Tr} {p : TrP} {w w' : World} (hb : Below w.heap.size w w') : ∀ j v, wCk7 bt t p j v w → wCk7 bt t p j v w'
  | 0, v, h => h
  | 1, v, h => h
  | 2, v, h => h
  | 3, v, h => h
  | 4, v, h => h
  | 5, v, h => h
  | 6, v, h => h
  | 7, v, h => h
  | 8, v, h => h
  | 9, v, h => h
  | 10, v, h => h
  | 11, v, h => h
  | 12, v, h => h
  | 13, v, h => h
  | 14, v, h => h
  | 15, v, h => h
  | 16, v, h => h
  | 17, v, h => h
  | 18, v, h => h
  | 19, v, h => h
  | 20, v, h => h
  | 21, v, h => h
  | 22, v, h => h
  | 23, v, h => h
  | 24, v, h => h
  | 25, v, h => h
  | 26, v, h => h
  | 27, v, h => h
  | 28, v, h => h
  | 29, v, h => h
  | 30, v, h => h
  | 31, v, h => h
  | 32, v, h => h
  | 33, v, h => h
  | 34, v, h => h
  | 35, v, h => h
  | 36, v, h => h
  | 37, v, h => h
  | 38, v, h => h
  | 39, v, h => h
  | 40, v, h => h
  | 41, v, h => h
  | n + 42, v, h => trivial
set_option maxHeartbeats 8000000 in
theorem check_7 (t : Tr) (p : TrP) (w : World) (h : Hid (TrOk w t p)) (g0 : Hid (inB t.cam 0 6 = true)) (g1 : Hid (inB t.stu 0 19999 = true)) (g2 : Hid (inB t.ver 1 1048576 = true)) (g3 : Hid (inB t.kno 1 16777216 = true)) (g4 : Hid (decide (t.ln.length ≤ 4096) = true)) (g5 : Hid (chkE vLn nLn (-1) t.ln = true)) (g6 : Hid (chkE vCl nCl (-1) t.cl = true)) :
    Calls Tryd.prog 17 #[trV t p] w fun e w' => e = .returned (.int .i64 0) ∧ Below w.heap.size w w' := by
  have hml : maxLen ≤ 9223372036854775807 := by unfold maxLen; omega
  have HM1 : Hid (p.n ≤ 9223372036854775807) := Lib.hid (Nat.le_trans h.out.mn hml)
  have HM2 : Hid (p.n2 ≤ 9223372036854775807) := Lib.hid (Nat.le_trans h.out.mc hml)
  have HLN : Hid (t.ln.length = p.n) := Lib.hid h.out.ln.len
  have d4 : decide ((4096 : Int) < (p.n : Int)) = false := by
    have hg := g4.out
    rw [HLN.out] at hg
    exact decide_eq_false (by have := of_decide_eq_true hg; omega)
  clear HLN
  have HB0 := Lib.hid ((Below.refl _ w).alloc (Nat.le_refl _) (.cells (trC t p).toArray 27))
  have HR0 := Lib.hid (heap_alloc_new w (.cells (trC t p).toArray 27))
  have HO1 := Lib.hid (h.out.below HB0.out)
  rw [show trV t p = .agg (trC t p).toArray from rfl]
  clear hml
  go_enter Tryd.func17, Tryd.ntmps17
  go_wp2_with fail
  generalize w.alloc (.cells (trC t p).toArray 27) = W1 at *
  refine region_flow3 (by kernel_rfl) (by kernel_rfl) (fun i => Nat.beq i 41) (fun i => i) (by kernel_rfl) (fun fx => #[Value.agg (trC t p).toArray, Value.pointer (some { block := w.heap.size, off := 0 }), Value.int .i64 0, fx 0, fx 1, fx 2, fx 3, fx 4, fx 5, fx 6, fx 7, fx 8, fx 9, fx 10, fx 11, fx 12, fx 13, fx 14, fx 15, fx 16, fx 17, fx 18, fx 19, fx 20, fx 21, fx 22, fx 23, fx 24, fx 25, fx 26, fx 27, fx 28, fx 29, fx 30, fx 31, fx 32, fx 33, fx 34, fx 35, fx 36, fx 37, fx 38, fx 39, fx 40, fx 41]) (fun _ => undef) (fun L fx w' => Below W1.heap.size W1 w') (fun fi fv _ fw => wCk7 w.heap.size t p fi fv fw) (Below.refl _ _).drew ?_ ?_
  · refine ⟨?_, ?_, ?_, ?_, ?_, ?_, ?_, ?_, ?_, ?_, ?_, ?_, ?_, ?_, ?_, ?_, ?_, ?_, ?_, ?_, ?_, ?_, ?_, ?_, ?_, ?_, ?_, ?_, ?_, ?_, ?_, ?_, ?_, ?_, ?_, ?_, ?_, ?_, ?_, ?_, ?_, ?_, trivial⟩
    all_goals intro L fx w' hC hi hcl hdn hd
    · clear hd
      go_wp2_with fail
      exact ⟨_, rfl, hC, rfl, fun _ _ _ _ _ h => h⟩
    · have h0 : fx 0 = Value.pointer (some { block := w.heap.size, off := 0 }) := hd.1 rfl
      have hcc : w'.cell? ⟨w.heap.size, 0, none⟩ = some (Value.int .i64 t.cam) := by rw [cell_of_row _ _ _ _ _ _ (row_kept HR0.out hC)]; rfl
      clear hd
      go_wp2_with fail
      exact ⟨_, by simp only [upd, h0]; rfl, hC, rfl, fun _ _ _ _ _ h => h⟩
    · have h1 : fx 1 = Value.int .i64 t.cam := hd.1 rfl
      go_wp2_with fail
      refine (in_any t.cam 0 6 w').mono ?_
      rintro e w2 ⟨rfl, rfl⟩
      rw [show (decide (0 ≤ t.cam) && decide (t.cam ≤ 6)) = true from g0.out]
      go_wp2_with fail
      exact ⟨_, by simp only [upd, h1]; rfl, hC, rfl, fun _ _ _ _ _ h => h⟩
    · have h2 : fx 2 = Value.bool true := hd.1 rfl
      clear hd
      go_wp2_with fail
      exact ⟨_, by simp only [upd, h2]; rfl, hC, rfl, fun _ _ _ _ _ h => h⟩
    · have h3 : fx 3 = Value.bool false := hd.1 rfl
      clear hd
      go_wp2_with fail
      exact ⟨_, by simp only [upd, h3]; rfl, hC, rfl, fun _ _ _ _ _ h => h⟩
    · have h4 : fx 4 = Value.bool false := hd.1 rfl
      dsimp only
      rw [h4]
      refine wpList_unguard rfl ?_
      clear hd
      go_wp2_with fail
      exact ⟨_, by simp only [upd, h4]; rfl, hC, rfl, fun _ _ _ _ _ h => h⟩
    · have h5 : fx 5 = Value.pointer (some { block := w.heap.size, off := 1 }) := hd.1 rfl
      have h4 : fx 4 = Value.bool false := hd.2.1 rfl
      dsimp only
      rw [h4]
      refine wpList_unguard rfl ?_
      have hcc : w'.cell? ⟨w.heap.size, 1, none⟩ = some (Value.int .i64 t.stu) := by rw [cell_of_row _ _ _ _ _ _ (row_kept HR0.out hC)]; rfl
      clear hd
      go_wp2_with fail
      exact ⟨_, by simp only [upd, h5, h4]; rfl, hC, rfl, fun _ _ _ _ _ h => h⟩
    · have h6 : fx 6 = Value.int .i64 t.stu := hd.1 rfl
      have h4 : fx 4 = Value.bool false := hd.2.2.1 rfl
      dsimp only
      rw [h4]
      refine wpList_unguard rfl ?_
      go_wp2_with fail
      refine (in_any t.stu 0 19999 w').mono ?_
      rintro e w2 ⟨rfl, rfl⟩
      rw [show (decide (0 ≤ t.stu) && decide (t.stu ≤ 19999)) = true from g1.out]
      go_wp2_with fail
      exact ⟨_, by simp only [upd, h6, h4]; rfl, hC, rfl, fun _ _ _ _ _ h => h⟩
    · have h7 : fx 7 = Value.bool true := hd.1 rfl
      have h4 : fx 4 = Value.bool false := hd.2.1 rfl
      dsimp only
      rw [h4]
      refine wpList_unguard rfl ?_
      clear hd
      go_wp2_with fail
      exact ⟨_, by simp only [upd, h7, h4]; rfl, hC, rfl, fun _ _ _ _ _ h => h⟩
    · have h4 : fx 4 = Value.bool false := hd.1 rfl
      have h8 : fx 8 = Value.bool false := hd.2.1 rfl
      clear hd
      go_wp2_with fail
      exact ⟨_, by simp only [upd, h4, h8]; rfl, hC, rfl, fun _ _ _ _ _ h => h⟩
    · have h9 : fx 9 = Value.bool false := hd.1 rfl
      clear hd
      go_wp2_with fail
      exact ⟨_, by simp only [upd, h9]; rfl, hC, rfl, fun _ _ _ _ _ h => h⟩
    · have h10 : fx 10 = Value.bool false := hd.1 rfl
      dsimp only
      rw [h10]
      refine wpList_unguard rfl ?_
      clear hd
      go_wp2_with fail
      exact ⟨_, by simp only [upd, h10]; rfl, hC, rfl, fun _ _ _ _ _ h => h⟩
    · have h11 : fx 11 = Value.pointer (some { block := w.heap.size, off := 2 }) := hd.1 rfl
      have h10 : fx 10 = Value.bool false := hd.2.1 rfl
      dsimp only
      rw [h10]
      refine wpList_unguard rfl ?_
      have hcc : w'.cell? ⟨w.heap.size, 2, none⟩ = some (Value.int .i64 t.ver) := by rw [cell_of_row _ _ _ _ _ _ (row_kept HR0.out hC)]; rfl
      clear hd
      go_wp2_with fail
      exact ⟨_, by simp only [upd, h11, h10]; rfl, hC, rfl, fun _ _ _ _ _ h => h⟩
    · have h12 : fx 12 = Value.int .i64 t.ver := hd.1 rfl
      have h10 : fx 10 = Value.bool false := hd.2.2.1 rfl
      dsimp only
      rw [h10]
      refine wpList_unguard rfl ?_
      go_wp2_with fail
      refine (in_any t.ver 1 1048576 w').mono ?_
      rintro e w2 ⟨rfl, rfl⟩
      rw [show (decide (1 ≤ t.ver) && decide (t.ver ≤ 1048576)) = true from g2.out]
      go_wp2_with fail
      exact ⟨_, by simp only [upd, h12, h10]; rfl, hC, rfl, fun _ _ _ _ _ h => h⟩
    · have h13 : fx 13 = Value.bool true := hd.1 rfl
      have h10 : fx 10 = Value.bool false := hd.2.1 rfl
      dsimp only
      rw [h10]
      refine wpList_unguard rfl ?_
      clear hd
      go_wp2_with fail
      exact ⟨_, by simp only [upd, h13, h10]; rfl, hC, rfl, fun _ _ _ _ _ h => h⟩
    · have h10 : fx 10 = Value.bool false := hd.1 rfl
      have h14 : fx 14 = Value.bool false := hd.2.1 rfl
      clear hd
      go_wp2_with fail
      exact ⟨_, by simp only [upd, h10, h14]; rfl, hC, rfl, fun _ _ _ _ _ h => h⟩
    · have h15 : fx 15 = Value.bool false := hd.1 rfl
      clear hd
      go_wp2_with fail
      exact ⟨_, by simp only [upd, h15]; rfl, hC, rfl, fun _ _ _ _ _ h => h⟩
    · have h16 : fx 16 = Value.bool false := hd.1 rfl
      dsimp only
      rw [h16]
      refine wpList_unguard rfl ?_
      clear hd
      go_wp2_with fail
      exact ⟨_, by simp only [upd, h16]; rfl, hC, rfl, fun _ _ _ _ _ h => h⟩
    · have h17 : fx 17 = Value.pointer (some { block := w.heap.size, off := 3 }) := hd.1 rfl
      have h16 : fx 16 = Value.bool false := hd.2.1 rfl
      dsimp only
      rw [h16]
      refine wpList_unguard rfl ?_
      have hcc : w'.cell? ⟨w.heap.size, 3, none⟩ = some (Value.int .i64 t.kno) := by rw [cell_of_row _ _ _ _ _ _ (row_kept HR0.out hC)]; rfl
      clear hd
      go_wp2_with fail
      exact ⟨_, by simp only [upd, h17, h16]; rfl, hC, rfl, fun _ _ _ _ _ h => h⟩
    · have h18 : fx 18 = Value.int .i64 t.kno := hd.1 rfl
      have h16 : fx 16 = Value.bool false := hd.2.2.1 rfl
      dsimp only
      rw [h16]
      refine wpList_unguard rfl ?_
      go_wp2_with fail
      refine (in_any t.kno 1 16777216 w').mono ?_
      rintro e w2 ⟨rfl, rfl⟩
      rw [show (decide (1 ≤ t.kno) && decide (t.kno ≤ 16777216)) = true from g3.out]
      go_wp2_with fail
      exact ⟨_, by simp only [upd, h18, h16]; rfl, hC, rfl, fun _ _ _ _ _ h => h⟩
    · have h19 : fx 19 = Value.bool true := hd.1 rfl
      have h16 : fx 16 = Value.bool false := hd.2.1 rfl
      dsimp only
      rw [h16]
      refine wpList_unguard rfl ?_
      clear hd
      go_wp2_with fail
      exact ⟨_, by simp only [upd, h19, h16]; rfl, hC, rfl, fun _ _ _ _ _ h => h⟩
    · have h16 : fx 16 = Value.bool false := hd.1 rfl
      have h20 : fx 20 = Value.bool false := hd.2.1 rfl
      clear hd
      go_wp2_with fail
      exact ⟨_, by simp only [upd, h16, h20]; rfl, hC, rfl, fun _ _ _ _ _ h => h⟩
    · have h21 : fx 21 = Value.bool false := hd.1 rfl
      clear hd
      go_wp2_with fail
      exact ⟨_, by simp only [upd, h21]; rfl, hC, rfl, fun _ _ _ _ _ h => h⟩
    · have h22 : fx 22 = Value.bool false := hd.1 rfl
      dsimp only
      rw [h22]
      refine wpList_unguard rfl ?_
      clear hd
      go_wp2_with fail
      exact ⟨_, by simp only [upd, h22]; rfl, hC, rfl, fun _ _ _ _ _ h => h⟩
    · have h23 : fx 23 = Value.pointer (some { block := w.heap.size, off := 4 }) := hd.1 rfl
      have h22 : fx 22 = Value.bool false := hd.2.1 rfl
      dsimp only
      rw [h22]
      refine wpList_unguard rfl ?_
      have hcc : w'.cell? ⟨w.heap.size, 4, none⟩ = some (Value.slice p.A p.n p.c) := by rw [cell_of_row _ _ _ _ _ _ (row_kept HR0.out hC)]; rfl
      clear hd
      go_wp2_with fail
      exact ⟨_, by simp only [upd, h23, h22]; rfl, hC, rfl, fun _ _ _ _ _ h => h⟩
    · have h24 : fx 24 = Value.slice p.A p.n p.c := hd.1 rfl
      have h22 : fx 22 = Value.bool false := hd.2.1 rfl
      dsimp only
      rw [h22]
      refine wpList_unguard rfl ?_
      clear hd
      go_wp2_with fail
      exact ⟨_, by simp only [upd, h24, h22]; rfl, hC, rfl, fun _ _ _ _ _ h => h⟩
    · have h25 : fx 25 = Value.int .i64 (p.n : Nat) := hd.1 rfl
      have h22 : fx 22 = Value.bool false := hd.2.1 rfl
      dsimp only
      rw [h22]
      refine wpList_unguard rfl ?_
      clear hd
      go_wp2_with fail
      exact ⟨_, by simp only [upd, h25, h22]; rfl, hC, rfl, fun _ _ _ _ _ h => h⟩
    · have h22 : fx 22 = Value.bool false := hd.1 rfl
      have h26 : fx 26 = Value.bool false := hd.2.1 rfl
      clear hd
      go_wp2_with fail
      exact ⟨_, by simp only [upd, h22, h26]; rfl, hC, rfl, fun _ _ _ _ _ h => h⟩
    · have h27 : fx 27 = Value.bool false := hd.1 rfl
      clear hd
      go_wp2_with fail
      exact ⟨_, by simp only [upd, h27]; rfl, hC, rfl, fun _ _ _ _ _ h => h⟩
    · have h28 : fx 28 = Value.bool false := hd.2.1 rfl
      dsimp only
      rw [h28]
      refine wpList_unguard rfl ?_
      go_wp2_with fail
      refine (lines_any w').mono ?_
      rintro e w2 ⟨rfl, hq⟩
      go_wp2_with fail
      exact ⟨_, by simp only [upd, h28]; rfl, hC.trans (hq.mono hC.size), rfl, fun j v t _ _ h => wCk7_below hq j v h⟩
    · have h28 : fx 28 = Value.bool false := hd.1 rfl
      dsimp only
      rw [h28]
      refine wpList_unguard rfl ?_
      clear hd
      go_wp2_with fail
      exact ⟨_, by simp only [upd, h28]; rfl, hC, rfl, fun _ _ _ _ _ h => h⟩
    · have h30 : fx 30 = Value.pointer (some { block := w.heap.size, off := 4 }) := hd.1 rfl
      have h28 : fx 28 = Value.bool false := hd.2.1 rfl
      dsimp only
      rw [h28]
      refine wpList_unguard rfl ?_
      have hcc : w'.cell? ⟨w.heap.size, 4, none⟩ = some (Value.slice p.A p.n p.c) := by rw [cell_of_row _ _ _ _ _ _ (row_kept HR0.out hC)]; rfl
      clear hd
      go_wp2_with fail
      exact ⟨_, by simp only [upd, h30, h28]; rfl, hC, rfl, fun _ _ _ _ _ h => h⟩
    · have h29 : fx 29 = Value.agg tabL := hd.1 rfl
      have h31 : fx 31 = Value.slice p.A p.n p.c := hd.2.1 rfl
      have h28 : fx 28 = Value.bool false := hd.2.2.2.1 rfl
      dsimp only
      rw [h28]
      refine wpList_unguard rfl ?_
      go_wp2_with fail
      refine (checkL t.ln p.A p.n p.c w' HM1.out (Lib.hid (HO1.out.ln.below hC))).mono ?_
      rintro e w2 ⟨rfl, hq⟩
      rw [g5.out]
      go_wp2_with fail
      exact ⟨_, by simp only [upd, h29, h31, h28]; rfl, hC.trans (hq.mono hC.size), rfl, fun j v t _ _ h => wCk7_below hq j v h⟩
    · have h32 : fx 32 = Value.bool true := hd.1 rfl
      have h28 : fx 28 = Value.bool false := hd.2.1 rfl
      dsimp only
      rw [h28]
      refine wpList_unguard rfl ?_
      clear hd
      go_wp2_with fail
      exact ⟨_, by simp only [upd, h32, h28]; rfl, hC, rfl, fun _ _ _ _ _ h => h⟩
    · have h28 : fx 28 = Value.bool false := hd.1 rfl
      have h33 : fx 33 = Value.bool false := hd.2.1 rfl
      clear hd
      go_wp2_with fail
      exact ⟨_, by simp only [upd, h28, h33]; rfl, hC, rfl, fun _ _ _ _ _ h => h⟩
    · have h34 : fx 34 = Value.bool false := hd.1 rfl
      clear hd
      go_wp2_with fail
      exact ⟨_, by simp only [upd, h34]; rfl, hC, rfl, fun _ _ _ _ _ h => h⟩
    · have h35 : fx 35 = Value.bool false := hd.2.1 rfl
      dsimp only
      rw [h35]
      refine wpList_unguard rfl ?_
      go_wp2_with fail
      refine (claims_any w').mono ?_
      rintro e w2 ⟨rfl, hq⟩
      go_wp2_with fail
      exact ⟨_, by simp only [upd, h35]; rfl, hC.trans (hq.mono hC.size), rfl, fun j v t _ _ h => wCk7_below hq j v h⟩
    · have h35 : fx 35 = Value.bool false := hd.1 rfl
      dsimp only
      rw [h35]
      refine wpList_unguard rfl ?_
      clear hd
      go_wp2_with fail
      exact ⟨_, by simp only [upd, h35]; rfl, hC, rfl, fun _ _ _ _ _ h => h⟩
    · have h37 : fx 37 = Value.pointer (some { block := w.heap.size, off := 5 }) := hd.1 rfl
      have h35 : fx 35 = Value.bool false := hd.2.1 rfl
      dsimp only
      rw [h35]
      refine wpList_unguard rfl ?_
      have hcc : w'.cell? ⟨w.heap.size, 5, none⟩ = some (Value.slice p.A2 p.n2 p.c2) := by rw [cell_of_row _ _ _ _ _ _ (row_kept HR0.out hC)]; rfl
      clear hd
      go_wp2_with fail
      exact ⟨_, by simp only [upd, h37, h35]; rfl, hC, rfl, fun _ _ _ _ _ h => h⟩
    · have h36 : fx 36 = Value.agg tabK := hd.1 rfl
      have h38 : fx 38 = Value.slice p.A2 p.n2 p.c2 := hd.2.1 rfl
      have h35 : fx 35 = Value.bool false := hd.2.2.2.1 rfl
      dsimp only
      rw [h35]
      refine wpList_unguard rfl ?_
      go_wp2_with fail
      refine (checkK t.cl p.A2 p.n2 p.c2 w' HM2.out (Lib.hid (HO1.out.cl.below hC))).mono ?_
      rintro e w2 ⟨rfl, hq⟩
      rw [g6.out]
      go_wp2_with fail
      exact ⟨_, by simp only [upd, h36, h38, h35]; rfl, hC.trans (hq.mono hC.size), rfl, fun j v t _ _ h => wCk7_below hq j v h⟩
    · have h39 : fx 39 = Value.bool true := hd.1 rfl
      have h35 : fx 35 = Value.bool false := hd.2.1 rfl
      dsimp only
      rw [h35]
      refine wpList_unguard rfl ?_
      clear hd
      go_wp2_with fail
      exact ⟨_, by simp only [upd, h39, h35]; rfl, hC, rfl, fun _ _ _ _ _ h => h⟩
    · have h35 : fx 35 = Value.bool false := hd.1 rfl
      have h40 : fx 40 = Value.bool false := hd.2.1 rfl
      clear hd
      go_wp2_with fail
      exact ⟨_, by simp only [upd, h35, h40]; rfl, hC, rfl, fun _ _ _ _ _ h => h⟩
  · intro L fo w' hC hS
    have H41 := Lib.hid (hS 41 (by decide) rfl)
    have h41 : fo 41 = Value.bool false := H41.out
    rw [h41]
    have HBC := Lib.hid (HB0.out.trans (hC.mono HB0.out.size))
    clear hS hC h41 H41
    go_wp2_with fail
    go_ret
    exact ⟨rfl, HBC.out⟩
end Go.Proofs.YtmfmgeapecapiaaDoor
namespace Go.Proofs.YtmfmgeapecapiaaDoor
open Go.RowKit SzSha SzTree
set_option linter.unusedVariables false
set_option maxRecDepth 100000
theorem check_any (t : Tr) (p : TrP) (w : World) (h : Hid (TrOk w t p)) :
    Calls Tryd.prog 17 #[trV t p] w fun e w' => e = .returned (.int .i64 (trE t)) ∧ Below w.heap.size w w' := by
  by_cases g0 : (inB t.cam 0 6) = true
  rotate_left
  · have hf : (inB t.cam 0 6) = false := by rw [Bool.not_eq_true] at g0; exact g0
    rw [show trE t = 420 from by unfold trE trG; rw [hf]; rfl]
    exact check_0 t p w h  (Lib.hid hf)
  by_cases g1 : (inB t.stu 0 19999) = true
  rotate_left
  · have hf : (inB t.stu 0 19999) = false := by rw [Bool.not_eq_true] at g1; exact g1
    rw [show trE t = 420 from by unfold trE trG; rw [g0, hf]; rfl]
    exact check_1 t p w h (Lib.hid g0) (Lib.hid hf)
  by_cases g2 : (inB t.ver 1 1048576) = true
  rotate_left
  · have hf : (inB t.ver 1 1048576) = false := by rw [Bool.not_eq_true] at g2; exact g2
    rw [show trE t = 420 from by unfold trE trG; rw [g0, g1, hf]; rfl]
    exact check_2 t p w h (Lib.hid g0) (Lib.hid g1) (Lib.hid hf)
  by_cases g3 : (inB t.kno 1 16777216) = true
  rotate_left
  · have hf : (inB t.kno 1 16777216) = false := by rw [Bool.not_eq_true] at g3; exact g3
    rw [show trE t = 420 from by unfold trE trG; rw [g0, g1, g2, hf]; rfl]
    exact check_3 t p w h (Lib.hid g0) (Lib.hid g1) (Lib.hid g2) (Lib.hid hf)
  by_cases g4 : (decide (t.ln.length ≤ 4096)) = true
  rotate_left
  · have hf : (decide (t.ln.length ≤ 4096)) = false := by rw [Bool.not_eq_true] at g4; exact g4
    rw [show trE t = 420 from by unfold trE trG; rw [g0, g1, g2, g3, hf]; rfl]
    exact check_4 t p w h (Lib.hid g0) (Lib.hid g1) (Lib.hid g2) (Lib.hid g3) (Lib.hid hf)
  by_cases g5 : (chkE vLn nLn (-1) t.ln) = true
  rotate_left
  · have hf : (chkE vLn nLn (-1) t.ln) = false := by rw [Bool.not_eq_true] at g5; exact g5
    rw [show trE t = 420 from by unfold trE trG; rw [g0, g1, g2, g3, g4, hf]; rfl]
    exact check_5 t p w h (Lib.hid g0) (Lib.hid g1) (Lib.hid g2) (Lib.hid g3) (Lib.hid g4) (Lib.hid hf)
  by_cases g6 : (chkE vCl nCl (-1) t.cl) = true
  rotate_left
  · have hf : (chkE vCl nCl (-1) t.cl) = false := by rw [Bool.not_eq_true] at g6; exact g6
    rw [show trE t = 420 from by unfold trE trG; rw [g0, g1, g2, g3, g4, g5, hf]; rfl]
    exact check_6 t p w h (Lib.hid g0) (Lib.hid g1) (Lib.hid g2) (Lib.hid g3) (Lib.hid g4) (Lib.hid g5) (Lib.hid hf)
  rw [show trE t = 0 from by unfold trE trG; rw [g0, g1, g2, g3, g4, g5, g6]; rfl]
  exact check_7 t p w h (Lib.hid g0) (Lib.hid g1) (Lib.hid g2) (Lib.hid g3) (Lib.hid g4) (Lib.hid g5) (Lib.hid g6)
end Go.Proofs.YtmfmgeapecapiaaDoor
