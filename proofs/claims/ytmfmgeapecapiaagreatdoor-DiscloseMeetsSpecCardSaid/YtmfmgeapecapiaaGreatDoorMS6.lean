/- Lines and claims: values, numbers, order. sizar/disclose: check of a list (lines). sizar/disclose: check of a list (claims). sizar/disclose.Check: what it asks. sizar/disclose.Check. -/
import Derived.Test.YtmfmgeapecapiaaGreatDoorMS4
import Derived.Test.YtmfmgeapecapiaaGreatDoorMS5
set_option maxHeartbeats 64000001
open Go.Lib (hid)
namespace Go.Proofs.YtmfmgeapecapiaaGreatDoor
open Go.RowKit SzSha SzTree
set_option linter.unusedVariables false
set_option maxRecDepth 100000
def lnV (x : Ln) : Value := .agg (lnC x).toArray
def clV (x : Cl) : Value := .agg (clC x).toArray
def vLn (x : Ln) : Bool := decide (lOk x.c0 x.c1 x.c2 x.c3 x.c4)
def vCl (x : Cl) : Bool := decide (kOk x.p x.r)
def nLn (x : Ln) : Int := noL x.c0 x.c1
def nCl (x : Cl) : Int := noK x.p x.r
theorem vline_x (x : Ln) (w : World) : Calls Tryz.prog 96 #[lnV x] w fun e w' => e = .returned (.bool (vLn x)) ∧ Below w.heap.size w w' := vline_any x.c0 x.c1 x.c2 x.c3 x.c4 w
theorem vclaim_x (x : Cl) (w : World) : Calls Tryz.prog 107 #[clV x] w fun e w' => e = .returned (.bool (vCl x)) ∧ Below w.heap.size w w' := vclaim_any x.p x.r x.m w
theorem nline_x (x : Ln) (w : World) : Calls Tryz.prog 94 #[lnV x] w fun e w' => e = .returned (.int .i64 (nLn x)) ∧ Below w.heap.size w w' := noL_any x.c0 x.c1 x.c2 x.c3 x.c4 w
theorem nclaim_x (x : Cl) (w : World) : Calls Tryz.prog 104 #[clV x] w fun e w' => e = .returned (.int .i64 (nCl x)) ∧ Below w.heap.size w w' := noK_any x.p x.r x.m w
/-- valid and in order -/
def chkE {α : Type} (v : α → Bool) (no : α → Int) : Int → List α → Bool
 | _, [] => true
 | z, x :: xs => (v x && decide (z < no x)) && chkE v no (no x) xs
theorem range_elem {α : Type} {cells : α → List Value} {k : Nat} {w : World} {g off : Nat} {ls : List α} (hl : ∀ x, (cells x).length = k) (hr : w.rangeAt g off (ls.flatMap cells)) (j : Nat) (hj : j < ls.length) : w.rangeAt g (off + j * k) (cells ls[j]) := fun i v hi => by
 have hi2 : i < k := by have := (List.getElem?_eq_some_iff.1 hi).1; rw [hl] at this; exact this
 have hfl : ∀ l : List α, (l.flatMap cells).length = l.length * k := fun l => by
  induction l with
  | nil => simp
  | cons x l ih => rw [List.flatMap_cons, List.length_append, hl, ih, List.length_cons, Nat.succ_mul]; omega
 rw [Nat.add_assoc]
 refine hr (j * k + i) v ?_
 have e1 : ls = ls.take j ++ (ls[j] :: ls.drop (j + 1)) := by rw [← List.drop_eq_getElem_cons hj, List.take_append_drop]
 have e3 : ((ls.take j).flatMap cells).length = j * k := by rw [hfl, List.length_take, show min j ls.length = j by omega]
 have e2 : ls.flatMap cells = (ls.take j).flatMap cells ++ (cells ls[j] ++ (ls.drop (j + 1)).flatMap cells) := by
  conv => lhs; rw [e1]
  rw [List.flatMap_append]; rfl
 rw [e2, List.getElem?_append_right (by omega), e3, Nat.add_sub_cancel_left, List.getElem?_append_left (by rw [hl]; exact hi2)]
 exact hi
theorem InLn.below {w w' : World} {A : Option Addr} {n c : Nat} {ls : List Ln} (h : InLn w A n c ls) (hb : Below w.heap.size w w') : InLn w' A n c ls :=
 ⟨h.len, h.cap, h.none_, h.ok, fun h0 => by
  obtain ⟨g, off, e, hg, hr⟩ := h.rd h0
  exact ⟨g, off, e, Nat.lt_of_lt_of_le hg hb.size, rangeAt_below hr hg hb⟩⟩
theorem InCl.below {w w' : World} {A : Option Addr} {n c : Nat} {ls : List Cl} (h : InCl w A n c ls) (hb : Below w.heap.size w w') : InCl w' A n c ls :=
 ⟨h.len, h.cap, h.none_, h.ok, fun h0 => by
  obtain ⟨g, off, e, hg, hr⟩ := h.rd h0
  exact ⟨g, off, e, Nat.lt_of_lt_of_le hg hb.size, rangeAt_below hr hg hb⟩⟩
/-- a world after another: all blocks but one as they were -/
theorem grown_of_below {w w' : World} {row : Option Nat} (hb : Below w.heap.size w w') : w.grownBy w' row := ⟨hb.os, hb.tape, hb.output, hb.size, fun i hi _ => hb.block i hi⟩
theorem grown_then {w w1 w2 : World} {row : Option Nat} (h : w.grownBy w1 row) (hb : Below w1.heap.size w1 w2) : w.grownBy w2 row := ⟨hb.os.trans h.os, hb.tape.trans h.tape, hb.output.trans h.output, Nat.le_trans h.size hb.size, fun i hi hne => (hb.block i (Nat.lt_of_lt_of_le hi h.size)).trans (h.block i hi hne)⟩
theorem grown_trans {w w1 w2 : World} {row : Option Nat} (h : w.grownBy w1 row) (h2 : w1.grownBy w2 row) : w.grownBy w2 row := ⟨h2.os.trans h.os, h2.tape.trans h.tape, h2.output.trans h.output, Nat.le_trans h.size h2.size, fun i hi hne => (h2.block i (Nat.lt_of_lt_of_le hi h.size) hne).trans (h.block i hi hne)⟩
theorem grown_set {w w1 : World} {b : Nat} (h : w.grownBy w1 (some b)) (v : Value) : w.grownBy (w1.setCell ⟨b, 0, none⟩ v) (some b) := only_setCell h (.inl rfl) v
theorem one_set {w : World} {b : Nat} {v v' : Value} {t : TypeId} (h : w.heap[b]? = some (.cells #[v] t (0, 0))) : (w.setCell ⟨b, 0, none⟩ v').heap[b]? = some (.cells #[v'] t (0, 0)) := by
 simp only [World.setCell, Array.getElem?_modify, if_true, h]; rfl
theorem lnC_len (x : Ln) : (lnC x).length = 5 := rfl
theorem lnC_info (x : Ln) : (Tryz.prog.info? 45).map (·.size) = some (lnC x).toArray.size := by show _ = some 5; kernel_rfl
theorem lnC_infoL (x : Ln) : (Tryz.prog.info? 45).map (·.size) = some (lnC x).length := by show _ = some 5; kernel_rfl
def wCyL (bl : Nat) (x : Ln) (z : Int) : Nat → Value → World → Prop
 | 0, fv, _ => fv = .pointer (some ⟨bl, 1, none⟩)
 | 1, fv, _ => fv = .func (.func 96) #[] #[]
 | 2, fv, _ => fv = lnV x
 | 3, fv, _ => fv = .bool true
 | 4, fv, _ => fv = .bool false
 | 5, fv, _ => fv = .bool false
 | 6, fv, _ => fv = .pointer (some ⟨bl, 2, none⟩)
 | 7, fv, _ => fv = .func (.func 94) #[] #[]
 | 8, fv, _ => fv = lnV x
 | 9, fv, _ => fv = .int .i64 (nLn x)
 | 10, fv, _ => fv = .int .i64 z
 | 11, fv, _ => fv = .bool (decide (nLn x ≤ z))
 | 12, fv, _ => fv = .bool (decide (nLn x ≤ z))
 | 13, fv, _ => fv = .bool (decide (nLn x ≤ z))
 | _, _, _ => True
theorem wCyL_below {bl : Nat} {x : Ln} {z : Int} {w w' : World} (hb : Below w.heap.size w w') : ∀ j v, wCyL bl x z j v w → wCyL bl x z j v w'
 | 0, v, h => h
 | 1, v, h => h
 | 2, v, h => h
 | 3, v, h => h
 | 4, v, h => h
 | 5, v, h => h
 | 6, v, h => h
 | 7, v, h => h
 | 8, v, h => h
 | 9, v, h => h
 | 10, v, h => h
 | 11, v, h => h
 | 12, v, h => h
 | 13, v, h => h
 | n + 14, v, h => trivial
def wCnL (bl : Nat) (x : Ln) (z : Int) : Nat → Value → World → Prop
 | 0, fv, _ => fv = .pointer (some ⟨bl, 1, none⟩)
 | 1, fv, _ => fv = .func (.func 96) #[] #[]
 | 2, fv, _ => fv = lnV x
 | 3, fv, _ => fv = .bool false
 | 4, fv, _ => fv = .bool true
 | 5, fv, _ => fv = .bool true
 | 6, fv, _ => fv = undef
 | 7, fv, _ => fv = undef
 | 8, fv, _ => fv = undef
 | 9, fv, _ => fv = undef
 | 10, fv, _ => fv = undef
 | 11, fv, _ => fv = undef
 | 12, fv, _ => fv = .bool true
 | 13, fv, _ => fv = .bool true
 | _, _, _ => True
theorem wCnL_below {bl : Nat} {x : Ln} {z : Int} {w w' : World} (hb : Below w.heap.size w w') : ∀ j v, wCnL bl x z j v w → wCnL bl x z j v w'
 | 0, v, h => h
 | 1, v, h => h
 | 2, v, h => h
 | 3, v, h => h
 | 4, v, h => h
 | 5, v, h => h
 | 6, v, h => h
 | 7, v, h => h
 | 8, v, h => h
 | 9, v, h => h
 | 10, v, h => h
 | 11, v, h => h
 | 12, v, h => h
 | 13, v, h => h
 | n + 14, v, h => trivial
theorem chk1L_y (x : Ln) (z : Int) (bl bs : Nat) (w : World) (hl : Hid (w.heap[bl]? = some (.cells tabL 86 (0, 0)))) (hs : Hid (w.heap[bs]? = some (.cells #[.int .i64 z] 3 (0, 0)))) (hv : Hid (vLn x = true)) :
  Calls Tryz.prog 110 #[lnV x, .pointer (some ⟨bl, 0, none⟩), .pointer (some ⟨bs, 0, none⟩)] w fun e w' => e = .returned (.bool (!(vLn x && decide (z < nLn x)))) ∧ w.grownBy w' (some bs) ∧ w'.heap[bs]? = some (.cells #[.int .i64 (nLn x)] 3 (0, 0)) := by
 have HB0 := hid ((Below.refl _ w).alloc (Nat.le_refl _) (.cells (lnC x).toArray 45))
 have HX0 := hid (heap_alloc_new w (.cells (lnC x).toArray 45))
 have HL0 := hid (row_kept hl.out HB0.out)
 have HS0 := hid (row_kept hs.out HB0.out)
 have HBS : Hid (bs < w.heap.size) := hid (Array.getElem?_eq_some_iff.1 hs.out).1
 have HIX := hid (lnC_info x)
 have HLE : Hid ((!(vLn x && decide (z < nLn x))) = decide (nLn x ≤ z)) := hid (by rw [hv.out]; rw [Bool.true_and, ← decide_not]; congr 1; exact propext Int.not_lt)
 rw [show lnV x = .agg (lnC x).toArray from rfl]
 go_enter Tryz.func110, Tryz.ntmps110
 go_wp2_with fail
 generalize w.alloc (.cells (lnC x).toArray 45) = W1 at *
 refine region_flow3 (by kernel_rfl) (by kernel_rfl) (fun i => Nat.beq i 13) (fun i => i) (by kernel_rfl) (fun fx => #[.agg (lnC x).toArray, .pointer (some { block := bl, off := 0 }), .pointer (some { block := bs, off := 0 }), .pointer (some { block := w.heap.size, off := 0 }), .bool false, fx 13, fx 0, fx 1, fx 2, fx 3, fx 4, fx 5, fx 6, fx 7, fx 8, fx 9, fx 10, fx 11, fx 12, undef, undef, undef, undef, undef]) (fun _ => undef) (fun L fx w' => Below W1.heap.size W1 w') (fun fi fv _ fw => wCyL bl x z fi fv fw) (Below.refl _ _).drew ?_ ?_
 ·refine ⟨?_, ?_, ?_, ?_, ?_, ?_, ?_, ?_, ?_, ?_, ?_, ?_, ?_, ?_, trivial⟩
  all_goals intro L fx w' hC hi hcl hdn hd
  ·go_wp2_with fail
   exact ⟨_, rfl, hC, rfl, kP⟩
  ·have h0 : fx 0 = .pointer (some ⟨bl, 1, none⟩) := hd.1 rfl
   have hcc : w'.cell? ⟨bl, 1, none⟩ = some (Value.func (.func 96) #[] #[]) := by rw [cell_of_row _ _ _ _ _ _ (row_kept HL0.out hC)]; rfl
   go_wp2_with fail
   exact ⟨_, by simp only [upd, h0]; rfl, hC, rfl, kP⟩
  ·have hrow := row_kept HX0.out hC
   refine wpList_load_row rfl 45 (.tmp 3) rfl w.heap.size rfl 45 _ (0, 0) _ hrow Tryz.underlying45 rfl HIX.out ?_
   clear hd
   go_wp2_with fail
   exact ⟨_, rfl, hC, rfl, kP⟩
  ·have h1 : fx 1 = .func (.func 96) #[] #[] := hd.1 rfl
   have h2 : fx 2 = lnV x := hd.2.1 rfl
   go_wp2_with fail
   refine (vline_x x w').mono ?_
   rintro e w2 ⟨rfl, hq⟩
   rw [hv.out]
   go_wp2_with fail
   exact ⟨_, by simp only [upd, h1, h2]; rfl, hC.trans (hq.mono hC.size), rfl, fun j v t _ _ h => wCyL_below hq j v h⟩
  ·have h3 : fx 3 = .bool true := hd.1 rfl
   go_wp2_with fail
   exact ⟨_, by simp only [upd, h3]; rfl, hC, rfl, kP⟩
  ·have h4 : fx 4 = .bool false := hd.1 rfl
   go_wp2_with fail
   exact ⟨_, by simp only [upd, h4]; rfl, hC, rfl, kP⟩
  ·have h5 : fx 5 = .bool false := hd.1 rfl
   go_wp2_with fail
   exact ⟨_, by simp only [upd, h5]; rfl, hC, rfl, kP⟩
  ·have h6 : fx 6 = .pointer (some ⟨bl, 2, none⟩) := hd.1 rfl
   have h5 : fx 5 = .bool false := hd.2.1 rfl
   have hcc : w'.cell? ⟨bl, 2, none⟩ = some (Value.func (.func 94) #[] #[]) := by rw [cell_of_row _ _ _ _ _ _ (row_kept HL0.out hC)]; rfl
   go_wp2_with fail
   exact ⟨_, by simp only [upd, h6, h5]; rfl, hC, rfl, kP⟩
  ·have h5 : fx 5 = .bool false := hd.1 rfl
   have hrow := row_kept HX0.out hC
   dsimp only
   rw [h5]
   refine wpList_unguard rfl ?_
   refine wpList_load_row rfl 45 (.tmp 3) rfl w.heap.size rfl 45 _ (0, 0) _ hrow Tryz.underlying45 rfl HIX.out ?_
   clear hd
   go_wp2_with fail
   exact ⟨_, by simp only [upd, h5]; rfl, hC, rfl, kP⟩
  ·have h7 : fx 7 = .func (.func 94) #[] #[] := hd.1 rfl
   have h8 : fx 8 = lnV x := hd.2.1 rfl
   have h5 : fx 5 = .bool false := hd.2.2.2.1 rfl
   go_wp2_with fail
   refine (nline_x x w').mono ?_
   rintro e w2 ⟨rfl, hq⟩
   go_wp2_with fail
   exact ⟨_, by simp only [upd, h7, h8, h5]; rfl, hC.trans (hq.mono hC.size), rfl, fun j v t _ _ h => wCyL_below hq j v h⟩
  ·have h5 : fx 5 = .bool false := hd.1 rfl
   have hcc : w'.cell? ⟨bs, 0, none⟩ = some (.int .i64 z) := by rw [cell_of_row _ _ _ _ _ _ (row_kept HS0.out hC)]; rfl
   go_wp2_with fail
   exact ⟨_, by simp only [upd, h5]; rfl, hC, rfl, kP⟩
  ·have h9 : fx 9 = .int .i64 (nLn x) := hd.1 rfl
   have h10 : fx 10 = .int .i64 z := hd.2.1 rfl
   have h5 : fx 5 = .bool false := hd.2.2.1 rfl
   go_wp2_with fail
   exact ⟨_, by simp only [upd, h9, h10, h5]; rfl, hC, rfl, kP⟩
  ·have h5 : fx 5 = .bool false := hd.1 rfl
   have h11 : fx 11 = .bool (decide (nLn x ≤ z)) := hd.2.1 rfl
   go_wp2_with fail
   exact ⟨_, by simp only [upd, h5, h11]; rfl, hC, rfl, kP⟩
  ·have h12 : fx 12 = .bool (decide (nLn x ≤ z)) := hd.1 rfl
   go_wp2_with fail
   exact ⟨_, by simp only [upd, h12]; rfl, hC, rfl, kP⟩
 ·intro L fo w' hC hS
  have H13 := hid (hS 13 (by decide) rfl)
  have h13 : fo 13 = .bool (decide (nLn x ≤ z)) := H13.out
  rw [h13]
  have HBC := hid hC
  clear hS hC h13 H13
  have HX1 := hid (row_kept HX0.out HBC.out)
  have HS1 := hid (row_kept HS0.out HBC.out)
  have hcc : w'.cell? ⟨bl, 2, none⟩ = some (Value.func (.func 94) #[] #[]) := by rw [cell_of_row _ _ _ _ _ _ (row_kept HL0.out HBC.out)]; rfl
  go_wp2_with (refine wpList_load_row rfl 45 (.tmp 3) rfl w.heap.size rfl 45 _ (0, 0) _ HX1.out Tryz.underlying45 rfl HIX.out ?_)
  rw [show Value.agg (lnC x).toArray = lnV x from rfl]
  refine (nline_x x w').mono ?_
  rintro e w2 ⟨rfl, hq⟩
  have HS2 := hid (row_kept HS1.out hq)
  have HG2 : Hid (w.grownBy w2 (some bs)) := hid (grown_then (grown_then (grown_of_below HB0.out) HBC.out) hq)
  have hc2 : w2.cell? ⟨bs, 0, none⟩ = some (.int .i64 z) := by rw [cell_of_row _ _ _ _ _ _ HS2.out]; rfl
  have hf2 : w2.frozen? ⟨bs, 0, none⟩ = false := by simp [World.frozen?, HS2.out]
  clear hq hcc
  go_wp2_with fail
  go_ret
  exact ⟨by rw [HLE.out]; rfl, grown_set HG2.out _, one_set HS2.out⟩
theorem chk1L_n (x : Ln) (z : Int) (bl bs : Nat) (w : World) (hl : Hid (w.heap[bl]? = some (.cells tabL 86 (0, 0)))) (hs : Hid (w.heap[bs]? = some (.cells #[.int .i64 z] 3 (0, 0)))) (hv : Hid (vLn x = false)) :
  Calls Tryz.prog 110 #[lnV x, .pointer (some ⟨bl, 0, none⟩), .pointer (some ⟨bs, 0, none⟩)] w fun e w' => e = .returned (.bool (!(vLn x && decide (z < nLn x)))) ∧ w.grownBy w' (some bs) ∧ w'.heap[bs]? = some (.cells #[.int .i64 (nLn x)] 3 (0, 0)) := by
 have HB0 := hid ((Below.refl _ w).alloc (Nat.le_refl _) (.cells (lnC x).toArray 45))
 have HX0 := hid (heap_alloc_new w (.cells (lnC x).toArray 45))
 have HL0 := hid (row_kept hl.out HB0.out)
 have HS0 := hid (row_kept hs.out HB0.out)
 have HBS : Hid (bs < w.heap.size) := hid (Array.getElem?_eq_some_iff.1 hs.out).1
 have HIX := hid (lnC_info x)
 have HLE : Hid ((!(vLn x && decide (z < nLn x))) = true) := hid (by rw [hv.out]; rfl)
 rw [show lnV x = .agg (lnC x).toArray from rfl]
 go_enter Tryz.func110, Tryz.ntmps110
 go_wp2_with fail
 generalize w.alloc (.cells (lnC x).toArray 45) = W1 at *
 refine region_flow3 (by kernel_rfl) (by kernel_rfl) (fun i => Nat.beq i 13) (fun i => i) (by kernel_rfl) (fun fx => #[.agg (lnC x).toArray, .pointer (some { block := bl, off := 0 }), .pointer (some { block := bs, off := 0 }), .pointer (some { block := w.heap.size, off := 0 }), .bool false, fx 13, fx 0, fx 1, fx 2, fx 3, fx 4, fx 5, fx 6, fx 7, fx 8, fx 9, fx 10, fx 11, fx 12, undef, undef, undef, undef, undef]) (fun _ => undef) (fun L fx w' => Below W1.heap.size W1 w') (fun fi fv _ fw => wCnL bl x z fi fv fw) (Below.refl _ _).drew ?_ ?_
 ·refine ⟨?_, ?_, ?_, ?_, ?_, ?_, ?_, ?_, ?_, ?_, ?_, ?_, ?_, ?_, trivial⟩
  all_goals intro L fx w' hC hi hcl hdn hd
  ·go_wp2_with fail
   exact ⟨_, rfl, hC, rfl, kP⟩
  ·have h0 : fx 0 = .pointer (some ⟨bl, 1, none⟩) := hd.1 rfl
   have hcc : w'.cell? ⟨bl, 1, none⟩ = some (Value.func (.func 96) #[] #[]) := by rw [cell_of_row _ _ _ _ _ _ (row_kept HL0.out hC)]; rfl
   go_wp2_with fail
   exact ⟨_, by simp only [upd, h0]; rfl, hC, rfl, kP⟩
  ·have hrow := row_kept HX0.out hC
   refine wpList_load_row rfl 45 (.tmp 3) rfl w.heap.size rfl 45 _ (0, 0) _ hrow Tryz.underlying45 rfl HIX.out ?_
   clear hd
   go_wp2_with fail
   exact ⟨_, rfl, hC, rfl, kP⟩
  ·have h1 : fx 1 = .func (.func 96) #[] #[] := hd.1 rfl
   have h2 : fx 2 = lnV x := hd.2.1 rfl
   go_wp2_with fail
   refine (vline_x x w').mono ?_
   rintro e w2 ⟨rfl, hq⟩
   rw [hv.out]
   go_wp2_with fail
   exact ⟨_, by simp only [upd, h1, h2]; rfl, hC.trans (hq.mono hC.size), rfl, fun j v t _ _ h => wCnL_below hq j v h⟩
  ·have h3 : fx 3 = .bool false := hd.1 rfl
   go_wp2_with fail
   exact ⟨_, by simp only [upd, h3]; rfl, hC, rfl, kP⟩
  ·have h4 : fx 4 = .bool true := hd.1 rfl
   go_wp2_with fail
   exact ⟨_, by simp only [upd, h4]; rfl, hC, rfl, kP⟩
  ·have h5 : fx 5 = .bool true := hd.1 rfl
   go_wp2_with fail
   exact ⟨_, by simp only [upd, h5]; rfl, hC, rfl, kP⟩
  ·have h6 : fx 6 = undef := hd.1 rfl
   have h5 : fx 5 = .bool true := hd.2.1 rfl
   go_wp2_with fail
   exact ⟨_, by simp only [upd, h6, h5]; rfl, hC, rfl, kP⟩
  ·have h5 : fx 5 = .bool true := hd.1 rfl
   go_wp2_with fail
   exact ⟨_, by simp only [upd, h5]; rfl, hC, rfl, kP⟩
  ·have h7 : fx 7 = undef := hd.1 rfl
   have h8 : fx 8 = undef := hd.2.1 rfl
   have h5 : fx 5 = .bool true := hd.2.2.2.1 rfl
   go_wp2_with fail
   exact ⟨_, by simp only [upd, h7, h8, h5]; rfl, hC, rfl, kP⟩
  ·have h5 : fx 5 = .bool true := hd.1 rfl
   go_wp2_with fail
   exact ⟨_, by simp only [upd, h5]; rfl, hC, rfl, kP⟩
  ·have h9 : fx 9 = undef := hd.1 rfl
   have h10 : fx 10 = undef := hd.2.1 rfl
   have h5 : fx 5 = .bool true := hd.2.2.1 rfl
   go_wp2_with fail
   exact ⟨_, by simp only [upd, h9, h10, h5]; rfl, hC, rfl, kP⟩
  ·have h5 : fx 5 = .bool true := hd.1 rfl
   have h11 : fx 11 = undef := hd.2.1 rfl
   go_wp2_with fail
   exact ⟨_, by simp only [upd, h5, h11]; rfl, hC, rfl, kP⟩
  ·have h12 : fx 12 = .bool true := hd.1 rfl
   go_wp2_with fail
   exact ⟨_, by simp only [upd, h12]; rfl, hC, rfl, kP⟩
 ·intro L fo w' hC hS
  have H13 := hid (hS 13 (by decide) rfl)
  have h13 : fo 13 = .bool true := H13.out
  rw [h13]
  have HBC := hid hC
  clear hS hC h13 H13
  have HX1 := hid (row_kept HX0.out HBC.out)
  have HS1 := hid (row_kept HS0.out HBC.out)
  have hcc : w'.cell? ⟨bl, 2, none⟩ = some (Value.func (.func 94) #[] #[]) := by rw [cell_of_row _ _ _ _ _ _ (row_kept HL0.out HBC.out)]; rfl
  go_wp2_with (refine wpList_load_row rfl 45 (.tmp 3) rfl w.heap.size rfl 45 _ (0, 0) _ HX1.out Tryz.underlying45 rfl HIX.out ?_)
  rw [show Value.agg (lnC x).toArray = lnV x from rfl]
  refine (nline_x x w').mono ?_
  rintro e w2 ⟨rfl, hq⟩
  have HS2 := hid (row_kept HS1.out hq)
  have HG2 : Hid (w.grownBy w2 (some bs)) := hid (grown_then (grown_then (grown_of_below HB0.out) HBC.out) hq)
  have hc2 : w2.cell? ⟨bs, 0, none⟩ = some (.int .i64 z) := by rw [cell_of_row _ _ _ _ _ _ HS2.out]; rfl
  have hf2 : w2.frozen? ⟨bs, 0, none⟩ = false := by simp [World.frozen?, HS2.out]
  clear hq hcc
  go_wp2_with fail
  go_ret
  exact ⟨by rw [HLE.out]; rfl, grown_set HG2.out _, one_set HS2.out⟩
theorem chk1L (x : Ln) (z : Int) (bl bs : Nat) (w : World) (hl : Hid (w.heap[bl]? = some (.cells tabL 86 (0, 0)))) (hs : Hid (w.heap[bs]? = some (.cells #[.int .i64 z] 3 (0, 0)))) :
  Calls Tryz.prog 110 #[lnV x, .pointer (some ⟨bl, 0, none⟩), .pointer (some ⟨bs, 0, none⟩)] w fun e w' => e = .returned (.bool (!(vLn x && decide (z < nLn x)))) ∧ w.grownBy w' (some bs) ∧ w'.heap[bs]? = some (.cells #[.int .i64 (nLn x)] 3 (0, 0)) := by
 by_cases h : vLn x = true
 ·exact chk1L_y x z bl bs w hl hs (hid h)
 ·exact chk1L_n x z bl bs w hl hs (hid (by simpa using h))
theorem indexL (ls : List Ln) (A : Option Addr) (n c : Nat) (z : Int) (bl bs M : Nat) (w : World) (hn : n ≤ 9223372036854775807) (hM : M ≤ bl) (hMs : M ≤ bs) (hne : bl ≠ bs) (hl : Hid (w.heap[bl]? = some (.cells tabL 86 (0, 0)))) (hs : Hid (w.heap[bs]? = some (.cells #[.int .i64 z] 3 (0, 0)))) (h : Hid (InLn w A n c ls)) (hbo : Hid (∀ g off, A = some ⟨g, off, none⟩ → 0 < ls.length → g < M)) :
  Calls Tryz.prog 140 #[.slice A n c, .func (.func 110) #[] #[.pointer (some ⟨bl, 0, none⟩), .pointer (some ⟨bs, 0, none⟩)]] w fun e w' => ∃ r : Int, e = .returned (.int .i64 r) ∧ decide (0 ≤ r) = !(chkE vLn nLn z ls) ∧ w.grownBy w' (some bs) := by
 have HN := hid (show ls.length = n from h.out.len)
 have HGW : Hid (w.grownBy w (some bs)) := hid ⟨rfl, rfl, rfl, Nat.le_refl _, fun _ _ _ => rfl⟩
 go_enter Tryz.func140, Tryz.ntmps140
 go_wp2_with fail
 go_loopw [8] (fun i wr => ∃ (j : Nat) (y : Int), j ≤ n ∧ i = .int .i64 (j : Nat) ∧ Hid (chkE vLn nLn z ls = chkE vLn nLn y (ls.drop j)) ∧ Hid (w.grownBy wr (some bs)) ∧ Hid (wr.heap[bs]? = some (.cells #[.int .i64 y] 3 (0, 0)))) (fun i _ => n - (intOf i).toNat)
 case atStart => exact ⟨0, z, by omega, rfl, hid rfl, HGW, hs⟩
 case round =>
  clear HGW hs
  obtain ⟨j, y, hj, rfl, HCH, HG, HS⟩ := hrel
  by_cases hlt : j < n
  ·have d1 : decide ((j : Int) < (n : Int)) = true := eQ (by omega)
   have d2 : decide (j < n) = true := eQ hlt
   have hjl : j < ls.length := by rw [HN.out]; exact hlt
   obtain ⟨g, off, rfl, hg, hr⟩ := h.out.rd (by omega)
   obtain ⟨x, HX⟩ : ∃ x, Hid (ls[j] = x) := ⟨_, hid rfl⟩
   have HR : Hid (wr.rangeAt g (off + j * 5) (lnC x)) := hid (by
    rw [← HX.out]
    intro i v hi
    have h1 := range_elem lnC_len hr j hjl i v hi
    have hgM := hbo.out g off rfl (by omega)
    rw [← h1]
    exact World.cell?_of_block (HG.out.block g hg (fun e => by injection e with e; omega)))
   have HL : Hid (wr.heap[bl]? = some (.cells tabL 86 (0, 0))) := hid ((HG.out.block bl (Array.getElem?_eq_some_iff.1 hl.out).1 (fun e => by injection e with e; exact hne e)).trans hl.out)
   have HDR : Hid (ls.drop j = x :: ls.drop (j + 1)) := hid (by rw [List.drop_eq_getElem_cons hjl, HX.out])
   have HII := hid (lnC_infoL x)
   clear hr
   go_wp2_with (with_reducible refine wpList_load_mid rfl 45 (.tmp 14) rfl g (off + j * 5) rfl (lnC x) _ HR.out Tryz.underlying45 rfl HII.out ?_)
   rw [show Value.agg (lnC x).toArray = lnV x from rfl]
   refine (chk1L x y bl bs wr HL HS).mono ?_
   rintro e w2 ⟨rfl, hg2, hs2⟩
   have HG2 := hid (grown_trans HG.out hg2)
   have HS2 := hid hs2
   clear hg2 hs2
   by_cases hok : (vLn x && decide (y < nLn x)) = true
   ·have HCN : Hid (chkE vLn nLn z ls = chkE vLn nLn (nLn x) (ls.drop (j + 1))) := hid (by rw [HCH.out, HDR.out]; rw [chkE, hok, Bool.true_and])
    rw [hok]
    clear hok
    go_wp2_with fail
    go_roundw
    case rel => exact ⟨j + 1, _, by omega, by go_num, HCN, HG2, HS2⟩
    case measure => simp [intOf]; omega
   ·have hok' : (vLn x && decide (y < nLn x)) = false := by simpa using hok
    have HCN : Hid (chkE vLn nLn z ls = false) := hid (by rw [HCH.out, HDR.out]; rw [chkE, hok', Bool.false_and])
    rw [hok']
    clear hok hok'
    go_wp2_with fail
    go_ret
    exact ⟨_, rfl, by rw [HCN.out]; exact eQ (by omega), HG2.out⟩
  ·have d1 : decide ((j : Int) < (n : Int)) = false := dQ (by omega)
   have d2 : decide (j < n) = false := dQ hlt
   have HCN : Hid (chkE vLn nLn z ls = true) := hid (by rw [HCH.out, List.drop_eq_nil_of_le (by rw [HN.out]; omega)]; rfl)
   go_wp2_with fail
   go_ret
   exact ⟨_, rfl, by rw [HCN.out]; rfl, HG.out⟩
theorem containsL (ls : List Ln) (A : Option Addr) (n c : Nat) (z : Int) (bl bs M : Nat) (w : World) (hn : n ≤ 9223372036854775807) (hM : M ≤ bl) (hMs : M ≤ bs) (hne : bl ≠ bs) (hl : Hid (w.heap[bl]? = some (.cells tabL 86 (0, 0)))) (hs : Hid (w.heap[bs]? = some (.cells #[.int .i64 z] 3 (0, 0)))) (h : Hid (InLn w A n c ls)) (hbo : Hid (∀ g off, A = some ⟨g, off, none⟩ → 0 < ls.length → g < M)) :
  Calls Tryz.prog 109 #[.slice A n c, .func (.func 110) #[] #[.pointer (some ⟨bl, 0, none⟩), .pointer (some ⟨bs, 0, none⟩)]] w fun e w' => e = .returned (.bool (!(chkE vLn nLn z ls))) ∧ w.grownBy w' (some bs) := by
 go_enter Tryz.func109, Tryz.ntmps109
 go_wp2_with fail
 refine (indexL ls A n c z bl bs M w hn hM hMs hne hl hs h hbo).mono ?_
 rintro e w2 ⟨r, rfl, hr, hg⟩
 have HR := hid hr
 have HG := hid hg
 clear hr hg
 go_wp2_with fail
 go_ret
 exact ⟨by rw [← HR.out]; rfl, HG.out⟩
theorem checkL (ls : List Ln) (A : Option Addr) (n c : Nat) (w : World) (hn : n ≤ 9223372036854775807) (h : Hid (InLn w A n c ls)) :
  Calls Tryz.prog 53 #[.agg tabL, .slice A n c] w fun e w' => e = .returned (.bool (chkE vLn nLn (-1) ls)) ∧ Below w.heap.size w w' := by
 have hb0 := ((Below.refl _ w).alloc (Nat.le_refl _) (.cells tabL 86)).alloc (by simp) (.cells #[.int .i64 (-1)] 3)
 have hr0 := (Below.heap_alloc (w.alloc (.cells tabL 86)) (.cells #[.int .i64 (-1)] 3) w.heap.size (by simp)).trans (heap_alloc_new w (.cells tabL 86))
 have hr1 := heap_alloc_new (w.alloc (.cells tabL 86)) (.cells #[.int .i64 (-1)] 3)
 rw [World.size_alloc] at hr1
 have HB0 := hid hb0
 have HL0 := hid hr0
 have HS0 := hid hr1
 have HI0 := hid (h.out.below hb0)
 have HBO : Hid (∀ g off, A = some ⟨g, off, none⟩ → 0 < ls.length → g < w.heap.size) := hid (fun g off e h0 => by
  obtain ⟨g', off', e', hg, _⟩ := h.out.rd h0
  rw [e] at e'; injection e' with e'; injection e' with e1 e2; omega)
 clear hb0 hr0 hr1
 go_enter Tryz.func53, Tryz.ntmps53
 go_wp2_with fail
 refine (containsL ls A n c (-1) w.heap.size (w.heap.size + 1) w.heap.size _ hn (Nat.le_refl _) (Nat.le_succ _) (by omega) HL0 HS0 HI0 HBO).mono ?_
 rintro e w2 ⟨rfl, hg⟩
 have HB2 : Hid (Below w.heap.size w w2) := hid (HB0.out.grown hg HB0.out.size (fun k hk => by injection hk with hk; omega))
 clear hg
 go_wp2_with fail
 go_ret
 exact ⟨by simp, HB2.out⟩
theorem clC_len (x : Cl) : (clC x).length = 3 := rfl
theorem clC_info (x : Cl) : (Tryz.prog.info? 56).map (·.size) = some (clC x).toArray.size := by show _ = some 3; kernel_rfl
theorem clC_infoL (x : Cl) : (Tryz.prog.info? 56).map (·.size) = some (clC x).length := by show _ = some 3; kernel_rfl
def wCyK (bl : Nat) (x : Cl) (z : Int) : Nat → Value → World → Prop
 | 0, fv, _ => fv = .pointer (some ⟨bl, 1, none⟩)
 | 1, fv, _ => fv = .func (.func 107) #[] #[]
 | 2, fv, _ => fv = clV x
 | 3, fv, _ => fv = .bool true
 | 4, fv, _ => fv = .bool false
 | 5, fv, _ => fv = .bool false
 | 6, fv, _ => fv = .pointer (some ⟨bl, 2, none⟩)
 | 7, fv, _ => fv = .func (.func 104) #[] #[]
 | 8, fv, _ => fv = clV x
 | 9, fv, _ => fv = .int .i64 (nCl x)
 | 10, fv, _ => fv = .int .i64 z
 | 11, fv, _ => fv = .bool (decide (nCl x ≤ z))
 | 12, fv, _ => fv = .bool (decide (nCl x ≤ z))
 | 13, fv, _ => fv = .bool (decide (nCl x ≤ z))
 | _, _, _ => True
theorem wCyK_below {bl : Nat} {x : Cl} {z : Int} {w w' : World} (hb : Below w.heap.size w w') : ∀ j v, wCyK bl x z j v w → wCyK bl x z j v w'
 | 0, v, h => h
 | 1, v, h => h
 | 2, v, h => h
 | 3, v, h => h
 | 4, v, h => h
 | 5, v, h => h
 | 6, v, h => h
 | 7, v, h => h
 | 8, v, h => h
 | 9, v, h => h
 | 10, v, h => h
 | 11, v, h => h
 | 12, v, h => h
 | 13, v, h => h
 | n + 14, v, h => trivial
def wCnK (bl : Nat) (x : Cl) (z : Int) : Nat → Value → World → Prop
 | 0, fv, _ => fv = .pointer (some ⟨bl, 1, none⟩)
 | 1, fv, _ => fv = .func (.func 107) #[] #[]
 | 2, fv, _ => fv = clV x
 | 3, fv, _ => fv = .bool false
 | 4, fv, _ => fv = .bool true
 | 5, fv, _ => fv = .bool true
 | 6, fv, _ => fv = undef
 | 7, fv, _ => fv = undef
 | 8, fv, _ => fv = undef
 | 9, fv, _ => fv = undef
 | 10, fv, _ => fv = undef
 | 11, fv, _ => fv = undef
 | 12, fv, _ => fv = .bool true
 | 13, fv, _ => fv = .bool true
 | _, _, _ => True
theorem wCnK_below {bl : Nat} {x : Cl} {z : Int} {w w' : World} (hb : Below w.heap.size w w') : ∀ j v, wCnK bl x z j v w → wCnK bl x z j v w'
 | 0, v, h => h
 | 1, v, h => h
 | 2, v, h => h
 | 3, v, h => h
 | 4, v, h => h
 | 5, v, h => h
 | 6, v, h => h
 | 7, v, h => h
 | 8, v, h => h
 | 9, v, h => h
 | 10, v, h => h
 | 11, v, h => h
 | 12, v, h => h
 | 13, v, h => h
 | n + 14, v, h => trivial
theorem chk1K_y (x : Cl) (z : Int) (bl bs : Nat) (w : World) (hl : Hid (w.heap[bl]? = some (.cells tabK 95 (0, 0)))) (hs : Hid (w.heap[bs]? = some (.cells #[.int .i64 z] 3 (0, 0)))) (hv : Hid (vCl x = true)) :
  Calls Tryz.prog 112 #[clV x, .pointer (some ⟨bl, 0, none⟩), .pointer (some ⟨bs, 0, none⟩)] w fun e w' => e = .returned (.bool (!(vCl x && decide (z < nCl x)))) ∧ w.grownBy w' (some bs) ∧ w'.heap[bs]? = some (.cells #[.int .i64 (nCl x)] 3 (0, 0)) := by
 have HB0 := hid ((Below.refl _ w).alloc (Nat.le_refl _) (.cells (clC x).toArray 56))
 have HX0 := hid (heap_alloc_new w (.cells (clC x).toArray 56))
 have HL0 := hid (row_kept hl.out HB0.out)
 have HS0 := hid (row_kept hs.out HB0.out)
 have HBS : Hid (bs < w.heap.size) := hid (Array.getElem?_eq_some_iff.1 hs.out).1
 have HIX := hid (clC_info x)
 have HLE : Hid ((!(vCl x && decide (z < nCl x))) = decide (nCl x ≤ z)) := hid (by rw [hv.out]; rw [Bool.true_and, ← decide_not]; congr 1; exact propext Int.not_lt)
 rw [show clV x = .agg (clC x).toArray from rfl]
 go_enter Tryz.func112, Tryz.ntmps112
 go_wp2_with fail
 generalize w.alloc (.cells (clC x).toArray 56) = W1 at *
 refine region_flow3 (by kernel_rfl) (by kernel_rfl) (fun i => Nat.beq i 13) (fun i => i) (by kernel_rfl) (fun fx => #[.agg (clC x).toArray, .pointer (some { block := bl, off := 0 }), .pointer (some { block := bs, off := 0 }), .pointer (some { block := w.heap.size, off := 0 }), .bool false, fx 13, fx 0, fx 1, fx 2, fx 3, fx 4, fx 5, fx 6, fx 7, fx 8, fx 9, fx 10, fx 11, fx 12, undef, undef, undef, undef, undef]) (fun _ => undef) (fun L fx w' => Below W1.heap.size W1 w') (fun fi fv _ fw => wCyK bl x z fi fv fw) (Below.refl _ _).drew ?_ ?_
 ·refine ⟨?_, ?_, ?_, ?_, ?_, ?_, ?_, ?_, ?_, ?_, ?_, ?_, ?_, ?_, trivial⟩
  all_goals intro L fx w' hC hi hcl hdn hd
  ·go_wp2_with fail
   exact ⟨_, rfl, hC, rfl, kP⟩
  ·have h0 : fx 0 = .pointer (some ⟨bl, 1, none⟩) := hd.1 rfl
   have hcc : w'.cell? ⟨bl, 1, none⟩ = some (Value.func (.func 107) #[] #[]) := by rw [cell_of_row _ _ _ _ _ _ (row_kept HL0.out hC)]; rfl
   go_wp2_with fail
   exact ⟨_, by simp only [upd, h0]; rfl, hC, rfl, kP⟩
  ·have hrow := row_kept HX0.out hC
   refine wpList_load_row rfl 56 (.tmp 3) rfl w.heap.size rfl 56 _ (0, 0) _ hrow Tryz.underlying56 rfl HIX.out ?_
   clear hd
   go_wp2_with fail
   exact ⟨_, rfl, hC, rfl, kP⟩
  ·have h1 : fx 1 = .func (.func 107) #[] #[] := hd.1 rfl
   have h2 : fx 2 = clV x := hd.2.1 rfl
   go_wp2_with fail
   refine (vclaim_x x w').mono ?_
   rintro e w2 ⟨rfl, hq⟩
   rw [hv.out]
   go_wp2_with fail
   exact ⟨_, by simp only [upd, h1, h2]; rfl, hC.trans (hq.mono hC.size), rfl, fun j v t _ _ h => wCyK_below hq j v h⟩
  ·have h3 : fx 3 = .bool true := hd.1 rfl
   go_wp2_with fail
   exact ⟨_, by simp only [upd, h3]; rfl, hC, rfl, kP⟩
  ·have h4 : fx 4 = .bool false := hd.1 rfl
   go_wp2_with fail
   exact ⟨_, by simp only [upd, h4]; rfl, hC, rfl, kP⟩
  ·have h5 : fx 5 = .bool false := hd.1 rfl
   go_wp2_with fail
   exact ⟨_, by simp only [upd, h5]; rfl, hC, rfl, kP⟩
  ·have h6 : fx 6 = .pointer (some ⟨bl, 2, none⟩) := hd.1 rfl
   have h5 : fx 5 = .bool false := hd.2.1 rfl
   have hcc : w'.cell? ⟨bl, 2, none⟩ = some (Value.func (.func 104) #[] #[]) := by rw [cell_of_row _ _ _ _ _ _ (row_kept HL0.out hC)]; rfl
   go_wp2_with fail
   exact ⟨_, by simp only [upd, h6, h5]; rfl, hC, rfl, kP⟩
  ·have h5 : fx 5 = .bool false := hd.1 rfl
   have hrow := row_kept HX0.out hC
   dsimp only
   rw [h5]
   refine wpList_unguard rfl ?_
   refine wpList_load_row rfl 56 (.tmp 3) rfl w.heap.size rfl 56 _ (0, 0) _ hrow Tryz.underlying56 rfl HIX.out ?_
   clear hd
   go_wp2_with fail
   exact ⟨_, by simp only [upd, h5]; rfl, hC, rfl, kP⟩
  ·have h7 : fx 7 = .func (.func 104) #[] #[] := hd.1 rfl
   have h8 : fx 8 = clV x := hd.2.1 rfl
   have h5 : fx 5 = .bool false := hd.2.2.2.1 rfl
   go_wp2_with fail
   refine (nclaim_x x w').mono ?_
   rintro e w2 ⟨rfl, hq⟩
   go_wp2_with fail
   exact ⟨_, by simp only [upd, h7, h8, h5]; rfl, hC.trans (hq.mono hC.size), rfl, fun j v t _ _ h => wCyK_below hq j v h⟩
  ·have h5 : fx 5 = .bool false := hd.1 rfl
   have hcc : w'.cell? ⟨bs, 0, none⟩ = some (.int .i64 z) := by rw [cell_of_row _ _ _ _ _ _ (row_kept HS0.out hC)]; rfl
   go_wp2_with fail
   exact ⟨_, by simp only [upd, h5]; rfl, hC, rfl, kP⟩
  ·have h9 : fx 9 = .int .i64 (nCl x) := hd.1 rfl
   have h10 : fx 10 = .int .i64 z := hd.2.1 rfl
   have h5 : fx 5 = .bool false := hd.2.2.1 rfl
   go_wp2_with fail
   exact ⟨_, by simp only [upd, h9, h10, h5]; rfl, hC, rfl, kP⟩
  ·have h5 : fx 5 = .bool false := hd.1 rfl
   have h11 : fx 11 = .bool (decide (nCl x ≤ z)) := hd.2.1 rfl
   go_wp2_with fail
   exact ⟨_, by simp only [upd, h5, h11]; rfl, hC, rfl, kP⟩
  ·have h12 : fx 12 = .bool (decide (nCl x ≤ z)) := hd.1 rfl
   go_wp2_with fail
   exact ⟨_, by simp only [upd, h12]; rfl, hC, rfl, kP⟩
 ·intro L fo w' hC hS
  have H13 := hid (hS 13 (by decide) rfl)
  have h13 : fo 13 = .bool (decide (nCl x ≤ z)) := H13.out
  rw [h13]
  have HBC := hid hC
  clear hS hC h13 H13
  have HX1 := hid (row_kept HX0.out HBC.out)
  have HS1 := hid (row_kept HS0.out HBC.out)
  have hcc : w'.cell? ⟨bl, 2, none⟩ = some (Value.func (.func 104) #[] #[]) := by rw [cell_of_row _ _ _ _ _ _ (row_kept HL0.out HBC.out)]; rfl
  go_wp2_with (refine wpList_load_row rfl 56 (.tmp 3) rfl w.heap.size rfl 56 _ (0, 0) _ HX1.out Tryz.underlying56 rfl HIX.out ?_)
  rw [show Value.agg (clC x).toArray = clV x from rfl]
  refine (nclaim_x x w').mono ?_
  rintro e w2 ⟨rfl, hq⟩
  have HS2 := hid (row_kept HS1.out hq)
  have HG2 : Hid (w.grownBy w2 (some bs)) := hid (grown_then (grown_then (grown_of_below HB0.out) HBC.out) hq)
  have hc2 : w2.cell? ⟨bs, 0, none⟩ = some (.int .i64 z) := by rw [cell_of_row _ _ _ _ _ _ HS2.out]; rfl
  have hf2 : w2.frozen? ⟨bs, 0, none⟩ = false := by simp [World.frozen?, HS2.out]
  clear hq hcc
  go_wp2_with fail
  go_ret
  exact ⟨by rw [HLE.out]; rfl, grown_set HG2.out _, one_set HS2.out⟩
theorem chk1K_n (x : Cl) (z : Int) (bl bs : Nat) (w : World) (hl : Hid (w.heap[bl]? = some (.cells tabK 95 (0, 0)))) (hs : Hid (w.heap[bs]? = some (.cells #[.int .i64 z] 3 (0, 0)))) (hv : Hid (vCl x = false)) :
  Calls Tryz.prog 112 #[clV x, .pointer (some ⟨bl, 0, none⟩), .pointer (some ⟨bs, 0, none⟩)] w fun e w' => e = .returned (.bool (!(vCl x && decide (z < nCl x)))) ∧ w.grownBy w' (some bs) ∧ w'.heap[bs]? = some (.cells #[.int .i64 (nCl x)] 3 (0, 0)) := by
 have HB0 := hid ((Below.refl _ w).alloc (Nat.le_refl _) (.cells (clC x).toArray 56))
 have HX0 := hid (heap_alloc_new w (.cells (clC x).toArray 56))
 have HL0 := hid (row_kept hl.out HB0.out)
 have HS0 := hid (row_kept hs.out HB0.out)
 have HBS : Hid (bs < w.heap.size) := hid (Array.getElem?_eq_some_iff.1 hs.out).1
 have HIX := hid (clC_info x)
 have HLE : Hid ((!(vCl x && decide (z < nCl x))) = true) := hid (by rw [hv.out]; rfl)
 rw [show clV x = .agg (clC x).toArray from rfl]
 go_enter Tryz.func112, Tryz.ntmps112
 go_wp2_with fail
 generalize w.alloc (.cells (clC x).toArray 56) = W1 at *
 refine region_flow3 (by kernel_rfl) (by kernel_rfl) (fun i => Nat.beq i 13) (fun i => i) (by kernel_rfl) (fun fx => #[.agg (clC x).toArray, .pointer (some { block := bl, off := 0 }), .pointer (some { block := bs, off := 0 }), .pointer (some { block := w.heap.size, off := 0 }), .bool false, fx 13, fx 0, fx 1, fx 2, fx 3, fx 4, fx 5, fx 6, fx 7, fx 8, fx 9, fx 10, fx 11, fx 12, undef, undef, undef, undef, undef]) (fun _ => undef) (fun L fx w' => Below W1.heap.size W1 w') (fun fi fv _ fw => wCnK bl x z fi fv fw) (Below.refl _ _).drew ?_ ?_
 ·refine ⟨?_, ?_, ?_, ?_, ?_, ?_, ?_, ?_, ?_, ?_, ?_, ?_, ?_, ?_, trivial⟩
  all_goals intro L fx w' hC hi hcl hdn hd
  ·go_wp2_with fail
   exact ⟨_, rfl, hC, rfl, kP⟩
  ·have h0 : fx 0 = .pointer (some ⟨bl, 1, none⟩) := hd.1 rfl
   have hcc : w'.cell? ⟨bl, 1, none⟩ = some (Value.func (.func 107) #[] #[]) := by rw [cell_of_row _ _ _ _ _ _ (row_kept HL0.out hC)]; rfl
   go_wp2_with fail
   exact ⟨_, by simp only [upd, h0]; rfl, hC, rfl, kP⟩
  ·have hrow := row_kept HX0.out hC
   refine wpList_load_row rfl 56 (.tmp 3) rfl w.heap.size rfl 56 _ (0, 0) _ hrow Tryz.underlying56 rfl HIX.out ?_
   clear hd
   go_wp2_with fail
   exact ⟨_, rfl, hC, rfl, kP⟩
  ·have h1 : fx 1 = .func (.func 107) #[] #[] := hd.1 rfl
   have h2 : fx 2 = clV x := hd.2.1 rfl
   go_wp2_with fail
   refine (vclaim_x x w').mono ?_
   rintro e w2 ⟨rfl, hq⟩
   rw [hv.out]
   go_wp2_with fail
   exact ⟨_, by simp only [upd, h1, h2]; rfl, hC.trans (hq.mono hC.size), rfl, fun j v t _ _ h => wCnK_below hq j v h⟩
  ·have h3 : fx 3 = .bool false := hd.1 rfl
   go_wp2_with fail
   exact ⟨_, by simp only [upd, h3]; rfl, hC, rfl, kP⟩
  ·have h4 : fx 4 = .bool true := hd.1 rfl
   go_wp2_with fail
   exact ⟨_, by simp only [upd, h4]; rfl, hC, rfl, kP⟩
  ·have h5 : fx 5 = .bool true := hd.1 rfl
   go_wp2_with fail
   exact ⟨_, by simp only [upd, h5]; rfl, hC, rfl, kP⟩
  ·have h6 : fx 6 = undef := hd.1 rfl
   have h5 : fx 5 = .bool true := hd.2.1 rfl
   go_wp2_with fail
   exact ⟨_, by simp only [upd, h6, h5]; rfl, hC, rfl, kP⟩
  ·have h5 : fx 5 = .bool true := hd.1 rfl
   go_wp2_with fail
   exact ⟨_, by simp only [upd, h5]; rfl, hC, rfl, kP⟩
  ·have h7 : fx 7 = undef := hd.1 rfl
   have h8 : fx 8 = undef := hd.2.1 rfl
   have h5 : fx 5 = .bool true := hd.2.2.2.1 rfl
   go_wp2_with fail
   exact ⟨_, by simp only [upd, h7, h8, h5]; rfl, hC, rfl, kP⟩
  ·have h5 : fx 5 = .bool true := hd.1 rfl
   go_wp2_with fail
   exact ⟨_, by simp only [upd, h5]; rfl, hC, rfl, kP⟩
  ·have h9 : fx 9 = undef := hd.1 rfl
   have h10 : fx 10 = undef := hd.2.1 rfl
   have h5 : fx 5 = .bool true := hd.2.2.1 rfl
   go_wp2_with fail
   exact ⟨_, by simp only [upd, h9, h10, h5]; rfl, hC, rfl, kP⟩
  ·have h5 : fx 5 = .bool true := hd.1 rfl
   have h11 : fx 11 = undef := hd.2.1 rfl
   go_wp2_with fail
   exact ⟨_, by simp only [upd, h5, h11]; rfl, hC, rfl, kP⟩
  ·have h12 : fx 12 = .bool true := hd.1 rfl
   go_wp2_with fail
   exact ⟨_, by simp only [upd, h12]; rfl, hC, rfl, kP⟩
 ·intro L fo w' hC hS
  have H13 := hid (hS 13 (by decide) rfl)
  have h13 : fo 13 = .bool true := H13.out
  rw [h13]
  have HBC := hid hC
  clear hS hC h13 H13
  have HX1 := hid (row_kept HX0.out HBC.out)
  have HS1 := hid (row_kept HS0.out HBC.out)
  have hcc : w'.cell? ⟨bl, 2, none⟩ = some (Value.func (.func 104) #[] #[]) := by rw [cell_of_row _ _ _ _ _ _ (row_kept HL0.out HBC.out)]; rfl
  go_wp2_with (refine wpList_load_row rfl 56 (.tmp 3) rfl w.heap.size rfl 56 _ (0, 0) _ HX1.out Tryz.underlying56 rfl HIX.out ?_)
  rw [show Value.agg (clC x).toArray = clV x from rfl]
  refine (nclaim_x x w').mono ?_
  rintro e w2 ⟨rfl, hq⟩
  have HS2 := hid (row_kept HS1.out hq)
  have HG2 : Hid (w.grownBy w2 (some bs)) := hid (grown_then (grown_then (grown_of_below HB0.out) HBC.out) hq)
  have hc2 : w2.cell? ⟨bs, 0, none⟩ = some (.int .i64 z) := by rw [cell_of_row _ _ _ _ _ _ HS2.out]; rfl
  have hf2 : w2.frozen? ⟨bs, 0, none⟩ = false := by simp [World.frozen?, HS2.out]
  clear hq hcc
  go_wp2_with fail
  go_ret
  exact ⟨by rw [HLE.out]; rfl, grown_set HG2.out _, one_set HS2.out⟩
theorem chk1K (x : Cl) (z : Int) (bl bs : Nat) (w : World) (hl : Hid (w.heap[bl]? = some (.cells tabK 95 (0, 0)))) (hs : Hid (w.heap[bs]? = some (.cells #[.int .i64 z] 3 (0, 0)))) :
  Calls Tryz.prog 112 #[clV x, .pointer (some ⟨bl, 0, none⟩), .pointer (some ⟨bs, 0, none⟩)] w fun e w' => e = .returned (.bool (!(vCl x && decide (z < nCl x)))) ∧ w.grownBy w' (some bs) ∧ w'.heap[bs]? = some (.cells #[.int .i64 (nCl x)] 3 (0, 0)) := by
 by_cases h : vCl x = true
 ·exact chk1K_y x z bl bs w hl hs (hid h)
 ·exact chk1K_n x z bl bs w hl hs (hid (by simpa using h))
theorem indexK (ls : List Cl) (A : Option Addr) (n c : Nat) (z : Int) (bl bs M : Nat) (w : World) (hn : n ≤ 9223372036854775807) (hM : M ≤ bl) (hMs : M ≤ bs) (hne : bl ≠ bs) (hl : Hid (w.heap[bl]? = some (.cells tabK 95 (0, 0)))) (hs : Hid (w.heap[bs]? = some (.cells #[.int .i64 z] 3 (0, 0)))) (h : Hid (InCl w A n c ls)) (hbo : Hid (∀ g off, A = some ⟨g, off, none⟩ → 0 < ls.length → g < M)) :
  Calls Tryz.prog 141 #[.slice A n c, .func (.func 112) #[] #[.pointer (some ⟨bl, 0, none⟩), .pointer (some ⟨bs, 0, none⟩)]] w fun e w' => ∃ r : Int, e = .returned (.int .i64 r) ∧ decide (0 ≤ r) = !(chkE vCl nCl z ls) ∧ w.grownBy w' (some bs) := by
 have HN := hid (show ls.length = n from h.out.len)
 have HGW : Hid (w.grownBy w (some bs)) := hid ⟨rfl, rfl, rfl, Nat.le_refl _, fun _ _ _ => rfl⟩
 go_enter Tryz.func141, Tryz.ntmps141
 go_wp2_with fail
 go_loopw [8] (fun i wr => ∃ (j : Nat) (y : Int), j ≤ n ∧ i = .int .i64 (j : Nat) ∧ Hid (chkE vCl nCl z ls = chkE vCl nCl y (ls.drop j)) ∧ Hid (w.grownBy wr (some bs)) ∧ Hid (wr.heap[bs]? = some (.cells #[.int .i64 y] 3 (0, 0)))) (fun i _ => n - (intOf i).toNat)
 case atStart => exact ⟨0, z, by omega, rfl, hid rfl, HGW, hs⟩
 case round =>
  clear HGW hs
  obtain ⟨j, y, hj, rfl, HCH, HG, HS⟩ := hrel
  by_cases hlt : j < n
  ·have d1 : decide ((j : Int) < (n : Int)) = true := eQ (by omega)
   have d2 : decide (j < n) = true := eQ hlt
   have hjl : j < ls.length := by rw [HN.out]; exact hlt
   obtain ⟨g, off, rfl, hg, hr⟩ := h.out.rd (by omega)
   obtain ⟨x, HX⟩ : ∃ x, Hid (ls[j] = x) := ⟨_, hid rfl⟩
   have HR : Hid (wr.rangeAt g (off + j * 3) (clC x)) := hid (by
    rw [← HX.out]
    intro i v hi
    have h1 := range_elem clC_len hr j hjl i v hi
    have hgM := hbo.out g off rfl (by omega)
    rw [← h1]
    exact World.cell?_of_block (HG.out.block g hg (fun e => by injection e with e; omega)))
   have HL : Hid (wr.heap[bl]? = some (.cells tabK 95 (0, 0))) := hid ((HG.out.block bl (Array.getElem?_eq_some_iff.1 hl.out).1 (fun e => by injection e with e; exact hne e)).trans hl.out)
   have HDR : Hid (ls.drop j = x :: ls.drop (j + 1)) := hid (by rw [List.drop_eq_getElem_cons hjl, HX.out])
   have HII := hid (clC_infoL x)
   clear hr
   go_wp2_with (with_reducible refine wpList_load_mid rfl 56 (.tmp 14) rfl g (off + j * 3) rfl (clC x) _ HR.out Tryz.underlying56 rfl HII.out ?_)
   rw [show Value.agg (clC x).toArray = clV x from rfl]
   refine (chk1K x y bl bs wr HL HS).mono ?_
   rintro e w2 ⟨rfl, hg2, hs2⟩
   have HG2 := hid (grown_trans HG.out hg2)
   have HS2 := hid hs2
   clear hg2 hs2
   by_cases hok : (vCl x && decide (y < nCl x)) = true
   ·have HCN : Hid (chkE vCl nCl z ls = chkE vCl nCl (nCl x) (ls.drop (j + 1))) := hid (by rw [HCH.out, HDR.out]; rw [chkE, hok, Bool.true_and])
    rw [hok]
    clear hok
    go_wp2_with fail
    go_roundw
    case rel => exact ⟨j + 1, _, by omega, by go_num, HCN, HG2, HS2⟩
    case measure => simp [intOf]; omega
   ·have hok' : (vCl x && decide (y < nCl x)) = false := by simpa using hok
    have HCN : Hid (chkE vCl nCl z ls = false) := hid (by rw [HCH.out, HDR.out]; rw [chkE, hok', Bool.false_and])
    rw [hok']
    clear hok hok'
    go_wp2_with fail
    go_ret
    exact ⟨_, rfl, by rw [HCN.out]; exact eQ (by omega), HG2.out⟩
  ·have d1 : decide ((j : Int) < (n : Int)) = false := dQ (by omega)
   have d2 : decide (j < n) = false := dQ hlt
   have HCN : Hid (chkE vCl nCl z ls = true) := hid (by rw [HCH.out, List.drop_eq_nil_of_le (by rw [HN.out]; omega)]; rfl)
   go_wp2_with fail
   go_ret
   exact ⟨_, rfl, by rw [HCN.out]; rfl, HG.out⟩
theorem containsK (ls : List Cl) (A : Option Addr) (n c : Nat) (z : Int) (bl bs M : Nat) (w : World) (hn : n ≤ 9223372036854775807) (hM : M ≤ bl) (hMs : M ≤ bs) (hne : bl ≠ bs) (hl : Hid (w.heap[bl]? = some (.cells tabK 95 (0, 0)))) (hs : Hid (w.heap[bs]? = some (.cells #[.int .i64 z] 3 (0, 0)))) (h : Hid (InCl w A n c ls)) (hbo : Hid (∀ g off, A = some ⟨g, off, none⟩ → 0 < ls.length → g < M)) :
  Calls Tryz.prog 111 #[.slice A n c, .func (.func 112) #[] #[.pointer (some ⟨bl, 0, none⟩), .pointer (some ⟨bs, 0, none⟩)]] w fun e w' => e = .returned (.bool (!(chkE vCl nCl z ls))) ∧ w.grownBy w' (some bs) := by
 go_enter Tryz.func111, Tryz.ntmps111
 go_wp2_with fail
 refine (indexK ls A n c z bl bs M w hn hM hMs hne hl hs h hbo).mono ?_
 rintro e w2 ⟨r, rfl, hr, hg⟩
 have HR := hid hr
 have HG := hid hg
 clear hr hg
 go_wp2_with fail
 go_ret
 exact ⟨by rw [← HR.out]; rfl, HG.out⟩
theorem checkK (ls : List Cl) (A : Option Addr) (n c : Nat) (w : World) (hn : n ≤ 9223372036854775807) (h : Hid (InCl w A n c ls)) :
  Calls Tryz.prog 54 #[.agg tabK, .slice A n c] w fun e w' => e = .returned (.bool (chkE vCl nCl (-1) ls)) ∧ Below w.heap.size w w' := by
 have hb0 := ((Below.refl _ w).alloc (Nat.le_refl _) (.cells tabK 95)).alloc (by simp) (.cells #[.int .i64 (-1)] 3)
 have hr0 := (Below.heap_alloc (w.alloc (.cells tabK 95)) (.cells #[.int .i64 (-1)] 3) w.heap.size (by simp)).trans (heap_alloc_new w (.cells tabK 95))
 have hr1 := heap_alloc_new (w.alloc (.cells tabK 95)) (.cells #[.int .i64 (-1)] 3)
 rw [World.size_alloc] at hr1
 have HB0 := hid hb0
 have HL0 := hid hr0
 have HS0 := hid hr1
 have HI0 := hid (h.out.below hb0)
 have HBO : Hid (∀ g off, A = some ⟨g, off, none⟩ → 0 < ls.length → g < w.heap.size) := hid (fun g off e h0 => by
  obtain ⟨g', off', e', hg, _⟩ := h.out.rd h0
  rw [e] at e'; injection e' with e'; injection e' with e1 e2; omega)
 clear hb0 hr0 hr1
 go_enter Tryz.func54, Tryz.ntmps54
 go_wp2_with fail
 refine (containsK ls A n c (-1) w.heap.size (w.heap.size + 1) w.heap.size _ hn (Nat.le_refl _) (Nat.le_succ _) (by omega) HL0 HS0 HI0 HBO).mono ?_
 rintro e w2 ⟨rfl, hg⟩
 have HB2 : Hid (Below w.heap.size w w2) := hid (HB0.out.grown hg HB0.out.size (fun k hk => by injection hk with hk; omega))
 clear hg
 go_wp2_with fail
 go_ret
 exact ⟨by simp, HB2.out⟩
def inB (x lo hi : Int) : Bool := decide (lo ≤ x) && decide (x ≤ hi)
/-- a transcript is valid -/
def trG (t : Tr) : Bool := inB t.cam 0 6 && (inB t.stu 0 19999 && (inB t.ver 1 1048576 && (inB t.kno 1 16777216 && (decide (t.ln.length ≤ 4096) && (chkE vLn nLn (-1) t.ln && chkE vCl nCl (-1) t.cl)))))
def trE (t : Tr) : Int := if trG t then 0 else 420
theorem TrOk.below {w w' : World} {t : Tr} {p : TrP} (h : TrOk w t p) (hb : Below w.heap.size w w') : TrOk w' t p := ⟨h.b0, h.b1, h.b2, h.b3, h.ln.below hb, h.cl.below hb, h.len, h.bytes, h.mn, h.mc⟩
def wCk (bt : Nat) (t : Tr) (p : TrP) (b0 b1 b2 b3 b4 b5 b6 r0 r1 r2 r3 r4 r5 r6 : Bool) : Nat → Value → Prop
 | 0, fv => fv = .pointer (some { block := bt, off := 0 })
 | 1, fv => fv = .int .i64 t.cam
 | 2, fv => fv = .bool b0
 | 3, fv => fv = .bool r0
 | 4, fv => fv = .bool r0
 | 5, fv => fv = bif r0 then undef else .pointer (some { block := bt, off := 1 })
 | 6, fv => fv = bif r0 then undef else .int .i64 t.stu
 | 7, fv => fv = bif r0 then undef else .bool b1
 | 8, fv => fv = bif r0 then undef else .bool (!b1)
 | 9, fv => fv = .bool r1
 | 10, fv => fv = .bool r1
 | 11, fv => fv = bif r1 then undef else .pointer (some { block := bt, off := 2 })
 | 12, fv => fv = bif r1 then undef else .int .i64 t.ver
 | 13, fv => fv = bif r1 then undef else .bool b2
 | 14, fv => fv = bif r1 then undef else .bool (!b2)
 | 15, fv => fv = .bool r2
 | 16, fv => fv = .bool r2
 | 17, fv => fv = bif r2 then undef else .pointer (some { block := bt, off := 3 })
 | 18, fv => fv = bif r2 then undef else .int .i64 t.kno
 | 19, fv => fv = bif r2 then undef else .bool b3
 | 20, fv => fv = bif r2 then undef else .bool (!b3)
 | 21, fv => fv = .bool r3
 | 22, fv => fv = .bool r3
 | 23, fv => fv = bif r3 then undef else .pointer (some { block := bt, off := 4 })
 | 24, fv => fv = bif r3 then undef else .slice p.A p.n p.c
 | 25, fv => fv = bif r3 then undef else .int .i64 (p.n : Nat)
 | 26, fv => fv = bif r3 then undef else .bool (!b4)
 | 27, fv => fv = .bool r4
 | 28, fv => fv = .bool r4
 | 29, fv => fv = bif r4 then undef else .agg tabL
 | 30, fv => fv = bif r4 then undef else .pointer (some { block := bt, off := 4 })
 | 31, fv => fv = bif r4 then undef else .slice p.A p.n p.c
 | 32, fv => fv = bif r4 then undef else .bool b5
 | 33, fv => fv = bif r4 then undef else .bool (!b5)
 | 34, fv => fv = .bool r5
 | 35, fv => fv = .bool r5
 | 36, fv => fv = bif r5 then undef else .agg tabK
 | 37, fv => fv = bif r5 then undef else .pointer (some { block := bt, off := 5 })
 | 38, fv => fv = bif r5 then undef else .slice p.A2 p.n2 p.c2
 | 39, fv => fv = bif r5 then undef else .bool b6
 | 40, fv => fv = bif r5 then undef else .bool (!b6)
 | 41, fv => fv = .bool r6
 | _, _ => True
theorem trE_of (t : Tr) (b0 b1 b2 b3 b4 b5 b6 : Bool) (h0 : (inB t.cam 0 6) = b0) (h1 : (inB t.stu 0 19999) = b1) (h2 : (inB t.ver 1 1048576) = b2) (h3 : (inB t.kno 1 16777216) = b3) (h4 : (decide (t.ln.length ≤ 4096)) = b4) (h5 : (chkE vLn nLn (-1) t.ln) = b5) (h6 : (chkE vCl nCl (-1) t.cl) = b6) : trE t = bif (!b0) || ((!b1) || ((!b2) || ((!b3) || ((!b4) || ((!b5) || (!b6)))))) then 420 else 0 := by
 unfold trE trG
 rw [h0, h1, h2, h3, h4, h5, h6]
 cases b0 <;> cases b1 <;> cases b2 <;> cases b3 <;> cases b4 <;> cases b5 <;> cases b6 <;> rfl
theorem check_any (t : Tr) (p : TrP) (w : World) (h : Hid (TrOk w t p)) :
  Calls Tryz.prog 17 #[trV t p] w fun e w' => e = .returned (.int .i64 (trE t)) ∧ Below w.heap.size w w' := by
 obtain ⟨b0, HQ0⟩ : ∃ b, Hid ((inB t.cam 0 6) = b) := ⟨_, hid rfl⟩
 obtain ⟨b1, HQ1⟩ : ∃ b, Hid ((inB t.stu 0 19999) = b) := ⟨_, hid rfl⟩
 obtain ⟨b2, HQ2⟩ : ∃ b, Hid ((inB t.ver 1 1048576) = b) := ⟨_, hid rfl⟩
 obtain ⟨b3, HQ3⟩ : ∃ b, Hid ((inB t.kno 1 16777216) = b) := ⟨_, hid rfl⟩
 obtain ⟨b4, HQ4⟩ : ∃ b, Hid ((decide (t.ln.length ≤ 4096)) = b) := ⟨_, hid rfl⟩
 obtain ⟨b5, HQ5⟩ : ∃ b, Hid ((chkE vLn nLn (-1) t.ln) = b) := ⟨_, hid rfl⟩
 obtain ⟨b6, HQ6⟩ : ∃ b, Hid ((chkE vCl nCl (-1) t.cl) = b) := ⟨_, hid rfl⟩
 have HTE := hid (trE_of t b0 b1 b2 b3 b4 b5 b6 HQ0.out HQ1.out HQ2.out HQ3.out HQ4.out HQ5.out HQ6.out)
 obtain ⟨r0, HR0⟩ : ∃ b, Hid ((!b0) = b) := ⟨_, hid rfl⟩
 obtain ⟨r1, HR1⟩ : ∃ b, Hid ((r0 || (!b1)) = b) := ⟨_, hid rfl⟩
 obtain ⟨r2, HR2⟩ : ∃ b, Hid ((r1 || (!b2)) = b) := ⟨_, hid rfl⟩
 obtain ⟨r3, HR3⟩ : ∃ b, Hid ((r2 || (!b3)) = b) := ⟨_, hid rfl⟩
 obtain ⟨r4, HR4⟩ : ∃ b, Hid ((r3 || (!b4)) = b) := ⟨_, hid rfl⟩
 obtain ⟨r5, HR5⟩ : ∃ b, Hid ((r4 || (!b5)) = b) := ⟨_, hid rfl⟩
 obtain ⟨r6, HR6⟩ : ∃ b, Hid ((r5 || (!b6)) = b) := ⟨_, hid rfl⟩
 have HTR : Hid (trE t = bif r6 then 420 else 0) := hid (by
  rw [HTE.out, ← HR6.out, ← HR5.out, ← HR4.out, ← HR3.out, ← HR2.out, ← HR1.out, ← HR0.out]
  simp only [Bool.or_assoc])
 have hml : maxLen ≤ 9223372036854775807 := by unfold maxLen; omega
 have HM1 : Hid (p.n ≤ 9223372036854775807) := hid (Nat.le_trans h.out.mn hml)
 have HM2 : Hid (p.n2 ≤ 9223372036854775807) := hid (Nat.le_trans h.out.mc hml)
 have HD4 : Hid (decide ((4096 : Int) < (p.n : Int)) = !b4) := hid (by
  rw [← HQ4.out, h.out.ln.len, ← decide_not]
  exact decide_eq_decide.2 (by omega))
 have HB0 := hid ((Below.refl _ w).alloc (Nat.le_refl _) (.cells (trC t p).toArray 27))
 have HRW := hid (heap_alloc_new w (.cells (trC t p).toArray 27))
 have HO1 := hid (h.out.below HB0.out)
 rw [show trV t p = .agg (trC t p).toArray from rfl]
 clear hml
 go_enter Tryz.func17, Tryz.ntmps17
 go_wp2_with fail
 generalize w.alloc (.cells (trC t p).toArray 27) = W1 at *
 refine region_flow3 (by kernel_rfl) (by kernel_rfl) (fun i => Nat.beq i 41) (fun i => i) (by kernel_rfl) (fun fx => #[.agg (trC t p).toArray, .pointer (some { block := w.heap.size, off := 0 }), .int .i64 0, fx 0, fx 1, fx 2, fx 3, fx 4, fx 5, fx 6, fx 7, fx 8, fx 9, fx 10, fx 11, fx 12, fx 13, fx 14, fx 15, fx 16, fx 17, fx 18, fx 19, fx 20, fx 21, fx 22, fx 23, fx 24, fx 25, fx 26, fx 27, fx 28, fx 29, fx 30, fx 31, fx 32, fx 33, fx 34, fx 35, fx 36, fx 37, fx 38, fx 39, fx 40, fx 41]) (fun _ => undef) (fun L fx w' => Below W1.heap.size W1 w') (fun fi fv _ _ => wCk w.heap.size t p b0 b1 b2 b3 b4 b5 b6 r0 r1 r2 r3 r4 r5 r6 fi fv) (Below.refl _ _).drew ?_ ?_
 ·refine ⟨?_, ?_, ?_, ?_, ?_, ?_, ?_, ?_, ?_, ?_, ?_, ?_, ?_, ?_, ?_, ?_, ?_, ?_, ?_, ?_, ?_, ?_, ?_, ?_, ?_, ?_, ?_, ?_, ?_, ?_, ?_, ?_, ?_, ?_, ?_, ?_, ?_, ?_, ?_, ?_, ?_, ?_, trivial⟩
  all_goals intro L fx w' hC hi hcl hdn hd
  ·clear hd
   go_wp2_with fail
   exact ⟨_, rfl, hC, rfl, kP⟩
  ·have h0 : fx 0 = .pointer (some { block := w.heap.size, off := 0 }) := hd.1 rfl
   clear hd
   have hcc : w'.cell? ⟨w.heap.size, 0, none⟩ = some (.int .i64 t.cam) := by rw [cell_of_row _ _ _ _ _ _ (row_kept HRW.out hC)]; rfl
   go_wp2_with fail
   exact ⟨_, by simp only [upd, h0]; rfl, hC, rfl, kP⟩
  ·have h1 : fx 1 = .int .i64 t.cam := hd.1 rfl
   clear hd
   go_wp2_with fail
   refine (in_any t.cam 0 6 w').mono ?_
   rintro e w2 ⟨rfl, rfl⟩
   rw [show (decide (0 ≤ t.cam) && decide (t.cam ≤ 6)) = b0 from HQ0.out]
   go_wp2_with fail
   exact ⟨_, by simp only [upd, h1]; rfl, hC, rfl, kP⟩
  ·have h2 : fx 2 = .bool b0 := hd.1 rfl
   clear hd
   go_wp2_with fail
   exact ⟨_, by simp only [upd, h2]; rfl, hC, by rw [← HR0.out]; rfl, kP⟩
  ·have h3 : fx 3 = .bool r0 := hd.1 rfl
   clear hd
   go_wp2_with fail
   exact ⟨_, by simp only [upd, h3]; rfl, hC, rfl, kP⟩
  ·have h4 : fx 4 = .bool r0 := hd.1 rfl
   clear hd
   cases r0
   ·dsimp only
    rw [h4]
    refine wpList_unguard rfl ?_
    go_wp2_with fail
    exact ⟨_, by simp only [upd, h4]; rfl, hC, rfl, kP⟩
   ·go_wp2_with fail
    exact ⟨_, by simp only [upd, h4]; rfl, hC, rfl, kP⟩
  ·have h5 : fx 5 = bif r0 then undef else .pointer (some { block := w.heap.size, off := 1 }) := hd.1 rfl
   have h4 : fx 4 = .bool r0 := hd.2.1 rfl
   clear hd
   cases r0
   ·simp only [cond_false] at h5
    dsimp only
    rw [h4]
    refine wpList_unguard rfl ?_
    have hcc : w'.cell? ⟨w.heap.size, 1, none⟩ = some (.int .i64 t.stu) := by rw [cell_of_row _ _ _ _ _ _ (row_kept HRW.out hC)]; rfl
    go_wp2_with fail
    exact ⟨_, by simp only [upd, h5, h4]; rfl, hC, rfl, kP⟩
   ·simp only [cond_true] at h5
    go_wp2_with fail
    exact ⟨_, by simp only [upd, h5, h4]; rfl, hC, rfl, kP⟩
  ·have h6 : fx 6 = bif r0 then undef else .int .i64 t.stu := hd.1 rfl
   have h4 : fx 4 = .bool r0 := hd.2.2.1 rfl
   clear hd
   cases r0
   ·simp only [cond_false] at h6
    dsimp only
    rw [h4]
    refine wpList_unguard rfl ?_
    go_wp2_with fail
    refine (in_any t.stu 0 19999 w').mono ?_
    rintro e w2 ⟨rfl, rfl⟩
    rw [show (decide (0 ≤ t.stu) && decide (t.stu ≤ 19999)) = b1 from HQ1.out]
    go_wp2_with fail
    exact ⟨_, by simp only [upd, h6, h4]; rfl, hC, rfl, kP⟩
   ·simp only [cond_true] at h6
    go_wp2_with fail
    exact ⟨_, by simp only [upd, h6, h4]; rfl, hC, rfl, kP⟩
  ·have h7 : fx 7 = bif r0 then undef else .bool b1 := hd.1 rfl
   have h4 : fx 4 = .bool r0 := hd.2.1 rfl
   clear hd
   cases r0
   ·simp only [cond_false] at h7
    dsimp only
    rw [h4]
    refine wpList_unguard rfl ?_
    go_wp2_with fail
    exact ⟨_, by simp only [upd, h7, h4]; rfl, hC, rfl, kP⟩
   ·simp only [cond_true] at h7
    go_wp2_with fail
    exact ⟨_, by simp only [upd, h7, h4]; rfl, hC, rfl, kP⟩
  ·have h4 : fx 4 = .bool r0 := hd.1 rfl
   have h8 : fx 8 = bif r0 then undef else .bool (!b1) := hd.2.1 rfl
   clear hd
   cases r0
   ·simp only [cond_false] at h8
    go_wp2_with fail
    exact ⟨_, by simp only [upd, h4, h8]; rfl, hC, by rw [← HR1.out]; rfl, kP⟩
   ·simp only [cond_true] at h8
    go_wp2_with fail
    exact ⟨_, by simp only [upd, h4, h8]; rfl, hC, by rw [← HR1.out]; rfl, kP⟩
  ·have h9 : fx 9 = .bool r1 := hd.1 rfl
   clear hd
   go_wp2_with fail
   exact ⟨_, by simp only [upd, h9]; rfl, hC, rfl, kP⟩
  ·have h10 : fx 10 = .bool r1 := hd.1 rfl
   clear hd
   cases r1
   ·dsimp only
    rw [h10]
    refine wpList_unguard rfl ?_
    go_wp2_with fail
    exact ⟨_, by simp only [upd, h10]; rfl, hC, rfl, kP⟩
   ·go_wp2_with fail
    exact ⟨_, by simp only [upd, h10]; rfl, hC, rfl, kP⟩
  ·have h11 : fx 11 = bif r1 then undef else .pointer (some { block := w.heap.size, off := 2 }) := hd.1 rfl
   have h10 : fx 10 = .bool r1 := hd.2.1 rfl
   clear hd
   cases r1
   ·simp only [cond_false] at h11
    dsimp only
    rw [h10]
    refine wpList_unguard rfl ?_
    have hcc : w'.cell? ⟨w.heap.size, 2, none⟩ = some (.int .i64 t.ver) := by rw [cell_of_row _ _ _ _ _ _ (row_kept HRW.out hC)]; rfl
    go_wp2_with fail
    exact ⟨_, by simp only [upd, h11, h10]; rfl, hC, rfl, kP⟩
   ·simp only [cond_true] at h11
    go_wp2_with fail
    exact ⟨_, by simp only [upd, h11, h10]; rfl, hC, rfl, kP⟩
  ·have h12 : fx 12 = bif r1 then undef else .int .i64 t.ver := hd.1 rfl
   have h10 : fx 10 = .bool r1 := hd.2.2.1 rfl
   clear hd
   cases r1
   ·simp only [cond_false] at h12
    dsimp only
    rw [h10]
    refine wpList_unguard rfl ?_
    go_wp2_with fail
    refine (in_any t.ver 1 1048576 w').mono ?_
    rintro e w2 ⟨rfl, rfl⟩
    rw [show (decide (1 ≤ t.ver) && decide (t.ver ≤ 1048576)) = b2 from HQ2.out]
    go_wp2_with fail
    exact ⟨_, by simp only [upd, h12, h10]; rfl, hC, rfl, kP⟩
   ·simp only [cond_true] at h12
    go_wp2_with fail
    exact ⟨_, by simp only [upd, h12, h10]; rfl, hC, rfl, kP⟩
  ·have h13 : fx 13 = bif r1 then undef else .bool b2 := hd.1 rfl
   have h10 : fx 10 = .bool r1 := hd.2.1 rfl
   clear hd
   cases r1
   ·simp only [cond_false] at h13
    dsimp only
    rw [h10]
    refine wpList_unguard rfl ?_
    go_wp2_with fail
    exact ⟨_, by simp only [upd, h13, h10]; rfl, hC, rfl, kP⟩
   ·simp only [cond_true] at h13
    go_wp2_with fail
    exact ⟨_, by simp only [upd, h13, h10]; rfl, hC, rfl, kP⟩
  ·have h10 : fx 10 = .bool r1 := hd.1 rfl
   have h14 : fx 14 = bif r1 then undef else .bool (!b2) := hd.2.1 rfl
   clear hd
   cases r1
   ·simp only [cond_false] at h14
    go_wp2_with fail
    exact ⟨_, by simp only [upd, h10, h14]; rfl, hC, by rw [← HR2.out]; rfl, kP⟩
   ·simp only [cond_true] at h14
    go_wp2_with fail
    exact ⟨_, by simp only [upd, h10, h14]; rfl, hC, by rw [← HR2.out]; rfl, kP⟩
  ·have h15 : fx 15 = .bool r2 := hd.1 rfl
   clear hd
   go_wp2_with fail
   exact ⟨_, by simp only [upd, h15]; rfl, hC, rfl, kP⟩
  ·have h16 : fx 16 = .bool r2 := hd.1 rfl
   clear hd
   cases r2
   ·dsimp only
    rw [h16]
    refine wpList_unguard rfl ?_
    go_wp2_with fail
    exact ⟨_, by simp only [upd, h16]; rfl, hC, rfl, kP⟩
   ·go_wp2_with fail
    exact ⟨_, by simp only [upd, h16]; rfl, hC, rfl, kP⟩
  ·have h17 : fx 17 = bif r2 then undef else .pointer (some { block := w.heap.size, off := 3 }) := hd.1 rfl
   have h16 : fx 16 = .bool r2 := hd.2.1 rfl
   clear hd
   cases r2
   ·simp only [cond_false] at h17
    dsimp only
    rw [h16]
    refine wpList_unguard rfl ?_
    have hcc : w'.cell? ⟨w.heap.size, 3, none⟩ = some (.int .i64 t.kno) := by rw [cell_of_row _ _ _ _ _ _ (row_kept HRW.out hC)]; rfl
    go_wp2_with fail
    exact ⟨_, by simp only [upd, h17, h16]; rfl, hC, rfl, kP⟩
   ·simp only [cond_true] at h17
    go_wp2_with fail
    exact ⟨_, by simp only [upd, h17, h16]; rfl, hC, rfl, kP⟩
  ·have h18 : fx 18 = bif r2 then undef else .int .i64 t.kno := hd.1 rfl
   have h16 : fx 16 = .bool r2 := hd.2.2.1 rfl
   clear hd
   cases r2
   ·simp only [cond_false] at h18
    dsimp only
    rw [h16]
    refine wpList_unguard rfl ?_
    go_wp2_with fail
    refine (in_any t.kno 1 16777216 w').mono ?_
    rintro e w2 ⟨rfl, rfl⟩
    rw [show (decide (1 ≤ t.kno) && decide (t.kno ≤ 16777216)) = b3 from HQ3.out]
    go_wp2_with fail
    exact ⟨_, by simp only [upd, h18, h16]; rfl, hC, rfl, kP⟩
   ·simp only [cond_true] at h18
    go_wp2_with fail
    exact ⟨_, by simp only [upd, h18, h16]; rfl, hC, rfl, kP⟩
  ·have h19 : fx 19 = bif r2 then undef else .bool b3 := hd.1 rfl
   have h16 : fx 16 = .bool r2 := hd.2.1 rfl
   clear hd
   cases r2
   ·simp only [cond_false] at h19
    dsimp only
    rw [h16]
    refine wpList_unguard rfl ?_
    go_wp2_with fail
    exact ⟨_, by simp only [upd, h19, h16]; rfl, hC, rfl, kP⟩
   ·simp only [cond_true] at h19
    go_wp2_with fail
    exact ⟨_, by simp only [upd, h19, h16]; rfl, hC, rfl, kP⟩
  ·have h16 : fx 16 = .bool r2 := hd.1 rfl
   have h20 : fx 20 = bif r2 then undef else .bool (!b3) := hd.2.1 rfl
   clear hd
   cases r2
   ·simp only [cond_false] at h20
    go_wp2_with fail
    exact ⟨_, by simp only [upd, h16, h20]; rfl, hC, by rw [← HR3.out]; rfl, kP⟩
   ·simp only [cond_true] at h20
    go_wp2_with fail
    exact ⟨_, by simp only [upd, h16, h20]; rfl, hC, by rw [← HR3.out]; rfl, kP⟩
  ·have h21 : fx 21 = .bool r3 := hd.1 rfl
   clear hd
   go_wp2_with fail
   exact ⟨_, by simp only [upd, h21]; rfl, hC, rfl, kP⟩
  ·have h22 : fx 22 = .bool r3 := hd.1 rfl
   clear hd
   cases r3
   ·dsimp only
    rw [h22]
    refine wpList_unguard rfl ?_
    go_wp2_with fail
    exact ⟨_, by simp only [upd, h22]; rfl, hC, rfl, kP⟩
   ·go_wp2_with fail
    exact ⟨_, by simp only [upd, h22]; rfl, hC, rfl, kP⟩
  ·have h23 : fx 23 = bif r3 then undef else .pointer (some { block := w.heap.size, off := 4 }) := hd.1 rfl
   have h22 : fx 22 = .bool r3 := hd.2.1 rfl
   clear hd
   cases r3
   ·simp only [cond_false] at h23
    dsimp only
    rw [h22]
    refine wpList_unguard rfl ?_
    have hcc : w'.cell? ⟨w.heap.size, 4, none⟩ = some (.slice p.A p.n p.c) := by rw [cell_of_row _ _ _ _ _ _ (row_kept HRW.out hC)]; rfl
    go_wp2_with fail
    exact ⟨_, by simp only [upd, h23, h22]; rfl, hC, rfl, kP⟩
   ·simp only [cond_true] at h23
    go_wp2_with fail
    exact ⟨_, by simp only [upd, h23, h22]; rfl, hC, rfl, kP⟩
  ·have h24 : fx 24 = bif r3 then undef else .slice p.A p.n p.c := hd.1 rfl
   have h22 : fx 22 = .bool r3 := hd.2.1 rfl
   clear hd
   cases r3
   ·simp only [cond_false] at h24
    dsimp only
    rw [h22]
    refine wpList_unguard rfl ?_
    go_wp2_with fail
    exact ⟨_, by simp only [upd, h24, h22]; rfl, hC, rfl, kP⟩
   ·simp only [cond_true] at h24
    go_wp2_with fail
    exact ⟨_, by simp only [upd, h24, h22]; rfl, hC, rfl, kP⟩
  ·have h25 : fx 25 = bif r3 then undef else .int .i64 (p.n : Nat) := hd.1 rfl
   have h22 : fx 22 = .bool r3 := hd.2.1 rfl
   clear hd
   cases r3
   ·simp only [cond_false] at h25
    dsimp only
    rw [h22]
    refine wpList_unguard rfl ?_
    have d4 := HD4.out
    go_wp2_with fail
    exact ⟨_, by simp only [upd, h25, h22]; rfl, hC, rfl, kP⟩
   ·simp only [cond_true] at h25
    go_wp2_with fail
    exact ⟨_, by simp only [upd, h25, h22]; rfl, hC, rfl, kP⟩
  ·have h22 : fx 22 = .bool r3 := hd.1 rfl
   have h26 : fx 26 = bif r3 then undef else .bool (!b4) := hd.2.1 rfl
   clear hd
   cases r3
   ·simp only [cond_false] at h26
    go_wp2_with fail
    exact ⟨_, by simp only [upd, h22, h26]; rfl, hC, by rw [← HR4.out]; rfl, kP⟩
   ·simp only [cond_true] at h26
    go_wp2_with fail
    exact ⟨_, by simp only [upd, h22, h26]; rfl, hC, by rw [← HR4.out]; rfl, kP⟩
  ·have h27 : fx 27 = .bool r4 := hd.1 rfl
   clear hd
   go_wp2_with fail
   exact ⟨_, by simp only [upd, h27]; rfl, hC, rfl, kP⟩
  ·have h28 : fx 28 = .bool r4 := hd.2.1 rfl
   clear hd
   cases r4
   ·dsimp only
    rw [h28]
    refine wpList_unguard rfl ?_
    go_wp2_with fail
    refine (lines_any w').mono ?_
    rintro e w2 ⟨rfl, hq⟩
    go_wp2_with fail
    exact ⟨_, by simp only [upd, h28]; rfl, hC.trans (hq.mono hC.size), rfl, kP⟩
   ·go_wp2_with fail
    exact ⟨_, by simp only [upd, h28]; rfl, hC, rfl, kP⟩
  ·have h28 : fx 28 = .bool r4 := hd.1 rfl
   clear hd
   cases r4
   ·dsimp only
    rw [h28]
    refine wpList_unguard rfl ?_
    go_wp2_with fail
    exact ⟨_, by simp only [upd, h28]; rfl, hC, rfl, kP⟩
   ·go_wp2_with fail
    exact ⟨_, by simp only [upd, h28]; rfl, hC, rfl, kP⟩
  ·have h30 : fx 30 = bif r4 then undef else .pointer (some { block := w.heap.size, off := 4 }) := hd.1 rfl
   have h28 : fx 28 = .bool r4 := hd.2.1 rfl
   clear hd
   cases r4
   ·simp only [cond_false] at h30
    dsimp only
    rw [h28]
    refine wpList_unguard rfl ?_
    have hcc : w'.cell? ⟨w.heap.size, 4, none⟩ = some (.slice p.A p.n p.c) := by rw [cell_of_row _ _ _ _ _ _ (row_kept HRW.out hC)]; rfl
    go_wp2_with fail
    exact ⟨_, by simp only [upd, h30, h28]; rfl, hC, rfl, kP⟩
   ·simp only [cond_true] at h30
    go_wp2_with fail
    exact ⟨_, by simp only [upd, h30, h28]; rfl, hC, rfl, kP⟩
  ·have h29 : fx 29 = bif r4 then undef else .agg tabL := hd.1 rfl
   have h31 : fx 31 = bif r4 then undef else .slice p.A p.n p.c := hd.2.1 rfl
   have h28 : fx 28 = .bool r4 := hd.2.2.2.1 rfl
   clear hd
   cases r4
   ·simp only [cond_false] at h29 h31
    dsimp only
    rw [h28]
    refine wpList_unguard rfl ?_
    go_wp2_with fail
    refine (checkL t.ln p.A p.n p.c w' HM1.out (hid (HO1.out.ln.below hC))).mono ?_
    rintro e w2 ⟨rfl, hq⟩
    rw [HQ5.out]
    go_wp2_with fail
    exact ⟨_, by simp only [upd, h29, h31, h28]; rfl, hC.trans (hq.mono hC.size), rfl, kP⟩
   ·simp only [cond_true] at h29 h31
    go_wp2_with fail
    exact ⟨_, by simp only [upd, h29, h31, h28]; rfl, hC, rfl, kP⟩
  ·have h32 : fx 32 = bif r4 then undef else .bool b5 := hd.1 rfl
   have h28 : fx 28 = .bool r4 := hd.2.1 rfl
   clear hd
   cases r4
   ·simp only [cond_false] at h32
    dsimp only
    rw [h28]
    refine wpList_unguard rfl ?_
    go_wp2_with fail
    exact ⟨_, by simp only [upd, h32, h28]; rfl, hC, rfl, kP⟩
   ·simp only [cond_true] at h32
    go_wp2_with fail
    exact ⟨_, by simp only [upd, h32, h28]; rfl, hC, rfl, kP⟩
  ·have h28 : fx 28 = .bool r4 := hd.1 rfl
   have h33 : fx 33 = bif r4 then undef else .bool (!b5) := hd.2.1 rfl
   clear hd
   cases r4
   ·simp only [cond_false] at h33
    go_wp2_with fail
    exact ⟨_, by simp only [upd, h28, h33]; rfl, hC, by rw [← HR5.out]; rfl, kP⟩
   ·simp only [cond_true] at h33
    go_wp2_with fail
    exact ⟨_, by simp only [upd, h28, h33]; rfl, hC, by rw [← HR5.out]; rfl, kP⟩
  ·have h34 : fx 34 = .bool r5 := hd.1 rfl
   clear hd
   go_wp2_with fail
   exact ⟨_, by simp only [upd, h34]; rfl, hC, rfl, kP⟩
  ·have h35 : fx 35 = .bool r5 := hd.2.1 rfl
   clear hd
   cases r5
   ·dsimp only
    rw [h35]
    refine wpList_unguard rfl ?_
    go_wp2_with fail
    refine (claims_any w').mono ?_
    rintro e w2 ⟨rfl, hq⟩
    go_wp2_with fail
    exact ⟨_, by simp only [upd, h35]; rfl, hC.trans (hq.mono hC.size), rfl, kP⟩
   ·go_wp2_with fail
    exact ⟨_, by simp only [upd, h35]; rfl, hC, rfl, kP⟩
  ·have h35 : fx 35 = .bool r5 := hd.1 rfl
   clear hd
   cases r5
   ·dsimp only
    rw [h35]
    refine wpList_unguard rfl ?_
    go_wp2_with fail
    exact ⟨_, by simp only [upd, h35]; rfl, hC, rfl, kP⟩
   ·go_wp2_with fail
    exact ⟨_, by simp only [upd, h35]; rfl, hC, rfl, kP⟩
  ·have h37 : fx 37 = bif r5 then undef else .pointer (some { block := w.heap.size, off := 5 }) := hd.1 rfl
   have h35 : fx 35 = .bool r5 := hd.2.1 rfl
   clear hd
   cases r5
   ·simp only [cond_false] at h37
    dsimp only
    rw [h35]
    refine wpList_unguard rfl ?_
    have hcc : w'.cell? ⟨w.heap.size, 5, none⟩ = some (.slice p.A2 p.n2 p.c2) := by rw [cell_of_row _ _ _ _ _ _ (row_kept HRW.out hC)]; rfl
    go_wp2_with fail
    exact ⟨_, by simp only [upd, h37, h35]; rfl, hC, rfl, kP⟩
   ·simp only [cond_true] at h37
    go_wp2_with fail
    exact ⟨_, by simp only [upd, h37, h35]; rfl, hC, rfl, kP⟩
  ·have h36 : fx 36 = bif r5 then undef else .agg tabK := hd.1 rfl
   have h38 : fx 38 = bif r5 then undef else .slice p.A2 p.n2 p.c2 := hd.2.1 rfl
   have h35 : fx 35 = .bool r5 := hd.2.2.2.1 rfl
   clear hd
   cases r5
   ·simp only [cond_false] at h36 h38
    dsimp only
    rw [h35]
    refine wpList_unguard rfl ?_
    go_wp2_with fail
    refine (checkK t.cl p.A2 p.n2 p.c2 w' HM2.out (hid (HO1.out.cl.below hC))).mono ?_
    rintro e w2 ⟨rfl, hq⟩
    rw [HQ6.out]
    go_wp2_with fail
    exact ⟨_, by simp only [upd, h36, h38, h35]; rfl, hC.trans (hq.mono hC.size), rfl, kP⟩
   ·simp only [cond_true] at h36 h38
    go_wp2_with fail
    exact ⟨_, by simp only [upd, h36, h38, h35]; rfl, hC, rfl, kP⟩
  ·have h39 : fx 39 = bif r5 then undef else .bool b6 := hd.1 rfl
   have h35 : fx 35 = .bool r5 := hd.2.1 rfl
   clear hd
   cases r5
   ·simp only [cond_false] at h39
    dsimp only
    rw [h35]
    refine wpList_unguard rfl ?_
    go_wp2_with fail
    exact ⟨_, by simp only [upd, h39, h35]; rfl, hC, rfl, kP⟩
   ·simp only [cond_true] at h39
    go_wp2_with fail
    exact ⟨_, by simp only [upd, h39, h35]; rfl, hC, rfl, kP⟩
  ·have h35 : fx 35 = .bool r5 := hd.1 rfl
   have h40 : fx 40 = bif r5 then undef else .bool (!b6) := hd.2.1 rfl
   clear hd
   cases r5
   ·simp only [cond_false] at h40
    go_wp2_with fail
    exact ⟨_, by simp only [upd, h35, h40]; rfl, hC, by rw [← HR6.out]; rfl, kP⟩
   ·simp only [cond_true] at h40
    go_wp2_with fail
    exact ⟨_, by simp only [upd, h35, h40]; rfl, hC, by rw [← HR6.out]; rfl, kP⟩
 ·intro L fo w' hC hS
  have H41 := hid (hS 41 (by decide) rfl)
  have h41 : fo 41 = .bool r6 := H41.out
  rw [h41]
  have HBC := hid (HB0.out.trans (hC.mono HB0.out.size))
  clear hS hC h41 H41
  cases r6
  ·go_wp2_with fail
   go_ret
   exact ⟨by rw [HTR.out]; rfl, HBC.out⟩
  ·go_wp2_with fail
   go_ret
   exact ⟨by rw [HTR.out]; rfl, HBC.out⟩
end Go.Proofs.YtmfmgeapecapiaaGreatDoor
