/- sizar/disclose: salts; the leaf of a line. sizar/disclose: the leaf of a claim. sizar/disclose: leaves (lines). -/
import Derived.Test.YtmfmgeapecapiaaGreatDoorSS6
set_option maxHeartbeats 64000001
open Go.Lib (hid)
namespace Go.Proofs.YtmfmgeapecapiaaGreatDoor
open Go.RowKit SzSha SzTree
set_option linter.unusedVariables false
set_option maxRecDepth 100000
theorem rows_four (w : World) (X Y Z : Array Value) (s t u : Nat) (o : Obj) : Below w.heap.size w ((((w.alloc (.cells X s)).alloc (.cells Y t)).alloc (.cells Z u)).alloc o) ∧ ((((w.alloc (.cells X s)).alloc (.cells Y t)).alloc (.cells Z u)).alloc o).heap[w.heap.size]? = some (.cells X s (0, 0)) ∧ ((((w.alloc (.cells X s)).alloc (.cells Y t)).alloc (.cells Z u)).alloc o).heap[w.heap.size + 1]? = some (.cells Y t (0, 0)) ∧ ((((w.alloc (.cells X s)).alloc (.cells Y t)).alloc (.cells Z u)).alloc o).heap[w.heap.size + 1 + 1]? = some (.cells Z u (0, 0)) ∧ ((((w.alloc (.cells X s)).alloc (.cells Y t)).alloc (.cells Z u)).alloc o).heap[w.heap.size + 1 + 1 + 1]? = some o := by
 have h1 := heap_alloc_new (w.alloc (.cells X s)) (.cells Y t)
 have h2 := heap_alloc_new ((w.alloc (.cells X s)).alloc (.cells Y t)) (.cells Z u)
 have h3 := heap_alloc_new (((w.alloc (.cells X s)).alloc (.cells Y t)).alloc (.cells Z u)) o
 simp only [World.size_alloc] at h1 h2 h3
 exact ⟨((((Below.refl _ w).alloc (Nat.le_refl _) _).alloc (by simp) _).alloc (by simp; omega) _).alloc (by simp; omega) _, by rw [Below.heap_alloc _ _ _ (by simp; omega), Below.heap_alloc _ _ _ (by simp; omega), Below.heap_alloc _ _ _ (by simp)]; exact heap_alloc_new w _, by rw [Below.heap_alloc _ _ _ (by simp), Below.heap_alloc _ _ _ (by simp)]; exact h1, by rw [Below.heap_alloc _ _ _ (by simp)]; exact h2, h3⟩
theorem rows_three (w : World) (X Y : Array Value) (s t : Nat) (o : Obj) : Below w.heap.size w (((w.alloc (.cells X s)).alloc (.cells Y t)).alloc o) ∧ (((w.alloc (.cells X s)).alloc (.cells Y t)).alloc o).heap[w.heap.size]? = some (.cells X s (0, 0)) ∧ (((w.alloc (.cells X s)).alloc (.cells Y t)).alloc o).heap[w.heap.size + 1]? = some (.cells Y t (0, 0)) ∧ (((w.alloc (.cells X s)).alloc (.cells Y t)).alloc o).heap[w.heap.size + 1 + 1]? = some o := by
 have h1 := heap_alloc_new (w.alloc (.cells X s)) (.cells Y t)
 have h2 := heap_alloc_new ((w.alloc (.cells X s)).alloc (.cells Y t)) o
 simp only [World.size_alloc] at h1 h2
 exact ⟨(((Below.refl _ w).alloc (Nat.le_refl _) _).alloc (by simp) _).alloc (by simp; omega) _, by rw [Below.heap_alloc _ _ _ (by simp; omega), Below.heap_alloc _ _ _ (by simp)]; exact heap_alloc_new w _, by rw [Below.heap_alloc _ _ _ (by simp)]; exact h1, h2⟩
theorem saltN_ok (l : List Nat) (k z : Int) : DgOk (saltN l k z) := ⟨saltN_length l k z, tagged_bytes _ _⟩
theorem lnC_info3 (x : Ln) : (Tryz.prog.info? 45).map (·.size) = some (lnC x).toArray.size := by show _ = some 5; kernel_rfl
theorem clC_info3 (x : Cl) : (Tryz.prog.info? 56).map (·.size) = some (clC x).toArray.size := by show _ = some 3; kernel_rfl
def wSaL (W0 : World) (bt : Nat) (br : Nat) (base : List Nat) (x : Ln) : Nat → Value → World → Prop
 | 0, fv, _ => fv = dgV base
 | 1, fv, _ => fv = .pointer (some { block := bt, off := 0 })
 | 2, fv, _ => fv = .int .i64 1
 | 3, fv, _ => fv = .pointer (some { block := bt, off := 2 })
 | 4, fv, _ => fv = .func (.func 94) #[] #[]
 | 5, fv, _ => fv = lnV x
 | 6, fv, _ => fv = .int .i64 (nLn x)
 | 7, fv, _ => fv = dgV (saltN base 1 (nLn x))
 | 8, fv, fw => fw.heap[br]? = some (.cells (dgC (saltN base 1 (nLn x))).toArray 25 (0, 0)) ∧ Below W0.heap.size W0 fw
 | _, _, _ => True
theorem wSaL_below {W0 : World} {bt : Nat} {br : Nat} {base : List Nat} {x : Ln} {w w' : World} (hb : Below w.heap.size w w') : ∀ j v, wSaL W0 bt br base x j v w → wSaL W0 bt br base x j v w'
 | 0, v, h => h
 | 1, v, h => h
 | 2, v, h => h
 | 3, v, h => h
 | 4, v, h => h
 | 5, v, h => h
 | 6, v, h => h
 | 7, v, h => h
 | 8, v, h => ⟨row_kept h.1 hb, h.2.trans (hb.mono h.2.size)⟩
 | n + 9, v, h => trivial
theorem wSaL_pure {W0 : World} {bt : Nat} {br : Nat} {base : List Nat} {x : Ln} {w w' : World} : ∀ j v, j ≠ 8 → wSaL W0 bt br base x j v w → wSaL W0 bt br base x j v w'
 | 0, v, _, h => h
 | 1, v, _, h => h
 | 2, v, _, h => h
 | 3, v, _, h => h
 | 4, v, _, h => h
 | 5, v, _, h => h
 | 6, v, _, h => h
 | 7, v, _, h => h
 | 8, v, hh, _ => absurd rfl hh
 | n + 9, v, _, h => trivial
theorem saltL (base : List Nat) (x : Ln) (w : World) (hba : Hid (DgOk base)) (hT : Hid (Tabs w)) :
  Calls Tryz.prog 43 #[.agg tabL, dgV base, lnV x] w fun e w' => e = .returned (dgV (saltN base 1 (nLn x))) ∧ Below w.heap.size w w' := by
 obtain ⟨t1, t2, t3, t4, t5⟩ := rows_four w tabL (dgC base).toArray (lnC x).toArray 86 25 45 (.cells (dgC zeroD).toArray 25)
 rw [zeroD_cells] at t1 t2 t3 t4 t5
 have HB0 := hid t1
 have HT0 := hid t2
 have HRB := hid t3
 have HRX := hid t4
 have HRR := hid t5
 have hT1 := hid (hT.out.below t1)
 have HIB := hid (dgC_info hba.out)
 have HIX := hid (lnC_info3 x)
 have HBD := hid (noL_bd x.c0 x.c1)
 have HS1 := hid (dgC_info (saltN_ok base 1 (nLn x)))
 have HS2 := hid (dgC_size (saltN_ok base 1 (nLn x)))
 clear t1 t2 t3 t4 t5
 rw [dgV_agg base, show lnV x = .agg (lnC x).toArray from rfl]
 go_enter Tryz.func43, Tryz.ntmps43
 go_wp2_with fail
 generalize ((((w.alloc (.cells tabL 86)).alloc (.cells (dgC base).toArray 25)).alloc (.cells (lnC x).toArray 45)).alloc (.cells #[.int .u8 0, .int .u8 0, .int .u8 0, .int .u8 0, .int .u8 0, .int .u8 0, .int .u8 0, .int .u8 0, .int .u8 0, .int .u8 0, .int .u8 0, .int .u8 0, .int .u8 0, .int .u8 0, .int .u8 0, .int .u8 0, .int .u8 0, .int .u8 0, .int .u8 0, .int .u8 0, .int .u8 0, .int .u8 0, .int .u8 0, .int .u8 0, .int .u8 0, .int .u8 0, .int .u8 0, .int .u8 0, .int .u8 0, .int .u8 0, .int .u8 0, .int .u8 0] 25)) = W1 at *
 refine region_flow4 (by kernel_rfl) (by kernel_rfl) (fun i => Nat.beq i 8) (fun i => i) (by kernel_rfl) (fun fx => #[.agg tabL, .agg (dgC base).toArray, .agg (lnC x).toArray, .pointer (some { block := w.heap.size, off := 0 }), .pointer (some { block := w.heap.size + 1, off := 0 }), .pointer (some { block := w.heap.size + 1 + 1, off := 0 }), .pointer (some { block := w.heap.size + 1 + 1 + 1, off := 0 }), fx 0, fx 1, fx 2, fx 3, fx 4, fx 5, fx 6, fx 7]) (fun _ => undef) (fun L fx w' => (L 8 = false → Below W1.heap.size W1 w')) (fun fi fv _ fw => wSaL w w.heap.size (w.heap.size + 1 + 1 + 1) base x fi fv fw) (fun _ => (Below.refl _ _).drew) ?_ ?_
 ·refine ⟨?_, ?_, ?_, ?_, ?_, ?_, ?_, ?_, ?_, trivial⟩
  all_goals intro L fx w' hC hi hcl hdn hd
  ·have hnd : L 8 = false := nQ hi (fun h => hcl 8 0 h (by kernel_rfl))
   have hrow := row_kept HRB.out (hC hnd)
   refine wpList_load_row rfl 25 (.tmp 4) rfl (w.heap.size + 1) rfl 25 _ (0, 0) _ hrow Tryz.underlying25 rfl HIB.out ?_
   clear hd
   go_wp2_with fail
   exact ⟨_, rfl, fun _ => hC hnd, rfl, kP⟩
  ·have hnd : L 8 = false := nQ hi (fun h => hcl 8 1 h (by kernel_rfl))
   go_wp2_with fail
   exact ⟨_, rfl, (fun _ => hC hnd), rfl, kP⟩
  ·have h1 : fx 1 = .pointer (some { block := w.heap.size, off := 0 }) := hd.1 rfl
   have hnd : L 8 = false := nQ hi (fun h => hcl 8 2 h (by kernel_rfl))
   have hcc : w'.cell? ⟨w.heap.size, 0, none⟩ = some (Value.int .i64 1) := by rw [cell_of_row _ _ _ _ _ _ (row_kept HT0.out (hC hnd))]; rfl
   go_wp2_with fail
   exact ⟨_, by simp only [upd, h1]; rfl, (fun _ => hC hnd), rfl, kP⟩
  ·have hnd : L 8 = false := nQ hi (fun h => hcl 8 3 h (by kernel_rfl))
   go_wp2_with fail
   exact ⟨_, rfl, (fun _ => hC hnd), rfl, kP⟩
  ·have h3 : fx 3 = .pointer (some { block := w.heap.size, off := 2 }) := hd.1 rfl
   have hnd : L 8 = false := nQ hi (fun h => hcl 8 4 h (by kernel_rfl))
   have hcc : w'.cell? ⟨w.heap.size, 2, none⟩ = some (Value.func (.func 94) #[] #[]) := by rw [cell_of_row _ _ _ _ _ _ (row_kept HT0.out (hC hnd))]; rfl
   go_wp2_with fail
   exact ⟨_, by simp only [upd, h3]; rfl, (fun _ => hC hnd), rfl, kP⟩
  ·have hnd : L 8 = false := nQ hi (fun h => hcl 8 5 h (by kernel_rfl))
   have hrow := row_kept HRX.out (hC hnd)
   refine wpList_load_row rfl 45 (.tmp 5) rfl (w.heap.size + 1 + 1) rfl 45 _ (0, 0) _ hrow Tryz.underlying45 rfl HIX.out ?_
   clear hd
   go_wp2_with fail
   exact ⟨_, rfl, fun _ => hC hnd, rfl, kP⟩
  ·have h4 : fx 4 = .func (.func 94) #[] #[] := hd.1 rfl
   have h5 : fx 5 = lnV x := hd.2.1 rfl
   have hnd : L 8 = false := nQ hi (fun h => hcl 8 6 h (by kernel_rfl))
   have hb12 := hC hnd
   go_wp2_with fail
   refine (nline_x x w').mono ?_
   rintro e w2 ⟨rfl, hq⟩
   go_wp2_with fail
   exact ⟨_, by simp only [upd, h4, h5]; rfl, fun _ => hb12.trans (hq.mono hb12.size), rfl, fun j v t _ _ h => wSaL_below hq j v h⟩
  ·have h0 : fx 0 = dgV base := hd.1 rfl
   have h2 : fx 2 = .int .i64 1 := hd.2.1 rfl
   have h6 : fx 6 = .int .i64 (nLn x) := hd.2.2.1 rfl
   have hnd : L 8 = false := nQ hi (fun h => hcl 8 7 h (by kernel_rfl))
   have hb12 := hC hnd
   go_wp2_with fail
   refine (salt_any base 1 (nLn x) w' (hid hba.out.len) (hid hba.out.bytes) (by decide) (by decide) HBD.out.1 HBD.out.2 (hid (hT1.out.below hb12))).mono ?_
   rintro e w2 ⟨rfl, hq⟩
   go_wp2_with fail
   exact ⟨_, by simp only [upd, h0, h2, h6]; rfl, fun _ => hb12.trans (hq.mono hb12.size), rfl, fun j v t _ _ h => wSaL_below hq j v h⟩
  ·have h7 : fx 7 = dgV (saltN base 1 (nLn x)) := hd.1 rfl
   have hb21 := hC hi
   have hrow := row_kept HRR.out hb21
   refine wpList_store_row rfl 25 (.tmp 6) (.tmp 14) rfl (w.heap.size + 1 + 1 + 1) (dgC (saltN base 1 (nLn x))).toArray rfl h7 25 _ hrow HS1.out HS2.out (dgC_one _) ?_
   clear hd
   go_wp2_with fail
   refine ⟨undef, by rw [← h7]; rfl, fun h => (updB_self h).elim, ⟨setRow_heap _ _ _ _ _ _ hrow, below_setRow (HB0.out.trans (hb21.mono HB0.out.size)) (by omega) _⟩, fun j v t hj hu h => ?_⟩
   refine wSaL_pure j v ?_ h
   intro e; subst e
   rw [hi] at hj; cases hj
 ·intro L fx w' hC hS
  have H8 := hid (hS 8 (by decide) rfl)
  clear hS hC
  go_wp2_with fail
  refine bodyPost_ret (results_cell_row rfl _ _ (w.heap.size + 1 + 1 + 1) 25 _ (0, 0) _ rfl H8.out.1 Tryz.underlying25 rfl HS1.out) rfl ?_
  exact ⟨rfl, H8.out.2⟩
def wSaK (W0 : World) (bt : Nat) (br : Nat) (base : List Nat) (x : Cl) : Nat → Value → World → Prop
 | 0, fv, _ => fv = dgV base
 | 1, fv, _ => fv = .pointer (some { block := bt, off := 0 })
 | 2, fv, _ => fv = .int .i64 2
 | 3, fv, _ => fv = .pointer (some { block := bt, off := 2 })
 | 4, fv, _ => fv = .func (.func 104) #[] #[]
 | 5, fv, _ => fv = clV x
 | 6, fv, _ => fv = .int .i64 (nCl x)
 | 7, fv, _ => fv = dgV (saltN base 2 (nCl x))
 | 8, fv, fw => fw.heap[br]? = some (.cells (dgC (saltN base 2 (nCl x))).toArray 25 (0, 0)) ∧ Below W0.heap.size W0 fw
 | _, _, _ => True
theorem wSaK_below {W0 : World} {bt : Nat} {br : Nat} {base : List Nat} {x : Cl} {w w' : World} (hb : Below w.heap.size w w') : ∀ j v, wSaK W0 bt br base x j v w → wSaK W0 bt br base x j v w'
 | 0, v, h => h
 | 1, v, h => h
 | 2, v, h => h
 | 3, v, h => h
 | 4, v, h => h
 | 5, v, h => h
 | 6, v, h => h
 | 7, v, h => h
 | 8, v, h => ⟨row_kept h.1 hb, h.2.trans (hb.mono h.2.size)⟩
 | n + 9, v, h => trivial
theorem wSaK_pure {W0 : World} {bt : Nat} {br : Nat} {base : List Nat} {x : Cl} {w w' : World} : ∀ j v, j ≠ 8 → wSaK W0 bt br base x j v w → wSaK W0 bt br base x j v w'
 | 0, v, _, h => h
 | 1, v, _, h => h
 | 2, v, _, h => h
 | 3, v, _, h => h
 | 4, v, _, h => h
 | 5, v, _, h => h
 | 6, v, _, h => h
 | 7, v, _, h => h
 | 8, v, hh, _ => absurd rfl hh
 | n + 9, v, _, h => trivial
theorem saltK (base : List Nat) (x : Cl) (w : World) (hba : Hid (DgOk base)) (hT : Hid (Tabs w)) :
  Calls Tryz.prog 108 #[.agg tabK, dgV base, clV x] w fun e w' => e = .returned (dgV (saltN base 2 (nCl x))) ∧ Below w.heap.size w w' := by
 obtain ⟨t1, t2, t3, t4, t5⟩ := rows_four w tabK (dgC base).toArray (clC x).toArray 95 25 56 (.cells (dgC zeroD).toArray 25)
 rw [zeroD_cells] at t1 t2 t3 t4 t5
 have HB0 := hid t1
 have HT0 := hid t2
 have HRB := hid t3
 have HRX := hid t4
 have HRR := hid t5
 have hT1 := hid (hT.out.below t1)
 have HIB := hid (dgC_info hba.out)
 have HIX := hid (clC_info3 x)
 have HBD := hid (noK_bd x.p x.r)
 have HS1 := hid (dgC_info (saltN_ok base 2 (nCl x)))
 have HS2 := hid (dgC_size (saltN_ok base 2 (nCl x)))
 clear t1 t2 t3 t4 t5
 rw [dgV_agg base, show clV x = .agg (clC x).toArray from rfl]
 go_enter Tryz.func108, Tryz.ntmps108
 go_wp2_with fail
 generalize ((((w.alloc (.cells tabK 95)).alloc (.cells (dgC base).toArray 25)).alloc (.cells (clC x).toArray 56)).alloc (.cells #[.int .u8 0, .int .u8 0, .int .u8 0, .int .u8 0, .int .u8 0, .int .u8 0, .int .u8 0, .int .u8 0, .int .u8 0, .int .u8 0, .int .u8 0, .int .u8 0, .int .u8 0, .int .u8 0, .int .u8 0, .int .u8 0, .int .u8 0, .int .u8 0, .int .u8 0, .int .u8 0, .int .u8 0, .int .u8 0, .int .u8 0, .int .u8 0, .int .u8 0, .int .u8 0, .int .u8 0, .int .u8 0, .int .u8 0, .int .u8 0, .int .u8 0, .int .u8 0] 25)) = W1 at *
 refine region_flow4 (by kernel_rfl) (by kernel_rfl) (fun i => Nat.beq i 8) (fun i => i) (by kernel_rfl) (fun fx => #[.agg tabK, .agg (dgC base).toArray, .agg (clC x).toArray, .pointer (some { block := w.heap.size, off := 0 }), .pointer (some { block := w.heap.size + 1, off := 0 }), .pointer (some { block := w.heap.size + 1 + 1, off := 0 }), .pointer (some { block := w.heap.size + 1 + 1 + 1, off := 0 }), fx 0, fx 1, fx 2, fx 3, fx 4, fx 5, fx 6, fx 7]) (fun _ => undef) (fun L fx w' => (L 8 = false → Below W1.heap.size W1 w')) (fun fi fv _ fw => wSaK w w.heap.size (w.heap.size + 1 + 1 + 1) base x fi fv fw) (fun _ => (Below.refl _ _).drew) ?_ ?_
 ·refine ⟨?_, ?_, ?_, ?_, ?_, ?_, ?_, ?_, ?_, trivial⟩
  all_goals intro L fx w' hC hi hcl hdn hd
  ·have hnd : L 8 = false := nQ hi (fun h => hcl 8 0 h (by kernel_rfl))
   have hrow := row_kept HRB.out (hC hnd)
   refine wpList_load_row rfl 25 (.tmp 4) rfl (w.heap.size + 1) rfl 25 _ (0, 0) _ hrow Tryz.underlying25 rfl HIB.out ?_
   clear hd
   go_wp2_with fail
   exact ⟨_, rfl, fun _ => hC hnd, rfl, kP⟩
  ·have hnd : L 8 = false := nQ hi (fun h => hcl 8 1 h (by kernel_rfl))
   go_wp2_with fail
   exact ⟨_, rfl, (fun _ => hC hnd), rfl, kP⟩
  ·have h1 : fx 1 = .pointer (some { block := w.heap.size, off := 0 }) := hd.1 rfl
   have hnd : L 8 = false := nQ hi (fun h => hcl 8 2 h (by kernel_rfl))
   have hcc : w'.cell? ⟨w.heap.size, 0, none⟩ = some (Value.int .i64 2) := by rw [cell_of_row _ _ _ _ _ _ (row_kept HT0.out (hC hnd))]; rfl
   go_wp2_with fail
   exact ⟨_, by simp only [upd, h1]; rfl, (fun _ => hC hnd), rfl, kP⟩
  ·have hnd : L 8 = false := nQ hi (fun h => hcl 8 3 h (by kernel_rfl))
   go_wp2_with fail
   exact ⟨_, rfl, (fun _ => hC hnd), rfl, kP⟩
  ·have h3 : fx 3 = .pointer (some { block := w.heap.size, off := 2 }) := hd.1 rfl
   have hnd : L 8 = false := nQ hi (fun h => hcl 8 4 h (by kernel_rfl))
   have hcc : w'.cell? ⟨w.heap.size, 2, none⟩ = some (Value.func (.func 104) #[] #[]) := by rw [cell_of_row _ _ _ _ _ _ (row_kept HT0.out (hC hnd))]; rfl
   go_wp2_with fail
   exact ⟨_, by simp only [upd, h3]; rfl, (fun _ => hC hnd), rfl, kP⟩
  ·have hnd : L 8 = false := nQ hi (fun h => hcl 8 5 h (by kernel_rfl))
   have hrow := row_kept HRX.out (hC hnd)
   refine wpList_load_row rfl 56 (.tmp 5) rfl (w.heap.size + 1 + 1) rfl 56 _ (0, 0) _ hrow Tryz.underlying56 rfl HIX.out ?_
   clear hd
   go_wp2_with fail
   exact ⟨_, rfl, fun _ => hC hnd, rfl, kP⟩
  ·have h4 : fx 4 = .func (.func 104) #[] #[] := hd.1 rfl
   have h5 : fx 5 = clV x := hd.2.1 rfl
   have hnd : L 8 = false := nQ hi (fun h => hcl 8 6 h (by kernel_rfl))
   have hb12 := hC hnd
   go_wp2_with fail
   refine (nclaim_x x w').mono ?_
   rintro e w2 ⟨rfl, hq⟩
   go_wp2_with fail
   exact ⟨_, by simp only [upd, h4, h5]; rfl, fun _ => hb12.trans (hq.mono hb12.size), rfl, fun j v t _ _ h => wSaK_below hq j v h⟩
  ·have h0 : fx 0 = dgV base := hd.1 rfl
   have h2 : fx 2 = .int .i64 2 := hd.2.1 rfl
   have h6 : fx 6 = .int .i64 (nCl x) := hd.2.2.1 rfl
   have hnd : L 8 = false := nQ hi (fun h => hcl 8 7 h (by kernel_rfl))
   have hb12 := hC hnd
   go_wp2_with fail
   refine (salt_any base 2 (nCl x) w' (hid hba.out.len) (hid hba.out.bytes) (by decide) (by decide) HBD.out.1 HBD.out.2 (hid (hT1.out.below hb12))).mono ?_
   rintro e w2 ⟨rfl, hq⟩
   go_wp2_with fail
   exact ⟨_, by simp only [upd, h0, h2, h6]; rfl, fun _ => hb12.trans (hq.mono hb12.size), rfl, fun j v t _ _ h => wSaK_below hq j v h⟩
  ·have h7 : fx 7 = dgV (saltN base 2 (nCl x)) := hd.1 rfl
   have hb21 := hC hi
   have hrow := row_kept HRR.out hb21
   refine wpList_store_row rfl 25 (.tmp 6) (.tmp 14) rfl (w.heap.size + 1 + 1 + 1) (dgC (saltN base 2 (nCl x))).toArray rfl h7 25 _ hrow HS1.out HS2.out (dgC_one _) ?_
   clear hd
   go_wp2_with fail
   refine ⟨undef, by rw [← h7]; rfl, fun h => (updB_self h).elim, ⟨setRow_heap _ _ _ _ _ _ hrow, below_setRow (HB0.out.trans (hb21.mono HB0.out.size)) (by omega) _⟩, fun j v t hj hu h => ?_⟩
   refine wSaK_pure j v ?_ h
   intro e; subst e
   rw [hi] at hj; cases hj
 ·intro L fx w' hC hS
  have H8 := hid (hS 8 (by decide) rfl)
  clear hS hC
  go_wp2_with fail
  refine bodyPost_ret (results_cell_row rfl _ _ (w.heap.size + 1 + 1 + 1) 25 _ (0, 0) _ rfl H8.out.1 Tryz.underlying25 rfl HS1.out) rfl ?_
  exact ⟨rfl, H8.out.2⟩
theorem size34d {n : Nd} (h : NdOk n) : (Tryz.prog.info? 39).map (·.size) = some (ndC n).toArray.size := by rw [size34 h]; simp
theorem leafR_okL (x : Ln) (l : List Nat) : NdOk (leafR x.c0 x.c1 x.c2 x.c3 x.c4 l) := by
 unfold leafR
 split
 ·next h => exact leafN_ok l h
 ·exact zeroN_ok
/-- the leaf's digest of a line, of a claim -/
def lfL (x : Ln) (l : List Nat) : List Nat := (leafR x.c0 x.c1 x.c2 x.c3 x.c4 l).d
theorem lfL_ok (x : Ln) (l : List Nat) : DgOk (lfL x l) := ⟨(leafR_okL x l).len, (leafR_okL x l).bytes⟩
theorem lfL_rd {w : World} {g : Nat} {x : Ln} {l : List Nat} {t : Nat} (h : w.heap[g]? = some (.cells (ndC (leafR x.c0 x.c1 x.c2 x.c3 x.c4 l)).toArray t (0, 0))) : w.rangeAt g 0 (dgC (lfL x l)) := fun j v hj => by
 refine range_row h j v ?_
 have : j < (dgC (lfL x l)).length := (List.getElem?_eq_some_iff.1 hj).1
 rw [ndC, List.getElem?_append_left (by simpa [dgC, lfL] using this)]
 exact hj
theorem leafL (x : Ln) (l : List Nat) (w : World) (hd : Hid (DgOk l)) (hT : Hid (Tabs w)) :
  Calls Tryz.prog 95 #[lnV x, dgV l] w fun e w' => e = .returned (dgV (lfL x l)) ∧ Below w.heap.size w w' := by
 obtain ⟨t1, t2, t3, t4⟩ := rows_three w (lnC x).toArray (dgC l).toArray 45 25 (.cells (dgC zeroD).toArray 25)
 rw [zeroD_cells] at t1 t2 t3 t4
 have HB0 := hid t1
 have HRX := hid t2
 have HRL := hid t3
 have HRR := hid t4
 have hT1 := hid (hT.out.below t1)
 have HIL := hid (dgC_info hd.out)
 have HIX := hid (lnC_info3 x)
 have HOK := hid (leafR_okL x l)
 have HS1 := hid (dgC_info (lfL_ok x l))
 have HS2 := hid (dgC_size (lfL_ok x l))
 have HS3 := hid (dgC_infoL (lfL_ok x l))
 have HN1 := hid (size34d (leafR_okL x l))
 have HN2 := hid (show 34 = (ndC (leafR x.c0 x.c1 x.c2 x.c3 x.c4 l)).toArray.size from by simp [ndC_length (leafR_okL x l)])
 clear t1 t2 t3 t4
 rw [dgV_agg l, show lnV x = .agg (lnC x).toArray from rfl]
 go_enter Tryz.func95, Tryz.ntmps95
 go_wp2_with (first | (refine wpList_load_row rfl 45 (.tmp 2) rfl w.heap.size rfl 45 _ (0, 0) _ HRX.out Tryz.underlying45 rfl HIX.out ?_) | (refine wpList_load_row rfl 25 (.tmp 3) rfl (w.heap.size + 1) rfl 25 _ (0, 0) _ HRL.out Tryz.underlying25 rfl HIL.out ?_))
 rw [← dgV_agg l, show Value.agg (lnC x).toArray = .agg #[.int .i64 x.c0, .int .i64 x.c1, .int .i64 x.c2, .int .i64 x.c3, .int .i64 x.c4] from rfl]
 refine (leaf_any x.c0 x.c1 x.c2 x.c3 x.c4 l _ (hid hd.out.len) (hid hd.out.bytes) hT1).mono ?_
 rintro e w2 ⟨rfl, hq⟩
 have HB2 := hid (HB0.out.trans (hq.mono HB0.out.size))
 have HR2 := hid (row_kept HRR.out hq)
 clear hq
 obtain ⟨W4, HW4, hw4, hb4⟩ := lay_row w2 39 #[.int .u8 0, .int .u8 0, .int .u8 0, .int .u8 0, .int .u8 0, .int .u8 0, .int .u8 0, .int .u8 0, .int .u8 0, .int .u8 0, .int .u8 0, .int .u8 0, .int .u8 0, .int .u8 0, .int .u8 0, .int .u8 0, .int .u8 0, .int .u8 0, .int .u8 0, .int .u8 0, .int .u8 0, .int .u8 0, .int .u8 0, .int .u8 0, .int .u8 0, .int .u8 0, .int .u8 0, .int .u8 0, .int .u8 0, .int .u8 0, .int .u8 0, .int .u8 0, .int .i64 0, .int .i64 0] (ndC (leafR x.c0 x.c1 x.c2 x.c3 x.c4 l)).toArray
 have HRD := hid (lfL_rd hw4)
 have HR4 := hid (row_kept HR2.out hb4)
 have HB4 := hid (HB2.out.trans (hb4.mono HB2.out.size))
 clear hw4 hb4
 rw [show ndV (leafR x.c0 x.c1 x.c2 x.c3 x.c4 l) = .agg (ndC (leafR x.c0 x.c1 x.c2 x.c3 x.c4 l)).toArray from rfl]
 go_wp2_with (first | (refine wpList_store_row rfl 39 (.tmp 5) (.tmp 11) rfl w2.heap.size (ndC (leafR x.c0 x.c1 x.c2 x.c3 x.c4 l)).toArray rfl rfl 39 _ (heap_alloc_new w2 _) HN1.out HN2.out (ndC_one _) ?_; rw [HW4.out]) | (with_reducible refine wpList_load_mid rfl 25 (.tmp 13) rfl w2.heap.size 0 rfl (dgC (lfL x l)) _ HRD.out Tryz.underlying25 rfl HS3.out ?_) | (refine wpList_store_row rfl 25 (.tmp 4) (.tmp 14) rfl (w.heap.size + 1 + 1) (dgC (lfL x l)).toArray rfl rfl 25 _ HR4.out HS1.out HS2.out (dgC_one _) ?_))
 refine bodyPost_ret (results_cell_row rfl _ _ (w.heap.size + 1 + 1) 25 _ (0, 0) _ rfl (setRow_heap W4 (w.heap.size + 1 + 1) _ _ _ _ HR4.out) Tryz.underlying25 rfl HS1.out) rfl ?_
 exact ⟨rfl, below_setRow HB4.out (by omega) _⟩
def claimT : ByteArray := ⟨#[99, 108, 97, 105, 109]⟩
/-- the leaf of a claim -/
def lfK (x : Cl) (l : List Nat) : List Nat := hashT (strL claimT) l [x.p, x.r, if x.m then 1 else 0]
theorem lfK_ok (x : Cl) (l : List Nat) : DgOk (lfK x l) := ⟨tagged_length _ _, tagged_bytes _ _⟩
theorem encI_pos (zs : List Int) : 0 < (encI zs).length := by unfold encI; simp
theorem leafK_y (x : Cl) (l : List Nat) (w : World) (hm : Hid (x.m = true)) (hx : Hid (ClOk x)) (hd : Hid (DgOk l)) (hT : Hid (Tabs w)) :
  Calls Tryz.prog 105 #[clV x, dgV l] w fun e w' => e = .returned (dgV (lfK x l)) ∧ Below w.heap.size w w' := by
 obtain ⟨zs, HZS⟩ : ∃ zs : List Int, Hid ([x.p, x.r, 1] = zs) := ⟨_, hid rfl⟩
 have HLF : Hid (dgV (hashT (strL claimT) l zs) = dgV (lfK x l)) := hid (by unfold lfK; rw [hm.out, ← HZS.out]; rfl)
 have HM : Hid (zs.length = 3) := hid (by rw [← HZS.out]; rfl)
 have hz : Hid (∀ z ∈ zs, -9223372036854775808 ≤ z ∧ z ≤ 9223372036854775807) := hid (fun z hz => by
  have h0 := hx.out.b0; have h1 := hx.out.b1
  unfold I64 at h0 h1
  rw [← HZS.out] at hz
  simp only [List.mem_cons, List.not_mem_nil, or_false] at hz
  rcases hz with rfl | rfl | rfl <;> omega)
 obtain ⟨s1, s2, s3, s4⟩ := rows_three w (clC x).toArray (dgC l).toArray 56 25 (.cells #[.int .u8 0, .int .u8 0, .int .u8 0, .int .u8 0, .int .u8 0, .int .u8 0, .int .u8 0, .int .u8 0, .int .u8 0, .int .u8 0, .int .u8 0, .int .u8 0, .int .u8 0, .int .u8 0, .int .u8 0, .int .u8 0, .int .u8 0, .int .u8 0, .int .u8 0, .int .u8 0, .int .u8 0, .int .u8 0, .int .u8 0, .int .u8 0, .int .u8 0, .int .u8 0, .int .u8 0, .int .u8 0, .int .u8 0, .int .u8 0, .int .u8 0, .int .u8 0] 25)
 obtain ⟨t1, t2, t3, t4, t5⟩ := rows_four w (clC x).toArray (dgC l).toArray #[.int .u8 0, .int .u8 0, .int .u8 0, .int .u8 0, .int .u8 0, .int .u8 0, .int .u8 0, .int .u8 0, .int .u8 0, .int .u8 0, .int .u8 0, .int .u8 0, .int .u8 0, .int .u8 0, .int .u8 0, .int .u8 0, .int .u8 0, .int .u8 0, .int .u8 0, .int .u8 0, .int .u8 0, .int .u8 0, .int .u8 0, .int .u8 0, .int .u8 0, .int .u8 0, .int .u8 0, .int .u8 0, .int .u8 0, .int .u8 0, .int .u8 0, .int .u8 0] 56 25 25 (.cells #[.int .i64 3, .int .i64 0, .string ⟨#[]⟩, .slice none 0 0] 148)
 have hb5 := (Below.refl _ ((((w.alloc (.cells (clC x).toArray 56)).alloc (.cells (dgC l).toArray 25)).alloc (.cells #[.int .u8 0, .int .u8 0, .int .u8 0, .int .u8 0, .int .u8 0, .int .u8 0, .int .u8 0, .int .u8 0, .int .u8 0, .int .u8 0, .int .u8 0, .int .u8 0, .int .u8 0, .int .u8 0, .int .u8 0, .int .u8 0, .int .u8 0, .int .u8 0, .int .u8 0, .int .u8 0, .int .u8 0, .int .u8 0, .int .u8 0, .int .u8 0, .int .u8 0, .int .u8 0, .int .u8 0, .int .u8 0, .int .u8 0, .int .u8 0, .int .u8 0, .int .u8 0] 25)).alloc (.cells #[.int .i64 3, .int .i64 0, .string ⟨#[]⟩, .slice none 0 0] 148))).alloc (Nat.le_refl _) (.cells #[.int .i64 x.p, .int .i64 x.r, .int .i64 1] 3)
 have hn5 := heap_alloc_new ((((w.alloc (.cells (clC x).toArray 56)).alloc (.cells (dgC l).toArray 25)).alloc (.cells #[.int .u8 0, .int .u8 0, .int .u8 0, .int .u8 0, .int .u8 0, .int .u8 0, .int .u8 0, .int .u8 0, .int .u8 0, .int .u8 0, .int .u8 0, .int .u8 0, .int .u8 0, .int .u8 0, .int .u8 0, .int .u8 0, .int .u8 0, .int .u8 0, .int .u8 0, .int .u8 0, .int .u8 0, .int .u8 0, .int .u8 0, .int .u8 0, .int .u8 0, .int .u8 0, .int .u8 0, .int .u8 0, .int .u8 0, .int .u8 0, .int .u8 0, .int .u8 0] 25)).alloc (.cells #[.int .i64 3, .int .i64 0, .string ⟨#[]⟩, .slice none 0 0] 148)) (.cells #[.int .i64 x.p, .int .i64 x.r, .int .i64 1] 3)
 rw [show ((((w.alloc (.cells (clC x).toArray 56)).alloc (.cells (dgC l).toArray 25)).alloc (.cells #[.int .u8 0, .int .u8 0, .int .u8 0, .int .u8 0, .int .u8 0, .int .u8 0, .int .u8 0, .int .u8 0, .int .u8 0, .int .u8 0, .int .u8 0, .int .u8 0, .int .u8 0, .int .u8 0, .int .u8 0, .int .u8 0, .int .u8 0, .int .u8 0, .int .u8 0, .int .u8 0, .int .u8 0, .int .u8 0, .int .u8 0, .int .u8 0, .int .u8 0, .int .u8 0, .int .u8 0, .int .u8 0, .int .u8 0, .int .u8 0, .int .u8 0, .int .u8 0] 25)).alloc (.cells #[.int .i64 3, .int .i64 0, .string ⟨#[]⟩, .slice none 0 0] 148)).heap.size = w.heap.size + 1 + 1 + 1 + 1 by simp] at hn5
 have k2 : (((w.alloc (.cells (clC x).toArray 56)).alloc (.cells (dgC l).toArray 25)).alloc (.cells #[.int .u8 0, .int .u8 0, .int .u8 0, .int .u8 0, .int .u8 0, .int .u8 0, .int .u8 0, .int .u8 0, .int .u8 0, .int .u8 0, .int .u8 0, .int .u8 0, .int .u8 0, .int .u8 0, .int .u8 0, .int .u8 0, .int .u8 0, .int .u8 0, .int .u8 0, .int .u8 0, .int .u8 0, .int .u8 0, .int .u8 0, .int .u8 0, .int .u8 0, .int .u8 0, .int .u8 0, .int .u8 0, .int .u8 0, .int .u8 0, .int .u8 0, .int .u8 0] 25)).cell? ⟨w.heap.size, 2, none⟩ = some (.bool true) := by rw [cell_of_row _ _ _ _ _ _ s2, ← hm.out]; rfl
 have k0 : ((((w.alloc (.cells (clC x).toArray 56)).alloc (.cells (dgC l).toArray 25)).alloc (.cells #[.int .u8 0, .int .u8 0, .int .u8 0, .int .u8 0, .int .u8 0, .int .u8 0, .int .u8 0, .int .u8 0, .int .u8 0, .int .u8 0, .int .u8 0, .int .u8 0, .int .u8 0, .int .u8 0, .int .u8 0, .int .u8 0, .int .u8 0, .int .u8 0, .int .u8 0, .int .u8 0, .int .u8 0, .int .u8 0, .int .u8 0, .int .u8 0, .int .u8 0, .int .u8 0, .int .u8 0, .int .u8 0, .int .u8 0, .int .u8 0, .int .u8 0, .int .u8 0] 25)).alloc (.cells #[.int .i64 3, .int .i64 0, .string ⟨#[]⟩, .slice none 0 0] 148)).cell? ⟨w.heap.size, 0, none⟩ = some (.int .i64 x.p) := by rw [cell_of_row _ _ _ _ _ _ t2]; rfl
 have k1 : ((((w.alloc (.cells (clC x).toArray 56)).alloc (.cells (dgC l).toArray 25)).alloc (.cells #[.int .u8 0, .int .u8 0, .int .u8 0, .int .u8 0, .int .u8 0, .int .u8 0, .int .u8 0, .int .u8 0, .int .u8 0, .int .u8 0, .int .u8 0, .int .u8 0, .int .u8 0, .int .u8 0, .int .u8 0, .int .u8 0, .int .u8 0, .int .u8 0, .int .u8 0, .int .u8 0, .int .u8 0, .int .u8 0, .int .u8 0, .int .u8 0, .int .u8 0, .int .u8 0, .int .u8 0, .int .u8 0, .int .u8 0, .int .u8 0, .int .u8 0, .int .u8 0] 25)).alloc (.cells #[.int .i64 3, .int .i64 0, .string ⟨#[]⟩, .slice none 0 0] 148)).cell? ⟨w.heap.size, 1, none⟩ = some (.int .i64 x.r) := by rw [cell_of_row _ _ _ _ _ _ t2]; rfl
 have HSA0 := hid (row_kept t3 hb5)
 have HD0 := hid (row_kept t4 hb5)
 have HV0 := hid (row_kept t5 hb5)
 have HI0 := hid hn5
 have HB0 := hid (t1.trans (hb5.mono t1.size))
 clear s1 s2 s3 s4 t1 t2 t3 t4 t5 hb5 hn5
 rw [show clV x = .agg (clC x).toArray from rfl, dgV_agg l]
 go_enter Tryz.func105, Tryz.ntmps105
 go_wp2_with fail
 go_loopw [21] (fun i wr => ∃ j : Nat, j ≤ 3 ∧ i = .int .i64 j ∧ ∃ vl, Hid (wr.heap[w.heap.size + 1]? = some (.cells (dgC l).toArray 25 (0, 0))) ∧ Hid (wr.heap[w.heap.size + 1 + 1]? = some (.cells #[.int .u8 0, .int .u8 0, .int .u8 0, .int .u8 0, .int .u8 0, .int .u8 0, .int .u8 0, .int .u8 0, .int .u8 0, .int .u8 0, .int .u8 0, .int .u8 0, .int .u8 0, .int .u8 0, .int .u8 0, .int .u8 0, .int .u8 0, .int .u8 0, .int .u8 0, .int .u8 0, .int .u8 0, .int .u8 0, .int .u8 0, .int .u8 0, .int .u8 0, .int .u8 0, .int .u8 0, .int .u8 0, .int .u8 0, .int .u8 0, .int .u8 0, .int .u8 0] 25 (0, 0))) ∧ Hid (wr.heap[w.heap.size + 1 + 1 + 1]? = some (.cells #[.int .i64 3, .int .i64 0, .string ⟨#[]⟩, vl] 148 (0, 0))) ∧ Hid (wr.heap[w.heap.size + 1 + 1 + 1 + 1]? = some (.cells #[.int .i64 x.p, .int .i64 x.r, .int .i64 1] 3 (0, 0))) ∧ Hid (OwnV wr (w.heap.size + 1 + 1 + 1 + 1 + 1) vl (zs.take j)) ∧ Hid (Below w.heap.size w wr)) (fun i _ => 3 - (intOf i).toNat)
 case atStart => exact ⟨0, by omega, rfl, _, HSA0, HD0, HV0, HI0, hid (OwnV.nil _ _), HB0⟩
 case round =>
  clear HSA0 HD0 HV0 HI0 HB0 k0 k1 k2
  obtain ⟨j, hj, rfl, vl, HSA, HD, HV, HI, HO, HB⟩ := hrel
  by_cases hlt : j < 3
  ·have d1 : decide ((j : Int) < 3) = true := eQ (by omega)
   have d2 : decide (j < 3) = true := eQ hlt
   obtain ⟨z, HZ⟩ : ∃ z, Hid (zs.getD j 0 = z) := ⟨_, hid rfl⟩
   have hcell : wr.cell? ⟨w.heap.size + 1 + 1 + 1 + 1, j, none⟩ = some (.int .i64 z) := by
    rw [cell_of_row _ _ _ _ _ _ HI.out, ← HZ.out, ← HZS.out]
    rcases j with _ | _ | _ | j
    ·rfl
    ·rfl
    ·rfl
    ·omega
   have k3 : wr.cell? ⟨w.heap.size + 1 + 1 + 1, 3, none⟩ = some vl := by rw [cell_of_row _ _ _ _ _ _ HV.out]; rfl
   have HSZ : Hid (w.heap.size + 1 + 1 + 1 + 1 + 1 ≤ wr.heap.size) := hid (Array.getElem?_eq_some_iff.1 HI.out).1
   have HBA := hid ((Below.refl _ wr).alloc (Nat.le_refl _) (.cells #[.int .i64 1, .int .i64 z, .string ⟨#[]⟩, .slice none 0 0] 148))
   have HOA := hid (HO.out.kept (fun k _ hk => HBA.out.block k hk))
   have HVA := hid (row_kept HV.out HBA.out)
   have HRA := hid (heap_alloc_new wr (.cells #[.int .i64 1, .int .i64 z, .string ⟨#[]⟩, .slice none 0 0] 148))
   have HLN : Hid ((zs.take j).length ≤ 100000) := hid (by rw [List.length_take]; omega)
   have HSA2 := hid (Nat.le_trans HSZ.out HBA.out.size)
   have HNX : Hid (zs.take j ++ [z] = zs.take (j + 1)) := hid (by
    have h1 : j < zs.length := by rw [HM.out]; exact hlt
    rw [List.take_succ_eq_append_getElem h1, ← HZ.out]; simp [List.getD_eq_getElem?_getD, h1])
   go_wp2_with (at_builtin; refine wpList_append_val rfl (.tmp 26) (.tmp 29) rfl (w.heap.size + 1 + 1 + 1 + 1 + 1) vl (zs.take j) z ?ha HOA wr.heap.size ?hb ?hc HLN.out HSA2.out ?_)
   case ha => rfl
   case hb => rfl
   case hc => exact HRA
   intro v2 w2 HO2 HB2
   obtain ⟨A', n', c', rfl⟩ := ownV_form HO2.out
   have keepr : ∀ {b : Nat} {cs : Array Value} {t : TypeId}, b < w.heap.size + 1 + 1 + 1 + 1 + 1 → wr.heap[b]? = some (.cells cs t (0, 0)) → w2.heap[b]? = some (.cells cs t (0, 0)) := fun {b cs t} hb h => (HB2.out.block b hb).trans (row_kept h HBA.out)
   have HV2 := hid (keepr (by omega) HV.out)
   obtain ⟨k3', f3'⟩ := row3 HV2.out
   go_wp2_with fail
   have HBB := hid (((HB.out.trans (HBA.out.mono HB.out.size)).trans (HB2.out.mono (by omega))).setCell (p := ⟨w.heap.size + 1 + 1 + 1, 3, none⟩) (by show w.heap.size ≤ w.heap.size + 1 + 1 + 1; omega) (.slice A' n' c'))
   have HV3 := hid (set3 (v' := .slice A' n' c') HV2.out)
   have hoth : ∀ b, b ≠ w.heap.size + 1 + 1 + 1 → (w2.setCell ⟨w.heap.size + 1 + 1 + 1, 3, none⟩ (.slice A' n' c')).heap[b]? = w2.heap[b]? := fun b hb => Below.heap_setCell w2 ⟨w.heap.size + 1 + 1 + 1, 3, none⟩ (.slice A' n' c') b (by intro e; exact hb e)
   have HD3 := hid ((hoth (w.heap.size + 1 + 1) (by omega)).trans (keepr (by omega) HD.out))
   have HSA3 := hid ((hoth (w.heap.size + 1) (by omega)).trans (keepr (by omega) HSA.out))
   have HI3 := hid ((hoth (w.heap.size + 1 + 1 + 1 + 1) (by omega)).trans (keepr (by omega) HI.out))
   have HO3 := hid (HO2.out.kept (fun k hk hk2 => hoth k (by omega)))
   rw [HNX.out] at HO3
   clear k3' f3' k3 hcell keepr hoth
   go_roundw
   case rel => exact ⟨j + 1, by omega, by go_num, _, HSA3, HD3, HV3, HI3, HO3, HBB⟩
   case measure => simp [intOf]; omega
  ·have d1 : decide ((j : Int) < 3) = false := dQ (by omega)
   have HOm : Hid (OwnV wr (w.heap.size + 1 + 1 + 1 + 1 + 1) vl zs) := hid (by have := HO.out; rwa [List.take_of_length_le (by rw [HM.out]; omega)] at this)
   obtain ⟨Av, cv, rfl, hvr⟩ := HOm.out.slice
   have HVR := hid hvr
   have c0 : wr.cell? ⟨w.heap.size + 1 + 1 + 1, 0, none⟩ = some (.int .i64 3) := by rw [cell_of_row _ _ _ _ _ _ HV.out]; rfl
   have c1 : wr.cell? ⟨w.heap.size + 1 + 1 + 1, 1, none⟩ = some (.int .i64 0) := by rw [cell_of_row _ _ _ _ _ _ HV.out]; rfl
   have c2 : wr.cell? ⟨w.heap.size + 1 + 1 + 1, 2, none⟩ = some (.string ⟨#[]⟩) := by rw [cell_of_row _ _ _ _ _ _ HV.out]; rfl
   have c3 : wr.cell? ⟨w.heap.size + 1 + 1 + 1, 3, none⟩ = some (.slice Av zs.length cv) := by rw [cell_of_row _ _ _ _ _ _ HV.out]; rfl
   clear hvr
   go_wp2_with fail
   refine (encode_list zs Av cv _ hz (by rw [HM.out]; omega) HVR).mono ?_
   rintro e w2 ⟨v2, rfl, ho2, hb2⟩
   obtain ⟨A2, n2, cc2, rfl, hn2, hc2, hA2, HR2⟩ := ho2.slice
   obtain ⟨g2, o2, rfl, hg2, HBY0⟩ := HR2.out (encI_pos zs)
   obtain rfl : o2 = 0 := by
    rcases ho2.2 with ⟨e, _⟩ | ⟨g, cap, cur, e, _⟩
    ·cases e
    ·injection e with e; injection e with e; injection e
   have HBY := hid HBY0
   have HB2 := hid (HB.out.trans (hb2.mono HB.out.size))
   have HD2 := hid (row_kept HD.out hb2)
   have HSA2 := hid (bytesAt_arr (row_kept HSA.out hb2))
   have HNP : Hid (0 < n2) := hid (by rw [← hn2.out]; exact encI_pos zs)
   have HEL : Hid (n2 ≤ 20000) := hid (by rw [← hn2.out]; have := encI_length zs; rw [HM.out] at this; omega)
   have HL3 : Hid (32 + n2 ≤ 1000000) := hid (by have := HEL.out; omega)
   clear ho2 hb2 c0 c1 c2 c3 HR2 HBY0
   go_wp2_with (at_builtin; refine wpList_append_full rfl (.tmp 38) (.tmp 39) rfl (w.heap.size + 1) 32 g2 n2 cc2 l (encI zs) rfl rfl hd.out.len hn2.out HSA2 HBY HNP.out HL3.out ?_)
   intro v4 w4 HO4 HB4
   obtain ⟨A6, n6, c6, rfl, hn6, hc6, hA6, HR6⟩ := HO4.out.slice
   have HB5 := hid (HB2.out.trans (HB4.out.mono HB2.out.size))
   have HD4 := hid (row_kept HD2.out HB4.out)
   go_wp2_with fail
   refine (tagged_any claimT A6 n6 c6 (l ++ encI zs) _ (by decide) hn6 hc6 hA6.out (by rw [← hn6.out, List.length_append, hd.out.len, hn2.out]; have := HEL.out; omega) (hid (bytes_app2 hd.out.bytes (encI_bytes zs))) (hid (hT.out.below HB5.out)) HR6).mono ?_
   rintro e w5 ⟨rfl, hb5⟩
   have HB6 := hid (HB5.out.trans (hb5.mono HB5.out.size))
   have HD5 := hid (row_kept HD4.out hb5)
   have HE : Hid (dgV (tagged (strL claimT) (l ++ encI zs)) = dgV (lfK x l)) := hid (by rw [← HLF.out]; rfl)
   have HS1 := hid (dgC_info (lfK_ok x l))
   have HS2 := hid (dgC_size (lfK_ok x l))
   rw [HE.out, dgV_agg]
   clear hb5
   go_wp2_with (refine wpList_store_row rfl 25 (.tmp 4) (.tmp 41) rfl (w.heap.size + 1 + 1) (dgC (lfK x l)).toArray rfl rfl 25 _ HD5.out HS1.out HS2.out (dgC_one _) ?_)
   refine bodyPost_ret (results_cell_row rfl _ _ (w.heap.size + 1 + 1) 25 _ (0, 0) _ rfl (setRow_heap w5 (w.heap.size + 1 + 1) _ _ _ _ HD5.out) Tryz.underlying25 rfl HS1.out) rfl ?_
   exact ⟨rfl, below_setRow HB6.out (by omega) _⟩
theorem leafK_n (x : Cl) (l : List Nat) (w : World) (hm : Hid (x.m = false)) (hx : Hid (ClOk x)) (hd : Hid (DgOk l)) (hT : Hid (Tabs w)) :
  Calls Tryz.prog 105 #[clV x, dgV l] w fun e w' => e = .returned (dgV (lfK x l)) ∧ Below w.heap.size w w' := by
 obtain ⟨zs, HZS⟩ : ∃ zs : List Int, Hid ([x.p, x.r, 0] = zs) := ⟨_, hid rfl⟩
 have HLF : Hid (dgV (hashT (strL claimT) l zs) = dgV (lfK x l)) := hid (by unfold lfK; rw [hm.out, ← HZS.out]; rfl)
 have HM : Hid (zs.length = 3) := hid (by rw [← HZS.out]; rfl)
 have hz : Hid (∀ z ∈ zs, -9223372036854775808 ≤ z ∧ z ≤ 9223372036854775807) := hid (fun z hz => by
  have h0 := hx.out.b0; have h1 := hx.out.b1
  unfold I64 at h0 h1
  rw [← HZS.out] at hz
  simp only [List.mem_cons, List.not_mem_nil, or_false] at hz
  rcases hz with rfl | rfl | rfl <;> omega)
 obtain ⟨s1, s2, s3, s4⟩ := rows_three w (clC x).toArray (dgC l).toArray 56 25 (.cells #[.int .u8 0, .int .u8 0, .int .u8 0, .int .u8 0, .int .u8 0, .int .u8 0, .int .u8 0, .int .u8 0, .int .u8 0, .int .u8 0, .int .u8 0, .int .u8 0, .int .u8 0, .int .u8 0, .int .u8 0, .int .u8 0, .int .u8 0, .int .u8 0, .int .u8 0, .int .u8 0, .int .u8 0, .int .u8 0, .int .u8 0, .int .u8 0, .int .u8 0, .int .u8 0, .int .u8 0, .int .u8 0, .int .u8 0, .int .u8 0, .int .u8 0, .int .u8 0] 25)
 obtain ⟨t1, t2, t3, t4, t5⟩ := rows_four w (clC x).toArray (dgC l).toArray #[.int .u8 0, .int .u8 0, .int .u8 0, .int .u8 0, .int .u8 0, .int .u8 0, .int .u8 0, .int .u8 0, .int .u8 0, .int .u8 0, .int .u8 0, .int .u8 0, .int .u8 0, .int .u8 0, .int .u8 0, .int .u8 0, .int .u8 0, .int .u8 0, .int .u8 0, .int .u8 0, .int .u8 0, .int .u8 0, .int .u8 0, .int .u8 0, .int .u8 0, .int .u8 0, .int .u8 0, .int .u8 0, .int .u8 0, .int .u8 0, .int .u8 0, .int .u8 0] 56 25 25 (.cells #[.int .i64 3, .int .i64 0, .string ⟨#[]⟩, .slice none 0 0] 148)
 have hb5 := (Below.refl _ ((((w.alloc (.cells (clC x).toArray 56)).alloc (.cells (dgC l).toArray 25)).alloc (.cells #[.int .u8 0, .int .u8 0, .int .u8 0, .int .u8 0, .int .u8 0, .int .u8 0, .int .u8 0, .int .u8 0, .int .u8 0, .int .u8 0, .int .u8 0, .int .u8 0, .int .u8 0, .int .u8 0, .int .u8 0, .int .u8 0, .int .u8 0, .int .u8 0, .int .u8 0, .int .u8 0, .int .u8 0, .int .u8 0, .int .u8 0, .int .u8 0, .int .u8 0, .int .u8 0, .int .u8 0, .int .u8 0, .int .u8 0, .int .u8 0, .int .u8 0, .int .u8 0] 25)).alloc (.cells #[.int .i64 3, .int .i64 0, .string ⟨#[]⟩, .slice none 0 0] 148))).alloc (Nat.le_refl _) (.cells #[.int .i64 x.p, .int .i64 x.r, .int .i64 0] 3)
 have hn5 := heap_alloc_new ((((w.alloc (.cells (clC x).toArray 56)).alloc (.cells (dgC l).toArray 25)).alloc (.cells #[.int .u8 0, .int .u8 0, .int .u8 0, .int .u8 0, .int .u8 0, .int .u8 0, .int .u8 0, .int .u8 0, .int .u8 0, .int .u8 0, .int .u8 0, .int .u8 0, .int .u8 0, .int .u8 0, .int .u8 0, .int .u8 0, .int .u8 0, .int .u8 0, .int .u8 0, .int .u8 0, .int .u8 0, .int .u8 0, .int .u8 0, .int .u8 0, .int .u8 0, .int .u8 0, .int .u8 0, .int .u8 0, .int .u8 0, .int .u8 0, .int .u8 0, .int .u8 0] 25)).alloc (.cells #[.int .i64 3, .int .i64 0, .string ⟨#[]⟩, .slice none 0 0] 148)) (.cells #[.int .i64 x.p, .int .i64 x.r, .int .i64 0] 3)
 rw [show ((((w.alloc (.cells (clC x).toArray 56)).alloc (.cells (dgC l).toArray 25)).alloc (.cells #[.int .u8 0, .int .u8 0, .int .u8 0, .int .u8 0, .int .u8 0, .int .u8 0, .int .u8 0, .int .u8 0, .int .u8 0, .int .u8 0, .int .u8 0, .int .u8 0, .int .u8 0, .int .u8 0, .int .u8 0, .int .u8 0, .int .u8 0, .int .u8 0, .int .u8 0, .int .u8 0, .int .u8 0, .int .u8 0, .int .u8 0, .int .u8 0, .int .u8 0, .int .u8 0, .int .u8 0, .int .u8 0, .int .u8 0, .int .u8 0, .int .u8 0, .int .u8 0] 25)).alloc (.cells #[.int .i64 3, .int .i64 0, .string ⟨#[]⟩, .slice none 0 0] 148)).heap.size = w.heap.size + 1 + 1 + 1 + 1 by simp] at hn5
 have k2 : (((w.alloc (.cells (clC x).toArray 56)).alloc (.cells (dgC l).toArray 25)).alloc (.cells #[.int .u8 0, .int .u8 0, .int .u8 0, .int .u8 0, .int .u8 0, .int .u8 0, .int .u8 0, .int .u8 0, .int .u8 0, .int .u8 0, .int .u8 0, .int .u8 0, .int .u8 0, .int .u8 0, .int .u8 0, .int .u8 0, .int .u8 0, .int .u8 0, .int .u8 0, .int .u8 0, .int .u8 0, .int .u8 0, .int .u8 0, .int .u8 0, .int .u8 0, .int .u8 0, .int .u8 0, .int .u8 0, .int .u8 0, .int .u8 0, .int .u8 0, .int .u8 0] 25)).cell? ⟨w.heap.size, 2, none⟩ = some (.bool false) := by rw [cell_of_row _ _ _ _ _ _ s2, ← hm.out]; rfl
 have k0 : ((((w.alloc (.cells (clC x).toArray 56)).alloc (.cells (dgC l).toArray 25)).alloc (.cells #[.int .u8 0, .int .u8 0, .int .u8 0, .int .u8 0, .int .u8 0, .int .u8 0, .int .u8 0, .int .u8 0, .int .u8 0, .int .u8 0, .int .u8 0, .int .u8 0, .int .u8 0, .int .u8 0, .int .u8 0, .int .u8 0, .int .u8 0, .int .u8 0, .int .u8 0, .int .u8 0, .int .u8 0, .int .u8 0, .int .u8 0, .int .u8 0, .int .u8 0, .int .u8 0, .int .u8 0, .int .u8 0, .int .u8 0, .int .u8 0, .int .u8 0, .int .u8 0] 25)).alloc (.cells #[.int .i64 3, .int .i64 0, .string ⟨#[]⟩, .slice none 0 0] 148)).cell? ⟨w.heap.size, 0, none⟩ = some (.int .i64 x.p) := by rw [cell_of_row _ _ _ _ _ _ t2]; rfl
 have k1 : ((((w.alloc (.cells (clC x).toArray 56)).alloc (.cells (dgC l).toArray 25)).alloc (.cells #[.int .u8 0, .int .u8 0, .int .u8 0, .int .u8 0, .int .u8 0, .int .u8 0, .int .u8 0, .int .u8 0, .int .u8 0, .int .u8 0, .int .u8 0, .int .u8 0, .int .u8 0, .int .u8 0, .int .u8 0, .int .u8 0, .int .u8 0, .int .u8 0, .int .u8 0, .int .u8 0, .int .u8 0, .int .u8 0, .int .u8 0, .int .u8 0, .int .u8 0, .int .u8 0, .int .u8 0, .int .u8 0, .int .u8 0, .int .u8 0, .int .u8 0, .int .u8 0] 25)).alloc (.cells #[.int .i64 3, .int .i64 0, .string ⟨#[]⟩, .slice none 0 0] 148)).cell? ⟨w.heap.size, 1, none⟩ = some (.int .i64 x.r) := by rw [cell_of_row _ _ _ _ _ _ t2]; rfl
 have HSA0 := hid (row_kept t3 hb5)
 have HD0 := hid (row_kept t4 hb5)
 have HV0 := hid (row_kept t5 hb5)
 have HI0 := hid hn5
 have HB0 := hid (t1.trans (hb5.mono t1.size))
 clear s1 s2 s3 s4 t1 t2 t3 t4 t5 hb5 hn5
 rw [show clV x = .agg (clC x).toArray from rfl, dgV_agg l]
 go_enter Tryz.func105, Tryz.ntmps105
 go_wp2_with fail
 go_loopw [21] (fun i wr => ∃ j : Nat, j ≤ 3 ∧ i = .int .i64 j ∧ ∃ vl, Hid (wr.heap[w.heap.size + 1]? = some (.cells (dgC l).toArray 25 (0, 0))) ∧ Hid (wr.heap[w.heap.size + 1 + 1]? = some (.cells #[.int .u8 0, .int .u8 0, .int .u8 0, .int .u8 0, .int .u8 0, .int .u8 0, .int .u8 0, .int .u8 0, .int .u8 0, .int .u8 0, .int .u8 0, .int .u8 0, .int .u8 0, .int .u8 0, .int .u8 0, .int .u8 0, .int .u8 0, .int .u8 0, .int .u8 0, .int .u8 0, .int .u8 0, .int .u8 0, .int .u8 0, .int .u8 0, .int .u8 0, .int .u8 0, .int .u8 0, .int .u8 0, .int .u8 0, .int .u8 0, .int .u8 0, .int .u8 0] 25 (0, 0))) ∧ Hid (wr.heap[w.heap.size + 1 + 1 + 1]? = some (.cells #[.int .i64 3, .int .i64 0, .string ⟨#[]⟩, vl] 148 (0, 0))) ∧ Hid (wr.heap[w.heap.size + 1 + 1 + 1 + 1]? = some (.cells #[.int .i64 x.p, .int .i64 x.r, .int .i64 0] 3 (0, 0))) ∧ Hid (OwnV wr (w.heap.size + 1 + 1 + 1 + 1 + 1) vl (zs.take j)) ∧ Hid (Below w.heap.size w wr)) (fun i _ => 3 - (intOf i).toNat)
 case atStart => exact ⟨0, by omega, rfl, _, HSA0, HD0, HV0, HI0, hid (OwnV.nil _ _), HB0⟩
 case round =>
  clear HSA0 HD0 HV0 HI0 HB0 k0 k1 k2
  obtain ⟨j, hj, rfl, vl, HSA, HD, HV, HI, HO, HB⟩ := hrel
  by_cases hlt : j < 3
  ·have d1 : decide ((j : Int) < 3) = true := eQ (by omega)
   have d2 : decide (j < 3) = true := eQ hlt
   obtain ⟨z, HZ⟩ : ∃ z, Hid (zs.getD j 0 = z) := ⟨_, hid rfl⟩
   have hcell : wr.cell? ⟨w.heap.size + 1 + 1 + 1 + 1, j, none⟩ = some (.int .i64 z) := by
    rw [cell_of_row _ _ _ _ _ _ HI.out, ← HZ.out, ← HZS.out]
    rcases j with _ | _ | _ | j
    ·rfl
    ·rfl
    ·rfl
    ·omega
   have k3 : wr.cell? ⟨w.heap.size + 1 + 1 + 1, 3, none⟩ = some vl := by rw [cell_of_row _ _ _ _ _ _ HV.out]; rfl
   have HSZ : Hid (w.heap.size + 1 + 1 + 1 + 1 + 1 ≤ wr.heap.size) := hid (Array.getElem?_eq_some_iff.1 HI.out).1
   have HBA := hid ((Below.refl _ wr).alloc (Nat.le_refl _) (.cells #[.int .i64 1, .int .i64 z, .string ⟨#[]⟩, .slice none 0 0] 148))
   have HOA := hid (HO.out.kept (fun k _ hk => HBA.out.block k hk))
   have HVA := hid (row_kept HV.out HBA.out)
   have HRA := hid (heap_alloc_new wr (.cells #[.int .i64 1, .int .i64 z, .string ⟨#[]⟩, .slice none 0 0] 148))
   have HLN : Hid ((zs.take j).length ≤ 100000) := hid (by rw [List.length_take]; omega)
   have HSA2 := hid (Nat.le_trans HSZ.out HBA.out.size)
   have HNX : Hid (zs.take j ++ [z] = zs.take (j + 1)) := hid (by
    have h1 : j < zs.length := by rw [HM.out]; exact hlt
    rw [List.take_succ_eq_append_getElem h1, ← HZ.out]; simp [List.getD_eq_getElem?_getD, h1])
   go_wp2_with (at_builtin; refine wpList_append_val rfl (.tmp 26) (.tmp 29) rfl (w.heap.size + 1 + 1 + 1 + 1 + 1) vl (zs.take j) z ?ha HOA wr.heap.size ?hb ?hc HLN.out HSA2.out ?_)
   case ha => rfl
   case hb => rfl
   case hc => exact HRA
   intro v2 w2 HO2 HB2
   obtain ⟨A', n', c', rfl⟩ := ownV_form HO2.out
   have keepr : ∀ {b : Nat} {cs : Array Value} {t : TypeId}, b < w.heap.size + 1 + 1 + 1 + 1 + 1 → wr.heap[b]? = some (.cells cs t (0, 0)) → w2.heap[b]? = some (.cells cs t (0, 0)) := fun {b cs t} hb h => (HB2.out.block b hb).trans (row_kept h HBA.out)
   have HV2 := hid (keepr (by omega) HV.out)
   obtain ⟨k3', f3'⟩ := row3 HV2.out
   go_wp2_with fail
   have HBB := hid (((HB.out.trans (HBA.out.mono HB.out.size)).trans (HB2.out.mono (by omega))).setCell (p := ⟨w.heap.size + 1 + 1 + 1, 3, none⟩) (by show w.heap.size ≤ w.heap.size + 1 + 1 + 1; omega) (.slice A' n' c'))
   have HV3 := hid (set3 (v' := .slice A' n' c') HV2.out)
   have hoth : ∀ b, b ≠ w.heap.size + 1 + 1 + 1 → (w2.setCell ⟨w.heap.size + 1 + 1 + 1, 3, none⟩ (.slice A' n' c')).heap[b]? = w2.heap[b]? := fun b hb => Below.heap_setCell w2 ⟨w.heap.size + 1 + 1 + 1, 3, none⟩ (.slice A' n' c') b (by intro e; exact hb e)
   have HD3 := hid ((hoth (w.heap.size + 1 + 1) (by omega)).trans (keepr (by omega) HD.out))
   have HSA3 := hid ((hoth (w.heap.size + 1) (by omega)).trans (keepr (by omega) HSA.out))
   have HI3 := hid ((hoth (w.heap.size + 1 + 1 + 1 + 1) (by omega)).trans (keepr (by omega) HI.out))
   have HO3 := hid (HO2.out.kept (fun k hk hk2 => hoth k (by omega)))
   rw [HNX.out] at HO3
   clear k3' f3' k3 hcell keepr hoth
   go_roundw
   case rel => exact ⟨j + 1, by omega, by go_num, _, HSA3, HD3, HV3, HI3, HO3, HBB⟩
   case measure => simp [intOf]; omega
  ·have d1 : decide ((j : Int) < 3) = false := dQ (by omega)
   have HOm : Hid (OwnV wr (w.heap.size + 1 + 1 + 1 + 1 + 1) vl zs) := hid (by have := HO.out; rwa [List.take_of_length_le (by rw [HM.out]; omega)] at this)
   obtain ⟨Av, cv, rfl, hvr⟩ := HOm.out.slice
   have HVR := hid hvr
   have c0 : wr.cell? ⟨w.heap.size + 1 + 1 + 1, 0, none⟩ = some (.int .i64 3) := by rw [cell_of_row _ _ _ _ _ _ HV.out]; rfl
   have c1 : wr.cell? ⟨w.heap.size + 1 + 1 + 1, 1, none⟩ = some (.int .i64 0) := by rw [cell_of_row _ _ _ _ _ _ HV.out]; rfl
   have c2 : wr.cell? ⟨w.heap.size + 1 + 1 + 1, 2, none⟩ = some (.string ⟨#[]⟩) := by rw [cell_of_row _ _ _ _ _ _ HV.out]; rfl
   have c3 : wr.cell? ⟨w.heap.size + 1 + 1 + 1, 3, none⟩ = some (.slice Av zs.length cv) := by rw [cell_of_row _ _ _ _ _ _ HV.out]; rfl
   clear hvr
   go_wp2_with fail
   refine (encode_list zs Av cv _ hz (by rw [HM.out]; omega) HVR).mono ?_
   rintro e w2 ⟨v2, rfl, ho2, hb2⟩
   obtain ⟨A2, n2, cc2, rfl, hn2, hc2, hA2, HR2⟩ := ho2.slice
   obtain ⟨g2, o2, rfl, hg2, HBY0⟩ := HR2.out (encI_pos zs)
   obtain rfl : o2 = 0 := by
    rcases ho2.2 with ⟨e, _⟩ | ⟨g, cap, cur, e, _⟩
    ·cases e
    ·injection e with e; injection e with e; injection e
   have HBY := hid HBY0
   have HB2 := hid (HB.out.trans (hb2.mono HB.out.size))
   have HD2 := hid (row_kept HD.out hb2)
   have HSA2 := hid (bytesAt_arr (row_kept HSA.out hb2))
   have HNP : Hid (0 < n2) := hid (by rw [← hn2.out]; exact encI_pos zs)
   have HEL : Hid (n2 ≤ 20000) := hid (by rw [← hn2.out]; have := encI_length zs; rw [HM.out] at this; omega)
   have HL3 : Hid (32 + n2 ≤ 1000000) := hid (by have := HEL.out; omega)
   clear ho2 hb2 c0 c1 c2 c3 HR2 HBY0
   go_wp2_with (at_builtin; refine wpList_append_full rfl (.tmp 38) (.tmp 39) rfl (w.heap.size + 1) 32 g2 n2 cc2 l (encI zs) rfl rfl hd.out.len hn2.out HSA2 HBY HNP.out HL3.out ?_)
   intro v4 w4 HO4 HB4
   obtain ⟨A6, n6, c6, rfl, hn6, hc6, hA6, HR6⟩ := HO4.out.slice
   have HB5 := hid (HB2.out.trans (HB4.out.mono HB2.out.size))
   have HD4 := hid (row_kept HD2.out HB4.out)
   go_wp2_with fail
   refine (tagged_any claimT A6 n6 c6 (l ++ encI zs) _ (by decide) hn6 hc6 hA6.out (by rw [← hn6.out, List.length_append, hd.out.len, hn2.out]; have := HEL.out; omega) (hid (bytes_app2 hd.out.bytes (encI_bytes zs))) (hid (hT.out.below HB5.out)) HR6).mono ?_
   rintro e w5 ⟨rfl, hb5⟩
   have HB6 := hid (HB5.out.trans (hb5.mono HB5.out.size))
   have HD5 := hid (row_kept HD4.out hb5)
   have HE : Hid (dgV (tagged (strL claimT) (l ++ encI zs)) = dgV (lfK x l)) := hid (by rw [← HLF.out]; rfl)
   have HS1 := hid (dgC_info (lfK_ok x l))
   have HS2 := hid (dgC_size (lfK_ok x l))
   rw [HE.out, dgV_agg]
   clear hb5
   go_wp2_with (refine wpList_store_row rfl 25 (.tmp 4) (.tmp 41) rfl (w.heap.size + 1 + 1) (dgC (lfK x l)).toArray rfl rfl 25 _ HD5.out HS1.out HS2.out (dgC_one _) ?_)
   refine bodyPost_ret (results_cell_row rfl _ _ (w.heap.size + 1 + 1) 25 _ (0, 0) _ rfl (setRow_heap w5 (w.heap.size + 1 + 1) _ _ _ _ HD5.out) Tryz.underlying25 rfl HS1.out) rfl ?_
   exact ⟨rfl, below_setRow HB6.out (by omega) _⟩
theorem leafK (x : Cl) (l : List Nat) (w : World) (hx : Hid (ClOk x)) (hd : Hid (DgOk l)) (hT : Hid (Tabs w)) :
  Calls Tryz.prog 105 #[clV x, dgV l] w fun e w' => e = .returned (dgV (lfK x l)) ∧ Below w.heap.size w w' := by
 by_cases h : x.m = true
 ·exact leafK_y x l w (hid h) hx hd hT
 ·exact leafK_n x l w (hid (by simpa using h)) hx hd hT
theorem lnC_len4 (x : Ln) : (lnC x).length = 5 := rfl
theorem lnC_infoL4 (x : Ln) : (Tryz.prog.info? 45).map (·.size) = some (lnC x).length := by show _ = some 5; kernel_rfl
theorem lnC_info4 (x : Ln) : (Tryz.prog.info? 45).map (·.size) = some (lnC x).toArray.size := by show _ = some 5; kernel_rfl
theorem tabL_info4 : (Tryz.prog.info? 86).map (·.size) = some tabL.size := by show _ = some 4; kernel_rfl
/-- the leaf of an element under a transcript's salt -/
def lvL (base : List Nat) (x : Ln) : Dg := lfL x (saltN base 1 (nLn x))
def wLsL (M : Nat) (bt : Nat) (A3 : Option Addr) (n3 : Nat) (c3 : Nat) (base : List Nat) (x : Ln) (s : List Nat) (d : List Nat) (P : List Dg) : Nat → Value → World → Prop
 | 0, fv, _ => fv = .slice A3 n3 c3
 | 1, fv, _ => fv = .pointer (some { block := bt, off := 3 })
 | 2, fv, _ => fv = .func (.func 95) #[] #[]
 | 3, fv, _ => fv = lnV x
 | 4, fv, _ => fv = .agg tabL
 | 5, fv, _ => fv = dgV base
 | 6, fv, _ => fv = lnV x
 | 7, fv, _ => fv = dgV s
 | 8, fv, _ => fv = dgV d
 | 9, fv, fw => ∃ q, fv = .slice (some ⟨q, 0, none⟩) 1 1 ∧ fw.heap[q]? = some (.cells (flatD [d]).toArray 25 (0, 0))
 | 10, fv, fw => OwnD fw M fv (P ++ [d])
 | 11, fv, fw => OwnD fw M fv (P ++ [d])
 | _, _, _ => True
theorem wLsL_below {M : Nat} {bt : Nat} {A3 : Option Addr} {n3 : Nat} {c3 : Nat} {base : List Nat} {x : Ln} {s : List Nat} {d : List Nat} {P : List Dg} {w w' : World} (hb : Below w.heap.size w w') : ∀ j v, wLsL M bt A3 n3 c3 base x s d P j v w → wLsL M bt A3 n3 c3 base x s d P j v w'
 | 0, v, h => h
 | 1, v, h => h
 | 2, v, h => h
 | 3, v, h => h
 | 4, v, h => h
 | 5, v, h => h
 | 6, v, h => h
 | 7, v, h => h
 | 8, v, h => h
 | 9, v, ⟨q, h1, h2⟩ => ⟨q, h1, row_kept h2 hb⟩
 | 10, v, h => h.below hb
 | 11, v, h => h.below hb
 | n + 12, v, h => trivial
theorem wLsL_pure {M : Nat} {bt : Nat} {A3 : Option Addr} {n3 : Nat} {c3 : Nat} {base : List Nat} {x : Ln} {s : List Nat} {d : List Nat} {P : List Dg} {w w' : World} : ∀ j v, j ≠ 9 → j ≠ 10 → j ≠ 11 → wLsL M bt A3 n3 c3 base x s d P j v w → wLsL M bt A3 n3 c3 base x s d P j v w'
 | 0, v, _, _, _, h => h
 | 1, v, _, _, _, h => h
 | 2, v, _, _, _, h => h
 | 3, v, _, _, _, h => h
 | 4, v, _, _, _, h => h
 | 5, v, _, _, _, h => h
 | 6, v, _, _, _, h => h
 | 7, v, _, _, _, h => h
 | 8, v, _, _, _, h => h
 | 9, v, hh, _, _, _ => absurd rfl hh
 | 10, v, _, hh, _, _ => absurd rfl hh
 | 11, v, _, _, hh, _ => absurd rfl hh
 | n + 12, v, _, _, _, h => trivial
theorem leavesL (base : List Nat) (ls : List Ln) (A : Option Addr) (n c : Nat) (w : World) (hn : n ≤ 100000) (hba : Hid (DgOk base)) (h : Hid (InLn w A n c ls)) (hT : Hid (Tabs w)) :
  Calls Tryz.prog 46 #[.agg tabL, dgV base, .slice A n c] w fun e w' => ∃ A' n' c', e = .returned (.slice A' n' c') ∧ InD w' A' n' c' (ls.map (lvL base)) ∧ Below w.heap.size w w' := by
 have HN := hid (show ls.length = n from h.out.len)
 have hb2 := ((Below.refl _ w).alloc (Nat.le_refl _) (.cells tabL 86)).alloc (by simp) (.cells (dgC base).toArray 25)
 have hr0 := (Below.heap_alloc (w.alloc (.cells tabL 86)) (.cells (dgC base).toArray 25) w.heap.size (by simp)).trans (heap_alloc_new w (.cells tabL 86))
 have hr1 := heap_alloc_new (w.alloc (.cells tabL 86)) (.cells (dgC base).toArray 25)
 rw [World.size_alloc] at hr1
 have HB12 := hid hb2
 have HTB := hid hr0
 have HBA := hid hr1
 have HI2 := hid (h.out.below hb2)
 have hT2 := hid (hT.out.below hb2)
 have HIB := hid (dgC_info hba.out)
 have HIT := hid tabL_info4
 clear hb2 hr0 hr1 h
 rw [dgV_agg base]
 go_enter Tryz.func46, Tryz.ntmps46
 go_wp2_with fail
 generalize ((w.alloc (.cells tabL 86)).alloc (.cells (dgC base).toArray 25)) = W2 at *
 go_loopw [11, 6] (fun i dd wr => ∃ (j : Nat) (P : List Dg), j ≤ n ∧ i = .int .i64 j ∧ Hid (P = (ls.take j).map (lvL base)) ∧ Hid (OwnD wr W2.heap.size dd P) ∧ Hid (Below W2.heap.size W2 wr) ∧ ∃ A3 n3 c3, dd = .slice A3 n3 c3) (fun i _ _ => n - (intOf i).toNat)
 case atStart => exact ⟨0, [], by omega, rfl, hid rfl, hid (OwnD.nil _ _), hid (Below.refl _ _), _, _, _, rfl⟩
 case round =>
  obtain ⟨j, P, hj, rfl, HP, HOW, HB, A3, n3, c3, rfl⟩ := hrel
  by_cases hlt : j < n
  ·have d1 : decide ((j : Int) < (n : Int)) = true := eQ (by omega)
   have d2 : decide (j < n) = true := eQ hlt
   have hjl : j < ls.length := by rw [HN.out]; exact hlt
   obtain ⟨g, off, rfl, hg, hr⟩ := HI2.out.rd (by omega)
   obtain ⟨x, HX⟩ : ∃ x, Hid (ls[j] = x) := ⟨_, hid rfl⟩
   have HXO : Hid (LnOk x) := hid (by rw [← HX.out]; exact HI2.out.ok _ (List.getElem_mem hjl))
   have HR : Hid (wr.rangeAt g (off + j * 5) (lnC x)) := hid (by
    rw [← HX.out]
    exact rangeAt_below (range_elem lnC_len4 hr j hjl) hg HB.out)
   have HII := hid (lnC_infoL4 x)
   have HIX := hid (lnC_info4 x)
   have HPL : Hid (P.length ≤ 100000) := hid (by rw [HP.out, List.length_map, List.length_take]; omega)
   obtain ⟨s, HS⟩ : ∃ s, Hid (saltN base 1 (nLn x) = s) := ⟨_, hid rfl⟩
   have HSO : Hid (DgOk s) := hid (by rw [← HS.out]; exact saltN_ok _ _ _)
   obtain ⟨d, HD⟩ : ∃ d, Hid (lfL x s = d) := ⟨_, hid rfl⟩
   have HDO : Hid (DgOk d) := hid (by rw [← HD.out]; exact lfL_ok _ _)
   have HPN : Hid (P ++ [d] = (ls.take (j + 1)).map (lvL base)) := hid (by rw [List.take_succ_eq_append_getElem hjl, List.map_append, ← HP.out, HX.out, ← HD.out, ← HS.out]; rfl)
   have HBX := hid ((Below.refl _ wr).alloc (Nat.le_refl _) (.cells (lnC x).toArray 45))
   have HRX := hid (heap_alloc_new wr (.cells (lnC x).toArray 45))
   rw [show (lnC x).toArray = #[.int .i64 x.c0, .int .i64 x.c1, .int .i64 x.c2, .int .i64 x.c3, .int .i64 x.c4] from rfl] at HBX HRX
   clear hr
   go_wp2_with (with_reducible refine wpList_load_mid rfl 45 (.tmp 13) rfl g (off + j * 5) rfl (lnC x) _ HR.out Tryz.underlying45 rfl HII.out ?_; rw [show Value.agg (lnC x).toArray = .agg #[.int .i64 x.c0, .int .i64 x.c1, .int .i64 x.c2, .int .i64 x.c3, .int .i64 x.c4] from rfl])
   have HB1W := hid (HB.out.trans (HBX.out.mono HB.out.size))
   have HOW1 := hid (HOW.out.below HBX.out)
   have HTB1 := hid (row_kept HTB.out HB1W.out)
   have HBA1 := hid (row_kept HBA.out HB1W.out)
   have hT1 := hid (hT2.out.below HB1W.out)
   have HMS := hid HB1W.out.size
   generalize (wr.alloc (.cells #[.int .i64 x.c0, .int .i64 x.c1, .int .i64 x.c2, .int .i64 x.c3, .int .i64 x.c4] 45)) = W1 at *
   refine region_flow4 (by kernel_rfl) (by kernel_rfl) (fun i => Nat.beq i 11) (fun i => i) (by kernel_rfl) (fun fx => #[.agg tabL, .agg (dgC base).toArray, .slice (some { block := g, off := off }) n c, .pointer (some { block := w.heap.size, off := 0 }), .pointer (some { block := w.heap.size + 1, off := 0 }), undef, fx 11, undef, .pointer (some { block := wr.heap.size, off := 0 }), .slice (some { block := g, off := off }) n c, .int IntKind.i64 ↑n, .int IntKind.i64 ↑j, .bool true, .pointer (some { block := g, off := off + j * 5 }), .agg #[.int IntKind.i64 x.c0, .int IntKind.i64 x.c1, .int IntKind.i64 x.c2, .int IntKind.i64 x.c3, .int IntKind.i64 x.c4], fx 0, fx 1, fx 2, fx 3, fx 4, fx 5, fx 6, fx 7, fx 8, fx 9, fx 10, u26, undef]) (fun i => bif Nat.beq i 0 then u15 else bif Nat.beq i 1 then u16 else bif Nat.beq i 2 then u17 else bif Nat.beq i 3 then u18 else bif Nat.beq i 4 then u19 else bif Nat.beq i 5 then u20 else bif Nat.beq i 6 then u21 else bif Nat.beq i 7 then u22 else bif Nat.beq i 8 then u23 else bif Nat.beq i 9 then u24 else bif Nat.beq i 10 then u25 else bif Nat.beq i 11 then Value.slice A3 n3 c3 else undef) (fun L fx w' => (L 11 = false → fx 11 = .slice A3 n3 c3) ∧ Below W2.heap.size W1 w' ∧ (L 10 = false → Below (W1).heap.size W1 w')) (fun fi fv _ fw => wLsL W2.heap.size w.heap.size A3 n3 c3 base x s d P fi fv fw) ⟨fun _ => rfl, (Below.refl _ _).drew, fun _ => (Below.refl _ _).drew⟩ ?_ ?_
   ·refine ⟨?_, ?_, ?_, ?_, ?_, ?_, ?_, ?_, ?_, ?_, ?_, ?_, trivial⟩
    all_goals intro L fx w' hC hi hcl hdn hd
    ·have hnd : L 10 = false := nQ hi (fun h => (hcl 10 0 h (by kernel_rfl)))
     have hN : L 11 = false := nQ hi (fun h => hcl 11 0 h (by kernel_rfl))
     have he := hC.1 hN
     go_wp2_with fail
     exact ⟨_, by simp only [upd, he]; rfl, ⟨fun h => hC.1 h, hC.2.1, fun h => hC.2.2 h⟩, rfl, kP⟩
    ·have hnd : L 10 = false := nQ hi (fun h => (hcl 2 1 (hcl 8 2 (hcl 9 8 (hcl 10 9 h (by kernel_rfl)) (by kernel_rfl)) (by kernel_rfl)) (by kernel_rfl)))
     go_wp2_with fail
     exact ⟨_, rfl, ⟨fun h => hC.1 h, hC.2.1, fun h => hC.2.2 h⟩, rfl, kP⟩
    ·have h1 : fx 1 = .pointer (some { block := w.heap.size, off := 3 }) := hd.1 rfl
     have hnd : L 10 = false := nQ hi (fun h => (hcl 8 2 (hcl 9 8 (hcl 10 9 h (by kernel_rfl)) (by kernel_rfl)) (by kernel_rfl)))
     have hcc : w'.cell? ⟨w.heap.size, 3, none⟩ = some (Value.func (.func 95) #[] #[]) := by rw [cell_of_row _ _ _ _ _ _ (row_kept HTB1.out (hC.2.2 hnd))]; rfl
     go_wp2_with fail
     exact ⟨_, by simp only [upd, h1]; rfl, ⟨fun h => hC.1 h, hC.2.1, fun h => hC.2.2 h⟩, rfl, kP⟩
    ·have hnd : L 10 = false := nQ hi (fun h => (hcl 8 3 (hcl 9 8 (hcl 10 9 h (by kernel_rfl)) (by kernel_rfl)) (by kernel_rfl)))
     have hrow := row_kept HRX.out (hC.2.2 hnd)
     refine wpList_load_row rfl 45 (.tmp 8) rfl (wr.heap.size) rfl 45 _ (0, 0) _ hrow Tryz.underlying45 rfl HIX.out ?_
     clear hd
     go_wp2_with fail
     exact ⟨_, rfl, ⟨fun h => hC.1 h, hC.2.1, fun h => hC.2.2 h⟩, rfl, kP⟩
    ·have hnd : L 10 = false := nQ hi (fun h => (hcl 7 4 (hcl 8 7 (hcl 9 8 (hcl 10 9 h (by kernel_rfl)) (by kernel_rfl)) (by kernel_rfl)) (by kernel_rfl)))
     have hrow := row_kept HTB1.out (hC.2.2 hnd)
     refine wpList_load_row rfl 86 (.tmp 3) rfl (w.heap.size) rfl 86 _ (0, 0) _ hrow Tryz.underlying86 rfl HIT.out ?_
     clear hd
     go_wp2_with fail
     exact ⟨_, rfl, ⟨fun h => hC.1 h, hC.2.1, fun h => hC.2.2 h⟩, rfl, kP⟩
    ·have hnd : L 10 = false := nQ hi (fun h => (hcl 7 5 (hcl 8 7 (hcl 9 8 (hcl 10 9 h (by kernel_rfl)) (by kernel_rfl)) (by kernel_rfl)) (by kernel_rfl)))
     have hrow := row_kept HBA1.out (hC.2.2 hnd)
     refine wpList_load_row rfl 25 (.tmp 4) rfl (w.heap.size + 1) rfl 25 _ (0, 0) _ hrow Tryz.underlying25 rfl HIB.out ?_
     clear hd
     go_wp2_with fail
     exact ⟨_, rfl, ⟨fun h => hC.1 h, hC.2.1, fun h => hC.2.2 h⟩, rfl, kP⟩
    ·have hnd : L 10 = false := nQ hi (fun h => (hcl 7 6 (hcl 8 7 (hcl 9 8 (hcl 10 9 h (by kernel_rfl)) (by kernel_rfl)) (by kernel_rfl)) (by kernel_rfl)))
     have hrow := row_kept HRX.out (hC.2.2 hnd)
     refine wpList_load_row rfl 45 (.tmp 8) rfl (wr.heap.size) rfl 45 _ (0, 0) _ hrow Tryz.underlying45 rfl HIX.out ?_
     clear hd
     go_wp2_with fail
     exact ⟨_, rfl, ⟨fun h => hC.1 h, hC.2.1, fun h => hC.2.2 h⟩, rfl, kP⟩
    ·have h4 : fx 4 = .agg tabL := hd.1 rfl
     have h5 : fx 5 = dgV base := hd.2.1 rfl
     have h6 : fx 6 = lnV x := hd.2.2.1 rfl
     have hnd : L 10 = false := nQ hi (fun h => (hcl 8 7 (hcl 9 8 (hcl 10 9 h (by kernel_rfl)) (by kernel_rfl)) (by kernel_rfl)))
     have hTk := hid (hT1.out.below (hC.2.2 hnd))
     go_wp2_with fail
     refine (saltL base x w' hba hTk).mono ?_
     rintro e w2 ⟨rfl, hq⟩
     rw [HS.out]
     go_wp2_with fail
     exact ⟨_, by simp only [upd, h4, h5, h6]; rfl, ⟨fun h => hC.1 h, hC.2.1.trans (hq.mono (Nat.le_trans HMS.out hC.2.1.size)), fun h => (hC.2.2 h).trans (hq.mono (hC.2.2 h).size)⟩, rfl, fun j v t _ _ h => wLsL_below hq j v h⟩
    ·have h2 : fx 2 = .func (.func 95) #[] #[] := hd.1 rfl
     have h3 : fx 3 = lnV x := hd.2.1 rfl
     have h7 : fx 7 = dgV s := hd.2.2.1 rfl
     have hnd : L 10 = false := nQ hi (fun h => (hcl 9 8 (hcl 10 9 h (by kernel_rfl)) (by kernel_rfl)))
     have hTk := hid (hT1.out.below (hC.2.2 hnd))
     go_wp2_with fail
     refine (leafL x s w' HSO hTk).mono ?_
     rintro e w2 ⟨rfl, hq⟩
     rw [HD.out]
     go_wp2_with fail
     exact ⟨_, by simp only [upd, h2, h3, h7]; rfl, ⟨fun h => hC.1 h, hC.2.1.trans (hq.mono (Nat.le_trans HMS.out hC.2.1.size)), fun h => (hC.2.2 h).trans (hq.mono (hC.2.2 h).size)⟩, rfl, fun j v t _ _ h => wLsL_below hq j v h⟩
    ·have h8 : fx 8 = dgV d := hd.1 rfl
     have hnd : L 10 = false := nQ hi (fun h => (hcl 10 9 h (by kernel_rfl)))
     refine wpList_build_digs1 rfl (.tmp 23) rfl d h8 HDO.out ?_
     clear hd
     go_wp2_with fail
     have hbb : Below w'.heap.size w' (w'.alloc (.cells (flatD [d]).toArray 25)) := (Below.refl _ _).alloc (Nat.le_refl _) _
     exact ⟨_, by simp only [upd, h8]; rfl, ⟨fun h => hC.1 h, hC.2.1.trans (hbb.mono (Nat.le_trans HMS.out hC.2.1.size)), fun h => (hC.2.2 h).trans (hbb.mono (hC.2.2 h).size)⟩, ⟨_, rfl, heap_alloc_new _ _⟩, fun j v t _ _ h => wLsL_below hbb j v h⟩
    ·have h0 : fx 0 = .slice A3 n3 c3 := hd.1 rfl
     have H9 := hid (hd.2.1 rfl)
     obtain ⟨q, hx, hrow⟩ := H9.out
     have HQR := hid hrow
     have HOV := hid (HOW1.out.below (hC.2.2 hi))
     have HSZ := hid (Nat.le_trans HMS.out hC.2.1.size)
     refine wpList_append_dig rfl (.tmp 15) (.tmp 24) rfl W2.heap.size (Value.slice A3 n3 c3) P d h0 HOV HDO.out q hx HQR HPL.out HSZ.out ?_
     intro v2 w2 HO2 HG2
     have HB2 := hid ((Below.refl W2.heap.size w').grown HG2.out HSZ.out (fun g hg => (HOV.out.block g hg).1))
     clear hd hrow
     go_wp2_with fail
     refine ⟨v2, by first | rfl | (rw [← hx, ← h0]; rfl) | (rw [← hx]; rfl), ⟨fun h => hC.1 h, hC.2.1.trans HB2.out, fun h => (updB_self h).elim⟩, HO2.out, fun j v t hj hu h => ?_⟩
     refine wLsL_pure j v ?_ ?_ ?_ h <;> intro e <;> subst e
     ·refine absurd hu (not_needed (E := fun i => Nat.beq i 11) (j := 9) [10] (by kernel_rfl) (by kernel_rfl) ?_)
      intro m hm hne; simp at hm; omega
     ·rw [hi] at hj; cases hj
     ·have := hcl 11 10 hj (by kernel_rfl); rw [hi] at this; cases this
    ·have H10 := hid (hd.1 rfl)
     go_wp2_with fail
     exact ⟨fx 10, rfl, ⟨fun h => (updB_self h).elim, hC.2.1, fun h => hC.2.2 h⟩, H10.out, kP⟩
   ·intro L fo w' hC hS
    have H11 := hid (hS 11 (by decide) rfl)
    obtain ⟨A4, n4, c4, e4⟩ := H11.out.form
    rw [e4]
    have HBE := hid (HB1W.out.trans hC.2.1)
    have HO4 : Hid (OwnD w' W2.heap.size (Value.slice A4 n4 c4) (P ++ [d])) := hid (by rw [← e4]; exact H11.out)
    clear hS hC H11 e4
    go_wp2_with fail
    go_roundw
    case rel => exact ⟨j + 1, P ++ [d], by omega, by go_num, HPN, HO4, HBE, _, _, _, rfl⟩
    case measure => simp [intOf]; omega
  ·have d1 : decide ((j : Int) < (n : Int)) = false := dQ (by omega)
   have HPF : Hid (P = ls.map (lvL base)) := hid (by rw [HP.out, List.take_of_length_le (by rw [HN.out]; omega)])
   have HPO : Hid (∀ y ∈ P, DgOk y) := hid (fun y hy => by
    rw [HPF.out] at hy
    obtain ⟨x, _, rfl⟩ := List.mem_map.1 hy
    exact lfL_ok _ _)
   obtain ⟨A4, n4, c4, e4, hin4, ht4⟩ := HOW.out.slice HPO.out
   cases e4
   have HI4 := hid hin4
   have HB4 := hid (HB12.out.trans (HB.out.mono HB12.out.size))
   clear hin4 ht4
   go_wp2_with fail
   go_ret
   exact ⟨_, _, _, rfl, by rw [← HPF.out]; exact HI4.out, HB4.out⟩
end Go.Proofs.YtmfmgeapecapiaaGreatDoor
