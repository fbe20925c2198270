/- sizar/disclose: check of a list (claims). sizar/disclose.Check: what it asks. sizar/disclose.Check. sizar/disclose: salts; the leaf of a line. sizar/disclose: leaves (lines). Transcripts: the salt within; how many claims there are. sizar/disclose.Nodes. -/
import Derived.Test.YtmfmgeapecapiaaGreatDoorVS6
set_option maxHeartbeats 64000001
open Go.Lib (hid)
namespace Go.Proofs.YtmfmgeapecapiaaGreatDoor
open Go.RowKit SzSha SzTree
set_option linter.unusedVariables false
set_option maxRecDepth 100000
theorem clC_len (x : Cl) : (clC x).length = 3 := rfl
theorem clC_info (x : Cl) : (Tryz.prog.info? 56).map (·.size) = some (clC x).toArray.size := by show _ = some 3; kernel_rfl
theorem clC_infoL (x : Cl) : (Tryz.prog.info? 56).map (·.size) = some (clC x).length := by show _ = some 3; kernel_rfl
def wCyK (bl : Nat) (x : Cl) (z : Int) : Nat → Value → World → Prop
 | 0, fv, _ => fv = .pointer (some ⟨bl, 1, none⟩)
 | 1, fv, _ => fv = .func (.func 107) #[] #[]
 | 2, fv, _ => fv = clV x
 | 3, fv, _ => fv = .bool true
 | 4, fv, _ => fv = .bool false
 | 5, fv, _ => fv = .bool false
 | 6, fv, _ => fv = .pointer (some ⟨bl, 2, none⟩)
 | 7, fv, _ => fv = .func (.func 104) #[] #[]
 | 8, fv, _ => fv = clV x
 | 9, fv, _ => fv = .int .i64 (nCl x)
 | 10, fv, _ => fv = .int .i64 z
 | 11, fv, _ => fv = .bool (decide (nCl x ≤ z))
 | 12, fv, _ => fv = .bool (decide (nCl x ≤ z))
 | 13, fv, _ => fv = .bool (decide (nCl x ≤ z))
 | _, _, _ => True
theorem wCyK_below {bl : Nat} {x : Cl} {z : Int} {w w' : World} (hb : Below w.heap.size w w') : ∀ j v, wCyK bl x z j v w → wCyK bl x z j v w'
 | 0, v, h => h
 | 1, v, h => h
 | 2, v, h => h
 | 3, v, h => h
 | 4, v, h => h
 | 5, v, h => h
 | 6, v, h => h
 | 7, v, h => h
 | 8, v, h => h
 | 9, v, h => h
 | 10, v, h => h
 | 11, v, h => h
 | 12, v, h => h
 | 13, v, h => h
 | n + 14, v, h => trivial
def wCnK (bl : Nat) (x : Cl) (z : Int) : Nat → Value → World → Prop
 | 0, fv, _ => fv = .pointer (some ⟨bl, 1, none⟩)
 | 1, fv, _ => fv = .func (.func 107) #[] #[]
 | 2, fv, _ => fv = clV x
 | 3, fv, _ => fv = .bool false
 | 4, fv, _ => fv = .bool true
 | 5, fv, _ => fv = .bool true
 | 6, fv, _ => fv = undef
 | 7, fv, _ => fv = undef
 | 8, fv, _ => fv = undef
 | 9, fv, _ => fv = undef
 | 10, fv, _ => fv = undef
 | 11, fv, _ => fv = undef
 | 12, fv, _ => fv = .bool true
 | 13, fv, _ => fv = .bool true
 | _, _, _ => True
theorem wCnK_below {bl : Nat} {x : Cl} {z : Int} {w w' : World} (hb : Below w.heap.size w w') : ∀ j v, wCnK bl x z j v w → wCnK bl x z j v w'
 | 0, v, h => h
 | 1, v, h => h
 | 2, v, h => h
 | 3, v, h => h
 | 4, v, h => h
 | 5, v, h => h
 | 6, v, h => h
 | 7, v, h => h
 | 8, v, h => h
 | 9, v, h => h
 | 10, v, h => h
 | 11, v, h => h
 | 12, v, h => h
 | 13, v, h => h
 | n + 14, v, h => trivial
theorem chk1K_y (x : Cl) (z : Int) (bl bs : Nat) (w : World) (hl : Hid (w.heap[bl]? = some (.cells tabK 95 (0, 0)))) (hs : Hid (w.heap[bs]? = some (.cells #[.int .i64 z] 3 (0, 0)))) (hv : Hid (vCl x = true)) :
  Calls Tryz.prog 112 #[clV x, .pointer (some ⟨bl, 0, none⟩), .pointer (some ⟨bs, 0, none⟩)] w fun e w' => e = .returned (.bool (!(vCl x && decide (z < nCl x)))) ∧ w.grownBy w' (some bs) ∧ w'.heap[bs]? = some (.cells #[.int .i64 (nCl x)] 3 (0, 0)) := by
 have HB0 := hid ((Below.refl _ w).alloc (Nat.le_refl _) (.cells (clC x).toArray 56))
 have HX0 := hid (heap_alloc_new w (.cells (clC x).toArray 56))
 have HL0 := hid (row_kept hl.out HB0.out)
 have HS0 := hid (row_kept hs.out HB0.out)
 have HBS : Hid (bs < w.heap.size) := hid (Array.getElem?_eq_some_iff.1 hs.out).1
 have HIX := hid (clC_info x)
 have HLE : Hid ((!(vCl x && decide (z < nCl x))) = decide (nCl x ≤ z)) := hid (by rw [hv.out]; rw [Bool.true_and, ← decide_not]; congr 1; exact propext Int.not_lt)
 rw [show clV x = .agg (clC x).toArray from rfl]
 go_enter Tryz.func112, Tryz.ntmps112
 go_wp2_with fail
 generalize w.alloc (.cells (clC x).toArray 56) = W1 at *
 refine region_flow3 (by kernel_rfl) (by kernel_rfl) (fun i => Nat.beq i 13) (fun i => i) (by kernel_rfl) (fun fx => #[.agg (clC x).toArray, .pointer (some { block := bl, off := 0 }), .pointer (some { block := bs, off := 0 }), .pointer (some { block := w.heap.size, off := 0 }), .bool false, fx 13, fx 0, fx 1, fx 2, fx 3, fx 4, fx 5, fx 6, fx 7, fx 8, fx 9, fx 10, fx 11, fx 12, undef, undef, undef, undef, undef]) (fun _ => undef) (fun L fx w' => Below W1.heap.size W1 w') (fun fi fv _ fw => wCyK bl x z fi fv fw) (Below.refl _ _).drew ?_ ?_
 ·refine ⟨?_, ?_, ?_, ?_, ?_, ?_, ?_, ?_, ?_, ?_, ?_, ?_, ?_, ?_, trivial⟩
  all_goals intro L fx w' hC hi hcl hdn hd
  ·go_wp2_with fail
   exact ⟨_, rfl, hC, rfl, kP⟩
  ·have h0 : fx 0 = .pointer (some ⟨bl, 1, none⟩) := hd.1 rfl
   have hcc : w'.cell? ⟨bl, 1, none⟩ = some (Value.func (.func 107) #[] #[]) := by rw [cell_of_row _ _ _ _ _ _ (row_kept HL0.out hC)]; rfl
   go_wp2_with fail
   exact ⟨_, by simp only [upd, h0]; rfl, hC, rfl, kP⟩
  ·have hrow := row_kept HX0.out hC
   refine wpList_load_row rfl 56 (.tmp 3) rfl w.heap.size rfl 56 _ (0, 0) _ hrow Tryz.underlying56 rfl HIX.out ?_
   clear hd
   go_wp2_with fail
   exact ⟨_, rfl, hC, rfl, kP⟩
  ·have h1 : fx 1 = .func (.func 107) #[] #[] := hd.1 rfl
   have h2 : fx 2 = clV x := hd.2.1 rfl
   go_wp2_with fail
   refine (vclaim_x x w').mono ?_
   rintro e w2 ⟨rfl, hq⟩
   rw [hv.out]
   go_wp2_with fail
   exact ⟨_, by simp only [upd, h1, h2]; rfl, hC.trans (hq.mono hC.size), rfl, fun j v t _ _ h => wCyK_below hq j v h⟩
  ·have h3 : fx 3 = .bool true := hd.1 rfl
   go_wp2_with fail
   exact ⟨_, by simp only [upd, h3]; rfl, hC, rfl, kP⟩
  ·have h4 : fx 4 = .bool false := hd.1 rfl
   go_wp2_with fail
   exact ⟨_, by simp only [upd, h4]; rfl, hC, rfl, kP⟩
  ·have h5 : fx 5 = .bool false := hd.1 rfl
   go_wp2_with fail
   exact ⟨_, by simp only [upd, h5]; rfl, hC, rfl, kP⟩
  ·have h6 : fx 6 = .pointer (some ⟨bl, 2, none⟩) := hd.1 rfl
   have h5 : fx 5 = .bool false := hd.2.1 rfl
   have hcc : w'.cell? ⟨bl, 2, none⟩ = some (Value.func (.func 104) #[] #[]) := by rw [cell_of_row _ _ _ _ _ _ (row_kept HL0.out hC)]; rfl
   go_wp2_with fail
   exact ⟨_, by simp only [upd, h6, h5]; rfl, hC, rfl, kP⟩
  ·have h5 : fx 5 = .bool false := hd.1 rfl
   have hrow := row_kept HX0.out hC
   dsimp only
   rw [h5]
   refine wpList_unguard rfl ?_
   refine wpList_load_row rfl 56 (.tmp 3) rfl w.heap.size rfl 56 _ (0, 0) _ hrow Tryz.underlying56 rfl HIX.out ?_
   clear hd
   go_wp2_with fail
   exact ⟨_, by simp only [upd, h5]; rfl, hC, rfl, kP⟩
  ·have h7 : fx 7 = .func (.func 104) #[] #[] := hd.1 rfl
   have h8 : fx 8 = clV x := hd.2.1 rfl
   have h5 : fx 5 = .bool false := hd.2.2.2.1 rfl
   go_wp2_with fail
   refine (nclaim_x x w').mono ?_
   rintro e w2 ⟨rfl, hq⟩
   go_wp2_with fail
   exact ⟨_, by simp only [upd, h7, h8, h5]; rfl, hC.trans (hq.mono hC.size), rfl, fun j v t _ _ h => wCyK_below hq j v h⟩
  ·have h5 : fx 5 = .bool false := hd.1 rfl
   have hcc : w'.cell? ⟨bs, 0, none⟩ = some (.int .i64 z) := by rw [cell_of_row _ _ _ _ _ _ (row_kept HS0.out hC)]; rfl
   go_wp2_with fail
   exact ⟨_, by simp only [upd, h5]; rfl, hC, rfl, kP⟩
  ·have h9 : fx 9 = .int .i64 (nCl x) := hd.1 rfl
   have h10 : fx 10 = .int .i64 z := hd.2.1 rfl
   have h5 : fx 5 = .bool false := hd.2.2.1 rfl
   go_wp2_with fail
   exact ⟨_, by simp only [upd, h9, h10, h5]; rfl, hC, rfl, kP⟩
  ·have h5 : fx 5 = .bool false := hd.1 rfl
   have h11 : fx 11 = .bool (decide (nCl x ≤ z)) := hd.2.1 rfl
   go_wp2_with fail
   exact ⟨_, by simp only [upd, h5, h11]; rfl, hC, rfl, kP⟩
  ·have h12 : fx 12 = .bool (decide (nCl x ≤ z)) := hd.1 rfl
   go_wp2_with fail
   exact ⟨_, by simp only [upd, h12]; rfl, hC, rfl, kP⟩
 ·intro L fo w' hC hS
  have H13 := hid (hS 13 (by decide) rfl)
  have h13 : fo 13 = .bool (decide (nCl x ≤ z)) := H13.out
  rw [h13]
  have HBC := hid hC
  clear hS hC h13 H13
  have HX1 := hid (row_kept HX0.out HBC.out)
  have HS1 := hid (row_kept HS0.out HBC.out)
  have hcc : w'.cell? ⟨bl, 2, none⟩ = some (Value.func (.func 104) #[] #[]) := by rw [cell_of_row _ _ _ _ _ _ (row_kept HL0.out HBC.out)]; rfl
  go_wp2_with (refine wpList_load_row rfl 56 (.tmp 3) rfl w.heap.size rfl 56 _ (0, 0) _ HX1.out Tryz.underlying56 rfl HIX.out ?_)
  rw [show Value.agg (clC x).toArray = clV x from rfl]
  refine (nclaim_x x w').mono ?_
  rintro e w2 ⟨rfl, hq⟩
  have HS2 := hid (row_kept HS1.out hq)
  have HG2 : Hid (w.grownBy w2 (some bs)) := hid (grown_then (grown_then (grown_of_below HB0.out) HBC.out) hq)
  have hc2 : w2.cell? ⟨bs, 0, none⟩ = some (.int .i64 z) := by rw [cell_of_row _ _ _ _ _ _ HS2.out]; rfl
  have hf2 : w2.frozen? ⟨bs, 0, none⟩ = false := by simp [World.frozen?, HS2.out]
  clear hq hcc
  go_wp2_with fail
  go_ret
  exact ⟨by rw [HLE.out]; rfl, grown_set HG2.out _, one_set HS2.out⟩
theorem chk1K_n (x : Cl) (z : Int) (bl bs : Nat) (w : World) (hl : Hid (w.heap[bl]? = some (.cells tabK 95 (0, 0)))) (hs : Hid (w.heap[bs]? = some (.cells #[.int .i64 z] 3 (0, 0)))) (hv : Hid (vCl x = false)) :
  Calls Tryz.prog 112 #[clV x, .pointer (some ⟨bl, 0, none⟩), .pointer (some ⟨bs, 0, none⟩)] w fun e w' => e = .returned (.bool (!(vCl x && decide (z < nCl x)))) ∧ w.grownBy w' (some bs) ∧ w'.heap[bs]? = some (.cells #[.int .i64 (nCl x)] 3 (0, 0)) := by
 have HB0 := hid ((Below.refl _ w).alloc (Nat.le_refl _) (.cells (clC x).toArray 56))
 have HX0 := hid (heap_alloc_new w (.cells (clC x).toArray 56))
 have HL0 := hid (row_kept hl.out HB0.out)
 have HS0 := hid (row_kept hs.out HB0.out)
 have HBS : Hid (bs < w.heap.size) := hid (Array.getElem?_eq_some_iff.1 hs.out).1
 have HIX := hid (clC_info x)
 have HLE : Hid ((!(vCl x && decide (z < nCl x))) = true) := hid (by rw [hv.out]; rfl)
 rw [show clV x = .agg (clC x).toArray from rfl]
 go_enter Tryz.func112, Tryz.ntmps112
 go_wp2_with fail
 generalize w.alloc (.cells (clC x).toArray 56) = W1 at *
 refine region_flow3 (by kernel_rfl) (by kernel_rfl) (fun i => Nat.beq i 13) (fun i => i) (by kernel_rfl) (fun fx => #[.agg (clC x).toArray, .pointer (some { block := bl, off := 0 }), .pointer (some { block := bs, off := 0 }), .pointer (some { block := w.heap.size, off := 0 }), .bool false, fx 13, fx 0, fx 1, fx 2, fx 3, fx 4, fx 5, fx 6, fx 7, fx 8, fx 9, fx 10, fx 11, fx 12, undef, undef, undef, undef, undef]) (fun _ => undef) (fun L fx w' => Below W1.heap.size W1 w') (fun fi fv _ fw => wCnK bl x z fi fv fw) (Below.refl _ _).drew ?_ ?_
 ·refine ⟨?_, ?_, ?_, ?_, ?_, ?_, ?_, ?_, ?_, ?_, ?_, ?_, ?_, ?_, trivial⟩
  all_goals intro L fx w' hC hi hcl hdn hd
  ·go_wp2_with fail
   exact ⟨_, rfl, hC, rfl, kP⟩
  ·have h0 : fx 0 = .pointer (some ⟨bl, 1, none⟩) := hd.1 rfl
   have hcc : w'.cell? ⟨bl, 1, none⟩ = some (Value.func (.func 107) #[] #[]) := by rw [cell_of_row _ _ _ _ _ _ (row_kept HL0.out hC)]; rfl
   go_wp2_with fail
   exact ⟨_, by simp only [upd, h0]; rfl, hC, rfl, kP⟩
  ·have hrow := row_kept HX0.out hC
   refine wpList_load_row rfl 56 (.tmp 3) rfl w.heap.size rfl 56 _ (0, 0) _ hrow Tryz.underlying56 rfl HIX.out ?_
   clear hd
   go_wp2_with fail
   exact ⟨_, rfl, hC, rfl, kP⟩
  ·have h1 : fx 1 = .func (.func 107) #[] #[] := hd.1 rfl
   have h2 : fx 2 = clV x := hd.2.1 rfl
   go_wp2_with fail
   refine (vclaim_x x w').mono ?_
   rintro e w2 ⟨rfl, hq⟩
   rw [hv.out]
   go_wp2_with fail
   exact ⟨_, by simp only [upd, h1, h2]; rfl, hC.trans (hq.mono hC.size), rfl, fun j v t _ _ h => wCnK_below hq j v h⟩
  ·have h3 : fx 3 = .bool false := hd.1 rfl
   go_wp2_with fail
   exact ⟨_, by simp only [upd, h3]; rfl, hC, rfl, kP⟩
  ·have h4 : fx 4 = .bool true := hd.1 rfl
   go_wp2_with fail
   exact ⟨_, by simp only [upd, h4]; rfl, hC, rfl, kP⟩
  ·have h5 : fx 5 = .bool true := hd.1 rfl
   go_wp2_with fail
   exact ⟨_, by simp only [upd, h5]; rfl, hC, rfl, kP⟩
  ·have h6 : fx 6 = undef := hd.1 rfl
   have h5 : fx 5 = .bool true := hd.2.1 rfl
   go_wp2_with fail
   exact ⟨_, by simp only [upd, h6, h5]; rfl, hC, rfl, kP⟩
  ·have h5 : fx 5 = .bool true := hd.1 rfl
   go_wp2_with fail
   exact ⟨_, by simp only [upd, h5]; rfl, hC, rfl, kP⟩
  ·have h7 : fx 7 = undef := hd.1 rfl
   have h8 : fx 8 = undef := hd.2.1 rfl
   have h5 : fx 5 = .bool true := hd.2.2.2.1 rfl
   go_wp2_with fail
   exact ⟨_, by simp only [upd, h7, h8, h5]; rfl, hC, rfl, kP⟩
  ·have h5 : fx 5 = .bool true := hd.1 rfl
   go_wp2_with fail
   exact ⟨_, by simp only [upd, h5]; rfl, hC, rfl, kP⟩
  ·have h9 : fx 9 = undef := hd.1 rfl
   have h10 : fx 10 = undef := hd.2.1 rfl
   have h5 : fx 5 = .bool true := hd.2.2.1 rfl
   go_wp2_with fail
   exact ⟨_, by simp only [upd, h9, h10, h5]; rfl, hC, rfl, kP⟩
  ·have h5 : fx 5 = .bool true := hd.1 rfl
   have h11 : fx 11 = undef := hd.2.1 rfl
   go_wp2_with fail
   exact ⟨_, by simp only [upd, h5, h11]; rfl, hC, rfl, kP⟩
  ·have h12 : fx 12 = .bool true := hd.1 rfl
   go_wp2_with fail
   exact ⟨_, by simp only [upd, h12]; rfl, hC, rfl, kP⟩
 ·intro L fo w' hC hS
  have H13 := hid (hS 13 (by decide) rfl)
  have h13 : fo 13 = .bool true := H13.out
  rw [h13]
  have HBC := hid hC
  clear hS hC h13 H13
  have HX1 := hid (row_kept HX0.out HBC.out)
  have HS1 := hid (row_kept HS0.out HBC.out)
  have hcc : w'.cell? ⟨bl, 2, none⟩ = some (Value.func (.func 104) #[] #[]) := by rw [cell_of_row _ _ _ _ _ _ (row_kept HL0.out HBC.out)]; rfl
  go_wp2_with (refine wpList_load_row rfl 56 (.tmp 3) rfl w.heap.size rfl 56 _ (0, 0) _ HX1.out Tryz.underlying56 rfl HIX.out ?_)
  rw [show Value.agg (clC x).toArray = clV x from rfl]
  refine (nclaim_x x w').mono ?_
  rintro e w2 ⟨rfl, hq⟩
  have HS2 := hid (row_kept HS1.out hq)
  have HG2 : Hid (w.grownBy w2 (some bs)) := hid (grown_then (grown_then (grown_of_below HB0.out) HBC.out) hq)
  have hc2 : w2.cell? ⟨bs, 0, none⟩ = some (.int .i64 z) := by rw [cell_of_row _ _ _ _ _ _ HS2.out]; rfl
  have hf2 : w2.frozen? ⟨bs, 0, none⟩ = false := by simp [World.frozen?, HS2.out]
  clear hq hcc
  go_wp2_with fail
  go_ret
  exact ⟨by rw [HLE.out]; rfl, grown_set HG2.out _, one_set HS2.out⟩
theorem chk1K (x : Cl) (z : Int) (bl bs : Nat) (w : World) (hl : Hid (w.heap[bl]? = some (.cells tabK 95 (0, 0)))) (hs : Hid (w.heap[bs]? = some (.cells #[.int .i64 z] 3 (0, 0)))) :
  Calls Tryz.prog 112 #[clV x, .pointer (some ⟨bl, 0, none⟩), .pointer (some ⟨bs, 0, none⟩)] w fun e w' => e = .returned (.bool (!(vCl x && decide (z < nCl x)))) ∧ w.grownBy w' (some bs) ∧ w'.heap[bs]? = some (.cells #[.int .i64 (nCl x)] 3 (0, 0)) := by
 by_cases h : vCl x = true
 ·exact chk1K_y x z bl bs w hl hs (hid h)
 ·exact chk1K_n x z bl bs w hl hs (hid (by simpa using h))
theorem indexK (ls : List Cl) (A : Option Addr) (n c : Nat) (z : Int) (bl bs M : Nat) (w : World) (hn : n ≤ 9223372036854775807) (hM : M ≤ bl) (hMs : M ≤ bs) (hne : bl ≠ bs) (hl : Hid (w.heap[bl]? = some (.cells tabK 95 (0, 0)))) (hs : Hid (w.heap[bs]? = some (.cells #[.int .i64 z] 3 (0, 0)))) (h : Hid (InCl w A n c ls)) (hbo : Hid (∀ g off, A = some ⟨g, off, none⟩ → 0 < ls.length → g < M)) :
  Calls Tryz.prog 141 #[.slice A n c, .func (.func 112) #[] #[.pointer (some ⟨bl, 0, none⟩), .pointer (some ⟨bs, 0, none⟩)]] w fun e w' => ∃ r : Int, e = .returned (.int .i64 r) ∧ decide (0 ≤ r) = !(chkE vCl nCl z ls) ∧ w.grownBy w' (some bs) := by
 have HN := hid (show ls.length = n from h.out.len)
 have HGW : Hid (w.grownBy w (some bs)) := hid ⟨rfl, rfl, rfl, Nat.le_refl _, fun _ _ _ => rfl⟩
 go_enter Tryz.func141, Tryz.ntmps141
 go_wp2_with fail
 go_loopw [8] (fun i wr => ∃ (j : Nat) (y : Int), j ≤ n ∧ i = .int .i64 (j : Nat) ∧ Hid (chkE vCl nCl z ls = chkE vCl nCl y (ls.drop j)) ∧ Hid (w.grownBy wr (some bs)) ∧ Hid (wr.heap[bs]? = some (.cells #[.int .i64 y] 3 (0, 0)))) (fun i _ => n - (intOf i).toNat)
 case atStart => exact ⟨0, z, by omega, rfl, hid rfl, HGW, hs⟩
 case round =>
  clear HGW hs
  obtain ⟨j, y, hj, rfl, HCH, HG, HS⟩ := hrel
  by_cases hlt : j < n
  ·have d1 : decide ((j : Int) < (n : Int)) = true := eQ (by omega)
   have d2 : decide (j < n) = true := eQ hlt
   have hjl : j < ls.length := by rw [HN.out]; exact hlt
   obtain ⟨g, off, rfl, hg, hr⟩ := h.out.rd (by omega)
   obtain ⟨x, HX⟩ : ∃ x, Hid (ls[j] = x) := ⟨_, hid rfl⟩
   have HR : Hid (wr.rangeAt g (off + j * 3) (clC x)) := hid (by
    rw [← HX.out]
    intro i v hi
    have h1 := range_elem clC_len hr j hjl i v hi
    have hgM := hbo.out g off rfl (by omega)
    rw [← h1]
    exact World.cell?_of_block (HG.out.block g hg (fun e => by injection e with e; omega)))
   have HL : Hid (wr.heap[bl]? = some (.cells tabK 95 (0, 0))) := hid ((HG.out.block bl (Array.getElem?_eq_some_iff.1 hl.out).1 (fun e => by injection e with e; exact hne e)).trans hl.out)
   have HDR : Hid (ls.drop j = x :: ls.drop (j + 1)) := hid (by rw [List.drop_eq_getElem_cons hjl, HX.out])
   have HII := hid (clC_infoL x)
   clear hr
   go_wp2_with (with_reducible refine wpList_load_mid rfl 56 (.tmp 14) rfl g (off + j * 3) rfl (clC x) _ HR.out Tryz.underlying56 rfl HII.out ?_)
   rw [show Value.agg (clC x).toArray = clV x from rfl]
   refine (chk1K x y bl bs wr HL HS).mono ?_
   rintro e w2 ⟨rfl, hg2, hs2⟩
   have HG2 := hid (grown_trans HG.out hg2)
   have HS2 := hid hs2
   clear hg2 hs2
   by_cases hok : (vCl x && decide (y < nCl x)) = true
   ·have HCN : Hid (chkE vCl nCl z ls = chkE vCl nCl (nCl x) (ls.drop (j + 1))) := hid (by rw [HCH.out, HDR.out]; rw [chkE, hok, Bool.true_and])
    rw [hok]
    clear hok
    go_wp2_with fail
    go_roundw
    case rel => exact ⟨j + 1, _, by omega, by go_num, HCN, HG2, HS2⟩
    case measure => simp [intOf]; omega
   ·have hok' : (vCl x && decide (y < nCl x)) = false := by simpa using hok
    have HCN : Hid (chkE vCl nCl z ls = false) := hid (by rw [HCH.out, HDR.out]; rw [chkE, hok', Bool.false_and])
    rw [hok']
    clear hok hok'
    go_wp2_with fail
    go_ret
    exact ⟨_, rfl, by rw [HCN.out]; exact eQ (by omega), HG2.out⟩
  ·have d1 : decide ((j : Int) < (n : Int)) = false := dQ (by omega)
   have d2 : decide (j < n) = false := dQ hlt
   have HCN : Hid (chkE vCl nCl z ls = true) := hid (by rw [HCH.out, List.drop_eq_nil_of_le (by rw [HN.out]; omega)]; rfl)
   go_wp2_with fail
   go_ret
   exact ⟨_, rfl, by rw [HCN.out]; rfl, HG.out⟩
theorem containsK (ls : List Cl) (A : Option Addr) (n c : Nat) (z : Int) (bl bs M : Nat) (w : World) (hn : n ≤ 9223372036854775807) (hM : M ≤ bl) (hMs : M ≤ bs) (hne : bl ≠ bs) (hl : Hid (w.heap[bl]? = some (.cells tabK 95 (0, 0)))) (hs : Hid (w.heap[bs]? = some (.cells #[.int .i64 z] 3 (0, 0)))) (h : Hid (InCl w A n c ls)) (hbo : Hid (∀ g off, A = some ⟨g, off, none⟩ → 0 < ls.length → g < M)) :
  Calls Tryz.prog 111 #[.slice A n c, .func (.func 112) #[] #[.pointer (some ⟨bl, 0, none⟩), .pointer (some ⟨bs, 0, none⟩)]] w fun e w' => e = .returned (.bool (!(chkE vCl nCl z ls))) ∧ w.grownBy w' (some bs) := by
 go_enter Tryz.func111, Tryz.ntmps111
 go_wp2_with fail
 refine (indexK ls A n c z bl bs M w hn hM hMs hne hl hs h hbo).mono ?_
 rintro e w2 ⟨r, rfl, hr, hg⟩
 have HR := hid hr
 have HG := hid hg
 clear hr hg
 go_wp2_with fail
 go_ret
 exact ⟨by rw [← HR.out]; rfl, HG.out⟩
theorem checkK (ls : List Cl) (A : Option Addr) (n c : Nat) (w : World) (hn : n ≤ 9223372036854775807) (h : Hid (InCl w A n c ls)) :
  Calls Tryz.prog 54 #[.agg tabK, .slice A n c] w fun e w' => e = .returned (.bool (chkE vCl nCl (-1) ls)) ∧ Below w.heap.size w w' := by
 have hb0 := ((Below.refl _ w).alloc (Nat.le_refl _) (.cells tabK 95)).alloc (by simp) (.cells #[.int .i64 (-1)] 3)
 have hr0 := (Below.heap_alloc (w.alloc (.cells tabK 95)) (.cells #[.int .i64 (-1)] 3) w.heap.size (by simp)).trans (heap_alloc_new w (.cells tabK 95))
 have hr1 := heap_alloc_new (w.alloc (.cells tabK 95)) (.cells #[.int .i64 (-1)] 3)
 rw [World.size_alloc] at hr1
 have HB0 := hid hb0
 have HL0 := hid hr0
 have HS0 := hid hr1
 have HI0 := hid (h.out.below hb0)
 have HBO : Hid (∀ g off, A = some ⟨g, off, none⟩ → 0 < ls.length → g < w.heap.size) := hid (fun g off e h0 => by
  obtain ⟨g', off', e', hg, _⟩ := h.out.rd h0
  rw [e] at e'; injection e' with e'; injection e' with e1 e2; omega)
 clear hb0 hr0 hr1
 go_enter Tryz.func54, Tryz.ntmps54
 go_wp2_with fail
 refine (containsK ls A n c (-1) w.heap.size (w.heap.size + 1) w.heap.size _ hn (Nat.le_refl _) (Nat.le_succ _) (by omega) HL0 HS0 HI0 HBO).mono ?_
 rintro e w2 ⟨rfl, hg⟩
 have HB2 : Hid (Below w.heap.size w w2) := hid (HB0.out.grown hg HB0.out.size (fun k hk => by injection hk with hk; omega))
 clear hg
 go_wp2_with fail
 go_ret
 exact ⟨by simp, HB2.out⟩
def inB (x lo hi : Int) : Bool := decide (lo ≤ x) && decide (x ≤ hi)
/-- a transcript is valid -/
def trG (t : Tr) : Bool := inB t.cam 0 6 && (inB t.stu 0 19999 && (inB t.ver 1 1048576 && (inB t.kno 1 16777216 && (decide (t.ln.length ≤ 4096) && (chkE vLn nLn (-1) t.ln && chkE vCl nCl (-1) t.cl)))))
def trE (t : Tr) : Int := if trG t then 0 else 420
theorem TrOk.below {w w' : World} {t : Tr} {p : TrP} (h : TrOk w t p) (hb : Below w.heap.size w w') : TrOk w' t p := ⟨h.b0, h.b1, h.b2, h.b3, h.ln.below hb, h.cl.below hb, h.len, h.bytes, h.mn, h.mc⟩
def wCk (bt : Nat) (t : Tr) (p : TrP) (b0 b1 b2 b3 b4 b5 b6 r0 r1 r2 r3 r4 r5 r6 : Bool) : Nat → Value → Prop
 | 0, fv => fv = .pointer (some { block := bt, off := 0 })
 | 1, fv => fv = .int .i64 t.cam
 | 2, fv => fv = .bool b0
 | 3, fv => fv = .bool r0
 | 4, fv => fv = .bool r0
 | 5, fv => fv = bif r0 then undef else .pointer (some { block := bt, off := 1 })
 | 6, fv => fv = bif r0 then undef else .int .i64 t.stu
 | 7, fv => fv = bif r0 then undef else .bool b1
 | 8, fv => fv = bif r0 then undef else .bool (!b1)
 | 9, fv => fv = .bool r1
 | 10, fv => fv = .bool r1
 | 11, fv => fv = bif r1 then undef else .pointer (some { block := bt, off := 2 })
 | 12, fv => fv = bif r1 then undef else .int .i64 t.ver
 | 13, fv => fv = bif r1 then undef else .bool b2
 | 14, fv => fv = bif r1 then undef else .bool (!b2)
 | 15, fv => fv = .bool r2
 | 16, fv => fv = .bool r2
 | 17, fv => fv = bif r2 then undef else .pointer (some { block := bt, off := 3 })
 | 18, fv => fv = bif r2 then undef else .int .i64 t.kno
 | 19, fv => fv = bif r2 then undef else .bool b3
 | 20, fv => fv = bif r2 then undef else .bool (!b3)
 | 21, fv => fv = .bool r3
 | 22, fv => fv = .bool r3
 | 23, fv => fv = bif r3 then undef else .pointer (some { block := bt, off := 4 })
 | 24, fv => fv = bif r3 then undef else .slice p.A p.n p.c
 | 25, fv => fv = bif r3 then undef else .int .i64 (p.n : Nat)
 | 26, fv => fv = bif r3 then undef else .bool (!b4)
 | 27, fv => fv = .bool r4
 | 28, fv => fv = .bool r4
 | 29, fv => fv = bif r4 then undef else .agg tabL
 | 30, fv => fv = bif r4 then undef else .pointer (some { block := bt, off := 4 })
 | 31, fv => fv = bif r4 then undef else .slice p.A p.n p.c
 | 32, fv => fv = bif r4 then undef else .bool b5
 | 33, fv => fv = bif r4 then undef else .bool (!b5)
 | 34, fv => fv = .bool r5
 | 35, fv => fv = .bool r5
 | 36, fv => fv = bif r5 then undef else .agg tabK
 | 37, fv => fv = bif r5 then undef else .pointer (some { block := bt, off := 5 })
 | 38, fv => fv = bif r5 then undef else .slice p.A2 p.n2 p.c2
 | 39, fv => fv = bif r5 then undef else .bool b6
 | 40, fv => fv = bif r5 then undef else .bool (!b6)
 | 41, fv => fv = .bool r6
 | _, _ => True
theorem trE_of (t : Tr) (b0 b1 b2 b3 b4 b5 b6 : Bool) (h0 : (inB t.cam 0 6) = b0) (h1 : (inB t.stu 0 19999) = b1) (h2 : (inB t.ver 1 1048576) = b2) (h3 : (inB t.kno 1 16777216) = b3) (h4 : (decide (t.ln.length ≤ 4096)) = b4) (h5 : (chkE vLn nLn (-1) t.ln) = b5) (h6 : (chkE vCl nCl (-1) t.cl) = b6) : trE t = bif (!b0) || ((!b1) || ((!b2) || ((!b3) || ((!b4) || ((!b5) || (!b6)))))) then 420 else 0 := by
 unfold trE trG
 rw [h0, h1, h2, h3, h4, h5, h6]
 cases b0 <;> cases b1 <;> cases b2 <;> cases b3 <;> cases b4 <;> cases b5 <;> cases b6 <;> rfl
theorem check_any (t : Tr) (p : TrP) (w : World) (h : Hid (TrOk w t p)) :
  Calls Tryz.prog 17 #[trV t p] w fun e w' => e = .returned (.int .i64 (trE t)) ∧ Below w.heap.size w w' := by
 obtain ⟨b0, HQ0⟩ : ∃ b, Hid ((inB t.cam 0 6) = b) := ⟨_, hid rfl⟩
 obtain ⟨b1, HQ1⟩ : ∃ b, Hid ((inB t.stu 0 19999) = b) := ⟨_, hid rfl⟩
 obtain ⟨b2, HQ2⟩ : ∃ b, Hid ((inB t.ver 1 1048576) = b) := ⟨_, hid rfl⟩
 obtain ⟨b3, HQ3⟩ : ∃ b, Hid ((inB t.kno 1 16777216) = b) := ⟨_, hid rfl⟩
 obtain ⟨b4, HQ4⟩ : ∃ b, Hid ((decide (t.ln.length ≤ 4096)) = b) := ⟨_, hid rfl⟩
 obtain ⟨b5, HQ5⟩ : ∃ b, Hid ((chkE vLn nLn (-1) t.ln) = b) := ⟨_, hid rfl⟩
 obtain ⟨b6, HQ6⟩ : ∃ b, Hid ((chkE vCl nCl (-1) t.cl) = b) := ⟨_, hid rfl⟩
 have HTE := hid (trE_of t b0 b1 b2 b3 b4 b5 b6 HQ0.out HQ1.out HQ2.out HQ3.out HQ4.out HQ5.out HQ6.out)
 obtain ⟨r0, HR0⟩ : ∃ b, Hid ((!b0) = b) := ⟨_, hid rfl⟩
 obtain ⟨r1, HR1⟩ : ∃ b, Hid ((r0 || (!b1)) = b) := ⟨_, hid rfl⟩
 obtain ⟨r2, HR2⟩ : ∃ b, Hid ((r1 || (!b2)) = b) := ⟨_, hid rfl⟩
 obtain ⟨r3, HR3⟩ : ∃ b, Hid ((r2 || (!b3)) = b) := ⟨_, hid rfl⟩
 obtain ⟨r4, HR4⟩ : ∃ b, Hid ((r3 || (!b4)) = b) := ⟨_, hid rfl⟩
 obtain ⟨r5, HR5⟩ : ∃ b, Hid ((r4 || (!b5)) = b) := ⟨_, hid rfl⟩
 obtain ⟨r6, HR6⟩ : ∃ b, Hid ((r5 || (!b6)) = b) := ⟨_, hid rfl⟩
 have HTR : Hid (trE t = bif r6 then 420 else 0) := hid (by
  rw [HTE.out, ← HR6.out, ← HR5.out, ← HR4.out, ← HR3.out, ← HR2.out, ← HR1.out, ← HR0.out]
  simp only [Bool.or_assoc])
 have hml : maxLen ≤ 9223372036854775807 := by unfold maxLen; omega
 have HM1 : Hid (p.n ≤ 9223372036854775807) := hid (Nat.le_trans h.out.mn hml)
 have HM2 : Hid (p.n2 ≤ 9223372036854775807) := hid (Nat.le_trans h.out.mc hml)
 have HD4 : Hid (decide ((4096 : Int) < (p.n : Int)) = !b4) := hid (by
  rw [← HQ4.out, h.out.ln.len, ← decide_not]
  exact decide_eq_decide.2 (by omega))
 have HB0 := hid ((Below.refl _ w).alloc (Nat.le_refl _) (.cells (trC t p).toArray 27))
 have HRW := hid (heap_alloc_new w (.cells (trC t p).toArray 27))
 have HO1 := hid (h.out.below HB0.out)
 rw [show trV t p = .agg (trC t p).toArray from rfl]
 clear hml
 go_enter Tryz.func17, Tryz.ntmps17
 go_wp2_with fail
 generalize w.alloc (.cells (trC t p).toArray 27) = W1 at *
 refine region_flow3 (by kernel_rfl) (by kernel_rfl) (fun i => Nat.beq i 41) (fun i => i) (by kernel_rfl) (fun fx => #[.agg (trC t p).toArray, .pointer (some { block := w.heap.size, off := 0 }), .int .i64 0, fx 0, fx 1, fx 2, fx 3, fx 4, fx 5, fx 6, fx 7, fx 8, fx 9, fx 10, fx 11, fx 12, fx 13, fx 14, fx 15, fx 16, fx 17, fx 18, fx 19, fx 20, fx 21, fx 22, fx 23, fx 24, fx 25, fx 26, fx 27, fx 28, fx 29, fx 30, fx 31, fx 32, fx 33, fx 34, fx 35, fx 36, fx 37, fx 38, fx 39, fx 40, fx 41]) (fun _ => undef) (fun L fx w' => Below W1.heap.size W1 w') (fun fi fv _ _ => wCk w.heap.size t p b0 b1 b2 b3 b4 b5 b6 r0 r1 r2 r3 r4 r5 r6 fi fv) (Below.refl _ _).drew ?_ ?_
 ·refine ⟨?_, ?_, ?_, ?_, ?_, ?_, ?_, ?_, ?_, ?_, ?_, ?_, ?_, ?_, ?_, ?_, ?_, ?_, ?_, ?_, ?_, ?_, ?_, ?_, ?_, ?_, ?_, ?_, ?_, ?_, ?_, ?_, ?_, ?_, ?_, ?_, ?_, ?_, ?_, ?_, ?_, ?_, trivial⟩
  all_goals intro L fx w' hC hi hcl hdn hd
  ·clear hd
   go_wp2_with fail
   exact ⟨_, rfl, hC, rfl, kP⟩
  ·have h0 : fx 0 = .pointer (some { block := w.heap.size, off := 0 }) := hd.1 rfl
   clear hd
   have hcc : w'.cell? ⟨w.heap.size, 0, none⟩ = some (.int .i64 t.cam) := by rw [cell_of_row _ _ _ _ _ _ (row_kept HRW.out hC)]; rfl
   go_wp2_with fail
   exact ⟨_, by simp only [upd, h0]; rfl, hC, rfl, kP⟩
  ·have h1 : fx 1 = .int .i64 t.cam := hd.1 rfl
   clear hd
   go_wp2_with fail
   refine (in_any t.cam 0 6 w').mono ?_
   rintro e w2 ⟨rfl, rfl⟩
   rw [show (decide (0 ≤ t.cam) && decide (t.cam ≤ 6)) = b0 from HQ0.out]
   go_wp2_with fail
   exact ⟨_, by simp only [upd, h1]; rfl, hC, rfl, kP⟩
  ·have h2 : fx 2 = .bool b0 := hd.1 rfl
   clear hd
   go_wp2_with fail
   exact ⟨_, by simp only [upd, h2]; rfl, hC, by rw [← HR0.out]; rfl, kP⟩
  ·have h3 : fx 3 = .bool r0 := hd.1 rfl
   clear hd
   go_wp2_with fail
   exact ⟨_, by simp only [upd, h3]; rfl, hC, rfl, kP⟩
  ·have h4 : fx 4 = .bool r0 := hd.1 rfl
   clear hd
   cases r0
   ·dsimp only
    rw [h4]
    refine wpList_unguard rfl ?_
    go_wp2_with fail
    exact ⟨_, by simp only [upd, h4]; rfl, hC, rfl, kP⟩
   ·go_wp2_with fail
    exact ⟨_, by simp only [upd, h4]; rfl, hC, rfl, kP⟩
  ·have h5 : fx 5 = bif r0 then undef else .pointer (some { block := w.heap.size, off := 1 }) := hd.1 rfl
   have h4 : fx 4 = .bool r0 := hd.2.1 rfl
   clear hd
   cases r0
   ·simp only [cond_false] at h5
    dsimp only
    rw [h4]
    refine wpList_unguard rfl ?_
    have hcc : w'.cell? ⟨w.heap.size, 1, none⟩ = some (.int .i64 t.stu) := by rw [cell_of_row _ _ _ _ _ _ (row_kept HRW.out hC)]; rfl
    go_wp2_with fail
    exact ⟨_, by simp only [upd, h5, h4]; rfl, hC, rfl, kP⟩
   ·simp only [cond_true] at h5
    go_wp2_with fail
    exact ⟨_, by simp only [upd, h5, h4]; rfl, hC, rfl, kP⟩
  ·have h6 : fx 6 = bif r0 then undef else .int .i64 t.stu := hd.1 rfl
   have h4 : fx 4 = .bool r0 := hd.2.2.1 rfl
   clear hd
   cases r0
   ·simp only [cond_false] at h6
    dsimp only
    rw [h4]
    refine wpList_unguard rfl ?_
    go_wp2_with fail
    refine (in_any t.stu 0 19999 w').mono ?_
    rintro e w2 ⟨rfl, rfl⟩
    rw [show (decide (0 ≤ t.stu) && decide (t.stu ≤ 19999)) = b1 from HQ1.out]
    go_wp2_with fail
    exact ⟨_, by simp only [upd, h6, h4]; rfl, hC, rfl, kP⟩
   ·simp only [cond_true] at h6
    go_wp2_with fail
    exact ⟨_, by simp only [upd, h6, h4]; rfl, hC, rfl, kP⟩
  ·have h7 : fx 7 = bif r0 then undef else .bool b1 := hd.1 rfl
   have h4 : fx 4 = .bool r0 := hd.2.1 rfl
   clear hd
   cases r0
   ·simp only [cond_false] at h7
    dsimp only
    rw [h4]
    refine wpList_unguard rfl ?_
    go_wp2_with fail
    exact ⟨_, by simp only [upd, h7, h4]; rfl, hC, rfl, kP⟩
   ·simp only [cond_true] at h7
    go_wp2_with fail
    exact ⟨_, by simp only [upd, h7, h4]; rfl, hC, rfl, kP⟩
  ·have h4 : fx 4 = .bool r0 := hd.1 rfl
   have h8 : fx 8 = bif r0 then undef else .bool (!b1) := hd.2.1 rfl
   clear hd
   cases r0
   ·simp only [cond_false] at h8
    go_wp2_with fail
    exact ⟨_, by simp only [upd, h4, h8]; rfl, hC, by rw [← HR1.out]; rfl, kP⟩
   ·simp only [cond_true] at h8
    go_wp2_with fail
    exact ⟨_, by simp only [upd, h4, h8]; rfl, hC, by rw [← HR1.out]; rfl, kP⟩
  ·have h9 : fx 9 = .bool r1 := hd.1 rfl
   clear hd
   go_wp2_with fail
   exact ⟨_, by simp only [upd, h9]; rfl, hC, rfl, kP⟩
  ·have h10 : fx 10 = .bool r1 := hd.1 rfl
   clear hd
   cases r1
   ·dsimp only
    rw [h10]
    refine wpList_unguard rfl ?_
    go_wp2_with fail
    exact ⟨_, by simp only [upd, h10]; rfl, hC, rfl, kP⟩
   ·go_wp2_with fail
    exact ⟨_, by simp only [upd, h10]; rfl, hC, rfl, kP⟩
  ·have h11 : fx 11 = bif r1 then undef else .pointer (some { block := w.heap.size, off := 2 }) := hd.1 rfl
   have h10 : fx 10 = .bool r1 := hd.2.1 rfl
   clear hd
   cases r1
   ·simp only [cond_false] at h11
    dsimp only
    rw [h10]
    refine wpList_unguard rfl ?_
    have hcc : w'.cell? ⟨w.heap.size, 2, none⟩ = some (.int .i64 t.ver) := by rw [cell_of_row _ _ _ _ _ _ (row_kept HRW.out hC)]; rfl
    go_wp2_with fail
    exact ⟨_, by simp only [upd, h11, h10]; rfl, hC, rfl, kP⟩
   ·simp only [cond_true] at h11
    go_wp2_with fail
    exact ⟨_, by simp only [upd, h11, h10]; rfl, hC, rfl, kP⟩
  ·have h12 : fx 12 = bif r1 then undef else .int .i64 t.ver := hd.1 rfl
   have h10 : fx 10 = .bool r1 := hd.2.2.1 rfl
   clear hd
   cases r1
   ·simp only [cond_false] at h12
    dsimp only
    rw [h10]
    refine wpList_unguard rfl ?_
    go_wp2_with fail
    refine (in_any t.ver 1 1048576 w').mono ?_
    rintro e w2 ⟨rfl, rfl⟩
    rw [show (decide (1 ≤ t.ver) && decide (t.ver ≤ 1048576)) = b2 from HQ2.out]
    go_wp2_with fail
    exact ⟨_, by simp only [upd, h12, h10]; rfl, hC, rfl, kP⟩
   ·simp only [cond_true] at h12
    go_wp2_with fail
    exact ⟨_, by simp only [upd, h12, h10]; rfl, hC, rfl, kP⟩
  ·have h13 : fx 13 = bif r1 then undef else .bool b2 := hd.1 rfl
   have h10 : fx 10 = .bool r1 := hd.2.1 rfl
   clear hd
   cases r1
   ·simp only [cond_false] at h13
    dsimp only
    rw [h10]
    refine wpList_unguard rfl ?_
    go_wp2_with fail
    exact ⟨_, by simp only [upd, h13, h10]; rfl, hC, rfl, kP⟩
   ·simp only [cond_true] at h13
    go_wp2_with fail
    exact ⟨_, by simp only [upd, h13, h10]; rfl, hC, rfl, kP⟩
  ·have h10 : fx 10 = .bool r1 := hd.1 rfl
   have h14 : fx 14 = bif r1 then undef else .bool (!b2) := hd.2.1 rfl
   clear hd
   cases r1
   ·simp only [cond_false] at h14
    go_wp2_with fail
    exact ⟨_, by simp only [upd, h10, h14]; rfl, hC, by rw [← HR2.out]; rfl, kP⟩
   ·simp only [cond_true] at h14
    go_wp2_with fail
    exact ⟨_, by simp only [upd, h10, h14]; rfl, hC, by rw [← HR2.out]; rfl, kP⟩
  ·have h15 : fx 15 = .bool r2 := hd.1 rfl
   clear hd
   go_wp2_with fail
   exact ⟨_, by simp only [upd, h15]; rfl, hC, rfl, kP⟩
  ·have h16 : fx 16 = .bool r2 := hd.1 rfl
   clear hd
   cases r2
   ·dsimp only
    rw [h16]
    refine wpList_unguard rfl ?_
    go_wp2_with fail
    exact ⟨_, by simp only [upd, h16]; rfl, hC, rfl, kP⟩
   ·go_wp2_with fail
    exact ⟨_, by simp only [upd, h16]; rfl, hC, rfl, kP⟩
  ·have h17 : fx 17 = bif r2 then undef else .pointer (some { block := w.heap.size, off := 3 }) := hd.1 rfl
   have h16 : fx 16 = .bool r2 := hd.2.1 rfl
   clear hd
   cases r2
   ·simp only [cond_false] at h17
    dsimp only
    rw [h16]
    refine wpList_unguard rfl ?_
    have hcc : w'.cell? ⟨w.heap.size, 3, none⟩ = some (.int .i64 t.kno) := by rw [cell_of_row _ _ _ _ _ _ (row_kept HRW.out hC)]; rfl
    go_wp2_with fail
    exact ⟨_, by simp only [upd, h17, h16]; rfl, hC, rfl, kP⟩
   ·simp only [cond_true] at h17
    go_wp2_with fail
    exact ⟨_, by simp only [upd, h17, h16]; rfl, hC, rfl, kP⟩
  ·have h18 : fx 18 = bif r2 then undef else .int .i64 t.kno := hd.1 rfl
   have h16 : fx 16 = .bool r2 := hd.2.2.1 rfl
   clear hd
   cases r2
   ·simp only [cond_false] at h18
    dsimp only
    rw [h16]
    refine wpList_unguard rfl ?_
    go_wp2_with fail
    refine (in_any t.kno 1 16777216 w').mono ?_
    rintro e w2 ⟨rfl, rfl⟩
    rw [show (decide (1 ≤ t.kno) && decide (t.kno ≤ 16777216)) = b3 from HQ3.out]
    go_wp2_with fail
    exact ⟨_, by simp only [upd, h18, h16]; rfl, hC, rfl, kP⟩
   ·simp only [cond_true] at h18
    go_wp2_with fail
    exact ⟨_, by simp only [upd, h18, h16]; rfl, hC, rfl, kP⟩
  ·have h19 : fx 19 = bif r2 then undef else .bool b3 := hd.1 rfl
   have h16 : fx 16 = .bool r2 := hd.2.1 rfl
   clear hd
   cases r2
   ·simp only [cond_false] at h19
    dsimp only
    rw [h16]
    refine wpList_unguard rfl ?_
    go_wp2_with fail
    exact ⟨_, by simp only [upd, h19, h16]; rfl, hC, rfl, kP⟩
   ·simp only [cond_true] at h19
    go_wp2_with fail
    exact ⟨_, by simp only [upd, h19, h16]; rfl, hC, rfl, kP⟩
  ·have h16 : fx 16 = .bool r2 := hd.1 rfl
   have h20 : fx 20 = bif r2 then undef else .bool (!b3) := hd.2.1 rfl
   clear hd
   cases r2
   ·simp only [cond_false] at h20
    go_wp2_with fail
    exact ⟨_, by simp only [upd, h16, h20]; rfl, hC, by rw [← HR3.out]; rfl, kP⟩
   ·simp only [cond_true] at h20
    go_wp2_with fail
    exact ⟨_, by simp only [upd, h16, h20]; rfl, hC, by rw [← HR3.out]; rfl, kP⟩
  ·have h21 : fx 21 = .bool r3 := hd.1 rfl
   clear hd
   go_wp2_with fail
   exact ⟨_, by simp only [upd, h21]; rfl, hC, rfl, kP⟩
  ·have h22 : fx 22 = .bool r3 := hd.1 rfl
   clear hd
   cases r3
   ·dsimp only
    rw [h22]
    refine wpList_unguard rfl ?_
    go_wp2_with fail
    exact ⟨_, by simp only [upd, h22]; rfl, hC, rfl, kP⟩
   ·go_wp2_with fail
    exact ⟨_, by simp only [upd, h22]; rfl, hC, rfl, kP⟩
  ·have h23 : fx 23 = bif r3 then undef else .pointer (some { block := w.heap.size, off := 4 }) := hd.1 rfl
   have h22 : fx 22 = .bool r3 := hd.2.1 rfl
   clear hd
   cases r3
   ·simp only [cond_false] at h23
    dsimp only
    rw [h22]
    refine wpList_unguard rfl ?_
    have hcc : w'.cell? ⟨w.heap.size, 4, none⟩ = some (.slice p.A p.n p.c) := by rw [cell_of_row _ _ _ _ _ _ (row_kept HRW.out hC)]; rfl
    go_wp2_with fail
    exact ⟨_, by simp only [upd, h23, h22]; rfl, hC, rfl, kP⟩
   ·simp only [cond_true] at h23
    go_wp2_with fail
    exact ⟨_, by simp only [upd, h23, h22]; rfl, hC, rfl, kP⟩
  ·have h24 : fx 24 = bif r3 then undef else .slice p.A p.n p.c := hd.1 rfl
   have h22 : fx 22 = .bool r3 := hd.2.1 rfl
   clear hd
   cases r3
   ·simp only [cond_false] at h24
    dsimp only
    rw [h22]
    refine wpList_unguard rfl ?_
    go_wp2_with fail
    exact ⟨_, by simp only [upd, h24, h22]; rfl, hC, rfl, kP⟩
   ·simp only [cond_true] at h24
    go_wp2_with fail
    exact ⟨_, by simp only [upd, h24, h22]; rfl, hC, rfl, kP⟩
  ·have h25 : fx 25 = bif r3 then undef else .int .i64 (p.n : Nat) := hd.1 rfl
   have h22 : fx 22 = .bool r3 := hd.2.1 rfl
   clear hd
   cases r3
   ·simp only [cond_false] at h25
    dsimp only
    rw [h22]
    refine wpList_unguard rfl ?_
    have d4 := HD4.out
    go_wp2_with fail
    exact ⟨_, by simp only [upd, h25, h22]; rfl, hC, rfl, kP⟩
   ·simp only [cond_true] at h25
    go_wp2_with fail
    exact ⟨_, by simp only [upd, h25, h22]; rfl, hC, rfl, kP⟩
  ·have h22 : fx 22 = .bool r3 := hd.1 rfl
   have h26 : fx 26 = bif r3 then undef else .bool (!b4) := hd.2.1 rfl
   clear hd
   cases r3
   ·simp only [cond_false] at h26
    go_wp2_with fail
    exact ⟨_, by simp only [upd, h22, h26]; rfl, hC, by rw [← HR4.out]; rfl, kP⟩
   ·simp only [cond_true] at h26
    go_wp2_with fail
    exact ⟨_, by simp only [upd, h22, h26]; rfl, hC, by rw [← HR4.out]; rfl, kP⟩
  ·have h27 : fx 27 = .bool r4 := hd.1 rfl
   clear hd
   go_wp2_with fail
   exact ⟨_, by simp only [upd, h27]; rfl, hC, rfl, kP⟩
  ·have h28 : fx 28 = .bool r4 := hd.2.1 rfl
   clear hd
   cases r4
   ·dsimp only
    rw [h28]
    refine wpList_unguard rfl ?_
    go_wp2_with fail
    refine (lines_any w').mono ?_
    rintro e w2 ⟨rfl, hq⟩
    go_wp2_with fail
    exact ⟨_, by simp only [upd, h28]; rfl, hC.trans (hq.mono hC.size), rfl, kP⟩
   ·go_wp2_with fail
    exact ⟨_, by simp only [upd, h28]; rfl, hC, rfl, kP⟩
  ·have h28 : fx 28 = .bool r4 := hd.1 rfl
   clear hd
   cases r4
   ·dsimp only
    rw [h28]
    refine wpList_unguard rfl ?_
    go_wp2_with fail
    exact ⟨_, by simp only [upd, h28]; rfl, hC, rfl, kP⟩
   ·go_wp2_with fail
    exact ⟨_, by simp only [upd, h28]; rfl, hC, rfl, kP⟩
  ·have h30 : fx 30 = bif r4 then undef else .pointer (some { block := w.heap.size, off := 4 }) := hd.1 rfl
   have h28 : fx 28 = .bool r4 := hd.2.1 rfl
   clear hd
   cases r4
   ·simp only [cond_false] at h30
    dsimp only
    rw [h28]
    refine wpList_unguard rfl ?_
    have hcc : w'.cell? ⟨w.heap.size, 4, none⟩ = some (.slice p.A p.n p.c) := by rw [cell_of_row _ _ _ _ _ _ (row_kept HRW.out hC)]; rfl
    go_wp2_with fail
    exact ⟨_, by simp only [upd, h30, h28]; rfl, hC, rfl, kP⟩
   ·simp only [cond_true] at h30
    go_wp2_with fail
    exact ⟨_, by simp only [upd, h30, h28]; rfl, hC, rfl, kP⟩
  ·have h29 : fx 29 = bif r4 then undef else .agg tabL := hd.1 rfl
   have h31 : fx 31 = bif r4 then undef else .slice p.A p.n p.c := hd.2.1 rfl
   have h28 : fx 28 = .bool r4 := hd.2.2.2.1 rfl
   clear hd
   cases r4
   ·simp only [cond_false] at h29 h31
    dsimp only
    rw [h28]
    refine wpList_unguard rfl ?_
    go_wp2_with fail
    refine (checkL t.ln p.A p.n p.c w' HM1.out (hid (HO1.out.ln.below hC))).mono ?_
    rintro e w2 ⟨rfl, hq⟩
    rw [HQ5.out]
    go_wp2_with fail
    exact ⟨_, by simp only [upd, h29, h31, h28]; rfl, hC.trans (hq.mono hC.size), rfl, kP⟩
   ·simp only [cond_true] at h29 h31
    go_wp2_with fail
    exact ⟨_, by simp only [upd, h29, h31, h28]; rfl, hC, rfl, kP⟩
  ·have h32 : fx 32 = bif r4 then undef else .bool b5 := hd.1 rfl
   have h28 : fx 28 = .bool r4 := hd.2.1 rfl
   clear hd
   cases r4
   ·simp only [cond_false] at h32
    dsimp only
    rw [h28]
    refine wpList_unguard rfl ?_
    go_wp2_with fail
    exact ⟨_, by simp only [upd, h32, h28]; rfl, hC, rfl, kP⟩
   ·simp only [cond_true] at h32
    go_wp2_with fail
    exact ⟨_, by simp only [upd, h32, h28]; rfl, hC, rfl, kP⟩
  ·have h28 : fx 28 = .bool r4 := hd.1 rfl
   have h33 : fx 33 = bif r4 then undef else .bool (!b5) := hd.2.1 rfl
   clear hd
   cases r4
   ·simp only [cond_false] at h33
    go_wp2_with fail
    exact ⟨_, by simp only [upd, h28, h33]; rfl, hC, by rw [← HR5.out]; rfl, kP⟩
   ·simp only [cond_true] at h33
    go_wp2_with fail
    exact ⟨_, by simp only [upd, h28, h33]; rfl, hC, by rw [← HR5.out]; rfl, kP⟩
  ·have h34 : fx 34 = .bool r5 := hd.1 rfl
   clear hd
   go_wp2_with fail
   exact ⟨_, by simp only [upd, h34]; rfl, hC, rfl, kP⟩
  ·have h35 : fx 35 = .bool r5 := hd.2.1 rfl
   clear hd
   cases r5
   ·dsimp only
    rw [h35]
    refine wpList_unguard rfl ?_
    go_wp2_with fail
    refine (claims_any w').mono ?_
    rintro e w2 ⟨rfl, hq⟩
    go_wp2_with fail
    exact ⟨_, by simp only [upd, h35]; rfl, hC.trans (hq.mono hC.size), rfl, kP⟩
   ·go_wp2_with fail
    exact ⟨_, by simp only [upd, h35]; rfl, hC, rfl, kP⟩
  ·have h35 : fx 35 = .bool r5 := hd.1 rfl
   clear hd
   cases r5
   ·dsimp only
    rw [h35]
    refine wpList_unguard rfl ?_
    go_wp2_with fail
    exact ⟨_, by simp only [upd, h35]; rfl, hC, rfl, kP⟩
   ·go_wp2_with fail
    exact ⟨_, by simp only [upd, h35]; rfl, hC, rfl, kP⟩
  ·have h37 : fx 37 = bif r5 then undef else .pointer (some { block := w.heap.size, off := 5 }) := hd.1 rfl
   have h35 : fx 35 = .bool r5 := hd.2.1 rfl
   clear hd
   cases r5
   ·simp only [cond_false] at h37
    dsimp only
    rw [h35]
    refine wpList_unguard rfl ?_
    have hcc : w'.cell? ⟨w.heap.size, 5, none⟩ = some (.slice p.A2 p.n2 p.c2) := by rw [cell_of_row _ _ _ _ _ _ (row_kept HRW.out hC)]; rfl
    go_wp2_with fail
    exact ⟨_, by simp only [upd, h37, h35]; rfl, hC, rfl, kP⟩
   ·simp only [cond_true] at h37
    go_wp2_with fail
    exact ⟨_, by simp only [upd, h37, h35]; rfl, hC, rfl, kP⟩
  ·have h36 : fx 36 = bif r5 then undef else .agg tabK := hd.1 rfl
   have h38 : fx 38 = bif r5 then undef else .slice p.A2 p.n2 p.c2 := hd.2.1 rfl
   have h35 : fx 35 = .bool r5 := hd.2.2.2.1 rfl
   clear hd
   cases r5
   ·simp only [cond_false] at h36 h38
    dsimp only
    rw [h35]
    refine wpList_unguard rfl ?_
    go_wp2_with fail
    refine (checkK t.cl p.A2 p.n2 p.c2 w' HM2.out (hid (HO1.out.cl.below hC))).mono ?_
    rintro e w2 ⟨rfl, hq⟩
    rw [HQ6.out]
    go_wp2_with fail
    exact ⟨_, by simp only [upd, h36, h38, h35]; rfl, hC.trans (hq.mono hC.size), rfl, kP⟩
   ·simp only [cond_true] at h36 h38
    go_wp2_with fail
    exact ⟨_, by simp only [upd, h36, h38, h35]; rfl, hC, rfl, kP⟩
  ·have h39 : fx 39 = bif r5 then undef else .bool b6 := hd.1 rfl
   have h35 : fx 35 = .bool r5 := hd.2.1 rfl
   clear hd
   cases r5
   ·simp only [cond_false] at h39
    dsimp only
    rw [h35]
    refine wpList_unguard rfl ?_
    go_wp2_with fail
    exact ⟨_, by simp only [upd, h39, h35]; rfl, hC, rfl, kP⟩
   ·simp only [cond_true] at h39
    go_wp2_with fail
    exact ⟨_, by simp only [upd, h39, h35]; rfl, hC, rfl, kP⟩
  ·have h35 : fx 35 = .bool r5 := hd.1 rfl
   have h40 : fx 40 = bif r5 then undef else .bool (!b6) := hd.2.1 rfl
   clear hd
   cases r5
   ·simp only [cond_false] at h40
    go_wp2_with fail
    exact ⟨_, by simp only [upd, h35, h40]; rfl, hC, by rw [← HR6.out]; rfl, kP⟩
   ·simp only [cond_true] at h40
    go_wp2_with fail
    exact ⟨_, by simp only [upd, h35, h40]; rfl, hC, by rw [← HR6.out]; rfl, kP⟩
 ·intro L fo w' hC hS
  have H41 := hid (hS 41 (by decide) rfl)
  have h41 : fo 41 = .bool r6 := H41.out
  rw [h41]
  have HBC := hid (HB0.out.trans (hC.mono HB0.out.size))
  clear hS hC h41 H41
  cases r6
  ·go_wp2_with fail
   go_ret
   exact ⟨by rw [HTR.out]; rfl, HBC.out⟩
  ·go_wp2_with fail
   go_ret
   exact ⟨by rw [HTR.out]; rfl, HBC.out⟩
theorem rows_four (w : World) (X Y Z : Array Value) (s t u : Nat) (o : Obj) : Below w.heap.size w ((((w.alloc (.cells X s)).alloc (.cells Y t)).alloc (.cells Z u)).alloc o) ∧ ((((w.alloc (.cells X s)).alloc (.cells Y t)).alloc (.cells Z u)).alloc o).heap[w.heap.size]? = some (.cells X s (0, 0)) ∧ ((((w.alloc (.cells X s)).alloc (.cells Y t)).alloc (.cells Z u)).alloc o).heap[w.heap.size + 1]? = some (.cells Y t (0, 0)) ∧ ((((w.alloc (.cells X s)).alloc (.cells Y t)).alloc (.cells Z u)).alloc o).heap[w.heap.size + 1 + 1]? = some (.cells Z u (0, 0)) ∧ ((((w.alloc (.cells X s)).alloc (.cells Y t)).alloc (.cells Z u)).alloc o).heap[w.heap.size + 1 + 1 + 1]? = some o := by
 have h1 := heap_alloc_new (w.alloc (.cells X s)) (.cells Y t)
 have h2 := heap_alloc_new ((w.alloc (.cells X s)).alloc (.cells Y t)) (.cells Z u)
 have h3 := heap_alloc_new (((w.alloc (.cells X s)).alloc (.cells Y t)).alloc (.cells Z u)) o
 simp only [World.size_alloc] at h1 h2 h3
 exact ⟨((((Below.refl _ w).alloc (Nat.le_refl _) _).alloc (by simp) _).alloc (by simp; omega) _).alloc (by simp; omega) _, by rw [Below.heap_alloc _ _ _ (by simp; omega), Below.heap_alloc _ _ _ (by simp; omega), Below.heap_alloc _ _ _ (by simp)]; exact heap_alloc_new w _, by rw [Below.heap_alloc _ _ _ (by simp), Below.heap_alloc _ _ _ (by simp)]; exact h1, by rw [Below.heap_alloc _ _ _ (by simp)]; exact h2, h3⟩
theorem saltN_ok (l : List Nat) (k z : Int) : DgOk (saltN l k z) := ⟨saltN_length l k z, tagged_bytes _ _⟩
theorem lnC_info3 (x : Ln) : (Tryz.prog.info? 45).map (·.size) = some (lnC x).toArray.size := by show _ = some 5; kernel_rfl
def wSaL (W0 : World) (bt : Nat) (br : Nat) (base : List Nat) (x : Ln) : Nat → Value → World → Prop
 | 0, fv, _ => fv = dgV base
 | 1, fv, _ => fv = .pointer (some { block := bt, off := 0 })
 | 2, fv, _ => fv = .int .i64 1
 | 3, fv, _ => fv = .pointer (some { block := bt, off := 2 })
 | 4, fv, _ => fv = .func (.func 94) #[] #[]
 | 5, fv, _ => fv = lnV x
 | 6, fv, _ => fv = .int .i64 (nLn x)
 | 7, fv, _ => fv = dgV (saltN base 1 (nLn x))
 | 8, fv, fw => fw.heap[br]? = some (.cells (dgC (saltN base 1 (nLn x))).toArray 25 (0, 0)) ∧ Below W0.heap.size W0 fw
 | _, _, _ => True
theorem wSaL_below {W0 : World} {bt : Nat} {br : Nat} {base : List Nat} {x : Ln} {w w' : World} (hb : Below w.heap.size w w') : ∀ j v, wSaL W0 bt br base x j v w → wSaL W0 bt br base x j v w'
 | 0, v, h => h
 | 1, v, h => h
 | 2, v, h => h
 | 3, v, h => h
 | 4, v, h => h
 | 5, v, h => h
 | 6, v, h => h
 | 7, v, h => h
 | 8, v, h => ⟨row_kept h.1 hb, h.2.trans (hb.mono h.2.size)⟩
 | n + 9, v, h => trivial
theorem wSaL_pure {W0 : World} {bt : Nat} {br : Nat} {base : List Nat} {x : Ln} {w w' : World} : ∀ j v, j ≠ 8 → wSaL W0 bt br base x j v w → wSaL W0 bt br base x j v w'
 | 0, v, _, h => h
 | 1, v, _, h => h
 | 2, v, _, h => h
 | 3, v, _, h => h
 | 4, v, _, h => h
 | 5, v, _, h => h
 | 6, v, _, h => h
 | 7, v, _, h => h
 | 8, v, hh, _ => absurd rfl hh
 | n + 9, v, _, h => trivial
theorem saltL (base : List Nat) (x : Ln) (w : World) (hba : Hid (DgOk base)) (hT : Hid (Tabs w)) :
  Calls Tryz.prog 43 #[.agg tabL, dgV base, lnV x] w fun e w' => e = .returned (dgV (saltN base 1 (nLn x))) ∧ Below w.heap.size w w' := by
 obtain ⟨t1, t2, t3, t4, t5⟩ := rows_four w tabL (dgC base).toArray (lnC x).toArray 86 25 45 (.cells (dgC zeroD).toArray 25)
 rw [zeroD_cells] at t1 t2 t3 t4 t5
 have HB0 := hid t1
 have HT0 := hid t2
 have HRB := hid t3
 have HRX := hid t4
 have HRR := hid t5
 have hT1 := hid (hT.out.below t1)
 have HIB := hid (dgC_info hba.out)
 have HIX := hid (lnC_info3 x)
 have HBD := hid (noL_bd x.c0 x.c1)
 have HS1 := hid (dgC_info (saltN_ok base 1 (nLn x)))
 have HS2 := hid (dgC_size (saltN_ok base 1 (nLn x)))
 clear t1 t2 t3 t4 t5
 rw [dgV_agg base, show lnV x = .agg (lnC x).toArray from rfl]
 go_enter Tryz.func43, Tryz.ntmps43
 go_wp2_with fail
 generalize ((((w.alloc (.cells tabL 86)).alloc (.cells (dgC base).toArray 25)).alloc (.cells (lnC x).toArray 45)).alloc (.cells #[.int .u8 0, .int .u8 0, .int .u8 0, .int .u8 0, .int .u8 0, .int .u8 0, .int .u8 0, .int .u8 0, .int .u8 0, .int .u8 0, .int .u8 0, .int .u8 0, .int .u8 0, .int .u8 0, .int .u8 0, .int .u8 0, .int .u8 0, .int .u8 0, .int .u8 0, .int .u8 0, .int .u8 0, .int .u8 0, .int .u8 0, .int .u8 0, .int .u8 0, .int .u8 0, .int .u8 0, .int .u8 0, .int .u8 0, .int .u8 0, .int .u8 0, .int .u8 0] 25)) = W1 at *
 refine region_flow4 (by kernel_rfl) (by kernel_rfl) (fun i => Nat.beq i 8) (fun i => i) (by kernel_rfl) (fun fx => #[.agg tabL, .agg (dgC base).toArray, .agg (lnC x).toArray, .pointer (some { block := w.heap.size, off := 0 }), .pointer (some { block := w.heap.size + 1, off := 0 }), .pointer (some { block := w.heap.size + 1 + 1, off := 0 }), .pointer (some { block := w.heap.size + 1 + 1 + 1, off := 0 }), fx 0, fx 1, fx 2, fx 3, fx 4, fx 5, fx 6, fx 7]) (fun _ => undef) (fun L fx w' => (L 8 = false → Below W1.heap.size W1 w')) (fun fi fv _ fw => wSaL w w.heap.size (w.heap.size + 1 + 1 + 1) base x fi fv fw) (fun _ => (Below.refl _ _).drew) ?_ ?_
 ·refine ⟨?_, ?_, ?_, ?_, ?_, ?_, ?_, ?_, ?_, trivial⟩
  all_goals intro L fx w' hC hi hcl hdn hd
  ·have hnd : L 8 = false := nQ hi (fun h => hcl 8 0 h (by kernel_rfl))
   have hrow := row_kept HRB.out (hC hnd)
   refine wpList_load_row rfl 25 (.tmp 4) rfl (w.heap.size + 1) rfl 25 _ (0, 0) _ hrow Tryz.underlying25 rfl HIB.out ?_
   clear hd
   go_wp2_with fail
   exact ⟨_, rfl, fun _ => hC hnd, rfl, kP⟩
  ·have hnd : L 8 = false := nQ hi (fun h => hcl 8 1 h (by kernel_rfl))
   go_wp2_with fail
   exact ⟨_, rfl, (fun _ => hC hnd), rfl, kP⟩
  ·have h1 : fx 1 = .pointer (some { block := w.heap.size, off := 0 }) := hd.1 rfl
   have hnd : L 8 = false := nQ hi (fun h => hcl 8 2 h (by kernel_rfl))
   have hcc : w'.cell? ⟨w.heap.size, 0, none⟩ = some (Value.int .i64 1) := by rw [cell_of_row _ _ _ _ _ _ (row_kept HT0.out (hC hnd))]; rfl
   go_wp2_with fail
   exact ⟨_, by simp only [upd, h1]; rfl, (fun _ => hC hnd), rfl, kP⟩
  ·have hnd : L 8 = false := nQ hi (fun h => hcl 8 3 h (by kernel_rfl))
   go_wp2_with fail
   exact ⟨_, rfl, (fun _ => hC hnd), rfl, kP⟩
  ·have h3 : fx 3 = .pointer (some { block := w.heap.size, off := 2 }) := hd.1 rfl
   have hnd : L 8 = false := nQ hi (fun h => hcl 8 4 h (by kernel_rfl))
   have hcc : w'.cell? ⟨w.heap.size, 2, none⟩ = some (Value.func (.func 94) #[] #[]) := by rw [cell_of_row _ _ _ _ _ _ (row_kept HT0.out (hC hnd))]; rfl
   go_wp2_with fail
   exact ⟨_, by simp only [upd, h3]; rfl, (fun _ => hC hnd), rfl, kP⟩
  ·have hnd : L 8 = false := nQ hi (fun h => hcl 8 5 h (by kernel_rfl))
   have hrow := row_kept HRX.out (hC hnd)
   refine wpList_load_row rfl 45 (.tmp 5) rfl (w.heap.size + 1 + 1) rfl 45 _ (0, 0) _ hrow Tryz.underlying45 rfl HIX.out ?_
   clear hd
   go_wp2_with fail
   exact ⟨_, rfl, fun _ => hC hnd, rfl, kP⟩
  ·have h4 : fx 4 = .func (.func 94) #[] #[] := hd.1 rfl
   have h5 : fx 5 = lnV x := hd.2.1 rfl
   have hnd : L 8 = false := nQ hi (fun h => hcl 8 6 h (by kernel_rfl))
   have hb12 := hC hnd
   go_wp2_with fail
   refine (nline_x x w').mono ?_
   rintro e w2 ⟨rfl, hq⟩
   go_wp2_with fail
   exact ⟨_, by simp only [upd, h4, h5]; rfl, fun _ => hb12.trans (hq.mono hb12.size), rfl, fun j v t _ _ h => wSaL_below hq j v h⟩
  ·have h0 : fx 0 = dgV base := hd.1 rfl
   have h2 : fx 2 = .int .i64 1 := hd.2.1 rfl
   have h6 : fx 6 = .int .i64 (nLn x) := hd.2.2.1 rfl
   have hnd : L 8 = false := nQ hi (fun h => hcl 8 7 h (by kernel_rfl))
   have hb12 := hC hnd
   go_wp2_with fail
   refine (salt_any base 1 (nLn x) w' (hid hba.out.len) (hid hba.out.bytes) (by decide) (by decide) HBD.out.1 HBD.out.2 (hid (hT1.out.below hb12))).mono ?_
   rintro e w2 ⟨rfl, hq⟩
   go_wp2_with fail
   exact ⟨_, by simp only [upd, h0, h2, h6]; rfl, fun _ => hb12.trans (hq.mono hb12.size), rfl, fun j v t _ _ h => wSaL_below hq j v h⟩
  ·have h7 : fx 7 = dgV (saltN base 1 (nLn x)) := hd.1 rfl
   have hb21 := hC hi
   have hrow := row_kept HRR.out hb21
   refine wpList_store_row rfl 25 (.tmp 6) (.tmp 14) rfl (w.heap.size + 1 + 1 + 1) (dgC (saltN base 1 (nLn x))).toArray rfl h7 25 _ hrow HS1.out HS2.out (dgC_one _) ?_
   clear hd
   go_wp2_with fail
   refine ⟨undef, by rw [← h7]; rfl, fun h => (updB_self h).elim, ⟨setRow_heap _ _ _ _ _ _ hrow, below_setRow (HB0.out.trans (hb21.mono HB0.out.size)) (by omega) _⟩, fun j v t hj hu h => ?_⟩
   refine wSaL_pure j v ?_ h
   intro e; subst e
   rw [hi] at hj; cases hj
 ·intro L fx w' hC hS
  have H8 := hid (hS 8 (by decide) rfl)
  clear hS hC
  go_wp2_with fail
  refine bodyPost_ret (results_cell_row rfl _ _ (w.heap.size + 1 + 1 + 1) 25 _ (0, 0) _ rfl H8.out.1 Tryz.underlying25 rfl HS1.out) rfl ?_
  exact ⟨rfl, H8.out.2⟩
theorem leafR_okL (x : Ln) (l : List Nat) : NdOk (leafR x.c0 x.c1 x.c2 x.c3 x.c4 l) := by
 unfold leafR
 split
 ·next h => exact leafN_ok l h
 ·exact zeroN_ok
theorem lnC_len4 (x : Ln) : (lnC x).length = 5 := rfl
theorem lnC_infoL4 (x : Ln) : (Tryz.prog.info? 45).map (·.size) = some (lnC x).length := by show _ = some 5; kernel_rfl
theorem lnC_info4 (x : Ln) : (Tryz.prog.info? 45).map (·.size) = some (lnC x).toArray.size := by show _ = some 5; kernel_rfl
theorem tr_salt {w : World} {g ty : Nat} {t : Tr} {p : TrP} (h : w.heap[g]? = some (.cells (trC t p).toArray ty (0, 0))) : w.rangeAt g 6 (dgC t.salt) := fun j v hj => by
 rw [cell_of_row w g (6 + j) _ _ _ h]
 have e : (trC t p).toArray[6 + j]? = (dgC t.salt)[j]? := by
  rw [List.getElem?_toArray, trC, List.getElem?_append_right (by simp)]
  congr 1
  simp
 rw [e]; exact hj
theorem trG_parts {t : Tr} (h : trG t = true) : t.ln.length ≤ 4096 ∧ chkE vLn nLn (-1) t.ln = true ∧ chkE vCl nCl (-1) t.cl = true := by
 unfold trG at h
 simp only [Bool.and_eq_true, decide_eq_true_eq] at h
 exact ⟨h.2.2.2.2.1, h.2.2.2.2.2.1, h.2.2.2.2.2.2⟩
theorem trG_lns {t : Tr} (h : trG t = true) : t.ln.length ≤ 100000 := by have := (trG_parts h).1; omega
theorem trE_yes {t : Tr} (h : trG t = true) : trE t = 0 := by unfold trE; rw [if_pos h]
theorem trE_no {t : Tr} (h : trG t = false) : trE t = 420 := by unfold trE; rw [h]; rfl
theorem trV_info (t : Tr) (p : TrP) (h : t.salt.length = 32) : (Tryz.prog.info? 27).map (·.size) = some (trC t p).toArray.size := by
 have e : (trC t p).toArray.size = 38 := by simp [trC, h]
 rw [e]; show _ = some 38; kernel_rfl
theorem dgC_infoK {l : List Nat} (h : DgOk l) : (Tryz.prog.info? 25).map (·.size) = some (dgC l).length := by rw [dgC_info h]; simp
def wNd (W1 : World) (bt : Nat) (t : Tr) (x : Ln) (s : List Nat) (r : Nd) : Nat → Value → Value → World → Prop
 | 0, fv, _, _ => fv = lnV x
 | 1, fv, _, _ => fv = .agg tabL
 | 2, fv, _, _ => fv = .pointer (some { block := bt, off := 6 })
 | 3, fv, _, _ => fv = dgV t.salt
 | 4, fv, _, _ => fv = lnV x
 | 5, fv, _, _ => fv = dgV s
 | 6, fv, _, _ => fv = .tuple #[ndV r, .int .i64 0]
 | 7, fv, _, _ => fv = .tuple #[ndV r, .int .i64 0]
 | 8, fv, _, _ => fv = ndV r
 | 9, fv, _, _ => fv = .int .i64 0
 | 10, fv, _, _ => fv = fv
 | 11, fv, _, _ => fv = fv
 | 12, fv, fu, fw => fv = .int .i64 0 ∧ ∃ q, fu = .pointer (some ⟨q, 0, none⟩) ∧ fw.heap[q]? = some (.cells (ndC r).toArray 39 (0, 0)) ∧ Below W1.heap.size W1 fw
 | _, _, _, _ => True
theorem wNd_below {W1 : World} {bt : Nat} {t : Tr} {x : Ln} {s : List Nat} {r : Nd} {w w' : World} (hb : Below w.heap.size w w') : ∀ j v u, wNd W1 bt t x s r j v u w → wNd W1 bt t x s r j v u w'
 | 0, v, u, h => h
 | 1, v, u, h => h
 | 2, v, u, h => h
 | 3, v, u, h => h
 | 4, v, u, h => h
 | 5, v, u, h => h
 | 6, v, u, h => h
 | 7, v, u, h => h
 | 8, v, u, h => h
 | 9, v, u, h => h
 | 10, v, u, h => h
 | 11, v, u, h => h
 | 12, v, u, ⟨h0, q, h1, h2, h3⟩ => ⟨h0, q, h1, row_kept h2 hb, h3.trans (hb.mono h3.size)⟩
 | n + 13, v, u, h => trivial
theorem wNd_pure {W1 : World} {bt : Nat} {t : Tr} {x : Ln} {s : List Nat} {r : Nd} {w w' : World} : ∀ j v u, j ≠ 12 → wNd W1 bt t x s r j v u w → wNd W1 bt t x s r j v u w'
 | 0, v, u, _, h => h
 | 1, v, u, _, h => h
 | 2, v, u, _, h => h
 | 3, v, u, _, h => h
 | 4, v, u, _, h => h
 | 5, v, u, _, h => h
 | 6, v, u, _, h => h
 | 7, v, u, _, h => h
 | 8, v, u, _, h => h
 | 9, v, u, _, h => h
 | 10, v, u, _, h => h
 | 11, v, u, _, h => h
 | 12, v, u, hh, _ => absurd rfl hh
 | n + 13, v, u, _, h => trivial
/-- the leaf of a line under a transcript's salt -/
def ndL (base : List Nat) (x : Ln) : Nd := leafR x.c0 x.c1 x.c2 x.c3 x.c4 (saltN base 1 (nLn x))
theorem leaf_x (x : Ln) (l : List Nat) (w : World) (hl : Hid (DgOk l)) (hT : Hid (Tabs w)) (hv : vLn x = true) : Calls Tryz.prog 41 #[lnV x, dgV l] w fun e w' => e = .returned (.tuple #[ndV (leafR x.c0 x.c1 x.c2 x.c3 x.c4 l), .int .i64 0]) ∧ Below w.heap.size w w' := by
 have h := leaf_any x.c0 x.c1 x.c2 x.c3 x.c4 l w (hid hl.out.len) (hid hl.out.bytes) hT
 rw [show leafE x.c0 x.c1 x.c2 x.c3 x.c4 = 0 from by unfold leafE; exact if_pos (of_decide_eq_true hv)] at h
 exact h
theorem chkE_all {α : Type} {v : α → Bool} {no : α → Int} : ∀ (xs : List α) (z : Int), chkE v no z xs = true → ∀ x ∈ xs, v x = true
 | [], z, _, x, hx => by cases hx
 | y :: ys, z, h, x, hx => by
  rw [chkE, Bool.and_eq_true, Bool.and_eq_true] at h
  rcases List.mem_cons.1 hx with e | hx
  ·rw [e]; exact h.1.1
  ·exact chkE_all ys (no y) h.2 x hx
def cNd (W1 : World) (r : Nd) (L : Nat → Bool) (fx : Nat → Value) (w' : World) : Prop := Below W1.heap.size W1 w' ∧ (L 10 = true → ∃ q, fx 10 = .pointer (some ⟨q, 0, none⟩) ∧ W1.heap.size ≤ q ∧ q < w'.heap.size ∧ w'.heap[q]? = some (.cells (ndC (bif L 11 then r else zeroN)).toArray 39 (0, 0)))
theorem cNd.below {W1 : World} {r : Nd} {L : Nat → Bool} {fx : Nat → Value} {w' w2 : World} (h : cNd W1 r L fx w') (hb : Below w'.heap.size w' w2) : cNd W1 r L fx w2 := by
 refine ⟨h.1.trans (hb.mono h.1.size), fun h10 => ?_⟩
 obtain ⟨q, e, h1, h2, h3⟩ := h.2 h10
 exact ⟨q, e, h1, Nat.lt_of_lt_of_le h2 hb.size, row_kept h3 hb⟩
theorem size34e {n : Nd} (h : NdOk n) : (Tryz.prog.info? 39).map (·.size) = some (ndC n).toArray.size := by rw [size34 h]; simp
theorem nodes_no (t : Tr) (p : TrP) (w : World) (h : Hid (TrOk w t p)) (hT : Hid (Tabs w)) (hg : Hid (trG t = false)) :
  Calls Tryz.prog 10 #[trV t p] w fun e w' => e = .returned (.tuple #[.slice none 0 0, .int .i64 420]) ∧ Below w.heap.size w w' := by
 have HE : Hid (trE t = 420) := hid (trE_no hg.out)
 have HB0 := hid ((Below.refl _ w).alloc (Nat.le_refl _) (.cells (trC t p).toArray 27))
 have HR0 := hid (heap_alloc_new w (.cells (trC t p).toArray 27))
 have HO1 := hid (h.out.below HB0.out)
 have hT1 := hid (hT.out.below HB0.out)
 have HIT := hid (trV_info t p h.out.len)
 rw [show trV t p = .agg (trC t p).toArray from rfl]
 go_enter Tryz.func10, Tryz.ntmps10
 go_wp2_with (refine wpList_load_row rfl 27 (.tmp 1) rfl w.heap.size rfl 27 _ (0, 0) _ HR0.out Tryz.underlying27 rfl HIT.out ?_)
 rw [show Value.agg (trC t p).toArray = trV t p from rfl]
 refine (check_any t p _ HO1).mono ?_
 rintro e W2 ⟨rfl, hq1⟩
 have HB2 := hid (HB0.out.trans (hq1.mono HB0.out.size))
 have HR2 := hid (row_kept HR0.out hq1)
 have HO2 := hid (HO1.out.below hq1)
 have hT2 := hid (hT1.out.below hq1)
 clear hq1 HR0 HO1 hT1 HB0
 rw [HE.out]
 go_wp2_with fail
 go_ret2
 exact ⟨rfl, HB2.out⟩
theorem nodes_yes (t : Tr) (p : TrP) (w : World) (h : Hid (TrOk w t p)) (hT : Hid (Tabs w)) (hg : Hid (trG t = true)) :
  Calls Tryz.prog 10 #[trV t p] w fun e w' => ∃ A' n' c', e = .returned (.tuple #[.slice A' n' c', .int .i64 0]) ∧ InN w' A' n' c' (t.ln.map (ndL t.salt)) ∧ Below w.heap.size w w' := by
 have HE : Hid (trE t = 0) := hid (trE_yes hg.out)
 have HN := hid (show t.ln.length = p.n from h.out.ln.len)
 have HNL : Hid (p.n ≤ 100000) := hid (by have := trG_lns hg.out; rw [HN.out] at this; exact this)
 have HSA : Hid (DgOk t.salt) := hid ⟨h.out.len, h.out.bytes⟩
 have HSK := hid (dgC_infoK HSA.out)
 have HVA : Hid (∀ x ∈ t.ln, vLn x = true) := hid (chkE_all _ _ (trG_parts hg.out).2.1)
 have HB0 := hid ((Below.refl _ w).alloc (Nat.le_refl _) (.cells (trC t p).toArray 27))
 have HR0 := hid (heap_alloc_new w (.cells (trC t p).toArray 27))
 have HO1 := hid (h.out.below HB0.out)
 have hT1 := hid (hT.out.below HB0.out)
 have HIT := hid (trV_info t p h.out.len)
 rw [show trV t p = .agg (trC t p).toArray from rfl]
 go_enter Tryz.func10, Tryz.ntmps10
 go_wp2_with (refine wpList_load_row rfl 27 (.tmp 1) rfl w.heap.size rfl 27 _ (0, 0) _ HR0.out Tryz.underlying27 rfl HIT.out ?_)
 rw [show Value.agg (trC t p).toArray = trV t p from rfl]
 refine (check_any t p _ HO1).mono ?_
 rintro e W2 ⟨rfl, hq1⟩
 have HB2 := hid (HB0.out.trans (hq1.mono HB0.out.size))
 have HR2 := hid (row_kept HR0.out hq1)
 have HO2 := hid (HO1.out.below hq1)
 have hT2 := hid (hT1.out.below hq1)
 clear hq1 HR0 HO1 hT1 HB0
 rw [HE.out]
 have HI2 := hid HO2.out.ln
 have kl : W2.cell? ⟨w.heap.size, 4, none⟩ = some (.slice p.A p.n p.c) := by rw [cell_of_row _ _ _ _ _ _ HR2.out]; rfl
 go_wp2_with fail
 go_loopw [17, 2] (fun i dd wr => ∃ (j : Nat) (P : List Nd), j ≤ p.n ∧ i = .int .i64 j ∧ Hid (P = (t.ln.take j).map (ndL t.salt)) ∧ Hid (OwnN wr W2.heap.size dd P) ∧ Hid (Below W2.heap.size W2 wr) ∧ ∃ A3 n3 c3, dd = .slice A3 n3 c3) (fun i _ _ => p.n - (intOf i).toNat)
 case atStart => exact ⟨0, [], by omega, rfl, hid rfl, hid (OwnN.nil _ _), hid (Below.refl _ _), _, _, _, rfl⟩
 case round =>
  clear kl
  obtain ⟨j, P, hj, rfl, HP, HOW, HB, A3, n3, c3, rfl⟩ := hrel
  by_cases hlt : j < p.n
  ·have d1 : decide ((j : Int) < (p.n : Int)) = true := eQ (by omega)
   have d2 : decide (j < p.n) = true := eQ hlt
   have hjl : j < t.ln.length := by rw [HN.out]; exact hlt
   obtain ⟨g, off, eA, hgl, hr⟩ := HI2.out.rd (by omega)
   obtain ⟨x, HX⟩ : ∃ x, Hid (t.ln[j] = x) := ⟨_, hid rfl⟩
   have HVX : Hid (vLn x = true) := hid (by rw [← HX.out]; exact HVA.out _ (List.getElem_mem hjl))
   have HR : Hid (wr.rangeAt g (off + j * 5) (lnC x)) := hid (by
    rw [← HX.out]
    exact rangeAt_below (range_elem lnC_len4 hr j hjl) hgl HB.out)
   have HII := hid (lnC_infoL4 x)
   have HIX := hid (lnC_info4 x)
   have HPL : Hid (P.length ≤ 100000) := hid (by have := HNL.out; rw [HP.out, List.length_map, List.length_take]; omega)
   obtain ⟨s, HS⟩ : ∃ s, Hid (saltN t.salt 1 (nLn x) = s) := ⟨_, hid rfl⟩
   have HSO : Hid (DgOk s) := hid (by rw [← HS.out]; exact saltN_ok _ _ _)
   obtain ⟨r, HD⟩ : ∃ r, Hid (leafR x.c0 x.c1 x.c2 x.c3 x.c4 s = r) := ⟨_, hid rfl⟩
   have HRO : Hid (NdOk r) := hid (by rw [← HD.out]; exact leafR_okL x s)
   have HS34 := hid (size34e HRO.out)
   have HT34 : Hid ((ndC zeroN).toArray.size = (ndC r).toArray.size) := hid (by simp [ndC_length HRO.out, ndC_length zeroN_ok])
   have HPN : Hid (P ++ [r] = (t.ln.take (j + 1)).map (ndL t.salt)) := hid (by rw [List.take_succ_eq_append_getElem hjl, List.map_append, ← HP.out, HX.out, ← HD.out, ← HS.out]; rfl)
   have HBX := hid ((Below.refl _ wr).alloc (Nat.le_refl _) (.cells (lnC x).toArray 45))
   have HRX := hid (heap_alloc_new wr (.cells (lnC x).toArray 45))
   rw [show (lnC x).toArray = #[.int .i64 x.c0, .int .i64 x.c1, .int .i64 x.c2, .int .i64 x.c3, .int .i64 x.c4] from rfl] at HBX HRX
   clear hr
   rw [eA]
   go_wp2_with (with_reducible refine wpList_load_mid rfl 45 (.tmp 19) rfl g (off + j * 5) rfl (lnC x) _ HR.out Tryz.underlying45 rfl HII.out ?_; rw [show Value.agg (lnC x).toArray = .agg #[.int .i64 x.c0, .int .i64 x.c1, .int .i64 x.c2, .int .i64 x.c3, .int .i64 x.c4] from rfl])
   have HB1W := hid (HB.out.trans (HBX.out.mono HB.out.size))
   have HOW1 := hid (HOW.out.below HBX.out)
   have HTB1 := hid (row_kept HR2.out HB1W.out)
   have hT3 := hid (hT2.out.below HB1W.out)
   have HMS := hid HB1W.out.size
   generalize (wr.alloc (.cells #[.int .i64 x.c0, .int .i64 x.c1, .int .i64 x.c2, .int .i64 x.c3, .int .i64 x.c4] 45)) = W1 at *
   refine region_flow4 (by kernel_rfl) (by kernel_rfl) (fun i => Nat.beq i 12) (fun i => bif Nat.beq i 12 then 10 else i) (by kernel_rfl) (fun fx => #[trV t p, .pointer (some { block := w.heap.size, off := 0 }), .slice A3 n3 c3, u3, .int IntKind.i64 0, undef, .pointer (some { block := wr.heap.size, off := 0 }), fx 10, fx 12, trV t p, .int IntKind.i64 0, .int IntKind.i64 0, .bool false, undef, .pointer (some { block := w.heap.size, off := 4 }), .slice (some { block := g, off := off }) p.n p.c, .int IntKind.i64 ↑p.n, .int IntKind.i64 ↑j, .bool true, .pointer (some { block := g, off := off + j * 5 }), .agg #[.int IntKind.i64 x.c0, .int IntKind.i64 x.c1, .int IntKind.i64 x.c2, .int IntKind.i64 x.c3, .int IntKind.i64 x.c4], fx 7, fx 0, fx 1, fx 2, fx 3, fx 4, fx 5, fx 6, fx 8, fx 9, u31, u32, u33, u34, u35, u36, u37, u38, undef]) (fun i => bif Nat.beq i 0 then u22 else bif Nat.beq i 1 then u23 else bif Nat.beq i 2 then u24 else bif Nat.beq i 3 then u25 else bif Nat.beq i 4 then u26 else bif Nat.beq i 5 then u27 else bif Nat.beq i 6 then u28 else bif Nat.beq i 7 then u21 else bif Nat.beq i 8 then u29 else bif Nat.beq i 9 then u30 else bif Nat.beq i 10 then u7 else bif Nat.beq i 12 then u8 else undef) (fun L fx w' => cNd W1 r L fx w') (fun fi fv fu fw => wNd W1 w.heap.size t x s r fi fv fu fw) ⟨(Below.refl _ _).drew, (fun h => by cases h)⟩ ?_ ?_
   ·refine ⟨?_, ?_, ?_, ?_, ?_, ?_, ?_, ?_, ?_, ?_, ?_, ?_, ?_, trivial⟩
    all_goals intro L fx w' hC hi hcl hdn hd
    ·have hrow := row_kept HRX.out hC.1
     refine wpList_load_row rfl 45 (.tmp 6) rfl wr.heap.size rfl 45 _ (0, 0) _ hrow Tryz.underlying45 rfl HIX.out ?_
     clear hd
     go_wp2_with fail
     exact ⟨_, rfl, hC, rfl, kP⟩
    ·have HTK := hid (hT3.out.below hC.1)
     go_wp2_with fail
     refine (lines_any w').mono ?_
     rintro e w2 ⟨rfl, hq⟩
     go_wp2_with fail
     exact ⟨_, rfl, hC.below hq, rfl, fun j v t _ _ h => wNd_below hq j v t h⟩
    ·go_wp2_with fail
     exact ⟨_, rfl, hC, rfl, kP⟩
    ·have h2 : fx 2 = .pointer (some { block := w.heap.size, off := 6 }) := hd.1 rfl
     have hrow := tr_salt (row_kept HTB1.out hC.1)
     refine wpList_load_mid rfl 25 (.tmp 24) rfl w.heap.size 6 h2 (dgC t.salt) _ hrow Tryz.underlying25 rfl HSK.out ?_
     clear hd
     go_wp2_with fail
     exact ⟨_, by simp only [upd, h2]; rfl, hC, rfl, kP⟩
    ·have hrow := row_kept HRX.out hC.1
     refine wpList_load_row rfl 45 (.tmp 6) rfl wr.heap.size rfl 45 _ (0, 0) _ hrow Tryz.underlying45 rfl HIX.out ?_
     clear hd
     go_wp2_with fail
     exact ⟨_, rfl, hC, rfl, kP⟩
    ·have h1 : fx 1 = .agg tabL := hd.1 rfl
     have h3 : fx 3 = dgV t.salt := hd.2.1 rfl
     have h4 : fx 4 = lnV x := hd.2.2.1 rfl
     have HTK := hid (hT3.out.below hC.1)
     go_wp2_with fail
     refine (saltL t.salt x w' HSA HTK).mono ?_
     rintro e w2 ⟨rfl, hq⟩
     rw [HS.out]
     go_wp2_with fail
     exact ⟨_, by simp only [upd, h1, h3, h4]; rfl, hC.below hq, rfl, fun j v t _ _ h => wNd_below hq j v t h⟩
    ·have h0 : fx 0 = lnV x := hd.1 rfl
     have h5 : fx 5 = dgV s := hd.2.1 rfl
     have HTK := hid (hT3.out.below hC.1)
     go_wp2_with fail
     refine (leaf_x x s w' HSO HTK HVX.out).mono ?_
     rintro e w2 ⟨rfl, hq⟩
     rw [HD.out]
     go_wp2_with fail
     exact ⟨_, by simp only [upd, h0, h5]; rfl, hC.below hq, rfl, fun j v t _ _ h => wNd_below hq j v t h⟩
    ·have h6 : fx 6 = .tuple #[ndV r, .int .i64 0] := hd.1 rfl
     go_wp2_with fail
     exact ⟨_, by simp only [upd, h6]; rfl, hC, rfl, kP⟩
    ·have h7 : fx 7 = .tuple #[ndV r, .int .i64 0] := hd.1 rfl
     go_wp2_with fail
     exact ⟨_, by simp only [upd, h7]; rfl, hC, rfl, kP⟩
    ·have h7 : fx 7 = .tuple #[ndV r, .int .i64 0] := hd.1 rfl
     go_wp2_with fail
     exact ⟨_, by simp only [upd, h7]; rfl, hC, rfl, kP⟩
    ·have h11 : L 11 = false := nQ hi (fun h => hcl 11 10 h (by kernel_rfl))
     go_wp2_with fail
     rw [← zeroN_cells]
     have hq : Below w'.heap.size w' (w'.alloc (.cells (ndC zeroN).toArray 39)) := (Below.refl _ _).alloc (Nat.le_refl _) _
     refine ⟨Value.pointer (some ⟨w'.heap.size, 0, none⟩), rfl, ⟨(hC.below hq).1, fun _ => ⟨w'.heap.size, rfl, hC.1.size, by simp, ?_⟩⟩, rfl, fun j v t _ _ h => wNd_below hq j v t h⟩
     show _ = some (Obj.cells (ndC (bif L 11 then r else zeroN)).toArray 39 (0, 0))
     rw [h11]
     exact heap_alloc_new w' _
    ·have H10 := hid (hd.1 rfl)
     have h8 : fx 8 = ndV r := hd.2.1 rfl
     obtain ⟨q, e10, hq1, hq2, hrow0⟩ := hC.2 (hdn 10 (by kernel_rfl))
     have hrow : w'.heap[q]? = some (.cells (ndC zeroN).toArray 39 (0, 0)) := by have := hrow0; rw [hi] at this; exact this
     refine wpList_store_row rfl 39 (.tmp 7) (.tmp 29) rfl q (ndC r).toArray e10 h8 39 _ hrow HS34.out HT34.out (ndC_one _) ?_
     clear hd
     go_wp2_with fail
     refine ⟨undef, by simp only [upd, h8, e10]; rfl, ⟨below_setRow hC.1 hq1 _, fun _ => ⟨q, e10, hq1, by rw [setRow_size]; exact hq2, setRow_heap _ _ _ _ _ _ hrow⟩⟩, rfl, fun j v t hj hu h => ?_⟩
     by_cases e : j = 12
     ·subst e; exact absurd (hcl 12 11 hj (by kernel_rfl)) (by rw [hi]; exact Bool.false_ne_true)
     ·exact wNd_pure j v t e h
    ·have h9 : fx 9 = .int .i64 0 := hd.1 rfl
     obtain ⟨q, e10, hq1, hq2, hrow0⟩ := hC.2 (hdn 10 (by kernel_rfl))
     rw [hdn 11 (by kernel_rfl)] at hrow0
     go_wp2_with fail
     exact ⟨Value.int .i64 0, by simp only [upd, h9, e10]; rfl, hC, ⟨rfl, q, e10, hrow0, hC.1⟩, kP⟩
   ·intro L fo w' hC hS
    have H12 := hid (hS 12 (by decide) rfl)
    obtain ⟨e12, q, e10, hrow, hbw⟩ := H12.out
    have e10' : fo 10 = .pointer (some ⟨q, 0, none⟩) := e10
    rw [e12, e10']
    have HQR := hid hrow
    have HOW2 := hid (HOW1.out.below hbw)
    have HB3 := hid (HB1W.out.trans (hbw.mono HB1W.out.size))
    have hba := (Below.refl _ w').alloc (Nat.le_refl _) (.cells (flatN [r]).toArray 39)
    have HA6 := hid (HOW2.out.below hba)
    have HRF := hid (heap_alloc_new w' (.cells (flatN [r]).toArray 39))
    have HB4 := hid (HB3.out.trans (hba.mono HB3.out.size))
    have HSZ := hid HB4.out.size
    have hnn := HNL.out
    clear hS hC e12 e10 e10' H12 hrow hbw hba
    go_wp2_with (first | (refine wpList_load_row rfl 39 (.tmp 7) rfl q rfl 39 _ (0, 0) _ HQR.out Tryz.underlying39 rfl HS34.out ?_) | (refine wpList_build_nodes1 rfl (.tmp 35) rfl r rfl HRO.out ?_) | (refine wpList_append_node rfl (.tmp 34) (.tmp 36) rfl W2.heap.size _ P r rfl HA6 HRO.out w'.heap.size rfl HRF HPL.out HSZ.out ?_; intro v2 w2 HO2 HG2; obtain ⟨A2, n2, c2, rfl⟩ := HO2.out.form))
    have HB5 := hid (HB4.out.grown HG2.out HSZ.out (fun k hk => (HA6.out.block k hk).1))
    rw [HPN.out] at HO2
    go_roundw
    case rel => exact ⟨j + 1, _, by omega, by go_num, hid rfl, HO2, HB5, _, _, _, rfl⟩
    case measure => simp [intOf]; omega
  ·have d1 : decide ((j : Int) < (p.n : Int)) = false := dQ (by omega)
   have HPF : Hid (P = t.ln.map (ndL t.salt)) := hid (by rw [HP.out, List.take_of_length_le (by rw [HN.out]; omega)])
   have HPO : Hid (∀ y ∈ P, NdOk y) := hid (fun y hy => by
    rw [HPF.out] at hy
    obtain ⟨x, _, rfl⟩ := List.mem_map.1 hy
    exact leafR_okL x _)
   obtain ⟨A4, n4, c4, e4, hin4, ht4⟩ := HOW.out.slice HPO.out
   cases e4
   have HI4 := hid hin4
   have HB4 := hid (HB2.out.trans (HB.out.mono HB2.out.size))
   clear hin4 ht4
   go_wp2_with fail
   go_ret2
   exact ⟨_, _, _, rfl, by rw [← HPF.out]; exact HI4.out, HB4.out⟩
end Go.Proofs.YtmfmgeapecapiaaGreatDoor
