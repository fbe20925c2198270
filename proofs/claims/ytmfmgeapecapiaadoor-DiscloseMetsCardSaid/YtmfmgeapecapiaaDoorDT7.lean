/- sizar/disclose: check of a list (claims). sizar/disclose.Check: what it asks. sizar/disclose.Check, case 0. sizar/disclose.Check, case 1. sizar/disclose.Check, case 2. sizar/disclose.Check, case 3. -/
import Derived.Test.YtmfmgeapecapiaaDoorDT6
namespace Go.Proofs.YtmfmgeapecapiaaDoor
open Go.RowKit SzSha SzTree
set_option linter.unusedVariables false
set_option maxRecDepth 100000
theorem clC_len (x : Cl) : (clC x).length = 3 := rfl
theorem clC_info (x : Cl) : (Tryd.prog.info? 49).map (·.size) = some (clC x).toArray.size := by show _ = some 3; kernel_rfl
theorem clC_infoL (x : Cl) : (Tryd.prog.info? 49).map (·.size) = some (clC x).length := by show _ = some 3; kernel_rfl
def wCyK (bl : Nat) (x : Cl) (z : Int) : Nat → Value → World → Prop
  | 0, fv, _ => fv = Value.pointer (some ⟨bl, 1, none⟩)
  | 1, fv, _ => fv = Value.func (.func 93) #[] #[]
  | 2, fv, _ => fv = clV x
  | 3, fv, _ => fv = Value.bool true
  | 4, fv, _ => fv = Value.bool false
  | 5, fv, _ => fv = Value.bool false
  | 6, fv, _ => fv = Value.pointer (some ⟨bl, 2, none⟩)
  | 7, fv, _ => fv = Value.func (.func 91) #[] #[]
  | 8, fv, _ => fv = clV x
  | 9, fv, _ => fv = Value.int .i64 (nCl x)
  | 10, fv, _ => fv = Value.int .i64 z
  | 11, fv, _ => fv = Value.bool (decide (nCl x ≤ z))
  | 12, fv, _ => fv = Value.bool (decide (nCl x ≤ z))
  | 13, fv, _ => fv = Value.bool (decide (nCl x ≤ z))
  | _, _, _ => True
theorem wCyK_below {bl : Nat} {x : Cl} {z : Int} {w w' : World} (hb : Below w.heap.size w w') : ∀ j v, wCyK bl x z j v w → wCyK bl x z j v w'
  | 0, v, h => h
  | 1, v, h => h
  | 2, v, h => h
  | 3, v, h => h
  | 4, v, h => h
  | 5, v, h => h
  | 6, v, h => h
  | 7, v, h => h
  | 8, v, h => h
  | 9, v, h => h
  | 10, v, h => h
  | 11, v, h => h
  | 12, v, h => h
  | 13, v, h => h
  | n + 14, v, h => trivial
def wCnK (bl : Nat) (x : Cl) (z : Int) : Nat → Value → World → Prop
  | 0, fv, _ => fv = Value.pointer (some ⟨bl, 1, none⟩)
  | 1, fv, _ => fv = Value.func (.func 93) #[] #[]
  | 2, fv, _ => fv = clV x
  | 3, fv, _ => fv = Value.bool false
  | 4, fv, _ => fv = Value.bool true
  | 5, fv, _ => fv = Value.bool true
  | 6, fv, _ => fv = undef
  | 7, fv, _ => fv = undef
  | 8, fv, _ => fv = undef
  | 9, fv, _ => fv = undef
  | 10, fv, _ => fv = undef
  | 11, fv, _ => fv = undef
  | 12, fv, _ => fv = Value.bool true
  | 13, fv, _ => fv = Value.bool true
  | _, _, _ => True
theorem wCnK_below {bl : Nat} {x : Cl} {z : Int} {w w' : World} (hb : Below w.heap.size w w') : ∀ j v, wCnK bl x z j v w → wCnK bl x z j v w'
  | 0, v, h => h
  | 1, v, h => h
  | 2, v, h => h
  | 3, v, h => h
  | 4, v, h => h
  | 5, v, h => h
  | 6, v, h => h
  | 7, v, h => h
  | 8, v, h => h
  | 9, v, h => h
  | 10, v, h => h
  | 11, v, h => h
  | 12, v, h => h
  | 13, v, h => h
  | n + 14, v, h => trivial
set_option maxHeartbeats 4000000 in
theorem chk1K_y (x : Cl) (z : Int) (bl bs : Nat) (w : World) (hl : Hid (w.heap[bl]? = some (.cells tabK 113 (0, 0)))) (hs : Hid (w.heap[bs]? = some (.cells #[.int .i64 z] 3 (0, 0)))) (hv : Hid (vCl x = true)) :
    Calls Tryd.prog 95 #[clV x, .pointer (some ⟨bl, 0, none⟩), .pointer (some ⟨bs, 0, none⟩)] w fun e w' => e = .returned (.bool (!(vCl x && decide (z < nCl x)))) ∧ w.grownBy w' (some bs) ∧ w'.heap[bs]? = some (.cells #[.int .i64 (nCl x)] 3 (0, 0)) := by
  have HB0 := Lib.hid ((Below.refl _ w).alloc (Nat.le_refl _) (.cells (clC x).toArray 49))
  have HX0 := Lib.hid (heap_alloc_new w (.cells (clC x).toArray 49))
  have HL0 := Lib.hid (row_kept hl.out HB0.out)
  have HS0 := Lib.hid (row_kept hs.out HB0.out)
  have HBS : Hid (bs < w.heap.size) := Lib.hid (Array.getElem?_eq_some_iff.1 hs.out).1
  have HIX := Lib.hid (clC_info x)
  have HLE : Hid ((!(vCl x && decide (z < nCl x))) = decide (nCl x ≤ z)) := Lib.hid (by rw [hv.out]; rw [Bool.true_and, ← decide_not]; congr 1; exact propext Int.not_lt)
  rw [show clV x = .agg (clC x).toArray from rfl]
  go_enter Tryd.func95, Tryd.ntmps95
  go_wp2_with fail
  generalize w.alloc (.cells (clC x).toArray 49) = W1 at *
  refine region_flow3 (by kernel_rfl) (by kernel_rfl) (fun i => Nat.beq i 13) (fun i => i) (by kernel_rfl) (fun fx => #[Value.agg (clC x).toArray, Value.pointer (some { block := bl, off := 0 }), Value.pointer (some { block := bs, off := 0 }), Value.pointer (some { block := w.heap.size, off := 0 }), Value.bool false, fx 13, fx 0, fx 1, fx 2, fx 3, fx 4, fx 5, fx 6, fx 7, fx 8, fx 9, fx 10, fx 11, fx 12, undef, undef, undef, undef, undef]) (fun _ => undef) (fun L fx w' => Below W1.heap.size W1 w') (fun fi fv _ fw => wCyK bl x z fi fv fw) (Below.refl _ _).drew ?_ ?_
  · refine ⟨?_, ?_, ?_, ?_, ?_, ?_, ?_, ?_, ?_, ?_, ?_, ?_, ?_, ?_, trivial⟩
    all_goals intro L fx w' hC hi hcl hdn hd
    · go_wp2_with fail
      exact ⟨_, rfl, hC, rfl, fun _ _ _ _ _ h => h⟩
    · have h0 : fx 0 = Value.pointer (some ⟨bl, 1, none⟩) := hd.1 rfl
      have hcc : w'.cell? ⟨bl, 1, none⟩ = some (Value.func (.func 93) #[] #[]) := by rw [cell_of_row _ _ _ _ _ _ (row_kept HL0.out hC)]; rfl
      go_wp2_with fail
      exact ⟨_, by simp only [upd, h0]; rfl, hC, rfl, fun _ _ _ _ _ h => h⟩
    · have hrow := row_kept HX0.out hC
      refine wpList_load_row rfl 49 (.tmp 3) rfl w.heap.size rfl 49 _ (0, 0) _ hrow Tryd.underlying49 rfl HIX.out ?_
      clear hd
      go_wp2_with fail
      exact ⟨_, rfl, hC, rfl, fun _ _ _ _ _ h => h⟩
    · have h1 : fx 1 = Value.func (.func 93) #[] #[] := hd.1 rfl
      have h2 : fx 2 = clV x := hd.2.1 rfl
      go_wp2_with fail
      refine (vclaim_x x w').mono ?_
      rintro e w2 ⟨rfl, hq⟩
      rw [hv.out]
      go_wp2_with fail
      exact ⟨_, by simp only [upd, h1, h2]; rfl, hC.trans (hq.mono hC.size), rfl, fun j v t _ _ h => wCyK_below hq j v h⟩
    · have h3 : fx 3 = Value.bool true := hd.1 rfl
      go_wp2_with fail
      exact ⟨_, by simp only [upd, h3]; rfl, hC, rfl, fun _ _ _ _ _ h => h⟩
    · have h4 : fx 4 = Value.bool false := hd.1 rfl
      go_wp2_with fail
      exact ⟨_, by simp only [upd, h4]; rfl, hC, rfl, fun _ _ _ _ _ h => h⟩
    · have h5 : fx 5 = Value.bool false := hd.1 rfl
      go_wp2_with fail
      exact ⟨_, by simp only [upd, h5]; rfl, hC, rfl, fun _ _ _ _ _ h => h⟩
    · have h6 : fx 6 = Value.pointer (some ⟨bl, 2, none⟩) := hd.1 rfl
      have h5 : fx 5 = Value.bool false := hd.2.1 rfl
      have hcc : w'.cell? ⟨bl, 2, none⟩ = some (Value.func (.func 91) #[] #[]) := by rw [cell_of_row _ _ _ _ _ _ (row_kept HL0.out hC)]; rfl
      go_wp2_with fail
      exact ⟨_, by simp only [upd, h6, h5]; rfl, hC, rfl, fun _ _ _ _ _ h => h⟩
    · have h5 : fx 5 = Value.bool false := hd.1 rfl
      have hrow := row_kept HX0.out hC
      dsimp only
      rw [h5]
      refine wpList_unguard rfl ?_
      refine wpList_load_row rfl 49 (.tmp 3) rfl w.heap.size rfl 49 _ (0, 0) _ hrow Tryd.underlying49 rfl HIX.out ?_
      clear hd
      go_wp2_with fail
      exact ⟨_, by simp only [upd, h5]; rfl, hC, rfl, fun _ _ _ _ _ h => h⟩
    · have h7 : fx 7 = Value.func (.func 91) #[] #[] := hd.1 rfl
      have h8 : fx 8 = clV x := hd.2.1 rfl
      have h5 : fx 5 = Value.bool false := hd.2.2.2.1 rfl
      go_wp2_with fail
      refine (nclaim_x x w').mono ?_
      rintro e w2 ⟨rfl, hq⟩
      go_wp2_with fail
      exact ⟨_, by simp only [upd, h7, h8, h5]; rfl, hC.trans (hq.mono hC.size), rfl, fun j v t _ _ h => wCyK_below hq j v h⟩
    · have h5 : fx 5 = Value.bool false := hd.1 rfl
      have hcc : w'.cell? ⟨bs, 0, none⟩ = some (.int .i64 z) := by rw [cell_of_row _ _ _ _ _ _ (row_kept HS0.out hC)]; rfl
      go_wp2_with fail
      exact ⟨_, by simp only [upd, h5]; rfl, hC, rfl, fun _ _ _ _ _ h => h⟩
    · have h9 : fx 9 = Value.int .i64 (nCl x) := hd.1 rfl
      have h10 : fx 10 = Value.int .i64 z := hd.2.1 rfl
      have h5 : fx 5 = Value.bool false := hd.2.2.1 rfl
      go_wp2_with fail
      exact ⟨_, by simp only [upd, h9, h10, h5]; rfl, hC, rfl, fun _ _ _ _ _ h => h⟩
    · have h5 : fx 5 = Value.bool false := hd.1 rfl
      have h11 : fx 11 = Value.bool (decide (nCl x ≤ z)) := hd.2.1 rfl
      go_wp2_with fail
      exact ⟨_, by simp only [upd, h5, h11]; rfl, hC, rfl, fun _ _ _ _ _ h => h⟩
    · have h12 : fx 12 = Value.bool (decide (nCl x ≤ z)) := hd.1 rfl
      go_wp2_with fail
      exact ⟨_, by simp only [upd, h12]; rfl, hC, rfl, fun _ _ _ _ _ h => h⟩
  · intro L fo w' hC hS
    have H13 := Lib.hid (hS 13 (by decide) rfl)
    have h13 : fo 13 = Value.bool (decide (nCl x ≤ z)) := H13.out
    rw [h13]
    have HBC := Lib.hid hC
    clear hS hC h13 H13
    have HX1 := Lib.hid (row_kept HX0.out HBC.out)
    have HS1 := Lib.hid (row_kept HS0.out HBC.out)
    have hcc : w'.cell? ⟨bl, 2, none⟩ = some (Value.func (.func 91) #[] #[]) := by rw [cell_of_row _ _ _ _ _ _ (row_kept HL0.out HBC.out)]; rfl
    go_wp2_with (refine wpList_load_row rfl 49 (.tmp 3) rfl w.heap.size rfl 49 _ (0, 0) _ HX1.out Tryd.underlying49 rfl HIX.out ?_)
    rw [show Value.agg (clC x).toArray = clV x from rfl]
    refine (nclaim_x x w').mono ?_
    rintro e w2 ⟨rfl, hq⟩
    have HS2 := Lib.hid (row_kept HS1.out hq)
    have HG2 : Hid (w.grownBy w2 (some bs)) := Lib.hid (grown_then (grown_then (grown_of_below HB0.out) HBC.out) hq)
    have hc2 : w2.cell? ⟨bs, 0, none⟩ = some (.int .i64 z) := by rw [cell_of_row _ _ _ _ _ _ HS2.out]; rfl
    have hf2 : w2.frozen? ⟨bs, 0, none⟩ = false := by simp [World.frozen?, HS2.out]
    clear hq hcc
    go_wp2_with fail
    go_ret
    exact ⟨by rw [HLE.out]; rfl, grown_set HG2.out _, one_set HS2.out⟩
set_option maxHeartbeats 4000000 in
theorem chk1K_n (x : Cl) (z : Int) (bl bs : Nat) (w : World) (hl : Hid (w.heap[bl]? = some (.cells tabK 113 (0, 0)))) (hs : Hid (w.heap[bs]? = some (.cells #[.int .i64 z] 3 (0, 0)))) (hv : Hid (vCl x = false)) :
    Calls Tryd.prog 95 #[clV x, .pointer (some ⟨bl, 0, none⟩), .pointer (some ⟨bs, 0, none⟩)] w fun e w' => e = .returned (.bool (!(vCl x && decide (z < nCl x)))) ∧ w.grownBy w' (some bs) ∧ w'.heap[bs]? = some (.cells #[.int .i64 (nCl x)] 3 (0, 0)) := by
  have HB0 := Lib.hid ((Below.refl _ w).alloc (Nat.le_refl _) (.cells (clC x).toArray 49))
  have HX0 := Lib.hid (heap_alloc_new w (.cells (clC x).toArray 49))
  have HL0 := Lib.hid (row_kept hl.out HB0.out)
  have HS0 := Lib.hid (row_kept hs.out HB0.out)
  have HBS : Hid (bs < w.heap.size) := Lib.hid (Array.getElem?_eq_some_iff.1 hs.out).1
  have HIX := Lib.hid (clC_info x)
  have HLE : Hid ((!(vCl x && decide (z < nCl x))) = true) := Lib.hid (by rw [hv.out]; rfl)
  rw [show clV x = .agg (clC x).toArray from rfl]
  go_enter Tryd.func95, Tryd.ntmps95
  go_wp2_with fail
  generalize w.alloc (.cells (clC x).toArray 49) = W1 at *
  refine region_flow3 (by kernel_rfl) (by kernel_rfl) (fun i => Nat.beq i 13) (fun i => i) (by kernel_rfl) (fun fx => #[Value.agg (clC x).toArray, Value.pointer (some { block := bl, off := 0 }), Value.pointer (some { block := bs, off := 0 }), Value.pointer (some { block := w.heap.size, off := 0 }), Value.bool false, fx 13, fx 0, fx 1, fx 2, fx 3, fx 4, fx 5, fx 6, fx 7, fx 8, fx 9, fx 10, fx 11, fx 12, undef, undef, undef, undef, undef]) (fun _ => undef) (fun L fx w' => Below W1.heap.size W1 w') (fun fi fv _ fw => wCnK bl x z fi fv fw) (Below.refl _ _).drew ?_ ?_
  · refine ⟨?_, ?_, ?_, ?_, ?_, ?_, ?_, ?_, ?_, ?_, ?_, ?_, ?_, ?_, trivial⟩
    all_goals intro L fx w' hC hi hcl hdn hd
    · go_wp2_with fail
      exact ⟨_, rfl, hC, rfl, fun _ _ _ _ _ h => h⟩
    · have h0 : fx 0 = Value.pointer (some ⟨bl, 1, none⟩) := hd.1 rfl
      have hcc : w'.cell? ⟨bl, 1, none⟩ = some (Value.func (.func 93) #[] #[]) := by rw [cell_of_row _ _ _ _ _ _ (row_kept HL0.out hC)]; rfl
      go_wp2_with fail
      exact ⟨_, by simp only [upd, h0]; rfl, hC, rfl, fun _ _ _ _ _ h => h⟩
    · have hrow := row_kept HX0.out hC
      refine wpList_load_row rfl 49 (.tmp 3) rfl w.heap.size rfl 49 _ (0, 0) _ hrow Tryd.underlying49 rfl HIX.out ?_
      clear hd
      go_wp2_with fail
      exact ⟨_, rfl, hC, rfl, fun _ _ _ _ _ h => h⟩
    · have h1 : fx 1 = Value.func (.func 93) #[] #[] := hd.1 rfl
      have h2 : fx 2 = clV x := hd.2.1 rfl
      go_wp2_with fail
      refine (vclaim_x x w').mono ?_
      rintro e w2 ⟨rfl, hq⟩
      rw [hv.out]
      go_wp2_with fail
      exact ⟨_, by simp only [upd, h1, h2]; rfl, hC.trans (hq.mono hC.size), rfl, fun j v t _ _ h => wCnK_below hq j v h⟩
    · have h3 : fx 3 = Value.bool false := hd.1 rfl
      go_wp2_with fail
      exact ⟨_, by simp only [upd, h3]; rfl, hC, rfl, fun _ _ _ _ _ h => h⟩
    · have h4 : fx 4 = Value.bool true := hd.1 rfl
      go_wp2_with fail
      exact ⟨_, by simp only [upd, h4]; rfl, hC, rfl, fun _ _ _ _ _ h => h⟩
    · have h5 : fx 5 = Value.bool true := hd.1 rfl
      go_wp2_with fail
      exact ⟨_, by simp only [upd, h5]; rfl, hC, rfl, fun _ _ _ _ _ h => h⟩
    · have h6 : fx 6 = undef := hd.1 rfl
      have h5 : fx 5 = Value.bool true := hd.2.1 rfl
      go_wp2_with fail
      exact ⟨_, by simp only [upd, h6, h5]; rfl, hC, rfl, fun _ _ _ _ _ h => h⟩
    · have h5 : fx 5 = Value.bool true := hd.1 rfl
      go_wp2_with fail
      exact ⟨_, by simp only [upd, h5]; rfl, hC, rfl, fun _ _ _ _ _ h => h⟩
    · have h7 : fx 7 = undef := hd.1 rfl
      have h8 : fx 8 = undef := hd.2.1 rfl
      have h5 : fx 5 = Value.bool true := hd.2.2.2.1 rfl
      go_wp2_with fail
      exact ⟨_, by simp only [upd, h7, h8, h5]; rfl, hC, rfl, fun _ _ _ _ _ h => h⟩
    · have h5 : fx 5 = Value.bool true := hd.1 rfl
      go_wp2_with fail
      exact ⟨_, by simp only [upd, h5]; rfl, hC, rfl, fun _ _ _ _ _ h => h⟩
    · have h9 : fx 9 = undef := hd.1 rfl
      have h10 : fx 10 = undef := hd.2.1 rfl
      have h5 : fx 5 = Value.bool true := hd.2.2.1 rfl
      go_wp2_with fail
      exact ⟨_, by simp only [upd, h9, h10, h5]; rfl, hC, rfl, fun _ _ _ _ _ h => h⟩
    · have h5 : fx 5 = Value.bool true := hd.1 rfl
      have h11 : fx 11 = undef := hd.2.1 rfl
      go_wp2_with fail
      exact ⟨_, by simp only [upd, h5, h11]; rfl, hC, rfl, fun _ _ _ _ _ h => h⟩
    · have h12 : fx 12 = Value.bool true := hd.1 rfl
      go_wp2_with fail
      exact ⟨_, by simp only [upd, h12]; rfl, hC, rfl, fun _ _ _ _ _ h => h⟩
  · intro L fo w' hC hS
    have H13 := Lib.hid (hS 13 (by decide) rfl)
    have h13 : fo 13 = Value.bool true := H13.out
    rw [h13]
    have HBC := Lib.hid hC
    clear hS hC h13 H13
    have HX1 := Lib.hid (row_kept HX0.out HBC.out)
    have HS1 := Lib.hid (row_kept HS0.out HBC.out)
    have hcc : w'.cell? ⟨bl, 2, none⟩ = some (Value.func (.func 91) #[] #[]) := by rw [cell_of_row _ _ _ _ _ _ (row_kept HL0.out HBC.out)]; rfl
    go_wp2_with (refine wpList_load_row rfl 49 (.tmp 3) rfl w.heap.size rfl 49 _ (0, 0) _ HX1.out Tryd.underlying49 rfl HIX.out ?_)
    rw [show Value.agg (clC x).toArray = clV x from rfl]
    refine (nclaim_x x w').mono ?_
    rintro e w2 ⟨rfl, hq⟩
    have HS2 := Lib.hid (row_kept HS1.out hq)
    have HG2 : Hid (w.grownBy w2 (some bs)) := Lib.hid (grown_then (grown_then (grown_of_below HB0.out) HBC.out) hq)
    have hc2 : w2.cell? ⟨bs, 0, none⟩ = some (.int .i64 z) := by rw [cell_of_row _ _ _ _ _ _ HS2.out]; rfl
    have hf2 : w2.frozen? ⟨bs, 0, none⟩ = false := by simp [World.frozen?, HS2.out]
    clear hq hcc
    go_wp2_with fail
    go_ret
    exact ⟨by rw [HLE.out]; rfl, grown_set HG2.out _, one_set HS2.out⟩
theorem chk1K (x : Cl) (z : Int) (bl bs : Nat) (w : World) (hl : Hid (w.heap[bl]? = some (.cells tabK 113 (0, 0)))) (hs : Hid (w.heap[bs]? = some (.cells #[.int .i64 z] 3 (0, 0)))) :
    Calls Tryd.prog 95 #[clV x, .pointer (some ⟨bl, 0, none⟩), .pointer (some ⟨bs, 0, none⟩)] w fun e w' => e = .returned (.bool (!(vCl x && decide (z < nCl x)))) ∧ w.grownBy w' (some bs) ∧ w'.heap[bs]? = some (.cells #[.int .i64 (nCl x)] 3 (0, 0)) := by
  by_cases h : vCl x = true
  · exact chk1K_y x z bl bs w hl hs (Lib.hid h)
  · exact chk1K_n x z bl bs w hl hs (Lib.hid (by simpa using h))
set_option maxHeartbeats 4000000 in
theorem indexK (ls : List Cl) (A : Option Addr) (n c : Nat) (z : Int) (bl bs M : Nat) (w : World) (hn : n ≤ 9223372036854775807) (hM : M ≤ bl) (hMs : M ≤ bs) (hne : bl ≠ bs) (hl : Hid (w.heap[bl]? = some (.cells tabK 113 (0, 0)))) (hs : Hid (w.heap[bs]? = some (.cells #[.int .i64 z] 3 (0, 0)))) (h : Hid (InCl w A n c ls)) (hbo : Hid (∀ g off, A = some ⟨g, off, none⟩ → 0 < ls.length → g < M)) :
    Calls Tryd.prog 119 #[.slice A n c, .func (.func 95) #[] #[.pointer (some ⟨bl, 0, none⟩), .pointer (some ⟨bs, 0, none⟩)]] w fun e w' => ∃ r : Int, e = .returned (.int .i64 r) ∧ decide (0 ≤ r) = !(chkE vCl nCl z ls) ∧ w.grownBy w' (some bs) := by
  have HN := Lib.hid (show ls.length = n from h.out.len)
  have HGW : Hid (w.grownBy w (some bs)) := Lib.hid ⟨rfl, rfl, rfl, Nat.le_refl _, fun _ _ _ => rfl⟩
  go_enter Tryd.func119, Tryd.ntmps119
  go_wp2_with fail
  go_loopw [8] (fun i wr => ∃ (j : Nat) (y : Int), j ≤ n ∧ i = .int .i64 (j : Nat) ∧ Hid (chkE vCl nCl z ls = chkE vCl nCl y (ls.drop j)) ∧ Hid (w.grownBy wr (some bs)) ∧ Hid (wr.heap[bs]? = some (.cells #[.int .i64 y] 3 (0, 0)))) (fun i _ => n - (intOf i).toNat)
  case atStart => exact ⟨0, z, by omega, rfl, Lib.hid rfl, HGW, hs⟩
  case round =>
    clear HGW hs
    obtain ⟨j, y, hj, rfl, HCH, HG, HS⟩ := hrel
    by_cases hlt : j < n
    · have d1 : decide ((j : Int) < (n : Int)) = true := decide_eq_true (by omega)
      have d2 : decide (j < n) = true := decide_eq_true hlt
      have hjl : j < ls.length := by rw [HN.out]; exact hlt
      obtain ⟨g, off, rfl, hg, hr⟩ := h.out.rd (by omega)
      obtain ⟨x, HX⟩ : ∃ x, Hid (ls[j] = x) := ⟨_, Lib.hid rfl⟩
      have HR : Hid (wr.rangeAt g (off + j * 3) (clC x)) := Lib.hid (by
        rw [← HX.out]
        intro i v hi
        have h1 := range_elem clC_len hr j hjl i v hi
        have hgM := hbo.out g off rfl (by omega)
        rw [← h1]
        exact World.cell?_of_block (HG.out.block g hg (fun e => by injection e with e; omega)))
      have HL : Hid (wr.heap[bl]? = some (.cells tabK 113 (0, 0))) := Lib.hid ((HG.out.block bl (Array.getElem?_eq_some_iff.1 hl.out).1 (fun e => by injection e with e; exact hne e)).trans hl.out)
      have HDR : Hid (ls.drop j = x :: ls.drop (j + 1)) := Lib.hid (by rw [List.drop_eq_getElem_cons hjl, HX.out])
      have HII := Lib.hid (clC_infoL x)
      clear hr
      go_wp2_with (with_reducible refine wpList_load_mid rfl 49 (.tmp 14) rfl g (off + j * 3) rfl (clC x) _ HR.out Tryd.underlying49 rfl HII.out ?_)
      rw [show Value.agg (clC x).toArray = clV x from rfl]
      refine (chk1K x y bl bs wr HL HS).mono ?_
      rintro e w2 ⟨rfl, hg2, hs2⟩
      have HG2 := Lib.hid (grown_trans HG.out hg2)
      have HS2 := Lib.hid hs2
      clear hg2 hs2
      by_cases hok : (vCl x && decide (y < nCl x)) = true
      · have HCN : Hid (chkE vCl nCl z ls = chkE vCl nCl (nCl x) (ls.drop (j + 1))) := Lib.hid (by rw [HCH.out, HDR.out]; rw [chkE, hok, Bool.true_and])
        rw [hok]
        clear hok
        go_wp2_with fail
        go_roundw
        case rel => exact ⟨j + 1, _, by omega, by go_num, HCN, HG2, HS2⟩
        case measure => simp [intOf]; omega
      · have hok' : (vCl x && decide (y < nCl x)) = false := by simpa using hok
        have HCN : Hid (chkE vCl nCl z ls = false) := Lib.hid (by rw [HCH.out, HDR.out]; rw [chkE, hok', Bool.false_and])
        rw [hok']
        clear hok hok'
        go_wp2_with fail
        go_ret
        exact ⟨_, rfl, by rw [HCN.out]; exact decide_eq_true (by omega), HG2.out⟩
    · have d1 : decide ((j : Int) < (n : Int)) = false := decide_eq_false (by omega)
      have d2 : decide (j < n) = false := decide_eq_false hlt
      have HCN : Hid (chkE vCl nCl z ls = true) := Lib.hid (by rw [HCH.out, List.drop_eq_nil_of_le (by rw [HN.out]; omega)]; rfl)
      go_wp2_with fail
      go_ret
      exact ⟨_, rfl, by rw [HCN.out]; rfl, HG.out⟩
set_option maxHeartbeats 4000000 in
theorem containsK (ls : List Cl) (A : Option Addr) (n c : Nat) (z : Int) (bl bs M : Nat) (w : World) (hn : n ≤ 9223372036854775807) (hM : M ≤ bl) (hMs : M ≤ bs) (hne : bl ≠ bs) (hl : Hid (w.heap[bl]? = some (.cells tabK 113 (0, 0)))) (hs : Hid (w.heap[bs]? = some (.cells #[.int .i64 z] 3 (0, 0)))) (h : Hid (InCl w A n c ls)) (hbo : Hid (∀ g off, A = some ⟨g, off, none⟩ → 0 < ls.length → g < M)) :
    Calls Tryd.prog 94 #[.slice A n c, .func (.func 95) #[] #[.pointer (some ⟨bl, 0, none⟩), .pointer (some ⟨bs, 0, none⟩)]] w fun e w' => e = .returned (.bool (!(chkE vCl nCl z ls))) ∧ w.grownBy w' (some bs) := by
  go_enter Tryd.func94, Tryd.ntmps94
  go_wp2_with fail
  refine (indexK ls A n c z bl bs M w hn hM hMs hne hl hs h hbo).mono ?_
  rintro e w2 ⟨r, rfl, hr, hg⟩
  have HR := Lib.hid hr
  have HG := Lib.hid hg
  clear hr hg
  go_wp2_with fail
  go_ret
  exact ⟨by rw [← HR.out]; rfl, HG.out⟩
set_option maxHeartbeats 4000000 in
theorem checkK (ls : List Cl) (A : Option Addr) (n c : Nat) (w : World) (hn : n ≤ 9223372036854775807) (h : Hid (InCl w A n c ls)) :
    Calls Tryd.prog 50 #[.agg tabK, .slice A n c] w fun e w' => e = .returned (.bool (chkE vCl nCl (-1) ls)) ∧ Below w.heap.size w w' := by
  have hb0 := ((Below.refl _ w).alloc (Nat.le_refl _) (.cells tabK 113)).alloc (by simp) (.cells #[.int .i64 (-1)] 3)
  have hr0 := (Below.heap_alloc (w.alloc (.cells tabK 113)) (.cells #[.int .i64 (-1)] 3) w.heap.size (by simp)).trans (heap_alloc_new w (.cells tabK 113))
  have hr1 := heap_alloc_new (w.alloc (.cells tabK 113)) (.cells #[.int .i64 (-1)] 3)
  rw [World.size_alloc] at hr1
  have HB0 := Lib.hid hb0
  have HL0 := Lib.hid hr0
  have HS0 := Lib.hid hr1
  have HI0 := Lib.hid (h.out.below hb0)
  have HBO : Hid (∀ g off, A = some ⟨g, off, none⟩ → 0 < ls.length → g < w.heap.size) := Lib.hid (fun g off e h0 => by
    obtain ⟨g', off', e', hg, _⟩ := h.out.rd h0
    rw [e] at e'; injection e' with e'; injection e' with e1 e2; omega)
  clear hb0 hr0 hr1
  go_enter Tryd.func50, Tryd.ntmps50
  go_wp2_with fail
  refine (containsK ls A n c (-1) w.heap.size (w.heap.size + 1) w.heap.size _ hn (Nat.le_refl _) (Nat.le_succ _) (by omega) HL0 HS0 HI0 HBO).mono ?_
  rintro e w2 ⟨rfl, hg⟩
  have HB2 : Hid (Below w.heap.size w w2) := Lib.hid (HB0.out.grown hg HB0.out.size (fun k hk => by injection hk with hk; omega))
  clear hg
  go_wp2_with fail
  go_ret
  exact ⟨by simp, HB2.out⟩
end Go.Proofs.YtmfmgeapecapiaaDoor
namespace Go.Proofs.YtmfmgeapecapiaaDoor
open Go.RowKit SzSha SzTree
set_option linter.unusedVariables false
set_option maxRecDepth 100000
def inB (x lo hi : Int) : Bool := decide (lo ≤ x) && decide (x ≤ hi)
/-- a transcript is valid -/
def trG (t : Tr) : Bool := inB t.cam 0 6 && (inB t.stu 0 19999 && (inB t.ver 1 1048576 && (inB t.kno 1 16777216 && (decide (t.ln.length ≤ 4096) && (chkE vLn nLn (-1) t.ln && chkE vCl nCl (-1) t.cl)))))
def trE (t : Tr) : Int := if trG t then 0 else 420
theorem TrOk.below {w w' : World} {t : Tr} {p : TrP} (h : TrOk w t p) (hb : Below w.heap.size w w') : TrOk w' t p := ⟨h.b0, h.b1, h.b2, h.b3, h.ln.below hb, h.cl.below hb, h.len, h.bytes, h.mn, h.mc⟩
end Go.Proofs.YtmfmgeapecapiaaDoor
namespace Go.Proofs.YtmfmgeapecapiaaDoor
open Go.RowKit SzSha SzTree
set_option linter.unusedVariables false
set_option maxRecDepth 100000
def wCk0 (bt : Nat) (t : Tr) (p : TrP) : Nat → Value → World → Prop
  | 0, fv, _ => fv = Value.pointer (some { block := bt, off := 0 })
  | 1, fv, _ => fv = Value.int .i64 t.cam
  | 2, fv, _ => fv = Value.bool false
  | 3, fv, _ => fv = Value.bool true
  | 4, fv, _ => fv = Value.bool true
  | 5, fv, _ => fv = undef
  | 6, fv, _ => fv = undef
  | 7, fv, _ => fv = undef
  | 8, fv, _ => fv = undef
  | 9, fv, _ => fv = Value.bool true
  | 10, fv, _ => fv = Value.bool true
  | 11, fv, _ => fv = undef
  | 12, fv, _ => fv = undef
  | 13, fv, _ => fv = undef
  | 14, fv, _ => fv = undef
  | 15, fv, _ => fv = Value.bool true
  | 16, fv, _ => fv = Value.bool true
  | 17, fv, _ => fv = undef
  | 18, fv, _ => fv = undef
  | 19, fv, _ => fv = undef
  | 20, fv, _ => fv = undef
  | 21, fv, _ => fv = Value.bool true
  | 22, fv, _ => fv = Value.bool true
  | 23, fv, _ => fv = undef
  | 24, fv, _ => fv = undef
  | 25, fv, _ => fv = undef
  | 26, fv, _ => fv = undef
  | 27, fv, _ => fv = Value.bool true
  | 28, fv, _ => fv = Value.bool true
  | 29, fv, _ => fv = undef
  | 30, fv, _ => fv = undef
  | 31, fv, _ => fv = undef
  | 32, fv, _ => fv = undef
  | 33, fv, _ => fv = undef
  | 34, fv, _ => fv = Value.bool true
  | 35, fv, _ => fv = Value.bool true
  | 36, fv, _ => fv = undef
  | 37, fv, _ => fv = undef
  | 38, fv, _ => fv = undef
  | 39, fv, _ => fv = undef
  | 40, fv, _ => fv = undef
  | 41, fv, _ => fv = Value.bool true
  | _, _, _ => True
set_option maxHeartbeats 8000000 in
theorem check_0 (t : Tr) (p : TrP) (w : World) (h : Hid (TrOk w t p)) (g0 : Hid (inB t.cam 0 6 = false)) :
    Calls Tryd.prog 17 #[trV t p] w fun e w' => e = .returned (.int .i64 420) ∧ Below w.heap.size w w' := by
  have hml : maxLen ≤ 9223372036854775807 := by unfold maxLen; omega
  have HM1 : Hid (p.n ≤ 9223372036854775807) := Lib.hid (Nat.le_trans h.out.mn hml)
  have HM2 : Hid (p.n2 ≤ 9223372036854775807) := Lib.hid (Nat.le_trans h.out.mc hml)
  have HB0 := Lib.hid ((Below.refl _ w).alloc (Nat.le_refl _) (.cells (trC t p).toArray 27))
  have HR0 := Lib.hid (heap_alloc_new w (.cells (trC t p).toArray 27))
  have HO1 := Lib.hid (h.out.below HB0.out)
  rw [show trV t p = .agg (trC t p).toArray from rfl]
  clear hml
  go_enter Tryd.func17, Tryd.ntmps17
  go_wp2_with fail
  generalize w.alloc (.cells (trC t p).toArray 27) = W1 at *
  refine region_flow3 (by kernel_rfl) (by kernel_rfl) (fun i => Nat.beq i 41) (fun i => i) (by kernel_rfl) (fun fx => #[Value.agg (trC t p).toArray, Value.pointer (some { block := w.heap.size, off := 0 }), Value.int .i64 0, fx 0, fx 1, fx 2, fx 3, fx 4, fx 5, fx 6, fx 7, fx 8, fx 9, fx 10, fx 11, fx 12, fx 13, fx 14, fx 15, fx 16, fx 17, fx 18, fx 19, fx 20, fx 21, fx 22, fx 23, fx 24, fx 25, fx 26, fx 27, fx 28, fx 29, fx 30, fx 31, fx 32, fx 33, fx 34, fx 35, fx 36, fx 37, fx 38, fx 39, fx 40, fx 41]) (fun _ => undef) (fun L fx w' => Below W1.heap.size W1 w') (fun fi fv _ fw => wCk0 w.heap.size t p fi fv fw) (Below.refl _ _).drew ?_ ?_
  · refine ⟨?_, ?_, ?_, ?_, ?_, ?_, ?_, ?_, ?_, ?_, ?_, ?_, ?_, ?_, ?_, ?_, ?_, ?_, ?_, ?_, ?_, ?_, ?_, ?_, ?_, ?_, ?_, ?_, ?_, ?_, ?_, ?_, ?_, ?_, ?_, ?_, ?_, ?_, ?_, ?_, ?_, ?_, trivial⟩
    all_goals intro L fx w' hC hi hcl hdn hd
    · clear hd
      go_wp2_with fail
      exact ⟨_, rfl, hC, rfl, fun _ _ _ _ _ h => h⟩
    · have h0 : fx 0 = Value.pointer (some { block := w.heap.size, off := 0 }) := hd.1 rfl
      have hcc : w'.cell? ⟨w.heap.size, 0, none⟩ = some (Value.int .i64 t.cam) := by rw [cell_of_row _ _ _ _ _ _ (row_kept HR0.out hC)]; rfl
      clear hd
      go_wp2_with fail
      exact ⟨_, by simp only [upd, h0]; rfl, hC, rfl, fun _ _ _ _ _ h => h⟩
    · have h1 : fx 1 = Value.int .i64 t.cam := hd.1 rfl
      go_wp2_with fail
      refine (in_any t.cam 0 6 w').mono ?_
      rintro e w2 ⟨rfl, rfl⟩
      rw [show (decide (0 ≤ t.cam) && decide (t.cam ≤ 6)) = false from g0.out]
      go_wp2_with fail
      exact ⟨_, by simp only [upd, h1]; rfl, hC, rfl, fun _ _ _ _ _ h => h⟩
    · have h2 : fx 2 = Value.bool false := hd.1 rfl
      clear hd
      go_wp2_with fail
      exact ⟨_, by simp only [upd, h2]; rfl, hC, rfl, fun _ _ _ _ _ h => h⟩
    · have h3 : fx 3 = Value.bool true := hd.1 rfl
      clear hd
      go_wp2_with fail
      exact ⟨_, by simp only [upd, h3]; rfl, hC, rfl, fun _ _ _ _ _ h => h⟩
    · have h4 : fx 4 = Value.bool true := hd.1 rfl
      go_wp2_with fail
      exact ⟨_, by simp only [upd, h4]; rfl, hC, rfl, fun _ _ _ _ _ h => h⟩
    · have h5 : fx 5 = undef := hd.1 rfl
      have h4 : fx 4 = Value.bool true := hd.2.1 rfl
      go_wp2_with fail
      exact ⟨_, by simp only [upd, h5, h4]; rfl, hC, rfl, fun _ _ _ _ _ h => h⟩
    · have h6 : fx 6 = undef := hd.1 rfl
      have h4 : fx 4 = Value.bool true := hd.2.2.1 rfl
      go_wp2_with fail
      exact ⟨_, by simp only [upd, h6, h4]; rfl, hC, rfl, fun _ _ _ _ _ h => h⟩
    · have h7 : fx 7 = undef := hd.1 rfl
      have h4 : fx 4 = Value.bool true := hd.2.1 rfl
      go_wp2_with fail
      exact ⟨_, by simp only [upd, h7, h4]; rfl, hC, rfl, fun _ _ _ _ _ h => h⟩
    · have h4 : fx 4 = Value.bool true := hd.1 rfl
      have h8 : fx 8 = undef := hd.2.1 rfl
      clear hd
      go_wp2_with fail
      exact ⟨_, by simp only [upd, h4, h8]; rfl, hC, rfl, fun _ _ _ _ _ h => h⟩
    · have h9 : fx 9 = Value.bool true := hd.1 rfl
      clear hd
      go_wp2_with fail
      exact ⟨_, by simp only [upd, h9]; rfl, hC, rfl, fun _ _ _ _ _ h => h⟩
    · have h10 : fx 10 = Value.bool true := hd.1 rfl
      go_wp2_with fail
      exact ⟨_, by simp only [upd, h10]; rfl, hC, rfl, fun _ _ _ _ _ h => h⟩
    · have h11 : fx 11 = undef := hd.1 rfl
      have h10 : fx 10 = Value.bool true := hd.2.1 rfl
      go_wp2_with fail
      exact ⟨_, by simp only [upd, h11, h10]; rfl, hC, rfl, fun _ _ _ _ _ h => h⟩
    · have h12 : fx 12 = undef := hd.1 rfl
      have h10 : fx 10 = Value.bool true := hd.2.2.1 rfl
      go_wp2_with fail
      exact ⟨_, by simp only [upd, h12, h10]; rfl, hC, rfl, fun _ _ _ _ _ h => h⟩
    · have h13 : fx 13 = undef := hd.1 rfl
      have h10 : fx 10 = Value.bool true := hd.2.1 rfl
      go_wp2_with fail
      exact ⟨_, by simp only [upd, h13, h10]; rfl, hC, rfl, fun _ _ _ _ _ h => h⟩
    · have h10 : fx 10 = Value.bool true := hd.1 rfl
      have h14 : fx 14 = undef := hd.2.1 rfl
      clear hd
      go_wp2_with fail
      exact ⟨_, by simp only [upd, h10, h14]; rfl, hC, rfl, fun _ _ _ _ _ h => h⟩
    · have h15 : fx 15 = Value.bool true := hd.1 rfl
      clear hd
      go_wp2_with fail
      exact ⟨_, by simp only [upd, h15]; rfl, hC, rfl, fun _ _ _ _ _ h => h⟩
    · have h16 : fx 16 = Value.bool true := hd.1 rfl
      go_wp2_with fail
      exact ⟨_, by simp only [upd, h16]; rfl, hC, rfl, fun _ _ _ _ _ h => h⟩
    · have h17 : fx 17 = undef := hd.1 rfl
      have h16 : fx 16 = Value.bool true := hd.2.1 rfl
      go_wp2_with fail
      exact ⟨_, by simp only [upd, h17, h16]; rfl, hC, rfl, fun _ _ _ _ _ h => h⟩
    · have h18 : fx 18 = undef := hd.1 rfl
      have h16 : fx 16 = Value.bool true := hd.2.2.1 rfl
      go_wp2_with fail
      exact ⟨_, by simp only [upd, h18, h16]; rfl, hC, rfl, fun _ _ _ _ _ h => h⟩
    · have h19 : fx 19 = undef := hd.1 rfl
      have h16 : fx 16 = Value.bool true := hd.2.1 rfl
      go_wp2_with fail
      exact ⟨_, by simp only [upd, h19, h16]; rfl, hC, rfl, fun _ _ _ _ _ h => h⟩
    · have h16 : fx 16 = Value.bool true := hd.1 rfl
      have h20 : fx 20 = undef := hd.2.1 rfl
      clear hd
      go_wp2_with fail
      exact ⟨_, by simp only [upd, h16, h20]; rfl, hC, rfl, fun _ _ _ _ _ h => h⟩
    · have h21 : fx 21 = Value.bool true := hd.1 rfl
      clear hd
      go_wp2_with fail
      exact ⟨_, by simp only [upd, h21]; rfl, hC, rfl, fun _ _ _ _ _ h => h⟩
    · have h22 : fx 22 = Value.bool true := hd.1 rfl
      go_wp2_with fail
      exact ⟨_, by simp only [upd, h22]; rfl, hC, rfl, fun _ _ _ _ _ h => h⟩
    · have h23 : fx 23 = undef := hd.1 rfl
      have h22 : fx 22 = Value.bool true := hd.2.1 rfl
      go_wp2_with fail
      exact ⟨_, by simp only [upd, h23, h22]; rfl, hC, rfl, fun _ _ _ _ _ h => h⟩
    · have h24 : fx 24 = undef := hd.1 rfl
      have h22 : fx 22 = Value.bool true := hd.2.1 rfl
      go_wp2_with fail
      exact ⟨_, by simp only [upd, h24, h22]; rfl, hC, rfl, fun _ _ _ _ _ h => h⟩
    · have h25 : fx 25 = undef := hd.1 rfl
      have h22 : fx 22 = Value.bool true := hd.2.1 rfl
      go_wp2_with fail
      exact ⟨_, by simp only [upd, h25, h22]; rfl, hC, rfl, fun _ _ _ _ _ h => h⟩
    · have h22 : fx 22 = Value.bool true := hd.1 rfl
      have h26 : fx 26 = undef := hd.2.1 rfl
      clear hd
      go_wp2_with fail
      exact ⟨_, by simp only [upd, h22, h26]; rfl, hC, rfl, fun _ _ _ _ _ h => h⟩
    · have h27 : fx 27 = Value.bool true := hd.1 rfl
      clear hd
      go_wp2_with fail
      exact ⟨_, by simp only [upd, h27]; rfl, hC, rfl, fun _ _ _ _ _ h => h⟩
    · have h28 : fx 28 = Value.bool true := hd.2.1 rfl
      go_wp2_with fail
      exact ⟨_, by simp only [upd, h28]; rfl, hC, rfl, fun _ _ _ _ _ h => h⟩
    · have h28 : fx 28 = Value.bool true := hd.1 rfl
      go_wp2_with fail
      exact ⟨_, by simp only [upd, h28]; rfl, hC, rfl, fun _ _ _ _ _ h => h⟩
    · have h30 : fx 30 = undef := hd.1 rfl
      have h28 : fx 28 = Value.bool true := hd.2.1 rfl
      go_wp2_with fail
      exact ⟨_, by simp only [upd, h30, h28]; rfl, hC, rfl, fun _ _ _ _ _ h => h⟩
    · have h29 : fx 29 = undef := hd.1 rfl
      have h31 : fx 31 = undef := hd.2.1 rfl
      have h28 : fx 28 = Value.bool true := hd.2.2.2.1 rfl
      go_wp2_with fail
      exact ⟨_, by simp only [upd, h29, h31, h28]; rfl, hC, rfl, fun _ _ _ _ _ h => h⟩
    · have h32 : fx 32 = undef := hd.1 rfl
      have h28 : fx 28 = Value.bool true := hd.2.1 rfl
      go_wp2_with fail
      exact ⟨_, by simp only [upd, h32, h28]; rfl, hC, rfl, fun _ _ _ _ _ h => h⟩
    · have h28 : fx 28 = Value.bool true := hd.1 rfl
      have h33 : fx 33 = undef := hd.2.1 rfl
      clear hd
      go_wp2_with fail
      exact ⟨_, by simp only [upd, h28, h33]; rfl, hC, rfl, fun _ _ _ _ _ h => h⟩
    · have h34 : fx 34 = Value.bool true := hd.1 rfl
      clear hd
      go_wp2_with fail
      exact ⟨_, by simp only [upd, h34]; rfl, hC, rfl, fun _ _ _ _ _ h => h⟩
    · have h35 : fx 35 = Value.bool true := hd.2.1 rfl
      go_wp2_with fail
      exact ⟨_, by simp only [upd, h35]; rfl, hC, rfl, fun _ _ _ _ _ h => h⟩
    · have h35 : fx 35 = Value.bool true := hd.1 rfl
      go_wp2_with fail
      exact ⟨_, by simp only [upd, h35]; rfl, hC, rfl, fun _ _ _ _ _ h => h⟩
    · have h37 : fx 37 = undef := hd.1 rfl
      have h35 : fx 35 = Value.bool true := hd.2.1 rfl
      go_wp2_with fail
      exact ⟨_, by simp only [upd, h37, h35]; rfl, hC, rfl, fun _ _ _ _ _ h => h⟩
    · have h36 : fx 36 = undef := hd.1 rfl
      have h38 : fx 38 = undef := hd.2.1 rfl
      have h35 : fx 35 = Value.bool true := hd.2.2.2.1 rfl
      go_wp2_with fail
      exact ⟨_, by simp only [upd, h36, h38, h35]; rfl, hC, rfl, fun _ _ _ _ _ h => h⟩
    · have h39 : fx 39 = undef := hd.1 rfl
      have h35 : fx 35 = Value.bool true := hd.2.1 rfl
      go_wp2_with fail
      exact ⟨_, by simp only [upd, h39, h35]; rfl, hC, rfl, fun _ _ _ _ _ h => h⟩
    · have h35 : fx 35 = Value.bool true := hd.1 rfl
      have h40 : fx 40 = undef := hd.2.1 rfl
      clear hd
      go_wp2_with fail
      exact ⟨_, by simp only [upd, h35, h40]; rfl, hC, rfl, fun _ _ _ _ _ h => h⟩
  · intro L fo w' hC hS
    have H41 := Lib.hid (hS 41 (by decide) rfl)
    have h41 : fo 41 = Value.bool true := H41.out
    rw [h41]
    have HBC := Lib.hid (HB0.out.trans (hC.mono HB0.out.size))
    clear hS hC h41 H41
    go_wp2_with fail
    go_ret
    exact ⟨rfl, HBC.out⟩
end Go.Proofs.YtmfmgeapecapiaaDoor
namespace Go.Proofs.YtmfmgeapecapiaaDoor
open Go.RowKit SzSha SzTree
set_option linter.unusedVariables false
set_option maxRecDepth 100000
def wCk1 (bt : Nat) (t : Tr) (p : TrP) : Nat → Value → World → Prop
  | 0, fv, _ => fv = Value.pointer (some { block := bt, off := 0 })
  | 1, fv, _ => fv = Value.int .i64 t.cam
  | 2, fv, _ => fv = Value.bool true
  | 3, fv, _ => fv = Value.bool false
  | 4, fv, _ => fv = Value.bool false
  | 5, fv, _ => fv = Value.pointer (some { block := bt, off := 1 })
  | 6, fv, _ => fv = Value.int .i64 t.stu
  | 7, fv, _ => fv = Value.bool false
  | 8, fv, _ => fv = Value.bool true
  | 9, fv, _ => fv = Value.bool true
  | 10, fv, _ => fv = Value.bool true
  | 11, fv, _ => fv = undef
  | 12, fv, _ => fv = undef
  | 13, fv, _ => fv = undef
  | 14, fv, _ => fv = undef
  | 15, fv, _ => fv = Value.bool true
  | 16, fv, _ => fv = Value.bool true
  | 17, fv, _ => fv = undef
  | 18, fv, _ => fv = undef
  | 19, fv, _ => fv = undef
  | 20, fv, _ => fv = undef
  | 21, fv, _ => fv = Value.bool true
  | 22, fv, _ => fv = Value.bool true
  | 23, fv, _ => fv = undef
  | 24, fv, _ => fv = undef
  | 25, fv, _ => fv = undef
  | 26, fv, _ => fv = undef
  | 27, fv, _ => fv = Value.bool true
  | 28, fv, _ => fv = Value.bool true
  | 29, fv, _ => fv = undef
  | 30, fv, _ => fv = undef
  | 31, fv, _ => fv = undef
  | 32, fv, _ => fv = undef
  | 33, fv, _ => fv = undef
  | 34, fv, _ => fv = Value.bool true
  | 35, fv, _ => fv = Value.bool true
  | 36, fv, _ => fv = undef
  | 37, fv, _ => fv = undef
  | 38, fv, _ => fv = undef
  | 39, fv, _ => fv = undef
  | 40, fv, _ => fv = undef
  | 41, fv, _ => fv = Value.bool true
  | _, _, _ => True
set_option maxHeartbeats 8000000 in
theorem check_1 (t : Tr) (p : TrP) (w : World) (h : Hid (TrOk w t p)) (g0 : Hid (inB t.cam 0 6 = true)) (g1 : Hid (inB t.stu 0 19999 = false)) :
    Calls Tryd.prog 17 #[trV t p] w fun e w' => e = .returned (.int .i64 420) ∧ Below w.heap.size w w' := by
  have hml : maxLen ≤ 9223372036854775807 := by unfold maxLen; omega
  have HM1 : Hid (p.n ≤ 9223372036854775807) := Lib.hid (Nat.le_trans h.out.mn hml)
  have HM2 : Hid (p.n2 ≤ 9223372036854775807) := Lib.hid (Nat.le_trans h.out.mc hml)
  have HB0 := Lib.hid ((Below.refl _ w).alloc (Nat.le_refl _) (.cells (trC t p).toArray 27))
  have HR0 := Lib.hid (heap_alloc_new w (.cells (trC t p).toArray 27))
  have HO1 := Lib.hid (h.out.below HB0.out)
  rw [show trV t p = .agg (trC t p).toArray from rfl]
  clear hml
  go_enter Tryd.func17, Tryd.ntmps17
  go_wp2_with fail
  generalize w.alloc (.cells (trC t p).toArray 27) = W1 at *
  refine region_flow3 (by kernel_rfl) (by kernel_rfl) (fun i => Nat.beq i 41) (fun i => i) (by kernel_rfl) (fun fx => #[Value.agg (trC t p).toArray, Value.pointer (some { block := w.heap.size, off := 0 }), Value.int .i64 0, fx 0, fx 1, fx 2, fx 3, fx 4, fx 5, fx 6, fx 7, fx 8, fx 9, fx 10, fx 11, fx 12, fx 13, fx 14, fx 15, fx 16, fx 17, fx 18, fx 19, fx 20, fx 21, fx 22, fx 23, fx 24, fx 25, fx 26, fx 27, fx 28, fx 29, fx 30, fx 31, fx 32, fx 33, fx 34, fx 35, fx 36, fx 37, fx 38, fx 39, fx 40, fx 41]) (fun _ => undef) (fun L fx w' => Below W1.heap.size W1 w') (fun fi fv _ fw => wCk1 w.heap.size t p fi fv fw) (Below.refl _ _).drew ?_ ?_
  · refine ⟨?_, ?_, ?_, ?_, ?_, ?_, ?_, ?_, ?_, ?_, ?_, ?_, ?_, ?_, ?_, ?_, ?_, ?_, ?_, ?_, ?_, ?_, ?_, ?_, ?_, ?_, ?_, ?_, ?_, ?_, ?_, ?_, ?_, ?_, ?_, ?_, ?_, ?_, ?_, ?_, ?_, ?_, trivial⟩
    all_goals intro L fx w' hC hi hcl hdn hd
    · clear hd
      go_wp2_with fail
      exact ⟨_, rfl, hC, rfl, fun _ _ _ _ _ h => h⟩
    · have h0 : fx 0 = Value.pointer (some { block := w.heap.size, off := 0 }) := hd.1 rfl
      have hcc : w'.cell? ⟨w.heap.size, 0, none⟩ = some (Value.int .i64 t.cam) := by rw [cell_of_row _ _ _ _ _ _ (row_kept HR0.out hC)]; rfl
      clear hd
      go_wp2_with fail
      exact ⟨_, by simp only [upd, h0]; rfl, hC, rfl, fun _ _ _ _ _ h => h⟩
    · have h1 : fx 1 = Value.int .i64 t.cam := hd.1 rfl
      go_wp2_with fail
      refine (in_any t.cam 0 6 w').mono ?_
      rintro e w2 ⟨rfl, rfl⟩
      rw [show (decide (0 ≤ t.cam) && decide (t.cam ≤ 6)) = true from g0.out]
      go_wp2_with fail
      exact ⟨_, by simp only [upd, h1]; rfl, hC, rfl, fun _ _ _ _ _ h => h⟩
    · have h2 : fx 2 = Value.bool true := hd.1 rfl
      clear hd
      go_wp2_with fail
      exact ⟨_, by simp only [upd, h2]; rfl, hC, rfl, fun _ _ _ _ _ h => h⟩
    · have h3 : fx 3 = Value.bool false := hd.1 rfl
      clear hd
      go_wp2_with fail
      exact ⟨_, by simp only [upd, h3]; rfl, hC, rfl, fun _ _ _ _ _ h => h⟩
    · have h4 : fx 4 = Value.bool false := hd.1 rfl
      dsimp only
      rw [h4]
      refine wpList_unguard rfl ?_
      clear hd
      go_wp2_with fail
      exact ⟨_, by simp only [upd, h4]; rfl, hC, rfl, fun _ _ _ _ _ h => h⟩
    · have h5 : fx 5 = Value.pointer (some { block := w.heap.size, off := 1 }) := hd.1 rfl
      have h4 : fx 4 = Value.bool false := hd.2.1 rfl
      dsimp only
      rw [h4]
      refine wpList_unguard rfl ?_
      have hcc : w'.cell? ⟨w.heap.size, 1, none⟩ = some (Value.int .i64 t.stu) := by rw [cell_of_row _ _ _ _ _ _ (row_kept HR0.out hC)]; rfl
      clear hd
      go_wp2_with fail
      exact ⟨_, by simp only [upd, h5, h4]; rfl, hC, rfl, fun _ _ _ _ _ h => h⟩
    · have h6 : fx 6 = Value.int .i64 t.stu := hd.1 rfl
      have h4 : fx 4 = Value.bool false := hd.2.2.1 rfl
      dsimp only
      rw [h4]
      refine wpList_unguard rfl ?_
      go_wp2_with fail
      refine (in_any t.stu 0 19999 w').mono ?_
      rintro e w2 ⟨rfl, rfl⟩
      rw [show (decide (0 ≤ t.stu) && decide (t.stu ≤ 19999)) = false from g1.out]
      go_wp2_with fail
      exact ⟨_, by simp only [upd, h6, h4]; rfl, hC, rfl, fun _ _ _ _ _ h => h⟩
    · have h7 : fx 7 = Value.bool false := hd.1 rfl
      have h4 : fx 4 = Value.bool false := hd.2.1 rfl
      dsimp only
      rw [h4]
      refine wpList_unguard rfl ?_
      clear hd
      go_wp2_with fail
      exact ⟨_, by simp only [upd, h7, h4]; rfl, hC, rfl, fun _ _ _ _ _ h => h⟩
    · have h4 : fx 4 = Value.bool false := hd.1 rfl
      have h8 : fx 8 = Value.bool true := hd.2.1 rfl
      clear hd
      go_wp2_with fail
      exact ⟨_, by simp only [upd, h4, h8]; rfl, hC, rfl, fun _ _ _ _ _ h => h⟩
    · have h9 : fx 9 = Value.bool true := hd.1 rfl
      clear hd
      go_wp2_with fail
      exact ⟨_, by simp only [upd, h9]; rfl, hC, rfl, fun _ _ _ _ _ h => h⟩
    · have h10 : fx 10 = Value.bool true := hd.1 rfl
      go_wp2_with fail
      exact ⟨_, by simp only [upd, h10]; rfl, hC, rfl, fun _ _ _ _ _ h => h⟩
    · have h11 : fx 11 = undef := hd.1 rfl
      have h10 : fx 10 = Value.bool true := hd.2.1 rfl
      go_wp2_with fail
      exact ⟨_, by simp only [upd, h11, h10]; rfl, hC, rfl, fun _ _ _ _ _ h => h⟩
    · have h12 : fx 12 = undef := hd.1 rfl
      have h10 : fx 10 = Value.bool true := hd.2.2.1 rfl
      go_wp2_with fail
      exact ⟨_, by simp only [upd, h12, h10]; rfl, hC, rfl, fun _ _ _ _ _ h => h⟩
    · have h13 : fx 13 = undef := hd.1 rfl
      have h10 : fx 10 = Value.bool true := hd.2.1 rfl
      go_wp2_with fail
      exact ⟨_, by simp only [upd, h13, h10]; rfl, hC, rfl, fun _ _ _ _ _ h => h⟩
    · have h10 : fx 10 = Value.bool true := hd.1 rfl
      have h14 : fx 14 = undef := hd.2.1 rfl
      clear hd
      go_wp2_with fail
      exact ⟨_, by simp only [upd, h10, h14]; rfl, hC, rfl, fun _ _ _ _ _ h => h⟩
    · have h15 : fx 15 = Value.bool true := hd.1 rfl
      clear hd
      go_wp2_with fail
      exact ⟨_, by simp only [upd, h15]; rfl, hC, rfl, fun _ _ _ _ _ h => h⟩
    · have h16 : fx 16 = Value.bool true := hd.1 rfl
      go_wp2_with fail
      exact ⟨_, by simp only [upd, h16]; rfl, hC, rfl, fun _ _ _ _ _ h => h⟩
    · have h17 : fx 17 = undef := hd.1 rfl
      have h16 : fx 16 = Value.bool true := hd.2.1 rfl
      go_wp2_with fail
      exact ⟨_, by simp only [upd, h17, h16]; rfl, hC, rfl, fun _ _ _ _ _ h => h⟩
    · have h18 : fx 18 = undef := hd.1 rfl
      have h16 : fx 16 = Value.bool true := hd.2.2.1 rfl
      go_wp2_with fail
      exact ⟨_, by simp only [upd, h18, h16]; rfl, hC, rfl, fun _ _ _ _ _ h => h⟩
    · have h19 : fx 19 = undef := hd.1 rfl
      have h16 : fx 16 = Value.bool true := hd.2.1 rfl
      go_wp2_with fail
      exact ⟨_, by simp only [upd, h19, h16]; rfl, hC, rfl, fun _ _ _ _ _ h => h⟩
    · have h16 : fx 16 = Value.bool true := hd.1 rfl
      have h20 : fx 20 = undef := hd.2.1 rfl
      clear hd
      go_wp2_with fail
      exact ⟨_, by simp only [upd, h16, h20]; rfl, hC, rfl, fun _ _ _ _ _ h => h⟩
    · have h21 : fx 21 = Value.bool true := hd.1 rfl
      clear hd
      go_wp2_with fail
      exact ⟨_, by simp only [upd, h21]; rfl, hC, rfl, fun _ _ _ _ _ h => h⟩
    · have h22 : fx 22 = Value.bool true := hd.1 rfl
      go_wp2_with fail
      exact ⟨_, by simp only [upd, h22]; rfl, hC, rfl, fun _ _ _ _ _ h => h⟩
    · have h23 : fx 23 = undef := hd.1 rfl
      have h22 : fx 22 = Value.bool true := hd.2.1 rfl
      go_wp2_with fail
      exact ⟨_, by simp only [upd, h23, h22]; rfl, hC, rfl, fun _ _ _ _ _ h => h⟩
    · have h24 : fx 24 = undef := hd.1 rfl
      have h22 : fx 22 = Value.bool true := hd.2.1 rfl
      go_wp2_with fail
      exact ⟨_, by simp only [upd, h24, h22]; rfl, hC, rfl, fun _ _ _ _ _ h => h⟩
    · have h25 : fx 25 = undef := hd.1 rfl
      have h22 : fx 22 = Value.bool true := hd.2.1 rfl
      go_wp2_with fail
      exact ⟨_, by simp only [upd, h25, h22]; rfl, hC, rfl, fun _ _ _ _ _ h => h⟩
    · have h22 : fx 22 = Value.bool true := hd.1 rfl
      have h26 : fx 26 = undef := hd.2.1 rfl
      clear hd
      go_wp2_with fail
      exact ⟨_, by simp only [upd, h22, h26]; rfl, hC, rfl, fun _ _ _ _ _ h => h⟩
    · have h27 : fx 27 = Value.bool true := hd.1 rfl
      clear hd
      go_wp2_with fail
      exact ⟨_, by simp only [upd, h27]; rfl, hC, rfl, fun _ _ _ _ _ h => h⟩
    · have h28 : fx 28 = Value.bool true := hd.2.1 rfl
      go_wp2_with fail
      exact ⟨_, by simp only [upd, h28]; rfl, hC, rfl, fun _ _ _ _ _ h => h⟩
    · have h28 : fx 28 = Value.bool true := hd.1 rfl
      go_wp2_with fail
      exact ⟨_, by simp only [upd, h28]; rfl, hC, rfl, fun _ _ _ _ _ h => h⟩
    · have h30 : fx 30 = undef := hd.1 rfl
      have h28 : fx 28 = Value.bool true := hd.2.1 rfl
      go_wp2_with fail
      exact ⟨_, by simp only [upd, h30, h28]; rfl, hC, rfl, fun _ _ _ _ _ h => h⟩
    · have h29 : fx 29 = undef := hd.1 rfl
      have h31 : fx 31 = undef := hd.2.1 rfl
      have h28 : fx 28 = Value.bool true := hd.2.2.2.1 rfl
      go_wp2_with fail
      exact ⟨_, by simp only [upd, h29, h31, h28]; rfl, hC, rfl, fun _ _ _ _ _ h => h⟩
    · have h32 : fx 32 = undef := hd.1 rfl
      have h28 : fx 28 = Value.bool true := hd.2.1 rfl
      go_wp2_with fail
      exact ⟨_, by simp only [upd, h32, h28]; rfl, hC, rfl, fun _ _ _ _ _ h => h⟩
    · have h28 : fx 28 = Value.bool true := hd.1 rfl
      have h33 : fx 33 = undef := hd.2.1 rfl
      clear hd
      go_wp2_with fail
      exact ⟨_, by simp only [upd, h28, h33]; rfl, hC, rfl, fun _ _ _ _ _ h => h⟩
    · have h34 : fx 34 = Value.bool true := hd.1 rfl
      clear hd
      go_wp2_with fail
      exact ⟨_, by simp only [upd, h34]; rfl, hC, rfl, fun _ _ _ _ _ h => h⟩
    · have h35 : fx 35 = Value.bool true := hd.2.1 rfl
      go_wp2_with fail
      exact ⟨_, by simp only [upd, h35]; rfl, hC, rfl, fun _ _ _ _ _ h => h⟩
    · have h35 : fx 35 = Value.bool true := hd.1 rfl
      go_wp2_with fail
      exact ⟨_, by simp only [upd, h35]; rfl, hC, rfl, fun _ _ _ _ _ h => h⟩
    · have h37 : fx 37 = undef := hd.1 rfl
      have h35 : fx 35 = Value.bool true := hd.2.1 rfl
      go_wp2_with fail
      exact ⟨_, by simp only [upd, h37, h35]; rfl, hC, rfl, fun _ _ _ _ _ h => h⟩
    · have h36 : fx 36 = undef := hd.1 rfl
      have h38 : fx 38 = undef := hd.2.1 rfl
      have h35 : fx 35 = Value.bool true := hd.2.2.2.1 rfl
      go_wp2_with fail
      exact ⟨_, by simp only [upd, h36, h38, h35]; rfl, hC, rfl, fun _ _ _ _ _ h => h⟩
    · have h39 : fx 39 = undef := hd.1 rfl
      have h35 : fx 35 = Value.bool true := hd.2.1 rfl
      go_wp2_with fail
      exact ⟨_, by simp only [upd, h39, h35]; rfl, hC, rfl, fun _ _ _ _ _ h => h⟩
    · have h35 : fx 35 = Value.bool true := hd.1 rfl
      have h40 : fx 40 = undef := hd.2.1 rfl
      clear hd
      go_wp2_with fail
      exact ⟨_, by simp only [upd, h35, h40]; rfl, hC, rfl, fun _ _ _ _ _ h => h⟩
  · intro L fo w' hC hS
    have H41 := Lib.hid (hS 41 (by decide) rfl)
    have h41 : fo 41 = Value.bool true := H41.out
    rw [h41]
    have HBC := Lib.hid (HB0.out.trans (hC.mono HB0.out.size))
    clear hS hC h41 H41
    go_wp2_with fail
    go_ret
    exact ⟨rfl, HBC.out⟩
end Go.Proofs.YtmfmgeapecapiaaDoor
namespace Go.Proofs.YtmfmgeapecapiaaDoor
open Go.RowKit SzSha SzTree
set_option linter.unusedVariables false
set_option maxRecDepth 100000
def wCk2 (bt : Nat) (t : Tr) (p : TrP) : Nat → Value → World → Prop
  | 0, fv, _ => fv = Value.pointer (some { block := bt, off := 0 })
  | 1, fv, _ => fv = Value.int .i64 t.cam
  | 2, fv, _ => fv = Value.bool true
  | 3, fv, _ => fv = Value.bool false
  | 4, fv, _ => fv = Value.bool false
  | 5, fv, _ => fv = Value.pointer (some { block := bt, off := 1 })
  | 6, fv, _ => fv = Value.int .i64 t.stu
  | 7, fv, _ => fv = Value.bool true
  | 8, fv, _ => fv = Value.bool false
  | 9, fv, _ => fv = Value.bool false
  | 10, fv, _ => fv = Value.bool false
  | 11, fv, _ => fv = Value.pointer (some { block := bt, off := 2 })
  | 12, fv, _ => fv = Value.int .i64 t.ver
  | 13, fv, _ => fv = Value.bool false
  | 14, fv, _ => fv = Value.bool true
  | 15, fv, _ => fv = Value.bool true
  | 16, fv, _ => fv = Value.bool true
  | 17, fv, _ => fv = undef
  | 18, fv, _ => fv = undef
  | 19, fv, _ => fv = undef
  | 20, fv, _ => fv = undef
  | 21, fv, _ => fv = Value.bool true
  | 22, fv, _ => fv = Value.bool true
  | 23, fv, _ => fv = undef
  | 24, fv, _ => fv = undef
  | 25, fv, _ => fv = undef
  | 26, fv, _ => fv = undef
  | 27, fv, _ => fv = Value.bool true
  | 28, fv, _ => fv = Value.bool true
  | 29, fv, _ => fv = undef
  | 30, fv, _ => fv = undef
  | 31, fv, _ => fv = undef
  | 32, fv, _ => fv = undef
  | 33, fv, _ => fv = undef
  | 34, fv, _ => fv = Value.bool true
  | 35, fv, _ => fv = Value.bool true
  | 36, fv, _ => fv = undef
  | 37, fv, _ => fv = undef
  | 38, fv, _ => fv = undef
  | 39, fv, _ => fv = undef
  | 40, fv, _ => fv = undef
  | 41, fv, _ => fv = Value.bool true
  | _, _, _ => True
set_option maxHeartbeats 8000000 in
theorem check_2 (t : Tr) (p : TrP) (w : World) (h : Hid (TrOk w t p)) (g0 : Hid (inB t.cam 0 6 = true)) (g1 : Hid (inB t.stu 0 19999 = true)) (g2 : Hid (inB t.ver 1 1048576 = false)) :
    Calls Tryd.prog 17 #[trV t p] w fun e w' => e = .returned (.int .i64 420) ∧ Below w.heap.size w w' := by
  have hml : maxLen ≤ 9223372036854775807 := by unfold maxLen; omega
  have HM1 : Hid (p.n ≤ 9223372036854775807) := Lib.hid (Nat.le_trans h.out.mn hml)
  have HM2 : Hid (p.n2 ≤ 9223372036854775807) := Lib.hid (Nat.le_trans h.out.mc hml)
  have HB0 := Lib.hid ((Below.refl _ w).alloc (Nat.le_refl _) (.cells (trC t p).toArray 27))
  have HR0 := Lib.hid (heap_alloc_new w (.cells (trC t p).toArray 27))
  have HO1 := Lib.hid (h.out.below HB0.out)
  rw [show trV t p = .agg (trC t p).toArray from rfl]
  clear hml
  go_enter Tryd.func17, Tryd.ntmps17
  go_wp2_with fail
  generalize w.alloc (.cells (trC t p).toArray 27) = W1 at *
  refine region_flow3 (by kernel_rfl) (by kernel_rfl) (fun i => Nat.beq i 41) (fun i => i) (by kernel_rfl) (fun fx => #[Value.agg (trC t p).toArray, Value.pointer (some { block := w.heap.size, off := 0 }), Value.int .i64 0, fx 0, fx 1, fx 2, fx 3, fx 4, fx 5, fx 6, fx 7, fx 8, fx 9, fx 10, fx 11, fx 12, fx 13, fx 14, fx 15, fx 16, fx 17, fx 18, fx 19, fx 20, fx 21, fx 22, fx 23, fx 24, fx 25, fx 26, fx 27, fx 28, fx 29, fx 30, fx 31, fx 32, fx 33, fx 34, fx 35, fx 36, fx 37, fx 38, fx 39, fx 40, fx 41]) (fun _ => undef) (fun L fx w' => Below W1.heap.size W1 w') (fun fi fv _ fw => wCk2 w.heap.size t p fi fv fw) (Below.refl _ _).drew ?_ ?_
  · refine ⟨?_, ?_, ?_, ?_, ?_, ?_, ?_, ?_, ?_, ?_, ?_, ?_, ?_, ?_, ?_, ?_, ?_, ?_, ?_, ?_, ?_, ?_, ?_, ?_, ?_, ?_, ?_, ?_, ?_, ?_, ?_, ?_, ?_, ?_, ?_, ?_, ?_, ?_, ?_, ?_, ?_, ?_, trivial⟩
    all_goals intro L fx w' hC hi hcl hdn hd
    · clear hd
      go_wp2_with fail
      exact ⟨_, rfl, hC, rfl, fun _ _ _ _ _ h => h⟩
    · have h0 : fx 0 = Value.pointer (some { block := w.heap.size, off := 0 }) := hd.1 rfl
      have hcc : w'.cell? ⟨w.heap.size, 0, none⟩ = some (Value.int .i64 t.cam) := by rw [cell_of_row _ _ _ _ _ _ (row_kept HR0.out hC)]; rfl
      clear hd
      go_wp2_with fail
      exact ⟨_, by simp only [upd, h0]; rfl, hC, rfl, fun _ _ _ _ _ h => h⟩
    · have h1 : fx 1 = Value.int .i64 t.cam := hd.1 rfl
      go_wp2_with fail
      refine (in_any t.cam 0 6 w').mono ?_
      rintro e w2 ⟨rfl, rfl⟩
      rw [show (decide (0 ≤ t.cam) && decide (t.cam ≤ 6)) = true from g0.out]
      go_wp2_with fail
      exact ⟨_, by simp only [upd, h1]; rfl, hC, rfl, fun _ _ _ _ _ h => h⟩
    · have h2 : fx 2 = Value.bool true := hd.1 rfl
      clear hd
      go_wp2_with fail
      exact ⟨_, by simp only [upd, h2]; rfl, hC, rfl, fun _ _ _ _ _ h => h⟩
    · have h3 : fx 3 = Value.bool false := hd.1 rfl
      clear hd
      go_wp2_with fail
      exact ⟨_, by simp only [upd, h3]; rfl, hC, rfl, fun _ _ _ _ _ h => h⟩
    · have h4 : fx 4 = Value.bool false := hd.1 rfl
      dsimp only
      rw [h4]
      refine wpList_unguard rfl ?_
      clear hd
      go_wp2_with fail
      exact ⟨_, by simp only [upd, h4]; rfl, hC, rfl, fun _ _ _ _ _ h => h⟩
    · have h5 : fx 5 = Value.pointer (some { block := w.heap.size, off := 1 }) := hd.1 rfl
      have h4 : fx 4 = Value.bool false := hd.2.1 rfl
      dsimp only
      rw [h4]
      refine wpList_unguard rfl ?_
      have hcc : w'.cell? ⟨w.heap.size, 1, none⟩ = some (Value.int .i64 t.stu) := by rw [cell_of_row _ _ _ _ _ _ (row_kept HR0.out hC)]; rfl
      clear hd
      go_wp2_with fail
      exact ⟨_, by simp only [upd, h5, h4]; rfl, hC, rfl, fun _ _ _ _ _ h => h⟩
    · have h6 : fx 6 = Value.int .i64 t.stu := hd.1 rfl
      have h4 : fx 4 = Value.bool false := hd.2.2.1 rfl
      dsimp only
      rw [h4]
      refine wpList_unguard rfl ?_
      go_wp2_with fail
      refine (in_any t.stu 0 19999 w').mono ?_
      rintro e w2 ⟨rfl, rfl⟩
      rw [show (decide (0 ≤ t.stu) && decide (t.stu ≤ 19999)) = true from g1.out]
      go_wp2_with fail
      exact ⟨_, by simp only [upd, h6, h4]; rfl, hC, rfl, fun _ _ _ _ _ h => h⟩
    · have h7 : fx 7 = Value.bool true := hd.1 rfl
      have h4 : fx 4 = Value.bool false := hd.2.1 rfl
      dsimp only
      rw [h4]
      refine wpList_unguard rfl ?_
      clear hd
      go_wp2_with fail
      exact ⟨_, by simp only [upd, h7, h4]; rfl, hC, rfl, fun _ _ _ _ _ h => h⟩
    · have h4 : fx 4 = Value.bool false := hd.1 rfl
      have h8 : fx 8 = Value.bool false := hd.2.1 rfl
      clear hd
      go_wp2_with fail
      exact ⟨_, by simp only [upd, h4, h8]; rfl, hC, rfl, fun _ _ _ _ _ h => h⟩
    · have h9 : fx 9 = Value.bool false := hd.1 rfl
      clear hd
      go_wp2_with fail
      exact ⟨_, by simp only [upd, h9]; rfl, hC, rfl, fun _ _ _ _ _ h => h⟩
    · have h10 : fx 10 = Value.bool false := hd.1 rfl
      dsimp only
      rw [h10]
      refine wpList_unguard rfl ?_
      clear hd
      go_wp2_with fail
      exact ⟨_, by simp only [upd, h10]; rfl, hC, rfl, fun _ _ _ _ _ h => h⟩
    · have h11 : fx 11 = Value.pointer (some { block := w.heap.size, off := 2 }) := hd.1 rfl
      have h10 : fx 10 = Value.bool false := hd.2.1 rfl
      dsimp only
      rw [h10]
      refine wpList_unguard rfl ?_
      have hcc : w'.cell? ⟨w.heap.size, 2, none⟩ = some (Value.int .i64 t.ver) := by rw [cell_of_row _ _ _ _ _ _ (row_kept HR0.out hC)]; rfl
      clear hd
      go_wp2_with fail
      exact ⟨_, by simp only [upd, h11, h10]; rfl, hC, rfl, fun _ _ _ _ _ h => h⟩
    · have h12 : fx 12 = Value.int .i64 t.ver := hd.1 rfl
      have h10 : fx 10 = Value.bool false := hd.2.2.1 rfl
      dsimp only
      rw [h10]
      refine wpList_unguard rfl ?_
      go_wp2_with fail
      refine (in_any t.ver 1 1048576 w').mono ?_
      rintro e w2 ⟨rfl, rfl⟩
      rw [show (decide (1 ≤ t.ver) && decide (t.ver ≤ 1048576)) = false from g2.out]
      go_wp2_with fail
      exact ⟨_, by simp only [upd, h12, h10]; rfl, hC, rfl, fun _ _ _ _ _ h => h⟩
    · have h13 : fx 13 = Value.bool false := hd.1 rfl
      have h10 : fx 10 = Value.bool false := hd.2.1 rfl
      dsimp only
      rw [h10]
      refine wpList_unguard rfl ?_
      clear hd
      go_wp2_with fail
      exact ⟨_, by simp only [upd, h13, h10]; rfl, hC, rfl, fun _ _ _ _ _ h => h⟩
    · have h10 : fx 10 = Value.bool false := hd.1 rfl
      have h14 : fx 14 = Value.bool true := hd.2.1 rfl
      clear hd
      go_wp2_with fail
      exact ⟨_, by simp only [upd, h10, h14]; rfl, hC, rfl, fun _ _ _ _ _ h => h⟩
    · have h15 : fx 15 = Value.bool true := hd.1 rfl
      clear hd
      go_wp2_with fail
      exact ⟨_, by simp only [upd, h15]; rfl, hC, rfl, fun _ _ _ _ _ h => h⟩
    · have h16 : fx 16 = Value.bool true := hd.1 rfl
      go_wp2_with fail
      exact ⟨_, by simp only [upd, h16]; rfl, hC, rfl, fun _ _ _ _ _ h => h⟩
    · have h17 : fx 17 = undef := hd.1 rfl
      have h16 : fx 16 = Value.bool true := hd.2.1 rfl
      go_wp2_with fail
      exact ⟨_, by simp only [upd, h17, h16]; rfl, hC, rfl, fun _ _ _ _ _ h => h⟩
    · have h18 : fx 18 = undef := hd.1 rfl
      have h16 : fx 16 = Value.bool true := hd.2.2.1 rfl
      go_wp2_with fail
      exact ⟨_, by simp only [upd, h18, h16]; rfl, hC, rfl, fun _ _ _ _ _ h => h⟩
    · have h19 : fx 19 = undef := hd.1 rfl
      have h16 : fx 16 = Value.bool true := hd.2.1 rfl
      go_wp2_with fail
      exact ⟨_, by simp only [upd, h19, h16]; rfl, hC, rfl, fun _ _ _ _ _ h => h⟩
    · have h16 : fx 16 = Value.bool true := hd.1 rfl
      have h20 : fx 20 = undef := hd.2.1 rfl
      clear hd
      go_wp2_with fail
      exact ⟨_, by simp only [upd, h16, h20]; rfl, hC, rfl, fun _ _ _ _ _ h => h⟩
    · have h21 : fx 21 = Value.bool true := hd.1 rfl
      clear hd
      go_wp2_with fail
      exact ⟨_, by simp only [upd, h21]; rfl, hC, rfl, fun _ _ _ _ _ h => h⟩
    · have h22 : fx 22 = Value.bool true := hd.1 rfl
      go_wp2_with fail
      exact ⟨_, by simp only [upd, h22]; rfl, hC, rfl, fun _ _ _ _ _ h => h⟩
    · have h23 : fx 23 = undef := hd.1 rfl
      have h22 : fx 22 = Value.bool true := hd.2.1 rfl
      go_wp2_with fail
      exact ⟨_, by simp only [upd, h23, h22]; rfl, hC, rfl, fun _ _ _ _ _ h => h⟩
    · have h24 : fx 24 = undef := hd.1 rfl
      have h22 : fx 22 = Value.bool true := hd.2.1 rfl
      go_wp2_with fail
      exact ⟨_, by simp only [upd, h24, h22]; rfl, hC, rfl, fun _ _ _ _ _ h => h⟩
    · have h25 : fx 25 = undef := hd.1 rfl
      have h22 : fx 22 = Value.bool true := hd.2.1 rfl
      go_wp2_with fail
      exact ⟨_, by simp only [upd, h25, h22]; rfl, hC, rfl, fun _ _ _ _ _ h => h⟩
    · have h22 : fx 22 = Value.bool true := hd.1 rfl
      have h26 : fx 26 = undef := hd.2.1 rfl
      clear hd
      go_wp2_with fail
      exact ⟨_, by simp only [upd, h22, h26]; rfl, hC, rfl, fun _ _ _ _ _ h => h⟩
    · have h27 : fx 27 = Value.bool true := hd.1 rfl
      clear hd
      go_wp2_with fail
      exact ⟨_, by simp only [upd, h27]; rfl, hC, rfl, fun _ _ _ _ _ h => h⟩
    · have h28 : fx 28 = Value.bool true := hd.2.1 rfl
      go_wp2_with fail
      exact ⟨_, by simp only [upd, h28]; rfl, hC, rfl, fun _ _ _ _ _ h => h⟩
    · have h28 : fx 28 = Value.bool true := hd.1 rfl
      go_wp2_with fail
      exact ⟨_, by simp only [upd, h28]; rfl, hC, rfl, fun _ _ _ _ _ h => h⟩
    · have h30 : fx 30 = undef := hd.1 rfl
      have h28 : fx 28 = Value.bool true := hd.2.1 rfl
      go_wp2_with fail
      exact ⟨_, by simp only [upd, h30, h28]; rfl, hC, rfl, fun _ _ _ _ _ h => h⟩
    · have h29 : fx 29 = undef := hd.1 rfl
      have h31 : fx 31 = undef := hd.2.1 rfl
      have h28 : fx 28 = Value.bool true := hd.2.2.2.1 rfl
      go_wp2_with fail
      exact ⟨_, by simp only [upd, h29, h31, h28]; rfl, hC, rfl, fun _ _ _ _ _ h => h⟩
    · have h32 : fx 32 = undef := hd.1 rfl
      have h28 : fx 28 = Value.bool true := hd.2.1 rfl
      go_wp2_with fail
      exact ⟨_, by simp only [upd, h32, h28]; rfl, hC, rfl, fun _ _ _ _ _ h => h⟩
    · have h28 : fx 28 = Value.bool true := hd.1 rfl
      have h33 : fx 33 = undef := hd.2.1 rfl
      clear hd
      go_wp2_with fail
      exact ⟨_, by simp only [upd, h28, h33]; rfl, hC, rfl, fun _ _ _ _ _ h => h⟩
    · have h34 : fx 34 = Value.bool true := hd.1 rfl
      clear hd
      go_wp2_with fail
      exact ⟨_, by simp only [upd, h34]; rfl, hC, rfl, fun _ _ _ _ _ h => h⟩
    · have h35 : fx 35 = Value.bool true := hd.2.1 rfl
      go_wp2_with fail
      exact ⟨_, by simp only [upd, h35]; rfl, hC, rfl, fun _ _ _ _ _ h => h⟩
    · have h35 : fx 35 = Value.bool true := hd.1 rfl
      go_wp2_with fail
      exact ⟨_, by simp only [upd, h35]; rfl, hC, rfl, fun _ _ _ _ _ h => h⟩
    · have h37 : fx 37 = undef := hd.1 rfl
      have h35 : fx 35 = Value.bool true := hd.2.1 rfl
      go_wp2_with fail
      exact ⟨_, by simp only [upd, h37, h35]; rfl, hC, rfl, fun _ _ _ _ _ h => h⟩
    · have h36 : fx 36 = undef := hd.1 rfl
      have h38 : fx 38 = undef := hd.2.1 rfl
      have h35 : fx 35 = Value.bool true := hd.2.2.2.1 rfl
      go_wp2_with fail
      exact ⟨_, by simp only [upd, h36, h38, h35]; rfl, hC, rfl, fun _ _ _ _ _ h => h⟩
    · have h39 : fx 39 = undef := hd.1 rfl
      have h35 : fx 35 = Value.bool true := hd.2.1 rfl
      go_wp2_with fail
      exact ⟨_, by simp only [upd, h39, h35]; rfl, hC, rfl, fun _ _ _ _ _ h => h⟩
    · have h35 : fx 35 = Value.bool true := hd.1 rfl
      have h40 : fx 40 = undef := hd.2.1 rfl
      clear hd
      go_wp2_with fail
      exact ⟨_, by simp only [upd, h35, h40]; rfl, hC, rfl, fun _ _ _ _ _ h => h⟩
  · intro L fo w' hC hS
    have H41 := Lib.hid (hS 41 (by decide) rfl)
    have h41 : fo 41 = Value.bool true := H41.out
    rw [h41]
    have HBC := Lib.hid (HB0.out.trans (hC.mono HB0.out.size))
    clear hS hC h41 H41
    go_wp2_with fail
    go_ret
    exact ⟨rfl, HBC.out⟩
end Go.Proofs.YtmfmgeapecapiaaDoor
namespace Go.Proofs.YtmfmgeapecapiaaDoor
open Go.RowKit SzSha SzTree
set_option linter.unusedVariables false
set_option maxRecDepth 100000
def wCk3 (bt : Nat) (t : Tr) (p : TrP) : Nat → Value → World → Prop
  | 0, fv, _ => fv = Value.pointer (some { block := bt, off := 0 })
  | 1, fv, _ => fv = Value.int .i64 t.cam
  | 2, fv, _ => fv = Value.bool true
  | 3, fv, _ => fv = Value.bool false
  | 4, fv, _ => fv = Value.bool false
  | 5, fv, _ => fv = Value.pointer (some { block := bt, off := 1 })
  | 6, fv, _ => fv = Value.int .i64 t.stu
  | 7, fv, _ => fv = Value.bool true
  | 8, fv, _ => fv = Value.bool false
  | 9, fv, _ => fv = Value.bool false
  | 10, fv, _ => fv = Value.bool false
  | 11, fv, _ => fv = Value.pointer (some { block := bt, off := 2 })
  | 12, fv, _ => fv = Value.int .i64 t.ver
  | 13, fv, _ => fv = Value.bool true
  | 14, fv, _ => fv = Value.bool false
  | 15, fv, _ => fv = Value.bool false
  | 16, fv, _ => fv = Value.bool false
  | 17, fv, _ => fv = Value.pointer (some { block := bt, off := 3 })
  | 18, fv, _ => fv = Value.int .i64 t.kno
  | 19, fv, _ => fv = Value.bool false
  | 20, fv, _ => fv = Value.bool true
  | 21, fv, _ => fv = Value.bool true
  | 22, fv, _ => fv = Value.bool true
  | 23, fv, _ => fv = undef
  | 24, fv, _ => fv = undef
  | 25, fv, _ => fv = undef
  | 26, fv, _ => fv = undef
  | 27, fv, _ => fv = Value.bool true
  | 28, fv, _ => fv = Value.bool true
  | 29, fv, _ => fv = undef
  | 30, fv, _ => fv = undef
  | 31, fv, _ => fv = undef
  | 32, fv, _ => fv = undef
  | 33, fv, _ => fv = undef
  | 34, fv, _ => fv = Value.bool true
  | 35, fv, _ => fv = Value.bool true
  | 36, fv, _ => fv = undef
  | 37, fv, _ => fv = undef
  | 38, fv, _ => fv = undef
  | 39, fv, _ => fv = undef
  | 40, fv, _ => fv = undef
  | 41, fv, _ => fv = Value.bool true
  | _, _, _ => True
set_option maxHeartbeats 8000000 in
theorem check_3 (t : Tr) (p : TrP) (w : World) (h : Hid (TrOk w t p)) (g0 : Hid (inB t.cam 0 6 = true)) (g1 : Hid (inB t.stu 0 19999 = true)) (g2 : Hid (inB t.ver 1 1048576 = true)) (g3 : Hid (inB t.kno 1 16777216 = false)) :
    Calls Tryd.prog 17 #[trV t p] w fun e w' => e = .returned (.int .i64 420) ∧ Below w.heap.size w w' := by
  have hml : maxLen ≤ 9223372036854775807 := by unfold maxLen; omega
  have HM1 : Hid (p.n ≤ 9223372036854775807) := Lib.hid (Nat.le_trans h.out.mn hml)
  have HM2 : Hid (p.n2 ≤ 9223372036854775807) := Lib.hid (Nat.le_trans h.out.mc hml)
  have HB0 := Lib.hid ((Below.refl _ w).alloc (Nat.le_refl _) (.cells (trC t p).toArray 27))
  have HR0 := Lib.hid (heap_alloc_new w (.cells (trC t p).toArray 27))
  have HO1 := Lib.hid (h.out.below HB0.out)
  rw [show trV t p = .agg (trC t p).toArray from rfl]
  clear hml
  go_enter Tryd.func17, Tryd.ntmps17
  go_wp2_with fail
  generalize w.alloc (.cells (trC t p).toArray 27) = W1 at *
  refine region_flow3 (by kernel_rfl) (by kernel_rfl) (fun i => Nat.beq i 41) (fun i => i) (by kernel_rfl) (fun fx => #[Value.agg (trC t p).toArray, Value.pointer (some { block := w.heap.size, off := 0 }), Value.int .i64 0, fx 0, fx 1, fx 2, fx 3, fx 4, fx 5, fx 6, fx 7, fx 8, fx 9, fx 10, fx 11, fx 12, fx 13, fx 14, fx 15, fx 16, fx 17, fx 18, fx 19, fx 20, fx 21, fx 22, fx 23, fx 24, fx 25, fx 26, fx 27, fx 28, fx 29, fx 30, fx 31, fx 32, fx 33, fx 34, fx 35, fx 36, fx 37, fx 38, fx 39, fx 40, fx 41]) (fun _ => undef) (fun L fx w' => Below W1.heap.size W1 w') (fun fi fv _ fw => wCk3 w.heap.size t p fi fv fw) (Below.refl _ _).drew ?_ ?_
  · refine ⟨?_, ?_, ?_, ?_, ?_, ?_, ?_, ?_, ?_, ?_, ?_, ?_, ?_, ?_, ?_, ?_, ?_, ?_, ?_, ?_, ?_, ?_, ?_, ?_, ?_, ?_, ?_, ?_, ?_, ?_, ?_, ?_, ?_, ?_, ?_, ?_, ?_, ?_, ?_, ?_, ?_, ?_, trivial⟩
    all_goals intro L fx w' hC hi hcl hdn hd
    · clear hd
      go_wp2_with fail
      exact ⟨_, rfl, hC, rfl, fun _ _ _ _ _ h => h⟩
    · have h0 : fx 0 = Value.pointer (some { block := w.heap.size, off := 0 }) := hd.1 rfl
      have hcc : w'.cell? ⟨w.heap.size, 0, none⟩ = some (Value.int .i64 t.cam) := by rw [cell_of_row _ _ _ _ _ _ (row_kept HR0.out hC)]; rfl
      clear hd
      go_wp2_with fail
      exact ⟨_, by simp only [upd, h0]; rfl, hC, rfl, fun _ _ _ _ _ h => h⟩
    · have h1 : fx 1 = Value.int .i64 t.cam := hd.1 rfl
      go_wp2_with fail
      refine (in_any t.cam 0 6 w').mono ?_
      rintro e w2 ⟨rfl, rfl⟩
      rw [show (decide (0 ≤ t.cam) && decide (t.cam ≤ 6)) = true from g0.out]
      go_wp2_with fail
      exact ⟨_, by simp only [upd, h1]; rfl, hC, rfl, fun _ _ _ _ _ h => h⟩
    · have h2 : fx 2 = Value.bool true := hd.1 rfl
      clear hd
      go_wp2_with fail
      exact ⟨_, by simp only [upd, h2]; rfl, hC, rfl, fun _ _ _ _ _ h => h⟩
    · have h3 : fx 3 = Value.bool false := hd.1 rfl
      clear hd
      go_wp2_with fail
      exact ⟨_, by simp only [upd, h3]; rfl, hC, rfl, fun _ _ _ _ _ h => h⟩
    · have h4 : fx 4 = Value.bool false := hd.1 rfl
      dsimp only
      rw [h4]
      refine wpList_unguard rfl ?_
      clear hd
      go_wp2_with fail
      exact ⟨_, by simp only [upd, h4]; rfl, hC, rfl, fun _ _ _ _ _ h => h⟩
    · have h5 : fx 5 = Value.pointer (some { block := w.heap.size, off := 1 }) := hd.1 rfl
      have h4 : fx 4 = Value.bool false := hd.2.1 rfl
      dsimp only
      rw [h4]
      refine wpList_unguard rfl ?_
      have hcc : w'.cell? ⟨w.heap.size, 1, none⟩ = some (Value.int .i64 t.stu) := by rw [cell_of_row _ _ _ _ _ _ (row_kept HR0.out hC)]; rfl
      clear hd
      go_wp2_with fail
      exact ⟨_, by simp only [upd, h5, h4]; rfl, hC, rfl, fun _ _ _ _ _ h => h⟩
    · have h6 : fx 6 = Value.int .i64 t.stu := hd.1 rfl
      have h4 : fx 4 = Value.bool false := hd.2.2.1 rfl
      dsimp only
      rw [h4]
      refine wpList_unguard rfl ?_
      go_wp2_with fail
      refine (in_any t.stu 0 19999 w').mono ?_
      rintro e w2 ⟨rfl, rfl⟩
      rw [show (decide (0 ≤ t.stu) && decide (t.stu ≤ 19999)) = true from g1.out]
      go_wp2_with fail
      exact ⟨_, by simp only [upd, h6, h4]; rfl, hC, rfl, fun _ _ _ _ _ h => h⟩
    · have h7 : fx 7 = Value.bool true := hd.1 rfl
      have h4 : fx 4 = Value.bool false := hd.2.1 rfl
      dsimp only
      rw [h4]
      refine wpList_unguard rfl ?_
      clear hd
      go_wp2_with fail
      exact ⟨_, by simp only [upd, h7, h4]; rfl, hC, rfl, fun _ _ _ _ _ h => h⟩
    · have h4 : fx 4 = Value.bool false := hd.1 rfl
      have h8 : fx 8 = Value.bool false := hd.2.1 rfl
      clear hd
      go_wp2_with fail
      exact ⟨_, by simp only [upd, h4, h8]; rfl, hC, rfl, fun _ _ _ _ _ h => h⟩
    · have h9 : fx 9 = Value.bool false := hd.1 rfl
      clear hd
      go_wp2_with fail
      exact ⟨_, by simp only [upd, h9]; rfl, hC, rfl, fun _ _ _ _ _ h => h⟩
    · have h10 : fx 10 = Value.bool false := hd.1 rfl
      dsimp only
      rw [h10]
      refine wpList_unguard rfl ?_
      clear hd
      go_wp2_with fail
      exact ⟨_, by simp only [upd, h10]; rfl, hC, rfl, fun _ _ _ _ _ h => h⟩
    · have h11 : fx 11 = Value.pointer (some { block := w.heap.size, off := 2 }) := hd.1 rfl
      have h10 : fx 10 = Value.bool false := hd.2.1 rfl
      dsimp only
      rw [h10]
      refine wpList_unguard rfl ?_
      have hcc : w'.cell? ⟨w.heap.size, 2, none⟩ = some (Value.int .i64 t.ver) := by rw [cell_of_row _ _ _ _ _ _ (row_kept HR0.out hC)]; rfl
      clear hd
      go_wp2_with fail
      exact ⟨_, by simp only [upd, h11, h10]; rfl, hC, rfl, fun _ _ _ _ _ h => h⟩
    · have h12 : fx 12 = Value.int .i64 t.ver := hd.1 rfl
      have h10 : fx 10 = Value.bool false := hd.2.2.1 rfl
      dsimp only
      rw [h10]
      refine wpList_unguard rfl ?_
      go_wp2_with fail
      refine (in_any t.ver 1 1048576 w').mono ?_
      rintro e w2 ⟨rfl, rfl⟩
      rw [show (decide (1 ≤ t.ver) && decide (t.ver ≤ 1048576)) = true from g2.out]
      go_wp2_with fail
      exact ⟨_, by simp only [upd, h12, h10]; rfl, hC, rfl, fun _ _ _ _ _ h => h⟩
    · have h13 : fx 13 = Value.bool true := hd.1 rfl
      have h10 : fx 10 = Value.bool false := hd.2.1 rfl
      dsimp only
      rw [h10]
      refine wpList_unguard rfl ?_
      clear hd
      go_wp2_with fail
      exact ⟨_, by simp only [upd, h13, h10]; rfl, hC, rfl, fun _ _ _ _ _ h => h⟩
    · have h10 : fx 10 = Value.bool false := hd.1 rfl
      have h14 : fx 14 = Value.bool false := hd.2.1 rfl
      clear hd
      go_wp2_with fail
      exact ⟨_, by simp only [upd, h10, h14]; rfl, hC, rfl, fun _ _ _ _ _ h => h⟩
    · have h15 : fx 15 = Value.bool false := hd.1 rfl
      clear hd
      go_wp2_with fail
      exact ⟨_, by simp only [upd, h15]; rfl, hC, rfl, fun _ _ _ _ _ h => h⟩
    · have h16 : fx 16 = Value.bool false := hd.1 rfl
      dsimp only
      rw [h16]
      refine wpList_unguard rfl ?_
      clear hd
      go_wp2_with fail
      exact ⟨_, by simp only [upd, h16]; rfl, hC, rfl, fun _ _ _ _ _ h => h⟩
    · have h17 : fx 17 = Value.pointer (some { block := w.heap.size, off := 3 }) := hd.1 rfl
      have h16 : fx 16 = Value.bool false := hd.2.1 rfl
      dsimp only
      rw [h16]
      refine wpList_unguard rfl ?_
      have hcc : w'.cell? ⟨w.heap.size, 3, none⟩ = some (Value.int .i64 t.kno) := by rw [cell_of_row _ _ _ _ _ _ (row_kept HR0.out hC)]; rfl
      clear hd
      go_wp2_with fail
      exact ⟨_, by simp only [upd, h17, h16]; rfl, hC, rfl, fun _ _ _ _ _ h => h⟩
    · have h18 : fx 18 = Value.int .i64 t.kno := hd.1 rfl
      have h16 : fx 16 = Value.bool false := hd.2.2.1 rfl
      dsimp only
      rw [h16]
      refine wpList_unguard rfl ?_
      go_wp2_with fail
      refine (in_any t.kno 1 16777216 w').mono ?_
      rintro e w2 ⟨rfl, rfl⟩
      rw [show (decide (1 ≤ t.kno) && decide (t.kno ≤ 16777216)) = false from g3.out]
      go_wp2_with fail
      exact ⟨_, by simp only [upd, h18, h16]; rfl, hC, rfl, fun _ _ _ _ _ h => h⟩
    · have h19 : fx 19 = Value.bool false := hd.1 rfl
      have h16 : fx 16 = Value.bool false := hd.2.1 rfl
      dsimp only
      rw [h16]
      refine wpList_unguard rfl ?_
      clear hd
      go_wp2_with fail
      exact ⟨_, by simp only [upd, h19, h16]; rfl, hC, rfl, fun _ _ _ _ _ h => h⟩
    · have h16 : fx 16 = Value.bool false := hd.1 rfl
      have h20 : fx 20 = Value.bool true := hd.2.1 rfl
      clear hd
      go_wp2_with fail
      exact ⟨_, by simp only [upd, h16, h20]; rfl, hC, rfl, fun _ _ _ _ _ h => h⟩
    · have h21 : fx 21 = Value.bool true := hd.1 rfl
      clear hd
      go_wp2_with fail
      exact ⟨_, by simp only [upd, h21]; rfl, hC, rfl, fun _ _ _ _ _ h => h⟩
    · have h22 : fx 22 = Value.bool true := hd.1 rfl
      go_wp2_with fail
      exact ⟨_, by simp only [upd, h22]; rfl, hC, rfl, fun _ _ _ _ _ h => h⟩
    · have h23 : fx 23 = undef := hd.1 rfl
      have h22 : fx 22 = Value.bool true := hd.2.1 rfl
      go_wp2_with fail
      exact ⟨_, by simp only [upd, h23, h22]; rfl, hC, rfl, fun _ _ _ _ _ h => h⟩
    · have h24 : fx 24 = undef := hd.1 rfl
      have h22 : fx 22 = Value.bool true := hd.2.1 rfl
      go_wp2_with fail
      exact ⟨_, by simp only [upd, h24, h22]; rfl, hC, rfl, fun _ _ _ _ _ h => h⟩
    · have h25 : fx 25 = undef := hd.1 rfl
      have h22 : fx 22 = Value.bool true := hd.2.1 rfl
      go_wp2_with fail
      exact ⟨_, by simp only [upd, h25, h22]; rfl, hC, rfl, fun _ _ _ _ _ h => h⟩
    · have h22 : fx 22 = Value.bool true := hd.1 rfl
      have h26 : fx 26 = undef := hd.2.1 rfl
      clear hd
      go_wp2_with fail
      exact ⟨_, by simp only [upd, h22, h26]; rfl, hC, rfl, fun _ _ _ _ _ h => h⟩
    · have h27 : fx 27 = Value.bool true := hd.1 rfl
      clear hd
      go_wp2_with fail
      exact ⟨_, by simp only [upd, h27]; rfl, hC, rfl, fun _ _ _ _ _ h => h⟩
    · have h28 : fx 28 = Value.bool true := hd.2.1 rfl
      go_wp2_with fail
      exact ⟨_, by simp only [upd, h28]; rfl, hC, rfl, fun _ _ _ _ _ h => h⟩
    · have h28 : fx 28 = Value.bool true := hd.1 rfl
      go_wp2_with fail
      exact ⟨_, by simp only [upd, h28]; rfl, hC, rfl, fun _ _ _ _ _ h => h⟩
    · have h30 : fx 30 = undef := hd.1 rfl
      have h28 : fx 28 = Value.bool true := hd.2.1 rfl
      go_wp2_with fail
      exact ⟨_, by simp only [upd, h30, h28]; rfl, hC, rfl, fun _ _ _ _ _ h => h⟩
    · have h29 : fx 29 = undef := hd.1 rfl
      have h31 : fx 31 = undef := hd.2.1 rfl
      have h28 : fx 28 = Value.bool true := hd.2.2.2.1 rfl
      go_wp2_with fail
      exact ⟨_, by simp only [upd, h29, h31, h28]; rfl, hC, rfl, fun _ _ _ _ _ h => h⟩
    · have h32 : fx 32 = undef := hd.1 rfl
      have h28 : fx 28 = Value.bool true := hd.2.1 rfl
      go_wp2_with fail
      exact ⟨_, by simp only [upd, h32, h28]; rfl, hC, rfl, fun _ _ _ _ _ h => h⟩
    · have h28 : fx 28 = Value.bool true := hd.1 rfl
      have h33 : fx 33 = undef := hd.2.1 rfl
      clear hd
      go_wp2_with fail
      exact ⟨_, by simp only [upd, h28, h33]; rfl, hC, rfl, fun _ _ _ _ _ h => h⟩
    · have h34 : fx 34 = Value.bool true := hd.1 rfl
      clear hd
      go_wp2_with fail
      exact ⟨_, by simp only [upd, h34]; rfl, hC, rfl, fun _ _ _ _ _ h => h⟩
    · have h35 : fx 35 = Value.bool true := hd.2.1 rfl
      go_wp2_with fail
      exact ⟨_, by simp only [upd, h35]; rfl, hC, rfl, fun _ _ _ _ _ h => h⟩
    · have h35 : fx 35 = Value.bool true := hd.1 rfl
      go_wp2_with fail
      exact ⟨_, by simp only [upd, h35]; rfl, hC, rfl, fun _ _ _ _ _ h => h⟩
    · have h37 : fx 37 = undef := hd.1 rfl
      have h35 : fx 35 = Value.bool true := hd.2.1 rfl
      go_wp2_with fail
      exact ⟨_, by simp only [upd, h37, h35]; rfl, hC, rfl, fun _ _ _ _ _ h => h⟩
    · have h36 : fx 36 = undef := hd.1 rfl
      have h38 : fx 38 = undef := hd.2.1 rfl
      have h35 : fx 35 = Value.bool true := hd.2.2.2.1 rfl
      go_wp2_with fail
      exact ⟨_, by simp only [upd, h36, h38, h35]; rfl, hC, rfl, fun _ _ _ _ _ h => h⟩
    · have h39 : fx 39 = undef := hd.1 rfl
      have h35 : fx 35 = Value.bool true := hd.2.1 rfl
      go_wp2_with fail
      exact ⟨_, by simp only [upd, h39, h35]; rfl, hC, rfl, fun _ _ _ _ _ h => h⟩
    · have h35 : fx 35 = Value.bool true := hd.1 rfl
      have h40 : fx 40 = undef := hd.2.1 rfl
      clear hd
      go_wp2_with fail
      exact ⟨_, by simp only [upd, h35, h40]; rfl, hC, rfl, fun _ _ _ _ _ h => h⟩
  · intro L fo w' hC hS
    have H41 := Lib.hid (hS 41 (by decide) rfl)
    have h41 : fo 41 = Value.bool true := H41.out
    rw [h41]
    have HBC := Lib.hid (HB0.out.trans (hC.mono HB0.out.size))
    clear hS hC h41 H41
    go_wp2_with fail
    go_ret
    exact ⟨rfl, HBC.out⟩
end Go.Proofs.YtmfmgeapecapiaaDoor
