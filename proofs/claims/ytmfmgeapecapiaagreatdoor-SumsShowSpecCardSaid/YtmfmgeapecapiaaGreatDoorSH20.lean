/- sizarref43.Same of equal parts. sizarref43.Few; plain facts for the laws of layer 43. -/
import Derived.Test.YtmfmgeapecapiaaGreatDoorSH7
import Derived.Test.YtmfmgeapecapiaaGreatDoorSH5
import Derived.Test.YtmfmgeapecapiaaGreatDoorSH3
import Derived.Test.YtmfmgeapecapiaaGreatDoorSH2
import Derived.Test.YtmfmgeapecapiaaGreatDoorSH13
set_option maxHeartbeats 64000001
open Go.Lib (hid)
namespace Go.Proofs.YtmfmgeapecapiaaGreatDoor
open Go.RowKit SzSha SzTree
set_option linter.unusedVariables false
set_option maxRecDepth 100000
def wR43f (b0 : Nat) (g : Nat) (off : Nat) (n : Nat) (c : Nat) (g2 : Nat) (off2 : Nat) (c2 : Nat) (jn : Nat) (x : Nd) : Nat → Value → World → Prop
 | 0, fv, _ => fv = .pointer (some ⟨b0, 2, none⟩)
 | 1, fv, _ => fv = .slice (some ⟨g, off, none⟩) n c
 | 2, fv, _ => fv = .int .i64 ((jn : Nat))
 | 3, fv, _ => fv = .pointer (some ⟨g, off + jn * 34, none⟩)
 | 4, fv, _ => fv = ndV x
 | 5, fv, _ => fv = .pointer (some ⟨b0 + 1, 2, none⟩)
 | 6, fv, _ => fv = .slice (some ⟨g2, off2, none⟩) n c2
 | 7, fv, _ => fv = .int .i64 ((jn : Nat))
 | 8, fv, _ => fv = .pointer (some ⟨g2, off2 + jn * 34, none⟩)
 | 9, fv, _ => fv = ndV x
 | 10, fv, _ => fv = .bool false
 | _, _, _ => True
theorem rsamePt (f g0 : Int) (ls : List Nd) (A A2 : Option Addr) (n c c2 : Nat) (w : World) (hn : n ≤ 100000) (h : Hid (InN w A n c ls)) (h2 : Hid (InN w A2 n c2 ls)) :
  Calls Tryz.prog 34 #[.agg #[.int .i64 f, .int .i64 g0, .slice A n c], .agg #[.int .i64 f, .int .i64 g0, .slice A2 n c2]] w fun e w' => e = .returned (.bool true) ∧ Below w.heap.size w w' := by
 have HN := hid (show ls.length = n from h.out.len)
 have dff : (f != f) = false := by simp
 have dgg : (g0 != g0) = false := by simp
 have dn2 : ((n : Int) != (n : Int)) = false := by simp
 have hb0 := ((Below.refl _ w).alloc (Nat.le_refl _) (.cells #[.int .i64 f, .int .i64 g0, .slice A n c] 66)).alloc (by simp) (.cells #[.int .i64 f, .int .i64 g0, .slice A2 n c2] 66)
 have hr0 := (Below.heap_alloc (w.alloc (.cells #[.int .i64 f, .int .i64 g0, .slice A n c] 66)) (.cells #[.int .i64 f, .int .i64 g0, .slice A2 n c2] 66) w.heap.size (by simp)).trans (heap_alloc_new w (.cells #[.int .i64 f, .int .i64 g0, .slice A n c] 66))
 have hr1 := heap_alloc_new (w.alloc (.cells #[.int .i64 f, .int .i64 g0, .slice A n c] 66)) (.cells #[.int .i64 f, .int .i64 g0, .slice A2 n c2] 66)
 rw [World.size_alloc] at hr1
 obtain ⟨VA, HVA⟩ : ∃ V, Hid ((w.alloc (.cells #[.int .i64 f, .int .i64 g0, .slice A n c] 66)).alloc (.cells #[.int .i64 f, .int .i64 g0, .slice A2 n c2] 66) = V) := ⟨_, hid rfl⟩
 rw [HVA.out] at hb0 hr0 hr1
 have HB0 := hid hb0
 have RA0 := hid hr0
 have RB0 := hid hr1
 clear hb0 hr0 hr1
 have k0 := cell_of_row _ _ 0 _ _ _ RA0.out
 have k1 := cell_of_row _ _ 1 _ _ _ RA0.out
 have k2 := cell_of_row _ _ 2 _ _ _ RA0.out
 have l0 := cell_of_row _ _ 0 _ _ _ RB0.out
 have l1 := cell_of_row _ _ 1 _ _ _ RB0.out
 have l2 := cell_of_row _ _ 2 _ _ _ RB0.out
 go_enter Tryz.func34, Tryz.ntmps34
 go_wp2_with (rw [HVA.out])
 clear k0 k1 k2 l0 l1 l2
 go_loopw [5] (fun i wr => ∃ (j : Nat), j ≤ n ∧ i = .int .i64 j ∧ Hid (Below VA.heap.size VA wr)) (fun i _ => n - (intOf i).toNat)
 case atStart => exact ⟨0, by omega, rfl, hid (Below.refl _ _)⟩
 case round =>
  obtain ⟨j, hj, rfl, HB⟩ := hrel
  have HWB := hid (HB0.out.trans (HB.out.mono HB0.out.size))
  have RA := hid (row_kept RA0.out HB.out)
  have RB := hid (row_kept RB0.out HB.out)
  have k2 := cell_of_row _ _ 2 _ _ _ RA.out
  have l2 := cell_of_row _ _ 2 _ _ _ RB.out
  by_cases hlt : j < n
  ·have d1 : decide ((j : Int) < (n : Int)) = true := eQ (by omega)
   have d2 : decide (j < n) = true := eQ hlt
   have HLT := hid hlt
   have hjl : j < ls.length := by rw [HN.out]; exact hlt
   obtain ⟨g, off, rfl, hg1, hr1⟩ := h.out.rd (by omega)
   obtain ⟨g2, off2, rfl, hg2, hr2⟩ := h2.out.rd (by omega)
   obtain ⟨x, hx⟩ : ∃ x, ls[j] = x := ⟨_, rfl⟩
   have HXO : Hid (NdOk x) := hid (by rw [← hx]; exact h.out.ok _ (List.getElem_mem hjl))
   have HR1 : Hid (wr.rangeAt g (off + j * 34) (ndC x)) := hid (by rw [← hx]; exact rangeAt_below (range_one hr1 h.out.ok j hjl) hg1 HWB.out)
   have HR2 : Hid (wr.rangeAt g2 (off2 + j * 34) (ndC x)) := hid (by rw [← hx]; exact rangeAt_below (range_one hr2 h2.out.ok j hjl) hg2 HWB.out)
   have HG1 : Hid (g < wr.heap.size) := hid (Nat.lt_of_lt_of_le hg1 HWB.out.size)
   have HG2 : Hid (g2 < wr.heap.size) := hid (Nat.lt_of_lt_of_le hg2 HWB.out.size)
   have HII := hid (size34 HXO.out)
   clear hr1 hr2 hx hg1 hg2 hjl
   go_wp2_with fail
   clear k2 l2
   refine region_flow3 (by kernel_rfl) (by kernel_rfl) (fun i => Nat.beq i 10) (fun i => i) (by kernel_rfl) (fun fx => #[.agg #[.int IntKind.i64 f, .int IntKind.i64 g0, .slice (some { block := g, off := off }) n c], .agg #[.int IntKind.i64 f, .int IntKind.i64 g0, .slice (some { block := g2, off := off2 }) n c2], .pointer (some { block := w.heap.size, off := 0 }), .pointer (some { block := w.heap.size + 1, off := 0 }), u4, .int IntKind.i64 ↑j, .pointer (some { block := w.heap.size, off := 0 }), .int IntKind.i64 f, .pointer (some { block := w.heap.size + 1, off := 0 }), .int IntKind.i64 f, .bool false, .bool false, .pointer (some { block := w.heap.size, off := 1 }), .int IntKind.i64 g0, .pointer (some { block := w.heap.size + 1, off := 1 }), .int IntKind.i64 g0, .bool false, .bool false, .bool false, .pointer (some { block := w.heap.size, off := 2 }), .slice (some { block := g, off := off }) n c, .int IntKind.i64 ↑n, .pointer (some { block := w.heap.size + 1, off := 2 }), .slice (some { block := g2, off := off2 }) n c2, .int IntKind.i64 ↑n, .bool false, .bool false, .int IntKind.i64 ↑j, .pointer (some { block := w.heap.size, off := 2 }), .slice (some { block := g, off := off }) n c, .int IntKind.i64 ↑n, .bool true, u32, u33, fx 0, fx 1, fx 2, fx 3, fx 4, fx 5, fx 6, fx 7, fx 8, fx 9, fx 10]) (fun i => bif Nat.beq i 0 then u34 else bif Nat.beq i 1 then u35 else bif Nat.beq i 2 then u36 else bif Nat.beq i 3 then u37 else bif Nat.beq i 4 then u38 else bif Nat.beq i 5 then u39 else bif Nat.beq i 6 then u40 else bif Nat.beq i 7 then u41 else bif Nat.beq i 8 then u42 else bif Nat.beq i 9 then u43 else bif Nat.beq i 10 then u44 else undef) (fun L fx w' => Below wr.heap.size wr w') (fun fi fv _ fw => wR43f w.heap.size g off n c g2 off2 c2 j x fi fv fw) (Below.refl _ _).drew ?_ ?_
   ·refine ⟨?_, ?_, ?_, ?_, ?_, ?_, ?_, ?_, ?_, ?_, ?_, trivial⟩
    all_goals intro L fx w' hC hi hcl hdn hd
    ·clear hd
     go_wp2_with fail
     exact ⟨_, rfl, hC, rfl, kP⟩
    ·have h0 : fx 0 = .pointer (some ⟨w.heap.size, 2, none⟩) := hd.1 rfl
     have kc := cell_of_row _ _ 2 _ _ _ (row_kept RA.out hC)
     clear hd
     go_wp2_with fail
     exact ⟨_, by simp only [upd, h0]; rfl, hC, rfl, kP⟩
    ·clear hd
     go_wp2_with fail
     exact ⟨_, rfl, hC, rfl, kP⟩
    ·have h1 : fx 1 = .slice (some ⟨g, off, none⟩) n c := hd.1 rfl
     have h2 : fx 2 = .int .i64 ((j : Nat)) := hd.2.1 rfl
     have hlt := HLT.out
     have hltn : decide (j < n) = true := eQ hlt
     clear hd
     go_wp2_with fail
     exact ⟨_, by simp only [upd, h1, h2]; rfl, hC, rfl, kP⟩
    ·have h3 : fx 3 = .pointer (some ⟨g, off + j * 34, none⟩) := hd.1 rfl
     have hrow := rangeAt_below HR1.out HG1.out hC
     refine wpList_load_mid rfl 39 (.tmp 37) rfl g (off + j * 34) h3 (ndC x) _ hrow Tryz.underlying39 rfl HII.out ?_
     rw [show Value.agg (ndC x).toArray = ndV x from rfl]
     clear hd
     go_wp2_with fail
     exact ⟨_, by simp only [upd, h3]; rfl, hC, rfl, kP⟩
    ·clear hd
     go_wp2_with fail
     exact ⟨_, rfl, hC, rfl, kP⟩
    ·have h5 : fx 5 = .pointer (some ⟨w.heap.size + 1, 2, none⟩) := hd.1 rfl
     have kc := cell_of_row _ _ 2 _ _ _ (row_kept RB.out hC)
     clear hd
     go_wp2_with fail
     exact ⟨_, by simp only [upd, h5]; rfl, hC, rfl, kP⟩
    ·clear hd
     go_wp2_with fail
     exact ⟨_, rfl, hC, rfl, kP⟩
    ·have h6 : fx 6 = .slice (some ⟨g2, off2, none⟩) n c2 := hd.1 rfl
     have h7 : fx 7 = .int .i64 ((j : Nat)) := hd.2.1 rfl
     have hlt := HLT.out
     have hltn : decide (j < n) = true := eQ hlt
     clear hd
     go_wp2_with fail
     exact ⟨_, by simp only [upd, h6, h7]; rfl, hC, rfl, kP⟩
    ·have h8 : fx 8 = .pointer (some ⟨g2, off2 + j * 34, none⟩) := hd.1 rfl
     have hrow := rangeAt_below HR2.out HG2.out hC
     refine wpList_load_mid rfl 39 (.tmp 42) rfl g2 (off2 + j * 34) h8 (ndC x) _ hrow Tryz.underlying39 rfl HII.out ?_
     rw [show Value.agg (ndC x).toArray = ndV x from rfl]
     clear hd
     go_wp2_with fail
     exact ⟨_, by simp only [upd, h8]; rfl, hC, rfl, kP⟩
    ·have h4 : fx 4 = ndV x := hd.1 rfl
     have h9 : fx 9 = ndV x := hd.2.1 rfl
     refine wpList_neq_nd rfl (.tmp 38) (.tmp 43) _ rfl x x h4 h9 HXO.out HXO.out ?_
     rw [show (!(ndEq x x)) = false by rw [ndEq_refl]; rfl]
     clear hd
     go_wp2_with fail
     exact ⟨_, by simp only [upd, h4, h9]; rfl, hC, rfl, kP⟩
   ·intro L fo w' hC hS
    have H10 := hid (hS 10 (by decide) rfl)
    have h10 : fo 10 = .bool false := H10.out
    rw [h10]
    have HB5 := hid (HB.out.trans (hC.mono HB.out.size))
    clear hS hC h10 H10
    go_wp2_with fail
    go_roundw
    case rel => exact ⟨j + 1, by omega, by go_num, HB5⟩
    case measure => simp [intOf]; omega
  ·have d1 : decide ((j : Int) < (n : Int)) = false := dQ (by omega)
   have d1n : decide (j < n) = false := dQ hlt
   go_wp2_with fail
   go_ret
   exact ⟨rfl, HWB.out⟩
theorem shN_len (t : Tr) (f g : Int) : (shN t f g).length ≤ 100000 := by
 unfold shN
 split
 case isTrue h =>
  obtain ⟨h1, h2, h3, h4, h5⟩ := shG_iff h
  rw [List.length_map]
  have := parts_length (f := f.toNat) (t := g.toNat) (by omega) 0 t.ln.length (by omega)
  omega
 case isFalse => simp
theorem few43_yes (t : Tr) (p : TrP) (A : Option Addr) (n c : Nat) (a b : Int) (w : World) (h1 : p.n ≤ 40) (h2 : p.n2 ≤ 20) (h3 : n ≤ 40) :
  Calls Tryz.prog 31 #[trV t p, .agg #[.int .i64 a, .int .i64 b, .slice A n c]] w fun e w' => e = .returned (.bool true) ∧ Below w.heap.size w w' := by
 have hb := ((Below.refl _ w).alloc (Nat.le_refl _) (.cells (trC t p).toArray 27)).alloc (by simp) (.cells #[.int .i64 a, .int .i64 b, .slice A n c] 66)
 have hr := row_kept (heap_alloc_new w (.cells (trC t p).toArray 27)) ((Below.refl _ (w.alloc (.cells (trC t p).toArray 27))).alloc (Nat.le_refl _) (.cells #[.int .i64 a, .int .i64 b, .slice A n c] 66))
 have hp := heap_alloc_new (w.alloc (.cells (trC t p).toArray 27)) (.cells #[.int .i64 a, .int .i64 b, .slice A n c] 66)
 rw [World.size_alloc] at hp
 obtain ⟨V, HV⟩ : ∃ V, Hid ((w.alloc (.cells (trC t p).toArray 27)).alloc (.cells #[.int .i64 a, .int .i64 b, .slice A n c] 66) = V) := ⟨_, hid rfl⟩
 rw [HV.out] at hb hr hp
 have k4 : V.cell? ⟨w.heap.size, 4, none⟩ = some (.slice p.A p.n p.c) := by rw [cell_of_row _ _ _ _ _ _ hr]; rfl
 have k5 : V.cell? ⟨w.heap.size, 5, none⟩ = some (.slice p.A2 p.n2 p.c2) := by rw [cell_of_row _ _ _ _ _ _ hr]; rfl
 have k2 : V.cell? ⟨w.heap.size + 1, 2, none⟩ = some (.slice A n c) := cell_of_row _ _ 2 _ _ _ hp
 have HB := hid hb
 have d1 : decide ((p.n : Int) ≤ 40) = true := eQ (by omega)
 have e1 : decide (p.n ≤ 40) = true := eQ (by omega)
 have d2 : decide ((p.n2 : Int) ≤ 20) = true := eQ (by omega)
 have e2 : decide (p.n2 ≤ 20) = true := eQ (by omega)
 have d3 : decide ((n : Int) ≤ 40) = true := eQ (by omega)
 have e3 : decide (n ≤ 40) = true := eQ (by omega)
 clear hb hr hp
 rw [show trV t p = .agg (trC t p).toArray from rfl]
 go_enter Tryz.func31, Tryz.ntmps31
 go_wp2_with (rw [HV.out])
 go_ret
 exact ⟨rfl, HB.out⟩
theorem few43_no1 (t : Tr) (p : TrP) (A : Option Addr) (n c : Nat) (a b : Int) (w : World) (h1 : ¬ p.n ≤ 40) :
  Calls Tryz.prog 31 #[trV t p, .agg #[.int .i64 a, .int .i64 b, .slice A n c]] w fun e w' => e = .returned (.bool false) ∧ Below w.heap.size w w' := by
 have hb := ((Below.refl _ w).alloc (Nat.le_refl _) (.cells (trC t p).toArray 27)).alloc (by simp) (.cells #[.int .i64 a, .int .i64 b, .slice A n c] 66)
 have hr := row_kept (heap_alloc_new w (.cells (trC t p).toArray 27)) ((Below.refl _ (w.alloc (.cells (trC t p).toArray 27))).alloc (Nat.le_refl _) (.cells #[.int .i64 a, .int .i64 b, .slice A n c] 66))
 have hp := heap_alloc_new (w.alloc (.cells (trC t p).toArray 27)) (.cells #[.int .i64 a, .int .i64 b, .slice A n c] 66)
 rw [World.size_alloc] at hp
 obtain ⟨V, HV⟩ : ∃ V, Hid ((w.alloc (.cells (trC t p).toArray 27)).alloc (.cells #[.int .i64 a, .int .i64 b, .slice A n c] 66) = V) := ⟨_, hid rfl⟩
 rw [HV.out] at hb hr hp
 have k4 : V.cell? ⟨w.heap.size, 4, none⟩ = some (.slice p.A p.n p.c) := by rw [cell_of_row _ _ _ _ _ _ hr]; rfl
 have k5 : V.cell? ⟨w.heap.size, 5, none⟩ = some (.slice p.A2 p.n2 p.c2) := by rw [cell_of_row _ _ _ _ _ _ hr]; rfl
 have k2 : V.cell? ⟨w.heap.size + 1, 2, none⟩ = some (.slice A n c) := cell_of_row _ _ 2 _ _ _ hp
 have HB := hid hb
 have d1 : decide ((p.n : Int) ≤ 40) = false := dQ (by omega)
 have e1 : decide (p.n ≤ 40) = false := dQ (by omega)
 clear hb hr hp
 rw [show trV t p = .agg (trC t p).toArray from rfl]
 go_enter Tryz.func31, Tryz.ntmps31
 go_wp2_with (rw [HV.out])
 go_ret
 exact ⟨rfl, HB.out⟩
theorem few43_no2 (t : Tr) (p : TrP) (A : Option Addr) (n c : Nat) (a b : Int) (w : World) (h1 : p.n ≤ 40) (h2 : ¬ p.n2 ≤ 20) :
  Calls Tryz.prog 31 #[trV t p, .agg #[.int .i64 a, .int .i64 b, .slice A n c]] w fun e w' => e = .returned (.bool false) ∧ Below w.heap.size w w' := by
 have hb := ((Below.refl _ w).alloc (Nat.le_refl _) (.cells (trC t p).toArray 27)).alloc (by simp) (.cells #[.int .i64 a, .int .i64 b, .slice A n c] 66)
 have hr := row_kept (heap_alloc_new w (.cells (trC t p).toArray 27)) ((Below.refl _ (w.alloc (.cells (trC t p).toArray 27))).alloc (Nat.le_refl _) (.cells #[.int .i64 a, .int .i64 b, .slice A n c] 66))
 have hp := heap_alloc_new (w.alloc (.cells (trC t p).toArray 27)) (.cells #[.int .i64 a, .int .i64 b, .slice A n c] 66)
 rw [World.size_alloc] at hp
 obtain ⟨V, HV⟩ : ∃ V, Hid ((w.alloc (.cells (trC t p).toArray 27)).alloc (.cells #[.int .i64 a, .int .i64 b, .slice A n c] 66) = V) := ⟨_, hid rfl⟩
 rw [HV.out] at hb hr hp
 have k4 : V.cell? ⟨w.heap.size, 4, none⟩ = some (.slice p.A p.n p.c) := by rw [cell_of_row _ _ _ _ _ _ hr]; rfl
 have k5 : V.cell? ⟨w.heap.size, 5, none⟩ = some (.slice p.A2 p.n2 p.c2) := by rw [cell_of_row _ _ _ _ _ _ hr]; rfl
 have k2 : V.cell? ⟨w.heap.size + 1, 2, none⟩ = some (.slice A n c) := cell_of_row _ _ 2 _ _ _ hp
 have HB := hid hb
 have d1 : decide ((p.n : Int) ≤ 40) = true := eQ (by omega)
 have e1 : decide (p.n ≤ 40) = true := eQ (by omega)
 have d2 : decide ((p.n2 : Int) ≤ 20) = false := dQ (by omega)
 have e2 : decide (p.n2 ≤ 20) = false := dQ (by omega)
 clear hb hr hp
 rw [show trV t p = .agg (trC t p).toArray from rfl]
 go_enter Tryz.func31, Tryz.ntmps31
 go_wp2_with (rw [HV.out])
 go_ret
 exact ⟨rfl, HB.out⟩
theorem few43_no3 (t : Tr) (p : TrP) (A : Option Addr) (n c : Nat) (a b : Int) (w : World) (h1 : p.n ≤ 40) (h2 : p.n2 ≤ 20) (h3 : ¬ n ≤ 40) :
  Calls Tryz.prog 31 #[trV t p, .agg #[.int .i64 a, .int .i64 b, .slice A n c]] w fun e w' => e = .returned (.bool false) ∧ Below w.heap.size w w' := by
 have hb := ((Below.refl _ w).alloc (Nat.le_refl _) (.cells (trC t p).toArray 27)).alloc (by simp) (.cells #[.int .i64 a, .int .i64 b, .slice A n c] 66)
 have hr := row_kept (heap_alloc_new w (.cells (trC t p).toArray 27)) ((Below.refl _ (w.alloc (.cells (trC t p).toArray 27))).alloc (Nat.le_refl _) (.cells #[.int .i64 a, .int .i64 b, .slice A n c] 66))
 have hp := heap_alloc_new (w.alloc (.cells (trC t p).toArray 27)) (.cells #[.int .i64 a, .int .i64 b, .slice A n c] 66)
 rw [World.size_alloc] at hp
 obtain ⟨V, HV⟩ : ∃ V, Hid ((w.alloc (.cells (trC t p).toArray 27)).alloc (.cells #[.int .i64 a, .int .i64 b, .slice A n c] 66) = V) := ⟨_, hid rfl⟩
 rw [HV.out] at hb hr hp
 have k4 : V.cell? ⟨w.heap.size, 4, none⟩ = some (.slice p.A p.n p.c) := by rw [cell_of_row _ _ _ _ _ _ hr]; rfl
 have k5 : V.cell? ⟨w.heap.size, 5, none⟩ = some (.slice p.A2 p.n2 p.c2) := by rw [cell_of_row _ _ _ _ _ _ hr]; rfl
 have k2 : V.cell? ⟨w.heap.size + 1, 2, none⟩ = some (.slice A n c) := cell_of_row _ _ 2 _ _ _ hp
 have HB := hid hb
 have d1 : decide ((p.n : Int) ≤ 40) = true := eQ (by omega)
 have e1 : decide (p.n ≤ 40) = true := eQ (by omega)
 have d2 : decide ((p.n2 : Int) ≤ 20) = true := eQ (by omega)
 have e2 : decide (p.n2 ≤ 20) = true := eQ (by omega)
 have d3 : decide ((n : Int) ≤ 40) = false := dQ (by omega)
 have e3 : decide (n ≤ 40) = false := dQ (by omega)
 clear hb hr hp
 rw [show trV t p = .agg (trC t p).toArray from rfl]
 go_enter Tryz.func31, Tryz.ntmps31
 go_wp2_with (rw [HV.out])
 go_ret
 exact ⟨rfl, HB.out⟩
theorem few43_no (t : Tr) (p : TrP) (A : Option Addr) (n c : Nat) (a b : Int) (w : World) (h : ¬ (p.n ≤ 40 ∧ p.n2 ≤ 20) ∨ ¬ n ≤ 40) :
  Calls Tryz.prog 31 #[trV t p, .agg #[.int .i64 a, .int .i64 b, .slice A n c]] w fun e w' => e = .returned (.bool false) ∧ Below w.heap.size w w' := by
 by_cases h1 : p.n ≤ 40
 ·by_cases h2 : p.n2 ≤ 20
  ·exact few43_no3 t p A n c a b w h1 h2 (by rcases h with h | h; exact absurd ⟨h1, h2⟩ h; exact h)
  ·exact few43_no2 t p A n c a b w h1 h2
 ·exact few43_no1 t p A n c a b w h1
end Go.Proofs.YtmfmgeapecapiaaGreatDoor
