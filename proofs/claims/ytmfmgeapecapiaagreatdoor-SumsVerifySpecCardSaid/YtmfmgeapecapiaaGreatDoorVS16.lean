/- sizarref41.ints: the encoding of a list of integers. The reference of layer 2: Sum and Tagged are the same plain functions. The reference of layer 2: Tagged. sizarref41.Salt. sizarref41: Valid, Line, Half, Check. -/
import Derived.Test.YtmfmgeapecapiaaGreatDoorVS15
import Derived.Test.YtmfmgeapecapiaaGreatDoorVS3
import Derived.Test.YtmfmgeapecapiaaGreatDoorVS5
import Derived.Test.YtmfmgeapecapiaaGreatDoorVS2
set_option maxHeartbeats 64000001
open Go.Lib (hid)
namespace Go.Proofs.YtmfmgeapecapiaaGreatDoor
open Go.RowKit SzSha SzTree
set_option linter.unusedVariables false
set_option maxRecDepth 100000
def wRi (base : Nat) (b : Nat) (g : Nat) (m : Nat) (gc : Nat) (jj : Nat) (vl : Value) (z : Int) (l2 : List Int) : Nat → Value → Value → World → Prop
 | 0, fv, _, _ => fv = .pointer (some ⟨b, 3, none⟩)
 | 1, fv, _, _ => fv = vl
 | 2, fv, _, _ => fv = .slice (some ⟨g, 0, none⟩) m gc
 | 3, fv, _, _ => fv = .int .i64 ((jj : Nat))
 | 4, fv, _, _ => fv = .pointer (some ⟨g, jj, none⟩)
 | 5, fv, _, _ => fv = .int .i64 z
 | 6, fv, _, _ => fv = .agg #[.int .i64 1, .int .i64 z, .string ⟨#[]⟩, .slice none 0 0]
 | 7, fv, fu, fw => ∃ q, fv = .slice (some ⟨q, 0, none⟩) 1 1 ∧ fw.heap[q]? = some (.cells #[.int .i64 1, .int .i64 z, .string ⟨#[]⟩, .slice none 0 0] 148 (0, 0))
 | 8, fv, fu, fw => OwnV fw base fv l2
 | 9, fv, _, _ => fv = .pointer (some ⟨b, 3, none⟩)
 | 10, fv, fu, fw => OwnV fw base fu l2 ∧ fw.heap[b]? = some (.cells #[.int .i64 3, .int .i64 0, .string ⟨#[]⟩, fu] 148 (0, 0))
 | _, _, _, _ => True
theorem wRi_below {base : Nat} {b : Nat} {g : Nat} {m : Nat} {gc : Nat} {jj : Nat} {vl : Value} {z : Int} {l2 : List Int} {w w' : World} (hb : Below w.heap.size w w') : ∀ j v u, wRi base b g m gc jj vl z l2 j v u w → wRi base b g m gc jj vl z l2 j v u w'
 | 0, v, u, h => h
 | 1, v, u, h => h
 | 2, v, u, h => h
 | 3, v, u, h => h
 | 4, v, u, h => h
 | 5, v, u, h => h
 | 6, v, u, h => h
 | 7, v, u, ⟨q, h1, h2⟩ => ⟨q, h1, (hb.block q (Array.getElem?_eq_some_iff.1 h2).1).trans h2⟩
 | 8, v, u, h => h.kept (fun k _ hk => hb.block k hk)
 | 9, v, u, h => h
 | 10, v, u, h => ⟨h.1.kept (fun k _ hk => hb.block k hk), (hb.block b (Array.getElem?_eq_some_iff.1 h.2).1).trans h.2⟩
 | n + 11, v, u, h => trivial
theorem wRi_pure {base : Nat} {b : Nat} {g : Nat} {m : Nat} {gc : Nat} {jj : Nat} {vl : Value} {z : Int} {l2 : List Int} {w w' : World} : ∀ j v u, j ≠ 7 → j ≠ 8 → j ≠ 10 → wRi base b g m gc jj vl z l2 j v u w → wRi base b g m gc jj vl z l2 j v u w'
 | 0, v, u, _, _, _, h => h
 | 1, v, u, _, _, _, h => h
 | 2, v, u, _, _, _, h => h
 | 3, v, u, _, _, _, h => h
 | 4, v, u, _, _, _, h => h
 | 5, v, u, _, _, _, h => h
 | 6, v, u, _, _, _, h => h
 | 7, v, u, hh, _, _, _ => absurd rfl hh
 | 8, v, u, _, hh, _, _ => absurd rfl hh
 | 9, v, u, _, _, _, h => h
 | 10, v, u, _, _, hh, _ => absurd rfl hh
 | n + 11, v, u, _, _, _, h => trivial
theorem rints_any (zs : List Int) (g m gc : Nat) (w : World) (hz : Hid (∀ z ∈ zs, -9223372036854775808 ≤ z ∧ z ≤ 9223372036854775807)) (hm : zs.length = m) (hzn : m ≤ 1000) (hzc : Hid (∀ i, i < m → w.cell? ⟨g, i, none⟩ = some (.int .i64 (zs.getD i 0)))) (hg : g < w.heap.size) :
  Calls Tryz.prog 99 #[.slice (some ⟨g, 0, none⟩) m gc] w fun e w' => ∃ v', e = .returned v' ∧ OwnB w' w.heap.size v' (encI zs) ∧ Below w.heap.size w w' := by
 have HM := hid hm
 clear hm
 have HB0 := hid ((Below.refl _ w).alloc (Nat.le_refl _) (.cells #[.int .i64 3, .int .i64 0, .string ⟨#[]⟩, .slice none 0 0] 148))
 have HV0 := hid (heap_alloc_new w (.cells #[.int .i64 3, .int .i64 0, .string ⟨#[]⟩, .slice none 0 0] 148))
 go_enter Tryz.func99, Tryz.ntmps99
 go_wp2_with fail
 go_loopw [4] (fun i wr => ∃ j : Nat, j ≤ m ∧ i = .int .i64 j ∧ ∃ vl, Hid (wr.heap[w.heap.size]? = some (.cells #[.int .i64 3, .int .i64 0, .string ⟨#[]⟩, vl] 148 (0, 0))) ∧ Hid (OwnV wr (w.heap.size + 1) vl (zs.take j)) ∧ Hid (Below w.heap.size w wr)) (fun i _ => m - (intOf i).toNat)
 case atStart => exact ⟨0, by omega, rfl, _, HV0, hid (OwnV.nil _ _), HB0⟩
 case round =>
  clear HV0 HB0
  obtain ⟨j, hj, rfl, vl, HV, HO, HB⟩ := hrel
  by_cases hlt : j < m
  ·have d1 : decide ((j : Int) < (m : Int)) = true := eQ (by omega)
   have d2 : decide (j < m) = true := eQ hlt
   obtain ⟨z, HZ⟩ : ∃ z, Hid (zs.getD j 0 = z) := ⟨_, hid rfl⟩
   have hcell : wr.cell? ⟨g, j, none⟩ = some (.int .i64 z) := by rw [← HZ.out]; exact (HB.out.cell (p := ⟨g, j, none⟩) hg).trans (hzc.out j hlt)
   have HC := hid hcell
   have HSZ : Hid (w.heap.size + 1 ≤ wr.heap.size) := hid (Array.getElem?_eq_some_iff.1 HV.out).1
   have HGS : Hid (g < wr.heap.size) := hid (Nat.lt_of_lt_of_le hg HB.out.size)
   have HLN : Hid ((zs.take j).length ≤ 100000) := hid (by rw [List.length_take]; omega)
   have HNX : Hid (zs.take j ++ [z] = zs.take (j + 1)) := hid (by
    have h1 : j < zs.length := by rw [HM.out]; exact hlt
    rw [List.take_succ_eq_append_getElem h1, ← HZ.out]; simp [List.getD_eq_getElem?_getD, h1])
   clear hcell
   obtain ⟨A, n, c, rfl⟩ := ownV_form HO.out
   go_wp2_with fail
   refine region_flow3 (by kernel_rfl) (by kernel_rfl) (fun i => Nat.beq i 10) (fun i => bif Nat.beq i 10 then 8 else i) (by kernel_rfl) (fun fx => #[.slice (some { block := g, off := 0 }) m gc, undef, .slice none 0 0, .pointer (some { block := w.heap.size, off := 0 }), .int IntKind.i64 ↑j, undef, undef, .agg #[.int IntKind.i64 3, .int IntKind.i64 0, .string { data := #[] }, .slice none 0 0], .int IntKind.i64 ↑j, .slice (some { block := g, off := 0 }) m gc, .int IntKind.i64 ↑m, .bool true, u12, u13, fx 0, fx 1, fx 2, fx 3, fx 4, fx 5, fx 6, fx 7, fx 8, fx 9, undef, undef, undef, undef, undef, undef]) (fun i => bif Nat.beq i 0 then u14 else bif Nat.beq i 1 then u15 else bif Nat.beq i 2 then u16 else bif Nat.beq i 3 then u17 else bif Nat.beq i 4 then u18 else bif Nat.beq i 5 then u19 else bif Nat.beq i 6 then u20 else bif Nat.beq i 7 then u21 else bif Nat.beq i 8 then u22 else bif Nat.beq i 9 then u23 else undef) (fun L fx w' => Below w.heap.size w w' ∧ (L 10 = false → w'.heap[w.heap.size]? = some (.cells #[.int .i64 3, .int .i64 0, .string ⟨#[]⟩, .slice A n c] 148 (0, 0))) ∧ (L 8 = false → OwnV w' (w.heap.size + 1) (.slice A n c) (zs.take j))) (fun fi fv fu fw => wRi (w.heap.size + 1) w.heap.size g m gc j (.slice A n c) z (zs.take (j + 1)) fi fv fu fw) ⟨HB.out.trans ((Below.refl _ wr).drew.mono HB.out.size), fun _ => HV.out, fun _ => HO.out.kept (fun _ _ _ => rfl)⟩ ?_ ?_
   ·refine ⟨?_, ?_, ?_, ?_, ?_, ?_, ?_, ?_, ?_, ?_, ?_, trivial⟩
    all_goals intro L fx w' hC hi hcl hdn hd
    ·go_wp2_with fail
     exact ⟨_, rfl, ⟨hC.1, fun h => hC.2.1 h, fun h => hC.2.2 h⟩, rfl, kP⟩
    ·have h0 : fx 0 = .pointer (some ⟨w.heap.size, 3, none⟩) := hd.1 rfl
     have hN10 : L 10 = false := by cases h10 : L 10 with | false => rfl | true => (have h8 := hcl 10 8 h10 (by kernel_rfl); have h1' := hcl 8 1 h8 (by kernel_rfl); rw [hi] at h1'; cases h1')
     have hrow := hC.2.1 hN10
     have k3 : w'.cell? ⟨w.heap.size, 3, none⟩ = some (.slice A n c) := by rw [cell_of_row _ _ _ _ _ _ hrow]; rfl
     clear hrow
     go_wp2_with fail
     exact ⟨_, by show _ = Act.mk #[Value.slice (some { block := g, off := 0 }) m gc, undef, Value.slice none 0 0, Value.pointer (some { block := w.heap.size, off := 0 }), Value.int IntKind.i64 ↑j, undef, undef, Value.agg #[Value.int IntKind.i64 3, Value.int IntKind.i64 0, Value.string { data := #[] }, Value.slice none 0 0], Value.int IntKind.i64 ↑j, Value.slice (some { block := g, off := 0 }) m gc, Value.int IntKind.i64 ↑m, Value.bool true, u12, u13, fx 0, Value.slice A n c, fx 2, fx 3, fx 4, fx 5, fx 6, fx 7, fx 8, fx 9, undef, undef, undef, undef, undef, undef] []; rw [h0] <;> rfl, ⟨hC.1, fun h => hC.2.1 h, fun h => hC.2.2 h⟩, rfl, kP⟩
    ·go_wp2_with fail
     exact ⟨_, rfl, ⟨hC.1, fun h => hC.2.1 h, fun h => hC.2.2 h⟩, rfl, kP⟩
    ·go_wp2_with fail
     exact ⟨_, rfl, ⟨hC.1, fun h => hC.2.1 h, fun h => hC.2.2 h⟩, rfl, kP⟩
    ·have h2 : fx 2 = .slice (some ⟨g, 0, none⟩) m gc := hd.1 rfl
     have h3 : fx 3 = .int .i64 ((j : Nat)) := hd.2.1 rfl
     go_wp2_with fail
     exact ⟨_, by show _ = Act.mk #[Value.slice (some { block := g, off := 0 }) m gc, undef, Value.slice none 0 0, Value.pointer (some { block := w.heap.size, off := 0 }), Value.int IntKind.i64 ↑j, undef, undef, Value.agg #[Value.int IntKind.i64 3, Value.int IntKind.i64 0, Value.string { data := #[] }, Value.slice none 0 0], Value.int IntKind.i64 ↑j, Value.slice (some { block := g, off := 0 }) m gc, Value.int IntKind.i64 ↑m, Value.bool true, u12, u13, fx 0, fx 1, fx 2, fx 3, Value.pointer (some ⟨g, j, none⟩), fx 5, fx 6, fx 7, fx 8, fx 9, undef, undef, undef, undef, undef, undef] []; rw [h2, h3] <;> rfl, ⟨hC.1, fun h => hC.2.1 h, fun h => hC.2.2 h⟩, rfl, kP⟩
    ·have h4 : fx 4 = .pointer (some ⟨g, j, none⟩) := hd.1 rfl
     have hcc : w'.cell? ⟨g, j, none⟩ = some (.int .i64 z) := (hC.1.cell (p := ⟨g, j, none⟩) hg).trans (by rw [← HZ.out]; exact hzc.out j hlt)
     go_wp2_with fail
     exact ⟨_, by show _ = Act.mk #[Value.slice (some { block := g, off := 0 }) m gc, undef, Value.slice none 0 0, Value.pointer (some { block := w.heap.size, off := 0 }), Value.int IntKind.i64 ↑j, undef, undef, Value.agg #[Value.int IntKind.i64 3, Value.int IntKind.i64 0, Value.string { data := #[] }, Value.slice none 0 0], Value.int IntKind.i64 ↑j, Value.slice (some { block := g, off := 0 }) m gc, Value.int IntKind.i64 ↑m, Value.bool true, u12, u13, fx 0, fx 1, fx 2, fx 3, fx 4, Value.int .i64 z, fx 6, fx 7, fx 8, fx 9, undef, undef, undef, undef, undef, undef] []; rw [h4] <;> rfl, ⟨hC.1, fun h => hC.2.1 h, fun h => hC.2.2 h⟩, rfl, kP⟩
    ·have h5 : fx 5 = .int .i64 z := hd.1 rfl
     go_wp2_with fail
     exact ⟨_, by show _ = Act.mk #[Value.slice (some { block := g, off := 0 }) m gc, undef, Value.slice none 0 0, Value.pointer (some { block := w.heap.size, off := 0 }), Value.int IntKind.i64 ↑j, undef, undef, Value.agg #[Value.int IntKind.i64 3, Value.int IntKind.i64 0, Value.string { data := #[] }, Value.slice none 0 0], Value.int IntKind.i64 ↑j, Value.slice (some { block := g, off := 0 }) m gc, Value.int IntKind.i64 ↑m, Value.bool true, u12, u13, fx 0, fx 1, fx 2, fx 3, fx 4, fx 5, Value.agg #[.int .i64 1, .int .i64 z, .string ⟨#[]⟩, .slice none 0 0], fx 7, fx 8, fx 9, undef, undef, undef, undef, undef, undef] []; rw [h5] <;> rfl, ⟨hC.1, fun h => hC.2.1 h, fun h => hC.2.2 h⟩, rfl, kP⟩
    ·have h6 : fx 6 = .agg #[.int .i64 1, .int .i64 z, .string ⟨#[]⟩, .slice none 0 0] := hd.1 rfl
     go_wp2_with fail
     have hbb : Below w'.heap.size w' (w'.alloc (.cells #[.int .i64 1, .int .i64 z, .string ⟨#[]⟩, .slice none 0 0] 148)) := (Below.refl _ _).alloc (Nat.le_refl _) _
     exact ⟨_, by show _ = Act.mk #[Value.slice (some { block := g, off := 0 }) m gc, undef, Value.slice none 0 0, Value.pointer (some { block := w.heap.size, off := 0 }), Value.int IntKind.i64 ↑j, undef, undef, Value.agg #[Value.int IntKind.i64 3, Value.int IntKind.i64 0, Value.string { data := #[] }, Value.slice none 0 0], Value.int IntKind.i64 ↑j, Value.slice (some { block := g, off := 0 }) m gc, Value.int IntKind.i64 ↑m, Value.bool true, u12, u13, fx 0, fx 1, fx 2, fx 3, fx 4, fx 5, fx 6, Value.slice (some ⟨w'.heap.size, 0, none⟩) 1 1, fx 8, fx 9, undef, undef, undef, undef, undef, undef] []; rw [h6] <;> rfl, ⟨hC.1.trans (hbb.mono hC.1.size), fun h => (hbb.block _ (Array.getElem?_eq_some_iff.1 (hC.2.1 h)).1).trans (hC.2.1 h), fun h => (hC.2.2 h).kept (fun k _ hk => hbb.block k hk)⟩, ⟨_, rfl, heap_alloc_new _ _⟩, fun j v t _ _ h => wRi_below hbb j v t h⟩
    ·have h1 : fx 1 = .slice A n c := hd.1 rfl
     have H7 := hid (hd.2.1 rfl)
     obtain ⟨q, h7, hq7⟩ := hd.2.1 rfl
     have hN10 : L 10 = false := by cases h10 : L 10 with | false => rfl | true => (have h8 := hcl 10 8 h10 (by kernel_rfl); rw [hi] at h8; cases h8)
     have HOv := hid (hC.2.2 hi)
     have HQ7 := hid hq7
     have HRB := hid (hC.2.1 hN10)
     have HS8 : Hid (w.heap.size + 1 ≤ w'.heap.size) := hid (Array.getElem?_eq_some_iff.1 HRB.out).1
     refine wpList_append_val rfl (.tmp 15) (.tmp 21) rfl (w.heap.size + 1) (.slice A n c) (zs.take j) z h1 HOv q h7 HQ7 HLN.out HS8.out ?_
     intro v2 w2 HO2 HB2
     rw [HNX.out] at HO2
     clear hd
     go_wp2_with fail
     refine ⟨v2, by show _ = Act.mk #[Value.slice (some { block := g, off := 0 }) m gc, undef, Value.slice none 0 0, Value.pointer (some { block := w.heap.size, off := 0 }), Value.int IntKind.i64 ↑j, undef, undef, Value.agg #[Value.int IntKind.i64 3, Value.int IntKind.i64 0, Value.string { data := #[] }, Value.slice none 0 0], Value.int IntKind.i64 ↑j, Value.slice (some { block := g, off := 0 }) m gc, Value.int IntKind.i64 ↑m, Value.bool true, u12, u13, fx 0, fx 1, fx 2, fx 3, fx 4, fx 5, fx 6, fx 7, v2, fx 9, undef, undef, undef, undef, undef, undef] []; rw [h1, h7] <;> rfl, ⟨hC.1.trans (HB2.out.mono (Nat.le_succ _)), fun h => (HB2.out.block _ (Nat.lt_succ_self _)).trans HRB.out, fun h => (updB_self h).elim⟩, HO2.out, fun j' v t hj hu h => ?_⟩
     refine wRi_pure j' v t ?_ ?_ ?_ h <;> intro e <;> subst e
     ·refine absurd hu (not_needed (E := fun i => Nat.beq i 10) (j := 7) [8] (by kernel_rfl) (by kernel_rfl) ?_)
      intro m hm hne; simp at hm; omega
     ·rw [hi] at hj; cases hj
     ·rw [hN10] at hj; cases hj
    ·go_wp2_with fail
     exact ⟨_, rfl, ⟨hC.1, fun h => hC.2.1 h, fun h => hC.2.2 h⟩, rfl, kP⟩
    ·have h9 : fx 9 = .pointer (some ⟨w.heap.size, 3, none⟩) := hd.1 rfl
     have H8 := hid (hd.2.1 rfl)
     have HO8 := hid (hd.2.1 rfl)
     have HRB := hid (hC.2.1 hi)
     obtain ⟨A', n', c', h8⟩ := ownV_form HO8.out
     obtain ⟨k3', f3'⟩ := row3 HRB.out
     go_wp2_with fail
     refine ⟨undef, by show _ = Act.mk #[Value.slice (some { block := g, off := 0 }) m gc, undef, Value.slice none 0 0, Value.pointer (some { block := w.heap.size, off := 0 }), Value.int IntKind.i64 ↑j, undef, undef, Value.agg #[Value.int IntKind.i64 3, Value.int IntKind.i64 0, Value.string { data := #[] }, Value.slice none 0 0], Value.int IntKind.i64 ↑j, Value.slice (some { block := g, off := 0 }) m gc, Value.int IntKind.i64 ↑m, Value.bool true, u12, u13, fx 0, fx 1, fx 2, fx 3, fx 4, fx 5, fx 6, fx 7, fx 8, fx 9, undef, undef, undef, undef, undef, undef] []; rw [h9, h8] <;> rfl, ⟨hC.1.setCell (p := ⟨w.heap.size, 3, none⟩) (Nat.le_refl _) _, fun h => (updB_self h).elim, fun h => by have h8' := hdn 8 (by kernel_rfl); have h : L 8 = false := h; rw [h] at h8'; cases h8'⟩, ⟨HO8.out.kept (fun k hk hk2 => Below.heap_setCell w' ⟨w.heap.size, 3, none⟩ _ k (by intro e; simp at e; omega)), ?_⟩, fun j' v t hj hu h => ?_⟩
     ·show _ = some (Obj.cells #[_, _, _, fx 8] _ _); rw [h8]; exact set3 HRB.out
     ·refine wRi_pure j' v t ?_ ?_ ?_ h <;> intro e <;> subst e
      ·refine absurd hu (not_needed (E := fun i => Nat.beq i 10) (j := 7) [8] (by kernel_rfl) (by kernel_rfl) ?_)
       intro m hm hne; simp at hm; subst hm; exact hdn 8 (by kernel_rfl)
      ·refine absurd hu (not_needed (E := fun i => Nat.beq i 10) (j := 8) [10] (by kernel_rfl) (by kernel_rfl) ?_)
       intro m hm hne; simp at hm; omega
      ·rw [hi] at hj; cases hj
   ·intro L fo w' hC hS
    have H10 := hid (hS 10 (by decide) rfl)
    have HBE := hid hC.1
    clear hS hC
    go_wp2_with fail
    go_roundw
    case rel => exact ⟨j + 1, by omega, by go_num, _, hid H10.out.2, hid H10.out.1, HBE⟩
    case measure => simp [intOf]; omega
  ·have d1 : decide ((j : Int) < (m : Int)) = false := dQ (by omega)
   have HOm : Hid (OwnV wr (w.heap.size + 1) vl zs) := hid (by have := HO.out; rwa [List.take_of_length_le (by rw [HM.out]; omega)] at this)
   obtain ⟨Av, cv, rfl, hvr⟩ := HOm.out.slice
   have HVR := hid hvr
   have c0 : wr.cell? ⟨w.heap.size, 0, none⟩ = some (.int .i64 3) := by rw [cell_of_row _ _ _ _ _ _ HV.out]; rfl
   have c1 : wr.cell? ⟨w.heap.size, 1, none⟩ = some (.int .i64 0) := by rw [cell_of_row _ _ _ _ _ _ HV.out]; rfl
   have c2 : wr.cell? ⟨w.heap.size, 2, none⟩ = some (.string ⟨#[]⟩) := by rw [cell_of_row _ _ _ _ _ _ HV.out]; rfl
   have c3 : wr.cell? ⟨w.heap.size, 3, none⟩ = some (.slice Av zs.length cv) := by rw [cell_of_row _ _ _ _ _ _ HV.out]; rfl
   clear hvr
   go_wp2_with fail
   refine (rEncode_list zs Av cv _ hz (by rw [HM.out]; omega) HVR).mono ?_
   rintro e w2 ⟨v2, rfl, ho2, hb2⟩
   have HO2 := hid ho2
   have HB2 := hid (HB.out.trans (hb2.mono HB.out.size))
   have HBS := hid HB.out.size
   clear ho2 hb2 c0 c1 c2 c3
   go_wp2_with fail
   go_ret
   exact ⟨_, rfl, ⟨HO2.out.1, HO2.out.2.imp id (fun ⟨g, cap, cur, e, hb, r⟩ => ⟨g, cap, cur, e, Nat.le_trans HBS.out hb, r⟩)⟩, HB2.out⟩
theorem OwnB.at {w : World} {base : Nat} {v : Value} {l : List Nat} (h : OwnB w base v l) (hl : 0 < l.length) : ∃ g c, v = .slice (some ⟨g, 0, none⟩) l.length c ∧ l.length ≤ c ∧ base ≤ g ∧ g < w.heap.size ∧ BytesAt w g 0 l := by
 rcases h.2 with ⟨rfl, h0⟩ | ⟨g, cap, cur, rfl, hb, hh, hc, hm, hs, ht⟩
 ·omega
 ·refine ⟨g, cap, rfl, hc, hb, (Array.getElem?_eq_some_iff.1 hh).1, fun i hi => ?_⟩
  rw [Nat.zero_add, cell_of_row w g i cur _ _ hh]
  have h1 : (cur.toList.take (l.length * 1))[i]? = cur[i]? := by rw [List.getElem?_take_of_lt (by omega)]; simp
  rw [← h1, ht, List.getElem?_map, List.getElem?_eq_getElem hi, List.getD_eq_getElem?_getD, List.getElem?_eq_getElem hi]
  rfl
def outG (F : Nat → Nat) (k j : Nat) : Value := .int .u8 ((if j < k then out F j else 0 : Nat))
theorem outG_set (F : Nat → Nat) (k : Nat) : (fun j => if j = k then Value.int .u8 (out F k : Nat) else outG F k j) = outG F (k + 1) := by
 funext j
 unfold outG
 by_cases e : j = k
 ·rw [if_pos e, if_pos (by omega), e]
 ·rw [if_neg e]
  by_cases e2 : j < k
  ·rw [if_pos e2, if_pos (by omega)]
  ·rw [if_neg e2, if_neg (by omega)]
theorem outG_arr (l : List Nat) : ((List.range 32).map (outG (fin l) 32)).toArray = ((sha l).map fun x => Value.int .u8 (x : Nat)).toArray := by
 unfold sha
 rw [List.map_map]
 congr 1
theorem out_walk (x i r : Nat) (hr : r < 4) : ((x : Nat) : Int) / 2 ^ (24 - 8 * r) % 256 = ((x / 256 ^ (3 - r) % 256 : Nat) : Int) := by
 show ((x / 2 ^ (24 - 8 * r) % 256 : Nat) : Int) = _
 rw [show 24 - 8 * r = 8 * (3 - r) by omega, Nat.pow_mul]
theorem row_zero32 (W : World) (F : Nat → Nat) (t : TypeId) : (W.alloc (.cells #[.int .u8 0, .int .u8 0, .int .u8 0, .int .u8 0, .int .u8 0, .int .u8 0, .int .u8 0, .int .u8 0, .int .u8 0, .int .u8 0, .int .u8 0, .int .u8 0, .int .u8 0, .int .u8 0, .int .u8 0, .int .u8 0, .int .u8 0, .int .u8 0, .int .u8 0, .int .u8 0, .int .u8 0, .int .u8 0, .int .u8 0, .int .u8 0, .int .u8 0, .int .u8 0, .int .u8 0, .int .u8 0, .int .u8 0, .int .u8 0, .int .u8 0, .int .u8 0] t)).rowIs W.heap.size t 32 (outG F 0) := World.rowIs_alloc W _ t _ (fun i hi => by
  have : ∀ j : Fin 32, (Array.replicate 32 (Value.int .u8 0))[j.val]? = some (outG F 0 j.val) := fun j => by simp [outG]
  exact this ⟨i, hi⟩)
theorem row_hf (W : World) (t : TypeId) : (W.alloc (.cells #[.int .u32 1779033703, .int .u32 3144134277, .int .u32 1013904242, .int .u32 2773480762, .int .u32 1359893119, .int .u32 2600822924, .int .u32 528734635, .int .u32 1541459225] t)).rowIs W.heap.size t 8 (stF hf) := row8 W hf t
theorem arr8 {w : World} {g t : Nat} {v : Nat → Nat} (h : w.rowIs g t 8 (stF v)) : w.heap[g]? = some (.cells #[.int .u32 (v 0 : Nat), .int .u32 (v 1 : Nat), .int .u32 (v 2 : Nat), .int .u32 (v 3 : Nat), .int .u32 (v 4 : Nat), .int .u32 (v 5 : Nat), .int .u32 (v 6 : Nat), .int .u32 (v 7 : Nat)] t (0, 0)) := rowIs_arr h
theorem row_set8 {w : World} {g t : Nat} {c : Array Value} (h : w.heap[g]? = some (.cells c t (0, 0))) (v : Nat → Nat) : (w.setRow g #[.int .u32 (v 0 : Nat), .int .u32 (v 1 : Nat), .int .u32 (v 2 : Nat), .int .u32 (v 3 : Nat), .int .u32 (v 4 : Nat), .int .u32 (v 5 : Nat), .int .u32 (v 6 : Nat), .int .u32 (v 7 : Nat)]).rowIs g t 8 (stF v) :=
 ⟨#[.int .u32 (v 0 : Nat), .int .u32 (v 1 : Nat), .int .u32 (v 2 : Nat), .int .u32 (v 3 : Nat), .int .u32 (v 4 : Nat), .int .u32 (v 5 : Nat), .int .u32 (v 6 : Nat), .int .u32 (v 7 : Nat)], setRow_heap w g _ _ _ _ h, rfl, fun i hi => by
  have hi' : i < 8 := hi
  match i, hi' with
  | 0, _ => rfl
  | 1, _ => rfl
  | 2, _ => rfl
  | 3, _ => rfl
  | 4, _ => rfl
  | 5, _ => rfl
  | 6, _ => rfl
  | 7, _ => rfl⟩
theorem sz88 (a0 a1 a2 a3 a4 a5 a6 a7 b0 b1 b2 b3 b4 b5 b6 b7 : Value) : (#[a0, a1, a2, a3, a4, a5, a6, a7]).size = (#[b0, b1, b2, b3, b4, b5, b6, b7]).size := rfl
theorem bytesAt_set {w : World} {g gp off : Nat} {l : List Nat} (c : Array Value) (h : BytesAt w gp off l) (hne : gp ≠ g) : BytesAt (w.setRow g c) gp off l := fun i hi =>
 (World.cell?_of_block (setRow_other w g gp c hne)).trans (h i hi)
theorem bytesAt_below {w w' : World} {B gp off : Nat} {l : List Nat} (h : BytesAt w gp off l) (hb : Below B w w') (hg : gp < B) : BytesAt w' gp off l := fun i hi => (hb.cell (p := ⟨gp, off + i, none⟩) hg).trans (h i hi)
set_option maxRecDepth 100000 in
theorem rsum2_any (A : Option Addr) (n c : Nat) (l : List Nat) (w : World) (hn : Hid (l.length = n)) (hc : n ≤ c) (hA : A = none → c = 0) (hsz : n ≤ 4294967296) (hb : Hid (Bytes l)) (hR : Hid (Rd w w.heap.size A l)) :
  Calls Tryz.prog 137 #[.slice A n c] w fun e w' => e = .returned (dgV (sha l)) ∧ Below w.heap.size w w' := by
 have hB0 : Below w.heap.size w ((w.alloc (.cells #[.int .u8 0, .int .u8 0, .int .u8 0, .int .u8 0, .int .u8 0, .int .u8 0, .int .u8 0, .int .u8 0, .int .u8 0, .int .u8 0, .int .u8 0, .int .u8 0, .int .u8 0, .int .u8 0, .int .u8 0, .int .u8 0, .int .u8 0, .int .u8 0, .int .u8 0, .int .u8 0, .int .u8 0, .int .u8 0, .int .u8 0, .int .u8 0, .int .u8 0, .int .u8 0, .int .u8 0, .int .u8 0, .int .u8 0, .int .u8 0, .int .u8 0, .int .u8 0] 25)).alloc (.cells #[.int .u32 1779033703, .int .u32 3144134277, .int .u32 1013904242, .int .u32 2773480762, .int .u32 1359893119, .int .u32 2600822924, .int .u32 528734635, .int .u32 1541459225] 190)) := ((Below.refl _ w).alloc (Nat.le_refl _) _).alloc (by simp) _
 have hs0 := row_hf (w.alloc (.cells #[.int .u8 0, .int .u8 0, .int .u8 0, .int .u8 0, .int .u8 0, .int .u8 0, .int .u8 0, .int .u8 0, .int .u8 0, .int .u8 0, .int .u8 0, .int .u8 0, .int .u8 0, .int .u8 0, .int .u8 0, .int .u8 0, .int .u8 0, .int .u8 0, .int .u8 0, .int .u8 0, .int .u8 0, .int .u8 0, .int .u8 0, .int .u8 0, .int .u8 0, .int .u8 0, .int .u8 0, .int .u8 0, .int .u8 0, .int .u8 0, .int .u8 0, .int .u8 0] 25)) 190
 have hd0 : ((w.alloc (.cells #[.int .u8 0, .int .u8 0, .int .u8 0, .int .u8 0, .int .u8 0, .int .u8 0, .int .u8 0, .int .u8 0, .int .u8 0, .int .u8 0, .int .u8 0, .int .u8 0, .int .u8 0, .int .u8 0, .int .u8 0, .int .u8 0, .int .u8 0, .int .u8 0, .int .u8 0, .int .u8 0, .int .u8 0, .int .u8 0, .int .u8 0, .int .u8 0, .int .u8 0, .int .u8 0, .int .u8 0, .int .u8 0, .int .u8 0, .int .u8 0, .int .u8 0, .int .u8 0] 25)).alloc (.cells #[.int .u32 1779033703, .int .u32 3144134277, .int .u32 1013904242, .int .u32 2773480762, .int .u32 1359893119, .int .u32 2600822924, .int .u32 528734635, .int .u32 1541459225] 190)).heap[w.heap.size]? = some (.cells #[.int .u8 0, .int .u8 0, .int .u8 0, .int .u8 0, .int .u8 0, .int .u8 0, .int .u8 0, .int .u8 0, .int .u8 0, .int .u8 0, .int .u8 0, .int .u8 0, .int .u8 0, .int .u8 0, .int .u8 0, .int .u8 0, .int .u8 0, .int .u8 0, .int .u8 0, .int .u8 0, .int .u8 0, .int .u8 0, .int .u8 0, .int .u8 0, .int .u8 0, .int .u8 0, .int .u8 0, .int .u8 0, .int .u8 0, .int .u8 0, .int .u8 0, .int .u8 0] 25 (0, 0)) := (Below.heap_alloc _ _ _ (by simp)).trans (heap_alloc_new w _)
 rw [World.size_alloc] at hs0
 have HB0 := hid hB0
 have HS0 := hid hs0
 have HD0 := hid hd0
 have HR0 := hid ((hR.out.below hB0 (Nat.le_refl _)).mono hB0.size)
 have hsz0 : ((w.alloc (.cells #[.int .u8 0, .int .u8 0, .int .u8 0, .int .u8 0, .int .u8 0, .int .u8 0, .int .u8 0, .int .u8 0, .int .u8 0, .int .u8 0, .int .u8 0, .int .u8 0, .int .u8 0, .int .u8 0, .int .u8 0, .int .u8 0, .int .u8 0, .int .u8 0, .int .u8 0, .int .u8 0, .int .u8 0, .int .u8 0, .int .u8 0, .int .u8 0, .int .u8 0, .int .u8 0, .int .u8 0, .int .u8 0, .int .u8 0, .int .u8 0, .int .u8 0, .int .u8 0] 25)).alloc (.cells #[.int .u32 1779033703, .int .u32 3144134277, .int .u32 1013904242, .int .u32 2773480762, .int .u32 1359893119, .int .u32 2600822924, .int .u32 528734635, .int .u32 1541459225] 190)).heap.size = w.heap.size + 2 := by simp
 have HZ0 := hid hsz0
 clear hB0 hs0 hd0 hsz0
 go_enter Tryz.func137, Tryz.ntmps137
 go_wp2_with fail
 refine (padded_any A n c l _ hn hc hA hsz HR0).mono ?_
 rintro e w1 ⟨v, rfl, ho1, hb1⟩
 have hpl : 0 < (padded l).length := by unfold padded tail; simp; omega
 obtain ⟨gp, cp, rfl, hcp, hgb, hgp, hby⟩ := ho1.at hpl
 rw [HZ0.out] at hgb hb1
 obtain ⟨L, HL'⟩ : ∃ L, Hid ((padded l).length = L) := ⟨_, hid rfl⟩
 rw [HL'.out] at hcp hpl ⊢
 have hL64 : Hid (L = 64 * (L / 64)) := hid (by rw [← HL'.out]; exact padded_length l)
 have hLb : L ≤ 4294967500 := by
  rw [← HL'.out]; unfold padded; rw [List.length_append, tail_length, hn.out]
  have : zeros n < 64 := Nat.mod_lt _ (by omega)
  omega
 have HBY := hid hby
 have HB1 : Hid (Below w.heap.size w w1) := hid (HB0.out.trans (hb1.mono (by omega)))
 have HS1 : Hid (w1.rowIs (w.heap.size + 1) 190 8 (stF (blocks 0 hf (padded l)))) := hid (rowIs_below HS0.out hb1 (by omega))
 have HD1 : Hid (w1.heap[w.heap.size]? = some (.cells #[.int .u8 0, .int .u8 0, .int .u8 0, .int .u8 0, .int .u8 0, .int .u8 0, .int .u8 0, .int .u8 0, .int .u8 0, .int .u8 0, .int .u8 0, .int .u8 0, .int .u8 0, .int .u8 0, .int .u8 0, .int .u8 0, .int .u8 0, .int .u8 0, .int .u8 0, .int .u8 0, .int .u8 0, .int .u8 0, .int .u8 0, .int .u8 0, .int .u8 0, .int .u8 0, .int .u8 0, .int .u8 0, .int .u8 0, .int .u8 0, .int .u8 0, .int .u8 0] 25 (0, 0))) := hid ((hb1.block _ (by omega)).trans HD0.out)
 clear ho1 hb1 hby HB0 HS0 HD0 HR0 HZ0
 go_wp2_with fail
 go_loopw [5] (fun i wr => ∃ k : Nat, 64 * k ≤ L ∧ i = .int .i64 ((64 * k : Nat) : Int) ∧ gp < wr.heap.size ∧ Hid (BytesAt wr gp 0 (padded l)) ∧ Hid (wr.rowIs (w.heap.size + 1) 190 8 (stF (blocks k hf (padded l)))) ∧ Hid (wr.heap[w.heap.size]? = some (.cells #[.int .u8 0, .int .u8 0, .int .u8 0, .int .u8 0, .int .u8 0, .int .u8 0, .int .u8 0, .int .u8 0, .int .u8 0, .int .u8 0, .int .u8 0, .int .u8 0, .int .u8 0, .int .u8 0, .int .u8 0, .int .u8 0, .int .u8 0, .int .u8 0, .int .u8 0, .int .u8 0, .int .u8 0, .int .u8 0, .int .u8 0, .int .u8 0, .int .u8 0, .int .u8 0, .int .u8 0, .int .u8 0, .int .u8 0, .int .u8 0, .int .u8 0, .int .u8 0] 25 (0, 0))) ∧ Hid (Below w.heap.size w wr)) (fun i _ => L - (intOf i).toNat)
 case atStart => exact ⟨0, by omega, rfl, hgp, HBY, HS1, HD1, HB1⟩
 case round =>
  clear hgp HBY HS1 HD1 HB1
  obtain ⟨k, hk, rfl, hgp, hBy, hS, hD, hB⟩ := hrel
  by_cases hlt : 64 * k < L
  ·have hfit : 64 * k + 64 ≤ L := by have := hL64.out; omega
   obtain ⟨m, hm⟩ : ∃ m, m = 64 * k := ⟨_, rfl⟩
   have HM := hid hm
   rw [← hm] at hlt hfit hk ⊢
   have dl : decide ((m : Int) < (L : Int)) = true := eQ (by omega)
   obtain ⟨m2, hm2⟩ : ∃ m2, m2 = m + 64 := ⟨_, rfl⟩
   have e64 : IntKind.i64.wrap ((m : Int) + 64) = (m2 : Int) := by rw [IntWalk.i64_in _ (by omega)]; omega
   have i1 : (0 : Int) ≤ (m : Int) := by omega
   have i2 : (m : Int) ≤ (m2 : Int) := by omega
   have i3 : (m2 : Int) ≤ (cp : Int) := by omega
   have i4 : m ≤ m2 := by omega
   have i5 : m2 ≤ cp := by omega
   have i6 : m2 - m = 64 := by omega
   have i7 : (cp == m) = false := by simp; omega
   have i8 : ¬ cp = m := by omega
   have HM2 := hid hm2
   clear hm hm2
   go_wp2_with fail
   refine wp_region_still_tail 6 (by kernel_rfl) (by kernel_rfl) ?_
   change wpStill _ _ wr.drew (fun a' => wpList _ _ _ _ a' wr.drew) _ _
   have hgp2 : gp < wr.drew.heap.size := hgp
   have hBy2 : Hid (BytesAt wr.drew gp 0 (padded l)) := hBy
   have hS2 : Hid (wr.drew.rowIs (w.heap.size + 1) 190 8 (stF (blocks k hf (padded l)))) := hS
   have hD2 : Hid (wr.drew.heap[w.heap.size]? = some (.cells #[.int .u8 0, .int .u8 0, .int .u8 0, .int .u8 0, .int .u8 0, .int .u8 0, .int .u8 0, .int .u8 0, .int .u8 0, .int .u8 0, .int .u8 0, .int .u8 0, .int .u8 0, .int .u8 0, .int .u8 0, .int .u8 0, .int .u8 0, .int .u8 0, .int .u8 0, .int .u8 0, .int .u8 0, .int .u8 0, .int .u8 0, .int .u8 0, .int .u8 0, .int .u8 0, .int .u8 0, .int .u8 0, .int .u8 0, .int .u8 0, .int .u8 0, .int .u8 0] 25 (0, 0))) := hD
   have hB2 : Hid (Below w.heap.size w wr.drew) := hid hB.out.drew
   generalize wr.drew = w2 at *
   clear hgp hBy hS hD hB
   have s0 : w2.cell? ⟨w.heap.size + 1, 0, none⟩ = some (.int .u32 (blocks k hf (padded l) 0 : Nat)) := hS2.out.cell (by omega)
   have s1 : w2.cell? ⟨w.heap.size + 1, 1, none⟩ = some (.int .u32 (blocks k hf (padded l) 1 : Nat)) := hS2.out.cell (by omega)
   have s2 : w2.cell? ⟨w.heap.size + 1, 2, none⟩ = some (.int .u32 (blocks k hf (padded l) 2 : Nat)) := hS2.out.cell (by omega)
   have s3 : w2.cell? ⟨w.heap.size + 1, 3, none⟩ = some (.int .u32 (blocks k hf (padded l) 3 : Nat)) := hS2.out.cell (by omega)
   have s4 : w2.cell? ⟨w.heap.size + 1, 4, none⟩ = some (.int .u32 (blocks k hf (padded l) 4 : Nat)) := hS2.out.cell (by omega)
   have s5 : w2.cell? ⟨w.heap.size + 1, 5, none⟩ = some (.int .u32 (blocks k hf (padded l) 5 : Nat)) := hS2.out.cell (by omega)
   have s6 : w2.cell? ⟨w.heap.size + 1, 6, none⟩ = some (.int .u32 (blocks k hf (padded l) 6 : Nat)) := hS2.out.cell (by omega)
   have s7 : w2.cell? ⟨w.heap.size + 1, 7, none⟩ = some (.int .u32 (blocks k hf (padded l) 7 : Nat)) := hS2.out.cell (by omega)
   simp only [List.take_succ_cons, List.take_zero, List.drop_succ_cons, List.drop_zero]
   repeat still_step
   refine wpStill_nil ?_
   go_wp2_with fail
   have HBl : Hid (BytesAt w2 gp m (((padded l).drop m).take 64)) := hid fun i hi => by
    have hi64 : i < 64 := by rw [List.length_take] at hi; omega
    have := hBy2.out (m + i) (by rw [HL'.out]; omega)
    rw [Nat.zero_add] at this
    rw [this, List.getD_eq_getElem?_getD, List.getD_eq_getElem?_getD, List.getElem?_take_of_lt hi64, List.getElem?_drop]
   refine (rblock_any gp m (cp - m) (blocks k hf (padded l)) (((padded l).drop m).take 64) _ (hid (by rw [List.length_take, List.length_drop, HL'.out]; omega)) (hid (bytes_take (bytes_drop (padded_bytes hb.out) _) _)) (hid (blocks_words _ _ hf_words)) (by omega) hgp2 HBl).mono ?_
   rintro e w3 ⟨rfl, hb3⟩
   have hsl2 := hS2.out.lt
   have hS3 := hid (arr8 (rowIs_below hS2.out hb3 hsl2))
   have hBy3 := hid (bytesAt_below hBy2.out hb3 hgp2)
   have hD3 := hid ((hb3.block w.heap.size (by omega)).trans hD2.out)
   have hB3 := hid (hB2.out.trans (hb3.mono hB2.out.size))
   have hgp3 : gp < w3.heap.size := Nat.lt_of_lt_of_le hgp2 hb3.size
   clear hb3 hS2 hBy2 hD2 hB2 hgp2 HBl s0 s1 s2 s3 s4 s5 s6 s7
   obtain ⟨vn, HVN⟩ : ∃ vn, Hid (block (blocks k hf (padded l)) (((padded l).drop m).take 64) = vn) := ⟨_, hid rfl⟩
   obtain ⟨vo, HVO⟩ : ∃ vo, Hid (blocks k hf (padded l) = vo) := ⟨_, hid rfl⟩
   rw [HVN.out]
   rw [HVO.out] at hS3 ⊢
   go_wp2_with (refine wpList_store_row rfl 190 (.tmp 3) (.tmp 23) rfl (w.heap.size + 1) #[.int .u32 (vn 0 : Nat), .int .u32 (vn 1 : Nat), .int .u32 (vn 2 : Nat), .int .u32 (vn 3 : Nat), .int .u32 (vn 4 : Nat), .int .u32 (vn 5 : Nat), .int .u32 (vn 6 : Nat), .int .u32 (vn 7 : Nat)] rfl rfl 190 _ hS3.out (sz8 _ _ _ _ _ _ _ _) (sz88 _ _ _ _ _ _ _ _ _ _ _ _ _ _ _ _) (one8 _ _ _ _ _ _ _ _) ?_)
   go_roundw
   case rel =>
    refine ⟨k + 1, by have := HM.out; omega, by have := HM.out; have := HM2.out; go_num, by simpa using hgp3, hid (bytesAt_set _ hBy3.out (by omega)), hid ?_, hid ((setRow_other _ _ _ _ (by omega)).trans hD3.out), hid (below_setRow hB3.out (by omega) _)⟩
    rw [blocks_snoc, ← HM.out, HVN.out]; exact row_set8 hS3.out _
   case measure => have := HM2.out; simp [intOf]; omega
  ·have hfin : Hid (blocks k hf (padded l) = fin l) := hid (by unfold fin; rw [HL'.out]; congr 1; have := hL64.out; omega)
   have hS2 : Hid (wr.rowIs (w.heap.size + 1) 190 8 (stF (fin l))) := hid (by rw [← hfin.out]; exact hS.out)
   have hsl2 := hS2.out.lt
   obtain ⟨m, hm⟩ : ∃ m, m = 64 * k := ⟨_, rfl⟩
   rw [← hm] at hlt ⊢
   have dl : decide (m < L) = false := dQ hlt
   have hge : L ≤ m := by omega
   clear hm hS hfin hBy
   have hq := laid_row wr #[.int .u8 0, .int .u8 0, .int .u8 0, .int .u8 0, .int .u8 0, .int .u8 0, .int .u8 0, .int .u8 0, .int .u8 0, .int .u8 0, .int .u8 0, .int .u8 0, .int .u8 0, .int .u8 0, .int .u8 0, .int .u8 0, .int .u8 0, .int .u8 0, .int .u8 0, .int .u8 0, .int .u8 0, .int .u8 0, .int .u8 0, .int .u8 0, .int .u8 0, .int .u8 0, .int .u8 0, .int .u8 0, .int .u8 0, .int .u8 0, .int .u8 0, .int .u8 0] #[.int .u8 0, .int .u8 0, .int .u8 0, .int .u8 0, .int .u8 0, .int .u8 0, .int .u8 0, .int .u8 0, .int .u8 0, .int .u8 0, .int .u8 0, .int .u8 0, .int .u8 0, .int .u8 0, .int .u8 0, .int .u8 0, .int .u8 0, .int .u8 0, .int .u8 0, .int .u8 0, .int .u8 0, .int .u8 0, .int .u8 0, .int .u8 0, .int .u8 0, .int .u8 0, .int .u8 0, .int .u8 0, .int .u8 0, .int .u8 0, .int .u8 0, .int .u8 0] 25
   have HQ := hid hq
   clear hq
   go_wp2_with (refine wpList_store_row rfl 25 (.tmp 6) (.tmp 24) rfl wr.heap.size #[.int .u8 0, .int .u8 0, .int .u8 0, .int .u8 0, .int .u8 0, .int .u8 0, .int .u8 0, .int .u8 0, .int .u8 0, .int .u8 0, .int .u8 0, .int .u8 0, .int .u8 0, .int .u8 0, .int .u8 0, .int .u8 0, .int .u8 0, .int .u8 0, .int .u8 0, .int .u8 0, .int .u8 0, .int .u8 0, .int .u8 0, .int .u8 0, .int .u8 0, .int .u8 0, .int .u8 0, .int .u8 0, .int .u8 0, .int .u8 0, .int .u8 0, .int .u8 0] rfl rfl 25 _ (heap_alloc_new wr _) (by kernel_rfl) rfl (by decide +kernel) ?_)
   have hS3 : Hid (((wr.alloc (.cells #[.int .u8 0, .int .u8 0, .int .u8 0, .int .u8 0, .int .u8 0, .int .u8 0, .int .u8 0, .int .u8 0, .int .u8 0, .int .u8 0, .int .u8 0, .int .u8 0, .int .u8 0, .int .u8 0, .int .u8 0, .int .u8 0, .int .u8 0, .int .u8 0, .int .u8 0, .int .u8 0, .int .u8 0, .int .u8 0, .int .u8 0, .int .u8 0, .int .u8 0, .int .u8 0, .int .u8 0, .int .u8 0, .int .u8 0, .int .u8 0, .int .u8 0, .int .u8 0] 25)).setRow wr.heap.size #[.int .u8 0, .int .u8 0, .int .u8 0, .int .u8 0, .int .u8 0, .int .u8 0, .int .u8 0, .int .u8 0, .int .u8 0, .int .u8 0, .int .u8 0, .int .u8 0, .int .u8 0, .int .u8 0, .int .u8 0, .int .u8 0, .int .u8 0, .int .u8 0, .int .u8 0, .int .u8 0, .int .u8 0, .int .u8 0, .int .u8 0, .int .u8 0, .int .u8 0, .int .u8 0, .int .u8 0, .int .u8 0, .int .u8 0, .int .u8 0, .int .u8 0, .int .u8 0]).rowIs (w.heap.size + 1) 190 8 (stF (fin l))) := hid (rowIs_below hS2.out HQ.out.1 hsl2)
   have hD3 := hid ((HQ.out.1.block w.heap.size (by omega)).trans hD.out)
   have hB3 := hid (hB.out.trans (HQ.out.1.mono hB.out.size))
   have hO3 : Hid (((wr.alloc (.cells #[.int .u8 0, .int .u8 0, .int .u8 0, .int .u8 0, .int .u8 0, .int .u8 0, .int .u8 0, .int .u8 0, .int .u8 0, .int .u8 0, .int .u8 0, .int .u8 0, .int .u8 0, .int .u8 0, .int .u8 0, .int .u8 0, .int .u8 0, .int .u8 0, .int .u8 0, .int .u8 0, .int .u8 0, .int .u8 0, .int .u8 0, .int .u8 0, .int .u8 0, .int .u8 0, .int .u8 0, .int .u8 0, .int .u8 0, .int .u8 0, .int .u8 0, .int .u8 0] 25)).setRow wr.heap.size #[.int .u8 0, .int .u8 0, .int .u8 0, .int .u8 0, .int .u8 0, .int .u8 0, .int .u8 0, .int .u8 0, .int .u8 0, .int .u8 0, .int .u8 0, .int .u8 0, .int .u8 0, .int .u8 0, .int .u8 0, .int .u8 0, .int .u8 0, .int .u8 0, .int .u8 0, .int .u8 0, .int .u8 0, .int .u8 0, .int .u8 0, .int .u8 0, .int .u8 0, .int .u8 0, .int .u8 0, .int .u8 0, .int .u8 0, .int .u8 0, .int .u8 0, .int .u8 0]).rowIs wr.heap.size 25 32 (outG (fin l) 0)) := hid (row_same (row_zero32 wr (fin l) 25) (heap_alloc_new wr _))
   clear HQ hS2 hD hB
   go_loopw [7] (fun i wz => ∃ t : Nat, t ≤ 32 ∧ i = .int .i64 t ∧ Hid (wz.rowIs (w.heap.size + 1) 190 8 (stF (fin l))) ∧ Hid (wz.heap[w.heap.size]? = some (.cells #[.int .u8 0, .int .u8 0, .int .u8 0, .int .u8 0, .int .u8 0, .int .u8 0, .int .u8 0, .int .u8 0, .int .u8 0, .int .u8 0, .int .u8 0, .int .u8 0, .int .u8 0, .int .u8 0, .int .u8 0, .int .u8 0, .int .u8 0, .int .u8 0, .int .u8 0, .int .u8 0, .int .u8 0, .int .u8 0, .int .u8 0, .int .u8 0, .int .u8 0, .int .u8 0, .int .u8 0, .int .u8 0, .int .u8 0, .int .u8 0, .int .u8 0, .int .u8 0] 25 (0, 0))) ∧ Hid (wz.rowIs wr.heap.size 25 32 (outG (fin l) t)) ∧ Hid (Below w.heap.size w wz)) (fun i _ => 32 - (intOf i).toNat)
   case atStart => exact ⟨0, by omega, rfl, hS3, hD3, hO3, hB3⟩
   case round =>
    clear hS3 hD3 hO3 hB3
    rename World => wz
    obtain ⟨t, ht, rfl, hS3, hD3, hO3, hB3⟩ := hrel
    by_cases hlt2 : t < 32
    ·have hF := fin_words l (t / 4) (by omega)
     have cs : wz.cell? ⟨w.heap.size + 1, t / 4, none⟩ = some (.int .u32 (fin l (t / 4) : Nat)) := hS3.out.cell (by omega)
     have co := hO3.out.cell (i := t) (by omega)
     have cf := hO3.out.frozen t
     have OW := hid (out_walk (fin l (t / 4)) t (t % 4) (by omega))
     go_wp2_with fail
     go_roundw
     case rel =>
      rw [OW.out]
      exact ⟨t + 1, by omega, by go_num, hid (hS3.out.setOther (a := ⟨wr.heap.size, t, none⟩) (by show w.heap.size + 1 ≠ wr.heap.size; omega) _), hid ((Below.heap_setCell wz ⟨wr.heap.size, t, none⟩ _ w.heap.size (by show w.heap.size ≠ wr.heap.size; omega)).trans hD3.out), hid (by rw [← outG_set]; exact hO3.out.set _ _), hid (hB3.out.setCell (p := ⟨wr.heap.size, t, none⟩) (by show w.heap.size ≤ wr.heap.size; omega) _)⟩
     case measure => simp [intOf]; omega
    ·have dt : decide ((t : Int) < 32) = false := dQ (by omega)
     have hO32 : Hid (wz.heap[wr.heap.size]? = some (.cells ((sha l).map fun x => Value.int .u8 (x : Nat)).toArray 25 (0, 0))) := hid (by
      have := rowIs_arr hO3.out
      rw [show t = 32 by omega, outG_arr] at this
      exact this)
     have HOLD : Hid (32 = ((sha l).map fun x => Value.int .u8 (x : Nat)).toArray.size) := hid (by simp [sha_length])
     go_wp2_with (first | ((with_reducible refine wpList_load_row rfl 25 (.tmp 6) rfl wr.heap.size rfl 25 _ (0, 0) _ hO32.out Tryz.underlying25 rfl (size32 _ (sha_length _)) ?_)) | (refine wpList_store_row rfl 25 (.tmp 2) (.tmp 41) rfl w.heap.size ((sha l).map fun x => Value.int .u8 (x : Nat)).toArray rfl rfl 25 _ hD3.out (size32 _ (sha_length _)) HOLD.out (oneCells _) ?_))
     refine bodyPost_ret (results_cell_row rfl _ _ w.heap.size 25 _ (0, 0) _ rfl (setRow_heap wz w.heap.size _ _ _ _ hD3.out) Tryz.underlying25 rfl (size32 _ (sha_length _))) rfl ?_
     exact ⟨rfl, below_setRow hB3.out (Nat.le_refl _) _⟩
set_option maxRecDepth 100000 in
theorem rtagged_any (tag : ByteArray) (A : Option Addr) (n c : Nat) (l : List Nat) (w : World) (htag : tag.size ≤ 4294967296) (hn : Hid (l.length = n)) (hc : n ≤ c) (hA : A = none → c = 0) (hsz : n ≤ 2147483648) (hb : Hid (Bytes l)) (hR : Hid (Rd w w.heap.size A l)) :
  Calls Tryz.prog 100 #[.string tag, .slice A n c] w fun e w' => e = .returned (dgV (tagged (strL tag) l)) ∧ Below w.heap.size w w' := by
 have HA := hid hA
 clear hA
 have hb0 : Below w.heap.size w (w.alloc (.cells #[.int .u8 0, .int .u8 0, .int .u8 0, .int .u8 0, .int .u8 0, .int .u8 0, .int .u8 0, .int .u8 0, .int .u8 0, .int .u8 0, .int .u8 0, .int .u8 0, .int .u8 0, .int .u8 0, .int .u8 0, .int .u8 0, .int .u8 0, .int .u8 0, .int .u8 0, .int .u8 0, .int .u8 0, .int .u8 0, .int .u8 0, .int .u8 0, .int .u8 0, .int .u8 0, .int .u8 0, .int .u8 0, .int .u8 0, .int .u8 0, .int .u8 0, .int .u8 0] 25)) := (Below.refl _ _).alloc (Nat.le_refl _) _
 obtain ⟨c0, W2, hconv, hc0, hbc, hlt2, hby⟩ := conv_bytes tag (w.alloc (.cells #[.int .u8 0, .int .u8 0, .int .u8 0, .int .u8 0, .int .u8 0, .int .u8 0, .int .u8 0, .int .u8 0, .int .u8 0, .int .u8 0, .int .u8 0, .int .u8 0, .int .u8 0, .int .u8 0, .int .u8 0, .int .u8 0, .int .u8 0, .int .u8 0, .int .u8 0, .int .u8 0, .int .u8 0, .int .u8 0, .int .u8 0, .int .u8 0, .int .u8 0, .int .u8 0, .int .u8 0, .int .u8 0, .int .u8 0, .int .u8 0, .int .u8 0, .int .u8 0] 25))
 have hbl0 : (w.alloc (.cells #[.int .u8 0, .int .u8 0, .int .u8 0, .int .u8 0, .int .u8 0, .int .u8 0, .int .u8 0, .int .u8 0, .int .u8 0, .int .u8 0, .int .u8 0, .int .u8 0, .int .u8 0, .int .u8 0, .int .u8 0, .int .u8 0, .int .u8 0, .int .u8 0, .int .u8 0, .int .u8 0, .int .u8 0, .int .u8 0, .int .u8 0, .int .u8 0, .int .u8 0, .int .u8 0, .int .u8 0, .int .u8 0, .int .u8 0, .int .u8 0, .int .u8 0, .int .u8 0] 25)).heap[w.heap.size]? = some (.cells #[.int .u8 0, .int .u8 0, .int .u8 0, .int .u8 0, .int .u8 0, .int .u8 0, .int .u8 0, .int .u8 0, .int .u8 0, .int .u8 0, .int .u8 0, .int .u8 0, .int .u8 0, .int .u8 0, .int .u8 0, .int .u8 0, .int .u8 0, .int .u8 0, .int .u8 0, .int .u8 0, .int .u8 0, .int .u8 0, .int .u8 0, .int .u8 0, .int .u8 0, .int .u8 0, .int .u8 0, .int .u8 0, .int .u8 0, .int .u8 0, .int .u8 0, .int .u8 0] 25 (0, 0)) := heap_alloc_new w _
 have hbl2 := hid ((hbc.block w.heap.size (by simp)).trans hbl0)
 have hb2 := hid (hb0.trans (hbc.mono (by simp)))
 simp only [World.size_alloc] at hconv hby hlt2
 have HBY := hid hby
 clear hb0 hbl0 hby hbc
 go_enter Tryz.func100, Tryz.ntmps100
 go_wp2_with fail
 refine (rsum2_any (some ⟨w.heap.size + 1, 0, none⟩) tag.size c0 (strL tag) _ (hid (strL_length tag)) hc0 (fun h => by cases h) htag (hid (strL_bytes tag)) (hid (fun _ => ⟨_, _, rfl, hlt2, HBY.out⟩))).mono ?_
 rintro e W3 ⟨rfl, hb3⟩
 have hbl3 := hid ((hb3.block w.heap.size (by omega)).trans hbl2.out)
 have HB3 := hid (hb2.out.trans (hb3.mono hb2.out.size))
 have hs3 : w.heap.size + 1 < W3.heap.size := Nat.lt_of_lt_of_le hlt2 hb3.size
 clear hb3 HBY hbl2 hb2 hconv
 have hold : ∀ m : List Nat, m.length = 32 → 32 = (m.map fun x => Value.int .u8 (x : Nat)).toArray.size := fun m h => by simp [h]
 have HOLD := hid hold
 clear hold
 have hq := laid_row W3 #[.int .u8 0, .int .u8 0, .int .u8 0, .int .u8 0, .int .u8 0, .int .u8 0, .int .u8 0, .int .u8 0, .int .u8 0, .int .u8 0, .int .u8 0, .int .u8 0, .int .u8 0, .int .u8 0, .int .u8 0, .int .u8 0, .int .u8 0, .int .u8 0, .int .u8 0, .int .u8 0, .int .u8 0, .int .u8 0, .int .u8 0, .int .u8 0, .int .u8 0, .int .u8 0, .int .u8 0, .int .u8 0, .int .u8 0, .int .u8 0, .int .u8 0, .int .u8 0] ((sha (strL tag)).map fun x => Value.int .u8 (x : Nat)).toArray 25
 have HQ := hid hq
 clear hq
 obtain ⟨W4, HW4⟩ : ∃ W4, Hid ((W3.alloc (.cells #[.int .u8 0, .int .u8 0, .int .u8 0, .int .u8 0, .int .u8 0, .int .u8 0, .int .u8 0, .int .u8 0, .int .u8 0, .int .u8 0, .int .u8 0, .int .u8 0, .int .u8 0, .int .u8 0, .int .u8 0, .int .u8 0, .int .u8 0, .int .u8 0, .int .u8 0, .int .u8 0, .int .u8 0, .int .u8 0, .int .u8 0, .int .u8 0, .int .u8 0, .int .u8 0, .int .u8 0, .int .u8 0, .int .u8 0, .int .u8 0, .int .u8 0, .int .u8 0] 25)).setRow W3.heap.size ((sha (strL tag)).map fun x => Value.int .u8 (x : Nat)).toArray = W4) := ⟨_, hid rfl⟩
 rw [HW4.out] at HQ
 have HO4 := hid (OwnB.empty W4 (w.heap.size + 1) (by have := HQ.out.2.1; omega))
 have HS5 : Hid (w.heap.size + 1 ≤ (W4.alloc (.cells #[] 5)).heap.size) := hid (by have := HQ.out.2.1; simp; omega)
 have HB4 := hid (HB3.out.trans (HQ.out.1.mono HB3.out.size))
 have HB5 := hid (HB4.out.alloc HB4.out.size (.cells #[] 5))
 have hd5 : Hid (Rd (W4.alloc (.cells #[] 5)) (W4.alloc (.cells #[] 5)).heap.size (some ⟨W3.heap.size, 0, none⟩) (sha (strL tag))) := hid (fun _ => ⟨_, _, rfl, by have := HQ.out.2.1; simp; omega, bytesAt_arr ((Below.heap_alloc W4 _ _ (by have := HQ.out.2.1; omega)).trans HQ.out.2.2)⟩)
 have hbl4 := hid ((HQ.out.1.block w.heap.size (by omega)).trans hbl3.out)
 have HR4 : Hid (∀ W6, Below w.heap.size (W4.alloc (.cells #[] 5)) W6 → Rd W6 W6.heap.size A l) := hid (fun W6 h => by
  have hh := HB5.out.trans h
  exact (hR.out.below hh (Nat.le_refl _)).mono hh.size)
 have hl32 := hid (sha_length (strL tag))
 have hapl : Hid ((([] : List Nat) ++ sha (strL tag)).length + n ≤ 1099511627776) := hid (by rw [List.nil_append, hl32.out]; omega)
 have hap0 : Hid (([] : List Nat).length + 32 ≤ 1099511627776) := hid (by simp)
 go_wp2_with (first
  | (refine wpList_store_row rfl 25 (.tmp 5) (.tmp 8) rfl W3.heap.size ((sha (strL tag)).map fun x => Value.int .u8 (x : Nat)).toArray rfl rfl 25 _ (heap_alloc_new W3 _) (size32 _ (sha_length _)) (HOLD.out _ (sha_length _)) (oneCells _) ?_; rw [HW4.out])
  | (at_builtin; refine wpList_append_bytes rfl (.tmp 9) (.tmp 10) rfl (w.heap.size + 1) _ [] (sha (strL tag)) rfl HO4 (some ⟨W3.heap.size, 0, none⟩) 32 32 rfl hl32 (fun h => by cases h) hd5 hap0.out HS5.out ?_; intro v1 W6 HO6 HB6; have HR6 := hid (HR4.out W6 (HB6.out.mono (Nat.le_succ _))); have HS6 := hid (Nat.le_trans HS5.out HB6.out.size))
  | (at_builtin; refine wpList_append_bytes rfl (.tmp 11) (.tmp 12) rfl (w.heap.size + 1) _ ([] ++ sha (strL tag)) l rfl HO6 A n c rfl hn HA.out HR6 hapl.out HS6.out ?_; intro v2 W7 HO7 HB7))
 have hB57 := HB6.out.trans HB7.out
 have hbl7 := hid ((hB57.block w.heap.size (Nat.lt_succ_self _)).trans (((Below.heap_alloc W4 _ _ (by have := HQ.out.2.1; omega))).trans hbl4.out))
 have HB8 := hid (HB5.out.trans (hB57.mono (Nat.le_succ _)))
 have hs7 : w.heap.size < W7.heap.size := by have := HB7.out.size; have := HS6.out; omega
 have ho7 : OwnB W7 (w.heap.size + 1) v2 (sha (strL tag) ++ l) := HO7.out
 obtain ⟨A6, n6, c6, rfl, hn6, hc6, hA6, HR8⟩ := ho7.slice
 have hbb : Hid (Bytes (sha (strL tag) ++ l)) := hid (fun x hx => by
  rcases List.mem_append.1 hx with h | h
  ·exact sha_bytes _ x h
  ·exact hb.out x h)
 have hm6 : n6 ≤ 4294967296 := by rw [← hn6.out, List.length_append, sha_length, hn.out]; omega
 clear ho7 HO7 HO6 hB57 HB6 HB7 HO4 hd5 hbl4 hbl3 HB3 HB4 HB5 HR4 HR6 HS6 HS5
 go_wp2_with fail
 refine (rsum2_any A6 n6 c6 (sha (strL tag) ++ l) _ hn6 hc6 hA6.out hm6 hbb HR8).mono ?_
 rintro e W9 ⟨rfl, hb9⟩
 have hbl9 := hid ((hb9.block w.heap.size hs7).trans hbl7.out)
 have HB9 := hid (HB8.out.trans (hb9.mono HB8.out.size))
 clear hb9 HB8 hbl7 HR8 hbb
 go_wp2_with (refine wpList_store_row rfl 25 (.tmp 4) (.tmp 14) rfl w.heap.size ((sha (sha (strL tag) ++ l)).map fun x => Value.int .u8 (x : Nat)).toArray rfl rfl 25 _ hbl9.out (size32 _ (sha_length _)) (HOLD.out _ (sha_length _)) (oneCells _) ?_)
 refine bodyPost_ret (results_cell_row rfl _ _ w.heap.size 25 _ (0, 0) _ rfl (setRow_heap W9 w.heap.size _ _ _ _ hbl9.out) Tryz.underlying25 rfl (size32 _ (sha_length _))) rfl ?_
 exact ⟨rfl, below_setRow HB9.out (Nat.le_refl _) _⟩
theorem bytes_app {l m : List Nat} (hl : Bytes l) (hm : Bytes m) : Bytes (l ++ m) := fun x hx => by
 rcases List.mem_append.1 hx with h | h
 ·exact hl x h
 ·exact hm x h
theorem rvalid_any (x : Nd) (w : World) (hx : NdOk x) : Calls Tryz.prog 144 #[ndV x] w fun e w' => e = .returned (.bool (vN x)) ∧ Below w.heap.size w w' := by
 have HB := hid ((Below.refl _ w).alloc (Nat.le_refl _) (.cells (ndC x).toArray 39))
 have HR := hid (heap_alloc_new w (.cells (ndC x).toArray 39))
 have hc := cell_c hx HR.out
 have hp := cell_p hx HR.out
 have hcb := hx.c
 rw [show ndV x = .agg (ndC x).toArray from rfl]
 go_enter Tryz.func144, Tryz.ntmps144
 by_cases b1 : 0 ≤ x.c
 ·have d1 : decide (0 ≤ x.c) = true := eQ b1
  by_cases b2 : x.c ≤ 1073741824
  ·have d2 : decide (x.c ≤ 1073741824) = true := eQ b2
   by_cases b3 : 0 ≤ x.p
   ·have d3 : decide (0 ≤ x.p) = true := eQ b3
    have hw : IntKind.i64.wrap (12 * x.c) = 12 * x.c := IntWalk.i64_in _ (by omega)
    have HE : Hid (vN x = decide (x.p ≤ 12 * x.c)) := hid (by unfold vN; rw [d1, d2, d3]; rfl)
    go_wp2_with fail
    go_ret
    exact ⟨by rw [HE.out]; rfl, HB.out⟩
   ·have d3 : decide (0 ≤ x.p) = false := dQ b3
    have HE : Hid (vN x = false) := hid (by unfold vN; rw [d1, d2, d3]; rfl)
    go_wp2_with fail
    go_ret
    exact ⟨by rw [HE.out]; rfl, HB.out⟩
  ·have d2 : decide (x.c ≤ 1073741824) = false := dQ b2
   have HE : Hid (vN x = false) := hid (by unfold vN; rw [d1, d2]; rfl)
   go_wp2_with fail
   go_ret
   exact ⟨by rw [HE.out]; rfl, HB.out⟩
 ·have d1 : decide (0 ≤ x.c) = false := dQ b1
  have HE : Hid (vN x = false) := hid (by unfold vN; rw [d1]; rfl)
  go_wp2_with fail
  go_ret
  exact ⟨by rw [HE.out]; rfl, HB.out⟩
theorem rhalf_any (n : Nat) (w : World) (hn : n ≤ 1000000) : Calls Tryz.prog 145 #[.int .i64 (n : Nat)] w fun e w' => e = .returned (.int .i64 (half n : Nat)) ∧ w = w' := by
 go_enter Tryz.func145, Tryz.ntmps145
 go_wp2_with fail
 go_loop [3] (fun v => ∃ k : Nat, v = .int .i64 (k : Nat) ∧ 1 ≤ k ∧ k ≤ 1000000 ∧ Hid (∃ f, halfF f k n = half n ∧ 18446744073709551616 ≤ k * 2 ^ f)) (fun v => n - (intOf v).toNat)
 case atStart => exact ⟨1, rfl, by omega, by omega, hid ⟨64, rfl, by decide⟩⟩
 case round =>
  obtain ⟨k, rfl, hk1, hk2, HF⟩ := hrel
  by_cases hlt : 2 * k < n
  ·have d1 : decide (2 * (k : Int) < (n : Int)) = true := eQ (by omega)
   have HF2 : Hid (∃ f, halfF f (2 * k) n = half n ∧ 18446744073709551616 ≤ 2 * k * 2 ^ f) := hid (by
    obtain ⟨f, h1, h2⟩ := HF.out
    obtain ⟨g, h3, h4⟩ := half_step hlt hn h2
    exact ⟨g, by rw [← h3]; exact h1, h4⟩)
   go_wp2_with fail
   go_round
   case rel => exact ⟨2 * k, by go_num, by omega, by omega, HF2⟩
   case measure => simp [intOf]; omega
  ·have d1 : decide (2 * (k : Int) < (n : Int)) = false := dQ (by omega)
   have HE : Hid (half n = k) := hid (by
    obtain ⟨f, h1, _⟩ := HF.out
    rw [← h1]; exact half_end hlt)
   go_wp2_with fail
   go_ret
   exact ⟨by rw [HE.out]; rfl, rfl⟩
theorem rcheck_any (ls : List Nd) (A : Option Addr) (n c : Nat) (w : World) (hn : n ≤ 9223372036854775807) (h : Hid (InN w A n c ls)) :
  Calls Tryz.prog 125 #[.slice A n c] w fun e w' => e = .returned (.int .i64 (rootE ls)) ∧ Below w.heap.size w w' := by
 have HN := hid (show ls.length = n from h.out.len)
 by_cases hbig : 4096 < n
 ·have d0 : decide ((4096 : Int) < (n : Int)) = true := eQ (by omega)
  have HE : Hid (rootE ls = 410) := hid (rootR_no (by rw [HN.out]; omega)).2
  rw [HE.out]
  go_enter Tryz.func125, Tryz.ntmps125
  go_wp2_with fail
  go_ret
  exact ⟨rfl, Below.refl _ _⟩
 have d0 : decide ((4096 : Int) < (n : Int)) = false := dQ (by omega)
 go_enter Tryz.func125, Tryz.ntmps125
 go_wp2_with fail
 go_loopw [3, 4] (fun s i wr => ∃ j : Nat, j ≤ n ∧ i = .int .i64 j ∧ s = .int .i64 (sumC (ls.take j)) ∧ Hid ((ls.take j).all vN = true) ∧ Hid (Below w.heap.size w wr)) (fun _ i _ => n - (intOf i).toNat)
 case atStart => exact ⟨0, by omega, rfl, rfl, hid rfl, hid (Below.refl _ _)⟩
 case round =>
  obtain ⟨j, hj, rfl, rfl, HV, HB⟩ := hrel
  have hsm : 0 ≤ sumC (ls.take j) ∧ sumC (ls.take j) ≤ 1073741824 * (j : Int) := ⟨(sums_bd HV.out).1, by
   have := sumC_le (ls.take j) HV.out
   have h2 : ((ls.take j).length : Int) ≤ (j : Int) := by rw [List.length_take]; omega
   omega⟩
  by_cases hlt : j < n
  ·have d1 : decide ((j : Int) < (n : Int)) = true := eQ (by omega)
   have d11 : decide (j < n) = true := eQ hlt
   have hjl : j < ls.length := by rw [h.out.len]; exact hlt
   obtain ⟨g, off, rfl, hg, hr⟩ := h.out.rd (by omega)
   obtain ⟨x, HX⟩ : ∃ x, Hid (ls[j] = x) := ⟨_, hid rfl⟩
   have HOK : Hid (NdOk x) := hid (by rw [← HX.out]; exact h.out.ok _ (List.getElem_mem _))
   have HR : Hid (wr.rangeAt g (off + j * 34) (ndC x)) := hid (by rw [← HX.out]; exact rangeAt_below (range_one hr h.out.ok j hjl) hg HB.out)
   have HG : Hid (g < wr.heap.size) := hid (Nat.lt_of_lt_of_le hg HB.out.size)
   have HNX : Hid (ls.take (j + 1) = ls.take j ++ [x]) := hid (by rw [List.take_succ_eq_append_getElem hjl, HX.out])
   have HXB := hid (show (x.c + x.c = x.c + x.c) from rfl)
   clear hr
   go_wp2_with (with_reducible refine wpList_load_mid rfl 39 (.tmp 16) rfl g (off + j * 34) rfl (ndC x) _ HR.out Tryz.underlying39 rfl (size34 HOK.out) ?_)
   rw [show Value.agg (ndC x).toArray = ndV x from rfl]
   refine (rvalid_any x wr HOK.out).mono ?_
   rintro e w2 ⟨rfl, hq⟩
   have HB2 := hid (HB.out.trans (hq.mono HB.out.size))
   have kc : w2.cell? ⟨g, off + j * 34 + 32, none⟩ = some (.int .i64 x.c) := rangeAt_below HR.out HG.out hq 32 _ (ndC_c HOK.out)
   clear hq
   by_cases hv : vN x = true
   ·rw [hv]
    have hxb := vN_bd hv
    have hw2 : IntKind.i64.wrap (sumC (ls.take j) + x.c) = sumC (ls.take j) + x.c := IntWalk.i64_in _ (by omega)
    have HSUM : Hid (sumC (ls.take j) + x.c = sumC (ls.take (j + 1))) := hid (by rw [HNX.out, sumC_append]; simp [sumC])
    have HALL : Hid ((ls.take (j + 1)).all vN = true) := hid (by rw [HNX.out, List.all_append, HV.out]; simp [hv])
    clear hv hxb
    go_wp2_with fail
    go_roundw
    case rel => exact ⟨j + 1, by omega, by go_num, by rw [← HSUM.out], HALL, HB2⟩
    case measure => first | (simp [intOf]; done) | (simp [intOf]; omega)
   ·have hv' : vN x = false := by simpa using hv
    rw [hv']
    have HE : Hid (rootE ls = 410) := hid (rootR_no (fun hh => by have := vL_bad hjl (by rw [HX.out]; exact hv'); rw [hh.2] at this; cases this)).2
    clear hv hv'
    go_wp2_with fail
    go_ret
    exact ⟨by rw [HE.out]; rfl, HB2.out⟩
  ·have d1 : decide ((j : Int) < (n : Int)) = false := dQ (by omega)
   have HE : Hid (ls.take j = ls) := hid (List.take_of_length_le (by rw [h.out.len]; omega))
   have HV2 := hid HV.out
   rw [HE.out] at HV2 hsm ⊢
   by_cases hs : 1073741824 < sumC ls
   ·have d2 : decide (1073741824 < sumC ls) = true := eQ hs
    have HE2 : Hid (rootE ls = 410) := hid (rootR_no (fun hh => by have := hh.2; unfold vL at this; simp only [Bool.and_eq_true, decide_eq_true_eq] at this; omega)).2
    go_wp2_with fail
    go_ret
    exact ⟨by rw [HE2.out]; rfl, HB.out⟩
   ·have d2 : decide (1073741824 < sumC ls) = false := dQ hs
    have HE2 : Hid (rootE ls = 0) := hid (by
     have : ls.length ≤ 4096 ∧ vL ls = true := ⟨by rw [HN.out]; omega, by unfold vL; rw [HV2.out]; simp; omega⟩
     unfold rootE; exact if_pos this)
    go_wp2_with fail
    go_ret
    exact ⟨by rw [HE2.out]; rfl, HB.out⟩
end Go.Proofs.YtmfmgeapecapiaaGreatDoor
