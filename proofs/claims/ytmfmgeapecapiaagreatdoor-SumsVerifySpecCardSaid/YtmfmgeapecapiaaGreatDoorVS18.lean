/- sizarref41: root, Root. sizarref43.Verify, refused ahead of the loop. sizarref43.Verify. sizarref05: size, common, New. sizarref43.Mean. -/
import Derived.Test.YtmfmgeapecapiaaGreatDoorVS17
import Derived.Test.YtmfmgeapecapiaaGreatDoorVS11
import Derived.Test.YtmfmgeapecapiaaGreatDoorVS13
import Derived.OwnWalk
import Derived.Test.YtmfmgeapecapiaaGreatDoorVS5
set_option maxHeartbeats 64000001
open Go.Lib (hid)
namespace Go.Proofs.YtmfmgeapecapiaaGreatDoor
open Go.RowKit SzSha SzTree
set_option linter.unusedVariables false
set_option maxRecDepth 100000
def wRr (M : Nat) (g : Nat) (off : Nat) (n : Nat) (c : Nat) (k : Nat) (a : Nd) (b : Nd) (r : Nd) : Nat → Value → Value → World → Prop
 | 0, fv, _, _ => fv = .slice (some ⟨g, off, none⟩) n c
 | 1, fv, _, _ => fv = .int .i64 ((k : Nat))
 | 2, fv, _, _ => fv = .slice (some ⟨g, off, none⟩) k c
 | 3, fv, _, _ => fv = ndV a
 | 4, fv, _, _ => fv = .slice (some ⟨g, off, none⟩) n c
 | 5, fv, _, _ => fv = .int .i64 ((k : Nat))
 | 6, fv, _, _ => fv = .slice (some ⟨g, off + k * 34, none⟩) (n - k) (c - k)
 | 7, fv, _, _ => fv = ndV b
 | 8, fv, _, _ => fv = .tuple #[ndV r, .int .i64 0]
 | 9, fv, _, _ => fv = .tuple #[ndV r, .int .i64 0]
 | 10, fv, _, _ => fv = ndV r
 | 11, fv, _, _ => fv = .int .i64 (0)
 | 12, fv, fu, fw => True
 | 13, fv, fu, fw => ∃ q, fu = .pointer (some ⟨q, 0, none⟩) ∧ M ≤ q ∧ fw.heap[q]? = some (.cells (ndC r).toArray 39 (0, 0))
 | 14, fv, _, _ => fv = .int .i64 (0)
 | _, _, _, _ => True
theorem wRr_below {M : Nat} {g : Nat} {off : Nat} {n : Nat} {c : Nat} {k : Nat} {a : Nd} {b : Nd} {r : Nd} {w w' : World} (hb : Below w.heap.size w w') : ∀ j v u, wRr M g off n c k a b r j v u w → wRr M g off n c k a b r j v u w'
 | 0, v, u, h => h
 | 1, v, u, h => h
 | 2, v, u, h => h
 | 3, v, u, h => h
 | 4, v, u, h => h
 | 5, v, u, h => h
 | 6, v, u, h => h
 | 7, v, u, h => h
 | 8, v, u, h => h
 | 9, v, u, h => h
 | 10, v, u, h => h
 | 11, v, u, h => h
 | 12, v, u, h => h
 | 13, v, u, ⟨q, h1, h2, h3⟩ => ⟨q, h1, h2, (hb.block q (Array.getElem?_eq_some_iff.1 h3).1).trans h3⟩
 | 14, v, u, h => h
 | n + 15, v, u, h => trivial
theorem wRr_pure {M : Nat} {g : Nat} {off : Nat} {n : Nat} {c : Nat} {k : Nat} {a : Nd} {b : Nd} {r : Nd} {w w' : World} : ∀ j v u, j ≠ 12 → j ≠ 13 → wRr M g off n c k a b r j v u w → wRr M g off n c k a b r j v u w'
 | 0, v, u, _, _, h => h
 | 1, v, u, _, _, h => h
 | 2, v, u, _, _, h => h
 | 3, v, u, _, _, h => h
 | 4, v, u, _, _, h => h
 | 5, v, u, _, _, h => h
 | 6, v, u, _, _, h => h
 | 7, v, u, _, _, h => h
 | 8, v, u, _, _, h => h
 | 9, v, u, _, _, h => h
 | 10, v, u, _, _, h => h
 | 11, v, u, _, _, h => h
 | 12, v, u, hh, _, _ => absurd rfl hh
 | 13, v, u, _, hh, _ => absurd rfl hh
 | 14, v, u, _, _, h => h
 | n + 15, v, u, _, _, h => trivial
theorem rroot_any : ∀ (m : Nat) (ls : List Nd) (A : Option Addr) (n c : Nat) (w : World), n ≤ m → 1 ≤ n → n ≤ 4096 → Hid (InN w A n c ls) → Hid (vL ls = true) →
  Calls Tryz.prog 126 #[.slice A n c] w fun e w' => e = .returned (ndV (root ls)) ∧ Below w.heap.size w w' := by
 intro m
 induction m with
 | zero => intro ls A n c w h1 h2; omega
 | succ m ih =>
  intro ls A n c w hm h1 hn h hv
  obtain ⟨g, off, rfl, hg, hr⟩ := h.out.rd (by rw [h.out.len]; omega)
  have HNE := hid (show ls.length = n from h.out.len)
  have hcap := h.out.cap
  clear hr
  have HB0 := hid ((Below.refl _ w).alloc (Nat.le_refl _) (.cells (ndC zeroN).toArray 39))
  have HR0 := hid (heap_alloc_new w (.cells (ndC zeroN).toArray 39))
  have HS0 : Hid ((w.alloc (.cells (ndC zeroN).toArray 39)).heap.size = w.heap.size + 1) := hid (by simp)
  have HROK : Hid (NdOk (root ls)) := hid (root_ok _ ls (Nat.le_refl _) (by rw [h.out.len]; omega) h.out.ok hv.out)
  have d0 : decide ((n : Int) = 0) = false := dQ (by omega)
  have d00 : ((n : Int) == 0) = false := beq_false_of_ne (by omega)
  go_enter Tryz.func126, Tryz.ntmps126
  by_cases h2 : 2 ≤ n
  ·have d1 : decide ((n : Int) = 1) = false := dQ (by omega)
   have d11 : ((n : Int) == 1) = false := beq_false_of_ne (by omega)
   have HIN := hid (h.out.below HB0.out)
   go_wp2_with fail
   rw [← zeroN_cells]
   generalize w.alloc (.cells (ndC zeroN).toArray 39) = W1 at *
   refine (rhalf_any n _ (by omega)).mono ?_
   rintro e w2 ⟨rfl, rfl⟩
   obtain ⟨k, HK⟩ : ∃ k, Hid (half n = k) := ⟨_, hid rfl⟩
   have hkb := half_bd h2
   rw [HK.out] at hkb
   rw [HK.out]
   go_wp2_with fail
   have HP : Hid (vL (ls.take k) = true ∧ vL (ls.drop k) = true) := hid (vL_parts (by rw [List.take_append_drop]; exact hv.out))
   have HT2 := hid (HIN.out.take k (by omega))
   have HT3 := hid (HIN.out.drop k (by omega))
   have HLT : Hid ((ls.take k).length = k ∧ (ls.drop k).length = n - k) := hid ⟨by rw [List.length_take, HNE.out]; omega, by rw [List.length_drop, HNE.out]⟩
   have HVV : Hid (vL [root (ls.take k), root (ls.drop k)] = true) := hid (vL_two (by rw [List.take_append_drop]; exact hv.out) (by rw [HLT.out.1]; omega) (by rw [HLT.out.2]; omega))
   have HOA : Hid (NdOk (root (ls.take k))) := hid (root_ok _ _ (Nat.le_refl _) (by rw [HLT.out.1]; omega) HT2.out.ok HP.out.1)
   have HOB : Hid (NdOk (root (ls.drop k))) := hid (root_ok _ _ (Nat.le_refl _) (by rw [HLT.out.2]; omega) HT3.out.ok HP.out.2)
   have HRT : Hid (joinN (root (ls.take k)) (root (ls.drop k)) = root ls) := hid (by rw [root_two (l := ls) (by rw [HNE.out]; exact h2), HNE.out, HK.out])
   have HS1 : Hid ((Tryz.prog.info? 39).map (·.size) = some (ndC (root ls)).toArray.size) := hid (by rw [size34 HROK.out]; simp)
   have HS2 : Hid (34 = (ndC (root ls)).toArray.size) := hid (by simp [ndC_length HROK.out])
   obtain ⟨a, HA⟩ : ∃ a, Hid (root (ls.take k) = a) := ⟨_, hid rfl⟩
   obtain ⟨b, HB⟩ : ∃ b, Hid (root (ls.drop k) = b) := ⟨_, hid rfl⟩
   obtain ⟨r, HR⟩ : ∃ r, Hid (root ls = r) := ⟨_, hid rfl⟩
   rw [HA.out, HB.out] at HVV HRT
   rw [HA.out] at HOA
   rw [HB.out] at HOB
   rw [HR.out] at HRT HROK HS1 HS2
   refine region_flow3 (by kernel_rfl) (by kernel_rfl) (fun i => Nat.beq i 13) (fun i => bif Nat.beq i 13 then 12 else i) (by kernel_rfl) (fun fx => #[.slice (some { block := g, off := off }) n c, undef, .pointer (some { block := w.heap.size, off := 0 }), .int IntKind.i64 ↑k, fx 12, fx 14, .slice (some { block := g, off := off }) n c, .int IntKind.i64 ↑n, .bool false, undef, undef, .slice (some { block := g, off := off }) n c, .int IntKind.i64 ↑n, .bool false, undef, undef, undef, .slice (some { block := g, off := off }) n c, .int IntKind.i64 ↑n, .int IntKind.i64 ↑k, fx 9, fx 0, fx 1, fx 2, fx 3, fx 4, fx 5, fx 6, fx 7, fx 8, fx 10, fx 11, undef]) (fun _ => undef) (fun L fx w' => Below W1.heap.size W1 w' ∧ (L 12 = true → L 13 = false → NewN W1.heap.size (fx 12) w')) (fun fi fv fu fw => wRr W1.heap.size g off n c k a b r fi fv fu fw) ⟨(Below.refl _ _).drew, fun h => by cases h⟩ ?_ ?_
   ·refine ⟨?_, ?_, ?_, ?_, ?_, ?_, ?_, ?_, ?_, ?_, ?_, ?_, ?_, ?_, ?_, trivial⟩
    all_goals intro L fx w' hC hi hcl hdn hd
    ·go_wp2_with fail
     exact ⟨_, rfl, ⟨hC.1, fun h14 h15 => hC.2 h14 h15⟩, rfl, kP⟩
    ·go_wp2_with fail
     exact ⟨_, rfl, ⟨hC.1, fun h14 h15 => hC.2 h14 h15⟩, rfl, kP⟩
    ·have h0 : fx 0 = .slice (some ⟨g, off, none⟩) n c := hd.1 rfl
     have h1 : fx 1 = .int .i64 ((k : Nat)) := hd.2.1 rfl
     go_wp2_with fail
     exact ⟨_, by show _ = Act.mk #[Value.slice (some { block := g, off := off }) n c, undef, Value.pointer (some { block := w.heap.size, off := 0 }), Value.int IntKind.i64 ↑k, fx 12, fx 14, Value.slice (some { block := g, off := off }) n c, Value.int IntKind.i64 ↑n, Value.bool false, undef, undef, Value.slice (some { block := g, off := off }) n c, Value.int IntKind.i64 ↑n, Value.bool false, undef, undef, undef, Value.slice (some { block := g, off := off }) n c, Value.int IntKind.i64 ↑n, Value.int IntKind.i64 ↑k, fx 9, fx 0, fx 1, Value.slice (some ⟨g, off, none⟩) k c, fx 3, fx 4, fx 5, fx 6, fx 7, fx 8, fx 10, fx 11, undef] []; rw [h0, h1] <;> rfl, ⟨hC.1, fun h14 h15 => hC.2 h14 h15⟩, rfl, kP⟩
    ·have h2 : fx 2 = .slice (some ⟨g, off, none⟩) k c := hd.1 rfl
     have HIk := hid (HT2.out.below hC.1)
     go_wp2_with fail
     refine (ih (ls.take k) _ k c w' (by omega) (by omega) (by omega) HIk (hid HP.out.1)).mono ?_
     rintro e w2 ⟨rfl, hq⟩
     rw [HA.out]
     go_wp2_with fail
     exact ⟨_, by show _ = Act.mk #[Value.slice (some { block := g, off := off }) n c, undef, Value.pointer (some { block := w.heap.size, off := 0 }), Value.int IntKind.i64 ↑k, fx 12, fx 14, Value.slice (some { block := g, off := off }) n c, Value.int IntKind.i64 ↑n, Value.bool false, undef, undef, Value.slice (some { block := g, off := off }) n c, Value.int IntKind.i64 ↑n, Value.bool false, undef, undef, undef, Value.slice (some { block := g, off := off }) n c, Value.int IntKind.i64 ↑n, Value.int IntKind.i64 ↑k, fx 9, fx 0, fx 1, fx 2, ndV a, fx 4, fx 5, fx 6, fx 7, fx 8, fx 10, fx 11, undef] []; rw [h2] <;> rfl, ⟨hC.1.trans (hq.mono hC.1.size), fun h14 h15 => (hC.2 h14 h15).below hq⟩, rfl, fun j v t _ _ h => wRr_below hq j v t h⟩
    ·go_wp2_with fail
     exact ⟨_, rfl, ⟨hC.1, fun h14 h15 => hC.2 h14 h15⟩, rfl, kP⟩
    ·go_wp2_with fail
     exact ⟨_, rfl, ⟨hC.1, fun h14 h15 => hC.2 h14 h15⟩, rfl, kP⟩
    ·have h4 : fx 4 = .slice (some ⟨g, off, none⟩) n c := hd.1 rfl
     have h5 : fx 5 = .int .i64 ((k : Nat)) := hd.2.1 rfl
     go_wp2_with fail
     exact ⟨_, by show _ = Act.mk #[Value.slice (some { block := g, off := off }) n c, undef, Value.pointer (some { block := w.heap.size, off := 0 }), Value.int IntKind.i64 ↑k, fx 12, fx 14, Value.slice (some { block := g, off := off }) n c, Value.int IntKind.i64 ↑n, Value.bool false, undef, undef, Value.slice (some { block := g, off := off }) n c, Value.int IntKind.i64 ↑n, Value.bool false, undef, undef, undef, Value.slice (some { block := g, off := off }) n c, Value.int IntKind.i64 ↑n, Value.int IntKind.i64 ↑k, fx 9, fx 0, fx 1, fx 2, fx 3, fx 4, fx 5, Value.slice (some ⟨g, off + k * 34, none⟩) (n - k) (c - k), fx 7, fx 8, fx 10, fx 11, undef] []; rw [h4, h5] <;> rfl, ⟨hC.1, fun h14 h15 => hC.2 h14 h15⟩, rfl, kP⟩
    ·have h6 : fx 6 = .slice (some ⟨g, off + k * 34, none⟩) (n - k) (c - k) := hd.1 rfl
     have HIk := hid (HT3.out.below hC.1)
     go_wp2_with fail
     refine (ih (ls.drop k) _ (n - k) (c - k) w' (by omega) (by omega) (by omega) HIk (hid HP.out.2)).mono ?_
     rintro e w2 ⟨rfl, hq⟩
     rw [HB.out]
     go_wp2_with fail
     exact ⟨_, by show _ = Act.mk #[Value.slice (some { block := g, off := off }) n c, undef, Value.pointer (some { block := w.heap.size, off := 0 }), Value.int IntKind.i64 ↑k, fx 12, fx 14, Value.slice (some { block := g, off := off }) n c, Value.int IntKind.i64 ↑n, Value.bool false, undef, undef, Value.slice (some { block := g, off := off }) n c, Value.int IntKind.i64 ↑n, Value.bool false, undef, undef, undef, Value.slice (some { block := g, off := off }) n c, Value.int IntKind.i64 ↑n, Value.int IntKind.i64 ↑k, fx 9, fx 0, fx 1, fx 2, fx 3, fx 4, fx 5, fx 6, ndV b, fx 8, fx 10, fx 11, undef] []; rw [h6] <;> rfl, ⟨hC.1.trans (hq.mono hC.1.size), fun h14 h15 => (hC.2 h14 h15).below hq⟩, rfl, fun j v t _ _ h => wRr_below hq j v t h⟩
    ·have h3 : fx 3 = ndV a := hd.1 rfl
     have h7 : fx 7 = ndV b := hd.2.1 rfl
     go_wp2_with fail
     refine (rjoin_yes a b w' HOA HOB HVV.out).mono ?_
     rintro e w2 ⟨rfl, hq⟩
     rw [HRT.out]
     go_wp2_with fail
     exact ⟨_, by show _ = Act.mk #[Value.slice (some { block := g, off := off }) n c, undef, Value.pointer (some { block := w.heap.size, off := 0 }), Value.int IntKind.i64 ↑k, fx 12, fx 14, Value.slice (some { block := g, off := off }) n c, Value.int IntKind.i64 ↑n, Value.bool false, undef, undef, Value.slice (some { block := g, off := off }) n c, Value.int IntKind.i64 ↑n, Value.bool false, undef, undef, undef, Value.slice (some { block := g, off := off }) n c, Value.int IntKind.i64 ↑n, Value.int IntKind.i64 ↑k, fx 9, fx 0, fx 1, fx 2, fx 3, fx 4, fx 5, fx 6, fx 7, Value.tuple #[ndV r, .int .i64 0], fx 10, fx 11, undef] []; rw [h3, h7] <;> rfl, ⟨hC.1.trans (hq.mono hC.1.size), fun h14 h15 => (hC.2 h14 h15).below hq⟩, rfl, fun j v t _ _ h => wRr_below hq j v t h⟩
    ·have h8 : fx 8 = .tuple #[ndV r, .int .i64 0] := hd.1 rfl
     go_wp2_with fail
     exact ⟨_, by show _ = Act.mk #[Value.slice (some { block := g, off := off }) n c, undef, Value.pointer (some { block := w.heap.size, off := 0 }), Value.int IntKind.i64 ↑k, fx 12, fx 14, Value.slice (some { block := g, off := off }) n c, Value.int IntKind.i64 ↑n, Value.bool false, undef, undef, Value.slice (some { block := g, off := off }) n c, Value.int IntKind.i64 ↑n, Value.bool false, undef, undef, undef, Value.slice (some { block := g, off := off }) n c, Value.int IntKind.i64 ↑n, Value.int IntKind.i64 ↑k, Value.tuple #[ndV r, .int .i64 0], fx 0, fx 1, fx 2, fx 3, fx 4, fx 5, fx 6, fx 7, fx 8, fx 10, fx 11, undef] []; rw [h8] <;> rfl, ⟨hC.1, fun h14 h15 => hC.2 h14 h15⟩, rfl, kP⟩
    ·have h9 : fx 9 = .tuple #[ndV r, .int .i64 0] := hd.1 rfl
     go_wp2_with fail
     exact ⟨_, by show _ = Act.mk #[Value.slice (some { block := g, off := off }) n c, undef, Value.pointer (some { block := w.heap.size, off := 0 }), Value.int IntKind.i64 ↑k, fx 12, fx 14, Value.slice (some { block := g, off := off }) n c, Value.int IntKind.i64 ↑n, Value.bool false, undef, undef, Value.slice (some { block := g, off := off }) n c, Value.int IntKind.i64 ↑n, Value.bool false, undef, undef, undef, Value.slice (some { block := g, off := off }) n c, Value.int IntKind.i64 ↑n, Value.int IntKind.i64 ↑k, fx 9, fx 0, fx 1, fx 2, fx 3, fx 4, fx 5, fx 6, fx 7, fx 8, ndV r, fx 11, undef] []; rw [h9] <;> rfl, ⟨hC.1, fun h14 h15 => hC.2 h14 h15⟩, rfl, kP⟩
    ·have h9 : fx 9 = .tuple #[ndV r, .int .i64 0] := hd.1 rfl
     go_wp2_with fail
     exact ⟨_, by show _ = Act.mk #[Value.slice (some { block := g, off := off }) n c, undef, Value.pointer (some { block := w.heap.size, off := 0 }), Value.int IntKind.i64 ↑k, fx 12, fx 14, Value.slice (some { block := g, off := off }) n c, Value.int IntKind.i64 ↑n, Value.bool false, undef, undef, Value.slice (some { block := g, off := off }) n c, Value.int IntKind.i64 ↑n, Value.bool false, undef, undef, undef, Value.slice (some { block := g, off := off }) n c, Value.int IntKind.i64 ↑n, Value.int IntKind.i64 ↑k, fx 9, fx 0, fx 1, fx 2, fx 3, fx 4, fx 5, fx 6, fx 7, fx 8, fx 10, Value.int .i64 (0), undef] []; rw [h9] <;> rfl, ⟨hC.1, fun h14 h15 => hC.2 h14 h15⟩, rfl, kP⟩
    ·go_wp2_with fail
     rw [← zeroN_cells]
     have hbb : Below w'.heap.size w' (w'.alloc (.cells (ndC zeroN).toArray 39)) := (Below.refl _ _).alloc (Nat.le_refl _) _
     exact ⟨_, rfl, ⟨hC.1.trans (hbb.mono hC.1.size), fun _ _ => ⟨_, rfl, hC.1.size, heap_alloc_new _ _⟩⟩, trivial, fun j v t _ _ h => wRr_below hbb j v t h⟩
    ·have H12 := hid (hd.1 rfl)
     have h10 : fx 10 = ndV r := hd.2.1 rfl
     obtain ⟨q, h12, hq, hrow⟩ := hC.2 (hdn 12 (by kernel_rfl)) hi
     refine wpList_store_row rfl 39 (.tmp 4) (.tmp 30) rfl q (ndC r).toArray h12 h10 39 _ hrow HS1.out HS2.out (ndC_one _) ?_
     clear hd
     go_wp2_with fail
     exact ⟨undef, by rw [← h12, ← h10]; rfl, ⟨below_setRow hC.1 hq _, fun _ h => (updB_self h).elim⟩, ⟨q, h12, hq, setRow_heap _ _ _ _ _ _ hrow⟩, fun j v t hj _ h => by
      by_cases e : j = 12
      ·subst e; trivial
      ·exact wRr_pure j v t e (fun e => by subst e; rw [hi] at hj; cases hj) h⟩
    ·have h11 : fx 11 = .int .i64 (0) := hd.1 rfl
     go_wp2_with fail
     exact ⟨_, by show _ = Act.mk #[Value.slice (some { block := g, off := off }) n c, undef, Value.pointer (some { block := w.heap.size, off := 0 }), Value.int IntKind.i64 ↑k, fx 12, Value.int .i64 (0), Value.slice (some { block := g, off := off }) n c, Value.int IntKind.i64 ↑n, Value.bool false, undef, undef, Value.slice (some { block := g, off := off }) n c, Value.int IntKind.i64 ↑n, Value.bool false, undef, undef, undef, Value.slice (some { block := g, off := off }) n c, Value.int IntKind.i64 ↑n, Value.int IntKind.i64 ↑k, fx 9, fx 0, fx 1, fx 2, fx 3, fx 4, fx 5, fx 6, fx 7, fx 8, fx 10, fx 11, undef] []; rw [h11] <;> rfl, ⟨hC.1, fun h14 h15 => hC.2 h14 h15⟩, rfl, kP⟩
   ·intro L fx w' hC hS
    have H13 := hid (hS 13 (by decide) rfl)
    obtain ⟨q, e14, hq, hrow⟩ := H13.out
    have HB9 := hid hC.1
    have HQR := hid hrow
    have HR3 := hid ((hC.1.block w.heap.size (by rw [HS0.out]; omega)).trans HR0.out)
    replace e14 : fx 12 = _ := e14
    rw [e14]
    clear hS hC H13 hrow
    go_wp2_with (first | (refine wpList_load_row rfl 39 (.tmp 4) rfl q rfl 39 _ (0, 0) _ HQR.out Tryz.underlying39 rfl HS1.out ?_) | (refine wpList_store_row rfl 39 (.tmp 2) (.tmp 32) rfl w.heap.size (ndC r).toArray rfl rfl 39 (ndC zeroN).toArray HR3.out HS1.out HS2.out (ndC_one r) ?_))
    refine bodyPost_ret (results_cell_row rfl _ _ w.heap.size 39 _ (0, 0) _ rfl (setRow_heap w' w.heap.size _ _ _ _ HR3.out) Tryz.underlying39 rfl HS1.out) rfl ?_
    exact ⟨by rw [HR.out]; rfl, below_setRow (HB0.out.trans (HB9.out.mono HB0.out.size)) (Nat.le_refl _) _⟩
  ·have hn1 : n = 1 := by omega
   have d1 : decide ((n : Int) = 1) = true := eQ (by omega)
   have d11 : ((n : Int) == 1) = true := by rw [hn1]; rfl
   obtain ⟨x, HX⟩ : ∃ x, Hid (ls = [x]) := (List.length_eq_one_iff.1 (by rw [HNE.out]; exact hn1)).imp fun _ h => hid h
   have HXO : Hid (NdOk x) := hid (h.out.ok x (by rw [HX.out]; simp))
   obtain ⟨g', off', e, hg', hr⟩ := (h.out.below HB0.out).rd (by rw [HNE.out]; omega)
   cases e
   have HRX : Hid ((w.alloc (.cells (ndC zeroN).toArray 39)).rangeAt g off (ndC x)) := hid (by
    have := range_one hr h.out.ok 0 (by rw [HNE.out]; omega)
    simpa [HX.out] using this)
   have HS1 : Hid ((Tryz.prog.info? 39).map (·.size) = some (ndC x).toArray.size) := hid (by rw [size34 HXO.out]; simp)
   have HS2 : Hid (34 = (ndC x).toArray.size) := hid (by simp [ndC_length HXO.out])
   have HSX := hid (size34 HXO.out)
   have hlt : 0 < n := by omega
   have hlt2 : decide (0 < n) = true := eQ hlt
   clear hr
   rw [zeroN_cells] at HRX HR0
   go_wp2_with (first | (with_reducible refine wpList_load_mid rfl 39 (.tmp 15) rfl g off rfl (ndC x) _ HRX.out Tryz.underlying39 rfl HSX.out ?_) | (refine wpList_store_row rfl 39 (.tmp 2) (.tmp 16) rfl w.heap.size (ndC x).toArray rfl rfl 39 _ HR0.out HS1.out HS2.out (ndC_one x) ?_))
   rw [← zeroN_cells]
   rw [← zeroN_cells] at HR0
   refine bodyPost_ret (results_cell_row rfl _ _ w.heap.size 39 _ (0, 0) _ rfl (setRow_heap _ w.heap.size _ _ _ _ HR0.out) Tryz.underlying39 rfl HS1.out) rfl ?_
   exact ⟨by rw [HX.out, root_one]; rfl, below_setRow HB0.out (Nat.le_refl _) _⟩
theorem rroot_nil (A : Option Addr) (c : Nat) (w : World) :
  Calls Tryz.prog 126 #[.slice A 0 c] w fun e w' => e = .returned (ndV emptyN) ∧ Below w.heap.size w w' := by
 have HB0 := hid ((Below.refl _ w).alloc (Nat.le_refl _) (.cells (ndC zeroN).toArray 39))
 have HR0 := hid (heap_alloc_new w (.cells (ndC zeroN).toArray 39))
 rw [zeroN_cells] at HR0 HB0
 go_enter Tryz.func126, Tryz.ntmps126
 go_wp2_with fail
 generalize w.alloc (.cells #[.int .u8 0, .int .u8 0, .int .u8 0, .int .u8 0, .int .u8 0, .int .u8 0, .int .u8 0, .int .u8 0, .int .u8 0, .int .u8 0, .int .u8 0, .int .u8 0, .int .u8 0, .int .u8 0, .int .u8 0, .int .u8 0, .int .u8 0, .int .u8 0, .int .u8 0, .int .u8 0, .int .u8 0, .int .u8 0, .int .u8 0, .int .u8 0, .int .u8 0, .int .u8 0, .int .u8 0, .int .u8 0, .int .u8 0, .int .u8 0, .int .u8 0, .int .u8 0, .int .i64 0, .int .i64 0] 39) = W1 at *
 refine (rtagged_any sumTag none 0 0 [] W1 (by decide) (hid rfl) (Nat.le_refl _) (fun _ => rfl) (by omega) (hid (fun x hx => by cases hx)) (hid (fun h => by simp at h))).mono ?_
 rintro e W2 ⟨rfl, hq2⟩
 rw [sumTag_eq]
 have HB2 := hid (HB0.out.trans (hq2.mono HB0.out.size))
 have HR2 := hid ((hq2.block w.heap.size (Array.getElem?_eq_some_iff.1 HR0.out).1).trans HR0.out)
 have HS1 : Hid ((Tryz.prog.info? 39).map (·.size) = some (ndC emptyN).toArray.size) := hid (by rw [size34 emptyN_ok]; simp)
 have HS2 : Hid (34 = (ndC emptyN).toArray.size) := hid (by simp [ndC_length emptyN_ok])
 clear hq2
 go_wp2_with (first | (refine wpList_build_node1 rfl (.tmp 9) rfl (tagged sumT []) (tagged_length _ _) rfl ?_) | (refine wpList_store_row rfl 39 (.tmp 2) (.tmp 10) rfl w.heap.size (ndC emptyN).toArray rfl rfl 39 _ HR2.out HS1.out HS2.out (ndC_one _) ?_))
 refine bodyPost_ret (results_cell_row rfl _ _ w.heap.size 39 _ (0, 0) _ rfl (setRow_heap _ w.heap.size _ _ _ _ HR2.out) Tryz.underlying39 rfl HS1.out) rfl ?_
 exact ⟨rfl, below_setRow HB2.out (Nat.le_refl _) _⟩
theorem rRoot_any (ls : List Nd) (A : Option Addr) (n c : Nat) (w : World) (hn : n ≤ 9223372036854775807) (h : Hid (InN w A n c ls)) :
  Calls Tryz.prog 81 #[.slice A n c] w fun e w' => e = .returned (.tuple #[ndV (rootR ls), .int .i64 (rootE ls)]) ∧ Below w.heap.size w w' := by
 have HNE := hid (show ls.length = n from h.out.len)
 have HB0 := hid ((Below.refl _ w).alloc (Nat.le_refl _) (.cells (ndC zeroN).toArray 39))
 have HR0 := hid (heap_alloc_new w (.cells (ndC zeroN).toArray 39))
 have HIN := hid (h.out.below HB0.out)
 have HSZ : Hid ((Tryz.prog.info? 39).map (·.size) = some (ndC zeroN).toArray.size) := hid (by rw [size34 zeroN_ok]; simp)
 rw [zeroN_cells] at HR0 HB0 HIN
 have HRR : Hid (∀ W1, Below (w.alloc (.cells #[.int .u8 0, .int .u8 0, .int .u8 0, .int .u8 0, .int .u8 0, .int .u8 0, .int .u8 0, .int .u8 0, .int .u8 0, .int .u8 0, .int .u8 0, .int .u8 0, .int .u8 0, .int .u8 0, .int .u8 0, .int .u8 0, .int .u8 0, .int .u8 0, .int .u8 0, .int .u8 0, .int .u8 0, .int .u8 0, .int .u8 0, .int .u8 0, .int .u8 0, .int .u8 0, .int .u8 0, .int .u8 0, .int .u8 0, .int .u8 0, .int .u8 0, .int .u8 0, .int .i64 0, .int .i64 0] 39)).heap.size (w.alloc (.cells #[.int .u8 0, .int .u8 0, .int .u8 0, .int .u8 0, .int .u8 0, .int .u8 0, .int .u8 0, .int .u8 0, .int .u8 0, .int .u8 0, .int .u8 0, .int .u8 0, .int .u8 0, .int .u8 0, .int .u8 0, .int .u8 0, .int .u8 0, .int .u8 0, .int .u8 0, .int .u8 0, .int .u8 0, .int .u8 0, .int .u8 0, .int .u8 0, .int .u8 0, .int .u8 0, .int .u8 0, .int .u8 0, .int .u8 0, .int .u8 0, .int .u8 0, .int .u8 0, .int .i64 0, .int .i64 0] 39)) W1 → rootE ls = 0 → Calls Tryz.prog 126 #[.slice A n c] W1 fun e w' => e = .returned (ndV (rootR ls)) ∧ Below W1.heap.size W1 w') := hid (fun W1 hb he => by
  have hh : ls.length ≤ 4096 ∧ vL ls = true := by
   apply Classical.byContradiction
   intro hc
   rw [(rootR_no hc).2] at he
   omega
  by_cases h0 : n = 0
  ·have hl0 : ls = [] := List.eq_nil_of_length_eq_zero (by rw [HNE.out]; exact h0)
   subst hl0
   subst h0
   rw [rootR_nil.1]
   exact rroot_nil A c W1
  ·rw [(rootR_yes hh.1 hh.2 (by rw [HNE.out]; omega)).1]
   exact rroot_any n ls A n c W1 (Nat.le_refl _) (by omega) (by have := HNE.out; omega) (hid (HIN.out.below hb)) (hid hh.2))
 have HROK : Hid (NdOk (rootR ls)) := hid (rootR_ok h.out.ok)
 have HS1 : Hid ((Tryz.prog.info? 39).map (·.size) = some (ndC (rootR ls)).toArray.size) := hid (by rw [size34 HROK.out]; simp)
 have HS2 : Hid (34 = (ndC (rootR ls)).toArray.size) := hid (by simp [ndC_length HROK.out])
 go_enter Tryz.func81, Tryz.ntmps81
 go_wp2_with fail
 refine (rcheck_any ls A n c _ hn HIN).mono ?_
 rintro e W1 ⟨rfl, hq⟩
 have HB1 := hid (HB0.out.trans (hq.mono HB0.out.size))
 have HR1 := hid (row_kept HR0.out hq)
 have HQ1 := hid hq
 clear hq HB0 HR0
 by_cases he : rootE ls = 0
 ·have HEE := hid he
  rw [he]
  go_wp2_with fail
  refine (HRR.out W1 HQ1.out he).mono ?_
  rintro e W2 ⟨rfl, hq⟩
  have HB2 := hid (HB1.out.trans (hq.mono HB1.out.size))
  have HR2 := hid (row_kept HR1.out hq)
  clear hq
  obtain ⟨r, HR⟩ : ∃ r, Hid (rootR ls = r) := ⟨_, hid rfl⟩
  rw [HR.out] at HROK HS1 HS2
  rw [HR.out]
  go_wp2_with (refine wpList_store_row rfl 39 (.tmp 2) (.tmp 12) rfl w.heap.size (ndC r).toArray rfl rfl 39 _ HR2.out HS1.out HS2.out (ndC_one _) ?_)
  have hr := setRow_heap W2 w.heap.size _ (ndC r).toArray _ _ HR2.out
  have hl := run_loadVar_row (P := Tryz.prog) (W2.setRow w.heap.size (ndC r).toArray) w.heap.size 39 39 (ndC r).toArray (0, 0) _ hr Tryz.underlying39 rfl HS1.out
  refine bodyPost_ret (v := .tuple #[ndV r, .int .i64 0]) ?_ rfl ⟨by rw [HR.out, HEE.out], below_setRow HB2.out (Nat.le_refl _) _⟩
  unfold ndV
  simp [results, Tryz.results81, asAddr, hl]
 ·have hbad : ¬ (ls.length ≤ 4096 ∧ vL ls = true) := fun hh => he (by unfold rootE; exact if_pos hh)
  have HE := hid (rootR_no hbad)
  clear he hbad
  rw [HE.out.2]
  rw [← zeroN_cells] at HR1
  go_wp2_with (rw [← zeroN_cells]; refine wpList_store_row rfl 39 (.tmp 2) (.tmp 9) rfl w.heap.size (ndC zeroN).toArray ?ha ?hb 39 (ndC zeroN).toArray HR1.out HSZ.out rfl (ndC_one zeroN) ?_)
  all_goals first | rfl | skip
  have hr := setRow_heap W1 w.heap.size _ (ndC zeroN).toArray _ _ HR1.out
  have hl := run_loadVar_row (P := Tryz.prog) (W1.setRow w.heap.size (ndC zeroN).toArray) w.heap.size 39 39 (ndC zeroN).toArray (0, 0) _ hr Tryz.underlying39 rfl HSZ.out
  refine bodyPost_ret (v := .tuple #[ndV zeroN, .int .i64 410]) ?_ rfl ⟨by rw [HE.out.1, HE.out.2], below_setRow HB1.out (Nat.le_refl _) _⟩
  unfold ndV
  simp [results, Tryz.results81, asAddr, hl]
theorem rver43_no1 (r : Rt) (f t : Int) (A : Option Addr) (n cc : Nat) (ls : List Nd) (w : World) (hr : Hid (RtOk r)) (h : Hid (InN w A n cc ls)) (HF : Hid (ftB f t r.lin = false)) :
  Calls Tryz.prog 36 #[.agg (rtC r).toArray, .agg #[.int .i64 f, .int .i64 t, .slice A n cc]] w fun e w' => e = .returned (.tuple #[.int .i64 0, .int .i64 0, .int .i64 430]) ∧ Below w.heap.size w w' := by
 have HIR := hid (rtC_info hr.out)
 have hb0 := ((Below.refl _ w).alloc (Nat.le_refl _) (.cells (rtC r).toArray 43)).alloc (by simp) (.cells #[.int .i64 f, .int .i64 t, .slice A n cc] 66)
 have hr0 := (Below.heap_alloc (w.alloc (.cells (rtC r).toArray 43)) (.cells #[.int .i64 f, .int .i64 t, .slice A n cc] 66) w.heap.size (by simp)).trans (heap_alloc_new w (.cells (rtC r).toArray 43))
 have hr1 := heap_alloc_new (w.alloc (.cells (rtC r).toArray 43)) (.cells #[.int .i64 f, .int .i64 t, .slice A n cc] 66)
 rw [World.size_alloc] at hr1
 obtain ⟨V0, HV0⟩ : ∃ V, Hid ((w.alloc (.cells (rtC r).toArray 43)).alloc (.cells #[.int .i64 f, .int .i64 t, .slice A n cc] 66) = V) := ⟨_, hid rfl⟩
 rw [HV0.out] at hb0 hr0 hr1
 have HB0 := hid hb0
 have RR0 := hid hr0
 have RP0 := hid hr1
 have KI0 := hid (h.out.below hb0)
 clear hb0 hr0 hr1
 have cl4 : V0.cell? ⟨w.heap.size, 4, none⟩ = some (.int .i64 r.lin) := by rw [cell_of_row _ _ 4 _ _ _ RR0.out]; rfl
 have p0 := cell_of_row _ _ 0 _ _ _ RP0.out
 have p1 := cell_of_row _ _ 1 _ _ _ RP0.out
 have p2 := cell_of_row _ _ 2 _ _ _ RP0.out
 go_enter Tryz.func36, Tryz.ntmps36
 go_wp2_with (rw [HV0.out])
 refine (rfits_any _ _ _ _).mono ?_
 rintro e w2 ⟨rfl, rfl⟩
 rw [HF.out]
 go_wp2_with fail
 go_ret3
 exact ⟨rfl, HB0.out⟩
theorem rver43_no2 (r : Rt) (f t m : Nat) (A : Option Addr) (n cc : Nat) (ls : List Nd) (w : World) (hr : Hid (RtOk r)) (HM : Hid (r.lin = (m : Nat))) (hft : f < t) (htm : t ≤ m) (hm4 : m ≤ 4096) (h : Hid (InN w A n cc ls)) (hn : n ≤ 100000) (hk : (parts f t 0 m).length ≠ n) :
  Calls Tryz.prog 36 #[.agg (rtC r).toArray, .agg #[.int .i64 (f : Nat), .int .i64 (t : Nat), .slice A n cc]] w fun e w' => e = .returned (.tuple #[.int .i64 0, .int .i64 0, .int .i64 430]) ∧ Below w.heap.size w w' := by
 have HF : Hid (ftB (f : Int) (t : Int) (m : Int) = true) := hid (ftB_yes (by omega))
 have HPT := hid (rparts_any f t hft (by omega) 0 m (by omega) hm4)
 have HLL := hid (parts_length hft 0 m (by omega))
 have HM4 := hid hm4
 have HFT := hid (And.intro hft htm)
 have HIR := hid (rtC_info hr.out)
 have hb0 := ((Below.refl _ w).alloc (Nat.le_refl _) (.cells (rtC r).toArray 43)).alloc (by simp) (.cells #[.int .i64 (f : Nat), .int .i64 (t : Nat), .slice A n cc] 66)
 have hr0 := (Below.heap_alloc (w.alloc (.cells (rtC r).toArray 43)) (.cells #[.int .i64 (f : Nat), .int .i64 (t : Nat), .slice A n cc] 66) w.heap.size (by simp)).trans (heap_alloc_new w (.cells (rtC r).toArray 43))
 have hr1 := heap_alloc_new (w.alloc (.cells (rtC r).toArray 43)) (.cells #[.int .i64 (f : Nat), .int .i64 (t : Nat), .slice A n cc] 66)
 rw [World.size_alloc] at hr1
 obtain ⟨V0, HV0⟩ : ∃ V, Hid ((w.alloc (.cells (rtC r).toArray 43)).alloc (.cells #[.int .i64 (f : Nat), .int .i64 (t : Nat), .slice A n cc] 66) = V) := ⟨_, hid rfl⟩
 rw [HV0.out] at hb0 hr0 hr1
 have HB0 := hid hb0
 have RR0 := hid hr0
 have RP0 := hid hr1
 have KI0 := hid (h.out.below hb0)
 clear hb0 hr0 hr1
 have cl4 : V0.cell? ⟨w.heap.size, 4, none⟩ = some (.int .i64 (m : Nat)) := by rw [cell_of_row _ _ 4 _ _ _ RR0.out]; rw [← HM.out]; rfl
 have p0 := cell_of_row _ _ 0 _ _ _ RP0.out
 have p1 := cell_of_row _ _ 1 _ _ _ RP0.out
 have p2 := cell_of_row _ _ 2 _ _ _ RP0.out
 go_enter Tryz.func36, Tryz.ntmps36
 go_wp2_with (rw [HV0.out])
 refine (rfits_any _ _ _ _).mono ?_
 rintro e w2 ⟨rfl, rfl⟩
 rw [HF.out]
 go_wp2_with fail
 refine (HPT.out _).mono ?_
 rintro e U1 ⟨A2, n2, c2, rfl, ho, hq⟩
 obtain ⟨A2', n2', c2', e2, hi2⟩ := ho.slice
 cases e2
 have KH0 := hid hi2
 have HNL : Hid (n2 = (parts f t 0 m).length) := hid hi2.len.symm
 clear ho hi2
 clear cl4 p0 p1 p2
 have HB2 := hid (HB0.out.trans (hq.mono HB0.out.size))
 have RR2 := hid (row_kept RR0.out hq)
 have RP2 := hid (row_kept RP0.out hq)
 have KI2 := hid (KI0.out.below hq)
 clear hq HB0 RR0 RP0 KI0
 have cl4 : U1.cell? ⟨w.heap.size, 4, none⟩ = some (.int .i64 (m : Nat)) := by rw [cell_of_row _ _ 4 _ _ _ RR2.out]; rw [← HM.out]; rfl
 have p0 := cell_of_row _ _ 0 _ _ _ RP2.out
 have p1 := cell_of_row _ _ 1 _ _ _ RP2.out
 have p2 := cell_of_row _ _ 2 _ _ _ RP2.out
 have hk2 : n2 ≠ n := by rw [HNL.out]; exact hk
 have dk : ((n2 : Int) != (n : Int)) = true := by rw [bne_iff_ne]; omega
 go_wp2_with fail
 go_ret3
 exact ⟨rfl, HB2.out⟩
theorem rver43_main (r : Rt) (f t m : Nat) (A : Option Addr) (n cc : Nat) (ls : List Nd) (w : World) (hr : Hid (RtOk r)) (HM : Hid (r.lin = (m : Nat))) (hft : f < t) (htm : t ≤ m) (hm4 : m ≤ 4096) (h : Hid (InN w A n cc ls)) (hn : n ≤ 100000) (hk : (parts f t 0 m).length = n) (X Y Z : Int) (HV : Hid (rvS f t m r.tree ls = (X, Y, Z))) :
  Calls Tryz.prog 36 #[.agg (rtC r).toArray, .agg #[.int .i64 (f : Nat), .int .i64 (t : Nat), .slice A n cc]] w fun e w' => e = .returned (.tuple #[.int .i64 X, .int .i64 Y, .int .i64 Z]) ∧ Below w.heap.size w w' := by
 have HF : Hid (ftB (f : Int) (t : Int) (m : Int) = true) := hid (ftB_yes (by omega))
 have HPT := hid (rparts_any f t hft (by omega) 0 m (by omega) hm4)
 have HLL := hid (parts_length hft 0 m (by omega))
 have HM4 := hid hm4
 have HFT := hid (And.intro hft htm)
 have HLN : Hid (ls.length = n) := hid h.out.len
 have HBAD : Hid (¬ (ls.all vN = true ∧ (rj f t 0 m ls).2 = true ∧ ndEq (rj f t 0 m ls).1 r.tree = true) → X = 0 ∧ Y = 0 ∧ Z = 430) := hid (fun hb => by
  have h1 := HV.out
  unfold rvS at h1
  rw [if_neg (fun hh => hb hh.2)] at h1
  cases h1
  exact ⟨rfl, rfl, rfl⟩)
 have HGOOD : Hid (ls.all vN = true ∧ (rj f t 0 m ls).2 = true ∧ ndEq (rj f t 0 m ls).1 r.tree = true → X = scS (·.c) (parts f t 0 m) ls ∧ Y = scS (·.p) (parts f t 0 m) ls ∧ Z = 0) := hid (fun hb => by
  have h1 := HV.out
  unfold rvS at h1
  rw [if_pos ⟨hk.trans HLN.out.symm, hb⟩] at h1
  cases h1
  exact ⟨rfl, rfl, rfl⟩)
 clear HV
 have HIR := hid (rtC_info hr.out)
 have hb0 := ((Below.refl _ w).alloc (Nat.le_refl _) (.cells (rtC r).toArray 43)).alloc (by simp) (.cells #[.int .i64 (f : Nat), .int .i64 (t : Nat), .slice A n cc] 66)
 have hr0 := (Below.heap_alloc (w.alloc (.cells (rtC r).toArray 43)) (.cells #[.int .i64 (f : Nat), .int .i64 (t : Nat), .slice A n cc] 66) w.heap.size (by simp)).trans (heap_alloc_new w (.cells (rtC r).toArray 43))
 have hr1 := heap_alloc_new (w.alloc (.cells (rtC r).toArray 43)) (.cells #[.int .i64 (f : Nat), .int .i64 (t : Nat), .slice A n cc] 66)
 rw [World.size_alloc] at hr1
 obtain ⟨V0, HV0⟩ : ∃ V, Hid ((w.alloc (.cells (rtC r).toArray 43)).alloc (.cells #[.int .i64 (f : Nat), .int .i64 (t : Nat), .slice A n cc] 66) = V) := ⟨_, hid rfl⟩
 rw [HV0.out] at hb0 hr0 hr1
 have HB0 := hid hb0
 have RR0 := hid hr0
 have RP0 := hid hr1
 have KI0 := hid (h.out.below hb0)
 clear hb0 hr0 hr1
 have cl4 : V0.cell? ⟨w.heap.size, 4, none⟩ = some (.int .i64 (m : Nat)) := by rw [cell_of_row _ _ 4 _ _ _ RR0.out]; rw [← HM.out]; rfl
 have p0 := cell_of_row _ _ 0 _ _ _ RP0.out
 have p1 := cell_of_row _ _ 1 _ _ _ RP0.out
 have p2 := cell_of_row _ _ 2 _ _ _ RP0.out
 go_enter Tryz.func36, Tryz.ntmps36
 go_wp2_with (rw [HV0.out])
 refine (rfits_any _ _ _ _).mono ?_
 rintro e w2 ⟨rfl, rfl⟩
 rw [HF.out]
 go_wp2_with fail
 refine (HPT.out _).mono ?_
 rintro e U1 ⟨A2, n2, c2, rfl, ho, hq⟩
 obtain ⟨A2', n2', c2', e2, hi2⟩ := ho.slice
 cases e2
 have KH0 := hid hi2
 have HNL : Hid (n2 = (parts f t 0 m).length) := hid hi2.len.symm
 clear ho hi2
 clear cl4 p0 p1 p2
 have HB2 := hid (HB0.out.trans (hq.mono HB0.out.size))
 have RR2 := hid (row_kept RR0.out hq)
 have RP2 := hid (row_kept RP0.out hq)
 have KI2 := hid (KI0.out.below hq)
 clear hq HB0 RR0 RP0 KI0
 have cl4 : U1.cell? ⟨w.heap.size, 4, none⟩ = some (.int .i64 (m : Nat)) := by rw [cell_of_row _ _ 4 _ _ _ RR2.out]; rw [← HM.out]; rfl
 have p0 := cell_of_row _ _ 0 _ _ _ RP2.out
 have p1 := cell_of_row _ _ 1 _ _ _ RP2.out
 have p2 := cell_of_row _ _ 2 _ _ _ RP2.out
 have hk2 : n2 = n := by rw [HNL.out]; exact hk
 subst hk2
 have dk : ((n2 : Int) != (n2 : Int)) = false := by simp
 obtain ⟨P, HP⟩ : ∃ P, Hid (parts f t 0 m = P) := ⟨_, hid rfl⟩
 have HJN := hid (rjoin43_any f t hft (by omega) 0 m (by omega) hm4 ls A n2 cc)
 have HJK : Hid ((parts f t 0 m).length ≤ n2) := hid (by omega)
 obtain ⟨a, HA1⟩ : ∃ k, Hid ((rj f t 0 m ls).1 = k) := ⟨_, hid rfl⟩
 obtain ⟨ok, HA2⟩ : ∃ k, Hid ((rj f t 0 m ls).2 = k) := ⟨_, hid rfl⟩
 have HOA : Hid (NdOk a) := hid (by rw [← HA1.out]; exact rj_okN hft 0 m (by omega) ls h.out.ok)
 rw [HA1.out, HA2.out] at HBAD HGOOD
 rw [HP.out] at HGOOD HNL
 have KH1 := KH0
 rw [HP.out] at KH1
 have hnn : n2 ≤ 100000 := hn
 have HPL : Hid (P.length = n2) := hid HNL.out.symm
 clear KH0 hk hft htm hm4
 go_wp2_with fail
 clear cl4 p0 p1 p2
 go_loopw [8, 9, 10] (fun cr pt i wr => ∃ (j : Nat) (sc sp : Int), j ≤ n2 ∧ i = .int .i64 j ∧ cr = .int .i64 sc ∧ pt = .int .i64 sp ∧ Hid (scS (·.c) (P.take j) ls = sc) ∧ Hid (scS (·.p) (P.take j) ls = sp) ∧ Hid ((ls.take j).all vN = true) ∧ Hid (Below U1.heap.size U1 wr)) (fun _ _ i _ => n2 - (intOf i).toNat)
 case atStart => exact ⟨0, 0, 0, by omega, rfl, rfl, rfl, hid rfl, hid rfl, hid rfl, hid (Below.refl _ _)⟩
 case round =>
  obtain ⟨j, sc, sp, hj, rfl, rfl, rfl, HSC, HSP, HVJ, HBW⟩ := hrel
  have HB3 := hid (HB2.out.trans (HBW.out.mono HB2.out.size))
  have RR3 := hid (row_kept RR2.out HBW.out)
  have RP3 := hid (row_kept RP2.out HBW.out)
  have KI3 := hid (KI2.out.below HBW.out)
  have KH3 := hid (KH1.out.below HBW.out)
  have cl4 : wr.cell? ⟨w.heap.size, 4, none⟩ = some (.int .i64 (m : Nat)) := by rw [cell_of_row _ _ 4 _ _ _ RR3.out]; rw [← HM.out]; rfl
  have p0 := cell_of_row _ _ 0 _ _ _ RP3.out
  have p1 := cell_of_row _ _ 1 _ _ _ RP3.out
  have p2 := cell_of_row _ _ 2 _ _ _ RP3.out
  by_cases hlt : j < n2
  ·have d1 : decide ((j : Int) < (n2 : Int)) = true := eQ (by omega)
   have d2 : decide (j < n2) = true := eQ hlt
   obtain ⟨j1, hj1⟩ : ∃ q, q = j + 1 := ⟨_, rfl⟩
   have w4 : IntKind.i64.wrap ((j : Int) + 1) = (j1 : Int) := by rw [IntWalk.i64_in _ (by omega)]; omega
   have hjl : j < ls.length := by rw [HLN.out]; exact hlt
   have hjp : j < P.length := by rw [HPL.out]; exact hlt
   obtain ⟨g, off, rfl, hg, hr1⟩ := KI3.out.rd (by omega)
   obtain ⟨gh, oh, rfl, hgh, hr2⟩ := KH3.out.rd (by omega)
   have hcap := KI3.out.cap
   have hcap2 := KH3.out.cap
   clear hr1 hr2 hg hgh
   obtain ⟨x, HX⟩ : ∃ x, Hid (ls[j] = x) := ⟨_, hid rfl⟩
   obtain ⟨px, HPX⟩ : ∃ x, Hid (P[j] = x) := ⟨_, hid rfl⟩
   have HXO : Hid (NdOk x) := hid (by rw [← HX.out]; exact KI3.out.ok _ (List.getElem_mem hjl))
   have hseg : (ls.take j1).drop j = [x] := by rw [hj1, List.take_add_one, List.getElem?_eq_getElem hjl, HX.out, List.drop_append_of_le_length (by rw [List.length_take]; omega), List.drop_eq_nil_of_le (by rw [List.length_take]; omega)]; rfl
   have HSG : Hid (InN wr (some ⟨g, off + j * 34, none⟩) 1 (cc - j) [x]) := hid (by have h1 := (KI3.out.take j1 (by omega)).drop j (by omega); rw [hseg, show j1 - j = 1 by omega] at h1; exact h1)
   have HSN := hid (scS_snoc (·.c) P ls j hjp hjl)
   have HSM := hid (scS_snoc (·.p) P ls j hjp hjl)
   have HBD := hid (scS_vN (ps := P.take j) HVJ.out (by rw [List.length_take]; omega) (by omega))
   rw [HX.out, HPX.out, HSC.out] at HSN
   rw [HX.out, HPX.out, HSP.out] at HSM
   rw [HSC.out, HSP.out] at HBD
   have HVN : Hid ((ls.take (j + 1)).all vN = vN x) := hid (by rw [List.take_add_one, List.getElem?_eq_getElem hjl, HX.out, List.all_append, HVJ.out]; simp)
   obtain ⟨x0, HX0⟩ : ∃ x0, Hid (rootR [x] = x0) := ⟨_, hid rfl⟩
   have HOX0 : Hid (NdOk x0) := hid (by rw [← HX0.out]; exact rootR_ok (fun y hy => by rw [List.mem_singleton.1 hy]; exact HXO.out))
   have HIX : Hid ((Tryz.prog.info? 39).map (·.size) = some (ndC x0).toArray.size) := hid (by rw [size34 HOX0.out]; simp)
   have HZX : Hid ((#[.int .u8 0, .int .u8 0, .int .u8 0, .int .u8 0, .int .u8 0, .int .u8 0, .int .u8 0, .int .u8 0, .int .u8 0, .int .u8 0, .int .u8 0, .int .u8 0, .int .u8 0, .int .u8 0, .int .u8 0, .int .u8 0, .int .u8 0, .int .u8 0, .int .u8 0, .int .u8 0, .int .u8 0, .int .u8 0, .int .u8 0, .int .u8 0, .int .u8 0, .int .u8 0, .int .u8 0, .int .u8 0, .int .u8 0, .int .u8 0, .int .u8 0, .int .u8 0, .int .i64 0, .int .i64 0] : Array Value).size = (ndC x0).toArray.size) := hid (by simp [ndC_length HOX0.out])
   obtain ⟨e0, HRE⟩ : ∃ e0, Hid (rootE [x] = e0) := ⟨_, hid rfl⟩
   have HOR : Hid ((vN x = false ∧ e0 = 410) ∨ (vN x = true ∧ e0 = 0)) := hid (by have h1 := rootE_one x; rw [HRE.out] at h1; cases hv : vN x <;> rw [hv] at h1 <;> simp at h1 <;> simp [h1])
   go_wp2_with fail
   refine (rRoot_any [x] (some ⟨g, off + j * 34, none⟩) 1 (cc - j) wr (by omega) HSG).mono ?_
   rintro e U4 ⟨rfl, hq⟩
   rw [HX0.out, HRE.out]
   clear cl4 p0 p1 p2
   have HB5 := hid (HB3.out.trans (hq.mono HB3.out.size))
   have RR5 := hid (row_kept RR3.out hq)
   have RP5 := hid (row_kept RP3.out hq)
   have KI5 := hid (KI3.out.below hq)
   have KH5 := hid (KH3.out.below hq)
   have KBW5 := hid (HBW.out.trans (hq.mono HBW.out.size))
   clear hq HB3 RR3 RP3 KI3 KH3 HBW
   obtain ⟨V6, HV6, hw, hb⟩ := lay_row U4 39 #[.int .u8 0, .int .u8 0, .int .u8 0, .int .u8 0, .int .u8 0, .int .u8 0, .int .u8 0, .int .u8 0, .int .u8 0, .int .u8 0, .int .u8 0, .int .u8 0, .int .u8 0, .int .u8 0, .int .u8 0, .int .u8 0, .int .u8 0, .int .u8 0, .int .u8 0, .int .u8 0, .int .u8 0, .int .u8 0, .int .u8 0, .int .u8 0, .int .u8 0, .int .u8 0, .int .u8 0, .int .u8 0, .int .u8 0, .int .u8 0, .int .u8 0, .int .u8 0, .int .i64 0, .int .i64 0] (ndC x0).toArray
   have HB7 := hid (HB5.out.trans (hb.mono HB5.out.size))
   have RR7 := hid (row_kept RR5.out hb)
   have RP7 := hid (row_kept RP5.out hb)
   have KI7 := hid (KI5.out.below hb)
   have KH7 := hid (KH5.out.below hb)
   have KBW7 := hid (KBW5.out.trans (hb.mono KBW5.out.size))
   have RX6 := hid hw
   clear hw hb HB5 RR5 RP5 KI5 KH5 KBW5
   have cl4 : V6.cell? ⟨w.heap.size, 4, none⟩ = some (.int .i64 (m : Nat)) := by rw [cell_of_row _ _ 4 _ _ _ RR7.out]; rw [← HM.out]; rfl
   have p0 := cell_of_row _ _ 0 _ _ _ RP7.out
   have p1 := cell_of_row _ _ 1 _ _ _ RP7.out
   have p2 := cell_of_row _ _ 2 _ _ _ RP7.out
   rcases HOR.out with ⟨hv, rfl⟩ | ⟨hv, rfl⟩
   ·obtain ⟨rfl, rfl, rfl⟩ := HBAD.out (fun hh => by
     have h1 := List.all_eq_true.1 hh.1 ls[j] (List.getElem_mem hjl)
     rw [HX.out, hv] at h1
     cases h1)
    go_wp2_with (refine wpList_store_row rfl 39 (.tmp 11) (.tmp 51) rfl U4.heap.size (ndC x0).toArray rfl rfl 39 _ (heap_alloc_new U4 _) HIX.out HZX.out (ndC_one x0) ?_; rw [HV6.out])
    go_ret3
    exact ⟨rfl, HB7.out⟩
   ·rw [hv] at HVN
    have HBX : Hid (0 ≤ x.c ∧ x.c ≤ 1073741824 ∧ 0 ≤ x.p ∧ x.p ≤ 12884901888) := hid (by simp only [vN, Bool.and_eq_true, decide_eq_true_eq] at hv; omega)
    obtain ⟨g', off', e, hg', hr'⟩ := KI7.out.rd (by omega)
    cases e
    have hrx := range_one hr' KI7.out.ok j hjl
    rw [HX.out] at hrx
    have c32 : V6.cell? ⟨g, off + j * 34 + 32, none⟩ = some (.int .i64 x.c) := hrx 32 _ (ndC_c HXO.out)
    have c33 : V6.cell? ⟨g, off + j * 34 + 33, none⟩ = some (.int .i64 x.p) := hrx 33 _ (ndC_p HXO.out)
    obtain ⟨gh', oh', e, hgh', hrh'⟩ := KH7.out.rd (by omega)
    cases e
    have hrp := range_elem (k := 3) (cells := shP) (fun _ => rfl) hrh' j hjp
    rw [HPX.out] at hrp
    obtain ⟨xl, xh, xi⟩ := px
    have c2 : V6.cell? ⟨gh, oh + j * 3 + 2, none⟩ = some (.bool xi) := hrp 2 _ rfl
    have w5 : IntKind.i64.wrap (sc + x.c) = sc + x.c := IntWalk.i64_in _ (by have := HBD.out; have := HBX.out; omega)
    have w6 : IntKind.i64.wrap (sp + x.p) = sp + x.p := IntWalk.i64_in _ (by have := HBD.out; have := HBX.out; omega)
    clear hrx hr' hrp hrh' hg' hgh'
    cases xi
    ·go_wp2_with (refine wpList_store_row rfl 39 (.tmp 11) (.tmp 51) rfl U4.heap.size (ndC x0).toArray rfl rfl 39 _ (heap_alloc_new U4 _) HIX.out HZX.out (ndC_one x0) ?_; rw [HV6.out])
     go_roundw
     case rel => exact ⟨j + 1, sc, sp, by omega, by go_num, rfl, rfl, hid (HSN.out.trans (by simp)), hid (HSM.out.trans (by simp)), HVN, KBW7⟩
     case measure => simp [intOf]; omega
    ·go_wp2_with (refine wpList_store_row rfl 39 (.tmp 11) (.tmp 51) rfl U4.heap.size (ndC x0).toArray rfl rfl 39 _ (heap_alloc_new U4 _) HIX.out HZX.out (ndC_one x0) ?_; rw [HV6.out])
     go_roundw
     case rel => exact ⟨j + 1, (sc + x.c), (sp + x.p), by omega, by go_num, rfl, rfl, hid (HSN.out.trans (by simp)), hid (HSM.out.trans (by simp)), HVN, KBW7⟩
     case measure => simp [intOf]; omega
  ·have hjn : j = n2 := by omega
   subst hjn
   have d1 : decide ((j : Int) < (j : Int)) = false := dQ (by omega)
   have d1n : decide (j < j) = false := dQ hlt
   have eP : P.take j = P := List.take_of_length_le (by rw [HPL.out]; exact Nat.le_refl _)
   have eL : ls.take j = ls := List.take_of_length_le (by rw [HLN.out]; exact Nat.le_refl _)
   rw [eP] at HSC HSP
   rw [eL] at HVJ
   have HIA : Hid ((Tryz.prog.info? 39).map (·.size) = some (ndC a).toArray.size) := hid (by rw [size34 HOA.out]; simp)
   have HZA : Hid ((#[.int .u8 0, .int .u8 0, .int .u8 0, .int .u8 0, .int .u8 0, .int .u8 0, .int .u8 0, .int .u8 0, .int .u8 0, .int .u8 0, .int .u8 0, .int .u8 0, .int .u8 0, .int .u8 0, .int .u8 0, .int .u8 0, .int .u8 0, .int .u8 0, .int .u8 0, .int .u8 0, .int .u8 0, .int .u8 0, .int .u8 0, .int .u8 0, .int .u8 0, .int .u8 0, .int .u8 0, .int .u8 0, .int .u8 0, .int .u8 0, .int .u8 0, .int .u8 0, .int .i64 0, .int .i64 0] : Array Value).size = (ndC a).toArray.size) := hid (by simp [ndC_length HOA.out])
   have HIM := hid (size34 hr.out.tree)
   clear eP eL
   go_wp2_with fail
   refine (HJN.out _ hn KI3 HJK.out).mono ?_
   rintro e U4 ⟨rfl, hq⟩
   rw [HA1.out, HA2.out]
   clear cl4 p0 p1 p2
   have HB5 := hid (HB3.out.trans (hq.mono HB3.out.size))
   have RR5 := hid (row_kept RR3.out hq)
   have RP5 := hid (row_kept RP3.out hq)
   have KI5 := hid (KI3.out.below hq)
   have KH5 := hid (KH3.out.below hq)
   have KBW5 := hid (HBW.out.trans (hq.mono HBW.out.size))
   clear hq HB3 RR3 RP3 KI3 KH3 HBW
   obtain ⟨V6, HV6, hw, hb⟩ := lay_row U4 39 #[.int .u8 0, .int .u8 0, .int .u8 0, .int .u8 0, .int .u8 0, .int .u8 0, .int .u8 0, .int .u8 0, .int .u8 0, .int .u8 0, .int .u8 0, .int .u8 0, .int .u8 0, .int .u8 0, .int .u8 0, .int .u8 0, .int .u8 0, .int .u8 0, .int .u8 0, .int .u8 0, .int .u8 0, .int .u8 0, .int .u8 0, .int .u8 0, .int .u8 0, .int .u8 0, .int .u8 0, .int .u8 0, .int .u8 0, .int .u8 0, .int .u8 0, .int .u8 0, .int .i64 0, .int .i64 0] (ndC a).toArray
   have HB7 := hid (HB5.out.trans (hb.mono HB5.out.size))
   have RR7 := hid (row_kept RR5.out hb)
   have RP7 := hid (row_kept RP5.out hb)
   have KI7 := hid (KI5.out.below hb)
   have KH7 := hid (KH5.out.below hb)
   have KBW7 := hid (KBW5.out.trans (hb.mono KBW5.out.size))
   have RA6 := hid hw
   clear hw hb HB5 RR5 RP5 KI5 KH5 KBW5
   cases ok
   ·obtain ⟨rfl, rfl, rfl⟩ := HBAD.out (fun hh => by cases hh.2.1)
    go_wp2_with (refine wpList_store_row rfl 39 (.tmp 13) (.tmp 86) rfl U4.heap.size (ndC a).toArray rfl rfl 39 _ (heap_alloc_new U4 _) HIA.out HZA.out (ndC_one a) ?_; rw [HV6.out])
    go_ret3
    exact ⟨rfl, HB7.out⟩
   ·have HTR := hid (rt_tree RR7.out)
    obtain ⟨q, HQ⟩ : ∃ q, Hid (ndEq a r.tree = q) := ⟨_, hid rfl⟩
    rw [HQ.out] at HBAD HGOOD
    cases q
    ·obtain ⟨rfl, rfl, rfl⟩ := HBAD.out (fun hh => by cases hh.2.2)
     go_wp2_with (first | (refine wpList_store_row rfl 39 (.tmp 13) (.tmp 86) rfl U4.heap.size (ndC a).toArray rfl rfl 39 _ (heap_alloc_new U4 _) HIA.out HZA.out (ndC_one a) ?_; rw [HV6.out]) | (with_reducible refine wpList_here ?_; refine wpList_load_row_g 39 (.tmp 13) rfl rfl (U4.heap.size) rfl 39 _ (0, 0) _ RA6.out Tryz.underlying39 rfl HIA.out ?_; rw [show Value.agg (ndC a).toArray = ndV a from rfl]) | (with_reducible refine wpList_here ?_; refine wpList_load_mid_g 39 (.tmp 93) rfl rfl w.heap.size 6 rfl (ndC r.tree) _ HTR.out Tryz.underlying39 rfl HIM.out ?_; rw [show Value.agg (ndC r.tree).toArray = ndV r.tree from rfl]) | (with_reducible refine wpList_here ?_; refine wpList_neq_nd_g (.tmp 92) (.tmp 94) _ rfl rfl a r.tree rfl rfl HOA.out hr.out.tree ?_; rw [HQ.out]))
     go_ret3
     exact ⟨rfl, HB7.out⟩
    ·have hgd := HGOOD.out ⟨HVJ.out, rfl, rfl⟩
     rw [HSC.out, HSP.out] at hgd
     obtain ⟨g1, g2, g3⟩ := hgd
     subst g1 g2 g3
     go_wp2_with (first | (refine wpList_store_row rfl 39 (.tmp 13) (.tmp 86) rfl U4.heap.size (ndC a).toArray rfl rfl 39 _ (heap_alloc_new U4 _) HIA.out HZA.out (ndC_one a) ?_; rw [HV6.out]) | (with_reducible refine wpList_here ?_; refine wpList_load_row_g 39 (.tmp 13) rfl rfl (U4.heap.size) rfl 39 _ (0, 0) _ RA6.out Tryz.underlying39 rfl HIA.out ?_; rw [show Value.agg (ndC a).toArray = ndV a from rfl]) | (with_reducible refine wpList_here ?_; refine wpList_load_mid_g 39 (.tmp 93) rfl rfl w.heap.size 6 rfl (ndC r.tree) _ HTR.out Tryz.underlying39 rfl HIM.out ?_; rw [show Value.agg (ndC r.tree).toArray = ndV r.tree from rfl]) | (with_reducible refine wpList_here ?_; refine wpList_neq_nd_g (.tmp 92) (.tmp 94) _ rfl rfl a r.tree rfl rfl HOA.out hr.out.tree ?_; rw [HQ.out]))
     go_ret3
     exact ⟨rfl, HB7.out⟩
theorem rverify43 (r : Rt) (f t : Int) (A : Option Addr) (n cc : Nat) (ls : List Nd) (w : World) (hr : Hid (RtOk r)) (h : Hid (InN w A n cc ls)) (hn : n ≤ 100000) :
  Calls Tryz.prog 36 #[.agg (rtC r).toArray, .agg #[.int .i64 f, .int .i64 t, .slice A n cc]] w fun e w' => e = .returned (.tuple #[.int .i64 (vfS r.lin r.tree f t ls).1, .int .i64 (vfS r.lin r.tree f t ls).2.1, .int .i64 (vfS r.lin r.tree f t ls).2.2]) ∧ Below w.heap.size w w' := by
 cases hf : ftB f t r.lin with
 | false =>
  rw [show vfS r.lin r.tree f t ls = (0, 0, 430) by unfold vfS; rw [hf]; rfl]
  exact rver43_no1 r f t A n cc ls w hr h (hid hf)
 | true =>
  obtain ⟨h0, h1, h2, h3⟩ := ftB_iff hf
  obtain ⟨f', rfl⟩ : ∃ k : Nat, f = (k : Int) := ⟨f.toNat, by omega⟩
  obtain ⟨t', rfl⟩ : ∃ k : Nat, t = (k : Int) := ⟨t.toNat, by omega⟩
  obtain ⟨m, hm⟩ : ∃ k : Nat, r.lin = (k : Int) := ⟨r.lin.toNat, by omega⟩
  have e0 := rvS_vfS (f := f') (t := t') (m := m) (by omega) (by omega) (by omega) r.tree ls
  rw [← hm] at e0
  rw [← e0]
  by_cases hk : (parts f' t' 0 m).length = n
  ·obtain ⟨⟨X, Y, Z⟩, hv⟩ : ∃ q, rvS f' t' m r.tree ls = q := ⟨_, rfl⟩
   rw [hv]
   exact rver43_main r f' t' m A n cc ls w hr (hid hm) (by omega) (by omega) (by omega) h hn hk X Y Z (hid hv)
  ·rw [show rvS f' t' m r.tree ls = (0, 0, 430) from if_neg (fun hh => hk (hh.1.trans h.out.len))]
   exact rver43_no2 r f' t' m A n cc ls w hr (hid hm) (by omega) (by omega) (by omega) h hn hk
theorem rsize05 (n : Nat) (w : World) (hn : n ≤ 9223372036854775807) : Calls Tryz.prog 132 #[.int .i64 (n : Nat)] w fun e w' => e = .returned (.int .u64 (n : Nat)) ∧ w = w' := by
 have d0 : decide ((n : Int) < 0) = false := dQ (by omega)
 have e1 : IntKind.u64.wrap (n : Int) = (n : Int) := by rw [IntKind.wrap_u64]; omega
 go_enter Tryz.func132, Tryz.ntmps132
 go_wp2_with fail
 go_ret
 exact ⟨rfl, rfl⟩
def wCo05 (a : Nat) (b : Nat) (q : Nat) : Nat → Value → World → Prop
 | 0, fv, _ => fv = .int .u64 (b : Nat)
 | 1, fv, _ => fv = .int .u64 (a : Nat)
 | 2, fv, _ => fv = .int .u64 (b : Nat)
 | 3, fv, _ => fv = .int .u64 (q : Nat)
 | 4, fv, _ => fv = .int .u64 (b : Nat)
 | 5, fv, _ => fv = .int .u64 (q : Nat)
 | _, _, _ => True
def cCo05 (wr : World) (a b : Nat) (L : Nat → Bool) (fx : Nat → Value) (w' : World) : Prop := Below wr.heap.size wr w' ∧ (L 4 = false → fx 4 = .int .u64 (a : Nat)) ∧ (L 5 = false → fx 5 = .int .u64 (b : Nat))
theorem rcommon05 (n d : Nat) (w : World) (hn : n ≤ 9223372036854775807) (hd : d ≤ 9223372036854775807) : Calls Tryz.prog 131 #[.int .u64 (n : Nat), .int .u64 (d : Nat)] w fun e w' => e = .returned (.int .u64 (Nat.gcd d n : Nat)) ∧ Below w.heap.size w w' := by
 obtain ⟨gg, HG⟩ : ∃ k, Hid (Nat.gcd d n = k) := ⟨_, hid rfl⟩
 rw [HG.out]
 go_enter Tryz.func131, Tryz.ntmps131
 go_wp2_with fail
 go_loopw [0, 1] (fun x y wr => ∃ a b : Nat, x = .int .u64 (a : Nat) ∧ y = .int .u64 (b : Nat) ∧ a ≤ 9223372036854775807 ∧ b ≤ 9223372036854775807 ∧ Hid (Nat.gcd b a = gg) ∧ Hid (Below w.heap.size w wr)) (fun _ y _ => (intOf y).toNat)
 case atStart => exact ⟨n, d, rfl, rfl, hn, hd, HG, hid (Below.refl _ _)⟩
 case round =>
  obtain ⟨a, b, rfl, rfl, ha, hb, HGG, HB⟩ := hrel
  clear HG hn hd
  by_cases h0 : 0 < b
  ·have d0 : decide ((0 : Int) < (b : Int)) = true := eQ (by omega)
   have d0n : decide (0 < b) = true := eQ h0
   have hm : a % b < b := Nat.mod_lt _ h0
   obtain ⟨q, HQ⟩ : ∃ q, Hid (a % b = q) := ⟨_, hid rfl⟩
   rw [HQ.out] at hm
   have HGQ : Hid (Nat.gcd q b = gg) := hid (by rw [← HQ.out, ← Nat.gcd_rec]; exact HGG.out)
   have HW0 : Hid (((b : Int) == 0) = false ∧ decide ((b : Int) = 0) = false ∧ IntKind.u64.wrap (Int.tmod (a : Int) (b : Int)) = ((q : Nat) : Int) ∧ IntKind.u64.wrap ((a : Int) % (b : Int)) = ((q : Nat) : Int) ∧ ((a : Int) % (b : Int)) = ((q : Nat) : Int)) := hid (by
    refine ⟨by simp; omega, dQ (by omega), ?_, ?_, ?_⟩
    ·rw [IntKind.wrap_u64, ← Int.ofNat_tmod, HQ.out]; omega
    ·rw [IntKind.wrap_u64, ← Int.natCast_emod, HQ.out]; omega
    ·rw [← Int.natCast_emod, HQ.out])
   go_wp2_with fail
   refine region_flow4 (by kernel_rfl) (by kernel_rfl) (fun i => Nat.beq i 4 || Nat.beq i 5) (fun i => i) (by kernel_rfl) (fun fx => #[fx 4, fx 5, undef, undef, .int IntKind.u64 0, .int IntKind.u64 ↑b, .bool true, fx 0, fx 1, fx 2, fx 3, undef]) (fun i => bif Nat.beq i 0 then u7 else bif Nat.beq i 1 then u8 else bif Nat.beq i 2 then u9 else bif Nat.beq i 3 then u10 else bif Nat.beq i 4 then Value.int IntKind.u64 ↑a else bif Nat.beq i 5 then Value.int IntKind.u64 ↑b else undef) (fun L fx w' => cCo05 wr a b L fx w') (fun fi fv _ fw => wCo05 a b q fi fv fw) ⟨(Below.refl _ _).drew, (fun _ => rfl), fun _ => rfl⟩ ?_ ?_
   ·refine ⟨?_, ?_, ?_, ?_, ?_, ?_, trivial⟩
    all_goals intro L fx w' hC hi hcl hdn hd
    ·have hl5 : L 5 = false := nQ hi (fun h => hcl 5 0 h (by kernel_rfl))
     have hv := hC.2.2 hl5
     clear hd
     go_wp2_with fail
     exact ⟨_, by simp only [upd, hv]; rfl, hC, by first | rfl | exact hv, kP⟩
    ·have hl4 : L 4 = false := nQ hi (fun h => hcl 4 1 h (by kernel_rfl))
     have hv := hC.2.1 hl4
     clear hd
     go_wp2_with fail
     exact ⟨_, by simp only [upd, hv]; rfl, hC, by first | rfl | exact hv, kP⟩
    ·have hl5 : L 5 = false := nQ hi (fun h => hcl 5 2 h (by kernel_rfl))
     have hv := hC.2.2 hl5
     clear hd
     go_wp2_with fail
     exact ⟨_, by simp only [upd, hv]; rfl, hC, by first | rfl | exact hv, kP⟩
    ·have h1 : fx 1 = .int .u64 (a : Nat) := hd.1 rfl
     have h2 : fx 2 = .int .u64 (b : Nat) := hd.2.1 rfl
     obtain ⟨z1, z2, z3, z4, z5⟩ := HW0.out
     clear hd
     go_wp2_with fail
     exact ⟨_, by simp only [upd, h1, h2]; rfl, hC, (by first | rfl | (rw [z5]) | (rw [z3]) | (rw [z4])), kP⟩
    ·have h0 : fx 0 = .int .u64 (b : Nat) := hd.1 rfl
     clear hd
     go_wp2_with fail
     exact ⟨_, by simp only [upd, h0]; rfl, ⟨hC.1, (fun h => by rw [updB_same] at h; cases h), hC.2.2⟩, rfl, kP⟩
    ·have h3 : fx 3 = .int .u64 (q : Nat) := hd.1 rfl
     clear hd
     go_wp2_with fail
     exact ⟨_, by simp only [upd, h3]; rfl, ⟨hC.1, hC.2.1, fun h => by rw [updB_same] at h; cases h⟩, rfl, kP⟩
   ·intro L fo w' hC hS
    have H4 := hid (hS 4 (by decide) rfl)
    have H5 := hid (hS 5 (by decide) rfl)
    have h4 : fo 4 = .int .u64 (b : Nat) := H4.out
    have h5 : fo 5 = .int .u64 (q : Nat) := H5.out
    rw [h4, h5]
    have HB5 := hid (HB.out.trans (hC.1.mono HB.out.size))
    clear hS hC h4 H4 h5 H5
    go_wp2_with fail
    go_roundw
    case rel => exact ⟨b, q, rfl, rfl, hb, by omega, HGQ, HB5⟩
    case measure => simp [intOf]; omega
  ·have hb0 : b = 0 := by omega
   subst hb0
   have hag : a = gg := by have := HGG.out; rwa [Nat.gcd_zero_left] at this
   subst hag
   go_wp2_with fail
   go_ret
   exact ⟨rfl, HB.out⟩
theorem rnew05_yes (n d q r : Nat) (w : World) (hn : n ≤ 9223372036854775807) (hd2 : d ≤ 9223372036854775807) (h0 : 0 < d) (hq : Hid (n / Nat.gcd d n = q)) (hr : Hid (d / Nat.gcd d n = r)) (k0 : q ≤ 1073741824) (k1 : r ≤ 1073741824) :
  Calls Tryz.prog 88 #[.int .i64 (n : Nat), .int .i64 (d : Nat)] w fun e w' => e = .returned (.tuple #[.agg #[(.int .i64 (q : Nat)), (.int .i64 (r : Nat))], .int .i64 0]) ∧ Below w.heap.size w w' := by
 have t0 : decide (1073741824 < (q : Int)) = false := dQ (by omega)
 have t0n : decide (1073741824 < q) = false := dQ (by omega)
 have t1 : decide (1073741824 < (r : Int)) = false := dQ (by omega)
 have t1n : decide (1073741824 < r) = false := dQ (by omega)
 obtain ⟨g, HG⟩ : ∃ g, Hid (Nat.gcd d n = g) := ⟨_, hid rfl⟩
 rw [HG.out] at hq hr
 have hg0 : 0 < g := by rw [← HG.out]; exact Nat.gcd_pos_of_pos_left _ h0
 have dz : decide ((d : Int) = 0) = false := dQ (by omega)
 have dz2 : ((d : Int) == 0) = false := by simp; omega
 have dg : ((g : Int) == 0) = false := by simp; omega
 have dg2 : decide ((g : Int) = 0) = false := dQ (by omega)
 have hqn : q ≤ n := by rw [← hq.out]; exact Nat.div_le_self _ _
 have hrd : r ≤ d := by rw [← hr.out]; exact Nat.div_le_self _ _
 have e1 : IntKind.u64.wrap ((n : Int) / (g : Int)) = ((q : Nat) : Int) := by rw [IntKind.wrap_u64, ← Int.natCast_ediv, hq.out]; omega
 have e2 : IntKind.u64.wrap ((d : Int) / (g : Int)) = ((r : Nat) : Int) := by rw [IntKind.wrap_u64, ← Int.natCast_ediv, hr.out]; omega
 have dn0 : decide ((n : Int) < 0) = false := dQ (by omega)
 have dd0 : decide ((d : Int) < 0) = false := dQ (by omega)
 have v0 : IntKind.i64.wrap (q : Int) = (q : Int) := IntWalk.i64_in _ (by omega)
 have v1 : IntKind.i64.wrap (r : Int) = (r : Int) := IntWalk.i64_in _ (by omega)
 obtain ⟨W1, HW1⟩ : ∃ V, Hid (w.alloc (.cells #[.int .i64 0, .int .i64 0] 74) = V) := ⟨_, hid rfl⟩
 have hb := (Below.refl _ w).alloc (Nat.le_refl _) (.cells #[.int .i64 0, .int .i64 0] 74)
 have hw := heap_alloc_new w (.cells #[.int .i64 0, .int .i64 0] 74)
 rw [HW1.out] at hb hw
 have HR := hid hw
 have HBW := hid hb
 clear hb hw
 go_enter Tryz.func88, Tryz.ntmps88
 go_wp2_with (rw [HW1.out])
 refine (rsize05 n _ hn).mono ?_
 rintro e w1 ⟨rfl, rfl⟩
 go_wp2_with fail
 refine (rsize05 d _ hd2).mono ?_
 rintro e w1 ⟨rfl, rfl⟩
 go_wp2_with fail
 refine (rcommon05 n d _ hn hd2).mono ?_
 rintro e w1 ⟨rfl, hb1⟩
 rw [HG.out]
 have HR2 := hid (row_kept HR.out hb1)
 have HBV := hid (HBW.out.trans (hb1.mono HBW.out.size))
 clear hb1 HR HBW
 go_wp2_with fail
 refine (rsize05 n _ hn).mono ?_
 rintro e w2 ⟨rfl, rfl⟩
 go_wp2_with fail
 refine (rsize05 d _ hd2).mono ?_
 rintro e w2 ⟨rfl, rfl⟩
 have c0 := cell_of_row _ _ 0 _ _ _ HR2.out
 have c1 := cell_of_row _ _ 1 _ _ _ HR2.out
 have f0 := frozen_of_row _ _ 0 _ _ HR2.out
 have f1 := frozen_of_row _ _ 1 _ _ HR2.out
 go_wp2_with fail
 have hs := row2_set (x := (.int .i64 (q : Nat))) (y := (.int .i64 (r : Nat))) HR2.out
 have hl := run_loadVar_row (P := Tryz.prog) _ w.heap.size 74 74 #[(.int .i64 (q : Nat)), (.int .i64 (r : Nat))] (0, 0) _ hs Tryz.underlying74 rfl (by show _ = some 2; kernel_rfl)
 refine bodyPost_ret (v := .tuple #[.agg #[(.int .i64 (q : Nat)), (.int .i64 (r : Nat))], .int .i64 0]) ?_ rfl ⟨rfl, ((HBV.out.setCell (Nat.le_refl _) _).setCell (Nat.le_refl _) _)⟩
 simp [results, Tryz.results88, asAddr, hl]
theorem rnew05_no1 (n d q r : Nat) (w : World) (hn : n ≤ 9223372036854775807) (hd2 : d ≤ 9223372036854775807) (h0 : 0 < d) (hq : Hid (n / Nat.gcd d n = q)) (hr : Hid (d / Nat.gcd d n = r)) (k0 : 1073741824 < q) :
  Calls Tryz.prog 88 #[.int .i64 (n : Nat), .int .i64 (d : Nat)] w fun e w' => e = .returned (.tuple #[.agg #[(.int .i64 0), (.int .i64 0)], .int .i64 2]) ∧ Below w.heap.size w w' := by
 have t0 : decide (1073741824 < (q : Int)) = true := eQ (by omega)
 have t0n : decide (1073741824 < q) = true := eQ (by omega)
 obtain ⟨g, HG⟩ : ∃ g, Hid (Nat.gcd d n = g) := ⟨_, hid rfl⟩
 rw [HG.out] at hq hr
 have hg0 : 0 < g := by rw [← HG.out]; exact Nat.gcd_pos_of_pos_left _ h0
 have dz : decide ((d : Int) = 0) = false := dQ (by omega)
 have dz2 : ((d : Int) == 0) = false := by simp; omega
 have dg : ((g : Int) == 0) = false := by simp; omega
 have dg2 : decide ((g : Int) = 0) = false := dQ (by omega)
 have hqn : q ≤ n := by rw [← hq.out]; exact Nat.div_le_self _ _
 have hrd : r ≤ d := by rw [← hr.out]; exact Nat.div_le_self _ _
 have e1 : IntKind.u64.wrap ((n : Int) / (g : Int)) = ((q : Nat) : Int) := by rw [IntKind.wrap_u64, ← Int.natCast_ediv, hq.out]; omega
 have e2 : IntKind.u64.wrap ((d : Int) / (g : Int)) = ((r : Nat) : Int) := by rw [IntKind.wrap_u64, ← Int.natCast_ediv, hr.out]; omega
 have dn0 : decide ((n : Int) < 0) = false := dQ (by omega)
 have dd0 : decide ((d : Int) < 0) = false := dQ (by omega)
 obtain ⟨W1, HW1⟩ : ∃ V, Hid (w.alloc (.cells #[.int .i64 0, .int .i64 0] 74) = V) := ⟨_, hid rfl⟩
 have hb := (Below.refl _ w).alloc (Nat.le_refl _) (.cells #[.int .i64 0, .int .i64 0] 74)
 have hw := heap_alloc_new w (.cells #[.int .i64 0, .int .i64 0] 74)
 rw [HW1.out] at hb hw
 have HR := hid hw
 have HBW := hid hb
 clear hb hw
 go_enter Tryz.func88, Tryz.ntmps88
 go_wp2_with (rw [HW1.out])
 refine (rsize05 n _ hn).mono ?_
 rintro e w1 ⟨rfl, rfl⟩
 go_wp2_with fail
 refine (rsize05 d _ hd2).mono ?_
 rintro e w1 ⟨rfl, rfl⟩
 go_wp2_with fail
 refine (rcommon05 n d _ hn hd2).mono ?_
 rintro e w1 ⟨rfl, hb1⟩
 rw [HG.out]
 have HR2 := hid (row_kept HR.out hb1)
 have HBV := hid (HBW.out.trans (hb1.mono HBW.out.size))
 clear hb1 HR HBW
 go_wp2_with fail
 refine (rsize05 n _ hn).mono ?_
 rintro e w2 ⟨rfl, rfl⟩
 go_wp2_with fail
 refine (rsize05 d _ hd2).mono ?_
 rintro e w2 ⟨rfl, rfl⟩
 have c0 := cell_of_row _ _ 0 _ _ _ HR2.out
 have c1 := cell_of_row _ _ 1 _ _ _ HR2.out
 have f0 := frozen_of_row _ _ 0 _ _ HR2.out
 have f1 := frozen_of_row _ _ 1 _ _ HR2.out
 go_wp2_with fail
 have hs := row2_set (x := (.int .i64 0)) (y := (.int .i64 0)) HR2.out
 have hl := run_loadVar_row (P := Tryz.prog) _ w.heap.size 74 74 #[(.int .i64 0), (.int .i64 0)] (0, 0) _ hs Tryz.underlying74 rfl (by show _ = some 2; kernel_rfl)
 refine bodyPost_ret (v := .tuple #[.agg #[(.int .i64 0), (.int .i64 0)], .int .i64 2]) ?_ rfl ⟨rfl, ((HBV.out.setCell (Nat.le_refl _) _).setCell (Nat.le_refl _) _)⟩
 simp [results, Tryz.results88, asAddr, hl]
theorem rnew05_no2 (n d q r : Nat) (w : World) (hn : n ≤ 9223372036854775807) (hd2 : d ≤ 9223372036854775807) (h0 : 0 < d) (hq : Hid (n / Nat.gcd d n = q)) (hr : Hid (d / Nat.gcd d n = r)) (k0 : q ≤ 1073741824) (k1 : 1073741824 < r) :
  Calls Tryz.prog 88 #[.int .i64 (n : Nat), .int .i64 (d : Nat)] w fun e w' => e = .returned (.tuple #[.agg #[(.int .i64 0), (.int .i64 0)], .int .i64 2]) ∧ Below w.heap.size w w' := by
 have t0 : decide (1073741824 < (q : Int)) = false := dQ (by omega)
 have t0n : decide (1073741824 < q) = false := dQ (by omega)
 have t1 : decide (1073741824 < (r : Int)) = true := eQ (by omega)
 have t1n : decide (1073741824 < r) = true := eQ (by omega)
 obtain ⟨g, HG⟩ : ∃ g, Hid (Nat.gcd d n = g) := ⟨_, hid rfl⟩
 rw [HG.out] at hq hr
 have hg0 : 0 < g := by rw [← HG.out]; exact Nat.gcd_pos_of_pos_left _ h0
 have dz : decide ((d : Int) = 0) = false := dQ (by omega)
 have dz2 : ((d : Int) == 0) = false := by simp; omega
 have dg : ((g : Int) == 0) = false := by simp; omega
 have dg2 : decide ((g : Int) = 0) = false := dQ (by omega)
 have hqn : q ≤ n := by rw [← hq.out]; exact Nat.div_le_self _ _
 have hrd : r ≤ d := by rw [← hr.out]; exact Nat.div_le_self _ _
 have e1 : IntKind.u64.wrap ((n : Int) / (g : Int)) = ((q : Nat) : Int) := by rw [IntKind.wrap_u64, ← Int.natCast_ediv, hq.out]; omega
 have e2 : IntKind.u64.wrap ((d : Int) / (g : Int)) = ((r : Nat) : Int) := by rw [IntKind.wrap_u64, ← Int.natCast_ediv, hr.out]; omega
 have dn0 : decide ((n : Int) < 0) = false := dQ (by omega)
 have dd0 : decide ((d : Int) < 0) = false := dQ (by omega)
 obtain ⟨W1, HW1⟩ : ∃ V, Hid (w.alloc (.cells #[.int .i64 0, .int .i64 0] 74) = V) := ⟨_, hid rfl⟩
 have hb := (Below.refl _ w).alloc (Nat.le_refl _) (.cells #[.int .i64 0, .int .i64 0] 74)
 have hw := heap_alloc_new w (.cells #[.int .i64 0, .int .i64 0] 74)
 rw [HW1.out] at hb hw
 have HR := hid hw
 have HBW := hid hb
 clear hb hw
 go_enter Tryz.func88, Tryz.ntmps88
 go_wp2_with (rw [HW1.out])
 refine (rsize05 n _ hn).mono ?_
 rintro e w1 ⟨rfl, rfl⟩
 go_wp2_with fail
 refine (rsize05 d _ hd2).mono ?_
 rintro e w1 ⟨rfl, rfl⟩
 go_wp2_with fail
 refine (rcommon05 n d _ hn hd2).mono ?_
 rintro e w1 ⟨rfl, hb1⟩
 rw [HG.out]
 have HR2 := hid (row_kept HR.out hb1)
 have HBV := hid (HBW.out.trans (hb1.mono HBW.out.size))
 clear hb1 HR HBW
 go_wp2_with fail
 refine (rsize05 n _ hn).mono ?_
 rintro e w2 ⟨rfl, rfl⟩
 go_wp2_with fail
 refine (rsize05 d _ hd2).mono ?_
 rintro e w2 ⟨rfl, rfl⟩
 have c0 := cell_of_row _ _ 0 _ _ _ HR2.out
 have c1 := cell_of_row _ _ 1 _ _ _ HR2.out
 have f0 := frozen_of_row _ _ 0 _ _ HR2.out
 have f1 := frozen_of_row _ _ 1 _ _ HR2.out
 go_wp2_with fail
 have hs := row2_set (x := (.int .i64 0)) (y := (.int .i64 0)) HR2.out
 have hl := run_loadVar_row (P := Tryz.prog) _ w.heap.size 74 74 #[(.int .i64 0), (.int .i64 0)] (0, 0) _ hs Tryz.underlying74 rfl (by show _ = some 2; kernel_rfl)
 refine bodyPost_ret (v := .tuple #[.agg #[(.int .i64 0), (.int .i64 0)], .int .i64 2]) ?_ rfl ⟨rfl, ((HBV.out.setCell (Nat.le_refl _) _).setCell (Nat.le_refl _) _)⟩
 simp [results, Tryz.results88, asAddr, hl]
theorem rnew05 (n d : Nat) (w : World) (hn : n ≤ 9223372036854775807) (hd2 : d ≤ 9223372036854775807) (h0 : 0 < d) :
  Calls Tryz.prog 88 #[.int .i64 (n : Nat), .int .i64 (d : Nat)] w fun e w' => e = .returned (.tuple #[.agg #[.int .i64 (ratR n d).1, .int .i64 (ratR n d).2.1], .int .i64 (ratR n d).2.2]) ∧ Below w.heap.size w w' := by
 unfold ratR
 by_cases k0 : n / Nat.gcd d n ≤ 1073741824
 ·by_cases k1 : d / Nat.gcd d n ≤ 1073741824
  ·rw [if_pos ⟨k0, k1⟩]
   exact rnew05_yes n d _ _ w hn hd2 h0 (hid rfl) (hid rfl) k0 k1
  ·rw [if_neg (fun h => k1 h.2)]
   exact rnew05_no2 n d _ _ w hn hd2 h0 (hid rfl) (hid rfl) k0 (by omega)
 ·rw [if_neg (fun h => k0 h.1)]
  exact rnew05_no1 n d _ _ w hn hd2 h0 (hid rfl) (hid rfl) (by omega)
theorem rmean_no (r : Rt) (f t : Int) (A : Option Addr) (n cc : Nat) (ls : List Nd) (w : World) (hr : Hid (RtOk r)) (hin : Hid (InN w A n cc ls)) (hl : ls.length ≤ 100000) (z : Int) (hz : z ≠ 0) (HV : Hid (vfS r.lin r.tree f t ls = (0, 0, z))) :
  Calls Tryz.prog 38 #[.agg (rtC r).toArray, .agg #[.int .i64 f, .int .i64 t, .slice A n cc]] w fun e w' => e = .returned (.tuple #[.agg #[.int .i64 0, .int .i64 0], .int .i64 z]) ∧ Below w.heap.size w w' := by
 have HRI := hid (rtC_info hr.out)
 obtain ⟨W1, HW1⟩ : ∃ V, Hid (((w.alloc (.cells (rtC r).toArray 43)).alloc (.cells #[.int .i64 f, .int .i64 t, .slice A n cc] 66)).alloc (.cells #[.int .i64 0, .int .i64 0] 74) = V) := ⟨_, hid rfl⟩
 have hb := (((Below.refl _ w).alloc (Nat.le_refl _) (.cells (rtC r).toArray 43)).alloc (by simp) (.cells #[.int .i64 f, .int .i64 t, .slice A n cc] 66)).alloc (by simp; omega) (.cells #[.int .i64 0, .int .i64 0] 74)
 have b1 := ((Below.refl _ (w.alloc (.cells (rtC r).toArray 43))).alloc (Nat.le_refl _) (.cells #[.int .i64 f, .int .i64 t, .slice A n cc] 66)).alloc (by simp) (.cells #[.int .i64 0, .int .i64 0] 74)
 have b2 := (Below.refl _ ((w.alloc (.cells (rtC r).toArray 43)).alloc (.cells #[.int .i64 f, .int .i64 t, .slice A n cc] 66))).alloc (Nat.le_refl _) (.cells #[.int .i64 0, .int .i64 0] 74)
 have r0 := row_kept (heap_alloc_new w (.cells (rtC r).toArray 43)) b1
 have r1 := row_kept (heap_alloc_new (w.alloc (.cells (rtC r).toArray 43)) (.cells #[.int .i64 f, .int .i64 t, .slice A n cc] 66)) b2
 have r2 := heap_alloc_new ((w.alloc (.cells (rtC r).toArray 43)).alloc (.cells #[.int .i64 f, .int .i64 t, .slice A n cc] 66)) (.cells #[.int .i64 0, .int .i64 0] 74)
 rw [World.size_alloc] at r1 r2
 rw [World.size_alloc] at r2
 rw [HW1.out] at hb r0 r1 r2
 have KI0 := hid (hin.out.below hb)
 have HB0 := hid hb
 have RR0 := hid r0
 have RP0 := hid r1
 have RZ0 := hid r2
 have p0 := cell_of_row _ _ 0 _ _ _ r1
 have p1 := cell_of_row _ _ 1 _ _ _ r1
 have p2 := cell_of_row _ _ 2 _ _ _ r1
 clear hb b1 b2 r0 r1 r2
 have dz : (z != 0) = true := by simp [hz]
 have dz2 : (z == 0) = false := by simp [hz]
 go_enter Tryz.func38, Tryz.ntmps38
 go_wp2_with (first | (rw [HW1.out]) | (refine wpList_load_row rfl 43 (.tmp 2) rfl (w.heap.size) rfl 43 _ (0, 0) _ RR0.out Tryz.underlying43 rfl HRI.out ?_))
 refine (rverify43 r f t _ _ _ ls _ hr KI0 (by rw [← hin.out.len]; exact hl)).mono ?_
 rintro e U1 ⟨rfl, hq⟩
 rw [HV.out]
 clear p0 p1 p2
 have HB2 := hid (HB0.out.trans (hq.mono HB0.out.size))
 have RR2 := hid (row_kept RR0.out hq)
 have RZ2 := hid (row_kept RZ0.out hq)
 have KI2 := hid (KI0.out.below hq)
 clear hq HB0 RR0 RZ0 KI0
 have c0 := cell_of_row _ _ 0 _ _ _ RZ2.out
 have c1 := cell_of_row _ _ 1 _ _ _ RZ2.out
 have f0 := frozen_of_row _ _ 0 _ _ RZ2.out
 have f1 := frozen_of_row _ _ 1 _ _ RZ2.out
 go_wp2_with fail
 have hs := row2_set (x := .int .i64 0) (y := .int .i64 0) RZ2.out
 have hl2 := run_loadVar_row (P := Tryz.prog) _ (w.heap.size + 1 + 1) 74 74 #[.int .i64 0, .int .i64 0] (0, 0) _ hs Tryz.underlying74 rfl (by show _ = some 2; kernel_rfl)
 refine bodyPost_ret (v := .tuple #[.agg #[.int .i64 0, .int .i64 0], .int .i64 z]) ?_ rfl ⟨rfl, (HB2.out.setCell (by show w.heap.size ≤ w.heap.size + 1 + 1; omega) _).setCell (by show w.heap.size ≤ w.heap.size + 1 + 1; omega) _⟩
 simp [results, Tryz.results38, asAddr, hl2]
theorem rmean_zero (r : Rt) (f t : Int) (A : Option Addr) (n cc : Nat) (ls : List Nd) (w : World) (hr : Hid (RtOk r)) (hin : Hid (InN w A n cc ls)) (hl : ls.length ≤ 100000) (p : Int) (HV : Hid (vfS r.lin r.tree f t ls = (0, p, 0))) :
  Calls Tryz.prog 38 #[.agg (rtC r).toArray, .agg #[.int .i64 f, .int .i64 t, .slice A n cc]] w fun e w' => e = .returned (.tuple #[.agg #[.int .i64 0, .int .i64 1], .int .i64 0]) ∧ Below w.heap.size w w' := by
 have HRI := hid (rtC_info hr.out)
 obtain ⟨W1, HW1⟩ : ∃ V, Hid (((w.alloc (.cells (rtC r).toArray 43)).alloc (.cells #[.int .i64 f, .int .i64 t, .slice A n cc] 66)).alloc (.cells #[.int .i64 0, .int .i64 0] 74) = V) := ⟨_, hid rfl⟩
 have hb := (((Below.refl _ w).alloc (Nat.le_refl _) (.cells (rtC r).toArray 43)).alloc (by simp) (.cells #[.int .i64 f, .int .i64 t, .slice A n cc] 66)).alloc (by simp; omega) (.cells #[.int .i64 0, .int .i64 0] 74)
 have b1 := ((Below.refl _ (w.alloc (.cells (rtC r).toArray 43))).alloc (Nat.le_refl _) (.cells #[.int .i64 f, .int .i64 t, .slice A n cc] 66)).alloc (by simp) (.cells #[.int .i64 0, .int .i64 0] 74)
 have b2 := (Below.refl _ ((w.alloc (.cells (rtC r).toArray 43)).alloc (.cells #[.int .i64 f, .int .i64 t, .slice A n cc] 66))).alloc (Nat.le_refl _) (.cells #[.int .i64 0, .int .i64 0] 74)
 have r0 := row_kept (heap_alloc_new w (.cells (rtC r).toArray 43)) b1
 have r1 := row_kept (heap_alloc_new (w.alloc (.cells (rtC r).toArray 43)) (.cells #[.int .i64 f, .int .i64 t, .slice A n cc] 66)) b2
 have r2 := heap_alloc_new ((w.alloc (.cells (rtC r).toArray 43)).alloc (.cells #[.int .i64 f, .int .i64 t, .slice A n cc] 66)) (.cells #[.int .i64 0, .int .i64 0] 74)
 rw [World.size_alloc] at r1 r2
 rw [World.size_alloc] at r2
 rw [HW1.out] at hb r0 r1 r2
 have KI0 := hid (hin.out.below hb)
 have HB0 := hid hb
 have RR0 := hid r0
 have RP0 := hid r1
 have RZ0 := hid r2
 have p0 := cell_of_row _ _ 0 _ _ _ r1
 have p1 := cell_of_row _ _ 1 _ _ _ r1
 have p2 := cell_of_row _ _ 2 _ _ _ r1
 clear hb b1 b2 r0 r1 r2
 skip
 go_enter Tryz.func38, Tryz.ntmps38
 go_wp2_with (first | (rw [HW1.out]) | (refine wpList_load_row rfl 43 (.tmp 2) rfl (w.heap.size) rfl 43 _ (0, 0) _ RR0.out Tryz.underlying43 rfl HRI.out ?_))
 refine (rverify43 r f t _ _ _ ls _ hr KI0 (by rw [← hin.out.len]; exact hl)).mono ?_
 rintro e U1 ⟨rfl, hq⟩
 rw [HV.out]
 clear p0 p1 p2
 have HB2 := hid (HB0.out.trans (hq.mono HB0.out.size))
 have RR2 := hid (row_kept RR0.out hq)
 have RZ2 := hid (row_kept RZ0.out hq)
 have KI2 := hid (KI0.out.below hq)
 clear hq HB0 RR0 RZ0 KI0
 have c0 := cell_of_row _ _ 0 _ _ _ RZ2.out
 have c1 := cell_of_row _ _ 1 _ _ _ RZ2.out
 have f0 := frozen_of_row _ _ 0 _ _ RZ2.out
 have f1 := frozen_of_row _ _ 1 _ _ RZ2.out
 go_wp2_with fail
 have hs := row2_set (x := .int .i64 0) (y := .int .i64 1) RZ2.out
 have hl2 := run_loadVar_row (P := Tryz.prog) _ (w.heap.size + 1 + 1) 74 74 #[.int .i64 0, .int .i64 1] (0, 0) _ hs Tryz.underlying74 rfl (by show _ = some 2; kernel_rfl)
 refine bodyPost_ret (v := .tuple #[.agg #[.int .i64 0, .int .i64 1], .int .i64 0]) ?_ rfl ⟨rfl, (HB2.out.setCell (by show w.heap.size ≤ w.heap.size + 1 + 1; omega) _).setCell (by show w.heap.size ≤ w.heap.size + 1 + 1; omega) _⟩
 simp [results, Tryz.results38, asAddr, hl2]
theorem rmean_yes (r : Rt) (f t : Int) (A : Option Addr) (n cc : Nat) (ls : List Nd) (w : World) (hr : Hid (RtOk r)) (hin : Hid (InN w A n cc ls)) (hl : ls.length ≤ 100000) (p d : Nat) (x y z3 : Int) (h0 : 0 < d) (hp : p ≤ 9223372036854775807) (hd2 : d ≤ 9223372036854775807) (HX : Hid (ratR p d = (x, y, z3))) (HV : Hid (vfS r.lin r.tree f t ls = (((d : Nat) : Int), ((p : Nat) : Int), 0))) :
  Calls Tryz.prog 38 #[.agg (rtC r).toArray, .agg #[.int .i64 f, .int .i64 t, .slice A n cc]] w fun e w' => e = .returned (.tuple #[.agg #[.int .i64 x, .int .i64 y], .int .i64 z3]) ∧ Below w.heap.size w w' := by
 have HRI := hid (rtC_info hr.out)
 obtain ⟨W1, HW1⟩ : ∃ V, Hid (((w.alloc (.cells (rtC r).toArray 43)).alloc (.cells #[.int .i64 f, .int .i64 t, .slice A n cc] 66)).alloc (.cells #[.int .i64 0, .int .i64 0] 74) = V) := ⟨_, hid rfl⟩
 have hb := (((Below.refl _ w).alloc (Nat.le_refl _) (.cells (rtC r).toArray 43)).alloc (by simp) (.cells #[.int .i64 f, .int .i64 t, .slice A n cc] 66)).alloc (by simp; omega) (.cells #[.int .i64 0, .int .i64 0] 74)
 have b1 := ((Below.refl _ (w.alloc (.cells (rtC r).toArray 43))).alloc (Nat.le_refl _) (.cells #[.int .i64 f, .int .i64 t, .slice A n cc] 66)).alloc (by simp) (.cells #[.int .i64 0, .int .i64 0] 74)
 have b2 := (Below.refl _ ((w.alloc (.cells (rtC r).toArray 43)).alloc (.cells #[.int .i64 f, .int .i64 t, .slice A n cc] 66))).alloc (Nat.le_refl _) (.cells #[.int .i64 0, .int .i64 0] 74)
 have r0 := row_kept (heap_alloc_new w (.cells (rtC r).toArray 43)) b1
 have r1 := row_kept (heap_alloc_new (w.alloc (.cells (rtC r).toArray 43)) (.cells #[.int .i64 f, .int .i64 t, .slice A n cc] 66)) b2
 have r2 := heap_alloc_new ((w.alloc (.cells (rtC r).toArray 43)).alloc (.cells #[.int .i64 f, .int .i64 t, .slice A n cc] 66)) (.cells #[.int .i64 0, .int .i64 0] 74)
 rw [World.size_alloc] at r1 r2
 rw [World.size_alloc] at r2
 rw [HW1.out] at hb r0 r1 r2
 have KI0 := hid (hin.out.below hb)
 have HB0 := hid hb
 have RR0 := hid r0
 have RP0 := hid r1
 have RZ0 := hid r2
 have p0 := cell_of_row _ _ 0 _ _ _ r1
 have p1 := cell_of_row _ _ 1 _ _ _ r1
 have p2 := cell_of_row _ _ 2 _ _ _ r1
 clear hb b1 b2 r0 r1 r2
 have dz : decide ((d : Int) = 0) = false := dQ (by omega)
 have dz2 : ((d : Int) == 0) = false := by simp; omega
 go_enter Tryz.func38, Tryz.ntmps38
 go_wp2_with (first | (rw [HW1.out]) | (refine wpList_load_row rfl 43 (.tmp 2) rfl (w.heap.size) rfl 43 _ (0, 0) _ RR0.out Tryz.underlying43 rfl HRI.out ?_))
 refine (rverify43 r f t _ _ _ ls _ hr KI0 (by rw [← hin.out.len]; exact hl)).mono ?_
 rintro e U1 ⟨rfl, hq⟩
 rw [HV.out]
 clear p0 p1 p2
 have HB2 := hid (HB0.out.trans (hq.mono HB0.out.size))
 have RR2 := hid (row_kept RR0.out hq)
 have RZ2 := hid (row_kept RZ0.out hq)
 have KI2 := hid (KI0.out.below hq)
 clear hq HB0 RR0 RZ0 KI0
 have c0 := cell_of_row _ _ 0 _ _ _ RZ2.out
 have c1 := cell_of_row _ _ 1 _ _ _ RZ2.out
 have f0 := frozen_of_row _ _ 0 _ _ RZ2.out
 have f1 := frozen_of_row _ _ 1 _ _ RZ2.out
 go_wp2_with fail
 refine (rnew05 p d _ hp hd2 h0).mono ?_
 rintro e U3 ⟨rfl, hq⟩
 rw [HX.out]
 clear c0 c1 f0 f1
 have HB4 := hid (HB2.out.trans (hq.mono HB2.out.size))
 have RR4 := hid (row_kept RR2.out hq)
 have RZ4 := hid (row_kept RZ2.out hq)
 have KI4 := hid (KI2.out.below hq)
 clear hq HB2 RR2 RZ2 KI2
 have c0 := cell_of_row _ _ 0 _ _ _ RZ4.out
 have c1 := cell_of_row _ _ 1 _ _ _ RZ4.out
 have f0 := frozen_of_row _ _ 0 _ _ RZ4.out
 have f1 := frozen_of_row _ _ 1 _ _ RZ4.out
 go_wp2_with fail
 have hs := row2_set (x := .int .i64 x) (y := .int .i64 y) RZ4.out
 have hl2 := run_loadVar_row (P := Tryz.prog) _ (w.heap.size + 1 + 1) 74 74 #[.int .i64 x, .int .i64 y] (0, 0) _ hs Tryz.underlying74 rfl (by show _ = some 2; kernel_rfl)
 refine bodyPost_ret (v := .tuple #[.agg #[.int .i64 x, .int .i64 y], .int .i64 z3]) ?_ rfl ⟨rfl, (HB4.out.setCell (by show w.heap.size ≤ w.heap.size + 1 + 1; omega) _).setCell (by show w.heap.size ≤ w.heap.size + 1 + 1; omega) _⟩
 simp [results, Tryz.results38, asAddr, hl2]
theorem rmean43 (r : Rt) (f t : Int) (A : Option Addr) (n cc : Nat) (ls : List Nd) (w : World) (hr : Hid (RtOk r)) (hin : Hid (InN w A n cc ls)) (hl : ls.length ≤ 100000) :
  Calls Tryz.prog 38 #[.agg (rtC r).toArray, .agg #[.int .i64 f, .int .i64 t, .slice A n cc]] w fun e w' => e = .returned (.tuple #[.agg #[.int .i64 (mnR (vfS r.lin r.tree f t ls)).1, .int .i64 (mnR (vfS r.lin r.tree f t ls)).2.1], .int .i64 (mnR (vfS r.lin r.tree f t ls)).2.2]) ∧ Below w.heap.size w w' := by
 have hb := vfS_bd r.lin r.tree f t ls
 obtain ⟨v, HV⟩ : ∃ v, vfS r.lin r.tree f t ls = v := ⟨_, rfl⟩
 obtain ⟨c, p, z⟩ := v
 rw [HV] at hb ⊢
 dsimp only at hb
 unfold mnR
 dsimp only
 by_cases hz : z = 0
 ·subst hz
  rw [if_neg (by simp)]
  by_cases hc : c = 0
  ·subst hc
   rw [if_pos rfl]
   exact rmean_zero r f t A n cc ls w hr hin hl p (hid HV)
  ·rw [if_neg hc]
   obtain ⟨d, rfl⟩ : ∃ d : Nat, c = (d : Nat) := ⟨c.toNat, by omega⟩
   obtain ⟨k, rfl⟩ : ∃ k : Nat, p = (k : Nat) := ⟨p.toNat, by omega⟩
   rw [Int.toNat_natCast, Int.toNat_natCast]
   obtain ⟨x, hx⟩ : ∃ x, ratR k d = x := ⟨_, rfl⟩
   obtain ⟨x, y, e⟩ := x
   rw [hx]
   exact rmean_yes r f t A n cc ls w hr hin hl k d x y e (by omega) (by omega) (by omega) (hid hx) (hid HV)
 ·rw [if_pos hz]
  obtain ⟨rfl, rfl⟩ := hb.2.2.2.2.2 hz
  exact rmean_no r f t A n cc ls w hr hin hl z hz (hid HV)
end Go.Proofs.YtmfmgeapecapiaaGreatDoor
