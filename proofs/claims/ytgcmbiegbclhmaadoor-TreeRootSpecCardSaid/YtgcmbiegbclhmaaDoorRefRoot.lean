/- sizarref41: root, Root. -/
import Derived.Test.YtgcmbiegbclhmaaDoorRefJoin
import Derived.Outline
namespace Go.Proofs.YtgcmbiegbclhmaaDoor
open Go.RowKit SzSha SzTree
set_option linter.unusedVariables false
set_option maxRecDepth 100000
def wRr (M : Nat) (g : Nat) (off : Nat) (n : Nat) (c : Nat) (k : Nat) (a : Nd) (b : Nd) (r : Nd) : Nat → Value → Value → World → Prop
  | 0, fv, _, _ => fv = Value.slice (some ⟨g, off, none⟩) n c
  | 1, fv, _, _ => fv = Value.int .i64 ((k : Nat))
  | 2, fv, _, _ => fv = Value.slice (some ⟨g, off, none⟩) k c
  | 3, fv, _, _ => fv = ndV a
  | 4, fv, _, _ => fv = Value.slice (some ⟨g, off, none⟩) n c
  | 5, fv, _, _ => fv = Value.int .i64 ((k : Nat))
  | 6, fv, _, _ => fv = Value.slice (some ⟨g, off + k * 34, none⟩) (n - k) (c - k)
  | 7, fv, _, _ => fv = ndV b
  | 8, fv, _, _ => fv = Value.tuple #[ndV r, .int .i64 0]
  | 9, fv, _, _ => fv = Value.tuple #[ndV r, .int .i64 0]
  | 10, fv, _, _ => fv = ndV r
  | 11, fv, _, _ => fv = Value.int .i64 (0)
  | 12, fv, fu, fw => True
  | 13, fv, fu, fw => ∃ q, fu = .pointer (some ⟨q, 0, none⟩) ∧ M ≤ q ∧ fw.heap[q]? = some (.cells (ndC r).toArray 26 (0, 0))
  | 14, fv, _, _ => fv = Value.int .i64 (0)
  | _, _, _, _ => True
theorem wRr_below {M : Nat} {g : Nat} {off : Nat} {n : Nat} {c : Nat} {k : Nat} {a : Nd} {b : Nd} {r : Nd} {w w' : World} (hb : Below w.heap.size w w') : ∀ j v u, wRr M g off n c k a b r j v u w → wRr M g off n c k a b r j v u w'
  | 0, v, u, h => h
  | 1, v, u, h => h
  | 2, v, u, h => h
  | 3, v, u, h => h
  | 4, v, u, h => h
  | 5, v, u, h => h
  | 6, v, u, h => h
  | 7, v, u, h => h
  | 8, v, u, h => h
  | 9, v, u, h => h
  | 10, v, u, h => h
  | 11, v, u, h => h
  | 12, v, u, h => h
  | 13, v, u, ⟨q, h1, h2, h3⟩ => ⟨q, h1, h2, (hb.block q (Array.getElem?_eq_some_iff.1 h3).1).trans h3⟩
  | 14, v, u, h => h
  | n + 15, v, u, h => trivial
theorem wRr_pure {M : Nat} {g : Nat} {off : Nat} {n : Nat} {c : Nat} {k : Nat} {a : Nd} {b : Nd} {r : Nd} {w w' : World} : ∀ j v u, j ≠ 12 → j ≠ 13 → wRr M g off n c k a b r j v u w → wRr M g off n c k a b r j v u w'
  | 0, v, u, _, _, h => h
  | 1, v, u, _, _, h => h
  | 2, v, u, _, _, h => h
  | 3, v, u, _, _, h => h
  | 4, v, u, _, _, h => h
  | 5, v, u, _, _, h => h
  | 6, v, u, _, _, h => h
  | 7, v, u, _, _, h => h
  | 8, v, u, _, _, h => h
  | 9, v, u, _, _, h => h
  | 10, v, u, _, _, h => h
  | 11, v, u, _, _, h => h
  | 12, v, u, hh, _, _ => absurd rfl hh
  | 13, v, u, _, hh, _ => absurd rfl hh
  | 14, v, u, _, _, h => h
  | n + 15, v, u, _, _, h => trivial
set_option maxHeartbeats 4000000 in
theorem rroot_any : ∀ (m : Nat) (ls : List Nd) (A : Option Addr) (n c : Nat) (w : World), n ≤ m → 1 ≤ n → n ≤ 4096 → Hid (InN w A n c ls) → Hid (vL ls = true) →
    Calls Tryd.prog 34 #[.slice A n c] w fun e w' => e = .returned (ndV (root ls)) ∧ Below w.heap.size w w' := by
  intro m
  induction m with
  | zero => intro ls A n c w h1 h2; omega
  | succ m ih =>
    intro ls A n c w hm h1 hn h hv
    obtain ⟨g, off, rfl, hg, hr⟩ := h.out.rd (by rw [h.out.len]; omega)
    have HNE := Lib.hid (show ls.length = n from h.out.len)
    have hcap := h.out.cap
    clear hr
    have HB0 := Lib.hid ((Below.refl _ w).alloc (Nat.le_refl _) (.cells (ndC zeroN).toArray 26))
    have HR0 := Lib.hid (heap_alloc_new w (.cells (ndC zeroN).toArray 26))
    have HS0 : Hid ((w.alloc (.cells (ndC zeroN).toArray 26)).heap.size = w.heap.size + 1) := Lib.hid (by simp)
    have HROK : Hid (NdOk (root ls)) := Lib.hid (root_ok _ ls (Nat.le_refl _) (by rw [h.out.len]; omega) h.out.ok hv.out)
    have d0 : decide ((n : Int) = 0) = false := decide_eq_false (by omega)
    have d00 : ((n : Int) == 0) = false := beq_false_of_ne (by omega)
    go_enter Tryd.func34, Tryd.ntmps34
    by_cases h2 : 2 ≤ n
    · have d1 : decide ((n : Int) = 1) = false := decide_eq_false (by omega)
      have d11 : ((n : Int) == 1) = false := beq_false_of_ne (by omega)
      have HIN := Lib.hid (h.out.below HB0.out)
      go_wp2_with fail
      rw [← zeroN_cells]
      generalize w.alloc (.cells (ndC zeroN).toArray 26) = W1 at *
      refine (rhalf_any n _ (by omega)).mono ?_
      rintro e w2 ⟨rfl, rfl⟩
      obtain ⟨k, HK⟩ : ∃ k, Hid (half n = k) := ⟨_, Lib.hid rfl⟩
      have hkb := half_bd h2
      rw [HK.out] at hkb
      rw [HK.out]
      go_wp2_with fail
      have HP : Hid (vL (ls.take k) = true ∧ vL (ls.drop k) = true) := Lib.hid (vL_parts (by rw [List.take_append_drop]; exact hv.out))
      have HT2 := Lib.hid (HIN.out.take k (by omega))
      have HT3 := Lib.hid (HIN.out.drop k (by omega))
      have HLT : Hid ((ls.take k).length = k ∧ (ls.drop k).length = n - k) := Lib.hid ⟨by rw [List.length_take, HNE.out]; omega, by rw [List.length_drop, HNE.out]⟩
      have HVV : Hid (vL [root (ls.take k), root (ls.drop k)] = true) := Lib.hid (vL_two (by rw [List.take_append_drop]; exact hv.out) (by rw [HLT.out.1]; omega) (by rw [HLT.out.2]; omega))
      have HOA : Hid (NdOk (root (ls.take k))) := Lib.hid (root_ok _ _ (Nat.le_refl _) (by rw [HLT.out.1]; omega) HT2.out.ok HP.out.1)
      have HOB : Hid (NdOk (root (ls.drop k))) := Lib.hid (root_ok _ _ (Nat.le_refl _) (by rw [HLT.out.2]; omega) HT3.out.ok HP.out.2)
      have HRT : Hid (joinN (root (ls.take k)) (root (ls.drop k)) = root ls) := Lib.hid (by rw [root_two (l := ls) (by rw [HNE.out]; exact h2), HNE.out, HK.out])
      have HS1 : Hid ((Tryd.prog.info? 26).map (·.size) = some (ndC (root ls)).toArray.size) := Lib.hid (by rw [size34 HROK.out]; simp)
      have HS2 : Hid (34 = (ndC (root ls)).toArray.size) := Lib.hid (by simp [ndC_length HROK.out])
      obtain ⟨a, HA⟩ : ∃ a, Hid (root (ls.take k) = a) := ⟨_, Lib.hid rfl⟩
      obtain ⟨b, HB⟩ : ∃ b, Hid (root (ls.drop k) = b) := ⟨_, Lib.hid rfl⟩
      obtain ⟨r, HR⟩ : ∃ r, Hid (root ls = r) := ⟨_, Lib.hid rfl⟩
      rw [HA.out, HB.out] at HVV HRT
      rw [HA.out] at HOA
      rw [HB.out] at HOB
      rw [HR.out] at HRT HROK HS1 HS2
      refine region_flow3 (by kernel_rfl) (by kernel_rfl) (fun i => Nat.beq i 13) (fun i => bif Nat.beq i 13 then 12 else i) (by kernel_rfl) (fun fx => #[Value.slice (some { block := g, off := off }) n c, undef, Value.pointer (some { block := w.heap.size, off := 0 }), Value.int IntKind.i64 ↑k, fx 12, fx 14, Value.slice (some { block := g, off := off }) n c, Value.int IntKind.i64 ↑n, Value.bool false, undef, undef, Value.slice (some { block := g, off := off }) n c, Value.int IntKind.i64 ↑n, Value.bool false, undef, undef, undef, Value.slice (some { block := g, off := off }) n c, Value.int IntKind.i64 ↑n, Value.int IntKind.i64 ↑k, fx 9, fx 0, fx 1, fx 2, fx 3, fx 4, fx 5, fx 6, fx 7, fx 8, fx 10, fx 11, undef]) (fun _ => undef) (fun L fx w' => Below W1.heap.size W1 w' ∧ (L 12 = true → L 13 = false → NewN W1.heap.size (fx 12) w')) (fun fi fv fu fw => wRr W1.heap.size g off n c k a b r fi fv fu fw) ⟨(Below.refl _ _).drew, fun h => by cases h⟩ ?_ ?_
      · refine ⟨?_, ?_, ?_, ?_, ?_, ?_, ?_, ?_, ?_, ?_, ?_, ?_, ?_, ?_, ?_, trivial⟩
        all_goals intro L fx w' hC hi hcl hdn hd
        · go_wp2_with fail
          exact ⟨_, rfl, ⟨hC.1, fun h14 h15 => hC.2 h14 h15⟩, rfl, fun _ _ _ _ _ h => h⟩
        · go_wp2_with fail
          exact ⟨_, rfl, ⟨hC.1, fun h14 h15 => hC.2 h14 h15⟩, rfl, fun _ _ _ _ _ h => h⟩
        · have h0 : fx 0 = Value.slice (some ⟨g, off, none⟩) n c := hd.1 rfl
          have h1 : fx 1 = Value.int .i64 ((k : Nat)) := hd.2.1 rfl
          go_wp2_with fail
          exact ⟨_, by show _ = Act.mk #[Value.slice (some { block := g, off := off }) n c, undef, Value.pointer (some { block := w.heap.size, off := 0 }), Value.int IntKind.i64 ↑k, fx 12, fx 14, Value.slice (some { block := g, off := off }) n c, Value.int IntKind.i64 ↑n, Value.bool false, undef, undef, Value.slice (some { block := g, off := off }) n c, Value.int IntKind.i64 ↑n, Value.bool false, undef, undef, undef, Value.slice (some { block := g, off := off }) n c, Value.int IntKind.i64 ↑n, Value.int IntKind.i64 ↑k, fx 9, fx 0, fx 1, Value.slice (some ⟨g, off, none⟩) k c, fx 3, fx 4, fx 5, fx 6, fx 7, fx 8, fx 10, fx 11, undef] []; rw [h0, h1] <;> rfl, ⟨hC.1, fun h14 h15 => hC.2 h14 h15⟩, rfl, fun _ _ _ _ _ h => h⟩
        · have h2 : fx 2 = Value.slice (some ⟨g, off, none⟩) k c := hd.1 rfl
          have HIk := Lib.hid (HT2.out.below hC.1)
          go_wp2_with fail
          refine (ih (ls.take k) _ k c w' (by omega) (by omega) (by omega) HIk (Lib.hid HP.out.1)).mono ?_
          rintro e w2 ⟨rfl, hq⟩
          rw [HA.out]
          go_wp2_with fail
          exact ⟨_, by show _ = Act.mk #[Value.slice (some { block := g, off := off }) n c, undef, Value.pointer (some { block := w.heap.size, off := 0 }), Value.int IntKind.i64 ↑k, fx 12, fx 14, Value.slice (some { block := g, off := off }) n c, Value.int IntKind.i64 ↑n, Value.bool false, undef, undef, Value.slice (some { block := g, off := off }) n c, Value.int IntKind.i64 ↑n, Value.bool false, undef, undef, undef, Value.slice (some { block := g, off := off }) n c, Value.int IntKind.i64 ↑n, Value.int IntKind.i64 ↑k, fx 9, fx 0, fx 1, fx 2, ndV a, fx 4, fx 5, fx 6, fx 7, fx 8, fx 10, fx 11, undef] []; rw [h2] <;> rfl, ⟨hC.1.trans (hq.mono hC.1.size), fun h14 h15 => (hC.2 h14 h15).below hq⟩, rfl, fun j v t _ _ h => wRr_below hq j v t h⟩
        · go_wp2_with fail
          exact ⟨_, rfl, ⟨hC.1, fun h14 h15 => hC.2 h14 h15⟩, rfl, fun _ _ _ _ _ h => h⟩
        · go_wp2_with fail
          exact ⟨_, rfl, ⟨hC.1, fun h14 h15 => hC.2 h14 h15⟩, rfl, fun _ _ _ _ _ h => h⟩
        · have h4 : fx 4 = Value.slice (some ⟨g, off, none⟩) n c := hd.1 rfl
          have h5 : fx 5 = Value.int .i64 ((k : Nat)) := hd.2.1 rfl
          go_wp2_with fail
          exact ⟨_, by show _ = Act.mk #[Value.slice (some { block := g, off := off }) n c, undef, Value.pointer (some { block := w.heap.size, off := 0 }), Value.int IntKind.i64 ↑k, fx 12, fx 14, Value.slice (some { block := g, off := off }) n c, Value.int IntKind.i64 ↑n, Value.bool false, undef, undef, Value.slice (some { block := g, off := off }) n c, Value.int IntKind.i64 ↑n, Value.bool false, undef, undef, undef, Value.slice (some { block := g, off := off }) n c, Value.int IntKind.i64 ↑n, Value.int IntKind.i64 ↑k, fx 9, fx 0, fx 1, fx 2, fx 3, fx 4, fx 5, Value.slice (some ⟨g, off + k * 34, none⟩) (n - k) (c - k), fx 7, fx 8, fx 10, fx 11, undef] []; rw [h4, h5] <;> rfl, ⟨hC.1, fun h14 h15 => hC.2 h14 h15⟩, rfl, fun _ _ _ _ _ h => h⟩
        · have h6 : fx 6 = Value.slice (some ⟨g, off + k * 34, none⟩) (n - k) (c - k) := hd.1 rfl
          have HIk := Lib.hid (HT3.out.below hC.1)
          go_wp2_with fail
          refine (ih (ls.drop k) _ (n - k) (c - k) w' (by omega) (by omega) (by omega) HIk (Lib.hid HP.out.2)).mono ?_
          rintro e w2 ⟨rfl, hq⟩
          rw [HB.out]
          go_wp2_with fail
          exact ⟨_, by show _ = Act.mk #[Value.slice (some { block := g, off := off }) n c, undef, Value.pointer (some { block := w.heap.size, off := 0 }), Value.int IntKind.i64 ↑k, fx 12, fx 14, Value.slice (some { block := g, off := off }) n c, Value.int IntKind.i64 ↑n, Value.bool false, undef, undef, Value.slice (some { block := g, off := off }) n c, Value.int IntKind.i64 ↑n, Value.bool false, undef, undef, undef, Value.slice (some { block := g, off := off }) n c, Value.int IntKind.i64 ↑n, Value.int IntKind.i64 ↑k, fx 9, fx 0, fx 1, fx 2, fx 3, fx 4, fx 5, fx 6, ndV b, fx 8, fx 10, fx 11, undef] []; rw [h6] <;> rfl, ⟨hC.1.trans (hq.mono hC.1.size), fun h14 h15 => (hC.2 h14 h15).below hq⟩, rfl, fun j v t _ _ h => wRr_below hq j v t h⟩
        · have h3 : fx 3 = ndV a := hd.1 rfl
          have h7 : fx 7 = ndV b := hd.2.1 rfl
          go_wp2_with fail
          refine (rjoin_yes a b w' HOA HOB HVV.out).mono ?_
          rintro e w2 ⟨rfl, hq⟩
          rw [HRT.out]
          go_wp2_with fail
          exact ⟨_, by show _ = Act.mk #[Value.slice (some { block := g, off := off }) n c, undef, Value.pointer (some { block := w.heap.size, off := 0 }), Value.int IntKind.i64 ↑k, fx 12, fx 14, Value.slice (some { block := g, off := off }) n c, Value.int IntKind.i64 ↑n, Value.bool false, undef, undef, Value.slice (some { block := g, off := off }) n c, Value.int IntKind.i64 ↑n, Value.bool false, undef, undef, undef, Value.slice (some { block := g, off := off }) n c, Value.int IntKind.i64 ↑n, Value.int IntKind.i64 ↑k, fx 9, fx 0, fx 1, fx 2, fx 3, fx 4, fx 5, fx 6, fx 7, Value.tuple #[ndV r, .int .i64 0], fx 10, fx 11, undef] []; rw [h3, h7] <;> rfl, ⟨hC.1.trans (hq.mono hC.1.size), fun h14 h15 => (hC.2 h14 h15).below hq⟩, rfl, fun j v t _ _ h => wRr_below hq j v t h⟩
        · have h8 : fx 8 = Value.tuple #[ndV r, .int .i64 0] := hd.1 rfl
          go_wp2_with fail
          exact ⟨_, by show _ = Act.mk #[Value.slice (some { block := g, off := off }) n c, undef, Value.pointer (some { block := w.heap.size, off := 0 }), Value.int IntKind.i64 ↑k, fx 12, fx 14, Value.slice (some { block := g, off := off }) n c, Value.int IntKind.i64 ↑n, Value.bool false, undef, undef, Value.slice (some { block := g, off := off }) n c, Value.int IntKind.i64 ↑n, Value.bool false, undef, undef, undef, Value.slice (some { block := g, off := off }) n c, Value.int IntKind.i64 ↑n, Value.int IntKind.i64 ↑k, Value.tuple #[ndV r, .int .i64 0], fx 0, fx 1, fx 2, fx 3, fx 4, fx 5, fx 6, fx 7, fx 8, fx 10, fx 11, undef] []; rw [h8] <;> rfl, ⟨hC.1, fun h14 h15 => hC.2 h14 h15⟩, rfl, fun _ _ _ _ _ h => h⟩
        · have h9 : fx 9 = Value.tuple #[ndV r, .int .i64 0] := hd.1 rfl
          go_wp2_with fail
          exact ⟨_, by show _ = Act.mk #[Value.slice (some { block := g, off := off }) n c, undef, Value.pointer (some { block := w.heap.size, off := 0 }), Value.int IntKind.i64 ↑k, fx 12, fx 14, Value.slice (some { block := g, off := off }) n c, Value.int IntKind.i64 ↑n, Value.bool false, undef, undef, Value.slice (some { block := g, off := off }) n c, Value.int IntKind.i64 ↑n, Value.bool false, undef, undef, undef, Value.slice (some { block := g, off := off }) n c, Value.int IntKind.i64 ↑n, Value.int IntKind.i64 ↑k, fx 9, fx 0, fx 1, fx 2, fx 3, fx 4, fx 5, fx 6, fx 7, fx 8, ndV r, fx 11, undef] []; rw [h9] <;> rfl, ⟨hC.1, fun h14 h15 => hC.2 h14 h15⟩, rfl, fun _ _ _ _ _ h => h⟩
        · have h9 : fx 9 = Value.tuple #[ndV r, .int .i64 0] := hd.1 rfl
          go_wp2_with fail
          exact ⟨_, by show _ = Act.mk #[Value.slice (some { block := g, off := off }) n c, undef, Value.pointer (some { block := w.heap.size, off := 0 }), Value.int IntKind.i64 ↑k, fx 12, fx 14, Value.slice (some { block := g, off := off }) n c, Value.int IntKind.i64 ↑n, Value.bool false, undef, undef, Value.slice (some { block := g, off := off }) n c, Value.int IntKind.i64 ↑n, Value.bool false, undef, undef, undef, Value.slice (some { block := g, off := off }) n c, Value.int IntKind.i64 ↑n, Value.int IntKind.i64 ↑k, fx 9, fx 0, fx 1, fx 2, fx 3, fx 4, fx 5, fx 6, fx 7, fx 8, fx 10, Value.int .i64 (0), undef] []; rw [h9] <;> rfl, ⟨hC.1, fun h14 h15 => hC.2 h14 h15⟩, rfl, fun _ _ _ _ _ h => h⟩
        · go_wp2_with fail
          rw [← zeroN_cells]
          have hbb : Below w'.heap.size w' (w'.alloc (.cells (ndC zeroN).toArray 26)) := (Below.refl _ _).alloc (Nat.le_refl _) _
          exact ⟨_, rfl, ⟨hC.1.trans (hbb.mono hC.1.size), fun _ _ => ⟨_, rfl, hC.1.size, heap_alloc_new _ _⟩⟩, trivial, fun j v t _ _ h => wRr_below hbb j v t h⟩
        · have H12 := Lib.hid (hd.1 rfl)
          have h10 : fx 10 = ndV r := hd.2.1 rfl
          obtain ⟨q, h12, hq, hrow⟩ := hC.2 (hdn 12 (by kernel_rfl)) hi
          refine wpList_store_row rfl 26 (.tmp 4) (.tmp 30) rfl q (ndC r).toArray h12 h10 26 _ hrow HS1.out HS2.out (ndC_one _) ?_
          clear hd
          go_wp2_with fail
          exact ⟨undef, by rw [← h12, ← h10]; rfl, ⟨below_setRow hC.1 hq _, fun _ h => (updB_self h).elim⟩, ⟨q, h12, hq, setRow_heap _ _ _ _ _ _ hrow⟩, fun j v t hj _ h => by
            by_cases e : j = 12
            · subst e; trivial
            · exact wRr_pure j v t e (fun e => by subst e; rw [hi] at hj; cases hj) h⟩
        · have h11 : fx 11 = Value.int .i64 (0) := hd.1 rfl
          go_wp2_with fail
          exact ⟨_, by show _ = Act.mk #[Value.slice (some { block := g, off := off }) n c, undef, Value.pointer (some { block := w.heap.size, off := 0 }), Value.int IntKind.i64 ↑k, fx 12, Value.int .i64 (0), Value.slice (some { block := g, off := off }) n c, Value.int IntKind.i64 ↑n, Value.bool false, undef, undef, Value.slice (some { block := g, off := off }) n c, Value.int IntKind.i64 ↑n, Value.bool false, undef, undef, undef, Value.slice (some { block := g, off := off }) n c, Value.int IntKind.i64 ↑n, Value.int IntKind.i64 ↑k, fx 9, fx 0, fx 1, fx 2, fx 3, fx 4, fx 5, fx 6, fx 7, fx 8, fx 10, fx 11, undef] []; rw [h11] <;> rfl, ⟨hC.1, fun h14 h15 => hC.2 h14 h15⟩, rfl, fun _ _ _ _ _ h => h⟩
      · intro L fx w' hC hS
        have H13 := Lib.hid (hS 13 (by decide) rfl)
        obtain ⟨q, e14, hq, hrow⟩ := H13.out
        have HB9 := Lib.hid hC.1
        have HQR := Lib.hid hrow
        have HR3 := Lib.hid ((hC.1.block w.heap.size (by rw [HS0.out]; omega)).trans HR0.out)
        replace e14 : fx 12 = _ := e14
        rw [e14]
        clear hS hC H13 hrow
        go_wp2_with (first | (refine wpList_load_row rfl 26 (.tmp 4) rfl q rfl 26 _ (0, 0) _ HQR.out Tryd.underlying26 rfl HS1.out ?_) | (refine wpList_store_row rfl 26 (.tmp 2) (.tmp 32) rfl w.heap.size (ndC r).toArray rfl rfl 26 (ndC zeroN).toArray HR3.out HS1.out HS2.out (ndC_one r) ?_))
        refine bodyPost_ret (results_cell_row rfl _ _ w.heap.size 26 _ (0, 0) _ rfl (setRow_heap w' w.heap.size _ _ _ _ HR3.out) Tryd.underlying26 rfl HS1.out) rfl ?_
        exact ⟨by rw [HR.out]; rfl, below_setRow (HB0.out.trans (HB9.out.mono HB0.out.size)) (Nat.le_refl _) _⟩
    · have hn1 : n = 1 := by omega
      have d1 : decide ((n : Int) = 1) = true := decide_eq_true (by omega)
      have d11 : ((n : Int) == 1) = true := by rw [hn1]; rfl
      obtain ⟨x, HX⟩ : ∃ x, Hid (ls = [x]) := (List.length_eq_one_iff.1 (by rw [HNE.out]; exact hn1)).imp fun _ h => Lib.hid h
      have HXO : Hid (NdOk x) := Lib.hid (h.out.ok x (by rw [HX.out]; simp))
      obtain ⟨g', off', e, hg', hr⟩ := (h.out.below HB0.out).rd (by rw [HNE.out]; omega)
      cases e
      have HRX : Hid ((w.alloc (.cells (ndC zeroN).toArray 26)).rangeAt g off (ndC x)) := Lib.hid (by
        have := range_one hr h.out.ok 0 (by rw [HNE.out]; omega)
        simpa [HX.out] using this)
      have HS1 : Hid ((Tryd.prog.info? 26).map (·.size) = some (ndC x).toArray.size) := Lib.hid (by rw [size34 HXO.out]; simp)
      have HS2 : Hid (34 = (ndC x).toArray.size) := Lib.hid (by simp [ndC_length HXO.out])
      have HSX := Lib.hid (size34 HXO.out)
      have hlt : 0 < n := by omega
      have hlt2 : decide (0 < n) = true := decide_eq_true hlt
      clear hr
      rw [zeroN_cells] at HRX HR0
      go_wp2_with (first | (with_reducible refine wpList_load_mid rfl 26 (.tmp 15) rfl g off rfl (ndC x) _ HRX.out Tryd.underlying26 rfl HSX.out ?_) | (refine wpList_store_row rfl 26 (.tmp 2) (.tmp 16) rfl w.heap.size (ndC x).toArray rfl rfl 26 _ HR0.out HS1.out HS2.out (ndC_one x) ?_))
      rw [← zeroN_cells]
      rw [← zeroN_cells] at HR0
      refine bodyPost_ret (results_cell_row rfl _ _ w.heap.size 26 _ (0, 0) _ rfl (setRow_heap _ w.heap.size _ _ _ _ HR0.out) Tryd.underlying26 rfl HS1.out) rfl ?_
      exact ⟨by rw [HX.out, root_one]; rfl, below_setRow HB0.out (Nat.le_refl _) _⟩
set_option maxHeartbeats 4000000 in
theorem rroot_nil (A : Option Addr) (c : Nat) (w : World) :
    Calls Tryd.prog 34 #[.slice A 0 c] w fun e w' => e = .returned (ndV emptyN) ∧ Below w.heap.size w w' := by
  have HB0 := Lib.hid ((Below.refl _ w).alloc (Nat.le_refl _) (.cells (ndC zeroN).toArray 26))
  have HR0 := Lib.hid (heap_alloc_new w (.cells (ndC zeroN).toArray 26))
  rw [zeroN_cells] at HR0 HB0
  go_enter Tryd.func34, Tryd.ntmps34
  go_wp2_with fail
  generalize w.alloc (.cells #[.int .u8 0, .int .u8 0, .int .u8 0, .int .u8 0, .int .u8 0, .int .u8 0, .int .u8 0, .int .u8 0, .int .u8 0, .int .u8 0, .int .u8 0, .int .u8 0, .int .u8 0, .int .u8 0, .int .u8 0, .int .u8 0, .int .u8 0, .int .u8 0, .int .u8 0, .int .u8 0, .int .u8 0, .int .u8 0, .int .u8 0, .int .u8 0, .int .u8 0, .int .u8 0, .int .u8 0, .int .u8 0, .int .u8 0, .int .u8 0, .int .u8 0, .int .u8 0, .int .i64 0, .int .i64 0] 26) = W1 at *
  refine (rtagged_any sumTag none 0 0 [] W1 (by decide) (Lib.hid rfl) (Nat.le_refl _) (fun _ => rfl) (by omega) (Lib.hid (fun x hx => by cases hx)) (Lib.hid (fun h => by simp at h))).mono ?_
  rintro e W2 ⟨rfl, hq2⟩
  rw [sumTag_eq]
  have HB2 := Lib.hid (HB0.out.trans (hq2.mono HB0.out.size))
  have HR2 := Lib.hid ((hq2.block w.heap.size (Array.getElem?_eq_some_iff.1 HR0.out).1).trans HR0.out)
  have HS1 : Hid ((Tryd.prog.info? 26).map (·.size) = some (ndC emptyN).toArray.size) := Lib.hid (by rw [size34 emptyN_ok]; simp)
  have HS2 : Hid (34 = (ndC emptyN).toArray.size) := Lib.hid (by simp [ndC_length emptyN_ok])
  clear hq2
  go_wp2_with (first | (refine wpList_build_node1 rfl (.tmp 9) rfl (tagged sumT []) (tagged_length _ _) rfl ?_) | (refine wpList_store_row rfl 26 (.tmp 2) (.tmp 10) rfl w.heap.size (ndC emptyN).toArray rfl rfl 26 _ HR2.out HS1.out HS2.out (ndC_one _) ?_))
  refine bodyPost_ret (results_cell_row rfl _ _ w.heap.size 26 _ (0, 0) _ rfl (setRow_heap _ w.heap.size _ _ _ _ HR2.out) Tryd.underlying26 rfl HS1.out) rfl ?_
  exact ⟨rfl, below_setRow HB2.out (Nat.le_refl _) _⟩
set_option maxHeartbeats 4000000 in
theorem rRoot_any (ls : List Nd) (A : Option Addr) (n c : Nat) (w : World) (hn : n ≤ 9223372036854775807) (h : Hid (InN w A n c ls)) :
    Calls Tryd.prog 13 #[.slice A n c] w fun e w' => e = .returned (.tuple #[ndV (rootR ls), .int .i64 (rootE ls)]) ∧ Below w.heap.size w w' := by
  have HNE := Lib.hid (show ls.length = n from h.out.len)
  have HB0 := Lib.hid ((Below.refl _ w).alloc (Nat.le_refl _) (.cells (ndC zeroN).toArray 26))
  have HR0 := Lib.hid (heap_alloc_new w (.cells (ndC zeroN).toArray 26))
  have HIN := Lib.hid (h.out.below HB0.out)
  have HSZ : Hid ((Tryd.prog.info? 26).map (·.size) = some (ndC zeroN).toArray.size) := Lib.hid (by rw [size34 zeroN_ok]; simp)
  rw [zeroN_cells] at HR0 HB0 HIN
  have HRR : Hid (∀ W1, Below (w.alloc (.cells #[.int .u8 0, .int .u8 0, .int .u8 0, .int .u8 0, .int .u8 0, .int .u8 0, .int .u8 0, .int .u8 0, .int .u8 0, .int .u8 0, .int .u8 0, .int .u8 0, .int .u8 0, .int .u8 0, .int .u8 0, .int .u8 0, .int .u8 0, .int .u8 0, .int .u8 0, .int .u8 0, .int .u8 0, .int .u8 0, .int .u8 0, .int .u8 0, .int .u8 0, .int .u8 0, .int .u8 0, .int .u8 0, .int .u8 0, .int .u8 0, .int .u8 0, .int .u8 0, .int .i64 0, .int .i64 0] 26)).heap.size (w.alloc (.cells #[.int .u8 0, .int .u8 0, .int .u8 0, .int .u8 0, .int .u8 0, .int .u8 0, .int .u8 0, .int .u8 0, .int .u8 0, .int .u8 0, .int .u8 0, .int .u8 0, .int .u8 0, .int .u8 0, .int .u8 0, .int .u8 0, .int .u8 0, .int .u8 0, .int .u8 0, .int .u8 0, .int .u8 0, .int .u8 0, .int .u8 0, .int .u8 0, .int .u8 0, .int .u8 0, .int .u8 0, .int .u8 0, .int .u8 0, .int .u8 0, .int .u8 0, .int .u8 0, .int .i64 0, .int .i64 0] 26)) W1 → rootE ls = 0 → Calls Tryd.prog 34 #[.slice A n c] W1 fun e w' => e = .returned (ndV (rootR ls)) ∧ Below W1.heap.size W1 w') := Lib.hid (fun W1 hb he => by
    have hh : ls.length ≤ 4096 ∧ vL ls = true := by
      apply Classical.byContradiction
      intro hc
      rw [(rootR_no hc).2] at he
      omega
    by_cases h0 : n = 0
    · have hl0 : ls = [] := List.eq_nil_of_length_eq_zero (by rw [HNE.out]; exact h0)
      subst hl0
      subst h0
      rw [rootR_nil.1]
      exact rroot_nil A c W1
    · rw [(rootR_yes hh.1 hh.2 (by rw [HNE.out]; omega)).1]
      exact rroot_any n ls A n c W1 (Nat.le_refl _) (by omega) (by have := HNE.out; omega) (Lib.hid (HIN.out.below hb)) (Lib.hid hh.2))
  have HROK : Hid (NdOk (rootR ls)) := Lib.hid (rootR_ok h.out.ok)
  have HS1 : Hid ((Tryd.prog.info? 26).map (·.size) = some (ndC (rootR ls)).toArray.size) := Lib.hid (by rw [size34 HROK.out]; simp)
  have HS2 : Hid (34 = (ndC (rootR ls)).toArray.size) := Lib.hid (by simp [ndC_length HROK.out])
  go_enter Tryd.func13, Tryd.ntmps13
  go_wp2_with fail
  refine (rcheck_any ls A n c _ hn HIN).mono ?_
  rintro e W1 ⟨rfl, hq⟩
  have HB1 := Lib.hid (HB0.out.trans (hq.mono HB0.out.size))
  have HR1 := Lib.hid (row_kept HR0.out hq)
  have HQ1 := Lib.hid hq
  clear hq HB0 HR0
  by_cases he : rootE ls = 0
  · have HEE := Lib.hid he
    rw [he]
    go_wp2_with fail
    refine (HRR.out W1 HQ1.out he).mono ?_
    rintro e W2 ⟨rfl, hq⟩
    have HB2 := Lib.hid (HB1.out.trans (hq.mono HB1.out.size))
    have HR2 := Lib.hid (row_kept HR1.out hq)
    clear hq
    obtain ⟨r, HR⟩ : ∃ r, Hid (rootR ls = r) := ⟨_, Lib.hid rfl⟩
    rw [HR.out] at HROK HS1 HS2
    rw [HR.out]
    go_wp2_with (refine wpList_store_row rfl 26 (.tmp 2) (.tmp 12) rfl w.heap.size (ndC r).toArray rfl rfl 26 _ HR2.out HS1.out HS2.out (ndC_one _) ?_)
    have hr := setRow_heap W2 w.heap.size _ (ndC r).toArray _ _ HR2.out
    have hl := run_loadVar_row (P := Tryd.prog) (W2.setRow w.heap.size (ndC r).toArray) w.heap.size 26 26 (ndC r).toArray (0, 0) _ hr Tryd.underlying26 rfl HS1.out
    refine bodyPost_ret (v := .tuple #[ndV r, .int .i64 0]) ?_ rfl ⟨by rw [HR.out, HEE.out], below_setRow HB2.out (Nat.le_refl _) _⟩
    unfold ndV
    simp [results, Tryd.results13, asAddr, hl]
  · have hbad : ¬ (ls.length ≤ 4096 ∧ vL ls = true) := fun hh => he (by unfold rootE; exact if_pos hh)
    have HE := Lib.hid (rootR_no hbad)
    clear he hbad
    rw [HE.out.2]
    rw [← zeroN_cells] at HR1
    go_wp2_with (rw [← zeroN_cells]; refine wpList_store_row rfl 26 (.tmp 2) (.tmp 9) rfl w.heap.size (ndC zeroN).toArray ?ha ?hb 26 (ndC zeroN).toArray HR1.out HSZ.out rfl (ndC_one zeroN) ?_)
    all_goals first | rfl | skip
    have hr := setRow_heap W1 w.heap.size _ (ndC zeroN).toArray _ _ HR1.out
    have hl := run_loadVar_row (P := Tryd.prog) (W1.setRow w.heap.size (ndC zeroN).toArray) w.heap.size 26 26 (ndC zeroN).toArray (0, 0) _ hr Tryd.underlying26 rfl HSZ.out
    refine bodyPost_ret (v := .tuple #[ndV zeroN, .int .i64 410]) ?_ rfl ⟨by rw [HE.out.1, HE.out.2], below_setRow HB1.out (Nat.le_refl _) _⟩
    unfold ndV
    simp [results, Tryd.results13, asAddr, hl]
end Go.Proofs.YtgcmbiegbclhmaaDoor
