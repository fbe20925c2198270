/- sizar/codec: the writer of integers. -/
import Derived.Test.YtgcmbiegbclhmaaDoorCodec2
import Derived.Test.YtgcmbiegbclhmaaDoorFlow3
import Derived.Test.YtgcmbiegbclhmaaDoorTagged
namespace Go.Proofs.YtgcmbiegbclhmaaDoor
open Go.RowKit SzSha SzTree
set_option linter.unusedVariables false
set_option maxRecDepth 100000
/-- a slice lies in the old one's block or in a new one -/
def OwnG (v0 : Value) (N : Nat) (v : Value) : Prop := v.ownBlock = v0.ownBlock ∨ ∃ g, v.ownBlock = some g ∧ N ≤ g
theorem OwnG.of_grew {v0 v v' : Value} {w w' : World} {N : Nat} (hN : N ≤ w.heap.size) (h : OwnG v0 N v) (k : Grew v v' w w') : OwnG v0 N v' := by
  rcases k.2 with e | ⟨g, e, hg⟩
  · rcases h with e2 | ⟨g, e2, hg⟩
    · exact .inl (e.trans e2)
    · exact .inr ⟨g, e.trans e2, hg⟩
  · exact .inr ⟨g, e, Nat.le_trans hN hg⟩
/-- what the call began with stays, but for the block of the slice that it writes to -/
theorem grown_grew {v0 v v' : Value} {W w w' : World} (hC : W.grownBy w v0.ownBlock) (h : OwnG v0 W.heap.size v) (k : Grew v v' w w') : W.grownBy w' v0.ownBlock :=
  ⟨k.1.os.trans hC.os, k.1.tape.trans hC.tape, k.1.output.trans hC.output, Nat.le_trans hC.size k.1.size, fun i hi hne => (k.1.block i (Nat.lt_of_lt_of_le hi hC.size) (fun e => by
    rcases h with e2 | ⟨g, e2, hg⟩
    · exact hne (e.trans e2)
    · rw [e2] at e
      injection e with e
      omega)).trans (hC.block i hi hne)⟩
theorem grown_below {v0 : Value} {W w w' : World} (hC : W.grownBy w v0.ownBlock) (hb : Below w.heap.size w w') : W.grownBy w' v0.ownBlock :=
  ⟨hb.os.trans hC.os, hb.tape.trans hC.tape, hb.output.trans hC.output, Nat.le_trans hC.size hb.size, fun i hi hne => (hb.block i (Nat.lt_of_lt_of_le hi hC.size)).trans (hC.block i hi hne)⟩
theorem grown_drew (v0 : Value) (W : World) : W.grownBy W.drew v0.ownBlock := ⟨rfl, rfl, rfl, Nat.le_refl _, fun _ _ _ => rfl⟩
theorem grew_of {v0 v : Value} {W w : World} (hC : W.grownBy w v0.ownBlock) (h : OwnG v0 W.heap.size v) : Grew v0 v W w := ⟨hC, h⟩
def wI (base N b : Nat) (v0 : Value) (l : List Nat) (z : Int) (u : Nat) : Nat → Value → World → Prop
  | 0, fv, _ => fv = v0
  | 1, fv, fw => ∃ g, fv = .slice (some ⟨g, 0, none⟩) 1 1 ∧ Rd fw fw.heap.size (some ⟨g, 0, none⟩) [1]
  | 2, fv, fw => OwnB fw base fv (l ++ [1]) ∧ OwnG v0 N fv
  | 3, fv, _ => fv = .pointer (some ⟨b, 1, none⟩)
  | 4, fv, _ => fv = .int .i64 z
  | 5, fv, _ => fv = .int .u64 (u : Nat)
  | 6, fv, fw => OwnB fw base fv (l ++ [1] ++ num u) ∧ OwnG v0 N fv
  | 7, fv, fw => OwnB fw base fv (l ++ [1] ++ num u) ∧ OwnG v0 N fv
  | _, _, _ => True
theorem wI_below {base N b : Nat} {v0 : Value} {l : List Nat} {z : Int} {u : Nat} {w w' : World} (hb : Below w.heap.size w w') : ∀ j v, wI base N b v0 l z u j v w → wI base N b v0 l z u j v w'
  | 0, v, h => h
  | 1, v, ⟨g, h1, h2⟩ => ⟨g, h1, (h2.below hb (Nat.le_refl _)).mono hb.size⟩
  | 2, v, h => ⟨h.1.below hb, h.2⟩
  | 3, v, h => h
  | 4, v, h => h
  | 5, v, h => h
  | 6, v, h => ⟨h.1.below hb, h.2⟩
  | 7, v, h => ⟨h.1.below hb, h.2⟩
  | n + 8, v, h => trivial
theorem updB_self {L : Nat → Bool} {i : Nat} (h : updB L i i = false) : False := by rw [updB_same] at h; cases h
theorem wI_pure {base N b : Nat} {v0 : Value} {l : List Nat} {z : Int} {u : Nat} {w w' : World} : ∀ j v, j ≠ 1 → j ≠ 2 → j ≠ 6 → j ≠ 7 → wI base N b v0 l z u j v w → wI base N b v0 l z u j v w'
  | 0, v, _, _, _, _, h => h
  | 1, v, h, _, _, _, _ => absurd rfl h
  | 2, v, _, h, _, _, _ => absurd rfl h
  | 3, v, _, _, _, _, h => h
  | 4, v, _, _, _, _, h => h
  | 5, v, _, _, _, _, h => h
  | 6, v, _, _, h, _, _ => absurd rfl h
  | 7, v, _, _, _, h, _ => absurd rfl h
  | n + 8, v, _, _, _, _, h => trivial
set_option maxHeartbeats 4000000 in
theorem write_int (v0 : Value) (l : List Nat) (z : Int) (base : Nat) (w : World) (hz1 : -9223372036854775808 ≤ z) (hz2 : z ≤ 9223372036854775807) (hO : Hid (OwnB w base v0 l)) (hl : l.length ≤ 1000000) (hb : base ≤ w.heap.size) :
    Calls Tryd.prog 64 #[v0, .agg #[.int .i64 1, .int .i64 z, .string ⟨#[]⟩, .slice none 0 0]] w fun e w' => ∃ v', e = .returned v' ∧ OwnB w' base v' (l ++ 1 :: num (zig z)) ∧ Grew v0 v' w w' := by
  have hu := zig_lt hz1 hz2
  obtain ⟨u, HU⟩ : ∃ u, Hid (zig z = u) := ⟨_, Lib.hid rfl⟩
  rw [HU.out] at hu
  have HUL := Lib.hid hu
  have ZB := Lib.hid (And.intro hz1 hz2)
  clear hz1 hz2 hu
  have HB0 := Lib.hid ((Below.refl _ w).alloc (Nat.le_refl _) (.cells #[.int .i64 1, .int .i64 z, .string ⟨#[]⟩, .slice none 0 0] 76))
  have HO1 := Lib.hid (hO.out.below HB0.out)
  have HC1 : Hid ((w.alloc (.cells #[.int .i64 1, .int .i64 z, .string ⟨#[]⟩, .slice none 0 0] 76)).cell? ⟨w.heap.size, 1, none⟩ = some (.int .i64 z)) := Lib.hid (by rw [cell_of_row _ _ _ _ _ _ (heap_alloc_new w _)]; rfl)
  have HNE : Hid (some w.heap.size ≠ v0.ownBlock) := Lib.hid (fun e => by have := (hO.out.block _ e.symm).2; omega)
  go_enter Tryd.func64, Tryd.ntmps64
  go_wp2_with fail
  have HBS : Hid (base ≤ (w.alloc (.cells #[.int .i64 1, .int .i64 z, .string ⟨#[]⟩, .slice none 0 0] 76)).heap.size) := Lib.hid (Nat.le_trans hb HB0.out.size)
  generalize w.alloc (.cells #[.int .i64 1, .int .i64 z, .string ⟨#[]⟩, .slice none 0 0] 76) = W1 at *
  refine region_flow3 (by kernel_rfl) (by kernel_rfl) (fun i => Nat.beq i 7) (fun i => i) (by kernel_rfl)
    (fun fx => #[v0, .agg #[.int .i64 1, .int .i64 z, .string ⟨#[]⟩, .slice none 0 0], undef, .pointer (some ⟨w.heap.size, 0, none⟩), fx 7, fx 0, fx 1, fx 2, fx 3, fx 4, fx 5, fx 6])
    (fun i => bif Nat.beq i 7 then .slice none 0 0 else undef) (fun L _ w' => W1.grownBy w' v0.ownBlock ∧ (L 2 = false → OwnB w' base v0 l)) (fun fi fv _ fw => wI base W1.heap.size w.heap.size v0 l z u fi fv fw) ⟨grown_drew v0 W1, fun _ => HO1.out.below (Below.refl _ _).drew⟩ ?_ ?_
  · refine ⟨?_, ?_, ?_, ?_, ?_, ?_, ?_, ?_, trivial⟩
    all_goals intro L fx w' hC hi hcl hdn hd
    · go_wp2_with fail
      exact ⟨_, rfl, ⟨hC.1, fun h => hC.2 h⟩, rfl, fun _ _ _ _ _ h => h⟩
    · go_wp2_with fail
      have hbb : Below w'.heap.size w' (w'.alloc (.cells #[.int .u8 1] 5)) := (Below.refl _ _).alloc (Nat.le_refl _) _
      exact ⟨_, rfl, ⟨grown_below hC.1 hbb, fun h => (hC.2 h).below hbb⟩, ⟨_, rfl, one_rowU w' 1⟩, fun j v t _ _ h => wI_below hbb j v h⟩
    · have h0 : fx 0 = v0 := hd.1 rfl
      obtain ⟨g, h1, hR⟩ := hd.2.1 rfl
      have HOv := Lib.hid (hC.2 hi)
      have HR := Lib.hid hR
      have HSZ := Lib.hid (Nat.le_trans HBS.out hC.1.size)
      have hlen : l.length + 1 ≤ 1099511627776 := by omega
      refine wpList_append_grew rfl (.tmp 5) (.tmp 6) rfl base v0 l [1] h0 HOv (some ⟨g, 0, none⟩) 1 1 h1 (Lib.hid rfl) (fun h => by cases h) HR hlen HSZ.out ?_
      intro v2 w2 HO2 HG2
      clear hd
      go_wp2_with fail
      refine ⟨v2, by rw [← h0, ← h1]; rfl, ⟨grown_grew hC.1 (.inl rfl) HG2.out, fun h => (updB_self h).elim⟩, ⟨HO2.out, OwnG.of_grew hC.1.size (.inl rfl) HG2.out⟩, fun j v t hj hu h => ?_⟩
      refine wI_pure j v ?_ ?_ ?_ ?_ h <;> intro e <;> subst e
      · refine absurd hu (not_needed (E := fun i => Nat.beq i 7) (j := 1) [2] ?_ ?_ ?_)
        · kernel_rfl
        · kernel_rfl
        · intro m hm hne; simp at hm; omega
      · rw [hi] at hj; cases hj
      · have := hcl 6 2 hj (by kernel_rfl); rw [hi] at this; cases this
      · have := hcl 6 2 (hcl 7 6 hj (by kernel_rfl)) (by kernel_rfl); rw [hi] at this; cases this
    · go_wp2_with fail
      exact ⟨_, rfl, ⟨hC.1, fun h => hC.2 h⟩, rfl, fun _ _ _ _ _ h => h⟩
    · have h3 : fx 3 = .pointer (some ⟨w.heap.size, 1, none⟩) := hd.1 rfl
      have hc : w'.cell? ⟨w.heap.size, 1, none⟩ = some (.int .i64 z) := hC.1.cell HC1.out HNE.out
      go_wp2_with fail
      exact ⟨_, by rw [← h3]; rfl, ⟨hC.1, fun h => hC.2 h⟩, rfl, fun _ _ _ _ _ h => h⟩
    · have h4 : fx 4 = .int .i64 z := hd.1 rfl
      go_wp2_with fail
      refine (unsigned_any z _ ZB.out.1 ZB.out.2).mono ?_
      rintro e w2 ⟨rfl, rfl⟩
      rw [HU.out]
      go_wp2_with fail
      exact ⟨_, by rw [← h4]; rfl, ⟨hC.1, fun h => hC.2 h⟩, rfl, fun _ _ _ _ _ h => h⟩
    · have H2 := Lib.hid (hd.1 rfl)
      have h5 : fx 5 = .int .u64 (u : Nat) := hd.2.1 rfl
      have HSZ := Lib.hid (Nat.le_trans HBS.out hC.1.size)
      go_wp2_with fail
      refine (numeral_any (fx 2) (l ++ [1]) u base _ (Lib.hid H2.out.1) (by simp; omega) HUL.out HSZ.out).mono ?_
      rintro e w2 ⟨v2, rfl, hO2, hG2⟩
      have HO2 := Lib.hid hO2
      have HG2 := Lib.hid hG2
      clear hO2 hG2
      go_wp2_with fail
      refine ⟨v2, by rw [← h5]; rfl, ⟨grown_grew hC.1 H2.out.2 HG2.out, fun h => by have h2 : L 2 = false := h; have := hdn 2 (by kernel_rfl); rw [h2] at this; cases this⟩, ⟨HO2.out, OwnG.of_grew hC.1.size H2.out.2 HG2.out⟩, fun j v t hj hu h => ?_⟩
      refine wI_pure j v ?_ ?_ ?_ ?_ h <;> intro e <;> subst e
      · refine absurd hu (not_needed (E := fun i => Nat.beq i 7) (j := 1) [2] ?_ ?_ ?_)
        · kernel_rfl
        · kernel_rfl
        · intro m hm hne; simp at hm; subst hm; exact hdn 2 (by kernel_rfl)
      · refine absurd hu (not_needed (E := fun i => Nat.beq i 7) (j := 2) [6] ?_ ?_ ?_)
        · kernel_rfl
        · kernel_rfl
        · intro m hm hne; simp at hm; omega
      · rw [hi] at hj; cases hj
      · have := hcl 7 6 hj (by kernel_rfl); rw [hi] at this; cases this
    · have H6 := Lib.hid (hd.1 rfl)
      go_wp2_with fail
      exact ⟨fx 6, rfl, ⟨hC.1, fun h => hC.2 h⟩, H6.out, fun _ _ _ _ _ h => h⟩
  · intro L fx w' hC hS
    have H7 := Lib.hid (hS 7 (by decide) rfl)
    have HE : Hid (l ++ 1 :: num (zig z) = l ++ [1] ++ num u) := Lib.hid (by rw [HU.out, List.append_assoc]; rfl)
    have HG := Lib.hid (Grew.ahead HB0.out (grew_of hC.1 H7.out.2))
    clear hC hS
    go_wp2_with fail
    go_ret
    exact ⟨_, rfl, by rw [HE.out]; exact H7.out.1, HG.out⟩
end Go.Proofs.YtgcmbiegbclhmaaDoor
