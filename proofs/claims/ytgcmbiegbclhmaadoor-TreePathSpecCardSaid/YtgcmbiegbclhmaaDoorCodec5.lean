/- sizar/codec: the writer of lists of integers. -/
import Derived.Test.YtgcmbiegbclhmaaDoorCodec3
import Derived.Test.YtgcmbiegbclhmaaDoorCodec4
namespace Go.Proofs.YtgcmbiegbclhmaaDoor
open Go.RowKit SzSha SzTree
set_option linter.unusedVariables false
set_option maxRecDepth 100000

def wL (base : Nat) (N : Nat) (b : Nat) (v0 : Value) (l : List Nat) (A : Option Addr) (n : Nat) (c : Nat) : Nat → Value → World → Prop
  | 0, fv, _ => fv = v0
  | 1, fv, fw => ∃ g, fv = .slice (some ⟨g, 0, none⟩) 1 1 ∧ Rd fw fw.heap.size (some ⟨g, 0, none⟩) [3]
  | 2, fv, fw => OwnB fw base fv (l ++ [3]) ∧ OwnG v0 N fv
  | 3, fv, _ => fv = Value.pointer (some ⟨b, 3, none⟩)
  | 4, fv, _ => fv = Value.slice A n c
  | 5, fv, _ => fv = Value.int .i64 (n)
  | 6, fv, _ => fv = Value.int .u64 (n : Nat)
  | 7, fv, fw => OwnB fw base fv (l ++ [3] ++ num n) ∧ OwnG v0 N fv
  | 8, fv, fw => OwnB fw base fv (l ++ [3] ++ num n) ∧ OwnG v0 N fv
  | _, _, _ => True
theorem wL_below {base : Nat} {N : Nat} {b : Nat} {v0 : Value} {l : List Nat} {A : Option Addr} {n : Nat} {c : Nat} {w w' : World} (hb : Below w.heap.size w w') : ∀ j v, wL base N b v0 l A n c j v w → wL base N b v0 l A n c j v w'
  | 0, v, h => h
  | 1, v, ⟨g, h1, h2⟩ => ⟨g, h1, (h2.below hb (Nat.le_refl _)).mono hb.size⟩
  | 2, v, h => ⟨h.1.below hb, h.2⟩
  | 3, v, h => h
  | 4, v, h => h
  | 5, v, h => h
  | 6, v, h => h
  | 7, v, h => ⟨h.1.below hb, h.2⟩
  | 8, v, h => ⟨h.1.below hb, h.2⟩
  | n + 9, v, h => trivial
theorem wL_pure {base : Nat} {N : Nat} {b : Nat} {v0 : Value} {l : List Nat} {A : Option Addr} {n : Nat} {c : Nat} {w w' : World} : ∀ j v, j ≠ 1 → j ≠ 2 → j ≠ 7 → j ≠ 8 → wL base N b v0 l A n c j v w → wL base N b v0 l A n c j v w'
  | 0, v, _, _, _, _, h => h
  | 1, v, hh, _, _, _, _ => absurd rfl hh
  | 2, v, _, hh, _, _, _ => absurd rfl hh
  | 3, v, _, _, _, _, h => h
  | 4, v, _, _, _, _, h => h
  | 5, v, _, _, _, _, h => h
  | 6, v, _, _, _, _, h => h
  | 7, v, _, _, hh, _, _ => absurd rfl hh
  | 8, v, _, _, _, hh, _ => absurd rfl hh
  | n + 9, v, _, _, _, _, h => trivial

def wM (base : Nat) (W2 : World) (wq : Nat) (xb : Nat) (vb : Value) (l : List Nat) (z : Int) : Nat → Value → World → Prop
  | 0, fv, _ => fv = Value.pointer (some ⟨wq, 0, none⟩)
  | 1, fv, _ => fv = Value.pointer (some ⟨xb, 0, none⟩)
  | 2, fv, _ => fv = Value.int .i64 (1)
  | 3, fv, _ => fv = Value.pointer (some ⟨wq, 0, none⟩)
  | 4, fv, _ => fv = Value.pointer (some ⟨wq, 1, none⟩)
  | 5, fv, _ => fv = Value.pointer (some ⟨wq, 1, none⟩)
  | 6, fv, _ => fv = Value.func (.func 64) #[] #[]
  | 7, fv, _ => fv = vb
  | 8, fv, _ => fv = Value.agg #[.int .i64 1, .int .i64 z, .string ⟨#[]⟩, .slice none 0 0]
  | 9, fv, fw => OwnB fw base fv (l ++ 1 :: num (zig z)) ∧ Grew vb fv W2 fw
  | 10, fv, fw => OwnB fw base fv (l ++ 1 :: num (zig z)) ∧ Grew vb fv W2 fw
  | _, _, _ => True
theorem wM_below {base : Nat} {W2 : World} {wq : Nat} {xb : Nat} {vb : Value} {l : List Nat} {z : Int} {w w' : World} (hb : Below w.heap.size w w') : ∀ j v, wM base W2 wq xb vb l z j v w → wM base W2 wq xb vb l z j v w'
  | 0, v, h => h
  | 1, v, h => h
  | 2, v, h => h
  | 3, v, h => h
  | 4, v, h => h
  | 5, v, h => h
  | 6, v, h => h
  | 7, v, h => h
  | 8, v, h => h
  | 9, v, h => ⟨h.1.below hb, h.2.then hb⟩
  | 10, v, h => ⟨h.1.below hb, h.2.then hb⟩
  | n + 11, v, h => trivial
theorem wM_pure {base : Nat} {W2 : World} {wq : Nat} {xb : Nat} {vb : Value} {l : List Nat} {z : Int} {w w' : World} : ∀ j v, j ≠ 9 → j ≠ 10 → wM base W2 wq xb vb l z j v w → wM base W2 wq xb vb l z j v w'
  | 0, v, _, _, h => h
  | 1, v, _, _, h => h
  | 2, v, _, _, h => h
  | 3, v, _, _, h => h
  | 4, v, _, _, h => h
  | 5, v, _, _, h => h
  | 6, v, _, _, h => h
  | 7, v, _, _, h => h
  | 8, v, _, _, h => h
  | 9, v, hh, _, _ => absurd rfl hh
  | 10, v, _, hh, _ => absurd rfl hh
  | n + 11, v, _, _, h => trivial

set_option maxHeartbeats 4000000 in
theorem write_list (zs : List Int) (v0 : Value) (l : List Nat) (A : Option Addr) (c wq wc base : Nat) (w : World) (hz : Hid (∀ z ∈ zs, -9223372036854775808 ≤ z ∧ z ≤ 9223372036854775807)) (hn : zs.length ≤ 1000) (hV : Hid (VRd w w.heap.size A zs)) (hO : Hid (OwnB w base v0 l)) (hl : l.length ≤ 1000) (hb : base ≤ w.heap.size) (hW : Hid (Wr w wq wc))
    (hvq : Hid (v0.ownBlock ≠ some wq)) (hvc : Hid (v0.ownBlock ≠ some wc)) (hvA : Hid (∀ a, A = some a → v0.ownBlock ≠ some a.block)) :
    Calls Tryd.prog 68 #[v0, .agg #[.int .i64 3, .int .i64 0, .string ⟨#[]⟩, .slice A zs.length c], .pointer (some ⟨wc, 0, none⟩)] w fun e w' => ∃ v', e = .returned v' ∧ OwnB w' base v' (l ++ encI zs) ∧ Grew v0 v' w w' := by
  obtain ⟨n, HN⟩ : ∃ n, Hid (zs.length = n) := ⟨_, Lib.hid rfl⟩
  rw [HN.out]
  have hn' : n ≤ 1000 := by rw [← HN.out]; exact hn
  clear hn
  have HB0 := Lib.hid ((Below.refl _ w).alloc (Nat.le_refl _) (.cells #[.int .i64 3, .int .i64 0, .string ⟨#[]⟩, .slice A n c] 76))
  have HO1 := Lib.hid (hO.out.below HB0.out)
  have HC3 : Hid ((w.alloc (.cells #[.int .i64 3, .int .i64 0, .string ⟨#[]⟩, .slice A n c] 76)).cell? ⟨w.heap.size, 3, none⟩ = some (.slice A n c)) := Lib.hid (by rw [cell_of_row _ _ _ _ _ _ (heap_alloc_new w _)]; rfl)
  have HNE : Hid (some w.heap.size ≠ v0.ownBlock) := Lib.hid (fun e => by have := (hO.out.block _ e.symm).2; omega)
  have HWR : Hid (IntKind.u64.wrap (n : Int) = (n : Int)) := Lib.hid (by rw [IntKind.wrap_u64]; omega)
  go_enter Tryd.func68, Tryd.ntmps68
  go_wp2_with fail
  have HBS : Hid (base ≤ (w.alloc (.cells #[.int .i64 3, .int .i64 0, .string ⟨#[]⟩, .slice A n c] 76)).heap.size) := Lib.hid (Nat.le_trans hb HB0.out.size)
  have HZ1 : Hid (w.heap.size < (w.alloc (.cells #[.int .i64 3, .int .i64 0, .string ⟨#[]⟩, .slice A n c] 76)).heap.size) := Lib.hid (by simp)
  generalize w.alloc (.cells #[.int .i64 3, .int .i64 0, .string ⟨#[]⟩, .slice A n c] 76) = W1 at *

  refine region_flow3 (by kernel_rfl) (by kernel_rfl) (fun i => Nat.beq i 8) (fun i => i) (by kernel_rfl) (fun fx => #[fx 8, Value.agg #[.int .i64 3, .int .i64 0, .string ⟨#[]⟩, .slice A n c], Value.pointer (some ⟨wc, 0, none⟩), undef, Value.pointer (some ⟨w.heap.size, 0, none⟩), Value.slice none 0 0, undef, undef, fx 0, fx 1, fx 2, fx 3, fx 4, fx 5, fx 6, fx 7, undef, undef, undef, undef, undef, undef, undef, undef, undef, undef, undef, undef, undef, undef, undef, undef, undef, undef, undef]) (fun i => bif Nat.beq i 8 then v0 else undef) (fun L fx w' => W1.grownBy w' v0.ownBlock ∧ (L 2 = false → OwnB w' base v0 l) ∧ (L 8 = false → fx 8 = v0)) (fun fi fv _ fw => wL base W1.heap.size w.heap.size v0 l A n c fi fv fw) ⟨grown_drew v0 W1, fun _ => HO1.out.below (Below.refl _ _).drew, fun _ => rfl⟩ ?_ ?_
  · refine ⟨?_, ?_, ?_, ?_, ?_, ?_, ?_, ?_, ?_, trivial⟩
    all_goals intro L fx w' hC hi hcl hdn hd
    · have h8 : fx 8 = v0 := hC.2.2 (Bool.eq_false_iff.2 fun h => by have := hcl 7 2 (hcl 8 7 h (by kernel_rfl)) (by kernel_rfl); have := hcl 2 0 this (by kernel_rfl); rw [hi] at this; cases this)
      go_wp2_with fail
      exact ⟨_, by rw [← h8]; rfl, ⟨hC.1, fun h => hC.2.1 h, fun h => hC.2.2 h⟩, rfl, fun _ _ _ _ _ h => h⟩
    · go_wp2_with fail
      have hbb : Below w'.heap.size w' (w'.alloc (.cells #[.int .u8 3] 5)) := (Below.refl _ _).alloc (Nat.le_refl _) _
      exact ⟨_, rfl, ⟨grown_below hC.1 hbb, fun h => (hC.2.1 h).below hbb, fun h => hC.2.2 h⟩, ⟨_, rfl, one_rowU w' 3⟩, fun j v t _ _ h => wL_below hbb j v h⟩
    · have h0 : fx 0 = v0 := hd.1 rfl
      have H1 := Lib.hid (hd.2.1 rfl)
      obtain ⟨g, h1, hR⟩ := H1.out
      have HOv := Lib.hid (hC.2.1 hi)
      have HR := Lib.hid hR
      have HSZ := Lib.hid (Nat.le_trans HBS.out hC.1.size)
      have hlen : l.length + 1 ≤ 1099511627776 := by omega
      refine wpList_append_grew rfl (.tmp 8) (.tmp 9) rfl base v0 l [3] h0 HOv (some ⟨g, 0, none⟩) 1 1 h1 (Lib.hid rfl) (fun h => by cases h) HR hlen HSZ.out ?_
      intro v2 w2 HO2 HG2
      clear hd
      go_wp2_with fail
      refine ⟨v2, by rw [← h0, ← h1]; rfl, ⟨grown_grew hC.1 (.inl rfl) HG2.out, fun h => (updB_self h).elim, fun h => hC.2.2 h⟩, ⟨HO2.out, OwnG.of_grew hC.1.size (.inl rfl) HG2.out⟩, fun j v t hj hu h => ?_⟩
      refine wL_pure j v ?_ ?_ ?_ ?_ h <;> intro e <;> subst e
      · refine absurd hu (not_needed (E := fun i => Nat.beq i 8) (j := 1) [2] ?_ ?_ ?_)
        · kernel_rfl
        · kernel_rfl
        · intro m hm hne; simp at hm; omega
      · rw [hi] at hj; cases hj
      · have := hcl 7 2 hj (by kernel_rfl); rw [hi] at this; cases this
      · have := hcl 7 2 (hcl 8 7 hj (by kernel_rfl)) (by kernel_rfl); rw [hi] at this; cases this
    · go_wp2_with fail
      exact ⟨_, rfl, ⟨hC.1, fun h => hC.2.1 h, fun h => hC.2.2 h⟩, rfl, fun _ _ _ _ _ h => h⟩
    · have h3 : fx 3 = Value.pointer (some ⟨w.heap.size, 3, none⟩) := hd.1 rfl
      have hc : w'.cell? ⟨w.heap.size, 3, none⟩ = some (.slice A n c) := hC.1.cell HC3.out HNE.out
      go_wp2_with fail
      exact ⟨_, by rw [← h3]; rfl, ⟨hC.1, fun h => hC.2.1 h, fun h => hC.2.2 h⟩, rfl, fun _ _ _ _ _ h => h⟩
    · have h4 : fx 4 = Value.slice A n c := hd.1 rfl
      go_wp2_with fail
      exact ⟨_, by rw [← h4]; rfl, ⟨hC.1, fun h => hC.2.1 h, fun h => hC.2.2 h⟩, rfl, fun _ _ _ _ _ h => h⟩
    · have h5 : fx 5 = Value.int .i64 (n) := hd.1 rfl
      have hw : IntKind.u64.wrap (n : Int) = (n : Int) := HWR.out
      go_wp2_with fail
      exact ⟨_, by rw [← h5]; rfl, ⟨hC.1, fun h => hC.2.1 h, fun h => hC.2.2 h⟩, rfl, fun _ _ _ _ _ h => h⟩
    · have H2 := Lib.hid (hd.1 rfl)
      have h6 : fx 6 = Value.int .u64 (n : Nat) := hd.2.1 rfl
      have HSZ := Lib.hid (Nat.le_trans HBS.out hC.1.size)
      go_wp2_with fail
      refine (numeral_any (fx 2) (l ++ [3]) n base _ (Lib.hid H2.out.1) (by simp; omega) (by omega) HSZ.out).mono ?_
      rintro e w2 ⟨v2, rfl, hO2, hG2⟩
      have HO2 := Lib.hid hO2
      have HG2 := Lib.hid hG2
      clear hO2 hG2
      go_wp2_with fail
      refine ⟨v2, by rw [← h6]; rfl, ⟨grown_grew hC.1 H2.out.2 HG2.out, (fun h => by have h2 : L 2 = false := h; have := hdn 2 (by kernel_rfl); rw [h2] at this; cases this), fun h => hC.2.2 h⟩, ⟨HO2.out, OwnG.of_grew hC.1.size H2.out.2 HG2.out⟩, fun j v t hj hu h => ?_⟩
      refine wL_pure j v ?_ ?_ ?_ ?_ h <;> intro e <;> subst e
      · refine absurd hu (not_needed (E := fun i => Nat.beq i 8) (j := 1) [2] ?_ ?_ ?_)
        · kernel_rfl
        · kernel_rfl
        · intro m hm hne; simp at hm; subst hm; exact hdn 2 (by kernel_rfl)
      · refine absurd hu (not_needed (E := fun i => Nat.beq i 8) (j := 2) [7] ?_ ?_ ?_)
        · kernel_rfl
        · kernel_rfl
        · intro m hm hne; simp at hm; omega
      · rw [hi] at hj; cases hj
      · have := hcl 8 7 hj (by kernel_rfl); rw [hi] at this; cases this
    · have H7 := Lib.hid (hd.1 rfl)
      go_wp2_with fail
      exact ⟨fx 7, rfl, ⟨hC.1, fun h => hC.2.1 h, fun h => (updB_self h).elim⟩, H7.out, fun _ _ _ _ _ h => h⟩
  · intro L fo w' hC hS
    have H8 := Lib.hid (hS 8 (by decide) rfl)

    have HC3' := Lib.hid (hC.1.cell HC3.out HNE.out)
    have hc3 := HC3'.out
    have HG1 := Lib.hid (Grew.ahead HB0.out (grew_of hC.1 H8.out.2))
    clear hC hS HC3
    go_wp2_with fail
    clear hc3
    go_loopw [0, 19] (fun vb i wr => ∃ j : Nat, j ≤ n ∧ i = .int .i64 j ∧ Hid (OwnB wr base vb (l ++ [3] ++ num n ++ (zs.take j).flatMap fun z => 1 :: num (zig z))) ∧ Hid (Grew v0 vb w wr)) (fun _ i _ => n - (intOf i).toNat)
    case atStart => exact ⟨0, by omega, rfl, Lib.hid (by rw [List.take_zero, List.flatMap_nil, List.append_nil]; exact H8.out.1), HG1⟩
    case round =>
      clear H8 HG1 HC3' HBS HZ1 HWR HNE HO1 HB0
      obtain ⟨j, hj, rfl, hO2, HG⟩ := hrel
      by_cases hlt : j < n
      · obtain ⟨g, rfl, hg, hv⟩ := hV.out (by rw [HN.out]; omega)
        have hgk : some g ≠ v0.ownBlock := fun e => hvA.out _ rfl e.symm
        have hv2 := hv j (by rw [HN.out]; exact hlt)
        obtain ⟨z, HZ⟩ : ∃ z, Hid (zs[j]'(by rw [HN.out]; exact hlt) = z) := ⟨_, Lib.hid rfl⟩
        rw [HZ.out, Nat.zero_add] at hv2
        obtain ⟨k0, k1, k2, k3⟩ := hv2
        replace k0 := HG.out.1.cell k0 hgk
        replace k1 := HG.out.1.cell k1 hgk
        replace k2 := HG.out.1.cell k2 hgk
        replace k3 := HG.out.1.cell k3 hgk
        have HWR := Lib.hid (show Wr wr wq wc from ⟨HG.out.1.cell hW.out.c1 (fun e => hvq.out e.symm), HG.out.1.cell hW.out.c3 (fun e => hvq.out e.symm), HG.out.1.cell hW.out.p (fun e => hvc.out e.symm)⟩)
        have d1 : decide ((j : Int) < (n : Int)) = true := decide_eq_true (by omega)
        have ZB : Hid (-9223372036854775808 ≤ z ∧ z ≤ 9223372036854775807) := Lib.hid (by rw [← HZ.out]; exact hz.out _ (List.getElem_mem _))
        have HLN : Hid ((l ++ [3] ++ num n ++ (zs.take j).flatMap fun z => 1 :: num (zig z)).length ≤ 1000000) := Lib.hid (by
          have h1 := flat_length (zs.take j)
          have h2 := numB_length 10 n
          have h3 : (zs.take j).length ≤ 1000 := by rw [List.length_take]; omega
          simp only [List.length_append, List.length_cons, List.length_nil, num] at *
          omega)
        have HNX : Hid ((l ++ [3] ++ num n ++ (zs.take j).flatMap fun z => 1 :: num (zig z)) ++ 1 :: num (zig z) = l ++ [3] ++ num n ++ (zs.take (j + 1)).flatMap fun z => 1 :: num (zig z)) := Lib.hid (by
          rw [List.take_succ_eq_append_getElem (by rw [HN.out]; exact hlt), List.flatMap_append, HZ.out]; simp)
        obtain ⟨l2, HL2⟩ : ∃ l2, Hid ((l ++ [3] ++ num n ++ (zs.take j).flatMap fun z => 1 :: num (zig z)) = l2) := ⟨_, Lib.hid rfl⟩
        rw [HL2.out] at hO2 HLN HNX
        have HVZ := Lib.hid hv
        clear hv
        go_wp2_with fail
        clear k0 k1 k2 k3
        have HB2 := Lib.hid ((Below.refl _ wr).alloc (Nat.le_refl _) (.cells #[.int .i64 1, .int .i64 z, .string ⟨#[]⟩, .slice none 0 0] 76))
        have HO2 := Lib.hid (hO2.out.below HB2.out)
        have HW2 := Lib.hid (HWR.out.below HB2.out)
        have HX := heap_alloc_new wr (.cells #[.int .i64 1, .int .i64 z, .string ⟨#[]⟩, .slice none 0 0] 76)
        have HX0 : Hid ((wr.alloc (.cells #[.int .i64 1, .int .i64 z, .string ⟨#[]⟩, .slice none 0 0] 76)).cell? ⟨wr.heap.size, 0, none⟩ = some (.int .i64 1)) := Lib.hid (by rw [cell_of_row _ _ _ _ _ _ HX]; rfl)
        have HX1 : Hid ((wr.alloc (.cells #[.int .i64 1, .int .i64 z, .string ⟨#[]⟩, .slice none 0 0] 76)).cell? ⟨wr.heap.size, 1, none⟩ = some (.int .i64 z)) := Lib.hid (by rw [cell_of_row _ _ _ _ _ _ HX]; rfl)
        have HX2 : Hid ((wr.alloc (.cells #[.int .i64 1, .int .i64 z, .string ⟨#[]⟩, .slice none 0 0] 76)).cell? ⟨wr.heap.size, 2, none⟩ = some (.string ⟨#[]⟩)) := Lib.hid (by rw [cell_of_row _ _ _ _ _ _ HX]; rfl)
        have HX3 : Hid ((wr.alloc (.cells #[.int .i64 1, .int .i64 z, .string ⟨#[]⟩, .slice none 0 0] 76)).cell? ⟨wr.heap.size, 3, none⟩ = some (.slice none 0 0)) := Lib.hid (by rw [cell_of_row _ _ _ _ _ _ HX]; rfl)
        have HBW : Hid (base ≤ (wr.alloc (.cells #[.int .i64 1, .int .i64 z, .string ⟨#[]⟩, .slice none 0 0] 76)).heap.size) := Lib.hid (Nat.le_trans (Nat.le_trans hb HG.out.1.size) HB2.out.size)
        clear HX
        generalize wr.alloc (.cells #[.int .i64 1, .int .i64 z, .string ⟨#[]⟩, .slice none 0 0] 76) = W2 at *

        refine region_flow3 (by kernel_rfl) (by kernel_rfl) (fun i => Nat.beq i 10) (fun i => i) (by kernel_rfl) (fun fx => #[fx 10, Value.agg #[Value.int IntKind.i64 3, Value.int IntKind.i64 0, Value.string { data := #[] }, Value.slice (some { block := g, off := 0 }) n c], Value.pointer (some { block := wc, off := 0 }), undef, Value.pointer (some { block := w.heap.size, off := 0 }), Value.slice none 0 0, undef, Value.pointer (some { block := wr.heap.size, off := 0 }), fo 0, fo 1, fo 2, fo 3, fo 4, fo 5, fo 6, fo 7, Value.pointer (some { block := w.heap.size, off := 3 }), Value.slice (some { block := g, off := 0 }) n c, Value.int IntKind.i64 ↑n, Value.int IntKind.i64 ↑j, Value.bool true, Value.pointer (some { block := g, off := j * 4 }), Value.agg #[Value.int IntKind.i64 1, Value.int IntKind.i64 z, Value.string { data := #[] }, Value.slice none 0 0], fx 0, fx 1, fx 2, fx 3, fx 4, fx 5, fx 6, fx 7, fx 8, fx 9, u33, undef]) (fun i => bif Nat.beq i 0 then u23 else bif Nat.beq i 1 then u24 else bif Nat.beq i 2 then u25 else bif Nat.beq i 3 then u26 else bif Nat.beq i 4 then u27 else bif Nat.beq i 5 then u28 else bif Nat.beq i 6 then u29 else bif Nat.beq i 7 then u30 else bif Nat.beq i 8 then u31 else bif Nat.beq i 9 then u32 else bif Nat.beq i 10 then u0 else undef) (fun L fx w' => (L 9 = false → Below W2.heap.size W2 w') ∧ (L 10 = false → fx 10 = u0)) (fun fi fv _ fw => wM base W2 wq wr.heap.size u0 l2 z fi fv fw) ⟨fun _ => (Below.refl _ _).drew, fun _ => rfl⟩ ?_ ?_
        · refine ⟨?_, ?_, ?_, ?_, ?_, ?_, ?_, ?_, ?_, ?_, ?_, trivial⟩
          all_goals intro L fx w' hC hi hcl hdn hd
          · have hnd : L 9 = false := Bool.eq_false_iff.2 (fun h => by have := (hcl 3 0 (hcl 4 3 (hcl 5 4 (hcl 6 5 (hcl 9 6 h (by kernel_rfl)) (by kernel_rfl)) (by kernel_rfl)) (by kernel_rfl)) (by kernel_rfl)); rw [hi] at this; cases this)
            have hc := ((hC.1 hnd).cell (block_lt_of_cell HW2.out.p)).trans HW2.out.p
            go_wp2_with fail
            exact ⟨_, rfl, ⟨fun _ => hC.1 hnd, fun h => hC.2 h⟩, rfl, fun _ _ _ _ _ h => h⟩
          · have hnd : L 9 = false := Bool.eq_false_iff.2 (fun h => by have := (hcl 2 1 (hcl 4 2 (hcl 5 4 (hcl 6 5 (hcl 9 6 h (by kernel_rfl)) (by kernel_rfl)) (by kernel_rfl)) (by kernel_rfl)) (by kernel_rfl)); rw [hi] at this; cases this)
            go_wp2_with fail
            exact ⟨_, rfl, ⟨fun _ => hC.1 hnd, fun h => hC.2 h⟩, rfl, fun _ _ _ _ _ h => h⟩
          · have h1 : fx 1 = Value.pointer (some ⟨wr.heap.size, 0, none⟩) := hd.1 rfl
            have hnd : L 9 = false := Bool.eq_false_iff.2 (fun h => by have := (hcl 4 2 (hcl 5 4 (hcl 6 5 (hcl 9 6 h (by kernel_rfl)) (by kernel_rfl)) (by kernel_rfl)) (by kernel_rfl)); rw [hi] at this; cases this)
            have hc := ((hC.1 hnd).cell (block_lt_of_cell HX0.out)).trans HX0.out
            go_wp2_with fail
            exact ⟨_, by rw [← h1]; rfl, ⟨fun _ => hC.1 hnd, fun h => hC.2 h⟩, rfl, fun _ _ _ _ _ h => h⟩
          · have h0 : fx 0 = Value.pointer (some ⟨wq, 0, none⟩) := hd.1 rfl
            have hnd : L 9 = false := Bool.eq_false_iff.2 (fun h => by have := (hcl 4 3 (hcl 5 4 (hcl 6 5 (hcl 9 6 h (by kernel_rfl)) (by kernel_rfl)) (by kernel_rfl)) (by kernel_rfl)); rw [hi] at this; cases this)
            go_wp2_with fail
            exact ⟨_, by rw [← h0]; rfl, ⟨fun _ => hC.1 hnd, fun h => hC.2 h⟩, rfl, fun _ _ _ _ _ h => h⟩
          · have h3 : fx 3 = Value.pointer (some ⟨wq, 0, none⟩) := hd.1 rfl
            have h2 : fx 2 = Value.int .i64 (1) := hd.2.1 rfl
            have hnd : L 9 = false := Bool.eq_false_iff.2 (fun h => by have := (hcl 5 4 (hcl 6 5 (hcl 9 6 h (by kernel_rfl)) (by kernel_rfl)) (by kernel_rfl)); rw [hi] at this; cases this)
            go_wp2_with fail
            exact ⟨_, by rw [← h3, ← h2]; rfl, ⟨fun _ => hC.1 hnd, fun h => hC.2 h⟩, rfl, fun _ _ _ _ _ h => h⟩
          · have h4 : fx 4 = Value.pointer (some ⟨wq, 1, none⟩) := hd.1 rfl
            have hnd : L 9 = false := Bool.eq_false_iff.2 (fun h => by have := (hcl 6 5 (hcl 9 6 h (by kernel_rfl)) (by kernel_rfl)); rw [hi] at this; cases this)
            go_wp2_with fail
            exact ⟨_, by rw [← h4]; rfl, ⟨fun _ => hC.1 hnd, fun h => hC.2 h⟩, rfl, fun _ _ _ _ _ h => h⟩
          · have h5 : fx 5 = Value.pointer (some ⟨wq, 1, none⟩) := hd.1 rfl
            have hnd : L 9 = false := Bool.eq_false_iff.2 (fun h => by have := (hcl 9 6 h (by kernel_rfl)); rw [hi] at this; cases this)
            have hc := ((hC.1 hnd).cell (block_lt_of_cell HW2.out.c1)).trans HW2.out.c1
            go_wp2_with fail
            exact ⟨_, by rw [← h5]; rfl, ⟨fun _ => hC.1 hnd, fun h => hC.2 h⟩, rfl, fun _ _ _ _ _ h => h⟩
          · have hnd : L 9 = false := Bool.eq_false_iff.2 (fun h => by have := (hcl 9 7 h (by kernel_rfl)); rw [hi] at this; cases this)
            have h10 : fx 10 = u0 := hC.2 (Bool.eq_false_iff.2 (fun h => by have := (hcl 9 7 (hcl 10 9 h (by kernel_rfl)) (by kernel_rfl)); rw [hi] at this; cases this))
            go_wp2_with fail
            exact ⟨_, by rw [← h10]; rfl, ⟨fun _ => hC.1 hnd, fun h => hC.2 h⟩, rfl, fun _ _ _ _ _ h => h⟩
          · have hnd : L 9 = false := Bool.eq_false_iff.2 (fun h => by have := (hcl 9 8 h (by kernel_rfl)); rw [hi] at this; cases this)
            have hc0 := ((hC.1 hnd).cell (block_lt_of_cell HX0.out)).trans HX0.out
            have hc1 := ((hC.1 hnd).cell (block_lt_of_cell HX1.out)).trans HX1.out
            have hc2 := ((hC.1 hnd).cell (block_lt_of_cell HX2.out)).trans HX2.out
            have hc3 := ((hC.1 hnd).cell (block_lt_of_cell HX3.out)).trans HX3.out
            go_wp2_with fail
            exact ⟨_, rfl, ⟨fun _ => hC.1 hnd, fun h => hC.2 h⟩, rfl, fun _ _ _ _ _ h => h⟩
          · have h6 : fx 6 = Value.func (.func 64) #[] #[] := hd.1 rfl
            have h7 : fx 7 = u0 := hd.2.1 rfl
            have h8 : fx 8 = Value.agg #[.int .i64 1, .int .i64 z, .string ⟨#[]⟩, .slice none 0 0] := hd.2.2.1 rfl
            have hb9 := hC.1 hi
            have HOv := Lib.hid (HO2.out.below hb9)
            go_wp2_with fail
            refine (write_int u0 l2 z base _ ZB.out.1 ZB.out.2 HOv HLN.out (Nat.le_trans HBW.out hb9.size)).mono ?_
            rintro e w2 ⟨v2, rfl, hO3, hG3⟩
            have HO3 := Lib.hid hO3
            have HG3 := Lib.hid hG3
            clear hO3 hG3
            go_wp2_with fail
            refine ⟨v2, by rw [← h8, ← h6, ← h7]; rfl, ⟨fun h => (updB_self h).elim, fun h => hC.2 h⟩, ⟨HO3.out, Grew.ahead hb9 HG3.out⟩, fun j v t hj hu h => ?_⟩
            refine wM_pure j v ?_ ?_ h <;> intro e <;> subst e
            · rw [hi] at hj; cases hj
            · have := hcl 10 9 hj (by kernel_rfl); rw [hi] at this; cases this
          · have H9 := Lib.hid (hd.1 rfl)
            go_wp2_with fail
            exact ⟨fx 9, rfl, ⟨fun h => hC.1 h, fun h => (updB_self h).elim⟩, H9.out, fun _ _ _ _ _ h => h⟩
        · intro L fx w' hC hS
          have H10 := Lib.hid (hS 10 (by decide) rfl)

          have HO9 : Hid (OwnB w' base (fx 10) (l ++ [3] ++ num n ++ (zs.take (j + 1)).flatMap fun z => 1 :: num (zig z))) := Lib.hid (by rw [← HNX.out]; exact H10.out.1)
          have HG9 := Lib.hid (HG.out.trans (Grew.ahead HB2.out H10.out.2))
          clear hC hS H10
          go_wp2_with fail
          go_roundw
          case rel => exact ⟨j + 1, by omega, by go_num, HO9, HG9⟩
          case measure => simp [intOf]; omega
      · have d1 : decide ((j : Int) < (n : Int)) = false := decide_eq_false (by omega)
        have HE : Hid (l ++ encI zs = l ++ [3] ++ num n ++ (zs.take j).flatMap fun z => 1 :: num (zig z)) := Lib.hid (by
          rw [List.take_of_length_le (by rw [HN.out]; omega)]; unfold encI; rw [HN.out]; simp)
        go_wp2_with fail
        go_ret
        exact ⟨_, rfl, by rw [HE.out]; exact hO2.out, HG.out⟩
end Go.Proofs.YtgcmbiegbclhmaaDoor
