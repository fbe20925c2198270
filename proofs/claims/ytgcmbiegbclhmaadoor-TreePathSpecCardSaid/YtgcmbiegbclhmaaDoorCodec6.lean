/- sizar/codec.Encode of a list of integers. -/
import Derived.Test.YtgcmbiegbclhmaaDoorCodec5
namespace Go.Proofs.YtgcmbiegbclhmaaDoor
open Go.RowKit SzSha SzTree
set_option linter.unusedVariables false
set_option maxRecDepth 100000

def wE (N : Nat) (W1 : World) (b : Nat) (zs : List Int) (A : Option Addr) (n : Nat) (c : Nat) : Nat → Value → World → Prop
  | 0, fv, fw => ∃ q c2, fv = Value.pointer (some ⟨q, 0, none⟩) ∧ Wr fw q c2 ∧ N ≤ q ∧ N ≤ c2
  | 1, fv, _ => fv = Value.pointer (some ⟨b, 0, none⟩)
  | 2, fv, _ => fv = Value.int .i64 (3)
  | 3, fv, fw => ∃ q c2, fv = Value.pointer (some ⟨q, 0, none⟩) ∧ Wr fw q c2 ∧ N ≤ q ∧ N ≤ c2
  | 4, fv, fw => ∃ q c2, fv = Value.pointer (some ⟨q, 3, none⟩) ∧ Wr fw q c2 ∧ N ≤ q ∧ N ≤ c2
  | 5, fv, fw => ∃ q c2, fv = Value.pointer (some ⟨q, 3, none⟩) ∧ Wr fw q c2 ∧ N ≤ q ∧ N ≤ c2
  | 6, fv, fw => ∃ q c2, fv = Value.func (.func 68) #[] #[.pointer (some ⟨c2, 0, none⟩)] ∧ Wr fw q c2 ∧ N ≤ q ∧ N ≤ c2
  | 7, fv, _ => fv = Value.agg #[.int .i64 3, .int .i64 0, .string ⟨#[]⟩, .slice A n c]
  | 8, fv, fw => OwnB fw N fv (encI zs) ∧ Below N W1 fw
  | 9, fv, fw => OwnB fw N fv (encI zs) ∧ Below N W1 fw
  | 10, fv, _ => fv = Value.int .i64 (0)
  | _, _, _ => True
theorem wE_below {N : Nat} {W1 : World} {b : Nat} {zs : List Int} {A : Option Addr} {n : Nat} {c : Nat} {w w' : World} (hN : N ≤ W1.heap.size) (hb : Below w.heap.size w w') : ∀ j v, wE N W1 b zs A n c j v w → wE N W1 b zs A n c j v w'
  | 0, v, ⟨q, c2, h1, h2, h3⟩ => ⟨q, c2, h1, h2.below hb, h3⟩
  | 1, v, h => h
  | 2, v, h => h
  | 3, v, ⟨q, c2, h1, h2, h3⟩ => ⟨q, c2, h1, h2.below hb, h3⟩
  | 4, v, ⟨q, c2, h1, h2, h3⟩ => ⟨q, c2, h1, h2.below hb, h3⟩
  | 5, v, ⟨q, c2, h1, h2, h3⟩ => ⟨q, c2, h1, h2.below hb, h3⟩
  | 6, v, ⟨q, c2, h1, h2, h3⟩ => ⟨q, c2, h1, h2.below hb, h3⟩
  | 7, v, h => h
  | 8, v, h => ⟨h.1.below hb, h.2.trans (hb.mono (Nat.le_trans hN h.2.size))⟩
  | 9, v, h => ⟨h.1.below hb, h.2.trans (hb.mono (Nat.le_trans hN h.2.size))⟩
  | 10, v, h => h
  | n + 11, v, h => trivial
theorem wE_pure {N : Nat} {W1 : World} {b : Nat} {zs : List Int} {A : Option Addr} {n : Nat} {c : Nat} {w w' : World} : ∀ j v, j ≠ 0 → j ≠ 3 → j ≠ 4 → j ≠ 5 → j ≠ 6 → j ≠ 8 → j ≠ 9 → wE N W1 b zs A n c j v w → wE N W1 b zs A n c j v w'
  | 0, v, hh, _, _, _, _, _, _, _ => absurd rfl hh
  | 1, v, _, _, _, _, _, _, _, h => h
  | 2, v, _, _, _, _, _, _, _, h => h
  | 3, v, _, hh, _, _, _, _, _, _ => absurd rfl hh
  | 4, v, _, _, hh, _, _, _, _, _ => absurd rfl hh
  | 5, v, _, _, _, hh, _, _, _, _ => absurd rfl hh
  | 6, v, _, _, _, _, hh, _, _, _ => absurd rfl hh
  | 7, v, _, _, _, _, _, _, _, h => h
  | 8, v, _, _, _, _, _, hh, _, _ => absurd rfl hh
  | 9, v, _, _, _, _, _, _, hh, _ => absurd rfl hh
  | 10, v, _, _, _, _, _, _, _, h => h
  | n + 11, v, _, _, _, _, _, _, _, h => trivial

set_option maxHeartbeats 4000000 in
theorem encode_list (zs : List Int) (A : Option Addr) (c : Nat) (w : World) (hz : Hid (∀ z ∈ zs, -9223372036854775808 ≤ z ∧ z ≤ 9223372036854775807)) (hn : zs.length ≤ 1000) (hV : Hid (VRd w w.heap.size A zs)) :
    Calls Tryd.prog 45 #[.agg #[.int .i64 3, .int .i64 0, .string ⟨#[]⟩, .slice A zs.length c]] w fun e w' => ∃ v', e = .returned (.tuple #[v', .int .i64 0]) ∧ OwnB w' w.heap.size v' (encI zs) ∧ Below w.heap.size w w' := by
  obtain ⟨n, HN⟩ : ∃ n, Hid (zs.length = n) := ⟨_, Lib.hid rfl⟩
  rw [HN.out]
  have hn' : n ≤ 1000 := by rw [← HN.out]; exact hn
  have HB0 := Lib.hid ((Below.refl _ w).alloc (Nat.le_refl _) (.cells #[.int .i64 3, .int .i64 0, .string ⟨#[]⟩, .slice A n c] 76))
  have HX := heap_alloc_new w (.cells #[.int .i64 3, .int .i64 0, .string ⟨#[]⟩, .slice A n c] 76)
  have HX' := Lib.hid HX
  have HVA := Lib.hid (hV.out.below HB0.out)
  clear HX
  go_enter Tryd.func45, Tryd.ntmps45
  go_wp2_with fail
  have hck := vcheck_list zs A c (w.alloc (.cells #[.int .i64 3, .int .i64 0, .string ⟨#[]⟩, .slice A n c] 76)) hn HVA
  rw [HN.out] at hck
  refine hck.mono ?_
  rintro e W1 ⟨rfl, hq⟩
  have HB1 := Lib.hid (HB0.out.trans (hq.mono HB0.out.size))
  have HX1' := Lib.hid ((hq.block w.heap.size (by simp)).trans HX'.out)
  have hV1 := Lib.hid (hV.out.below HB1.out)
  have HX0 : Hid (W1.cell? ⟨w.heap.size, 0, none⟩ = some (.int .i64 3)) := Lib.hid (by rw [cell_of_row _ _ _ _ _ _ HX1'.out]; rfl)
  have HX1 : Hid (W1.cell? ⟨w.heap.size, 1, none⟩ = some (.int .i64 0)) := Lib.hid (by rw [cell_of_row _ _ _ _ _ _ HX1'.out]; rfl)
  have HX2 : Hid (W1.cell? ⟨w.heap.size, 2, none⟩ = some (.string ⟨#[]⟩)) := Lib.hid (by rw [cell_of_row _ _ _ _ _ _ HX1'.out]; rfl)
  have HX3 : Hid (W1.cell? ⟨w.heap.size, 3, none⟩ = some (.slice A n c)) := Lib.hid (by rw [cell_of_row _ _ _ _ _ _ HX1'.out]; rfl)
  have hN1 : Hid (w.heap.size ≤ W1.heap.size) := Lib.hid HB1.out.size
  obtain ⟨N, HNN⟩ : ∃ N, N = w.heap.size := ⟨_, rfl⟩
  clear hq hck HX1' HX' HVA HNN hn N
  go_wp2_with fail

  refine region_flow3 (by kernel_rfl) (by kernel_rfl) (fun i => Nat.beq i 9 || Nat.beq i 10) (fun i => i) (by kernel_rfl) (fun fx => #[Value.agg #[.int .i64 3, .int .i64 0, .string ⟨#[]⟩, .slice A n c], Value.pointer (some ⟨w.heap.size, 0, none⟩), fx 9, fx 10, Value.int .i64 (0), Value.agg #[.int .i64 3, .int .i64 0, .string ⟨#[]⟩, .slice A n c], Value.int .i64 (0), Value.int .i64 (0), Value.bool false, undef, fx 0, fx 1, fx 2, fx 3, fx 4, fx 5, fx 6, fx 7, fx 8]) (fun i => bif Nat.beq i 9 then Value.slice none 0 0 else bif Nat.beq i 10 then Value.int .i64 0 else undef) (fun L _ w' => (L 8 = false → Below W1.heap.size W1 w')) (fun fi fv _ fw => wE w.heap.size W1 w.heap.size zs A n c fi fv fw) (fun _ => (Below.refl _ _).drew) ?_ ?_
  · refine ⟨?_, ?_, ?_, ?_, ?_, ?_, ?_, ?_, ?_, ?_, ?_, trivial⟩
    all_goals intro L fx w' hC hi hcl hdn hd
    · have hnd : L 8 = false := Bool.eq_false_iff.2 (fun h => by have := (hcl 3 0 (hcl 4 3 (hcl 5 4 (hcl 6 5 (hcl 8 6 h (by kernel_rfl)) (by kernel_rfl)) (by kernel_rfl)) (by kernel_rfl)) (by kernel_rfl)); rw [hi] at this; cases this)
      go_wp2_with fail
      refine (newWriter_any _).mono ?_
      rintro e w2 ⟨rfl, hw2, hb2⟩
      have HW2 := Lib.hid hw2
      have HB2 := Lib.hid hb2
      clear hw2 hb2
      go_wp2_with fail
      have hs := (hC hnd).size
      exact ⟨_, rfl, fun _ => (hC hnd).trans (HB2.out.mono hs), ⟨_, _, rfl, HW2.out, Nat.le_trans hN1.out hs, Nat.le_trans (Nat.le_trans hN1.out hs) (Nat.le_succ _)⟩, fun j v t _ _ h => wE_below hN1.out HB2.out j v h⟩
    · have hnd : L 8 = false := Bool.eq_false_iff.2 (fun h => by have := (hcl 2 1 (hcl 4 2 (hcl 5 4 (hcl 6 5 (hcl 8 6 h (by kernel_rfl)) (by kernel_rfl)) (by kernel_rfl)) (by kernel_rfl)) (by kernel_rfl)); rw [hi] at this; cases this)
      go_wp2_with fail
      exact ⟨_, rfl, (fun _ => hC hnd), rfl, fun _ _ _ _ _ h => h⟩
    · have h1 : fx 1 = Value.pointer (some ⟨w.heap.size, 0, none⟩) := hd.1 rfl
      have hnd : L 8 = false := Bool.eq_false_iff.2 (fun h => by have := (hcl 4 2 (hcl 5 4 (hcl 6 5 (hcl 8 6 h (by kernel_rfl)) (by kernel_rfl)) (by kernel_rfl)) (by kernel_rfl)); rw [hi] at this; cases this)
      have hc := ((hC hnd).cell (block_lt_of_cell HX0.out)).trans HX0.out
      go_wp2_with fail
      exact ⟨_, by rw [← h1]; rfl, (fun _ => hC hnd), rfl, fun _ _ _ _ _ h => h⟩
    · have H0 := Lib.hid (hd.1 rfl)
      have hnd : L 8 = false := Bool.eq_false_iff.2 (fun h => by have := (hcl 4 3 (hcl 5 4 (hcl 6 5 (hcl 8 6 h (by kernel_rfl)) (by kernel_rfl)) (by kernel_rfl)) (by kernel_rfl)); rw [hi] at this; cases this)
      obtain ⟨q, c2, h0, hw, hq⟩ := H0.out
      have HWq := Lib.hid hw
      clear hw
      go_wp2_with fail
      exact ⟨_, by rw [← h0]; rfl, fun _ => hC hnd, ⟨q, c2, rfl, HWq.out, hq⟩, fun _ _ _ _ _ h => h⟩
    · have H3 := Lib.hid (hd.1 rfl)
      have h2 : fx 2 = Value.int .i64 (3) := hd.2.1 rfl
      have hnd : L 8 = false := Bool.eq_false_iff.2 (fun h => by have := (hcl 5 4 (hcl 6 5 (hcl 8 6 h (by kernel_rfl)) (by kernel_rfl)) (by kernel_rfl)); rw [hi] at this; cases this)
      obtain ⟨q, c2, h3, hw, hq⟩ := H3.out
      have HWq := Lib.hid hw
      clear hw
      go_wp2_with fail
      exact ⟨_, by rw [← h3, ← h2]; rfl, fun _ => hC hnd, ⟨q, c2, rfl, HWq.out, hq⟩, fun _ _ _ _ _ h => h⟩
    · have H4 := Lib.hid (hd.1 rfl)
      have hnd : L 8 = false := Bool.eq_false_iff.2 (fun h => by have := (hcl 6 5 (hcl 8 6 h (by kernel_rfl)) (by kernel_rfl)); rw [hi] at this; cases this)
      obtain ⟨q, c2, h4, hw, hq⟩ := H4.out
      have HWq := Lib.hid hw
      clear hw
      go_wp2_with fail
      exact ⟨_, by rw [← h4]; rfl, fun _ => hC hnd, ⟨q, c2, rfl, HWq.out, hq⟩, fun _ _ _ _ _ h => h⟩
    · have H5 := Lib.hid (hd.1 rfl)
      have hnd : L 8 = false := Bool.eq_false_iff.2 (fun h => by have := (hcl 8 6 h (by kernel_rfl)); rw [hi] at this; cases this)
      obtain ⟨q, c2, h5, hw, hq⟩ := H5.out
      have HWq := Lib.hid hw
      have hc3 := hw.c3
      clear hw
      go_wp2_with fail
      exact ⟨_, by rw [← h5]; rfl, fun _ => hC hnd, ⟨q, c2, rfl, HWq.out, hq⟩, fun _ _ _ _ _ h => h⟩
    · have hnd : L 8 = false := Bool.eq_false_iff.2 (fun h => by have := (hcl 8 7 h (by kernel_rfl)); rw [hi] at this; cases this)
      have hc0 := ((hC hnd).cell (block_lt_of_cell HX0.out)).trans HX0.out
      have hc1 := ((hC hnd).cell (block_lt_of_cell HX1.out)).trans HX1.out
      have hc2 := ((hC hnd).cell (block_lt_of_cell HX2.out)).trans HX2.out
      have hc3 := ((hC hnd).cell (block_lt_of_cell HX3.out)).trans HX3.out
      go_wp2_with fail
      exact ⟨_, rfl, (fun _ => hC hnd), rfl, fun _ _ _ _ _ h => h⟩
    · have H6 := Lib.hid (hd.1 rfl)
      have h7 : fx 7 = Value.agg #[.int .i64 3, .int .i64 0, .string ⟨#[]⟩, .slice A n c] := hd.2.1 rfl
      obtain ⟨q, c2, h6, hw, hq1, hq2⟩ := H6.out
      have HWq := Lib.hid hw
      have hb8 := hC hi
      clear hw
      have HV8 := Lib.hid (hV1.out.below hb8)
      go_wp2_with fail
      have HWL := write_list zs (.slice none 0 0) [] A c q c2 w.heap.size w' hz (by rw [HN.out]; exact hn') HV8 (Lib.hid (OwnB.nil _ _)) (by simp) (Nat.le_trans hN1.out hb8.size) HWq (Lib.hid (fun e => by cases e)) (Lib.hid (fun e => by cases e)) (Lib.hid (fun _ _ e => by cases e))
      rw [HN.out] at HWL
      refine HWL.mono ?_
      rintro e w2 ⟨v2, rfl, hO3, hG3⟩
      have HO3 := Lib.hid hO3
      have HG3 := Lib.hid hG3
      clear hO3 hG3 HWL
      go_wp2_with fail
      refine ⟨v2, by rw [← h7, ← h6]; rfl, fun h => (updB_self h).elim, ⟨by have := HO3.out; rwa [List.nil_append] at this, (hb8.mono hN1.out).trans (HG3.out.below (Nat.le_trans hN1.out hb8.size) (fun g e => by cases e))⟩, fun j v t hj hu h => ?_⟩
      refine wE_pure j v ?_ ?_ ?_ ?_ ?_ ?_ ?_ h <;> intro e <;> subst e
      · refine absurd hu (not_needed (E := fun i => Nat.beq i 9 || Nat.beq i 10) (j := 0) [3] ?_ ?_ ?_)
        · kernel_rfl
        · kernel_rfl
        · intro m hm hne; simp at hm; subst hm; exact hcl 4 3 (hcl 5 4 (hcl 6 5 (hdn 6 (by kernel_rfl)) (by kernel_rfl)) (by kernel_rfl)) (by kernel_rfl)
      · refine absurd hu (not_needed (E := fun i => Nat.beq i 9 || Nat.beq i 10) (j := 3) [4] ?_ ?_ ?_)
        · kernel_rfl
        · kernel_rfl
        · intro m hm hne; simp at hm; subst hm; exact hcl 5 4 (hcl 6 5 (hdn 6 (by kernel_rfl)) (by kernel_rfl)) (by kernel_rfl)
      · refine absurd hu (not_needed (E := fun i => Nat.beq i 9 || Nat.beq i 10) (j := 4) [5] ?_ ?_ ?_)
        · kernel_rfl
        · kernel_rfl
        · intro m hm hne; simp at hm; subst hm; exact hcl 6 5 (hdn 6 (by kernel_rfl)) (by kernel_rfl)
      · refine absurd hu (not_needed (E := fun i => Nat.beq i 9 || Nat.beq i 10) (j := 5) [6] ?_ ?_ ?_)
        · kernel_rfl
        · kernel_rfl
        · intro m hm hne; simp at hm; subst hm; exact hdn 6 (by kernel_rfl)
      · refine absurd hu (not_needed (E := fun i => Nat.beq i 9 || Nat.beq i 10) (j := 6) [8] ?_ ?_ ?_)
        · kernel_rfl
        · kernel_rfl
        · intro m hm hne; simp at hm; omega
      · rw [hi] at hj; cases hj
      · have := hcl 9 8 hj (by kernel_rfl); rw [hi] at this; cases this
    · have H8 := Lib.hid (hd.1 rfl)
      go_wp2_with fail
      exact ⟨fx 8, rfl, fun h => hC h, H8.out, fun _ _ _ _ _ h => h⟩
    · go_wp2_with fail
      exact ⟨_, rfl, fun h => hC h, rfl, fun _ _ _ _ _ h => h⟩
  · intro L fx w' hC hS
    have H9 := Lib.hid (hS 9 (by decide) rfl)
    have H10 := Lib.hid (hS 10 (by decide) rfl)

    have HG := Lib.hid (HB1.out.trans H9.out.2)
    clear hC hS
    have h10 : fx 10 = .int .i64 0 := H10.out
    rw [h10]
    clear h10 H10
    go_wp2_with fail
    go_ret2
    exact ⟨_, rfl, H9.out.1, HG.out⟩
end Go.Proofs.YtgcmbiegbclhmaaDoor
