/- sizar/tree.Root$1: the root of valid leaves. -/
import Derived.Test.YtgcmbiegbclhmaaDoorTreeJoin2
import Derived.Test.YtgcmbiegbclhmaaDoorTreeHalf
namespace Go.Proofs.YtgcmbiegbclhmaaDoor
open Go.RowKit SzSha SzTree
set_option linter.unusedVariables false
set_option maxRecDepth 100000
theorem root_ok : ∀ (m : Nat) (ls : List Nd), ls.length ≤ m → 1 ≤ ls.length → (∀ x ∈ ls, NdOk x) → vL ls = true → NdOk (root ls)
  | 0, ls, h, h1, _, _ => by omega
  | m + 1, ls, h, h1, ho, hv => by
    by_cases h2 : 2 ≤ ls.length
    · have hb := half_bd h2
      rw [root_two h2]
      have e : ls = ls.take (half ls.length) ++ ls.drop (half ls.length) := (List.take_append_drop _ _).symm
      have hv' := hv
      rw [e] at hv'
      have hp := vL_parts hv'
      refine join_ok (root_ok m _ (by rw [List.length_take]; omega) (by rw [List.length_take]; omega) (fun x hx => ho x (List.mem_of_mem_take hx)) hp.1) (root_ok m _ (by rw [List.length_drop]; omega) (by rw [List.length_drop]; omega) (fun x hx => ho x (List.mem_of_mem_drop hx)) hp.2) (vL_two hv' (by rw [List.length_take]; omega) (by rw [List.length_drop]; omega))
    · obtain ⟨x, rfl⟩ : ∃ x, ls = [x] := List.length_eq_one_iff.1 (by omega)
      rw [root_one]; exact ho x (by simp)
theorem InN.take {w : World} {g off n c : Nat} {ls : List Nd} (h : InN w (some ⟨g, off, none⟩) n c ls) (k : Nat) (hk : k ≤ n) : InN w (some ⟨g, off, none⟩) k c (ls.take k) :=
  ⟨by rw [List.length_take, h.len]; omega, by have := h.cap; omega, (fun e => by cases e), fun x hx => h.ok x (List.mem_of_mem_take hx), fun h0 => by
    rw [List.length_take] at h0
    obtain ⟨g', off', e, hg, hr⟩ := h.rd (by omega)
    cases e
    refine ⟨g, off, rfl, hg, fun j v hj => hr j v ?_⟩
    have e2 : flatN ls = flatN (ls.take k) ++ flatN (ls.drop k) := by unfold flatN; rw [← List.flatMap_append, List.take_append_drop]
    rw [e2, List.getElem?_append_left (List.getElem?_eq_some_iff.1 hj).1]; exact hj⟩
theorem flatN_length : ∀ (ls : List Nd), (∀ x ∈ ls, NdOk x) → (flatN ls).length = ls.length * 34
  | [], _ => rfl
  | n :: ls, ho => by
    have h1 := ndC_length (ho n (by simp))
    have h2 := flatN_length ls (fun x hx => ho x (List.mem_cons_of_mem _ hx))
    show ((n :: ls).flatMap ndC).length = _
    rw [List.flatMap_cons, List.length_append, h1]
    have h3 : (ls.flatMap ndC).length = ls.length * 34 := h2
    rw [h3, List.length_cons]; omega
theorem InN.drop {w : World} {g off n c : Nat} {ls : List Nd} (h : InN w (some ⟨g, off, none⟩) n c ls) (k : Nat) (hk : k ≤ n) : InN w (some ⟨g, off + k * 34, none⟩) (n - k) (c - k) (ls.drop k) :=
  ⟨by rw [List.length_drop, h.len], by have := h.cap; omega, (fun e => by cases e), fun x hx => h.ok x (List.mem_of_mem_drop hx), fun h0 => by
    rw [List.length_drop] at h0
    obtain ⟨g', off', e, hg, hr⟩ := h.rd (by omega)
    cases e
    refine ⟨g, off + k * 34, rfl, hg, fun j v hj => ?_⟩
    have e2 : flatN ls = flatN (ls.take k) ++ flatN (ls.drop k) := by unfold flatN; rw [← List.flatMap_append, List.take_append_drop]
    have e3 : (flatN (ls.take k)).length = k * 34 := by
      rw [flatN_length _ (fun x hx => h.ok x (List.mem_of_mem_take hx)), List.length_take, h.len]
      rw [show min k n = k by omega]
    rw [Nat.add_assoc]
    refine hr (k * 34 + j) v ?_
    rw [e2, List.getElem?_append_right (by omega), e3, Nat.add_sub_cancel_left]; exact hj⟩

def wR (M : Nat) (bf : Nat) (g : Nat) (off : Nat) (n : Nat) (c : Nat) (k : Nat) (a : Nd) (b : Nd) (r : Nd) : Nat → Value → Value → World → Prop
  | 0, fv, _, _ => fv = Value.func (.func 31) #[] #[.pointer (some ⟨bf, 0, none⟩)]
  | 1, fv, _, _ => fv = Value.slice (some ⟨g, off, none⟩) n c
  | 2, fv, _, _ => fv = Value.int .i64 ((k : Nat))
  | 3, fv, _, _ => fv = Value.slice (some ⟨g, off, none⟩) k c
  | 4, fv, _, _ => fv = ndV a
  | 5, fv, _, _ => fv = Value.func (.func 31) #[] #[.pointer (some ⟨bf, 0, none⟩)]
  | 6, fv, _, _ => fv = Value.slice (some ⟨g, off, none⟩) n c
  | 7, fv, _, _ => fv = Value.int .i64 ((k : Nat))
  | 8, fv, _, _ => fv = Value.slice (some ⟨g, off + k * 34, none⟩) (n - k) (c - k)
  | 9, fv, _, _ => fv = ndV b
  | 10, fv, _, _ => fv = Value.tuple #[ndV r, .int .i64 0]
  | 11, fv, _, _ => fv = Value.tuple #[ndV r, .int .i64 0]
  | 12, fv, _, _ => fv = ndV r
  | 13, fv, _, _ => fv = Value.int .i64 (0)
  | 14, fv, fu, fw => True
  | 15, fv, fu, fw => ∃ q, fu = .pointer (some ⟨q, 0, none⟩) ∧ M ≤ q ∧ fw.heap[q]? = some (.cells (ndC r).toArray 26 (0, 0))
  | 16, fv, _, _ => fv = Value.int .i64 (0)
  | _, _, _, _ => True
theorem wR_below {M : Nat} {bf : Nat} {g : Nat} {off : Nat} {n : Nat} {c : Nat} {k : Nat} {a : Nd} {b : Nd} {r : Nd} {w w' : World} (hb : Below w.heap.size w w') : ∀ j v u, wR M bf g off n c k a b r j v u w → wR M bf g off n c k a b r j v u w'
  | 0, v, u, h => h
  | 1, v, u, h => h
  | 2, v, u, h => h
  | 3, v, u, h => h
  | 4, v, u, h => h
  | 5, v, u, h => h
  | 6, v, u, h => h
  | 7, v, u, h => h
  | 8, v, u, h => h
  | 9, v, u, h => h
  | 10, v, u, h => h
  | 11, v, u, h => h
  | 12, v, u, h => h
  | 13, v, u, h => h
  | 14, v, u, h => h
  | 15, v, u, ⟨q, h1, h2, h3⟩ => ⟨q, h1, h2, (hb.block q (Array.getElem?_eq_some_iff.1 h3).1).trans h3⟩
  | 16, v, u, h => h
  | n + 17, v, u, h => trivial
theorem wR_pure {M : Nat} {bf : Nat} {g : Nat} {off : Nat} {n : Nat} {c : Nat} {k : Nat} {a : Nd} {b : Nd} {r : Nd} {w w' : World} : ∀ j v u, j ≠ 14 → j ≠ 15 → wR M bf g off n c k a b r j v u w → wR M bf g off n c k a b r j v u w'
  | 0, v, u, _, _, h => h
  | 1, v, u, _, _, h => h
  | 2, v, u, _, _, h => h
  | 3, v, u, _, _, h => h
  | 4, v, u, _, _, h => h
  | 5, v, u, _, _, h => h
  | 6, v, u, _, _, h => h
  | 7, v, u, _, _, h => h
  | 8, v, u, _, _, h => h
  | 9, v, u, _, _, h => h
  | 10, v, u, _, _, h => h
  | 11, v, u, _, _, h => h
  | 12, v, u, _, _, h => h
  | 13, v, u, _, _, h => h
  | 14, v, u, hh, _, _ => absurd rfl hh
  | 15, v, u, _, hh, _ => absurd rfl hh
  | 16, v, u, _, _, h => h
  | n + 17, v, u, _, _, h => trivial

/-- the cell of a node that the region makes
-/
def NewN (M : Nat) (p : Value) (w : World) : Prop := ∃ q, p = .pointer (some ⟨q, 0, none⟩) ∧ M ≤ q ∧ w.heap[q]? = some (.cells (ndC zeroN).toArray 26 (0, 0))
theorem NewN.below {M : Nat} {p : Value} {w w' : World} (h : NewN M p w) (hb : Below w.heap.size w w') : NewN M p w' := by
  obtain ⟨q, h1, h2, h3⟩ := h
  exact ⟨q, h1, h2, (hb.block q (Array.getElem?_eq_some_iff.1 h3).1).trans h3⟩

set_option maxHeartbeats 4000000 in
theorem fold_any : ∀ (m : Nat) (ls : List Nd) (A : Option Addr) (n c bf : Nat) (w : World), n ≤ m → 1 ≤ n → n ≤ 4096 → Hid (InN w A n c ls) → Hid (vL ls = true) → Hid (w.cell? ⟨bf, 0, none⟩ = some (.func (.func 31) #[] #[.pointer (some ⟨bf, 0, none⟩)])) → Hid (Tabs w) →
    Calls Tryd.prog 31 #[.slice A n c, .pointer (some ⟨bf, 0, none⟩)] w fun e w' => e = .returned (ndV (root ls)) ∧ Below w.heap.size w w' := by
  intro m
  induction m with
  | zero => intro ls A n c bf w h1 h2; omega
  | succ m ih =>
    intro ls A n c bf w hm h1 hn h hv hF hT
    obtain ⟨g, off, rfl, hg, hr⟩ := h.out.rd (by rw [h.out.len]; omega)
    have HNE := Lib.hid (show ls.length = n from h.out.len)
    have hcap := h.out.cap
    clear hr
    have HB0 := Lib.hid ((Below.refl _ w).alloc (Nat.le_refl _) (.cells (ndC zeroN).toArray 26))
    have HR0 := Lib.hid (heap_alloc_new w (.cells (ndC zeroN).toArray 26))
    have HS0 : Hid ((w.alloc (.cells (ndC zeroN).toArray 26)).heap.size = w.heap.size + 1) := Lib.hid (by simp)
    have HROK : Hid (NdOk (root ls)) := Lib.hid (root_ok _ ls (Nat.le_refl _) (by rw [h.out.len]; omega) h.out.ok hv.out)
    obtain ⟨HF1⟩ : Nonempty (Hid ((w.alloc (.cells (ndC zeroN).toArray 26)).cell? ⟨bf, 0, none⟩ = some (.func (.func 31) #[] #[.pointer (some ⟨bf, 0, none⟩)]))) := ⟨Lib.hid ((HB0.out.cell (p := ⟨bf, 0, none⟩) (block_lt_of_cell hF.out)).trans hF.out)⟩
    go_enter Tryd.func31, Tryd.ntmps31
    by_cases h2 : 2 ≤ n
    · have d1 : decide ((n : Int) = 1) = false := decide_eq_false (by omega)
      have HIN := Lib.hid (h.out.below HB0.out)
      have HT1 := Lib.hid (hT.out.below HB0.out)
      go_wp2_with fail
      rw [← zeroN_cells]
      generalize w.alloc (.cells (ndC zeroN).toArray 26) = W1 at *
      refine (half_any n _ (by omega)).mono ?_
      rintro e w2 ⟨rfl, rfl⟩
      obtain ⟨k, HK⟩ : ∃ k, Hid (half n = k) := ⟨_, Lib.hid rfl⟩
      have hkb := half_bd h2
      rw [HK.out] at hkb
      rw [HK.out]
      go_wp2_with fail
      have HP : Hid (vL (ls.take k) = true ∧ vL (ls.drop k) = true) := Lib.hid (vL_parts (by rw [List.take_append_drop]; exact hv.out))
      have HT2 := Lib.hid (HIN.out.take k (by omega))
      have HT3 := Lib.hid (HIN.out.drop k (by omega))
      have HLT : Hid ((ls.take k).length = k ∧ (ls.drop k).length = n - k) := Lib.hid ⟨by rw [List.length_take, HNE.out]; omega, by rw [List.length_drop, HNE.out]⟩
      have HVV : Hid (vL [root (ls.take k), root (ls.drop k)] = true) := Lib.hid (vL_two (by rw [List.take_append_drop]; exact hv.out) (by rw [HLT.out.1]; omega) (by rw [HLT.out.2]; omega))
      have HOA : Hid (NdOk (root (ls.take k))) := Lib.hid (root_ok _ _ (Nat.le_refl _) (by rw [HLT.out.1]; omega) HT2.out.ok HP.out.1)
      have HOB : Hid (NdOk (root (ls.drop k))) := Lib.hid (root_ok _ _ (Nat.le_refl _) (by rw [HLT.out.2]; omega) HT3.out.ok HP.out.2)
      have HRT : Hid (joinN (root (ls.take k)) (root (ls.drop k)) = root ls) := Lib.hid (by rw [root_two (l := ls) (by rw [HNE.out]; exact h2), HNE.out, HK.out])
      have HS1 : Hid ((Tryd.prog.info? 26).map (·.size) = some (ndC (root ls)).toArray.size) := Lib.hid (by rw [size34 HROK.out]; simp)
      have HS2 : Hid (34 = (ndC (root ls)).toArray.size) := Lib.hid (by simp [ndC_length HROK.out])
      obtain ⟨a, HA⟩ : ∃ a, Hid (root (ls.take k) = a) := ⟨_, Lib.hid rfl⟩
      obtain ⟨b, HB⟩ : ∃ b, Hid (root (ls.drop k) = b) := ⟨_, Lib.hid rfl⟩
      obtain ⟨r, HR⟩ : ∃ r, Hid (root ls = r) := ⟨_, Lib.hid rfl⟩
      rw [HA.out, HB.out] at HVV HRT
      rw [HA.out] at HOA
      rw [HB.out] at HOB
      rw [HR.out] at HRT HROK HS1 HS2
      refine region_flow3 (by kernel_rfl) (by kernel_rfl) (fun i => Nat.beq i 15) (fun i => bif Nat.beq i 15 then 14 else i) (by kernel_rfl) (fun fx => #[Value.slice (some ⟨g, off, none⟩) n c, Value.pointer (some ⟨bf, 0, none⟩), undef, Value.pointer (some ⟨w.heap.size, 0, none⟩), Value.int .i64 ((k : Nat)), fx 14, fx 16, Value.slice (some ⟨g, off, none⟩) n c, Value.int .i64 ((n : Nat)), Value.bool false, undef, undef, undef, Value.slice (some ⟨g, off, none⟩) n c, Value.int .i64 ((n : Nat)), Value.int .i64 ((k : Nat)), fx 11, fx 0, fx 1, fx 2, fx 3, fx 4, fx 5, fx 6, fx 7, fx 8, fx 9, fx 10, fx 12, fx 13, undef]) (fun _ => undef) (fun L fx w' => Below W1.heap.size W1 w' ∧ (L 14 = true → L 15 = false → NewN W1.heap.size (fx 14) w')) (fun fi fv fu fw => wR W1.heap.size bf g off n c k a b r fi fv fu fw) ⟨(Below.refl _ _).drew, fun h => by cases h⟩ ?_ ?_
      · refine ⟨?_, ?_, ?_, ?_, ?_, ?_, ?_, ?_, ?_, ?_, ?_, ?_, ?_, ?_, ?_, ?_, ?_, trivial⟩
        all_goals intro L fx w' hC hi hcl hdn hd
        · have hc : w'.cell? ⟨bf, 0, none⟩ = some (.func (.func 31) #[] #[.pointer (some ⟨bf, 0, none⟩)]) := (hC.1.cell (p := ⟨bf, 0, none⟩) (block_lt_of_cell HF1.out)).trans HF1.out
          go_wp2_with fail
          exact ⟨_, rfl, ⟨hC.1, fun h14 h15 => hC.2 h14 h15⟩, rfl, fun _ _ _ _ _ h => h⟩
        · go_wp2_with fail
          exact ⟨_, rfl, ⟨hC.1, fun h14 h15 => hC.2 h14 h15⟩, rfl, fun _ _ _ _ _ h => h⟩
        · go_wp2_with fail
          exact ⟨_, rfl, ⟨hC.1, fun h14 h15 => hC.2 h14 h15⟩, rfl, fun _ _ _ _ _ h => h⟩
        · have h1 : fx 1 = Value.slice (some ⟨g, off, none⟩) n c := hd.1 rfl
          have h2 : fx 2 = Value.int .i64 ((k : Nat)) := hd.2.1 rfl
          go_wp2_with fail
          exact ⟨_, by rw [← h1, ← h2]; rfl, ⟨hC.1, fun h14 h15 => hC.2 h14 h15⟩, rfl, fun _ _ _ _ _ h => h⟩
        · have h0 : fx 0 = Value.func (.func 31) #[] #[.pointer (some ⟨bf, 0, none⟩)] := hd.1 rfl
          have h3 : fx 3 = Value.slice (some ⟨g, off, none⟩) k c := hd.2.1 rfl
          have HFC : Hid (w'.cell? ⟨bf, 0, none⟩ = some (.func (.func 31) #[] #[.pointer (some ⟨bf, 0, none⟩)])) := Lib.hid ((hC.1.cell (p := ⟨bf, 0, none⟩) (block_lt_of_cell HF1.out)).trans HF1.out)
          have HIk := Lib.hid (HT2.out.below hC.1)
          have HTk := Lib.hid (HT1.out.below hC.1)
          go_wp2_with fail
          refine (ih (ls.take k) _ k c bf w' (by omega) (by omega) (by omega) HIk (Lib.hid HP.out.1) HFC HTk).mono ?_
          rintro e w2 ⟨rfl, hq⟩
          rw [HA.out]
          go_wp2_with fail
          exact ⟨_, by rw [← h0, ← h3]; rfl, ⟨hC.1.trans (hq.mono hC.1.size), fun h14 h15 => (hC.2 h14 h15).below hq⟩, rfl, fun j v t _ _ h => wR_below hq j v t h⟩
        · have hc : w'.cell? ⟨bf, 0, none⟩ = some (.func (.func 31) #[] #[.pointer (some ⟨bf, 0, none⟩)]) := (hC.1.cell (p := ⟨bf, 0, none⟩) (block_lt_of_cell HF1.out)).trans HF1.out
          go_wp2_with fail
          exact ⟨_, rfl, ⟨hC.1, fun h14 h15 => hC.2 h14 h15⟩, rfl, fun _ _ _ _ _ h => h⟩
        · go_wp2_with fail
          exact ⟨_, rfl, ⟨hC.1, fun h14 h15 => hC.2 h14 h15⟩, rfl, fun _ _ _ _ _ h => h⟩
        · go_wp2_with fail
          exact ⟨_, rfl, ⟨hC.1, fun h14 h15 => hC.2 h14 h15⟩, rfl, fun _ _ _ _ _ h => h⟩
        · have h6 : fx 6 = Value.slice (some ⟨g, off, none⟩) n c := hd.1 rfl
          have h7 : fx 7 = Value.int .i64 ((k : Nat)) := hd.2.1 rfl
          go_wp2_with fail
          exact ⟨_, by rw [← h6, ← h7]; rfl, ⟨hC.1, fun h14 h15 => hC.2 h14 h15⟩, rfl, fun _ _ _ _ _ h => h⟩
        · have h5 : fx 5 = Value.func (.func 31) #[] #[.pointer (some ⟨bf, 0, none⟩)] := hd.1 rfl
          have h8 : fx 8 = Value.slice (some ⟨g, off + k * 34, none⟩) (n - k) (c - k) := hd.2.1 rfl
          have HFC : Hid (w'.cell? ⟨bf, 0, none⟩ = some (.func (.func 31) #[] #[.pointer (some ⟨bf, 0, none⟩)])) := Lib.hid ((hC.1.cell (p := ⟨bf, 0, none⟩) (block_lt_of_cell HF1.out)).trans HF1.out)
          have HIk := Lib.hid (HT3.out.below hC.1)
          have HTk := Lib.hid (HT1.out.below hC.1)
          go_wp2_with fail
          refine (ih (ls.drop k) _ (n - k) (c - k) bf w' (by omega) (by omega) (by omega) HIk (Lib.hid HP.out.2) HFC HTk).mono ?_
          rintro e w2 ⟨rfl, hq⟩
          rw [HB.out]
          go_wp2_with fail
          exact ⟨_, by rw [← h5, ← h8]; rfl, ⟨hC.1.trans (hq.mono hC.1.size), fun h14 h15 => (hC.2 h14 h15).below hq⟩, rfl, fun j v t _ _ h => wR_below hq j v t h⟩
        · have h4 : fx 4 = ndV a := hd.1 rfl
          have h9 : fx 9 = ndV b := hd.2.1 rfl
          have HTk := Lib.hid (HT1.out.below hC.1)
          go_wp2_with fail
          refine (join_yes a b w' HOA.out HOB.out HVV.out HTk).mono ?_
          rintro e w2 ⟨rfl, hq⟩
          rw [HRT.out]
          go_wp2_with fail
          exact ⟨_, by rw [← h4, ← h9]; rfl, ⟨hC.1.trans (hq.mono hC.1.size), fun h14 h15 => (hC.2 h14 h15).below hq⟩, rfl, fun j v t _ _ h => wR_below hq j v t h⟩
        · have h10 : fx 10 = Value.tuple #[ndV r, .int .i64 0] := hd.1 rfl
          go_wp2_with fail
          exact ⟨_, by rw [← h10]; rfl, ⟨hC.1, fun h14 h15 => hC.2 h14 h15⟩, rfl, fun _ _ _ _ _ h => h⟩
        · have h11 : fx 11 = Value.tuple #[ndV r, .int .i64 0] := hd.1 rfl
          go_wp2_with fail
          exact ⟨_, by rw [← h11]; rfl, ⟨hC.1, fun h14 h15 => hC.2 h14 h15⟩, rfl, fun _ _ _ _ _ h => h⟩
        · have h11 : fx 11 = Value.tuple #[ndV r, .int .i64 0] := hd.1 rfl
          go_wp2_with fail
          exact ⟨_, by rw [← h11]; rfl, ⟨hC.1, fun h14 h15 => hC.2 h14 h15⟩, rfl, fun _ _ _ _ _ h => h⟩
        · go_wp2_with fail
          rw [← zeroN_cells]
          have hbb : Below w'.heap.size w' (w'.alloc (.cells (ndC zeroN).toArray 26)) := (Below.refl _ _).alloc (Nat.le_refl _) _
          exact ⟨_, rfl, ⟨hC.1.trans (hbb.mono hC.1.size), fun _ _ => ⟨_, rfl, hC.1.size, heap_alloc_new _ _⟩⟩, trivial, fun j v t _ _ h => wR_below hbb j v t h⟩
        · have H14 := Lib.hid (hd.1 rfl)
          have h12 : fx 12 = ndV r := hd.2.1 rfl
          obtain ⟨q, h14, hq, hrow⟩ := hC.2 (hdn 14 (by kernel_rfl)) hi
          refine wpList_store_row rfl 26 (.tmp 5) (.tmp 28) rfl q (ndC r).toArray h14 h12 26 _ hrow HS1.out HS2.out (ndC_one _) ?_
          clear hd
          go_wp2_with fail
          exact ⟨undef, by rw [← h14, ← h12]; rfl, ⟨below_setRow hC.1 hq _, fun _ h => (updB_self h).elim⟩, ⟨q, h14, hq, setRow_heap _ _ _ _ _ _ hrow⟩, fun j v t hj _ h => by
            by_cases e : j = 14
            · subst e; trivial
            · exact wR_pure j v t e (fun e => by subst e; rw [hi] at hj; cases hj) h⟩
        · have h13 : fx 13 = Value.int .i64 (0) := hd.1 rfl
          go_wp2_with fail
          exact ⟨_, by rw [← h13]; rfl, ⟨hC.1, fun h14 h15 => hC.2 h14 h15⟩, rfl, fun _ _ _ _ _ h => h⟩
      · intro L fx w' hC hS
        have H15 := Lib.hid (hS 15 (by decide) rfl)

        obtain ⟨q, e14, hq, hrow⟩ := H15.out
        have HB9 := Lib.hid hC.1
        have HQR := Lib.hid hrow
        have HR3 := Lib.hid ((hC.1.block w.heap.size (by rw [HS0.out]; omega)).trans HR0.out)
        have HSZ : Hid ((Tryd.prog.info? 26).map (·.size) = some (ndC zeroN).toArray.size) := Lib.hid (by rw [size34 zeroN_ok]; simp)
        replace e14 : fx 14 = _ := e14
        rw [e14]
        clear hS hC H15 hrow
        go_wp2_with (first | (refine wpList_load_row rfl 26 (.tmp 5) rfl q rfl 26 _ (0, 0) _ HQR.out Tryd.underlying26 rfl HS1.out ?_) | (refine wpList_store_row rfl 26 (.tmp 3) (.tmp 30) rfl w.heap.size (ndC r).toArray rfl rfl 26 (ndC zeroN).toArray HR3.out HS1.out HS2.out (ndC_one r) ?_))
        refine bodyPost_ret (results_cell_row rfl _ _ w.heap.size 26 _ (0, 0) _ rfl (setRow_heap w' w.heap.size _ _ _ _ HR3.out) Tryd.underlying26 rfl HS1.out) rfl ?_
        exact ⟨by rw [HR.out]; rfl, below_setRow (HB0.out.trans (HB9.out.mono HB0.out.size)) (Nat.le_refl _) _⟩
    · have hn1 : n = 1 := by omega
      have d1 : decide ((n : Int) = 1) = true := decide_eq_true (by omega)
      obtain ⟨x, HX⟩ : ∃ x, Hid (ls = [x]) := (List.length_eq_one_iff.1 (by rw [HNE.out]; exact hn1)).imp fun _ h => Lib.hid h
      have HXO : Hid (NdOk x) := Lib.hid (h.out.ok x (by rw [HX.out]; simp))
      obtain ⟨g', off', e, hg', hr⟩ := (h.out.below HB0.out).rd (by rw [HNE.out]; omega)
      cases e
      have HRX : Hid ((w.alloc (.cells (ndC zeroN).toArray 26)).rangeAt g off (ndC x)) := Lib.hid (by
        have := range_one hr h.out.ok 0 (by rw [HNE.out]; omega)
        simpa [HX.out] using this)
      have HS1 : Hid ((Tryd.prog.info? 26).map (·.size) = some (ndC x).toArray.size) := Lib.hid (by rw [size34 HXO.out]; simp)
      have HS2 : Hid (34 = (ndC x).toArray.size) := Lib.hid (by simp [ndC_length HXO.out])
      have HSX := Lib.hid (size34 HXO.out)
      have hlt : 0 < n := by omega
      clear hr
      rw [zeroN_cells] at HRX HR0
      go_wp2_with (first | (with_reducible refine wpList_load_mid rfl 26 (.tmp 11) rfl g off rfl (ndC x) _ HRX.out Tryd.underlying26 rfl HSX.out ?_) | (refine wpList_store_row rfl 26 (.tmp 3) (.tmp 12) rfl w.heap.size (ndC x).toArray rfl rfl 26 _ HR0.out HS1.out HS2.out (ndC_one x) ?_))
      rw [← zeroN_cells]
      rw [← zeroN_cells] at HR0
      refine bodyPost_ret (results_cell_row rfl _ _ w.heap.size 26 _ (0, 0) _ rfl (setRow_heap _ w.heap.size _ _ _ _ HR0.out) Tryd.underlying26 rfl HS1.out) rfl ?_
      exact ⟨by rw [HX.out, root_one]; rfl, below_setRow HB0.out (Nat.le_refl _) _⟩
end Go.Proofs.YtgcmbiegbclhmaaDoor
