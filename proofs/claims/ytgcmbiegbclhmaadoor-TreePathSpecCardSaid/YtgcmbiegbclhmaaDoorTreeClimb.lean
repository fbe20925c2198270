/- sizar/tree.Climb. -/
import Derived.Test.YtgcmbiegbclhmaaDoorTreePath
namespace Go.Proofs.YtgcmbiegbclhmaaDoor
open Go.RowKit Go.Shelf SzSha SzTree
set_option linter.unusedVariables false
set_option maxRecDepth 100000
attribute [local go_sem] Oper.semAt_some
/-- Climb -/
def climbArg (i many : Int) (l : Nat) : Prop := many < 1 ∨ 4096 < many ∨ i < 0 ∨ many ≤ i ∨ l ≠ (way i.toNat many.toNat).length
instance (i many : Int) (l : Nat) : Decidable (climbArg i many l) := by unfold climbArg; infer_instance
def climbO (n : Nd) (i many : Int) (ps : List Nd) : Option Nd := climbF (sidesN i.toNat many.toNat) ps n
def climbR (n : Nd) (i many : Int) (ps : List Nd) : Nd := if climbArg i many ps.length then zeroN else if vN n = false then zeroN else (climbO n i many ps).getD zeroN
def climbE (n : Nd) (i many : Int) (ps : List Nd) : Int := if climbArg i many ps.length then 1 else if vN n = false then 410 else if (climbO n i many ps).isSome then 0 else 410
theorem climbR_arg {n : Nd} {i many : Int} {ps : List Nd} (h : climbArg i many ps.length) : climbR n i many ps = zeroN ∧ climbE n i many ps = 1 := by
  unfold climbR climbE; exact ⟨if_pos h, if_pos h⟩
theorem climbR_bad {n : Nd} {i many : Int} {ps : List Nd} (h : ¬ climbArg i many ps.length) (hv : vN n = false) : climbR n i many ps = zeroN ∧ climbE n i many ps = 410 := by
  unfold climbR climbE; exact ⟨by rw [if_neg h, if_pos hv], by rw [if_neg h, if_pos hv]⟩
theorem climbR_none {n : Nd} {i many : Int} {ps : List Nd} (h : ¬ climbArg i many ps.length) (hv : vN n = true) (hc : climbO n i many ps = none) : climbR n i many ps = zeroN ∧ climbE n i many ps = 410 := by
  have hv' : ¬ vN n = false := by rw [hv]; decide
  unfold climbR climbE; exact ⟨by rw [if_neg h, if_neg hv', hc]; rfl, by rw [if_neg h, if_neg hv', hc]; rfl⟩
theorem climbR_some {n x : Nd} {i many : Int} {ps : List Nd} (h : ¬ climbArg i many ps.length) (hv : vN n = true) (hc : climbO n i many ps = some x) : climbR n i many ps = x ∧ climbE n i many ps = 0 := by
  have hv' : ¬ vN n = false := by rw [hv]; decide
  unfold climbR climbE; exact ⟨by rw [if_neg h, if_neg hv', hc]; rfl, by rw [if_neg h, if_neg hv', hc]; rfl⟩
theorem vL_one (n : Nd) : vL [n] = vN n := by
  unfold vL
  by_cases h : vN n = true
  · have := vN_bd h
    simp only [List.all_cons, List.all_nil, h, Bool.and_true, Bool.true_and, sumC]
    exact decide_eq_true (by omega)
  · have h' : vN n = false := by simpa using h
    simp [h']
theorem climb_take {rs : List Bool} {ps : List Nd} {n x : Nd} {j : Nat} (hl : rs.length = ps.length) (hj : j < ps.length) (h : climbF (rs.take j) (ps.take j) n = some x) : climbF (rs.take (j + 1)) (ps.take (j + 1)) n = stepN (rs.getD j false) ps[j] x := by
  rw [List.take_succ_eq_append_getElem hj, List.take_succ_eq_append_getElem (by omega), climb_snoc _ _ _ _ _ (by rw [List.length_take, List.length_take]; omega), h, Option.bind_some]
  simp [List.getD_eq_getElem?_getD, show j < rs.length by omega]
theorem climb_dead {rs : List Bool} {ps : List Nd} {n : Nd} {j : Nat} (hl : rs.length = ps.length) (h : climbF (rs.take j) (ps.take j) n = none) : climbF rs ps n = none := by
  have key : ∀ (m : Nat) (rs : List Bool) (ps : List Nd) (n : Nd), rs.length = ps.length → climbF (rs.take m) (ps.take m) n = none → climbF rs ps n = none := by
    intro m
    induction m with
    | zero => intro rs ps n _ h; simp [climbF] at h
    | succ m ih =>
      intro rs ps n hl h
      match rs, ps, hl with
      | [], [], _ => simp [climbF] at h
      | r :: rs, p :: ps, hl =>
        simp only [List.take_succ_cons, climbF] at h ⊢
        cases hs : stepN r p n with
        | none => rfl
        | some x =>
          rw [hs] at h
          exact ih rs ps x (by simpa using hl) h
  exact key j rs ps n hl h
/-- a slice of bools, read -/
structure BIn (w : World) (A : Option Addr) (m c : Nat) (bs : List Bool) : Prop where
  len : bs.length = m
  cap : m ≤ c
  none_ : A = none → c = 0
  rd : 0 < m → ∃ g, A = some ⟨g, 0, none⟩ ∧ g < w.heap.size ∧ ∀ k, k < m → w.cell? ⟨g, k, none⟩ = some (.bool (bs.getD k false))
theorem BIn.kept {w w' : World} {A : Option Addr} {m c : Nat} {bs : List Bool} (h : BIn w A m c bs) (hs : w.heap.size ≤ w'.heap.size) (hk : ∀ g o, A = some ⟨g, o, none⟩ → g < w.heap.size → w'.heap[g]? = w.heap[g]?) : BIn w' A m c bs :=
  ⟨h.len, h.cap, h.none_, fun h0 => by
    obtain ⟨g, e, hg, hr⟩ := h.rd h0
    exact ⟨g, e, Nat.lt_of_lt_of_le hg hs, fun k hk2 => by rw [← hr k hk2]; exact World.cell?_of_block (hk g 0 e hg)⟩⟩
theorem BIn.below {w w' : World} {A : Option Addr} {m c : Nat} {bs : List Bool} (h : BIn w A m c bs) (hb : Below w.heap.size w w') : BIn w' A m c bs := h.kept hb.size fun g _ _ hg => hb.block g hg
set_option maxHeartbeats 2000000 in
theorem revb_nil (c : Nat) (w : World) : Calls Tryd.prog 42 #[.slice none 0 c] w fun e w' => (∃ v, e = .returned v) ∧ w = w' := by
  go_enter Tryd.func42, Tryd.ntmps42
  go_wp2_with fail
  go_loopw [2, 3] (fun s t wr => s = .int .i64 0 ∧ t = .int .i64 (-1) ∧ w = wr) (fun _ _ _ => 0)
  case atStart => exact ⟨rfl, rfl, rfl⟩
  case round =>
    obtain ⟨rfl, rfl, rfl⟩ := hrel
    go_wp2_with fail
    go_end0
    exact ⟨⟨_, rfl⟩, rfl⟩
theorem revb_any (bs : List Bool) (v : Value) (base : Nat) (w : World) (hn : bs.length ≤ 1000000) (h : Hid (OwnL w base v bs)) :
    Calls Tryd.prog 42 #[v] w fun e w' => (∃ u, e = .returned u) ∧ w.grownBy w' v.ownBlock ∧ ∃ A c, v = .slice A bs.length c ∧ BIn w' A bs.length c bs.reverse := by
  obtain ⟨A, c, rfl, hc, hrd, hA⟩ := h.out.slice
  by_cases h0 : bs.length = 0
  · have hbs : bs = [] := List.eq_nil_of_length_eq_zero h0
    subst hbs
    rcases A with _ | a
    · refine (revb_nil c w).mono ?_
      rintro e w' ⟨h1, rfl⟩
      exact ⟨h1, ⟨rfl, rfl, rfl, Nat.le_refl _, fun _ _ _ => rfl⟩, none, c, rfl, ⟨rfl, Nat.zero_le _, hA, fun h => by simp at h⟩⟩
    · have hf : ∃ g, a = ⟨g, 0, none⟩ := by
        rcases h.out.2 with ⟨e, _⟩ | ⟨g, cap, cur, e, _⟩
        · cases e
        · cases e; exact ⟨g, rfl⟩
      obtain ⟨g, rfl⟩ := hf
      refine (rev_bools (fun _ => false) g 0 0 c w (by omega) (Nat.zero_le _) (Lib.hid (fun k hk => by omega)) (Lib.hid (fun k hk => by omega))).mono ?_
      rintro e w' ⟨h1, h2, h3⟩
      exact ⟨h1, h3, _, c, rfl, ⟨rfl, Nat.zero_le _, (fun e => by cases e), fun h => by simp at h⟩⟩
  · obtain ⟨g, rfl, hbg, hg, hR⟩ := hrd (by omega)
    refine (rev_bools (fun k => bs.getD k false) g 0 bs.length c w hn hc (Lib.hid (fun k hk => trivial)) (Lib.hid hR)).mono ?_
    rintro e w' ⟨h1, h2, h3⟩
    refine ⟨h1, h3, _, c, rfl, ⟨by rw [List.length_reverse], hc, (fun e => by cases e), fun _ => ⟨g, rfl, Nat.lt_of_lt_of_le hg h3.size, fun k hk => ?_⟩⟩⟩
    have hr := (h2 k hk).1 0 (.bool (bs.getD (bs.length - 1 - k) false)) rfl
    rw [show 0 + k * 1 + 0 = k by omega] at hr
    rw [hr]
    have hk2 : k < bs.reverse.length := by rw [List.length_reverse]; exact hk
    rw [List.getD_eq_getElem?_getD, List.getD_eq_getElem?_getD, List.getElem?_eq_getElem hk2, List.getElem?_eq_getElem (by omega), Option.getD_some, Option.getD_some, List.getElem_reverse]
end Go.Proofs.YtgcmbiegbclhmaaDoor
