/- Nodes appended to nodes (as in TreeApp). -/
import Derived.Test.YtmfmgeapecapiaaDoorSB19
import Derived.Test.YtmfmgeapecapiaaDoorSB15
import Derived.Test.YtmfmgeapecapiaaDoorSB10
import Derived.Laws.AppendOwnNone
import Derived.Deep.CutRange
import Derived.Test.YtmfmgeapecapiaaDoorSB13
import Derived.Test.YtmfmgeapecapiaaDoorSB6
namespace Go.Proofs.YtmfmgeapecapiaaDoor
open Go.RowKit SzSha SzTree
set_option linter.unusedVariables false
set_option maxRecDepth 100000
theorem shE_no {t : Tr} {f g : Int} (hg : trG t = true) (h : shG t f g = false) : shE t f g = 430 := by
  unfold shG at h
  rw [hg, Bool.true_and] at h
  unfold shE
  rw [if_pos hg, h]; rfl
theorem shE_bad {t : Tr} {f g : Int} (hg : trG t = false) : shE t f g = 420 ∧ shG t f g = false ∧ shN t f g = [] := by
  have e : shG t f g = false := by unfold shG; rw [hg]; rfl
  refine ⟨by unfold shE; rw [hg]; rfl, e, by unfold shN; rw [e]; rfl⟩
end Go.Proofs.YtmfmgeapecapiaaDoor
namespace Go.Proofs.YtmfmgeapecapiaaDoor
open Go.RowKit SzSha SzTree
set_option linter.unusedVariables false
set_option maxRecDepth 100000
theorem wpList_append_nodes {w : World} {ops : Array Oper} {rest : List Oper} {o : Oper} {a : Act} {Q : Exit → Act → World → Prop} (hgd : o.guard = none) (s x : Operand)
    (ho : o.op = .call { callee := .builtin .append, args := #[s, x], argTypes := #[62, 62] })
    (base : Nat) (v : Value) (ls ps : List Nd) (A : Option Addr) (n c : Nat) (hs : a.eval s = v) (hown : Hid (OwnN w base v ls)) (hx : a.eval x = .slice A n c) (hin : Hid (InN w A n c ps)) (hlen : ls.length ≤ 100000) (hn : n ≤ 100000) (hbase : base ≤ w.heap.size)
    (h : ∀ v' w', Hid (OwnN w' base v' (ls ++ ps)) → Hid (w.grownBy w' v.ownBlock) → Hid (v'.ownBlock = v.ownBlock ∨ v'.ownBlock = some w.heap.size) → wpList Tryd.prog ops Q rest (a.put o.dst v') w') : wpList Tryd.prog ops Q (o :: rest) a w := by
  obtain ⟨i0, hi, hz, hz1, hz2⟩ := info_node
  rcases A with _ | ad
  · have hc := hin.out.none_ rfl
    have h0 : n = 0 := by have := hin.out.cap; omega
    have hp : ps = [] := List.eq_nil_of_length_eq_zero (by rw [hin.out.len]; exact h0)
    subst hp h0 hc
    refine wpList_append_own_none hgd s x _ ho base _ i0 34 Tryd.underlying62 hi v _ _ hs hown.out hx ?_
    exact h v w (Lib.hid (by rw [List.append_nil]; exact hown.out)) (Lib.hid ⟨rfl, rfl, rfl, Nat.le_refl _, fun _ _ _ => rfl⟩) (Lib.hid (.inl rfl))
  · have hl := flatN_length ps hin.out.ok
    rw [hin.out.len] at hl
    refine wpList_append_own_at _ hgd s x _ ho base _ i0 _ 34 48 Tryd.underlying62 hi hz hz1 hz2 (by simp [Value.cells]) (by omega) v _ _ hs hown.out ad n c (flatN ps) hx hl (fun j u hu => ?_) (flatN_one _) (by unfold maxLen; omega) (by omega) hbase ?_
    · have hj := (List.getElem?_eq_some_iff.1 hu).1
      obtain ⟨g, off, e, hg, hr⟩ := hin.out.rd (by rw [hin.out.len]; omega)
      cases e
      rw [add_row]; exact hr j u hu
    · intro v' w' h1 h2 h3 h4
      refine h v' w' (Lib.hid ?_) (Lib.hid h2) (Lib.hid h4)
      unfold OwnN
      rw [flatN_append, List.length_append, hin.out.len]; exact h1
theorem own_empty {w : World} {g M : Nat} (h : w.heap[g]? = some (.cells #[] 31 (0, 0))) (hM : M ≤ g) : OwnN w M (.slice (some ⟨g, 0, none⟩) 0 0) [] :=
  ⟨rfl, .inr ⟨g, 0, #[], rfl, hM, h, Nat.le_refl _, Nat.zero_le _, rfl, rfl⟩⟩
end Go.Proofs.YtmfmgeapecapiaaDoor
namespace Go.Proofs.YtmfmgeapecapiaaDoor
open Go.RowKit SzSha SzTree
set_option linter.unusedVariables false
/-- a part with less nodes than shown is refused -/
theorem vfS_less {m : Int} {tree : Nd} {f t : Int} {P Q : List Nd} (hP : (vfS m tree f t P).2.2 = 0) (hl : Q.length ≠ P.length) : vfS m tree f t Q = (0, 0, 430) := by
  unfold vfS at hP ⊢
  split at hP
  case isFalse => cases hP
  case isTrue hf =>
  rw [if_pos hf]
  obtain ⟨h0, h1, h2, h3⟩ := ftB_iff hf
  cases hv : vj f.toNat t.toNat 0 m.toNat P with
  | none => rw [hv] at hP; cases hP
  | some q =>
    obtain ⟨x, r, c, p⟩ := q
    rw [hv] at hP
    try dsimp only at hP
    cases r with
    | cons a b => cases hP
    | nil =>
      cases hw : vj f.toNat t.toNat 0 m.toNat Q with
      | none => rfl
      | some q2 =>
        obtain ⟨y, r2, c2, p2⟩ := q2
        try dsimp only
        cases r2 with
        | cons a b => rfl
        | nil =>
          obtain ⟨pre, e1, l1⟩ := vj_used (f := f.toNat) (t := t.toNat) (by omega) 0 m.toNat (by omega) _ _ _ _ _ hv
          obtain ⟨pre2, e2, l2⟩ := vj_used (f := f.toNat) (t := t.toNat) (by omega) 0 m.toNat (by omega) _ _ _ _ _ hw
          rw [List.append_nil] at e1 e2
          rw [e1, e2, l1, l2] at hl
          exact absurd rfl hl
end Go.Proofs.YtmfmgeapecapiaaDoor
