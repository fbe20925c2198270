/- Nodes appended to nodes. -/
import Derived.Test.YtgcmbiegbclhmaaDoorTreeLvMath
import Derived.Laws.AppendOwnNone
namespace Go.Proofs.YtgcmbiegbclhmaaDoor
open Go.RowKit SzSha SzTree
set_option linter.unusedVariables false
set_option maxRecDepth 100000
theorem wpList_append_nodes {w : World} {ops : Array Oper} {rest : List Oper} {o : Oper} {a : Act} {Q : Exit → Act → World → Prop} (hgd : o.guard = none) (s x : Operand)
    (ho : o.op = .call { callee := .builtin .append, args := #[s, x], argTypes := #[22, 22] })
    (base : Nat) (v : Value) (ls ps : List Nd) (A : Option Addr) (n c : Nat) (hs : a.eval s = v) (hown : Hid (OwnN w base v ls)) (hx : a.eval x = .slice A n c) (hin : Hid (InN w A n c ps)) (hlen : ls.length ≤ 100000) (hn : n ≤ 100000) (hbase : base ≤ w.heap.size)
    (h : ∀ v' w', Hid (OwnN w' base v' (ls ++ ps)) → Hid (w.grownBy w' v.ownBlock) → Hid (v'.ownBlock = v.ownBlock ∨ v'.ownBlock = some w.heap.size) → wpList Tryd.prog ops Q rest (a.put o.dst v') w') : wpList Tryd.prog ops Q (o :: rest) a w := by
  obtain ⟨i0, hi, hz, hz1, hz2⟩ := info_node
  rcases A with _ | ad
  · have hc := hin.out.none_ rfl
    have h0 : n = 0 := by have := hin.out.cap; omega
    have hp : ps = [] := List.eq_nil_of_length_eq_zero (by rw [hin.out.len]; exact h0)
    subst hp h0 hc
    refine wpList_append_own_none hgd s x _ ho base _ i0 34 Tryd.underlying22 hi v _ _ hs hown.out hx ?_
    exact h v w (Lib.hid (by rw [List.append_nil]; exact hown.out)) (Lib.hid ⟨rfl, rfl, rfl, Nat.le_refl _, fun _ _ _ => rfl⟩) (Lib.hid (.inl rfl))
  · have hl := flatN_length ps hin.out.ok
    rw [hin.out.len] at hl
    refine wpList_append_own_at _ hgd s x _ ho base _ i0 _ 34 48 Tryd.underlying22 hi hz hz1 hz2 (by simp [Value.cells]) (by omega) v _ _ hs hown.out ad n c (flatN ps) hx hl (fun j u hu => ?_) (flatN_one _) (by unfold maxLen; omega) (by omega) hbase ?_
    · have hj := (List.getElem?_eq_some_iff.1 hu).1
      obtain ⟨g, off, e, hg, hr⟩ := hin.out.rd (by rw [hin.out.len]; omega)
      cases e
      rw [add_row]; exact hr j u hu
    · intro v' w' h1 h2 h3 h4
      refine h v' w' (Lib.hid ?_) (Lib.hid h2) (Lib.hid h4)
      unfold OwnN
      rw [flatN_append, List.length_append, hin.out.len]; exact h1
/-- a value's own block lies from M on -/
def OB (M : Nat) (v : Value) (w : World) : Prop := ∀ g, v.ownBlock = some g → M ≤ g ∧ g < w.heap.size
theorem OB.mono {M : Nat} {v : Value} {w w' : World} (h : OB M v w) (hs : w.heap.size ≤ w'.heap.size) : OB M v w' := fun g hg => ⟨(h g hg).1, Nat.lt_of_lt_of_le (h g hg).2 hs⟩
theorem OwnN.ob {M : Nat} {v : Value} {w : World} {ls : List Nd} (h : OwnN w M v ls) : OB M v w := fun g hg => ⟨(h.block g hg).1, (h.block g hg).2.1⟩
/-- a fresh row of a node, apart from another value's own block -/
def NewZ (M : Nat) (p v : Value) (b : Bool) (w : World) : Prop := ∃ z, p = .pointer (some ⟨z, 0, none⟩) ∧ M ≤ z ∧ w.heap[z]? = some (.cells (ndC zeroN).toArray 26 (0, 0)) ∧ (b = true → v.ownBlock ≠ some z)
theorem NewZ.below {M : Nat} {p v : Value} {b : Bool} {w w' : World} (h : NewZ M p v b w) (hb : Below w.heap.size w w') : NewZ M p v b w' := by
  obtain ⟨z, h1, h2, h3, h4⟩ := h
  exact ⟨z, h1, h2, row_kept h3 hb, h4⟩
theorem rows_differ {w : World} {g h : Nat} {a b : Array Value} {t u : TypeId} (h1 : w.heap[g]? = some (.cells a t (0, 0))) (h2 : w.heap[h]? = some (.cells b u (0, 0))) (hs : a.size ≠ b.size) : g ≠ h := fun e => by
  subst e; rw [h1] at h2; cases h2; exact hs rfl
theorem row_grown {w w' : World} {b : Nat} {o : Obj} {row : Option Nat} (h : w.heap[b]? = some o) (hg : w.grownBy w' row) (hne : some b ≠ row) : w'.heap[b]? = some o := (hg.block b (Array.getElem?_eq_some_iff.1 h).1 hne).trans h
theorem flat1_size {q : Nd} (h : NdOk q) : (flatN [q]).toArray.size = 34 := by
  have := flatN_length [q] (fun x hx => by simp at hx; subst hx; exact h)
  simpa using this
theorem zero_size : (ndC zeroN).toArray.size = 34 := by simp [ndC_length zeroN_ok]
theorem own_empty {w : World} {g M : Nat} (h : w.heap[g]? = some (.cells #[] 26 (0, 0))) (hM : M ≤ g) : OwnN w M (.slice (some ⟨g, 0, none⟩) 0 0) [] :=
  ⟨rfl, .inr ⟨g, 0, #[], rfl, hM, h, Nat.le_refl _, Nat.zero_le _, rfl, rfl⟩⟩
end Go.Proofs.YtgcmbiegbclhmaaDoor
