/- Rows of bytes that a call owns: append, slices.Grow of nil. -/
import Derived.Maps.AppendAt
import Derived.Laws.AppendOwnNone
import Derived.Lib.AppendZerosOnto
import Derived.Lib.Walk
import Derived.Test.YtgcmbiegbclhmaaDoorSum
namespace Go.Proofs.YtgcmbiegbclhmaaDoor
open Go.RowKit SzSha
set_option linter.unusedVariables false
/-- a slice that the call made holds these bytes -/
def OwnB (w : World) (base : Nat) (v : Value) (l : List Nat) : Prop := w.ownsRow base 5 1 v l.length (l.map fun x => Value.int .u8 (x : Nat))
theorem OwnB.nil (w : World) (base : Nat) : OwnB w base (.slice none 0 0) [] := ⟨rfl, .inl ⟨rfl, rfl⟩⟩
theorem OwnB.slice {w : World} {base : Nat} {v : Value} {l : List Nat} (h : OwnB w base v l) : ∃ A n c, v = .slice A n c ∧ Hid (l.length = n) ∧ n ≤ c ∧ Hid (A = none → c = 0) ∧ Hid (Rd w w.heap.size A l) := by
  rcases h.2 with ⟨rfl, h0⟩ | ⟨g, cap, cur, rfl, hb, hh, hc, hm, hs, ht⟩
  · exact ⟨none, 0, 0, rfl, Lib.hid h0, by omega, Lib.hid fun _ => rfl, Lib.hid fun h => by omega⟩
  · refine ⟨_, _, cap, rfl, Lib.hid rfl, hc, Lib.hid (fun h => by cases h), Lib.hid fun _ => ⟨g, 0, rfl, (Array.getElem?_eq_some_iff.1 hh).1, fun i hi => ?_⟩⟩
    rw [Nat.zero_add, cell_of_row w g i cur _ _ hh]
    have h1 : (cur.toList.take (l.length * 1))[i]? = cur[i]? := by rw [List.getElem?_take_of_lt (by omega)]; simp
    rw [← h1, ht, List.getElem?_map, List.getElem?_eq_getElem hi, List.getD_eq_getElem?_getD, List.getElem?_eq_getElem hi]
    rfl
theorem OwnB.kept {w w' : World} {base : Nat} {v : Value} {l : List Nat} (h : OwnB w base v l) (hk : ∀ g, v.ownBlock = some g → w'.heap[g]? = w.heap[g]?) : OwnB w' base v l := by
  refine ⟨h.1, ?_⟩
  rcases h.2 with h0 | ⟨g, cap, cur, rfl, hb, hh, r⟩
  · exact .inl h0
  · exact .inr ⟨g, cap, cur, rfl, hb, (hk g rfl).trans hh, r⟩
theorem OwnB.block {w : World} {base : Nat} {v : Value} {l : List Nat} (h : OwnB w base v l) (g : Nat) (hg : v.ownBlock = some g) : base ≤ g ∧ g < w.heap.size := by
  rcases h.2 with ⟨rfl, h0⟩ | ⟨g', cap, cur, rfl, hb, hh, r⟩
  · cases hg
  · have : g' = g := by simpa [Value.ownBlock] using hg
    subst this
    exact ⟨hb, (Array.getElem?_eq_some_iff.1 hh).1⟩
theorem OwnB.below {w w' : World} {base : Nat} {v : Value} {l : List Nat} (h : OwnB w base v l) (hb : Below w.heap.size w w') : OwnB w' base v l :=
  h.kept fun g hg => hb.block g (h.block g hg).2
set_option maxRecDepth 100000 in
/-- append of bytes to a slice that the call made -/
theorem wpList_append_bytes {w : World} {ops : Array Oper} {rest : List Oper} {o : Oper} {a : Act} {Q : Exit → Act → World → Prop} (hgd : o.guard = none) (s x : Operand)
    (ho : o.op = .call { callee := .builtin .append, args := #[s, x], argTypes := #[43, 43] })
    (base : Nat) (v : Value) (l r : List Nat) (hs : a.eval s = v) (hown : Hid (OwnB w base v l)) (A : Option Addr) (m c : Nat) (hx : a.eval x = .slice A m c) (hm : Hid (r.length = m)) (hn : A = none → c = 0)
    (hr : Hid (Rd w w.heap.size A r)) (hlen : l.length + m ≤ 1099511627776) (hbase : base ≤ w.heap.size)
    (h : ∀ v' w', Hid (OwnB w' base v' (l ++ r)) → Hid (Below base w w') → wpList Tryd.prog ops Q rest (a.put o.dst v') w') : wpList Tryd.prog ops Q (o :: rest) a w := by
  obtain ⟨i0, hi, hz0, hz1, hz2⟩ := info_parts info_u8
  obtain rfl := hm.out
  rcases A with _ | ad
  · obtain rfl := hn rfl
    have h0 : r = [] := by
      apply Classical.byContradiction
      intro hne
      obtain ⟨g, off, e, _⟩ := hr.out (List.length_pos_iff.2 hne)
      cases e
    subst h0
    refine wpList_append_own_none hgd s x _ ho base _ i0 1 Tryd.underlying43 hi v _ _ hs hown.out hx ?_
    exact h v w (Lib.hid (by rw [List.append_nil]; exact hown.out)) (Lib.hid (Below.refl _ _))
  · refine wpList_append_own_at _ hgd s x _ ho base _ i0 _ 1 1 Tryd.underlying43 hi hz0 hz1 hz2 rfl (by omega) v _ _ hs hown.out ad r.length c (r.map fun x => Value.int .u8 (x : Nat)) hx (by simp) (fun j u hu => ?_) (fun u hu => ?_) (by unfold maxLen; omega) (by omega) hbase ?_
    · have hj : j < r.length := by have := (List.getElem?_eq_some_iff.1 hu).1; simpa using this
      obtain ⟨g, off, e, _, hc⟩ := hr.out (by omega)
      injection e with e
      subst e
      rw [add_row, hc j hj, ← hu, List.getElem?_map, List.getD_eq_getElem?_getD, List.getElem?_eq_getElem hj]
      rfl
    · simp only [List.mem_map] at hu
      obtain ⟨x, _, rfl⟩ := hu
      rfl
    · intro v' w' h1 h2 _ h3
      refine h v' w' (Lib.hid ?_) (Lib.hid ⟨h2.os, h2.tape, h2.output, h2.size, fun i hi => ?_⟩)
      · unfold OwnB; rw [List.length_append, List.map_append]; exact h1
      · refine h2.block i (Nat.lt_of_lt_of_le hi hbase) (fun e => ?_)
        have := (hown.out.block i e.symm).1
        omega
set_option maxHeartbeats 2000000 in
set_option maxRecDepth 100000 in
theorem grow_nil (n : Nat) (w : World) (hn : n ≤ 1099511627776) :
    Calls Tryd.prog 58 #[.slice none 0 0, .int .i64 n] w fun e w' => ∃ v, e = .returned v ∧ OwnB w' w.heap.size v [] ∧ Below w.heap.size w w' := by
  by_cases h0 : n = 0
  · subst h0
    go_enter Tryd.func58, Tryd.ntmps58
    go_wp2_with fail
    go_ret
    exact ⟨_, rfl, OwnB.nil _ _, Below.refl _ _⟩
  · obtain ⟨i0, hi, hz0, hz1, hz2⟩ := info_parts info_u8
    have hold : (Builtin.firstCells i0.size 0 (.slice none 0 0)).run Tryd.prog w.drew = .ok ([] : List Value).toArray w.drew := run_firstCells_none w.drew i0.size 0 0 0
    have hrz := Lib.run_append_grow_zeros (P := Tryd.prog) w 43 3 43 5 i0 (.int .u8 0) .i64 .i64 Tryd.underlying43 Tryd.underlying3 hi hz0 none 0 0 [] hold n (by omega) (by omega) (by omega) (by omega) (by rw [hz2]; omega) (growslice_fits (by omega) (by rw [hz2]; omega))
    have hG := grownCap_ge w (0 + n) 0 5
    have hG2 := grownCap_le_maxLen w (0 + n) 0 5 (by unfold maxLen; omega)
    generalize grownCap w (0 + n) 0 5 = G at *
    rw [Nat.zero_add] at hrz hG
    unfold maxLen at hG2
    have HR := Lib.hid hrz
    clear hrz hold
    have hn1 : 0 < n := by omega
    go_enter Tryd.func58, Tryd.ntmps58
    go_wp2_with (at_builtin; refine Lib.wpList_append_run _ rfl _ _ _ _ rfl _ _ rfl rfl _ _ HR.out ?_)
    go_ret
    refine ⟨_, rfl, ⟨rfl, .inr ⟨w.heap.size, G, _, rfl, Nat.le_refl _, heap_alloc_new w.drew _, by simp, by unfold maxLen; omega, ?_, by simp⟩⟩, ((Below.refl _ _).drew).alloc (Nat.le_refl _) _⟩
    simp [Builtin.zeroCells]
    omega
end Go.Proofs.YtgcmbiegbclhmaaDoor
