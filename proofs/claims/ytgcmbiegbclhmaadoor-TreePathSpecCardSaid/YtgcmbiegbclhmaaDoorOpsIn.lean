/- Operations inside a round of a range over a function: rows loaded and stored, slices of nodes and bools built and appended. -/
import Derived.Maps.OwnIn
import Derived.Maps.AppendAt
import Derived.OwnWalkIn
import Derived.RangeFuncNested
import Derived.RangeFuncFrom
import Derived.RangeFuncBox
import Derived.Test.YtgcmbiegbclhmaaDoorTreeRev
namespace Go.Proofs.YtgcmbiegbclhmaaDoor
open Go.RowKit SzSha SzTree
set_option linter.unusedVariables false
set_option maxRecDepth 100000
section
variable {F : Fence} {nF : Nat} {P : Program} {ops : Array Oper} {rest : List Oper} {o : Oper} {a : Act} {w : World} {Q : Exit → Act → World → Prop}
theorem wpListIn_load_row (hgd : o.guard = none) (ty : TypeId) (x : Operand) (ho : o.op = .load ty x)
    (g : Nat) (hx : a.eval x = .pointer (some ⟨g, 0, none⟩)) (t : TypeId) (cs : Array Value) (fr : Nat × Nat) (d : TypeDesc) (hg : w.heap[g]? = some (.cells cs t fr))
    (hu : P.underlying ty = some d) (hd : (match d with | .struct _ | .array _ _ => true | _ => false) = true) (hi : (P.info? ty).map (·.size) = some cs.size)
    (h : wpListIn F nF P ops Q rest (a.put o.dst (.agg cs)) w) : wpListIn F nF P ops Q (o :: rest) a w := by
  refine wpListIn_plain hgd fun K hK => ?_
  unfold Oper.wpIn
  refine ⟨by simp [Oper.about, ho], ?_⟩
  rw [Oper.semAt_plain F _ _ (by rw [ho]; intro c hc'; cases hc')]
  unfold execOp
  simp only [ho, hx, Instr.loadAt, Instr.sureAddr, Sem.run_bind, Sem.run_pure, Result.andThen_ok, run_loadVar_row w g t ty cs fr d hg hu hd hi]
  exact hK _ _ h
theorem wpListIn_store_row (hgd : o.guard = none) (ty : TypeId) (x y : Operand) (ho : o.op = .store ty x y)
    (g : Nat) (cells : Array Value) (hx : a.eval x = .pointer (some ⟨g, 0, none⟩)) (hy : a.eval y = .agg cells)
    (t : TypeId) (old : Array Value) (hg : w.heap[g]? = some (.cells old t (0, 0))) (hi : (P.info? ty).map (·.size) = some cells.size)
    (hold : old.size = cells.size) (h1 : cells.all (·.oneCell') = true)
    (h : wpListIn F nF P ops Q rest (a.put o.dst undef) (w.setRow g cells)) : wpListIn F nF P ops Q (o :: rest) a w := by
  refine wpListIn_plain hgd fun K hK => ?_
  unfold Oper.wpIn
  refine ⟨by simp [Oper.about, ho], ?_⟩
  rw [Oper.semAt_plain F _ _ (by rw [ho]; intro c hc'; cases hc')]
  unfold execOp
  simp only [ho, hx, hy, Instr.storeAt, Instr.sureAddr, Sem.run_bind, Sem.run_pure, Result.andThen_ok, run_storeVar_row w g t ty old cells hg hi hold h1]
  exact hK _ _ h
theorem wpListIn_buildSlice (hgd : o.guard = none) (t e : TypeId) (len : Nat) (parts : Array (Nat × Operand)) (ho : o.op = .buildSlice t len parts)
    (cells : Array Value) (ie : TypeInfo) (z : Value)
    (hu : P.underlying t = some (.slice e)) (hie : P.info? e = some ie) (hz : ie.zero = some z) (hsmall : ¬ len * ie.size > 2 ^ 24) (hpos : ¬ len * ie.size = 0)
    (hf : Instr.fill (fun i => some (i * ie.size, ie.size)) ((Array.range (len * ie.size)).map (z.cells[· % z.cells.size]!)) (parts.map fun (i, x) => (i, a.eval x)).toList = some cells)
    (h : wpListIn F nF P ops Q rest (a.put o.dst (.slice (some ⟨w.heap.size, 0, none⟩) len len)) (w.alloc (.cells cells e))) : wpListIn F nF P ops Q (o :: rest) a w := by
  refine wpListIn_plain hgd fun K hK => ?_
  unfold Oper.wpIn
  refine ⟨by simp [Oper.about, ho], ?_⟩
  rw [Oper.semAt_plain F _ _ (by rw [ho]; intro c hc'; cases hc')]
  unfold execOp
  simp only [ho, Sem.run_bind, run_buildSlice w t e len _ cells ie z hu hie hz hsmall hpos hf, Result.andThen_ok]
  exact hK _ _ h
end
theorem info_node : ∃ i, Tryd.prog.info? 26 = some i ∧ i.zero = some (.agg (Array.replicate 32 (.int .u8 0) ++ #[.int .i64 0, .int .i64 0])) ∧ i.size = 34 ∧ i.bytes = 48 := by
  refine ⟨_, rfl, ?_, ?_, ?_⟩ <;> kernel_rfl
theorem fill_node1 {n : Nd} (hn : NdOk n) {i : TypeInfo} {z : Value} (hs : i.size = 34) : Instr.fill (fun j => some (j * i.size, i.size)) ((Array.range (1 * i.size)).map (z.cells[· % z.cells.size]!)) [(0, ndV n)] = some (flatN [n]).toArray := by
  rw [hs]
  have e1 : ([(0, ndV n)] : List (Nat × Value)) = (([ndV n] : List Value).zipIdx 0).map fun x => (x.2, x.1) := by simp
  rw [e1, Great.fill_whole (by omega) [ndV n] _ (fun v hv => by
    simp only [List.mem_cons, List.not_mem_nil, or_false] at hv
    subst hv
    rw [nd_cells]; simpa using ndC_length hn) (by simp)]
  rfl
theorem wpList_build_nodes1 {w : World} {ops : Array Oper} {rest : List Oper} {o : Oper} {a : Act} {Q : Exit → Act → World → Prop} (hg : o.guard = none) (x : Operand)
    (ho : o.op = .buildSlice 22 1 #[(0, x)]) (n : Nd) (hx : a.eval x = ndV n) (hn : NdOk n)
    (h : wpList Tryd.prog ops Q rest (a.put o.dst (.slice (some ⟨w.heap.size, 0, none⟩) 1 1)) (w.alloc (.cells (flatN [n]).toArray 26))) : wpList Tryd.prog ops Q (o :: rest) a w := by
  obtain ⟨i0, hi, hz, hs, _⟩ := info_node
  refine wpList_buildSlice hg 22 26 1 _ ho _ i0 _ Tryd.underlying22 hi hz (by rw [hs]; omega) (by rw [hs]; omega) ?_ h
  have e1 : (#[(0, x)].map fun (i, x) => (i, a.eval x)).toList = [(0, ndV n)] := by simp [hx]
  rw [e1]; exact fill_node1 hn hs
theorem wpListIn_build_nodes1 {F : Fence} {nF : Nat} {w : World} {ops : Array Oper} {rest : List Oper} {o : Oper} {a : Act} {Q : Exit → Act → World → Prop} (hg : o.guard = none) (x : Operand)
    (ho : o.op = .buildSlice 22 1 #[(0, x)]) (n : Nd) (hx : a.eval x = ndV n) (hn : NdOk n)
    (h : wpListIn F nF Tryd.prog ops Q rest (a.put o.dst (.slice (some ⟨w.heap.size, 0, none⟩) 1 1)) (w.alloc (.cells (flatN [n]).toArray 26))) : wpListIn F nF Tryd.prog ops Q (o :: rest) a w := by
  obtain ⟨i0, hi, hz, hs, _⟩ := info_node
  refine wpListIn_buildSlice hg 22 26 1 _ ho _ i0 _ Tryd.underlying22 hi hz (by rw [hs]; omega) (by rw [hs]; omega) ?_ h
  have e1 : (#[(0, x)].map fun (i, x) => (i, a.eval x)).toList = [(0, ndV n)] := by simp [hx]
  rw [e1]; exact fill_node1 hn hs
/-- a slice of nodes that the call made -/
def OwnN (w : World) (base : Nat) (v : Value) (ls : List Nd) : Prop := w.ownsRow base 26 34 v ls.length (flatN ls)
theorem OwnN.nil (w : World) (base : Nat) : OwnN w base (.slice none 0 0) [] := ⟨rfl, .inl ⟨rfl, rfl⟩⟩
theorem flatN_append (a b : List Nd) : flatN (a ++ b) = flatN a ++ flatN b := by unfold flatN; rw [List.flatMap_append]
theorem flatN_one (ls : List Nd) : ∀ u ∈ flatN ls, u.oneCell' = true := fun u hu => by
  obtain ⟨n, _, h⟩ := List.mem_flatMap.1 hu
  have := ndC_one n
  rw [Array.all_eq_true_iff_forall_mem] at this
  exact this u (by simpa using h)
theorem there_row {w : World} {g : Nat} {cur : Array Value} {t : TypeId} (h : w.heap[g]? = some (.cells cur t (0, 0))) {m : Nat} (hm : m ≤ cur.size) : w.there g 0 m := fun j hj => by
  rw [Nat.zero_add]
  exact ⟨by rw [cell_of_row w g j cur _ _ h]; simp; omega, by simp [World.frozen?, h]⟩
theorem OwnN.kept {w w' : World} {base : Nat} {v : Value} {ls : List Nd} (h : OwnN w base v ls) (hk : ∀ g, v.ownBlock = some g → w'.heap[g]? = w.heap[g]?) : OwnN w' base v ls := by
  refine ⟨h.1, ?_⟩
  rcases h.2 with h0 | ⟨g, cap, cur, rfl, hb, hh, r⟩
  · exact .inl h0
  · exact .inr ⟨g, cap, cur, rfl, hb, (hk g rfl).trans hh, r⟩
theorem OwnN.block {w : World} {base : Nat} {v : Value} {ls : List Nd} (h : OwnN w base v ls) (g : Nat) (hg : v.ownBlock = some g) : base ≤ g ∧ g < w.heap.size ∧ ∃ cur, w.heap[g]? = some (.cells cur 26 (0, 0)) := by
  rcases h.2 with ⟨rfl, h0⟩ | ⟨g', cap, cur, rfl, hb, hh, r⟩
  · cases hg
  · have : g' = g := by simpa [Value.ownBlock] using hg
    subst this
    exact ⟨hb, (Array.getElem?_eq_some_iff.1 hh).1, cur, hh⟩
theorem OwnN.below {w w' : World} {base : Nat} {v : Value} {ls : List Nd} (h : OwnN w base v ls) (hb : Below w.heap.size w w') : OwnN w' base v ls := h.kept fun g hg => hb.block g (h.block g hg).2.1
theorem OwnN.form {w : World} {base : Nat} {v : Value} {ls : List Nd} (h : OwnN w base v ls) : ∃ A n c, v = .slice A n c := by
  rcases h.2 with ⟨rfl, h0⟩ | ⟨g, cap, cur, rfl, r⟩
  · exact ⟨_, _, _, rfl⟩
  · exact ⟨_, _, _, rfl⟩
/-- the slice, read -/
theorem OwnN.slice {w : World} {base : Nat} {v : Value} {ls : List Nd} (h : OwnN w base v ls) (ho : ∀ x ∈ ls, NdOk x) : ∃ A n c, v = .slice A n c ∧ InN w A n c ls ∧ (∀ x, A = some x → ∃ g, x = ⟨g, 0, none⟩ ∧ base ≤ g ∧ w.there g 0 (n * 34)) := by
  rcases h.2 with ⟨rfl, h0⟩ | ⟨g, cap, cur, rfl, hb, hh, hc, hm, hs, ht⟩
  · exact ⟨none, 0, 0, rfl, ⟨h0, Nat.le_refl _, fun _ => rfl, ho, fun h1 => by omega⟩, fun x hx => by cases hx⟩
  · refine ⟨_, _, cap, rfl, ⟨rfl, hc, (fun e => by cases e), ho, fun _ => ⟨g, 0, rfl, (Array.getElem?_eq_some_iff.1 hh).1, fun j u hj => ?_⟩⟩, fun x hx => by cases hx; exact ⟨g, rfl, hb, there_row hh (by rw [hs]; exact Nat.mul_le_mul_right 34 hc)⟩⟩
    have hj2 : j < ls.length * 34 := by rw [← flatN_length ls ho]; exact (List.getElem?_eq_some_iff.1 hj).1
    rw [Nat.zero_add, cell_of_row w g j cur _ _ hh]
    rw [← ht, List.getElem?_take_of_lt hj2] at hj
    simpa using hj
/-- append of a node to a slice of the call's own -/
theorem append_node_post {base : Nat} {w w' : World} {v v' : Value} {ls : List Nd} {n : Nd} (hown : OwnN w base v ls) (h1 : w'.ownsRow base 26 34 v' (ls.length + 1) (flatN ls ++ flatN [n])) (h2 : w.grownBy w' v.ownBlock) (hbase : base ≤ w.heap.size) : OwnN w' base v' (ls ++ [n]) := by
  unfold OwnN
  rw [flatN_append, List.length_append]; exact h1
theorem wpListIn_append_node {F : Fence} {nF : Nat} {w : World} {ops : Array Oper} {rest : List Oper} {o : Oper} {a : Act} {Q : Exit → Act → World → Prop} (hgd : o.guard = none) (s x : Operand)
    (ho : o.op = .call { callee := .builtin .append, args := #[s, x], argTypes := #[22, 22] })
    (base : Nat) (v : Value) (ls : List Nd) (n : Nd) (hs : a.eval s = v) (hown : Hid (OwnN w base v ls)) (hn : NdOk n) (g : Nat) (hx : a.eval x = .slice (some ⟨g, 0, none⟩) 1 1)
    (hr : Hid (w.heap[g]? = some (.cells (flatN [n]).toArray 26 (0, 0)))) (hlen : ls.length ≤ 100000) (hbase : base ≤ w.heap.size)
    (h : ∀ v' w', Hid (OwnN w' base v' (ls ++ [n])) → Hid (w.grownBy w' v.ownBlock) → wpListIn F nF Tryd.prog ops Q rest (a.put o.dst v') w') : wpListIn F nF Tryd.prog ops Q (o :: rest) a w := by
  obtain ⟨i0, hi, hz, hz1, hz2⟩ := info_node
  refine wpListIn_append_own_at _ hgd s x _ ho base _ i0 _ 34 48 Tryd.underlying22 hi hz hz1 hz2 (by simp [Value.cells]) (by omega) v _ _ hs hown.out ⟨g, 0, none⟩ 1 1 (flatN [n]) hx (by rw [flatN_length _ (fun y hy => by simp at hy; subst hy; exact hn)]; rfl) (fun j u hu => by rw [add_row]; exact range_row hr.out j u hu) (flatN_one _) (by unfold maxLen; omega) (by omega) hbase ?_
  intro v' w' h1 h2 h3 h4
  have := append_node_post hown.out h1 h2 hbase
  exact h v' w' (Lib.hid this) (Lib.hid h2)
theorem wpList_append_node {w : World} {ops : Array Oper} {rest : List Oper} {o : Oper} {a : Act} {Q : Exit → Act → World → Prop} (hgd : o.guard = none) (s x : Operand)
    (ho : o.op = .call { callee := .builtin .append, args := #[s, x], argTypes := #[22, 22] })
    (base : Nat) (v : Value) (ls : List Nd) (n : Nd) (hs : a.eval s = v) (hown : Hid (OwnN w base v ls)) (hn : NdOk n) (g : Nat) (hx : a.eval x = .slice (some ⟨g, 0, none⟩) 1 1)
    (hr : Hid (w.heap[g]? = some (.cells (flatN [n]).toArray 26 (0, 0)))) (hlen : ls.length ≤ 100000) (hbase : base ≤ w.heap.size)
    (h : ∀ v' w', Hid (OwnN w' base v' (ls ++ [n])) → Hid (w.grownBy w' v.ownBlock) → wpList Tryd.prog ops Q rest (a.put o.dst v') w') : wpList Tryd.prog ops Q (o :: rest) a w := by
  obtain ⟨i0, hi, hz, hz1, hz2⟩ := info_node
  refine wpList_append_own_at _ hgd s x _ ho base _ i0 _ 34 48 Tryd.underlying22 hi hz hz1 hz2 (by simp [Value.cells]) (by omega) v _ _ hs hown.out ⟨g, 0, none⟩ 1 1 (flatN [n]) hx (by rw [flatN_length _ (fun y hy => by simp at hy; subst hy; exact hn)]; rfl) (fun j u hu => by rw [add_row]; exact range_row hr.out j u hu) (flatN_one _) (by unfold maxLen; omega) (by omega) hbase ?_
  intro v' w' h1 h2 h3 h4
  have := append_node_post hown.out h1 h2 hbase
  exact h v' w' (Lib.hid this) (Lib.hid h2)
/-- slices of bools that the call made -/
def bCs (bs : List Bool) : List Value := bs.map Value.bool
def OwnL (w : World) (base : Nat) (v : Value) (bs : List Bool) : Prop := w.ownsRow base 4 1 v bs.length (bCs bs)
theorem OwnL.nil (w : World) (base : Nat) : OwnL w base (.slice none 0 0) [] := ⟨rfl, .inl ⟨rfl, rfl⟩⟩
theorem OwnL.kept {w w' : World} {base : Nat} {v : Value} {ls : List Bool} (h : OwnL w base v ls) (hk : ∀ g, v.ownBlock = some g → w'.heap[g]? = w.heap[g]?) : OwnL w' base v ls := by
  refine ⟨h.1, ?_⟩
  rcases h.2 with h0 | ⟨g, cap, cur, rfl, hb, hh, r⟩
  · exact .inl h0
  · exact .inr ⟨g, cap, cur, rfl, hb, (hk g rfl).trans hh, r⟩
theorem OwnL.block {w : World} {base : Nat} {v : Value} {ls : List Bool} (h : OwnL w base v ls) (g : Nat) (hg : v.ownBlock = some g) : base ≤ g ∧ g < w.heap.size ∧ ∃ cur, w.heap[g]? = some (.cells cur 4 (0, 0)) := by
  rcases h.2 with ⟨rfl, h0⟩ | ⟨g', cap, cur, rfl, hb, hh, r⟩
  · cases hg
  · have : g' = g := by simpa [Value.ownBlock] using hg
    subst this
    exact ⟨hb, (Array.getElem?_eq_some_iff.1 hh).1, cur, hh⟩
theorem OwnL.below {w w' : World} {base : Nat} {v : Value} {ls : List Bool} (h : OwnL w base v ls) (hb : Below w.heap.size w w') : OwnL w' base v ls := h.kept fun g hg => hb.block g (h.block g hg).2.1
theorem OwnL.form {w : World} {base : Nat} {v : Value} {ls : List Bool} (h : OwnL w base v ls) : ∃ A n c, v = .slice A n c := by
  rcases h.2 with ⟨rfl, h0⟩ | ⟨g, cap, cur, rfl, r⟩
  · exact ⟨_, _, _, rfl⟩
  · exact ⟨_, _, _, rfl⟩
theorem OwnL.slice {w : World} {base : Nat} {v : Value} {ls : List Bool} (h : OwnL w base v ls) : ∃ A c, v = .slice A ls.length c ∧ ls.length ≤ c ∧ (0 < ls.length → ∃ g, A = some ⟨g, 0, none⟩ ∧ base ≤ g ∧ g < w.heap.size ∧ Rw bC 1 w g 0 ls.length (fun k => ls.getD k false)) ∧ (A = none → c = 0) := by
  rcases h.2 with ⟨rfl, h0⟩ | ⟨g, cap, cur, rfl, hb, hh, hc, hm, hs, ht⟩
  · exact ⟨none, 0, by rw [h0], by omega, fun h1 => by omega, fun _ => rfl⟩
  · refine ⟨_, cap, rfl, hc, fun _ => ⟨g, rfl, hb, (Array.getElem?_eq_some_iff.1 hh).1, fun k hk => ⟨fun j u hj => ?_, ?_⟩⟩, fun e => by cases e⟩
    · have hj0 : j = 0 := by
        have := (List.getElem?_eq_some_iff.1 hj).1
        simp [bC] at this; exact this
      subst hj0
      have hk2 : (bCs ls)[k]? = some u := by
        simp only [bC, List.getElem?_cons_zero, Option.some.injEq] at hj
        simp [bCs, hk, ← hj, List.getD_eq_getElem?_getD]
      rw [show 0 + k * 1 + 0 = k by omega, cell_of_row w g k cur _ _ hh]
      rw [← ht, List.getElem?_take_of_lt (by omega)] at hk2
      simpa using hk2
    · intro j hj
      have := there_row hh (m := k * 1 + 1) (by rw [hs]; omega) (k * 1 + j) (by omega)
      rwa [Nat.zero_add, show k * 1 + j = 0 + k * 1 + j by omega] at this
theorem info_bool : ∃ i, Tryd.prog.info? 4 = some i ∧ i.zero = some (.bool false) ∧ i.size = 1 ∧ i.bytes = 1 := by
  refine ⟨_, rfl, ?_, ?_, ?_⟩ <;> kernel_rfl
theorem wpListIn_append_bool {F : Fence} {nF : Nat} {w : World} {ops : Array Oper} {rest : List Oper} {o : Oper} {a : Act} {Q : Exit → Act → World → Prop} (hgd : o.guard = none) (s x : Operand)
    (ho : o.op = .call { callee := .builtin .append, args := #[s, x], argTypes := #[71, 71] })
    (base : Nat) (v : Value) (ls : List Bool) (b : Bool) (hs : a.eval s = v) (hown : Hid (OwnL w base v ls)) (g : Nat) (hx : a.eval x = .slice (some ⟨g, 0, none⟩) 1 1)
    (hr : Hid (w.heap[g]? = some (.cells #[.bool b] 4 (0, 0)))) (hlen : ls.length ≤ 100000) (hbase : base ≤ w.heap.size)
    (h : ∀ v' w', Hid (OwnL w' base v' (ls ++ [b])) → Hid (w.grownBy w' v.ownBlock) → wpListIn F nF Tryd.prog ops Q rest (a.put o.dst v') w') : wpListIn F nF Tryd.prog ops Q (o :: rest) a w := by
  obtain ⟨i0, hi, hz, hz1, hz2⟩ := info_bool
  refine wpListIn_append_own_at _ hgd s x _ ho base _ i0 _ 1 1 Tryd.underlying71 hi hz hz1 hz2 rfl (by omega) v _ _ hs hown.out ⟨g, 0, none⟩ 1 1 [.bool b] hx rfl (fun j u hu => by rw [add_row, Nat.zero_add, cell_of_row w g j _ _ _ hr.out]; simpa using hu) (fun u hu => by simp at hu; subst hu; rfl) (by unfold maxLen; omega) (by omega) hbase ?_
  intro v' w' h1 h2 h3 h4
  refine h v' w' (Lib.hid ?_) (Lib.hid h2)
  unfold OwnL bCs
  rw [List.map_append, List.length_append]; exact h1
theorem own_own (b base : Nat) (t : TypeId) {β : Type} (f : β → List Nd) : Own (fun s W => ∃ v, Boxed W b t v ∧ OwnN W base v (f s)) := fun s W W' row hs hg hrow => by
  obtain ⟨v, h1, h2⟩ := hs
  refine ⟨v, boxed_own b t (fun _ : β => v) s W W' row h1 hg hrow, h2.kept fun g hb => ?_⟩
  obtain ⟨_, hlt, cur, hc⟩ := h2.block g hb
  refine hg.block g hlt fun e => ?_
  obtain ⟨o, ho, hc2⟩ := hrow g e.symm
  rw [hc] at ho; cases ho; cases hc2
theorem ownL_own (b base : Nat) (t : TypeId) {β : Type} (f : β → List Bool) : Own (fun s W => ∃ v, Boxed W b t v ∧ OwnL W base v (f s)) := fun s W W' row hs hg hrow => by
  obtain ⟨v, h1, h2⟩ := hs
  refine ⟨v, boxed_own b t (fun _ : β => v) s W W' row h1 hg hrow, h2.kept fun g hb => ?_⟩
  obtain ⟨_, hlt, cur, hc⟩ := h2.block g hb
  refine hg.block g hlt fun e => ?_
  obtain ⟨o, ho, hc2⟩ := hrow g e.symm
  rw [hc] at ho; cases ho; cases hc2
theorem row_own (b : Nat) (t : TypeId) (cs : Array Value) {β : Type} : Own (fun (_ : β) W => W.heap[b]? = some (.cells cs t (0, 0))) := fun s W W' row hs hg hrow => by
  refine (hg.block b (Array.getElem?_eq_some_iff.1 hs).1 fun e => ?_).trans hs
  obtain ⟨o, ho, hc2⟩ := hrow b e.symm
  rw [hs] at ho; cases ho; cases hc2
/-- a slice of nodes after a turn of a block that is no cells -/
theorem InN.putObj {w : World} {A : Option Addr} {n c : Nat} {ls : List Nd} (h : InN w A n c ls) (D : Nat) (o o' : Obj) (hD : w.heap[D]? = some o) (ho : o.isCells = false) : InN (w.putObj D o') A n c ls :=
  ⟨h.len, h.cap, h.none_, h.ok, fun h0 => by
    obtain ⟨g, off, e, hg, hr⟩ := h.rd h0
    refine ⟨g, off, e, by simpa using hg, fun j v hj => ?_⟩
    have hc := hr j v hj
    obtain ⟨o2, ho2, hc2⟩ := cells_of_cell hc
    have hne : g ≠ D := fun e => by subst e; rw [hD] at ho2; cases ho2; rw [ho] at hc2; cases hc2
    have hb : (w.putObj D o').heap[g]? = w.heap[g]? := World.putObj_heap_other hne
    rw [← hc]; exact World.cell?_of_block hb⟩
/-- Reverse of nodes -/
theorem flat_range {w : World} {g off : Nat} : ∀ (ls : List Nd), (∀ x ∈ ls, NdOk x) → (∀ k, k < ls.length → w.rangeAt g (off + k * 34) (ndC (ls.getD k zeroN))) → w.rangeAt g off (flatN ls) := fun ls ho h j v hj => by
  have hl := flatN_length ls ho
  have hj2 : j < ls.length * 34 := by rw [← hl]; exact (List.getElem?_eq_some_iff.1 hj).1
  have hk : j / 34 < ls.length := by omega
  have hr := h (j / 34) hk (j % 34)
  have he : ls.getD (j / 34) zeroN = ls[j / 34] := by simp [List.getD_eq_getElem?_getD, hk]
  rw [he] at hr
  have hm : j % 34 < (ndC ls[j / 34]).length := by rw [ndC_length (ho _ (List.getElem_mem _))]; omega
  obtain ⟨v2, hv2⟩ : ∃ v2, (ndC ls[j / 34])[j % 34]? = some v2 := ⟨_, List.getElem?_eq_getElem hm⟩
  have h2 := flatN_get ls ho (j / 34) hk (j % 34) v2 hv2
  rw [show j / 34 * 34 + j % 34 = j by omega, hj] at h2
  cases h2
  have := hr v hv2
  rwa [show off + j / 34 * 34 + j % 34 = off + j by omega] at this
set_option maxHeartbeats 2000000 in
theorem rev_nil (c : Nat) (w : World) : Calls Tryd.prog 40 #[.slice none 0 c] w fun e w' => (∃ v, e = .returned v) ∧ w = w' := by
  go_enter Tryd.func40, Tryd.ntmps40
  go_wp2_with fail
  go_loopw [2, 3] (fun s t wr => s = .int .i64 0 ∧ t = .int .i64 (-1) ∧ w = wr) (fun _ _ _ => 0)
  case atStart => exact ⟨rfl, rfl, rfl⟩
  case round =>
    obtain ⟨rfl, rfl, rfl⟩ := hrel
    go_wp2_with fail
    go_end0
    exact ⟨⟨_, rfl⟩, rfl⟩
theorem rev_any (ls : List Nd) (A : Option Addr) (n c base : Nat) (w : World) (hn : n ≤ 1000000) (h : Hid (InN w A n c ls)) (ht : Hid (∀ x, A = some x → ∃ g, x = ⟨g, 0, none⟩ ∧ base ≤ g ∧ w.there g 0 (n * 34))) (hb : base ≤ w.heap.size) :
    Calls Tryd.prog 40 #[.slice A n c] w fun e w' => (∃ v, e = .returned v) ∧ InN w' A n c ls.reverse ∧ w.grownBy w' (Value.slice A n c).ownBlock := by
  rcases A with _ | a
  · have hc := h.out.none_ rfl
    have h0 : n = 0 := by have := h.out.cap; omega
    have hl : ls = [] := List.eq_nil_of_length_eq_zero (by rw [h.out.len]; exact h0)
    subst hl; subst h0
    exact (rev_nil c w).mono fun e w' hh => by
      obtain ⟨h1, rfl⟩ := hh
      exact ⟨h1, h.out, ⟨rfl, rfl, rfl, Nat.le_refl _, fun _ _ _ => rfl⟩⟩
  · obtain ⟨g, rfl, hbg, hth⟩ := ht.out a rfl
    by_cases h0 : n = 0
    · have hl : ls = [] := List.eq_nil_of_length_eq_zero (by rw [h.out.len]; exact h0)
      subst hl; subst h0
      refine (rev_nodes (fun k => zeroN) g 0 0 c w (by omega) (Nat.zero_le _) (Lib.hid (fun k hk => by omega)) (Lib.hid (fun k hk => by omega))).mono ?_
      rintro e w' ⟨h1, h2, h3⟩
      exact ⟨h1, ⟨rfl, Nat.zero_le _, (fun e => by cases e), (fun x hx => by cases hx), (fun h0 => by simp at h0)⟩, h3⟩
    · obtain ⟨g', off', e, hg, hr⟩ := h.out.rd (by rw [h.out.len]; omega)
      cases e
      have hgd : ∀ k (hk : k < n), ls.getD k zeroN = ls[k]'(by rw [h.out.len]; exact hk) := fun k hk => by
        have : k < ls.length := by rw [h.out.len]; exact hk
        simp [List.getD_eq_getElem?_getD, this]
      refine (rev_nodes (fun k => ls.getD k zeroN) g 0 n c w hn h.out.cap (Lib.hid (fun k hk => ?_)) (Lib.hid (fun k hk => ⟨?_, fun j hj => ?_⟩))).mono ?_
      · rw [hgd k hk]; exact h.out.ok _ (List.getElem_mem _)
      · show w.rangeAt g (0 + k * 34) (ndC (ls.getD k zeroN))
        rw [hgd k hk]; exact range_one hr h.out.ok k (by rw [h.out.len]; exact hk)
      · have := hth (k * 34 + j) (by have := mul_gap (s := 34) hk; omega)
        rwa [← Nat.add_assoc] at this
      · rintro e w' ⟨h1, h2, h3⟩
        refine ⟨h1, ⟨by rw [List.length_reverse]; exact h.out.len, h.out.cap, (fun e => by cases e), fun x hx => h.out.ok x (List.mem_reverse.1 hx), fun _ => ⟨g, 0, rfl, Nat.lt_of_lt_of_le hg h3.size, ?_⟩⟩, h3⟩
        refine flat_range _ (fun x hx => h.out.ok x (List.mem_reverse.1 hx)) fun k hk => ?_
        rw [List.length_reverse, h.out.len] at hk
        have hk2 : k < ls.reverse.length := by rw [List.length_reverse, h.out.len]; exact hk
        have : w'.rangeAt g (0 + k * 34) (ndC (ls.getD (n - 1 - k) zeroN)) := (h2 k hk).1
        rw [hgd (n - 1 - k) (by omega)] at this
        have e2 : ls.reverse.getD k zeroN = ls[n - 1 - k]'(by rw [h.out.len]; omega) := by
          rw [List.getD_eq_getElem?_getD, List.getElem?_eq_getElem hk2, Option.getD_some, List.getElem_reverse]
          congr 1
          rw [h.out.len]
        rw [e2]; exact this
end Go.Proofs.YtgcmbiegbclhmaaDoor
