/- Nodes compared; sizarref41.Same. -/
import Derived.Test.YtgcmbiegbclhmaaDoorTreeValid
import Derived.Test.YtgcmbiegbclhmaaDoorDigEq
import Derived.Laws.StructEq
namespace Go.Proofs.YtgcmbiegbclhmaaDoor
open Go.RowKit SzSha SzTree
set_option linter.unusedVariables false
set_option maxRecDepth 100000
/-- equality of nodes -/
def ndEq (a b : Nd) : Bool := a.d == b.d && (a.c == b.c && a.p == b.p)
theorem ndEq_iff (a b : Nd) : ndEq a b = true ↔ a = b := by
  cases a; cases b
  simp [ndEq]
theorem ndEq_refl (a : Nd) : ndEq a a = true := (ndEq_iff a a).2 rfl
theorem size_dig (w : World) : (sizeOf 24).run Tryd.prog w = .ok 32 w := by
  obtain ⟨i, hi, hs⟩ : ∃ i, Tryd.prog.info? 24 = some i ∧ i.size = 32 := by refine ⟨_, rfl, ?_⟩; kernel_rfl
  simp [sizeOf, typeInfo, hi, hs]
theorem part_d {n : Nd} (h : NdOk n) (w : World) : (part 24 (ndC n).toArray 0).run Tryd.prog w = .ok (dgV n.d) w := by
  have e : (ndC n).take 32 = n.d.map fun x => Value.int .u8 (x : Nat) := by unfold ndC; rw [List.take_left' (by simp [h.len])]
  have hu := Tryd.underlying24
  simp [part, isAgg, run_underlying hu, dgV, ← e]
theorem part_c {n : Nd} (h : NdOk n) (w : World) : (part 3 (ndC n).toArray 32).run Tryd.prog w = .ok (.int .i64 n.c) w := by
  have hu := Tryd.underlying3
  have hc := ndC_c h
  simp [part, isAgg, run_underlying hu, hc]
theorem part_p {n : Nd} (h : NdOk n) (w : World) : (part 3 (ndC n).toArray 33).run Tryd.prog w = .ok (.int .i64 n.p) w := by
  have hu := Tryd.underlying3
  have hc := ndC_p h
  simp [part, isAgg, run_underlying hu, hc]
theorem equal_nd (a b : Nd) (ha : NdOk a) (hb : NdOk b) (w : World) : (Op.equalIn 10000 26 (ndV a) (ndV b)).run Tryd.prog w = .ok (ndEq a b) w := by
  have hf : (Tryd.prog.fieldsOf 26).toList.map (fun f => (f.name != "_", f.type, f.offset)) = [(true, 24, 0), (true, 3, 32), (true, 3, 33)] := by kernel_rfl
  have hS : Tryd.prog.underlying 26 = some (.struct (Tryd.prog.fieldsOf 26)) := by kernel_rfl
  have hp : Tryd.prog.stoodInHeld 26 = false := by kernel_rfl
  unfold ndV
  rw [show (10000 : Nat) = 9999 + 1 from rfl, run_equalIn_agg w 9999 _ _ _ hS hp]
  generalize (Tryd.prog.fieldsOf 26).toList = fs at hf
  obtain ⟨f1, f2, f3, rfl⟩ : ∃ f1 f2 f3, fs = [f1, f2, f3] := by
    have hl := congrArg List.length hf
    simp only [List.length_map, List.length_cons, List.length_nil] at hl
    rcases fs with _ | ⟨f1, fs⟩
    · simp at hl
    rcases fs with _ | ⟨f2, fs⟩
    · simp at hl
    rcases fs with _ | ⟨f3, fs⟩
    · simp at hl
    rcases fs with _ | ⟨f4, fs⟩
    · exact ⟨f1, f2, f3, rfl⟩
    · simp at hl
  simp only [List.map_cons, List.map_nil, List.cons.injEq, Prod.mk.injEq, and_true, bne_iff_ne, ne_eq] at hf
  obtain ⟨⟨n1, t1, o1⟩, ⟨n2, t2, o2⟩, n3, t3, o3⟩ := hf
  have q1 := equal_dg 9997 a.d b.d ha.len hb.len ha.bytes hb.bytes w
  have q2 := run_equalIn_int (P := Tryd.prog) w 9998 3 .i64 _ a.c b.c Tryd.underlying3
  have q3 := run_equalIn_int (P := Tryd.prog) w 9998 3 .i64 _ a.p b.p Tryd.underlying3
  simp only [Nat.reduceAdd] at q1 q2 q3
  have e3 : (Op.eqFields 9999 (ndC a).toArray (ndC b).toArray [f3]).run Tryd.prog w = .ok (a.p == b.p) w := by
    simp only [Op.eqFields, n3, t3, o3, not_false_eq_true, ne_eq, if_true, Sem.run_bind, part_p ha, part_p hb, Result.andThen_ok, q3]
    cases a.p == b.p <;> rfl
  have e2 : (Op.eqFields 9999 (ndC a).toArray (ndC b).toArray [f2, f3]).run Tryd.prog w = .ok (a.c == b.c && a.p == b.p) w := by
    rw [Op.eqFields]
    simp only [n2, t2, o2, not_false_eq_true, ne_eq, if_true, Sem.run_bind, part_c ha, part_c hb, Result.andThen_ok, q2]
    cases a.c == b.c
    · rfl
    · exact e3
  rw [Op.eqFields]
  simp only [n1, t1, o1, not_false_eq_true, ne_eq, if_true, Sem.run_bind, part_d ha, part_d hb, Result.andThen_ok, q1]
  unfold ndEq
  cases a.d == b.d
  · rfl
  · exact e2
theorem eql_nd (a b : Nd) (ha : NdOk a) (hb : NdOk b) (w : World) : (binOp .eql 26 (ndV a) (ndV b)).run Tryd.prog w = .ok (.bool (ndEq a b)) w := by
  have := equal_nd a b ha hb w
  unfold ndV at this ⊢
  rw [run_eql_struct, this]; rfl
theorem neq_nd (a b : Nd) (ha : NdOk a) (hb : NdOk b) (w : World) : (binOp .neq 26 (ndV a) (ndV b)).run Tryd.prog w = .ok (.bool (!(ndEq a b))) w := by
  have := equal_nd a b ha hb w
  unfold ndV at this ⊢
  rw [run_neq_struct, this]; rfl
theorem guard_nd (op : BinOp) (x y : Operand) (a b : Nd) (w : World) : (eqGuard op 26 x y (ndV a) (ndV b)).run Tryd.prog w = .ok () w := by
  unfold ndV
  exact run_eqGuard_agg w op _ x y _ _ (by kernel_rfl)
theorem wpList_eql_nd {w : World} {ops : Array Oper} {rest : List Oper} {o : Oper} {a : Act} {Q : Exit → Act → World → Prop} (hg : o.guard = none) (x y : Operand) (t : TypeId)
    (ho : o.op = .binOp .eql 26 x y t) (m n : Nd) (hx : a.eval x = ndV m) (hy : a.eval y = ndV n) (hm : NdOk m) (hn : NdOk n)
    (h : wpList Tryd.prog ops Q rest (a.put o.dst (.bool (ndEq m n))) w) : wpList Tryd.prog ops Q (o :: rest) a w :=
  wpList_plain hg fun _ hK => by
    unfold Oper.wp execOp
    simp only [ho, hx, hy, Sem.run_bind, guard_nd, eql_nd m n hm hn, Result.andThen_ok]
    exact hK _ _ h
theorem wpList_neq_nd {w : World} {ops : Array Oper} {rest : List Oper} {o : Oper} {a : Act} {Q : Exit → Act → World → Prop} (hg : o.guard = none) (x y : Operand) (t : TypeId)
    (ho : o.op = .binOp .neq 26 x y t) (m n : Nd) (hx : a.eval x = ndV m) (hy : a.eval y = ndV n) (hm : NdOk m) (hn : NdOk n)
    (h : wpList Tryd.prog ops Q rest (a.put o.dst (.bool (!(ndEq m n)))) w) : wpList Tryd.prog ops Q (o :: rest) a w :=
  wpList_plain hg fun _ hK => by
    unfold Oper.wp execOp
    simp only [ho, hx, hy, Sem.run_bind, guard_nd, neq_nd m n hm hn, Result.andThen_ok]
    exact hK _ _ h
theorem wpList_eql_dg {w : World} {ops : Array Oper} {rest : List Oper} {o : Oper} {a : Act} {Q : Exit → Act → World → Prop} (hg : o.guard = none) (x y : Operand) (t : TypeId)
    (ho : o.op = .binOp .eql 24 x y t) (l m : List Nat) (hx : a.eval x = dgV l) (hy : a.eval y = dgV m) (hl : l.length = 32) (hm : m.length = 32) (bl : Bytes l) (bm : Bytes m)
    (h : wpList Tryd.prog ops Q rest (a.put o.dst (.bool (l == m))) w) : wpList Tryd.prog ops Q (o :: rest) a w :=
  wpList_plain hg fun _ hK => by
    unfold Oper.wp execOp
    simp only [ho, hx, hy, Sem.run_bind, guard_dg, eql_dg l m hl hm bl bm, Result.andThen_ok]
    exact hK _ _ h
end Go.Proofs.YtgcmbiegbclhmaaDoor
