/- Roots; lines and claims that are shown. Lines and claims compared. sizarlaw42.example. sizar/disclose.Listed. sizar/disclose.Claimed. sizarlaw42.root. sizarlaw42.root. -/
import Derived.Test.YtmfmgeapecapiaaDoorDT10
namespace Go.Proofs.YtmfmgeapecapiaaDoor
open Go.RowKit SzSha SzTree
set_option linter.unusedVariables false
set_option maxRecDepth 100000
/-- a root -/
structure Rt where
  cam : Int
  stu : Int
  ver : Int
  kno : Int
  lin : Int
  cla : Int
  tree : Nd
  listed : List Nat
  claimed : List Nat
  prev : List Nat
  sr : Int
  ss : Int
def rtC (r : Rt) : List Value := [.int .i64 r.cam, .int .i64 r.stu, .int .i64 r.ver, .int .i64 r.kno, .int .i64 r.lin, .int .i64 r.cla] ++ (ndC r.tree ++ (dgC r.listed ++ (dgC r.claimed ++ (dgC r.prev ++ [.int .i64 r.sr, .int .i64 r.ss]))))
structure RtOk (r : Rt) : Prop where
  b0 : I64 r.cam
  b1 : I64 r.stu
  b2 : I64 r.ver
  b3 : I64 r.kno
  b4 : I64 r.lin
  b5 : I64 r.cla
  tree : NdOk r.tree
  listed : DgOk r.listed
  claimed : DgOk r.claimed
  prev : DgOk r.prev
  b6 : I64 r.sr
  b7 : I64 r.ss
theorem app_range {w : World} {g ty : Nat} {a b c : List Value} (h : w.heap[g]? = some (.cells (a ++ (b ++ c)).toArray ty (0, 0))) : w.rangeAt g a.length b := fun j v hj => by
  have hj2 : j < b.length := (List.getElem?_eq_some_iff.1 hj).1
  rw [cell_of_row w g (a.length + j) _ _ _ h, List.getElem?_toArray, List.getElem?_append_right (by omega), Nat.add_sub_cancel_left, List.getElem?_append_left hj2]
  exact hj
theorem dgC_len32 {l : List Nat} (h : DgOk l) : (dgC l).length = 32 := by rw [dgC_length]; exact h.len
theorem rt_listed {w : World} {g ty : Nat} {r : Rt} (hr : RtOk r) (h : w.heap[g]? = some (.cells (rtC r).toArray ty (0, 0))) : w.rangeAt g 40 (dgC r.listed) := by
  unfold rtC at h
  rw [← List.append_assoc] at h
  have := app_range h
  rwa [show ([Value.int .i64 r.cam, .int .i64 r.stu, .int .i64 r.ver, .int .i64 r.kno, .int .i64 r.lin, .int .i64 r.cla] ++ ndC r.tree).length = 40 by rw [List.length_append, ndC_length hr.tree]; rfl] at this
theorem rt_claimed {w : World} {g ty : Nat} {r : Rt} (hr : RtOk r) (h : w.heap[g]? = some (.cells (rtC r).toArray ty (0, 0))) : w.rangeAt g 72 (dgC r.claimed) := by
  unfold rtC at h
  rw [← List.append_assoc, ← List.append_assoc] at h
  have := app_range h
  rwa [show ([Value.int .i64 r.cam, .int .i64 r.stu, .int .i64 r.ver, .int .i64 r.kno, .int .i64 r.lin, .int .i64 r.cla] ++ ndC r.tree ++ dgC r.listed).length = 72 by rw [List.length_append, List.length_append, ndC_length hr.tree, dgC_len32 hr.listed]; rfl] at this
theorem rtC_info {r : Rt} (hr : RtOk r) : (Tryd.prog.info? 35).map (·.size) = some (rtC r).toArray.size := by
  have e : (rtC r).toArray.size = 138 := by simp [rtC, ndC_length hr.tree, dgC_len32 hr.listed, dgC_len32 hr.claimed, dgC_len32 hr.prev]
  rw [e]; show _ = some 138; kernel_rfl
/-- what is shown -/
def shCL (i : Int) (x : Ln) (s : List Nat) (A : Option Addr) (n c : Nat) : List Value := [.int .i64 i] ++ (lnC x ++ (dgC s ++ [.slice A n c]))
theorem shCL_x {w : World} {g ty : Nat} {i : Int} {x : Ln} {s : List Nat} {A : Option Addr} {n c : Nat} (h : w.heap[g]? = some (.cells (shCL i x s A n c).toArray ty (0, 0))) : w.rangeAt g 1 (lnC x) := app_range h
theorem shCL_s {w : World} {g ty : Nat} {i : Int} {x : Ln} {s : List Nat} {A : Option Addr} {n c : Nat} (h : w.heap[g]? = some (.cells (shCL i x s A n c).toArray ty (0, 0))) : w.rangeAt g 6 (dgC s) := by
  unfold shCL at h
  rw [← List.append_assoc] at h
  exact app_range h
theorem shCL_p {w : World} {g ty : Nat} {i : Int} {x : Ln} {s : List Nat} {A : Option Addr} {n c : Nat} (hs : DgOk s) (h : w.heap[g]? = some (.cells (shCL i x s A n c).toArray ty (0, 0))) : w.cell? ⟨g, 38, none⟩ = some (.slice A n c) := by
  unfold shCL at h
  rw [← List.append_assoc, ← List.append_assoc, ← List.append_nil [Value.slice A n c]] at h
  have := app_range h 0 (.slice A n c) rfl
  rwa [show ([Value.int .i64 i] ++ lnC x ++ dgC s).length = 38 by rw [List.length_append, dgC_len32 hs]; rfl] at this
theorem shCL_info {i : Int} {x : Ln} {s : List Nat} {A : Option Addr} {n c : Nat} (hs : DgOk s) : (Tryd.prog.info? 44).map (·.size) = some (shCL i x s A n c).toArray.size := by
  have e : (shCL i x s A n c).toArray.size = 39 := by simp [shCL, dgC_len32 hs, lnC]
  rw [e]; show _ = some 39; kernel_rfl
/-- what is shown -/
def shCK (i : Int) (x : Cl) (s : List Nat) (A : Option Addr) (n c : Nat) : List Value := [.int .i64 i] ++ (clC x ++ (dgC s ++ [.slice A n c]))
theorem shCK_x {w : World} {g ty : Nat} {i : Int} {x : Cl} {s : List Nat} {A : Option Addr} {n c : Nat} (h : w.heap[g]? = some (.cells (shCK i x s A n c).toArray ty (0, 0))) : w.rangeAt g 1 (clC x) := app_range h
theorem shCK_s {w : World} {g ty : Nat} {i : Int} {x : Cl} {s : List Nat} {A : Option Addr} {n c : Nat} (h : w.heap[g]? = some (.cells (shCK i x s A n c).toArray ty (0, 0))) : w.rangeAt g 4 (dgC s) := by
  unfold shCK at h
  rw [← List.append_assoc] at h
  exact app_range h
theorem shCK_p {w : World} {g ty : Nat} {i : Int} {x : Cl} {s : List Nat} {A : Option Addr} {n c : Nat} (hs : DgOk s) (h : w.heap[g]? = some (.cells (shCK i x s A n c).toArray ty (0, 0))) : w.cell? ⟨g, 36, none⟩ = some (.slice A n c) := by
  unfold shCK at h
  rw [← List.append_assoc, ← List.append_assoc, ← List.append_nil [Value.slice A n c]] at h
  have := app_range h 0 (.slice A n c) rfl
  rwa [show ([Value.int .i64 i] ++ clC x ++ dgC s).length = 36 by rw [List.length_append, dgC_len32 hs]; rfl] at this
theorem shCK_info {i : Int} {x : Cl} {s : List Nat} {A : Option Addr} {n c : Nat} (hs : DgOk s) : (Tryd.prog.info? 51).map (·.size) = some (shCK i x s A n c).toArray.size := by
  have e : (shCK i x s A n c).toArray.size = 37 := by simp [shCK, dgC_len32 hs, clC]
  rw [e]; show _ = some 37; kernel_rfl
end Go.Proofs.YtmfmgeapecapiaaDoor
namespace Go.Proofs.YtmfmgeapecapiaaDoor
open Go.RowKit SzSha SzTree
set_option linter.unusedVariables false
set_option maxRecDepth 100000
/-- equality -/
def lnEq (a b : Ln) : Bool := a.c0 == b.c0 && (a.c1 == b.c1 && (a.c2 == b.c2 && (a.c3 == b.c3 && (a.c4 == b.c4))))
theorem lnEq_iff (a b : Ln) : lnEq a b = true ↔ a = b := by
  cases a; cases b
  simp [lnEq]
theorem ln_part0 (x : Ln) (w : World) : (part 3 (lnC x).toArray 0).run Tryd.prog w = .ok (.int .i64 x.c0) w := by
  have hu := Tryd.underlying3
  simp [part, isAgg, run_underlying hu, lnC]
theorem ln_part1 (x : Ln) (w : World) : (part 3 (lnC x).toArray 1).run Tryd.prog w = .ok (.int .i64 x.c1) w := by
  have hu := Tryd.underlying3
  simp [part, isAgg, run_underlying hu, lnC]
theorem ln_part2 (x : Ln) (w : World) : (part 3 (lnC x).toArray 2).run Tryd.prog w = .ok (.int .i64 x.c2) w := by
  have hu := Tryd.underlying3
  simp [part, isAgg, run_underlying hu, lnC]
theorem ln_part3 (x : Ln) (w : World) : (part 3 (lnC x).toArray 3).run Tryd.prog w = .ok (.int .i64 x.c3) w := by
  have hu := Tryd.underlying3
  simp [part, isAgg, run_underlying hu, lnC]
theorem ln_part4 (x : Ln) (w : World) : (part 3 (lnC x).toArray 4).run Tryd.prog w = .ok (.int .i64 x.c4) w := by
  have hu := Tryd.underlying3
  simp [part, isAgg, run_underlying hu, lnC]
theorem equal_ln (a b : Ln) (w : World) : (Op.equalIn 10000 41 (lnV a) (lnV b)).run Tryd.prog w = .ok (lnEq a b) w := by
  have hf : (Tryd.prog.fieldsOf 41).toList.map (fun f => (f.name != "_", f.type, f.offset)) = [(true, 3, 0), (true, 3, 1), (true, 3, 2), (true, 3, 3), (true, 3, 4)] := by kernel_rfl
  have hS : Tryd.prog.underlying 41 = some (.struct (Tryd.prog.fieldsOf 41)) := by kernel_rfl
  have hp : Tryd.prog.stoodInHeld 41 = false := by kernel_rfl
  unfold lnV
  rw [show (10000 : Nat) = 9999 + 1 from rfl, run_equalIn_agg w 9999 _ _ _ hS hp]
  generalize (Tryd.prog.fieldsOf 41).toList = fs at hf
  obtain ⟨f0, f1, f2, f3, f4, rfl⟩ : ∃ f0 f1 f2 f3 f4, fs = [f0, f1, f2, f3, f4] := by
    have hl := congrArg List.length hf
    simp only [List.length_map, List.length_cons, List.length_nil] at hl
    rcases fs with _ | ⟨f0, fs⟩
    · simp at hl
    rcases fs with _ | ⟨f1, fs⟩
    · simp at hl
    rcases fs with _ | ⟨f2, fs⟩
    · simp at hl
    rcases fs with _ | ⟨f3, fs⟩
    · simp at hl
    rcases fs with _ | ⟨f4, fs⟩
    · simp at hl
    rcases fs with _ | ⟨f5, fs⟩
    · exact ⟨f0, f1, f2, f3, f4, rfl⟩
    · simp at hl
  simp only [List.map_cons, List.map_nil, List.cons.injEq, Prod.mk.injEq, and_true, bne_iff_ne, ne_eq] at hf
  obtain ⟨⟨n0, t0, o0⟩, ⟨n1, t1, o1⟩, ⟨n2, t2, o2⟩, ⟨n3, t3, o3⟩, n4, t4, o4⟩ := hf
  have q0 := run_equalIn_int (P := Tryd.prog) w 9998 3 .i64 _ a.c0 b.c0 Tryd.underlying3
  have q1 := run_equalIn_int (P := Tryd.prog) w 9998 3 .i64 _ a.c1 b.c1 Tryd.underlying3
  have q2 := run_equalIn_int (P := Tryd.prog) w 9998 3 .i64 _ a.c2 b.c2 Tryd.underlying3
  have q3 := run_equalIn_int (P := Tryd.prog) w 9998 3 .i64 _ a.c3 b.c3 Tryd.underlying3
  have q4 := run_equalIn_int (P := Tryd.prog) w 9998 3 .i64 _ a.c4 b.c4 Tryd.underlying3
  simp only [Nat.reduceAdd] at q0 q1 q2 q3 q4
  have e4 : (Op.eqFields 9999 (lnC a).toArray (lnC b).toArray [f4]).run Tryd.prog w = .ok (a.c4 == b.c4) w := by
    simp only [Op.eqFields, n4, t4, o4, not_false_eq_true, ne_eq, if_true, Sem.run_bind, ln_part4, Result.andThen_ok, q4]
    cases a.c4 == b.c4 <;> rfl
  have e3 : (Op.eqFields 9999 (lnC a).toArray (lnC b).toArray [f3, f4]).run Tryd.prog w = .ok (a.c3 == b.c3 && (a.c4 == b.c4)) w := by
    rw [Op.eqFields]
    simp only [n3, t3, o3, not_false_eq_true, ne_eq, if_true, Sem.run_bind, ln_part3, Result.andThen_ok, q3]
    cases a.c3 == b.c3
    · rfl
    · exact e4
  have e2 : (Op.eqFields 9999 (lnC a).toArray (lnC b).toArray [f2, f3, f4]).run Tryd.prog w = .ok (a.c2 == b.c2 && (a.c3 == b.c3 && (a.c4 == b.c4))) w := by
    rw [Op.eqFields]
    simp only [n2, t2, o2, not_false_eq_true, ne_eq, if_true, Sem.run_bind, ln_part2, Result.andThen_ok, q2]
    cases a.c2 == b.c2
    · rfl
    · exact e3
  have e1 : (Op.eqFields 9999 (lnC a).toArray (lnC b).toArray [f1, f2, f3, f4]).run Tryd.prog w = .ok (a.c1 == b.c1 && (a.c2 == b.c2 && (a.c3 == b.c3 && (a.c4 == b.c4)))) w := by
    rw [Op.eqFields]
    simp only [n1, t1, o1, not_false_eq_true, ne_eq, if_true, Sem.run_bind, ln_part1, Result.andThen_ok, q1]
    cases a.c1 == b.c1
    · rfl
    · exact e2
  have e0 : (Op.eqFields 9999 (lnC a).toArray (lnC b).toArray [f0, f1, f2, f3, f4]).run Tryd.prog w = .ok (a.c0 == b.c0 && (a.c1 == b.c1 && (a.c2 == b.c2 && (a.c3 == b.c3 && (a.c4 == b.c4))))) w := by
    rw [Op.eqFields]
    simp only [n0, t0, o0, not_false_eq_true, ne_eq, if_true, Sem.run_bind, ln_part0, Result.andThen_ok, q0]
    cases a.c0 == b.c0
    · rfl
    · exact e1
  exact e0
theorem eql_ln (a b : Ln) (w : World) : (binOp .eql 41 (lnV a) (lnV b)).run Tryd.prog w = .ok (.bool ((lnEq a b))) w := by
  have := equal_ln a b w
  unfold lnV at this ⊢
  rw [run_eql_struct, this]; rfl
theorem guard_ln (op : BinOp) (x y : Operand) (a b : Ln) (w : World) : (eqGuard op 41 x y (lnV a) (lnV b)).run Tryd.prog w = .ok () w := by
  unfold lnV
  exact run_eqGuard_agg w op _ x y _ _ (by kernel_rfl)
theorem wpList_eql_ln {w : World} {ops : Array Oper} {rest : List Oper} {o : Oper} {a : Act} {Q : Exit → Act → World → Prop} (hg : o.guard = none) (x y : Operand) (t : TypeId)
    (ho : o.op = .binOp .eql 41 x y t) (m n : Ln) (hx : a.eval x = lnV m) (hy : a.eval y = lnV n)
    (h : wpList Tryd.prog ops Q rest (a.put o.dst (.bool ((lnEq m n)))) w) : wpList Tryd.prog ops Q (o :: rest) a w :=
  wpList_plain hg fun _ hK => by
    unfold Oper.wp execOp
    simp only [ho, hx, hy, Sem.run_bind, guard_ln, eql_ln m n, Result.andThen_ok]
    exact hK _ _ h
/-- equality -/
def clEq (a b : Cl) : Bool := a.p == b.p && (a.r == b.r && (a.m == b.m))
theorem cl_part0 (x : Cl) (w : World) : (part 3 (clC x).toArray 0).run Tryd.prog w = .ok (.int .i64 x.p) w := by
  have hu := Tryd.underlying3
  simp [part, isAgg, run_underlying hu, clC]
theorem cl_part1 (x : Cl) (w : World) : (part 3 (clC x).toArray 1).run Tryd.prog w = .ok (.int .i64 x.r) w := by
  have hu := Tryd.underlying3
  simp [part, isAgg, run_underlying hu, clC]
theorem cl_part2 (x : Cl) (w : World) : (part 4 (clC x).toArray 2).run Tryd.prog w = .ok (.bool x.m) w := by
  have hu := Tryd.underlying4
  simp [part, isAgg, run_underlying hu, clC]
theorem equal_cl (a b : Cl) (w : World) : (Op.equalIn 10000 49 (clV a) (clV b)).run Tryd.prog w = .ok (clEq a b) w := by
  have hf : (Tryd.prog.fieldsOf 49).toList.map (fun f => (f.name != "_", f.type, f.offset)) = [(true, 3, 0), (true, 3, 1), (true, 4, 2)] := by kernel_rfl
  have hS : Tryd.prog.underlying 49 = some (.struct (Tryd.prog.fieldsOf 49)) := by kernel_rfl
  have hp : Tryd.prog.stoodInHeld 49 = false := by kernel_rfl
  unfold clV
  rw [show (10000 : Nat) = 9999 + 1 from rfl, run_equalIn_agg w 9999 _ _ _ hS hp]
  generalize (Tryd.prog.fieldsOf 49).toList = fs at hf
  obtain ⟨f0, f1, f2, rfl⟩ : ∃ f0 f1 f2, fs = [f0, f1, f2] := by
    have hl := congrArg List.length hf
    simp only [List.length_map, List.length_cons, List.length_nil] at hl
    rcases fs with _ | ⟨f0, fs⟩
    · simp at hl
    rcases fs with _ | ⟨f1, fs⟩
    · simp at hl
    rcases fs with _ | ⟨f2, fs⟩
    · simp at hl
    rcases fs with _ | ⟨f3, fs⟩
    · exact ⟨f0, f1, f2, rfl⟩
    · simp at hl
  simp only [List.map_cons, List.map_nil, List.cons.injEq, Prod.mk.injEq, and_true, bne_iff_ne, ne_eq] at hf
  obtain ⟨⟨n0, t0, o0⟩, ⟨n1, t1, o1⟩, n2, t2, o2⟩ := hf
  have q0 := run_equalIn_int (P := Tryd.prog) w 9998 3 .i64 _ a.p b.p Tryd.underlying3
  have q1 := run_equalIn_int (P := Tryd.prog) w 9998 3 .i64 _ a.r b.r Tryd.underlying3
  have q2 := run_equalIn_bool' (P := Tryd.prog) w 9998 4 a.m b.m Tryd.underlying4
  simp only [Nat.reduceAdd] at q0 q1 q2
  have e2 : (Op.eqFields 9999 (clC a).toArray (clC b).toArray [f2]).run Tryd.prog w = .ok (a.m == b.m) w := by
    simp only [Op.eqFields, n2, t2, o2, not_false_eq_true, ne_eq, if_true, Sem.run_bind, cl_part2, Result.andThen_ok, q2]
    cases a.m == b.m <;> rfl
  have e1 : (Op.eqFields 9999 (clC a).toArray (clC b).toArray [f1, f2]).run Tryd.prog w = .ok (a.r == b.r && (a.m == b.m)) w := by
    rw [Op.eqFields]
    simp only [n1, t1, o1, not_false_eq_true, ne_eq, if_true, Sem.run_bind, cl_part1, Result.andThen_ok, q1]
    cases a.r == b.r
    · rfl
    · exact e2
  have e0 : (Op.eqFields 9999 (clC a).toArray (clC b).toArray [f0, f1, f2]).run Tryd.prog w = .ok (a.p == b.p && (a.r == b.r && (a.m == b.m))) w := by
    rw [Op.eqFields]
    simp only [n0, t0, o0, not_false_eq_true, ne_eq, if_true, Sem.run_bind, cl_part0, Result.andThen_ok, q0]
    cases a.p == b.p
    · rfl
    · exact e1
  exact e0
theorem eql_cl (a b : Cl) (w : World) : (binOp .eql 49 (clV a) (clV b)).run Tryd.prog w = .ok (.bool ((clEq a b))) w := by
  have := equal_cl a b w
  unfold clV at this ⊢
  rw [run_eql_struct, this]; rfl
theorem guard_cl (op : BinOp) (x y : Operand) (a b : Cl) (w : World) : (eqGuard op 49 x y (clV a) (clV b)).run Tryd.prog w = .ok () w := by
  unfold clV
  exact run_eqGuard_agg w op _ x y _ _ (by kernel_rfl)
theorem wpList_eql_cl {w : World} {ops : Array Oper} {rest : List Oper} {o : Oper} {a : Act} {Q : Exit → Act → World → Prop} (hg : o.guard = none) (x y : Operand) (t : TypeId)
    (ho : o.op = .binOp .eql 49 x y t) (m n : Cl) (hx : a.eval x = clV m) (hy : a.eval y = clV n)
    (h : wpList Tryd.prog ops Q rest (a.put o.dst (.bool ((clEq m n)))) w) : wpList Tryd.prog ops Q (o :: rest) a w :=
  wpList_plain hg fun _ hK => by
    unfold Oper.wp execOp
    simp only [ho, hx, hy, Sem.run_bind, guard_cl, eql_cl m n, Result.andThen_ok]
    exact hK _ _ h
end Go.Proofs.YtmfmgeapecapiaaDoor
namespace Go.Proofs.YtmfmgeapecapiaaDoor
open Go.RowKit SzSha SzTree
set_option linter.unusedVariables false
set_option maxRecDepth 100000
def exS : List Nat := 7 :: List.replicate 31 0
def exT : Tr := ⟨0, 5, 1, 8, [⟨3, 1, 6, 4, 0⟩, ⟨2, 2, 9, 10, 0⟩], [⟨4, 1, true⟩], exS⟩
theorem exS_ok : DgOk exS := ⟨rfl, fun x hx => by
  rcases List.mem_cons.1 hx with e | hx
  · omega
  · have := List.eq_of_mem_replicate hx; omega⟩
theorem built_exS : Tryd.prog.built 25 [(0, .int .u8 7)] = some (dgC exS).toArray := by kernel_rfl
theorem built_exT (p : TrP) : Tryd.prog.built 27 [(1, .int .i64 5), (2, .int .i64 1), (3, .int .i64 8), (4, .slice p.A p.n p.c), (5, .slice p.A2 p.n2 p.c2), (6, dgV exS)] = some (trC exT p).toArray := by kernel_rfl
theorem wpList_build_exS {w : World} {ops : Array Oper} {rest : List Oper} {o : Oper} {a : Act} {Q : Exit → Act → World → Prop} (hg : o.guard = none)
    (ho : o.op = .build 25 #[(0, .const (.int .u8 7))])
    (h : wpList Tryd.prog ops Q rest (a.put o.dst (dgV exS)) w) : wpList Tryd.prog ops Q (o :: rest) a w := by
  have e1 : (#[(0, Operand.const (.int .u8 7))].map fun (i, x) => (i, a.eval x)).toList = [(0, .int .u8 7)] := by
    have hc : ∀ v, a.eval (.const v) = v := fun _ => rfl
    simp [hc]
  refine wpList_build hg 25 _ ho (by rw [e1, built_exS]; rfl) ?_
  rw [e1, built_exS]
  exact h
theorem wpList_build_exT {w : World} {ops : Array Oper} {rest : List Oper} {o : Oper} {a : Act} {Q : Exit → Act → World → Prop} (hg : o.guard = none) (u4 u5 u6 : Operand)
    (ho : o.op = .build 27 #[(1, .const (.int .i64 5)), (2, .const (.int .i64 1)), (3, .const (.int .i64 8)), (4, u4), (5, u5), (6, u6)]) (p : TrP)
    (h4 : a.eval u4 = .slice p.A p.n p.c) (h5 : a.eval u5 = .slice p.A2 p.n2 p.c2) (h6 : a.eval u6 = dgV exS)
    (h : wpList Tryd.prog ops Q rest (a.put o.dst (.agg (trC exT p).toArray)) w) : wpList Tryd.prog ops Q (o :: rest) a w := by
  have e1 : (#[(1, Operand.const (.int .i64 5)), (2, Operand.const (.int .i64 1)), (3, Operand.const (.int .i64 8)), (4, u4), (5, u5), (6, u6)].map fun (i, x) => (i, a.eval x)).toList = [(1, .int .i64 5), (2, .int .i64 1), (3, .int .i64 8), (4, .slice p.A p.n p.c), (5, .slice p.A2 p.n2 p.c2), (6, dgV exS)] := by
    have hc : ∀ v, a.eval (.const v) = v := fun _ => rfl
    simp [h4, h5, h6, hc]
  refine wpList_build hg 27 _ ho (by rw [e1, built_exT]; rfl) ?_
  rw [e1, built_exT]
  exact h
theorem trC_one (t : Tr) (p : TrP) : (trC t p).toArray.all (·.oneCell') = true := by
  rw [Array.all_eq_true_iff_forall_mem]
  intro v hv
  have hv' : v ∈ trC t p := by simpa using hv
  unfold trC at hv'
  rcases List.mem_append.1 hv' with h | h
  · simp only [List.mem_cons, List.not_mem_nil, or_false] at h
    rcases h with rfl | rfl | rfl | rfl | rfl | rfl <;> rfl
  · obtain ⟨x, _, rfl⟩ := List.mem_map.1 h
    rfl
set_option maxHeartbeats 4000000 in
theorem example_any (w : World) :
    Calls Tryd.prog 42 #[] w fun e w' => ∃ p : TrP, e = .returned (trV exT p) ∧ TrOk w' exT p ∧ Below w.heap.size w w' := by
  obtain ⟨p, HP⟩ : ∃ p : TrP, Hid (p = ⟨some ⟨w.heap.size + 1, 0, none⟩, 2, 2, some ⟨w.heap.size + 1 + 1, 0, none⟩, 1, 1⟩) := ⟨_, Lib.hid rfl⟩
  have h1 := heap_alloc_new (w.alloc (.cells #[.int .i64 0, .int .i64 0, .int .i64 0, .int .i64 0, .slice none 0 0, .slice none 0 0, .int .u8 0, .int .u8 0, .int .u8 0, .int .u8 0, .int .u8 0, .int .u8 0, .int .u8 0, .int .u8 0, .int .u8 0, .int .u8 0, .int .u8 0, .int .u8 0, .int .u8 0, .int .u8 0, .int .u8 0, .int .u8 0, .int .u8 0, .int .u8 0, .int .u8 0, .int .u8 0, .int .u8 0, .int .u8 0, .int .u8 0, .int .u8 0, .int .u8 0, .int .u8 0, .int .u8 0, .int .u8 0, .int .u8 0, .int .u8 0, .int .u8 0, .int .u8 0] 27)) (.cells #[.int .i64 3, .int .i64 1, .int .i64 6, .int .i64 4, .int .i64 0, .int .i64 2, .int .i64 2, .int .i64 9, .int .i64 10, .int .i64 0] 41)
  have h2 := heap_alloc_new ((w.alloc (.cells #[.int .i64 0, .int .i64 0, .int .i64 0, .int .i64 0, .slice none 0 0, .slice none 0 0, .int .u8 0, .int .u8 0, .int .u8 0, .int .u8 0, .int .u8 0, .int .u8 0, .int .u8 0, .int .u8 0, .int .u8 0, .int .u8 0, .int .u8 0, .int .u8 0, .int .u8 0, .int .u8 0, .int .u8 0, .int .u8 0, .int .u8 0, .int .u8 0, .int .u8 0, .int .u8 0, .int .u8 0, .int .u8 0, .int .u8 0, .int .u8 0, .int .u8 0, .int .u8 0, .int .u8 0, .int .u8 0, .int .u8 0, .int .u8 0, .int .u8 0, .int .u8 0] 27)).alloc (.cells #[.int .i64 3, .int .i64 1, .int .i64 6, .int .i64 4, .int .i64 0, .int .i64 2, .int .i64 2, .int .i64 9, .int .i64 10, .int .i64 0] 41)) (.cells #[.int .i64 4, .int .i64 1, .bool true] 49)
  have h0 := heap_alloc_new w (.cells #[.int .i64 0, .int .i64 0, .int .i64 0, .int .i64 0, .slice none 0 0, .slice none 0 0, .int .u8 0, .int .u8 0, .int .u8 0, .int .u8 0, .int .u8 0, .int .u8 0, .int .u8 0, .int .u8 0, .int .u8 0, .int .u8 0, .int .u8 0, .int .u8 0, .int .u8 0, .int .u8 0, .int .u8 0, .int .u8 0, .int .u8 0, .int .u8 0, .int .u8 0, .int .u8 0, .int .u8 0, .int .u8 0, .int .u8 0, .int .u8 0, .int .u8 0, .int .u8 0, .int .u8 0, .int .u8 0, .int .u8 0, .int .u8 0, .int .u8 0, .int .u8 0] 27)
  rw [World.size_alloc] at h1
  rw [World.size_alloc, World.size_alloc] at h2
  have b2 := (Below.refl _ ((w.alloc (.cells #[.int .i64 0, .int .i64 0, .int .i64 0, .int .i64 0, .slice none 0 0, .slice none 0 0, .int .u8 0, .int .u8 0, .int .u8 0, .int .u8 0, .int .u8 0, .int .u8 0, .int .u8 0, .int .u8 0, .int .u8 0, .int .u8 0, .int .u8 0, .int .u8 0, .int .u8 0, .int .u8 0, .int .u8 0, .int .u8 0, .int .u8 0, .int .u8 0, .int .u8 0, .int .u8 0, .int .u8 0, .int .u8 0, .int .u8 0, .int .u8 0, .int .u8 0, .int .u8 0, .int .u8 0, .int .u8 0, .int .u8 0, .int .u8 0, .int .u8 0, .int .u8 0] 27)).alloc (.cells #[.int .i64 3, .int .i64 1, .int .i64 6, .int .i64 4, .int .i64 0, .int .i64 2, .int .i64 2, .int .i64 9, .int .i64 10, .int .i64 0] 41))).alloc (Nat.le_refl _) (.cells #[.int .i64 4, .int .i64 1, .bool true] 49)
  have b1 := (Below.refl _ (w.alloc (.cells #[.int .i64 0, .int .i64 0, .int .i64 0, .int .i64 0, .slice none 0 0, .slice none 0 0, .int .u8 0, .int .u8 0, .int .u8 0, .int .u8 0, .int .u8 0, .int .u8 0, .int .u8 0, .int .u8 0, .int .u8 0, .int .u8 0, .int .u8 0, .int .u8 0, .int .u8 0, .int .u8 0, .int .u8 0, .int .u8 0, .int .u8 0, .int .u8 0, .int .u8 0, .int .u8 0, .int .u8 0, .int .u8 0, .int .u8 0, .int .u8 0, .int .u8 0, .int .u8 0, .int .u8 0, .int .u8 0, .int .u8 0, .int .u8 0, .int .u8 0, .int .u8 0] 27))).alloc (Nat.le_refl _) (.cells #[.int .i64 3, .int .i64 1, .int .i64 6, .int .i64 4, .int .i64 0, .int .i64 2, .int .i64 2, .int .i64 9, .int .i64 10, .int .i64 0] 41)
  have b0 := (Below.refl _ w).alloc (Nat.le_refl _) (.cells #[.int .i64 0, .int .i64 0, .int .i64 0, .int .i64 0, .slice none 0 0, .slice none 0 0, .int .u8 0, .int .u8 0, .int .u8 0, .int .u8 0, .int .u8 0, .int .u8 0, .int .u8 0, .int .u8 0, .int .u8 0, .int .u8 0, .int .u8 0, .int .u8 0, .int .u8 0, .int .u8 0, .int .u8 0, .int .u8 0, .int .u8 0, .int .u8 0, .int .u8 0, .int .u8 0, .int .u8 0, .int .u8 0, .int .u8 0, .int .u8 0, .int .u8 0, .int .u8 0, .int .u8 0, .int .u8 0, .int .u8 0, .int .u8 0, .int .u8 0, .int .u8 0] 27)
  have HR0 := Lib.hid (row_kept (row_kept h0 b1) b2)
  have HR1 := Lib.hid (row_kept h1 b2)
  have HR2 := Lib.hid h2
  have HB := Lib.hid ((b0.trans (b1.mono b0.size)).trans (b2.mono (Nat.le_trans b0.size b1.size)))
  clear h0 h1 h2 b0 b1 b2
  have HN1 : Hid ((Tryd.prog.info? 27).map (·.size) = some (trC exT p).toArray.size) := Lib.hid (trV_info exT p rfl)
  have hN2 : (trC exT p).toArray.size = 38 := by simp [trC, exT, exS]
  have HN2 := Lib.hid hN2
  clear hN2
  go_enter Tryd.func42, Tryd.ntmps42
  go_wp2_with (first | (refine wpList_build_exS rfl rfl ?_) | (refine wpList_build_exT rfl (.tmp 3) (.tmp 5) (.tmp 6) rfl p (by rw [HP.out]; rfl) (by rw [HP.out]; rfl) rfl ?_) | (refine wpList_store_row rfl 27 (.tmp 0) (.tmp 7) rfl w.heap.size (trC exT p).toArray rfl rfl 27 _ HR0.out HN1.out HN2.out.symm (trC_one _ _) ?_))
  refine bodyPost_ret (results_cell_row rfl _ _ w.heap.size 27 _ (0, 0) _ rfl (setRow_heap _ w.heap.size _ _ _ _ HR0.out) Tryd.underlying27 rfl HN1.out) rfl ?_
  refine ⟨p, rfl, ?_, below_setRow HB.out (Nat.le_refl _) _⟩
  have hr1 := (setRow_other _ w.heap.size (w.heap.size + 1) (trC exT p).toArray (by omega)).trans HR1.out
  have hr2 := (setRow_other _ w.heap.size (w.heap.size + 1 + 1) (trC exT p).toArray (by omega)).trans HR2.out
  have hm : (2 : Nat) ≤ maxLen := by unfold maxLen; omega
  have g1 := (Array.getElem?_eq_some_iff.1 hr1).1
  have g2 := (Array.getElem?_eq_some_iff.1 hr2).1
  have q1 := range_row (cs := exT.ln.flatMap lnC) hr1
  have q2 := range_row (cs := exT.cl.flatMap clC) hr2
  generalize World.setRow _ _ _ = W4 at *
  have iI : ∀ z : Int, -100 ≤ z → z ≤ 100 → I64 z := fun z h1 h2 => by unfold I64; omega
  obtain rfl := HP.out
  exact ⟨iI _ (by decide) (by decide), iI _ (by decide) (by decide), iI _ (by decide) (by decide), iI _ (by decide) (by decide), ⟨rfl, Nat.le_refl _, (fun e => by cases e), (fun x hx => by
    simp only [exT, List.mem_cons, List.not_mem_nil, or_false] at hx
    rcases hx with rfl | rfl <;> exact ⟨iI _ (by decide) (by decide), iI _ (by decide) (by decide), iI _ (by decide) (by decide), iI _ (by decide) (by decide), iI _ (by decide) (by decide)⟩), fun _ => ⟨_, 0, rfl, g1, q1⟩⟩, ⟨rfl, Nat.le_refl _, (fun e => by cases e), (fun x hx => by
    simp only [exT, List.mem_cons, List.not_mem_nil, or_false] at hx
    subst hx
    exact ⟨iI _ (by decide) (by decide), iI _ (by decide) (by decide)⟩), fun _ => ⟨_, 0, rfl, g2, q2⟩⟩, exS_ok.len, exS_ok.bytes, hm, Nat.le_trans (show (1 : Nat) ≤ 2 by decide) hm⟩
end Go.Proofs.YtmfmgeapecapiaaDoor
namespace Go.Proofs.YtmfmgeapecapiaaDoor
open Go.RowKit SzSha SzTree
set_option linter.unusedVariables false
set_option maxRecDepth 100000
def wLiL (W0 : World) (bt : Nat) (br : Nat) (t : Tr) (p : TrP) (P : List Dg) (d : List Nat) : Nat → Value → World → Prop
  | 0, fv, _ => fv = Value.agg tabL
  | 1, fv, _ => fv = Value.pointer (some { block := bt, off := 6 })
  | 2, fv, _ => fv = dgV t.salt
  | 3, fv, _ => fv = Value.pointer (some { block := bt, off := 4 })
  | 4, fv, _ => fv = Value.slice p.A p.n p.c
  | 5, fv, fw => ∃ A' n' c', fv = .slice A' n' c' ∧ InD fw A' n' c' P
  | 6, fv, _ => fv = dgV d
  | 7, fv, fw => fw.heap[br]? = some (.cells (dgC d).toArray 25 (0, 0)) ∧ Below W0.heap.size W0 fw
  | 8, fv, _ => fv = Value.int .i64 0
  | _, _, _ => True
theorem wLiL_below {W0 : World} {bt : Nat} {br : Nat} {t : Tr} {p : TrP} {P : List Dg} {d : List Nat} {w w' : World} (hb : Below w.heap.size w w') : ∀ j v, wLiL W0 bt br t p P d j v w → wLiL W0 bt br t p P d j v w'
  | 0, v, h => h
  | 1, v, h => h
  | 2, v, h => h
  | 3, v, h => h
  | 4, v, h => h
  | 5, v, ⟨A', n', c', h1, h2⟩ => ⟨A', n', c', h1, h2.below hb⟩
  | 6, v, h => h
  | 7, v, h => ⟨row_kept h.1 hb, h.2.trans (hb.mono h.2.size)⟩
  | 8, v, h => h
  | n + 9, v, h => trivial
theorem wLiL_pure {W0 : World} {bt : Nat} {br : Nat} {t : Tr} {p : TrP} {P : List Dg} {d : List Nat} {w w' : World} : ∀ j v, j ≠ 5 → j ≠ 7 → wLiL W0 bt br t p P d j v w → wLiL W0 bt br t p P d j v w'
  | 0, v, _, _, h => h
  | 1, v, _, _, h => h
  | 2, v, _, _, h => h
  | 3, v, _, _, h => h
  | 4, v, _, _, h => h
  | 5, v, hh, _, _ => absurd rfl hh
  | 6, v, _, _, h => h
  | 7, v, _, hh, _ => absurd rfl hh
  | 8, v, _, _, h => h
  | n + 9, v, _, _, h => trivial
/-- the digest of a list -/
def lstL (t : Tr) : Dg := if trG t then treeD (t.ln.map (lvL t.salt)) else zeroD
theorem lstL_ok (t : Tr) : DgOk (lstL t) := by
  unfold lstL
  split
  · exact treeD_okD _
  · exact zeroD_ok
set_option maxHeartbeats 4000000 in
theorem lstL_no (t : Tr) (p : TrP) (w : World) (h : Hid (TrOk w t p)) (hT : Hid (Tabs w)) (hg : Hid (trG t = false)) :
    Calls Tryd.prog 43 #[trV t p] w fun e w' => e = .returned (.tuple #[dgV (lstL t), .int .i64 (trE t)]) ∧ Below w.heap.size w w' := by
  have HE : Hid (lstL t = zeroD ∧ trE t = 420) := Lib.hid ⟨by unfold lstL; rw [hg.out]; rfl, trE_no hg.out⟩
  have HSZD := Lib.hid (dgC_info zeroD_ok)
  have HSZ2 := Lib.hid (dgC_size zeroD_ok)
  have hb0 := ((Below.refl _ w).alloc (Nat.le_refl _) (.cells (trC t p).toArray 27)).alloc (by simp) (.cells (dgC zeroD).toArray 25)
  have hr0 := (Below.heap_alloc (w.alloc (.cells (trC t p).toArray 27)) (.cells (dgC zeroD).toArray 25) w.heap.size (by simp)).trans (heap_alloc_new w (.cells (trC t p).toArray 27))
  have hr1 := heap_alloc_new (w.alloc (.cells (trC t p).toArray 27)) (.cells (dgC zeroD).toArray 25)
  rw [World.size_alloc] at hr1
  have HO1 := Lib.hid (h.out.below hb0)
  have hT1 := Lib.hid (hT.out.below hb0)
  rw [zeroD_cells] at hb0 hr0 HO1 hT1
  conv at hr1 => lhs; rw [zeroD_cells]
  have HB0 := Lib.hid hb0
  have HR0 := Lib.hid hr0
  have HR1 := Lib.hid hr1
  have HIT := Lib.hid (trV_info t p h.out.len)
  clear hb0 hr0 hr1
  rw [show trV t p = .agg (trC t p).toArray from rfl]
  go_enter Tryd.func43, Tryd.ntmps43
  go_wp2_with (refine wpList_load_row rfl 27 (.tmp 1) rfl w.heap.size rfl 27 _ (0, 0) _ HR0.out Tryd.underlying27 rfl HIT.out ?_)
  rw [show Value.agg (trC t p).toArray = trV t p from rfl]
  refine (check_any t p _ HO1).mono ?_
  rintro e w1 ⟨rfl, hq1⟩
  have HB1 := Lib.hid (HB0.out.trans (hq1.mono HB0.out.size))
  have HR2 := Lib.hid (row_kept HR0.out hq1)
  have HR3 := Lib.hid (row_kept HR1.out hq1)
  have HO2 := Lib.hid (HO1.out.below hq1)
  have hT2 := Lib.hid (hT1.out.below hq1)
  clear hq1 HR0 HR1 HO1 hT1 HB0
  rw [HE.out.2]
  go_wp2_with (first | (refine wpList_load_row rfl 25 (.tmp 2) rfl (w.heap.size + 1) rfl 25 _ (0, 0) _ HR3.out Tryd.underlying25 rfl HSZD.out ?_) | (refine wpList_store_row rfl 25 (.tmp 2) (.tmp 9) rfl (w.heap.size + 1) (dgC zeroD).toArray ?ha ?hb 25 _ HR3.out HSZD.out HSZ2.out (dgC_one zeroD) ?_))
  all_goals first | rfl | skip
  have hr := setRow_heap w1 (w.heap.size + 1) _ (dgC zeroD).toArray _ _ HR3.out
  have hl := run_loadVar_row (P := Tryd.prog) (World.setRow w1 (w.heap.size + 1) (dgC zeroD).toArray) (w.heap.size + 1) 25 25 (dgC zeroD).toArray (0, 0) _ hr Tryd.underlying25 rfl HSZD.out
  refine bodyPost_ret (v := .tuple #[dgV zeroD, .int .i64 420]) ?_ rfl ⟨by rw [HE.out.1, HE.out.2], below_setRow HB1.out (Nat.le_succ _) _⟩
  rw [dgV_agg zeroD]
  simp [results, Tryd.results43, asAddr, hl]
set_option maxHeartbeats 4000000 in
theorem lstL_yes (t : Tr) (p : TrP) (w : World) (h : Hid (TrOk w t p)) (hT : Hid (Tabs w)) (hg : Hid (trG t = true)) :
    Calls Tryd.prog 43 #[trV t p] w fun e w' => e = .returned (.tuple #[dgV (lstL t), .int .i64 (trE t)]) ∧ Below w.heap.size w w' := by
  obtain ⟨d, HD⟩ : ∃ d, Hid (treeD (t.ln.map (lvL t.salt)) = d) := ⟨_, Lib.hid rfl⟩
  obtain ⟨P, HP⟩ : ∃ P, Hid (t.ln.map (lvL t.salt) = P) := ⟨_, Lib.hid rfl⟩
  have HE : Hid (lstL t = d ∧ trE t = 0) := Lib.hid ⟨by unfold lstL; rw [hg.out, ← HD.out]; rfl, trE_yes hg.out⟩
  have HDO : Hid (DgOk d) := Lib.hid (by rw [← HD.out]; exact treeD_okD _)
  have HS1 := Lib.hid (dgC_info HDO.out)
  have HS2 := Lib.hid (dgC_size HDO.out)
  have HSO : Hid (DgOk t.salt) := Lib.hid ⟨h.out.len, h.out.bytes⟩
  have HSK := Lib.hid (dgC_infoK HSO.out)
  have HNL : Hid (p.n ≤ 100000) := Lib.hid (by have := trG_lns hg.out; have e := h.out.ln.len; omega)
  have HPN : Hid (P.length ≤ 100000) := Lib.hid (by rw [← HP.out, List.length_map]; exact trG_lns hg.out)
  rw [HP.out] at HD
  have hb0 := ((Below.refl _ w).alloc (Nat.le_refl _) (.cells (trC t p).toArray 27)).alloc (by simp) (.cells (dgC zeroD).toArray 25)
  have hr0 := (Below.heap_alloc (w.alloc (.cells (trC t p).toArray 27)) (.cells (dgC zeroD).toArray 25) w.heap.size (by simp)).trans (heap_alloc_new w (.cells (trC t p).toArray 27))
  have hr1 := heap_alloc_new (w.alloc (.cells (trC t p).toArray 27)) (.cells (dgC zeroD).toArray 25)
  rw [World.size_alloc] at hr1
  have HO1 := Lib.hid (h.out.below hb0)
  have hT1 := Lib.hid (hT.out.below hb0)
  rw [zeroD_cells] at hb0 hr0 HO1 hT1
  conv at hr1 => lhs; rw [zeroD_cells]
  have HB0 := Lib.hid hb0
  have HR0 := Lib.hid hr0
  have HR1 := Lib.hid hr1
  have HIT := Lib.hid (trV_info t p h.out.len)
  clear hb0 hr0 hr1
  rw [show trV t p = .agg (trC t p).toArray from rfl]
  go_enter Tryd.func43, Tryd.ntmps43
  go_wp2_with (refine wpList_load_row rfl 27 (.tmp 1) rfl w.heap.size rfl 27 _ (0, 0) _ HR0.out Tryd.underlying27 rfl HIT.out ?_)
  rw [show Value.agg (trC t p).toArray = trV t p from rfl]
  refine (check_any t p _ HO1).mono ?_
  rintro e w1 ⟨rfl, hq1⟩
  have HB1 := Lib.hid (HB0.out.trans (hq1.mono HB0.out.size))
  have HR2 := Lib.hid (row_kept HR0.out hq1)
  have HR3 := Lib.hid (row_kept HR1.out hq1)
  have HO2 := Lib.hid (HO1.out.below hq1)
  have hT2 := Lib.hid (hT1.out.below hq1)
  clear hq1 HR0 HR1 HO1 hT1 HB0
  rw [HE.out.2]
  go_wp2_with fail
  obtain ⟨W1, hW1⟩ : ∃ W, W = w1 := ⟨_, rfl⟩
  subst hW1
  refine region_flow4 (by kernel_rfl) (by kernel_rfl) (fun i => Nat.beq i 7 || Nat.beq i 8) (fun i => i) (by kernel_rfl) (fun fx => #[trV t p, Value.pointer (some { block := w.heap.size, off := 0 }), Value.pointer (some { block := w.heap.size + 1, off := 0 }), fx 8, Value.int IntKind.i64 0, trV t p, Value.int IntKind.i64 0, Value.int IntKind.i64 0, Value.bool false, undef, undef, fx 0, fx 1, fx 2, fx 3, fx 4, fx 5, fx 6]) (fun i => bif Nat.beq i 8 then Value.int IntKind.i64 0 else undef) (fun L fx w' => (L 7 = false → Below W1.heap.size W1 w')) (fun fi fv _ fw => wLiL w w.heap.size (w.heap.size + 1) t p P d fi fv fw) (fun _ => (Below.refl _ _).drew) ?_ ?_
  · refine ⟨?_, ?_, ?_, ?_, ?_, ?_, ?_, ?_, ?_, trivial⟩
    all_goals intro L fx w' hC hi hcl hdn hd
    · have hnd : L 7 = false := Bool.eq_false_iff.2 (fun h => by have := hcl 7 0 h (by kernel_rfl); rw [hi] at this; cases this)
      have hb12 := hC hnd
      go_wp2_with fail
      refine (lines_any w').mono ?_
      rintro e w2 ⟨rfl, hq⟩
      go_wp2_with fail
      exact ⟨_, rfl, fun _ => hb12.trans (hq.mono hb12.size), rfl, fun j v t _ _ h => wLiL_below hq j v h⟩
    · have hnd : L 7 = false := Bool.eq_false_iff.2 (fun h => by have := hcl 7 1 h (by kernel_rfl); rw [hi] at this; cases this)
      go_wp2_with fail
      exact ⟨_, rfl, (fun _ => hC hnd), rfl, fun _ _ _ _ _ h => h⟩
    · have h1 : fx 1 = Value.pointer (some { block := w.heap.size, off := 6 }) := hd.1 rfl
      have hnd : L 7 = false := Bool.eq_false_iff.2 (fun h => by have := hcl 7 2 h (by kernel_rfl); rw [hi] at this; cases this)
      have hrow := tr_salt (row_kept HR2.out (hC hnd))
      refine wpList_load_mid rfl 25 (.tmp 12) rfl w.heap.size 6 h1 (dgC t.salt) _ hrow Tryd.underlying25 rfl HSK.out ?_
      clear hd
      go_wp2_with fail
      exact ⟨_, by simp only [upd, h1]; rfl, fun _ => hC hnd, rfl, fun _ _ _ _ _ h => h⟩
    · have hnd : L 7 = false := Bool.eq_false_iff.2 (fun h => by have := hcl 7 3 h (by kernel_rfl); rw [hi] at this; cases this)
      go_wp2_with fail
      exact ⟨_, rfl, (fun _ => hC hnd), rfl, fun _ _ _ _ _ h => h⟩
    · have h3 : fx 3 = Value.pointer (some { block := w.heap.size, off := 4 }) := hd.1 rfl
      have hnd : L 7 = false := Bool.eq_false_iff.2 (fun h => by have := hcl 7 4 h (by kernel_rfl); rw [hi] at this; cases this)
      have hcc : w'.cell? ⟨w.heap.size, 4, none⟩ = some (.slice p.A p.n p.c) := by rw [cell_of_row _ _ _ _ _ _ (row_kept HR2.out (hC hnd))]; rfl
      go_wp2_with fail
      exact ⟨_, by simp only [upd, h3]; rfl, (fun _ => hC hnd), rfl, fun _ _ _ _ _ h => h⟩
    · have h0 : fx 0 = Value.agg tabL := hd.1 rfl
      have h2 : fx 2 = dgV t.salt := hd.2.1 rfl
      have h4 : fx 4 = Value.slice p.A p.n p.c := hd.2.2.1 rfl
      have hnd : L 7 = false := Bool.eq_false_iff.2 (fun h => by have := hcl 7 5 h (by kernel_rfl); rw [hi] at this; cases this)
      have hb12 := hC hnd
      have HIK := Lib.hid (HO2.out.ln.below hb12)
      have HTK := Lib.hid (hT2.out.below hb12)
      go_wp2_with fail
      refine (leavesL t.salt t.ln p.A p.n p.c w' HNL.out HSO HIK HTK).mono ?_
      rintro e w2 ⟨A', n', c', rfl, hin, hq⟩
      rw [HP.out] at hin
      go_wp2_with fail
      exact ⟨Value.slice A' n' c', by simp only [upd, h0, h2, h4]; rfl, fun _ => hb12.trans (hq.mono hb12.size), ⟨_, _, _, rfl, hin⟩, fun j v t _ _ h => wLiL_below hq j v h⟩
    · have H5 := Lib.hid (hd.1 rfl)
      have hnd : L 7 = false := Bool.eq_false_iff.2 (fun h => by have := hcl 7 6 h (by kernel_rfl); rw [hi] at this; cases this)
      have hb12 := hC hnd
      obtain ⟨A', n', c', h5, hin⟩ := H5.out
      have HIN := Lib.hid hin
      have hnn : n' ≤ 1099511627776 := by have e := hin.len; have := HPN.out; omega
      clear hin
      have HTK := Lib.hid (hT2.out.below hb12)
      go_wp2_with fail
      refine (dtree_any n' P A' n' c' w' (Nat.le_refl _) hnn HIN HTK).mono ?_
      rintro e w2 ⟨rfl, hq⟩
      rw [HD.out]
      go_wp2_with fail
      exact ⟨_, by first | rfl | (rw [← h5]; rfl), fun _ => hb12.trans (hq.mono hb12.size), rfl, fun j v t _ _ h => wLiL_below hq j v h⟩
    · have h6 : fx 6 = dgV d := hd.1 rfl
      have hb21 := hC hi
      have hrow := row_kept HR3.out hb21
      refine wpList_store_row rfl 25 (.tmp 2) (.tmp 17) rfl (w.heap.size + 1) (dgC d).toArray rfl h6 25 _ hrow HS1.out HS2.out (dgC_one _) ?_
      clear hd
      go_wp2_with fail
      refine ⟨undef, by rw [← h6]; rfl, fun h => (updB_self h).elim, ⟨setRow_heap _ _ _ _ _ _ hrow, below_setRow (HB1.out.trans (hb21.mono HB1.out.size)) (by omega) _⟩, fun j v t hj hu h => ?_⟩
      refine wLiL_pure j v ?_ ?_ h <;> intro e <;> subst e
      · refine absurd hu (not_needed (E := fun i => Nat.beq i 7 || Nat.beq i 8) (j := 5) [6] (by kernel_rfl) (by kernel_rfl) ?_)
        intro m hm hne; simp at hm; subst hm; exact hdn 6 (by kernel_rfl)
      · rw [hi] at hj; cases hj
    · go_wp2_with fail
      exact ⟨_, rfl, fun h => hC h, rfl, fun _ _ _ _ _ h => h⟩
  · intro L fo w' hC hS
    have H7 := Lib.hid (hS 7 (by decide) rfl)
    have H8 := Lib.hid (hS 8 (by decide) rfl)
    have h8 : fo 8 = .int .i64 0 := H8.out
    rw [h8]
    clear hS hC h8 H8
    go_wp2_with fail
    have hl := run_loadVar_row (P := Tryd.prog) w' (w.heap.size + 1) 25 25 (dgC d).toArray (0, 0) _ H7.out.1 Tryd.underlying25 rfl HS1.out
    refine bodyPost_ret (v := .tuple #[dgV d, .int .i64 0]) ?_ rfl ⟨by rw [HE.out.1, HE.out.2], H7.out.2⟩
    rw [dgV_agg d]
    simp [results, Tryd.results43, asAddr, hl]
theorem lstL_any (t : Tr) (p : TrP) (w : World) (h : Hid (TrOk w t p)) (hT : Hid (Tabs w)) :
    Calls Tryd.prog 43 #[trV t p] w fun e w' => e = .returned (.tuple #[dgV (lstL t), .int .i64 (trE t)]) ∧ Below w.heap.size w w' := by
  by_cases hg : trG t = true
  · exact lstL_yes t p w h hT (Lib.hid hg)
  · exact lstL_no t p w h hT (Lib.hid (by simpa using hg))
end Go.Proofs.YtmfmgeapecapiaaDoor
namespace Go.Proofs.YtmfmgeapecapiaaDoor
open Go.RowKit SzSha SzTree
set_option linter.unusedVariables false
set_option maxRecDepth 100000
def wLiK (W0 : World) (bt : Nat) (br : Nat) (t : Tr) (p : TrP) (P : List Dg) (d : List Nat) : Nat → Value → World → Prop
  | 0, fv, _ => fv = Value.agg tabK
  | 1, fv, _ => fv = Value.pointer (some { block := bt, off := 6 })
  | 2, fv, _ => fv = dgV t.salt
  | 3, fv, _ => fv = Value.pointer (some { block := bt, off := 5 })
  | 4, fv, _ => fv = Value.slice p.A2 p.n2 p.c2
  | 5, fv, fw => ∃ A' n' c', fv = .slice A' n' c' ∧ InD fw A' n' c' P
  | 6, fv, _ => fv = dgV d
  | 7, fv, fw => fw.heap[br]? = some (.cells (dgC d).toArray 25 (0, 0)) ∧ Below W0.heap.size W0 fw
  | 8, fv, _ => fv = Value.int .i64 0
  | _, _, _ => True
theorem wLiK_below {W0 : World} {bt : Nat} {br : Nat} {t : Tr} {p : TrP} {P : List Dg} {d : List Nat} {w w' : World} (hb : Below w.heap.size w w') : ∀ j v, wLiK W0 bt br t p P d j v w → wLiK W0 bt br t p P d j v w'
  | 0, v, h => h
  | 1, v, h => h
  | 2, v, h => h
  | 3, v, h => h
  | 4, v, h => h
  | 5, v, ⟨A', n', c', h1, h2⟩ => ⟨A', n', c', h1, h2.below hb⟩
  | 6, v, h => h
  | 7, v, h => ⟨row_kept h.1 hb, h.2.trans (hb.mono h.2.size)⟩
  | 8, v, h => h
  | n + 9, v, h => trivial
theorem wLiK_pure {W0 : World} {bt : Nat} {br : Nat} {t : Tr} {p : TrP} {P : List Dg} {d : List Nat} {w w' : World} : ∀ j v, j ≠ 5 → j ≠ 7 → wLiK W0 bt br t p P d j v w → wLiK W0 bt br t p P d j v w'
  | 0, v, _, _, h => h
  | 1, v, _, _, h => h
  | 2, v, _, _, h => h
  | 3, v, _, _, h => h
  | 4, v, _, _, h => h
  | 5, v, hh, _, _ => absurd rfl hh
  | 6, v, _, _, h => h
  | 7, v, _, hh, _ => absurd rfl hh
  | 8, v, _, _, h => h
  | n + 9, v, _, _, h => trivial
/-- the digest of a list -/
def lstK (t : Tr) : Dg := if trG t then treeD (t.cl.map (lvK t.salt)) else zeroD
theorem lstK_ok (t : Tr) : DgOk (lstK t) := by
  unfold lstK
  split
  · exact treeD_okD _
  · exact zeroD_ok
set_option maxHeartbeats 4000000 in
theorem lstK_no (t : Tr) (p : TrP) (w : World) (h : Hid (TrOk w t p)) (hT : Hid (Tabs w)) (hg : Hid (trG t = false)) :
    Calls Tryd.prog 44 #[trV t p] w fun e w' => e = .returned (.tuple #[dgV (lstK t), .int .i64 (trE t)]) ∧ Below w.heap.size w w' := by
  have HE : Hid (lstK t = zeroD ∧ trE t = 420) := Lib.hid ⟨by unfold lstK; rw [hg.out]; rfl, trE_no hg.out⟩
  have HSZD := Lib.hid (dgC_info zeroD_ok)
  have HSZ2 := Lib.hid (dgC_size zeroD_ok)
  have hb0 := ((Below.refl _ w).alloc (Nat.le_refl _) (.cells (trC t p).toArray 27)).alloc (by simp) (.cells (dgC zeroD).toArray 25)
  have hr0 := (Below.heap_alloc (w.alloc (.cells (trC t p).toArray 27)) (.cells (dgC zeroD).toArray 25) w.heap.size (by simp)).trans (heap_alloc_new w (.cells (trC t p).toArray 27))
  have hr1 := heap_alloc_new (w.alloc (.cells (trC t p).toArray 27)) (.cells (dgC zeroD).toArray 25)
  rw [World.size_alloc] at hr1
  have HO1 := Lib.hid (h.out.below hb0)
  have hT1 := Lib.hid (hT.out.below hb0)
  rw [zeroD_cells] at hb0 hr0 HO1 hT1
  conv at hr1 => lhs; rw [zeroD_cells]
  have HB0 := Lib.hid hb0
  have HR0 := Lib.hid hr0
  have HR1 := Lib.hid hr1
  have HIT := Lib.hid (trV_info t p h.out.len)
  clear hb0 hr0 hr1
  rw [show trV t p = .agg (trC t p).toArray from rfl]
  go_enter Tryd.func44, Tryd.ntmps44
  go_wp2_with (refine wpList_load_row rfl 27 (.tmp 1) rfl w.heap.size rfl 27 _ (0, 0) _ HR0.out Tryd.underlying27 rfl HIT.out ?_)
  rw [show Value.agg (trC t p).toArray = trV t p from rfl]
  refine (check_any t p _ HO1).mono ?_
  rintro e w1 ⟨rfl, hq1⟩
  have HB1 := Lib.hid (HB0.out.trans (hq1.mono HB0.out.size))
  have HR2 := Lib.hid (row_kept HR0.out hq1)
  have HR3 := Lib.hid (row_kept HR1.out hq1)
  have HO2 := Lib.hid (HO1.out.below hq1)
  have hT2 := Lib.hid (hT1.out.below hq1)
  clear hq1 HR0 HR1 HO1 hT1 HB0
  rw [HE.out.2]
  go_wp2_with (first | (refine wpList_load_row rfl 25 (.tmp 2) rfl (w.heap.size + 1) rfl 25 _ (0, 0) _ HR3.out Tryd.underlying25 rfl HSZD.out ?_) | (refine wpList_store_row rfl 25 (.tmp 2) (.tmp 9) rfl (w.heap.size + 1) (dgC zeroD).toArray ?ha ?hb 25 _ HR3.out HSZD.out HSZ2.out (dgC_one zeroD) ?_))
  all_goals first | rfl | skip
  have hr := setRow_heap w1 (w.heap.size + 1) _ (dgC zeroD).toArray _ _ HR3.out
  have hl := run_loadVar_row (P := Tryd.prog) (World.setRow w1 (w.heap.size + 1) (dgC zeroD).toArray) (w.heap.size + 1) 25 25 (dgC zeroD).toArray (0, 0) _ hr Tryd.underlying25 rfl HSZD.out
  refine bodyPost_ret (v := .tuple #[dgV zeroD, .int .i64 420]) ?_ rfl ⟨by rw [HE.out.1, HE.out.2], below_setRow HB1.out (Nat.le_succ _) _⟩
  rw [dgV_agg zeroD]
  simp [results, Tryd.results44, asAddr, hl]
set_option maxHeartbeats 4000000 in
theorem lstK_yes (t : Tr) (p : TrP) (w : World) (h : Hid (TrOk w t p)) (hT : Hid (Tabs w)) (hg : Hid (trG t = true)) :
    Calls Tryd.prog 44 #[trV t p] w fun e w' => e = .returned (.tuple #[dgV (lstK t), .int .i64 (trE t)]) ∧ Below w.heap.size w w' := by
  obtain ⟨d, HD⟩ : ∃ d, Hid (treeD (t.cl.map (lvK t.salt)) = d) := ⟨_, Lib.hid rfl⟩
  obtain ⟨P, HP⟩ : ∃ P, Hid (t.cl.map (lvK t.salt) = P) := ⟨_, Lib.hid rfl⟩
  have HE : Hid (lstK t = d ∧ trE t = 0) := Lib.hid ⟨by unfold lstK; rw [hg.out, ← HD.out]; rfl, trE_yes hg.out⟩
  have HDO : Hid (DgOk d) := Lib.hid (by rw [← HD.out]; exact treeD_okD _)
  have HS1 := Lib.hid (dgC_info HDO.out)
  have HS2 := Lib.hid (dgC_size HDO.out)
  have HSO : Hid (DgOk t.salt) := Lib.hid ⟨h.out.len, h.out.bytes⟩
  have HSK := Lib.hid (dgC_infoK HSO.out)
  have HNL : Hid (p.n2 ≤ 100000) := Lib.hid (by have := trG_cls hg.out; have e := h.out.cl.len; omega)
  have HPN : Hid (P.length ≤ 100000) := Lib.hid (by rw [← HP.out, List.length_map]; exact trG_cls hg.out)
  rw [HP.out] at HD
  have hb0 := ((Below.refl _ w).alloc (Nat.le_refl _) (.cells (trC t p).toArray 27)).alloc (by simp) (.cells (dgC zeroD).toArray 25)
  have hr0 := (Below.heap_alloc (w.alloc (.cells (trC t p).toArray 27)) (.cells (dgC zeroD).toArray 25) w.heap.size (by simp)).trans (heap_alloc_new w (.cells (trC t p).toArray 27))
  have hr1 := heap_alloc_new (w.alloc (.cells (trC t p).toArray 27)) (.cells (dgC zeroD).toArray 25)
  rw [World.size_alloc] at hr1
  have HO1 := Lib.hid (h.out.below hb0)
  have hT1 := Lib.hid (hT.out.below hb0)
  rw [zeroD_cells] at hb0 hr0 HO1 hT1
  conv at hr1 => lhs; rw [zeroD_cells]
  have HB0 := Lib.hid hb0
  have HR0 := Lib.hid hr0
  have HR1 := Lib.hid hr1
  have HIT := Lib.hid (trV_info t p h.out.len)
  clear hb0 hr0 hr1
  rw [show trV t p = .agg (trC t p).toArray from rfl]
  go_enter Tryd.func44, Tryd.ntmps44
  go_wp2_with (refine wpList_load_row rfl 27 (.tmp 1) rfl w.heap.size rfl 27 _ (0, 0) _ HR0.out Tryd.underlying27 rfl HIT.out ?_)
  rw [show Value.agg (trC t p).toArray = trV t p from rfl]
  refine (check_any t p _ HO1).mono ?_
  rintro e w1 ⟨rfl, hq1⟩
  have HB1 := Lib.hid (HB0.out.trans (hq1.mono HB0.out.size))
  have HR2 := Lib.hid (row_kept HR0.out hq1)
  have HR3 := Lib.hid (row_kept HR1.out hq1)
  have HO2 := Lib.hid (HO1.out.below hq1)
  have hT2 := Lib.hid (hT1.out.below hq1)
  clear hq1 HR0 HR1 HO1 hT1 HB0
  rw [HE.out.2]
  go_wp2_with fail
  obtain ⟨W1, hW1⟩ : ∃ W, W = w1 := ⟨_, rfl⟩
  subst hW1
  refine region_flow4 (by kernel_rfl) (by kernel_rfl) (fun i => Nat.beq i 7 || Nat.beq i 8) (fun i => i) (by kernel_rfl) (fun fx => #[trV t p, Value.pointer (some { block := w.heap.size, off := 0 }), Value.pointer (some { block := w.heap.size + 1, off := 0 }), fx 8, Value.int IntKind.i64 0, trV t p, Value.int IntKind.i64 0, Value.int IntKind.i64 0, Value.bool false, undef, undef, fx 0, fx 1, fx 2, fx 3, fx 4, fx 5, fx 6]) (fun i => bif Nat.beq i 8 then Value.int IntKind.i64 0 else undef) (fun L fx w' => (L 7 = false → Below W1.heap.size W1 w')) (fun fi fv _ fw => wLiK w w.heap.size (w.heap.size + 1) t p P d fi fv fw) (fun _ => (Below.refl _ _).drew) ?_ ?_
  · refine ⟨?_, ?_, ?_, ?_, ?_, ?_, ?_, ?_, ?_, trivial⟩
    all_goals intro L fx w' hC hi hcl hdn hd
    · have hnd : L 7 = false := Bool.eq_false_iff.2 (fun h => by have := hcl 7 0 h (by kernel_rfl); rw [hi] at this; cases this)
      have hb12 := hC hnd
      go_wp2_with fail
      refine (claims_any w').mono ?_
      rintro e w2 ⟨rfl, hq⟩
      go_wp2_with fail
      exact ⟨_, rfl, fun _ => hb12.trans (hq.mono hb12.size), rfl, fun j v t _ _ h => wLiK_below hq j v h⟩
    · have hnd : L 7 = false := Bool.eq_false_iff.2 (fun h => by have := hcl 7 1 h (by kernel_rfl); rw [hi] at this; cases this)
      go_wp2_with fail
      exact ⟨_, rfl, (fun _ => hC hnd), rfl, fun _ _ _ _ _ h => h⟩
    · have h1 : fx 1 = Value.pointer (some { block := w.heap.size, off := 6 }) := hd.1 rfl
      have hnd : L 7 = false := Bool.eq_false_iff.2 (fun h => by have := hcl 7 2 h (by kernel_rfl); rw [hi] at this; cases this)
      have hrow := tr_salt (row_kept HR2.out (hC hnd))
      refine wpList_load_mid rfl 25 (.tmp 12) rfl w.heap.size 6 h1 (dgC t.salt) _ hrow Tryd.underlying25 rfl HSK.out ?_
      clear hd
      go_wp2_with fail
      exact ⟨_, by simp only [upd, h1]; rfl, fun _ => hC hnd, rfl, fun _ _ _ _ _ h => h⟩
    · have hnd : L 7 = false := Bool.eq_false_iff.2 (fun h => by have := hcl 7 3 h (by kernel_rfl); rw [hi] at this; cases this)
      go_wp2_with fail
      exact ⟨_, rfl, (fun _ => hC hnd), rfl, fun _ _ _ _ _ h => h⟩
    · have h3 : fx 3 = Value.pointer (some { block := w.heap.size, off := 5 }) := hd.1 rfl
      have hnd : L 7 = false := Bool.eq_false_iff.2 (fun h => by have := hcl 7 4 h (by kernel_rfl); rw [hi] at this; cases this)
      have hcc : w'.cell? ⟨w.heap.size, 5, none⟩ = some (.slice p.A2 p.n2 p.c2) := by rw [cell_of_row _ _ _ _ _ _ (row_kept HR2.out (hC hnd))]; rfl
      go_wp2_with fail
      exact ⟨_, by simp only [upd, h3]; rfl, (fun _ => hC hnd), rfl, fun _ _ _ _ _ h => h⟩
    · have h0 : fx 0 = Value.agg tabK := hd.1 rfl
      have h2 : fx 2 = dgV t.salt := hd.2.1 rfl
      have h4 : fx 4 = Value.slice p.A2 p.n2 p.c2 := hd.2.2.1 rfl
      have hnd : L 7 = false := Bool.eq_false_iff.2 (fun h => by have := hcl 7 5 h (by kernel_rfl); rw [hi] at this; cases this)
      have hb12 := hC hnd
      have HIK := Lib.hid (HO2.out.cl.below hb12)
      have HTK := Lib.hid (hT2.out.below hb12)
      go_wp2_with fail
      refine (leavesK t.salt t.cl p.A2 p.n2 p.c2 w' HNL.out HSO HIK HTK).mono ?_
      rintro e w2 ⟨A', n', c', rfl, hin, hq⟩
      rw [HP.out] at hin
      go_wp2_with fail
      exact ⟨Value.slice A' n' c', by simp only [upd, h0, h2, h4]; rfl, fun _ => hb12.trans (hq.mono hb12.size), ⟨_, _, _, rfl, hin⟩, fun j v t _ _ h => wLiK_below hq j v h⟩
    · have H5 := Lib.hid (hd.1 rfl)
      have hnd : L 7 = false := Bool.eq_false_iff.2 (fun h => by have := hcl 7 6 h (by kernel_rfl); rw [hi] at this; cases this)
      have hb12 := hC hnd
      obtain ⟨A', n', c', h5, hin⟩ := H5.out
      have HIN := Lib.hid hin
      have hnn : n' ≤ 1099511627776 := by have e := hin.len; have := HPN.out; omega
      clear hin
      have HTK := Lib.hid (hT2.out.below hb12)
      go_wp2_with fail
      refine (dtree_any n' P A' n' c' w' (Nat.le_refl _) hnn HIN HTK).mono ?_
      rintro e w2 ⟨rfl, hq⟩
      rw [HD.out]
      go_wp2_with fail
      exact ⟨_, by first | rfl | (rw [← h5]; rfl), fun _ => hb12.trans (hq.mono hb12.size), rfl, fun j v t _ _ h => wLiK_below hq j v h⟩
    · have h6 : fx 6 = dgV d := hd.1 rfl
      have hb21 := hC hi
      have hrow := row_kept HR3.out hb21
      refine wpList_store_row rfl 25 (.tmp 2) (.tmp 17) rfl (w.heap.size + 1) (dgC d).toArray rfl h6 25 _ hrow HS1.out HS2.out (dgC_one _) ?_
      clear hd
      go_wp2_with fail
      refine ⟨undef, by rw [← h6]; rfl, fun h => (updB_self h).elim, ⟨setRow_heap _ _ _ _ _ _ hrow, below_setRow (HB1.out.trans (hb21.mono HB1.out.size)) (by omega) _⟩, fun j v t hj hu h => ?_⟩
      refine wLiK_pure j v ?_ ?_ h <;> intro e <;> subst e
      · refine absurd hu (not_needed (E := fun i => Nat.beq i 7 || Nat.beq i 8) (j := 5) [6] (by kernel_rfl) (by kernel_rfl) ?_)
        intro m hm hne; simp at hm; subst hm; exact hdn 6 (by kernel_rfl)
      · rw [hi] at hj; cases hj
    · go_wp2_with fail
      exact ⟨_, rfl, fun h => hC h, rfl, fun _ _ _ _ _ h => h⟩
  · intro L fo w' hC hS
    have H7 := Lib.hid (hS 7 (by decide) rfl)
    have H8 := Lib.hid (hS 8 (by decide) rfl)
    have h8 : fo 8 = .int .i64 0 := H8.out
    rw [h8]
    clear hS hC h8 H8
    go_wp2_with fail
    have hl := run_loadVar_row (P := Tryd.prog) w' (w.heap.size + 1) 25 25 (dgC d).toArray (0, 0) _ H7.out.1 Tryd.underlying25 rfl HS1.out
    refine bodyPost_ret (v := .tuple #[dgV d, .int .i64 0]) ?_ rfl ⟨by rw [HE.out.1, HE.out.2], H7.out.2⟩
    rw [dgV_agg d]
    simp [results, Tryd.results44, asAddr, hl]
theorem lstK_any (t : Tr) (p : TrP) (w : World) (h : Hid (TrOk w t p)) (hT : Hid (Tabs w)) :
    Calls Tryd.prog 44 #[trV t p] w fun e w' => e = .returned (.tuple #[dgV (lstK t), .int .i64 (trE t)]) ∧ Below w.heap.size w w' := by
  by_cases hg : trG t = true
  · exact lstK_yes t p w h hT (Lib.hid hg)
  · exact lstK_no t p w h hT (Lib.hid (by simpa using hg))
end Go.Proofs.YtmfmgeapecapiaaDoor
namespace Go.Proofs.YtmfmgeapecapiaaDoor
open Go.RowKit SzSha SzTree
set_option linter.unusedVariables false
set_option maxRecDepth 100000
def rtOf (a b : Int) (x y : List Nat) : Rt := ⟨0, 0, 0, 0, a, b, zeroN, x, y, zeroD, 0, 0⟩
set_option maxHeartbeats 8000000 in
theorem built_rt (a b : Int) (x y : List Nat) (hx : x.length = 32) (hy : y.length = 32) : Tryd.prog.built 35 [(4, .int .i64 a), (5, .int .i64 b), (7, dgV x), (8, dgV y)] = some (rtC (rtOf a b x y)).toArray := by
  rcases x with _ | ⟨x0, x⟩
  · simp at hx
  rcases x with _ | ⟨x1, x⟩
  · simp at hx
  rcases x with _ | ⟨x2, x⟩
  · simp at hx
  rcases x with _ | ⟨x3, x⟩
  · simp at hx
  rcases x with _ | ⟨x4, x⟩
  · simp at hx
  rcases x with _ | ⟨x5, x⟩
  · simp at hx
  rcases x with _ | ⟨x6, x⟩
  · simp at hx
  rcases x with _ | ⟨x7, x⟩
  · simp at hx
  rcases x with _ | ⟨x8, x⟩
  · simp at hx
  rcases x with _ | ⟨x9, x⟩
  · simp at hx
  rcases x with _ | ⟨x10, x⟩
  · simp at hx
  rcases x with _ | ⟨x11, x⟩
  · simp at hx
  rcases x with _ | ⟨x12, x⟩
  · simp at hx
  rcases x with _ | ⟨x13, x⟩
  · simp at hx
  rcases x with _ | ⟨x14, x⟩
  · simp at hx
  rcases x with _ | ⟨x15, x⟩
  · simp at hx
  rcases x with _ | ⟨x16, x⟩
  · simp at hx
  rcases x with _ | ⟨x17, x⟩
  · simp at hx
  rcases x with _ | ⟨x18, x⟩
  · simp at hx
  rcases x with _ | ⟨x19, x⟩
  · simp at hx
  rcases x with _ | ⟨x20, x⟩
  · simp at hx
  rcases x with _ | ⟨x21, x⟩
  · simp at hx
  rcases x with _ | ⟨x22, x⟩
  · simp at hx
  rcases x with _ | ⟨x23, x⟩
  · simp at hx
  rcases x with _ | ⟨x24, x⟩
  · simp at hx
  rcases x with _ | ⟨x25, x⟩
  · simp at hx
  rcases x with _ | ⟨x26, x⟩
  · simp at hx
  rcases x with _ | ⟨x27, x⟩
  · simp at hx
  rcases x with _ | ⟨x28, x⟩
  · simp at hx
  rcases x with _ | ⟨x29, x⟩
  · simp at hx
  rcases x with _ | ⟨x30, x⟩
  · simp at hx
  rcases x with _ | ⟨x31, x⟩
  · simp at hx
  rcases x with _ | ⟨xz, x⟩
  rotate_left
  · simp at hx
  rcases y with _ | ⟨y0, y⟩
  · simp at hy
  rcases y with _ | ⟨y1, y⟩
  · simp at hy
  rcases y with _ | ⟨y2, y⟩
  · simp at hy
  rcases y with _ | ⟨y3, y⟩
  · simp at hy
  rcases y with _ | ⟨y4, y⟩
  · simp at hy
  rcases y with _ | ⟨y5, y⟩
  · simp at hy
  rcases y with _ | ⟨y6, y⟩
  · simp at hy
  rcases y with _ | ⟨y7, y⟩
  · simp at hy
  rcases y with _ | ⟨y8, y⟩
  · simp at hy
  rcases y with _ | ⟨y9, y⟩
  · simp at hy
  rcases y with _ | ⟨y10, y⟩
  · simp at hy
  rcases y with _ | ⟨y11, y⟩
  · simp at hy
  rcases y with _ | ⟨y12, y⟩
  · simp at hy
  rcases y with _ | ⟨y13, y⟩
  · simp at hy
  rcases y with _ | ⟨y14, y⟩
  · simp at hy
  rcases y with _ | ⟨y15, y⟩
  · simp at hy
  rcases y with _ | ⟨y16, y⟩
  · simp at hy
  rcases y with _ | ⟨y17, y⟩
  · simp at hy
  rcases y with _ | ⟨y18, y⟩
  · simp at hy
  rcases y with _ | ⟨y19, y⟩
  · simp at hy
  rcases y with _ | ⟨y20, y⟩
  · simp at hy
  rcases y with _ | ⟨y21, y⟩
  · simp at hy
  rcases y with _ | ⟨y22, y⟩
  · simp at hy
  rcases y with _ | ⟨y23, y⟩
  · simp at hy
  rcases y with _ | ⟨y24, y⟩
  · simp at hy
  rcases y with _ | ⟨y25, y⟩
  · simp at hy
  rcases y with _ | ⟨y26, y⟩
  · simp at hy
  rcases y with _ | ⟨y27, y⟩
  · simp at hy
  rcases y with _ | ⟨y28, y⟩
  · simp at hy
  rcases y with _ | ⟨y29, y⟩
  · simp at hy
  rcases y with _ | ⟨y30, y⟩
  · simp at hy
  rcases y with _ | ⟨y31, y⟩
  · simp at hy
  rcases y with _ | ⟨yz, y⟩
  rotate_left
  · simp at hy
  clear hx hy
  kernel_rfl
theorem wpList_build_rt {w : World} {ops : Array Oper} {rest : List Oper} {o : Oper} {a : Act} {Q : Exit → Act → World → Prop} (hg : o.guard = none) (u4 u5 u6 u7 : Operand)
    (ho : o.op = .build 35 #[(4, u4), (5, u5), (7, u6), (8, u7)]) (m n : Int) (x y : List Nat) (hx : x.length = 32) (hy : y.length = 32)
    (h4 : a.eval u4 = .int .i64 m) (h5 : a.eval u5 = .int .i64 n) (h6 : a.eval u6 = dgV x) (h7 : a.eval u7 = dgV y)
    (h : wpList Tryd.prog ops Q rest (a.put o.dst (.agg (rtC (rtOf m n x y)).toArray)) w) : wpList Tryd.prog ops Q (o :: rest) a w := by
  have e1 : (#[(4, u4), (5, u5), (7, u6), (8, u7)].map fun (i, x) => (i, a.eval x)).toList = [(4, .int .i64 m), (5, .int .i64 n), (7, dgV x), (8, dgV y)] := by simp [h4, h5, h6, h7]
  refine wpList_build hg 35 _ ho (by rw [e1, built_rt m n x y hx hy]; rfl) ?_
  rw [e1, built_rt m n x y hx hy]
  exact h
theorem rtOf_ok {a b : Int} {x y : List Nat} (ha : I64 a) (hb : I64 b) (hx : DgOk x) (hy : DgOk y) : RtOk (rtOf a b x y) := by
  have z : I64 0 := by unfold I64; omega
  exact ⟨z, z, z, z, ha, hb, zeroN_ok, hx, hy, zeroD_ok, z, z⟩
theorem rtC_one (r : Rt) : (rtC r).toArray.all (·.oneCell') = true := by
  rw [Array.all_eq_true_iff_forall_mem]
  intro v hv
  have hv' : v ∈ rtC r := by simpa using hv
  unfold rtC at hv'
  have dg : ∀ l : List Nat, v ∈ dgC l → v.oneCell' = true := fun l h => by
    obtain ⟨x, _, rfl⟩ := List.mem_map.1 h
    rfl
  rcases List.mem_append.1 hv' with h | h
  · simp only [List.mem_cons, List.not_mem_nil, or_false] at h
    rcases h with rfl | rfl | rfl | rfl | rfl | rfl <;> rfl
  rcases List.mem_append.1 h with h | h
  · have := ndC_one r.tree
    rw [Array.all_eq_true_iff_forall_mem] at this
    exact this v (by simpa using h)
  rcases List.mem_append.1 h with h | h
  · exact dg _ h
  rcases List.mem_append.1 h with h | h
  · exact dg _ h
  rcases List.mem_append.1 h with h | h
  · exact dg _ h
  · simp only [List.mem_cons, List.not_mem_nil, or_false] at h
    rcases h with rfl | rfl <;> rfl
end Go.Proofs.YtmfmgeapecapiaaDoor
namespace Go.Proofs.YtmfmgeapecapiaaDoor
open Go.RowKit SzSha SzTree
set_option linter.unusedVariables false
set_option maxRecDepth 100000
set_option maxHeartbeats 8000000 in
theorem root42_yes (t : Tr) (p : TrP) (w : World) (h : Hid (TrOk w t p)) (hT : Hid (Tabs w)) (HE : Hid (trE t = 0)) :
    Calls Tryd.prog 16 #[trV t p] w fun e w' => e = .returned (.tuple #[.agg (rtC (rtOf (p.n : Nat) (p.n2 : Nat) (lstL t) (lstK t))).toArray, .bool true]) ∧ Below w.heap.size w w' := by
  obtain ⟨x, HX⟩ : ∃ x, Hid (lstL t = x) := ⟨_, Lib.hid rfl⟩
  obtain ⟨y, HY⟩ : ∃ y, Hid (lstK t = y) := ⟨_, Lib.hid rfl⟩
  have HXO : Hid (DgOk x) := Lib.hid (by rw [← HX.out]; exact lstL_ok t)
  have HYO : Hid (DgOk y) := Lib.hid (by rw [← HY.out]; exact lstK_ok t)
  have HX1 := Lib.hid (dgC_info HXO.out)
  have HX2 := Lib.hid (dgC_size HXO.out)
  have HY1 := Lib.hid (dgC_info HYO.out)
  have HY2 := Lib.hid (dgC_size HYO.out)
  have zz : I64 ((0 : Nat) : Int) := by unfold I64; omega
  have hsz : (rtC (rtOf (p.n : Nat) (p.n2 : Nat) x y)).toArray.size = 138 := by simp [rtC, rtOf, ndC_length zeroN_ok, dgC_len32 HXO.out, dgC_len32 HYO.out, dgC_len32 zeroD_ok]
  have HN1 : Hid ((Tryd.prog.info? 35).map (·.size) = some (rtC (rtOf (p.n : Nat) (p.n2 : Nat) x y)).toArray.size) := Lib.hid (by rw [hsz]; show _ = some 138; kernel_rfl)
  have HN2 := Lib.hid hsz
  have HIT := Lib.hid (trV_info t p h.out.len)
  clear hsz zz
  have hb0 := ((Below.refl _ w).alloc (Nat.le_refl _) (.cells (trC t p).toArray 27)).alloc (by simp) (.cells #[.int .i64 0, .int .i64 0, .int .i64 0, .int .i64 0, .int .i64 0, .int .i64 0, .int .u8 0, .int .u8 0, .int .u8 0, .int .u8 0, .int .u8 0, .int .u8 0, .int .u8 0, .int .u8 0, .int .u8 0, .int .u8 0, .int .u8 0, .int .u8 0, .int .u8 0, .int .u8 0, .int .u8 0, .int .u8 0, .int .u8 0, .int .u8 0, .int .u8 0, .int .u8 0, .int .u8 0, .int .u8 0, .int .u8 0, .int .u8 0, .int .u8 0, .int .u8 0, .int .u8 0, .int .u8 0, .int .u8 0, .int .u8 0, .int .u8 0, .int .u8 0, .int .i64 0, .int .i64 0, .int .u8 0, .int .u8 0, .int .u8 0, .int .u8 0, .int .u8 0, .int .u8 0, .int .u8 0, .int .u8 0, .int .u8 0, .int .u8 0, .int .u8 0, .int .u8 0, .int .u8 0, .int .u8 0, .int .u8 0, .int .u8 0, .int .u8 0, .int .u8 0, .int .u8 0, .int .u8 0, .int .u8 0, .int .u8 0, .int .u8 0, .int .u8 0, .int .u8 0, .int .u8 0, .int .u8 0, .int .u8 0, .int .u8 0, .int .u8 0, .int .u8 0, .int .u8 0, .int .u8 0, .int .u8 0, .int .u8 0, .int .u8 0, .int .u8 0, .int .u8 0, .int .u8 0, .int .u8 0, .int .u8 0, .int .u8 0, .int .u8 0, .int .u8 0, .int .u8 0, .int .u8 0, .int .u8 0, .int .u8 0, .int .u8 0, .int .u8 0, .int .u8 0, .int .u8 0, .int .u8 0, .int .u8 0, .int .u8 0, .int .u8 0, .int .u8 0, .int .u8 0, .int .u8 0, .int .u8 0, .int .u8 0, .int .u8 0, .int .u8 0, .int .u8 0, .int .u8 0, .int .u8 0, .int .u8 0, .int .u8 0, .int .u8 0, .int .u8 0, .int .u8 0, .int .u8 0, .int .u8 0, .int .u8 0, .int .u8 0, .int .u8 0, .int .u8 0, .int .u8 0, .int .u8 0, .int .u8 0, .int .u8 0, .int .u8 0, .int .u8 0, .int .u8 0, .int .u8 0, .int .u8 0, .int .u8 0, .int .u8 0, .int .u8 0, .int .u8 0, .int .u8 0, .int .u8 0, .int .u8 0, .int .u8 0, .int .u8 0, .int .u8 0, .int .i64 0, .int .i64 0] 35)
  have hr0 := (Below.heap_alloc (w.alloc (.cells (trC t p).toArray 27)) (.cells #[.int .i64 0, .int .i64 0, .int .i64 0, .int .i64 0, .int .i64 0, .int .i64 0, .int .u8 0, .int .u8 0, .int .u8 0, .int .u8 0, .int .u8 0, .int .u8 0, .int .u8 0, .int .u8 0, .int .u8 0, .int .u8 0, .int .u8 0, .int .u8 0, .int .u8 0, .int .u8 0, .int .u8 0, .int .u8 0, .int .u8 0, .int .u8 0, .int .u8 0, .int .u8 0, .int .u8 0, .int .u8 0, .int .u8 0, .int .u8 0, .int .u8 0, .int .u8 0, .int .u8 0, .int .u8 0, .int .u8 0, .int .u8 0, .int .u8 0, .int .u8 0, .int .i64 0, .int .i64 0, .int .u8 0, .int .u8 0, .int .u8 0, .int .u8 0, .int .u8 0, .int .u8 0, .int .u8 0, .int .u8 0, .int .u8 0, .int .u8 0, .int .u8 0, .int .u8 0, .int .u8 0, .int .u8 0, .int .u8 0, .int .u8 0, .int .u8 0, .int .u8 0, .int .u8 0, .int .u8 0, .int .u8 0, .int .u8 0, .int .u8 0, .int .u8 0, .int .u8 0, .int .u8 0, .int .u8 0, .int .u8 0, .int .u8 0, .int .u8 0, .int .u8 0, .int .u8 0, .int .u8 0, .int .u8 0, .int .u8 0, .int .u8 0, .int .u8 0, .int .u8 0, .int .u8 0, .int .u8 0, .int .u8 0, .int .u8 0, .int .u8 0, .int .u8 0, .int .u8 0, .int .u8 0, .int .u8 0, .int .u8 0, .int .u8 0, .int .u8 0, .int .u8 0, .int .u8 0, .int .u8 0, .int .u8 0, .int .u8 0, .int .u8 0, .int .u8 0, .int .u8 0, .int .u8 0, .int .u8 0, .int .u8 0, .int .u8 0, .int .u8 0, .int .u8 0, .int .u8 0, .int .u8 0, .int .u8 0, .int .u8 0, .int .u8 0, .int .u8 0, .int .u8 0, .int .u8 0, .int .u8 0, .int .u8 0, .int .u8 0, .int .u8 0, .int .u8 0, .int .u8 0, .int .u8 0, .int .u8 0, .int .u8 0, .int .u8 0, .int .u8 0, .int .u8 0, .int .u8 0, .int .u8 0, .int .u8 0, .int .u8 0, .int .u8 0, .int .u8 0, .int .u8 0, .int .u8 0, .int .u8 0, .int .u8 0, .int .u8 0, .int .u8 0, .int .i64 0, .int .i64 0] 35) w.heap.size (by simp)).trans (heap_alloc_new w (.cells (trC t p).toArray 27))
  have hr1 := heap_alloc_new (w.alloc (.cells (trC t p).toArray 27)) (.cells #[.int .i64 0, .int .i64 0, .int .i64 0, .int .i64 0, .int .i64 0, .int .i64 0, .int .u8 0, .int .u8 0, .int .u8 0, .int .u8 0, .int .u8 0, .int .u8 0, .int .u8 0, .int .u8 0, .int .u8 0, .int .u8 0, .int .u8 0, .int .u8 0, .int .u8 0, .int .u8 0, .int .u8 0, .int .u8 0, .int .u8 0, .int .u8 0, .int .u8 0, .int .u8 0, .int .u8 0, .int .u8 0, .int .u8 0, .int .u8 0, .int .u8 0, .int .u8 0, .int .u8 0, .int .u8 0, .int .u8 0, .int .u8 0, .int .u8 0, .int .u8 0, .int .i64 0, .int .i64 0, .int .u8 0, .int .u8 0, .int .u8 0, .int .u8 0, .int .u8 0, .int .u8 0, .int .u8 0, .int .u8 0, .int .u8 0, .int .u8 0, .int .u8 0, .int .u8 0, .int .u8 0, .int .u8 0, .int .u8 0, .int .u8 0, .int .u8 0, .int .u8 0, .int .u8 0, .int .u8 0, .int .u8 0, .int .u8 0, .int .u8 0, .int .u8 0, .int .u8 0, .int .u8 0, .int .u8 0, .int .u8 0, .int .u8 0, .int .u8 0, .int .u8 0, .int .u8 0, .int .u8 0, .int .u8 0, .int .u8 0, .int .u8 0, .int .u8 0, .int .u8 0, .int .u8 0, .int .u8 0, .int .u8 0, .int .u8 0, .int .u8 0, .int .u8 0, .int .u8 0, .int .u8 0, .int .u8 0, .int .u8 0, .int .u8 0, .int .u8 0, .int .u8 0, .int .u8 0, .int .u8 0, .int .u8 0, .int .u8 0, .int .u8 0, .int .u8 0, .int .u8 0, .int .u8 0, .int .u8 0, .int .u8 0, .int .u8 0, .int .u8 0, .int .u8 0, .int .u8 0, .int .u8 0, .int .u8 0, .int .u8 0, .int .u8 0, .int .u8 0, .int .u8 0, .int .u8 0, .int .u8 0, .int .u8 0, .int .u8 0, .int .u8 0, .int .u8 0, .int .u8 0, .int .u8 0, .int .u8 0, .int .u8 0, .int .u8 0, .int .u8 0, .int .u8 0, .int .u8 0, .int .u8 0, .int .u8 0, .int .u8 0, .int .u8 0, .int .u8 0, .int .u8 0, .int .u8 0, .int .u8 0, .int .u8 0, .int .u8 0, .int .u8 0, .int .i64 0, .int .i64 0] 35)
  rw [World.size_alloc] at hr1
  have HO1 := Lib.hid (h.out.below hb0)
  have hT1 := Lib.hid (hT.out.below hb0)
  have HB0 := Lib.hid hb0
  have HR0 := Lib.hid hr0
  have HR1 := Lib.hid hr1
  clear hb0 hr0 hr1
  rw [show trV t p = .agg (trC t p).toArray from rfl]
  go_enter Tryd.func16, Tryd.ntmps16
  go_wp2_with (refine wpList_load_row rfl 27 (.tmp 1) rfl w.heap.size rfl 27 _ (0, 0) _ HR0.out Tryd.underlying27 rfl HIT.out ?_)
  rw [show Value.agg (trC t p).toArray = trV t p from rfl]
  refine (lstL_any t p _ HO1 hT1).mono ?_
  rintro e w1 ⟨rfl, hq1⟩
  rw [HE.out, HX.out]
  obtain ⟨W2, HW2⟩ : ∃ W, Hid ((w1.alloc (.cells #[.int .u8 0, .int .u8 0, .int .u8 0, .int .u8 0, .int .u8 0, .int .u8 0, .int .u8 0, .int .u8 0, .int .u8 0, .int .u8 0, .int .u8 0, .int .u8 0, .int .u8 0, .int .u8 0, .int .u8 0, .int .u8 0, .int .u8 0, .int .u8 0, .int .u8 0, .int .u8 0, .int .u8 0, .int .u8 0, .int .u8 0, .int .u8 0, .int .u8 0, .int .u8 0, .int .u8 0, .int .u8 0, .int .u8 0, .int .u8 0, .int .u8 0, .int .u8 0] 25)).setRow w1.heap.size (dgC x).toArray = W) := ⟨_, Lib.hid rfl⟩
  have hw2 := setRow_heap (w1.alloc (.cells #[.int .u8 0, .int .u8 0, .int .u8 0, .int .u8 0, .int .u8 0, .int .u8 0, .int .u8 0, .int .u8 0, .int .u8 0, .int .u8 0, .int .u8 0, .int .u8 0, .int .u8 0, .int .u8 0, .int .u8 0, .int .u8 0, .int .u8 0, .int .u8 0, .int .u8 0, .int .u8 0, .int .u8 0, .int .u8 0, .int .u8 0, .int .u8 0, .int .u8 0, .int .u8 0, .int .u8 0, .int .u8 0, .int .u8 0, .int .u8 0, .int .u8 0, .int .u8 0] 25)) w1.heap.size _ (dgC x).toArray _ _ (heap_alloc_new w1 _)
  have hb2 := below_setRow ((Below.refl _ w1).alloc (Nat.le_refl _) (.cells #[.int .u8 0, .int .u8 0, .int .u8 0, .int .u8 0, .int .u8 0, .int .u8 0, .int .u8 0, .int .u8 0, .int .u8 0, .int .u8 0, .int .u8 0, .int .u8 0, .int .u8 0, .int .u8 0, .int .u8 0, .int .u8 0, .int .u8 0, .int .u8 0, .int .u8 0, .int .u8 0, .int .u8 0, .int .u8 0, .int .u8 0, .int .u8 0, .int .u8 0, .int .u8 0, .int .u8 0, .int .u8 0, .int .u8 0, .int .u8 0, .int .u8 0, .int .u8 0] 25)) (Nat.le_refl _) (dgC x).toArray
  rw [HW2.out] at hw2 hb2
  have HB1 := Lib.hid (HB0.out.trans (hq1.mono HB0.out.size))
  have HB2 := Lib.hid (HB1.out.trans (hb2.mono HB1.out.size))
  have HA2 := Lib.hid (row_kept (row_kept HR0.out hq1) hb2)
  have HC2 := Lib.hid (row_kept (row_kept HR1.out hq1) hb2)
  have HD2 := Lib.hid hw2
  have HO2 := Lib.hid ((HO1.out.below hq1).below hb2)
  have hT2 := Lib.hid ((hT1.out.below hq1).below hb2)
  clear hq1 hw2 hb2
  rw [dgV_agg x]
  go_wp2_with (first | (refine wpList_store_row rfl 25 (.tmp 4) (.tmp 11) rfl w1.heap.size (dgC x).toArray rfl rfl 25 _ (heap_alloc_new w1 _) HX1.out HX2.out (dgC_one _) ?_; rw [HW2.out]) | (refine wpList_load_row rfl 27 (.tmp 1) rfl w.heap.size rfl 27 _ (0, 0) _ HA2.out Tryd.underlying27 rfl HIT.out ?_))
  rw [show Value.agg (trC t p).toArray = trV t p from rfl]
  refine (lstK_any t p _ HO2 hT2).mono ?_
  rintro e w3 ⟨rfl, hq3⟩
  rw [HE.out, HY.out]
  obtain ⟨W4, HW4⟩ : ∃ W, Hid ((w3.alloc (.cells #[.int .u8 0, .int .u8 0, .int .u8 0, .int .u8 0, .int .u8 0, .int .u8 0, .int .u8 0, .int .u8 0, .int .u8 0, .int .u8 0, .int .u8 0, .int .u8 0, .int .u8 0, .int .u8 0, .int .u8 0, .int .u8 0, .int .u8 0, .int .u8 0, .int .u8 0, .int .u8 0, .int .u8 0, .int .u8 0, .int .u8 0, .int .u8 0, .int .u8 0, .int .u8 0, .int .u8 0, .int .u8 0, .int .u8 0, .int .u8 0, .int .u8 0, .int .u8 0] 25)).setRow w3.heap.size (dgC y).toArray = W) := ⟨_, Lib.hid rfl⟩
  have hw4 := setRow_heap (w3.alloc (.cells #[.int .u8 0, .int .u8 0, .int .u8 0, .int .u8 0, .int .u8 0, .int .u8 0, .int .u8 0, .int .u8 0, .int .u8 0, .int .u8 0, .int .u8 0, .int .u8 0, .int .u8 0, .int .u8 0, .int .u8 0, .int .u8 0, .int .u8 0, .int .u8 0, .int .u8 0, .int .u8 0, .int .u8 0, .int .u8 0, .int .u8 0, .int .u8 0, .int .u8 0, .int .u8 0, .int .u8 0, .int .u8 0, .int .u8 0, .int .u8 0, .int .u8 0, .int .u8 0] 25)) w3.heap.size _ (dgC y).toArray _ _ (heap_alloc_new w3 _)
  have hb4 := below_setRow ((Below.refl _ w3).alloc (Nat.le_refl _) (.cells #[.int .u8 0, .int .u8 0, .int .u8 0, .int .u8 0, .int .u8 0, .int .u8 0, .int .u8 0, .int .u8 0, .int .u8 0, .int .u8 0, .int .u8 0, .int .u8 0, .int .u8 0, .int .u8 0, .int .u8 0, .int .u8 0, .int .u8 0, .int .u8 0, .int .u8 0, .int .u8 0, .int .u8 0, .int .u8 0, .int .u8 0, .int .u8 0, .int .u8 0, .int .u8 0, .int .u8 0, .int .u8 0, .int .u8 0, .int .u8 0, .int .u8 0, .int .u8 0] 25)) (Nat.le_refl _) (dgC y).toArray
  rw [HW4.out] at hw4 hb4
  have HB3 := Lib.hid (HB2.out.trans (hq3.mono HB2.out.size))
  have HB4 := Lib.hid (HB3.out.trans (hb4.mono HB3.out.size))
  have HA4 := Lib.hid (row_kept (row_kept HA2.out hq3) hb4)
  have HC4 := Lib.hid (row_kept (row_kept HC2.out hq3) hb4)
  have HD4 := Lib.hid (row_kept (row_kept HD2.out hq3) hb4)
  have HE4 := Lib.hid hw4
  have kl : W4.cell? ⟨w.heap.size, 4, none⟩ = some (.slice p.A p.n p.c) := by rw [cell_of_row _ _ _ _ _ _ HA4.out]; rfl
  have kc : W4.cell? ⟨w.heap.size, 5, none⟩ = some (.slice p.A2 p.n2 p.c2) := by rw [cell_of_row _ _ _ _ _ _ HA4.out]; rfl
  clear hq3 hw4 hb4
  rw [dgV_agg y]
  go_wp2_with (first | (refine wpList_store_row rfl 25 (.tmp 6) (.tmp 16) rfl w3.heap.size (dgC y).toArray rfl rfl 25 _ (heap_alloc_new w3 _) HY1.out HY2.out (dgC_one _) ?_; rw [HW4.out]) | (refine wpList_load_row rfl 25 (.tmp 4) rfl w1.heap.size rfl 25 _ (0, 0) _ HD4.out Tryd.underlying25 rfl HX1.out ?_) | (refine wpList_load_row rfl 25 (.tmp 6) rfl w3.heap.size rfl 25 _ (0, 0) _ HE4.out Tryd.underlying25 rfl HY1.out ?_) | (refine wpList_build_rt rfl (.tmp 20) (.tmp 23) (.tmp 24) (.tmp 25) rfl (p.n : Nat) (p.n2 : Nat) x y HXO.out.len HYO.out.len rfl rfl rfl rfl ?_) | (refine wpList_store_row rfl 35 (.tmp 2) (.tmp 26) rfl (w.heap.size + 1) (rtC (rtOf (p.n : Nat) (p.n2 : Nat) x y)).toArray rfl rfl 35 _ HC4.out HN1.out HN2.out.symm (rtC_one _) ?_))
  have hr := setRow_heap W4 (w.heap.size + 1) _ (rtC (rtOf (p.n : Nat) (p.n2 : Nat) x y)).toArray _ _ HC4.out
  have hl := run_loadVar_row (P := Tryd.prog) (World.setRow W4 (w.heap.size + 1) (rtC (rtOf (p.n : Nat) (p.n2 : Nat) x y)).toArray) (w.heap.size + 1) 35 35 (rtC (rtOf (p.n : Nat) (p.n2 : Nat) x y)).toArray (0, 0) _ hr Tryd.underlying35 rfl HN1.out
  refine bodyPost_ret (v := .tuple #[.agg (rtC (rtOf (p.n : Nat) (p.n2 : Nat) x y)).toArray, .bool true]) ?_ rfl ⟨by rw [HX.out, HY.out], below_setRow HB4.out (by omega) _⟩
  simp [results, Tryd.results16, asAddr, hl]
set_option maxHeartbeats 8000000 in
theorem root42_no (t : Tr) (p : TrP) (w : World) (h : Hid (TrOk w t p)) (hT : Hid (Tabs w)) (HE : Hid (trE t = 420)) :
    Calls Tryd.prog 16 #[trV t p] w fun e w' => e = .returned (.tuple #[.agg (rtC (rtOf (p.n : Nat) (p.n2 : Nat) (lstL t) (lstK t))).toArray, .bool false]) ∧ Below w.heap.size w w' := by
  obtain ⟨x, HX⟩ : ∃ x, Hid (lstL t = x) := ⟨_, Lib.hid rfl⟩
  obtain ⟨y, HY⟩ : ∃ y, Hid (lstK t = y) := ⟨_, Lib.hid rfl⟩
  have HXO : Hid (DgOk x) := Lib.hid (by rw [← HX.out]; exact lstL_ok t)
  have HYO : Hid (DgOk y) := Lib.hid (by rw [← HY.out]; exact lstK_ok t)
  have HX1 := Lib.hid (dgC_info HXO.out)
  have HX2 := Lib.hid (dgC_size HXO.out)
  have HY1 := Lib.hid (dgC_info HYO.out)
  have HY2 := Lib.hid (dgC_size HYO.out)
  have zz : I64 ((0 : Nat) : Int) := by unfold I64; omega
  have hsz : (rtC (rtOf (p.n : Nat) (p.n2 : Nat) x y)).toArray.size = 138 := by simp [rtC, rtOf, ndC_length zeroN_ok, dgC_len32 HXO.out, dgC_len32 HYO.out, dgC_len32 zeroD_ok]
  have HN1 : Hid ((Tryd.prog.info? 35).map (·.size) = some (rtC (rtOf (p.n : Nat) (p.n2 : Nat) x y)).toArray.size) := Lib.hid (by rw [hsz]; show _ = some 138; kernel_rfl)
  have HN2 := Lib.hid hsz
  have HIT := Lib.hid (trV_info t p h.out.len)
  clear hsz zz
  have hb0 := ((Below.refl _ w).alloc (Nat.le_refl _) (.cells (trC t p).toArray 27)).alloc (by simp) (.cells #[.int .i64 0, .int .i64 0, .int .i64 0, .int .i64 0, .int .i64 0, .int .i64 0, .int .u8 0, .int .u8 0, .int .u8 0, .int .u8 0, .int .u8 0, .int .u8 0, .int .u8 0, .int .u8 0, .int .u8 0, .int .u8 0, .int .u8 0, .int .u8 0, .int .u8 0, .int .u8 0, .int .u8 0, .int .u8 0, .int .u8 0, .int .u8 0, .int .u8 0, .int .u8 0, .int .u8 0, .int .u8 0, .int .u8 0, .int .u8 0, .int .u8 0, .int .u8 0, .int .u8 0, .int .u8 0, .int .u8 0, .int .u8 0, .int .u8 0, .int .u8 0, .int .i64 0, .int .i64 0, .int .u8 0, .int .u8 0, .int .u8 0, .int .u8 0, .int .u8 0, .int .u8 0, .int .u8 0, .int .u8 0, .int .u8 0, .int .u8 0, .int .u8 0, .int .u8 0, .int .u8 0, .int .u8 0, .int .u8 0, .int .u8 0, .int .u8 0, .int .u8 0, .int .u8 0, .int .u8 0, .int .u8 0, .int .u8 0, .int .u8 0, .int .u8 0, .int .u8 0, .int .u8 0, .int .u8 0, .int .u8 0, .int .u8 0, .int .u8 0, .int .u8 0, .int .u8 0, .int .u8 0, .int .u8 0, .int .u8 0, .int .u8 0, .int .u8 0, .int .u8 0, .int .u8 0, .int .u8 0, .int .u8 0, .int .u8 0, .int .u8 0, .int .u8 0, .int .u8 0, .int .u8 0, .int .u8 0, .int .u8 0, .int .u8 0, .int .u8 0, .int .u8 0, .int .u8 0, .int .u8 0, .int .u8 0, .int .u8 0, .int .u8 0, .int .u8 0, .int .u8 0, .int .u8 0, .int .u8 0, .int .u8 0, .int .u8 0, .int .u8 0, .int .u8 0, .int .u8 0, .int .u8 0, .int .u8 0, .int .u8 0, .int .u8 0, .int .u8 0, .int .u8 0, .int .u8 0, .int .u8 0, .int .u8 0, .int .u8 0, .int .u8 0, .int .u8 0, .int .u8 0, .int .u8 0, .int .u8 0, .int .u8 0, .int .u8 0, .int .u8 0, .int .u8 0, .int .u8 0, .int .u8 0, .int .u8 0, .int .u8 0, .int .u8 0, .int .u8 0, .int .u8 0, .int .u8 0, .int .u8 0, .int .u8 0, .int .u8 0, .int .u8 0, .int .i64 0, .int .i64 0] 35)
  have hr0 := (Below.heap_alloc (w.alloc (.cells (trC t p).toArray 27)) (.cells #[.int .i64 0, .int .i64 0, .int .i64 0, .int .i64 0, .int .i64 0, .int .i64 0, .int .u8 0, .int .u8 0, .int .u8 0, .int .u8 0, .int .u8 0, .int .u8 0, .int .u8 0, .int .u8 0, .int .u8 0, .int .u8 0, .int .u8 0, .int .u8 0, .int .u8 0, .int .u8 0, .int .u8 0, .int .u8 0, .int .u8 0, .int .u8 0, .int .u8 0, .int .u8 0, .int .u8 0, .int .u8 0, .int .u8 0, .int .u8 0, .int .u8 0, .int .u8 0, .int .u8 0, .int .u8 0, .int .u8 0, .int .u8 0, .int .u8 0, .int .u8 0, .int .i64 0, .int .i64 0, .int .u8 0, .int .u8 0, .int .u8 0, .int .u8 0, .int .u8 0, .int .u8 0, .int .u8 0, .int .u8 0, .int .u8 0, .int .u8 0, .int .u8 0, .int .u8 0, .int .u8 0, .int .u8 0, .int .u8 0, .int .u8 0, .int .u8 0, .int .u8 0, .int .u8 0, .int .u8 0, .int .u8 0, .int .u8 0, .int .u8 0, .int .u8 0, .int .u8 0, .int .u8 0, .int .u8 0, .int .u8 0, .int .u8 0, .int .u8 0, .int .u8 0, .int .u8 0, .int .u8 0, .int .u8 0, .int .u8 0, .int .u8 0, .int .u8 0, .int .u8 0, .int .u8 0, .int .u8 0, .int .u8 0, .int .u8 0, .int .u8 0, .int .u8 0, .int .u8 0, .int .u8 0, .int .u8 0, .int .u8 0, .int .u8 0, .int .u8 0, .int .u8 0, .int .u8 0, .int .u8 0, .int .u8 0, .int .u8 0, .int .u8 0, .int .u8 0, .int .u8 0, .int .u8 0, .int .u8 0, .int .u8 0, .int .u8 0, .int .u8 0, .int .u8 0, .int .u8 0, .int .u8 0, .int .u8 0, .int .u8 0, .int .u8 0, .int .u8 0, .int .u8 0, .int .u8 0, .int .u8 0, .int .u8 0, .int .u8 0, .int .u8 0, .int .u8 0, .int .u8 0, .int .u8 0, .int .u8 0, .int .u8 0, .int .u8 0, .int .u8 0, .int .u8 0, .int .u8 0, .int .u8 0, .int .u8 0, .int .u8 0, .int .u8 0, .int .u8 0, .int .u8 0, .int .u8 0, .int .u8 0, .int .u8 0, .int .u8 0, .int .u8 0, .int .i64 0, .int .i64 0] 35) w.heap.size (by simp)).trans (heap_alloc_new w (.cells (trC t p).toArray 27))
  have hr1 := heap_alloc_new (w.alloc (.cells (trC t p).toArray 27)) (.cells #[.int .i64 0, .int .i64 0, .int .i64 0, .int .i64 0, .int .i64 0, .int .i64 0, .int .u8 0, .int .u8 0, .int .u8 0, .int .u8 0, .int .u8 0, .int .u8 0, .int .u8 0, .int .u8 0, .int .u8 0, .int .u8 0, .int .u8 0, .int .u8 0, .int .u8 0, .int .u8 0, .int .u8 0, .int .u8 0, .int .u8 0, .int .u8 0, .int .u8 0, .int .u8 0, .int .u8 0, .int .u8 0, .int .u8 0, .int .u8 0, .int .u8 0, .int .u8 0, .int .u8 0, .int .u8 0, .int .u8 0, .int .u8 0, .int .u8 0, .int .u8 0, .int .i64 0, .int .i64 0, .int .u8 0, .int .u8 0, .int .u8 0, .int .u8 0, .int .u8 0, .int .u8 0, .int .u8 0, .int .u8 0, .int .u8 0, .int .u8 0, .int .u8 0, .int .u8 0, .int .u8 0, .int .u8 0, .int .u8 0, .int .u8 0, .int .u8 0, .int .u8 0, .int .u8 0, .int .u8 0, .int .u8 0, .int .u8 0, .int .u8 0, .int .u8 0, .int .u8 0, .int .u8 0, .int .u8 0, .int .u8 0, .int .u8 0, .int .u8 0, .int .u8 0, .int .u8 0, .int .u8 0, .int .u8 0, .int .u8 0, .int .u8 0, .int .u8 0, .int .u8 0, .int .u8 0, .int .u8 0, .int .u8 0, .int .u8 0, .int .u8 0, .int .u8 0, .int .u8 0, .int .u8 0, .int .u8 0, .int .u8 0, .int .u8 0, .int .u8 0, .int .u8 0, .int .u8 0, .int .u8 0, .int .u8 0, .int .u8 0, .int .u8 0, .int .u8 0, .int .u8 0, .int .u8 0, .int .u8 0, .int .u8 0, .int .u8 0, .int .u8 0, .int .u8 0, .int .u8 0, .int .u8 0, .int .u8 0, .int .u8 0, .int .u8 0, .int .u8 0, .int .u8 0, .int .u8 0, .int .u8 0, .int .u8 0, .int .u8 0, .int .u8 0, .int .u8 0, .int .u8 0, .int .u8 0, .int .u8 0, .int .u8 0, .int .u8 0, .int .u8 0, .int .u8 0, .int .u8 0, .int .u8 0, .int .u8 0, .int .u8 0, .int .u8 0, .int .u8 0, .int .u8 0, .int .u8 0, .int .u8 0, .int .u8 0, .int .u8 0, .int .u8 0, .int .i64 0, .int .i64 0] 35)
  rw [World.size_alloc] at hr1
  have HO1 := Lib.hid (h.out.below hb0)
  have hT1 := Lib.hid (hT.out.below hb0)
  have HB0 := Lib.hid hb0
  have HR0 := Lib.hid hr0
  have HR1 := Lib.hid hr1
  clear hb0 hr0 hr1
  rw [show trV t p = .agg (trC t p).toArray from rfl]
  go_enter Tryd.func16, Tryd.ntmps16
  go_wp2_with (refine wpList_load_row rfl 27 (.tmp 1) rfl w.heap.size rfl 27 _ (0, 0) _ HR0.out Tryd.underlying27 rfl HIT.out ?_)
  rw [show Value.agg (trC t p).toArray = trV t p from rfl]
  refine (lstL_any t p _ HO1 hT1).mono ?_
  rintro e w1 ⟨rfl, hq1⟩
  rw [HE.out, HX.out]
  obtain ⟨W2, HW2⟩ : ∃ W, Hid ((w1.alloc (.cells #[.int .u8 0, .int .u8 0, .int .u8 0, .int .u8 0, .int .u8 0, .int .u8 0, .int .u8 0, .int .u8 0, .int .u8 0, .int .u8 0, .int .u8 0, .int .u8 0, .int .u8 0, .int .u8 0, .int .u8 0, .int .u8 0, .int .u8 0, .int .u8 0, .int .u8 0, .int .u8 0, .int .u8 0, .int .u8 0, .int .u8 0, .int .u8 0, .int .u8 0, .int .u8 0, .int .u8 0, .int .u8 0, .int .u8 0, .int .u8 0, .int .u8 0, .int .u8 0] 25)).setRow w1.heap.size (dgC x).toArray = W) := ⟨_, Lib.hid rfl⟩
  have hw2 := setRow_heap (w1.alloc (.cells #[.int .u8 0, .int .u8 0, .int .u8 0, .int .u8 0, .int .u8 0, .int .u8 0, .int .u8 0, .int .u8 0, .int .u8 0, .int .u8 0, .int .u8 0, .int .u8 0, .int .u8 0, .int .u8 0, .int .u8 0, .int .u8 0, .int .u8 0, .int .u8 0, .int .u8 0, .int .u8 0, .int .u8 0, .int .u8 0, .int .u8 0, .int .u8 0, .int .u8 0, .int .u8 0, .int .u8 0, .int .u8 0, .int .u8 0, .int .u8 0, .int .u8 0, .int .u8 0] 25)) w1.heap.size _ (dgC x).toArray _ _ (heap_alloc_new w1 _)
  have hb2 := below_setRow ((Below.refl _ w1).alloc (Nat.le_refl _) (.cells #[.int .u8 0, .int .u8 0, .int .u8 0, .int .u8 0, .int .u8 0, .int .u8 0, .int .u8 0, .int .u8 0, .int .u8 0, .int .u8 0, .int .u8 0, .int .u8 0, .int .u8 0, .int .u8 0, .int .u8 0, .int .u8 0, .int .u8 0, .int .u8 0, .int .u8 0, .int .u8 0, .int .u8 0, .int .u8 0, .int .u8 0, .int .u8 0, .int .u8 0, .int .u8 0, .int .u8 0, .int .u8 0, .int .u8 0, .int .u8 0, .int .u8 0, .int .u8 0] 25)) (Nat.le_refl _) (dgC x).toArray
  rw [HW2.out] at hw2 hb2
  have HB1 := Lib.hid (HB0.out.trans (hq1.mono HB0.out.size))
  have HB2 := Lib.hid (HB1.out.trans (hb2.mono HB1.out.size))
  have HA2 := Lib.hid (row_kept (row_kept HR0.out hq1) hb2)
  have HC2 := Lib.hid (row_kept (row_kept HR1.out hq1) hb2)
  have HD2 := Lib.hid hw2
  have HO2 := Lib.hid ((HO1.out.below hq1).below hb2)
  have hT2 := Lib.hid ((hT1.out.below hq1).below hb2)
  clear hq1 hw2 hb2
  rw [dgV_agg x]
  go_wp2_with (first | (refine wpList_store_row rfl 25 (.tmp 4) (.tmp 11) rfl w1.heap.size (dgC x).toArray rfl rfl 25 _ (heap_alloc_new w1 _) HX1.out HX2.out (dgC_one _) ?_; rw [HW2.out]) | (refine wpList_load_row rfl 27 (.tmp 1) rfl w.heap.size rfl 27 _ (0, 0) _ HA2.out Tryd.underlying27 rfl HIT.out ?_))
  rw [show Value.agg (trC t p).toArray = trV t p from rfl]
  refine (lstK_any t p _ HO2 hT2).mono ?_
  rintro e w3 ⟨rfl, hq3⟩
  rw [HE.out, HY.out]
  obtain ⟨W4, HW4⟩ : ∃ W, Hid ((w3.alloc (.cells #[.int .u8 0, .int .u8 0, .int .u8 0, .int .u8 0, .int .u8 0, .int .u8 0, .int .u8 0, .int .u8 0, .int .u8 0, .int .u8 0, .int .u8 0, .int .u8 0, .int .u8 0, .int .u8 0, .int .u8 0, .int .u8 0, .int .u8 0, .int .u8 0, .int .u8 0, .int .u8 0, .int .u8 0, .int .u8 0, .int .u8 0, .int .u8 0, .int .u8 0, .int .u8 0, .int .u8 0, .int .u8 0, .int .u8 0, .int .u8 0, .int .u8 0, .int .u8 0] 25)).setRow w3.heap.size (dgC y).toArray = W) := ⟨_, Lib.hid rfl⟩
  have hw4 := setRow_heap (w3.alloc (.cells #[.int .u8 0, .int .u8 0, .int .u8 0, .int .u8 0, .int .u8 0, .int .u8 0, .int .u8 0, .int .u8 0, .int .u8 0, .int .u8 0, .int .u8 0, .int .u8 0, .int .u8 0, .int .u8 0, .int .u8 0, .int .u8 0, .int .u8 0, .int .u8 0, .int .u8 0, .int .u8 0, .int .u8 0, .int .u8 0, .int .u8 0, .int .u8 0, .int .u8 0, .int .u8 0, .int .u8 0, .int .u8 0, .int .u8 0, .int .u8 0, .int .u8 0, .int .u8 0] 25)) w3.heap.size _ (dgC y).toArray _ _ (heap_alloc_new w3 _)
  have hb4 := below_setRow ((Below.refl _ w3).alloc (Nat.le_refl _) (.cells #[.int .u8 0, .int .u8 0, .int .u8 0, .int .u8 0, .int .u8 0, .int .u8 0, .int .u8 0, .int .u8 0, .int .u8 0, .int .u8 0, .int .u8 0, .int .u8 0, .int .u8 0, .int .u8 0, .int .u8 0, .int .u8 0, .int .u8 0, .int .u8 0, .int .u8 0, .int .u8 0, .int .u8 0, .int .u8 0, .int .u8 0, .int .u8 0, .int .u8 0, .int .u8 0, .int .u8 0, .int .u8 0, .int .u8 0, .int .u8 0, .int .u8 0, .int .u8 0] 25)) (Nat.le_refl _) (dgC y).toArray
  rw [HW4.out] at hw4 hb4
  have HB3 := Lib.hid (HB2.out.trans (hq3.mono HB2.out.size))
  have HB4 := Lib.hid (HB3.out.trans (hb4.mono HB3.out.size))
  have HA4 := Lib.hid (row_kept (row_kept HA2.out hq3) hb4)
  have HC4 := Lib.hid (row_kept (row_kept HC2.out hq3) hb4)
  have HD4 := Lib.hid (row_kept (row_kept HD2.out hq3) hb4)
  have HE4 := Lib.hid hw4
  have kl : W4.cell? ⟨w.heap.size, 4, none⟩ = some (.slice p.A p.n p.c) := by rw [cell_of_row _ _ _ _ _ _ HA4.out]; rfl
  have kc : W4.cell? ⟨w.heap.size, 5, none⟩ = some (.slice p.A2 p.n2 p.c2) := by rw [cell_of_row _ _ _ _ _ _ HA4.out]; rfl
  clear hq3 hw4 hb4
  rw [dgV_agg y]
  go_wp2_with (first | (refine wpList_store_row rfl 25 (.tmp 6) (.tmp 16) rfl w3.heap.size (dgC y).toArray rfl rfl 25 _ (heap_alloc_new w3 _) HY1.out HY2.out (dgC_one _) ?_; rw [HW4.out]) | (refine wpList_load_row rfl 25 (.tmp 4) rfl w1.heap.size rfl 25 _ (0, 0) _ HD4.out Tryd.underlying25 rfl HX1.out ?_) | (refine wpList_load_row rfl 25 (.tmp 6) rfl w3.heap.size rfl 25 _ (0, 0) _ HE4.out Tryd.underlying25 rfl HY1.out ?_) | (refine wpList_build_rt rfl (.tmp 20) (.tmp 23) (.tmp 24) (.tmp 25) rfl (p.n : Nat) (p.n2 : Nat) x y HXO.out.len HYO.out.len rfl rfl rfl rfl ?_) | (refine wpList_store_row rfl 35 (.tmp 2) (.tmp 26) rfl (w.heap.size + 1) (rtC (rtOf (p.n : Nat) (p.n2 : Nat) x y)).toArray rfl rfl 35 _ HC4.out HN1.out HN2.out.symm (rtC_one _) ?_))
  have hr := setRow_heap W4 (w.heap.size + 1) _ (rtC (rtOf (p.n : Nat) (p.n2 : Nat) x y)).toArray _ _ HC4.out
  have hl := run_loadVar_row (P := Tryd.prog) (World.setRow W4 (w.heap.size + 1) (rtC (rtOf (p.n : Nat) (p.n2 : Nat) x y)).toArray) (w.heap.size + 1) 35 35 (rtC (rtOf (p.n : Nat) (p.n2 : Nat) x y)).toArray (0, 0) _ hr Tryd.underlying35 rfl HN1.out
  refine bodyPost_ret (v := .tuple #[.agg (rtC (rtOf (p.n : Nat) (p.n2 : Nat) x y)).toArray, .bool false]) ?_ rfl ⟨by rw [HX.out, HY.out], below_setRow HB4.out (by omega) _⟩
  simp [results, Tryd.results16, asAddr, hl]
end Go.Proofs.YtmfmgeapecapiaaDoor
