/- Nodes laid in memory: struct literals and slice literals of nodes. -/
import Derived.Test.YtgcmbiegbclhmaaDoorTreeValid
import Derived.Great.BuildSlice
namespace Go.Proofs.YtgcmbiegbclhmaaDoor
open Go.RowKit SzSha SzTree
set_option linter.unusedVariables false
set_option maxRecDepth 100000
set_option maxHeartbeats 4000000 in
theorem built_node (d : List Nat) (h : d.length = 32) (c p : Int) : Tryd.prog.built 26 [(0, dgV d), (1, .int .i64 c), (2, .int .i64 p)] = some (ndC ⟨d, c, p⟩).toArray := by
  rcases d with _ | ⟨x0, d⟩
  · simp at h
  rcases d with _ | ⟨x1, d⟩
  · simp at h
  rcases d with _ | ⟨x2, d⟩
  · simp at h
  rcases d with _ | ⟨x3, d⟩
  · simp at h
  rcases d with _ | ⟨x4, d⟩
  · simp at h
  rcases d with _ | ⟨x5, d⟩
  · simp at h
  rcases d with _ | ⟨x6, d⟩
  · simp at h
  rcases d with _ | ⟨x7, d⟩
  · simp at h
  rcases d with _ | ⟨x8, d⟩
  · simp at h
  rcases d with _ | ⟨x9, d⟩
  · simp at h
  rcases d with _ | ⟨x10, d⟩
  · simp at h
  rcases d with _ | ⟨x11, d⟩
  · simp at h
  rcases d with _ | ⟨x12, d⟩
  · simp at h
  rcases d with _ | ⟨x13, d⟩
  · simp at h
  rcases d with _ | ⟨x14, d⟩
  · simp at h
  rcases d with _ | ⟨x15, d⟩
  · simp at h
  rcases d with _ | ⟨x16, d⟩
  · simp at h
  rcases d with _ | ⟨x17, d⟩
  · simp at h
  rcases d with _ | ⟨x18, d⟩
  · simp at h
  rcases d with _ | ⟨x19, d⟩
  · simp at h
  rcases d with _ | ⟨x20, d⟩
  · simp at h
  rcases d with _ | ⟨x21, d⟩
  · simp at h
  rcases d with _ | ⟨x22, d⟩
  · simp at h
  rcases d with _ | ⟨x23, d⟩
  · simp at h
  rcases d with _ | ⟨x24, d⟩
  · simp at h
  rcases d with _ | ⟨x25, d⟩
  · simp at h
  rcases d with _ | ⟨x26, d⟩
  · simp at h
  rcases d with _ | ⟨x27, d⟩
  · simp at h
  rcases d with _ | ⟨x28, d⟩
  · simp at h
  rcases d with _ | ⟨x29, d⟩
  · simp at h
  rcases d with _ | ⟨x30, d⟩
  · simp at h
  rcases d with _ | ⟨x31, d⟩
  · simp at h
  rcases d with _ | ⟨y, d⟩
  · clear h
    kernel_rfl
  · simp at h
theorem nd_cells (n : Nd) : (ndV n).cells = (ndC n).toArray := rfl
theorem wpList_build_nodes2 {w : World} {ops : Array Oper} {rest : List Oper} {o : Oper} {a : Act} {Q : Exit → Act → World → Prop} (hg : o.guard = none) (x y : Operand)
    (ho : o.op = .buildSlice 22 2 #[(0, x), (1, y)]) (n m : Nd) (hx : a.eval x = ndV n) (hy : a.eval y = ndV m) (hn : NdOk n) (hm : NdOk m)
    (h : wpList Tryd.prog ops Q rest (a.put o.dst (.slice (some ⟨w.heap.size, 0, none⟩) 2 2)) (w.alloc (.cells (flatN [n, m]).toArray 26))) : wpList Tryd.prog ops Q (o :: rest) a w := by
  obtain ⟨i0, hi, hz, hs⟩ : ∃ i, Tryd.prog.info? 26 = some i ∧ i.zero = some (.agg (Array.replicate 32 (.int .u8 0) ++ #[.int .i64 0, .int .i64 0])) ∧ i.size = 34 := by
    refine ⟨_, rfl, ?_, ?_⟩ <;> kernel_rfl
  refine wpList_buildSlice hg 22 26 2 _ ho _ i0 _ Tryd.underlying22 hi hz (by rw [hs]; omega) (by rw [hs]; omega) ?_ h
  rw [hs]
  have e1 : (#[(0, x), (1, y)].map fun (i, x) => (i, a.eval x)).toList = (([ndV n, ndV m] : List Value).zipIdx 0).map fun x => (x.2, x.1) := by simp [hx, hy]
  rw [e1, Great.fill_whole (by omega) [ndV n, ndV m] _ (fun v hv => by
    simp only [List.mem_cons, List.not_mem_nil, or_false] at hv
    rcases hv with rfl | rfl
    · rw [nd_cells]; simpa using ndC_length hn
    · rw [nd_cells]; simpa using ndC_length hm) (by simp)]
  rfl
end Go.Proofs.YtgcmbiegbclhmaaDoor
