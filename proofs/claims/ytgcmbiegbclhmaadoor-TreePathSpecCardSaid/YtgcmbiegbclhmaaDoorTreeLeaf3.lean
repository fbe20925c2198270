/- sizar/tree.Leaf, every line; slices of three nodes built. -/
import Derived.Test.YtgcmbiegbclhmaaDoorTreeLeaf2
import Derived.Test.YtgcmbiegbclhmaaDoorOpsIn
namespace Go.Proofs.YtgcmbiegbclhmaaDoor
open Go.RowKit SzSha SzTree
set_option linter.unusedVariables false
set_option maxRecDepth 100000
instance (c0 c1 c2 c3 c4 : Int) : Decidable (lOk c0 c1 c2 c3 c4) := by unfold lOk; infer_instance
/-- Leaf -/
def leafR (c0 c1 c2 c3 c4 : Int) (l : List Nat) : Nd := if lOk c0 c1 c2 c3 c4 then leafN c0 c1 c2 c3 c4 l else zeroN
def leafE (c0 c1 c2 c3 c4 : Int) : Int := if lOk c0 c1 c2 c3 c4 then 0 else 410
theorem leafN_ok {c0 c1 c2 c3 c4 : Int} (l : List Nat) (h : lOk c0 c1 c2 c3 c4) : NdOk (leafN c0 c1 c2 c3 c4 l) := by
  unfold lOk at h
  have hm := mul_leaf (a := c2) (b := c3) (by omega) (by omega) (by omega) (by omega)
  exact ⟨tagged_length _ _, tagged_bytes _ _, by simp only [leafN]; omega, by simp only [leafN]; omega⟩
theorem leafN_v {c0 c1 c2 c3 c4 : Int} (l : List Nat) (h : lOk c0 c1 c2 c3 c4) : vN (leafN c0 c1 c2 c3 c4 l) = true := by
  unfold lOk at h
  have hm := mul_leaf (a := c2) (b := c3) (by omega) (by omega) (by omega) (by omega)
  have hh : 0 ≤ (leafN c0 c1 c2 c3 c4 l).c ∧ (leafN c0 c1 c2 c3 c4 l).c ≤ 1073741824 ∧ 0 ≤ (leafN c0 c1 c2 c3 c4 l).p ∧ (leafN c0 c1 c2 c3 c4 l).p ≤ 12 * (leafN c0 c1 c2 c3 c4 l).c := by simp only [leafN]; omega
  simp only [vN, Bool.and_eq_true, decide_eq_true_eq]
  omega
theorem leafR_ok (c0 c1 c2 c3 c4 : Int) (l : List Nat) : NdOk (leafR c0 c1 c2 c3 c4 l) := by
  unfold leafR; split
  · exact leafN_ok l (by assumption)
  · exact zeroN_ok
theorem leaf_any (c0 c1 c2 c3 c4 : Int) (l : List Nat) (w : World) (hl : Hid (l.length = 32)) (hb : Hid (Bytes l)) (hT : Hid (Tabs w)) :
    Calls Tryd.prog 25 #[.agg #[.int .i64 c0, .int .i64 c1, .int .i64 c2, .int .i64 c3, .int .i64 c4], dgV l] w fun e w' => e = .returned (.tuple #[ndV (leafR c0 c1 c2 c3 c4 l), .int .i64 (leafE c0 c1 c2 c3 c4)]) ∧ Below w.heap.size w w' := by
  by_cases h : lOk c0 c1 c2 c3 c4
  · rw [leafR, leafE, if_pos h, if_pos h]
    exact leaf_yes c0 c1 c2 c3 c4 l w (by unfold lOk at h; exact h) hl hb hT
  · rw [leafR, leafE, if_neg h, if_neg h]
    exact leaf_no c0 c1 c2 c3 c4 l w h
theorem wpList_build_nodes3 {w : World} {ops : Array Oper} {rest : List Oper} {o : Oper} {a : Act} {Q : Exit → Act → World → Prop} (hg : o.guard = none) (x y z : Operand)
    (ho : o.op = .buildSlice 22 3 #[(0, x), (1, y), (2, z)]) (n m k : Nd) (hx : a.eval x = ndV n) (hy : a.eval y = ndV m) (hz : a.eval z = ndV k) (hn : NdOk n) (hm : NdOk m) (hk : NdOk k)
    (h : wpList Tryd.prog ops Q rest (a.put o.dst (.slice (some ⟨w.heap.size, 0, none⟩) 3 3)) (w.alloc (.cells (flatN [n, m, k]).toArray 26))) : wpList Tryd.prog ops Q (o :: rest) a w := by
  obtain ⟨i0, hi, hz0, hs, _⟩ := info_node
  refine wpList_buildSlice hg 22 26 3 _ ho _ i0 _ Tryd.underlying22 hi hz0 (by rw [hs]; omega) (by rw [hs]; omega) ?_ h
  rw [hs]
  have e1 : (#[(0, x), (1, y), (2, z)].map fun (i, x) => (i, a.eval x)).toList = (([ndV n, ndV m, ndV k] : List Value).zipIdx 0).map fun x => (x.2, x.1) := by simp [hx, hy, hz]
  rw [e1, Great.fill_whole (by omega) [ndV n, ndV m, ndV k] _ (fun v hv => by
    simp only [List.mem_cons, List.not_mem_nil, or_false] at hv
    rcases hv with rfl | rfl | rfl
    · rw [nd_cells]; simpa using ndC_length hn
    · rw [nd_cells]; simpa using ndC_length hm
    · rw [nd_cells]; simpa using ndC_length hk) (by simp)]
  rfl
/-- a slice literal as an argument -/
theorem inN_lit (w : World) (ls : List Nd) (ho : ∀ x ∈ ls, NdOk x) : InN (w.alloc (.cells (flatN ls).toArray 26)) (some ⟨w.heap.size, 0, none⟩) ls.length ls.length ls := by
  have hq := heap_alloc_new w (.cells (flatN ls).toArray 26)
  exact ⟨rfl, Nat.le_refl _, (fun h => by cases h), ho, fun _ => ⟨_, 0, rfl, (Array.getElem?_eq_some_iff.1 hq).1, range_row hq⟩⟩
end Go.Proofs.YtgcmbiegbclhmaaDoor
