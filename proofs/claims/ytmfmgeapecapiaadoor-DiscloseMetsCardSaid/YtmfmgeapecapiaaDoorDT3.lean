/- sizar/tree: valid, half. Nodes laid in memory: struct literals and slice literals of nodes. sizar/tree.Join. sizar/tree.Salt. sizar/tree.Leaf of a valid line. sizar/tree.Join of nodes that are not valid. sizar/tree.Leaf. sizar/tree.Root$1: the root of valid leaves. region_flow4: as region_flow3, and whoever is done, all that it waits for (phases and chains too) is done. -/
import Derived.Test.YtmfmgeapecapiaaDoorDT2
import Derived.Deep.MidRow
import Derived.IntWalk
import Derived.Great.BuildSlice
import Derived.Test.YtmfmgeapecapiaaDoorDT0
import Derived.Lib.AppendZeros
import Derived.Test.YtmfmgeapecapiaaDoorDT1
namespace Go.Proofs.YtmfmgeapecapiaaDoor
open Go.RowKit SzSha SzTree
set_option linter.unusedVariables false
set_option maxRecDepth 100000
/-- a node's cells -/
def ndC (n : Nd) : List Value := (n.d.map fun x => Value.int .u8 (x : Nat)) ++ [.int .i64 n.c, .int .i64 n.p]
def ndV (n : Nd) : Value := .agg (ndC n).toArray
/-- a node as it comes -/
structure NdOk (n : Nd) : Prop where
  len : n.d.length = 32
  bytes : Bytes n.d
  c : -9223372036854775808 ≤ n.c ∧ n.c ≤ 9223372036854775807
  p : -9223372036854775808 ≤ n.p ∧ n.p ≤ 9223372036854775807
theorem ndC_length {n : Nd} (h : NdOk n) : (ndC n).length = 34 := by simp [ndC, h.len]
theorem ndC_p {n : Nd} (h : NdOk n) : (ndC n)[33]? = some (.int .i64 n.p) := by
  unfold ndC; rw [List.getElem?_append_right (by simp [h.len])]; simp [h.len]
theorem ndC_one (n : Nd) : (ndC n).toArray.all (·.oneCell') = true := by
  rw [Array.all_eq_true_iff_forall_mem]
  intro v hv
  simp only [ndC, List.mem_toArray, List.mem_append, List.mem_map, List.mem_cons, List.not_mem_nil, or_false] at hv
  rcases hv with ⟨x, _, rfl⟩ | rfl | rfl <;> rfl
theorem size34 {n : Nd} (h : NdOk n) : (Tryd.prog.info? 31).map (·.size) = some (ndC n).length := by
  rw [ndC_length h]; show _ = _; kernel_rfl
def flatN (ls : List Nd) : List Value := ls.flatMap ndC
theorem flatN_get : ∀ (ls : List Nd), (∀ n ∈ ls, NdOk n) → ∀ (i : Nat) (hi : i < ls.length) (j : Nat) (v : Value), (ndC ls[i])[j]? = some v → (flatN ls)[i * 34 + j]? = some v
  | [], _, i, hi, _, _, _ => by simp at hi
  | n :: ls, ho, 0, _, j, v, h => by
    have hj : j < (ndC n).length := (List.getElem?_eq_some_iff.1 h).1
    show ((n :: ls).flatMap ndC)[0 * 34 + j]? = _
    rw [List.flatMap_cons, Nat.zero_mul, Nat.zero_add, List.getElem?_append_left hj]
    exact h
  | n :: ls, ho, i + 1, hi, j, v, h => by
    have ih := flatN_get ls (fun m hm => ho m (List.mem_cons_of_mem _ hm)) i (by simpa using hi) j v h
    have hl := ndC_length (ho n (by simp))
    show ((n :: ls).flatMap ndC)[(i + 1) * 34 + j]? = _
    rw [List.flatMap_cons, List.getElem?_append_right (by omega), hl, show (i + 1) * 34 + j - 34 = i * 34 + j by omega]
    exact ih
/-- a slice of nodes that came in -/
structure InN (w : World) (A : Option Addr) (n c : Nat) (ls : List Nd) : Prop where
  len : ls.length = n
  cap : n ≤ c
  none_ : A = none → c = 0
  ok : ∀ x ∈ ls, NdOk x
  rd : 0 < ls.length → ∃ g off, A = some ⟨g, off, none⟩ ∧ g < w.heap.size ∧ w.rangeAt g off (flatN ls)
theorem rangeAt_below {w w' : World} {g off : Nat} {cs : List Value} (h : w.rangeAt g off cs) (hg : g < w.heap.size) (hb : Below w.heap.size w w') : w'.rangeAt g off cs := fun j v hj => (hb.cell (p := ⟨g, _, none⟩) hg).trans (h j v hj)
theorem InN.below {w w' : World} {A : Option Addr} {n c : Nat} {ls : List Nd} (h : InN w A n c ls) (hb : Below w.heap.size w w') : InN w' A n c ls :=
  ⟨h.len, h.cap, h.none_, h.ok, fun h0 => by
    obtain ⟨g, off, e, hg, hr⟩ := h.rd h0
    exact ⟨g, off, e, Nat.lt_of_lt_of_le hg hb.size, rangeAt_below hr hg hb⟩⟩
theorem range_one {w : World} {g off : Nat} {ls : List Nd} (h : w.rangeAt g off (flatN ls)) (ho : ∀ n ∈ ls, NdOk n) (i : Nat) (hi : i < ls.length) : w.rangeAt g (off + i * 34) (ndC ls[i]) := fun j v hj => by
  have := h (i * 34 + j) v (flatN_get ls ho i hi j v hj)
  rwa [← Nat.add_assoc] at this
end Go.Proofs.YtmfmgeapecapiaaDoor
namespace Go.Proofs.YtmfmgeapecapiaaDoor
open Go.RowKit SzSha SzTree
set_option linter.unusedVariables false
set_option maxRecDepth 100000
set_option maxHeartbeats 4000000 in
theorem built_node (d : List Nat) (h : d.length = 32) (c p : Int) : Tryd.prog.built 31 [(0, dgV d), (1, .int .i64 c), (2, .int .i64 p)] = some (ndC ⟨d, c, p⟩).toArray := by
  rcases d with _ | ⟨x0, d⟩
  · simp at h
  rcases d with _ | ⟨x1, d⟩
  · simp at h
  rcases d with _ | ⟨x2, d⟩
  · simp at h
  rcases d with _ | ⟨x3, d⟩
  · simp at h
  rcases d with _ | ⟨x4, d⟩
  · simp at h
  rcases d with _ | ⟨x5, d⟩
  · simp at h
  rcases d with _ | ⟨x6, d⟩
  · simp at h
  rcases d with _ | ⟨x7, d⟩
  · simp at h
  rcases d with _ | ⟨x8, d⟩
  · simp at h
  rcases d with _ | ⟨x9, d⟩
  · simp at h
  rcases d with _ | ⟨x10, d⟩
  · simp at h
  rcases d with _ | ⟨x11, d⟩
  · simp at h
  rcases d with _ | ⟨x12, d⟩
  · simp at h
  rcases d with _ | ⟨x13, d⟩
  · simp at h
  rcases d with _ | ⟨x14, d⟩
  · simp at h
  rcases d with _ | ⟨x15, d⟩
  · simp at h
  rcases d with _ | ⟨x16, d⟩
  · simp at h
  rcases d with _ | ⟨x17, d⟩
  · simp at h
  rcases d with _ | ⟨x18, d⟩
  · simp at h
  rcases d with _ | ⟨x19, d⟩
  · simp at h
  rcases d with _ | ⟨x20, d⟩
  · simp at h
  rcases d with _ | ⟨x21, d⟩
  · simp at h
  rcases d with _ | ⟨x22, d⟩
  · simp at h
  rcases d with _ | ⟨x23, d⟩
  · simp at h
  rcases d with _ | ⟨x24, d⟩
  · simp at h
  rcases d with _ | ⟨x25, d⟩
  · simp at h
  rcases d with _ | ⟨x26, d⟩
  · simp at h
  rcases d with _ | ⟨x27, d⟩
  · simp at h
  rcases d with _ | ⟨x28, d⟩
  · simp at h
  rcases d with _ | ⟨x29, d⟩
  · simp at h
  rcases d with _ | ⟨x30, d⟩
  · simp at h
  rcases d with _ | ⟨x31, d⟩
  · simp at h
  rcases d with _ | ⟨y, d⟩
  · clear h
    kernel_rfl
  · simp at h
theorem nd_cells (n : Nd) : (ndV n).cells = (ndC n).toArray := rfl
end Go.Proofs.YtmfmgeapecapiaaDoor
namespace Go.Proofs.YtmfmgeapecapiaaDoor
open Go.RowKit SzSha SzTree
set_option linter.unusedVariables false
set_option maxRecDepth 100000
/-- append of bytes behind a slice without room -/
theorem wpList_append_full {w : World} {ops : Array Oper} {rest : List Oper} {o : Oper} {a : Act} {Q : Exit → Act → World → Prop} (hgd : o.guard = none) (s x : Operand)
    (ho : o.op = .call { callee := .builtin .append, args := #[s, x], argTypes := #[55, 55] })
    (g n gx m c : Nat) (l r : List Nat) (hs : a.eval s = .slice (some ⟨g, 0, none⟩) n n) (hx : a.eval x = .slice (some ⟨gx, 0, none⟩) m c) (hl : l.length = n) (hr : r.length = m)
    (hbl : Hid (BytesAt w g 0 l)) (hbr : Hid (BytesAt w gx 0 r)) (hm : 0 < m) (hlen : n + m ≤ 1000000)
    (h : ∀ v' w', Hid (OwnB w' w.heap.size v' (l ++ r)) → Hid (Below w.heap.size w w') → wpList Tryd.prog ops Q rest (a.put o.dst v') w') : wpList Tryd.prog ops Q (o :: rest) a w := by
  obtain ⟨i0, hi, hz0, hz1, hz2⟩ := info_parts info_u8
  have cells : ∀ (q : Nat) (z : List Nat), BytesAt w q 0 z → ∀ j v, (z.map fun x => Value.int .u8 (x : Nat))[j]? = some v → w.cell? ((⟨q, 0, none⟩ : Addr).add j) = some v := fun q z hz j v hv => by
    have hj : j < z.length := by have := (List.getElem?_eq_some_iff.1 hv).1; simpa using this
    have h1 := hz j hj
    rw [Nat.zero_add] at h1
    rw [add_row, Nat.zero_add, h1, ← hv, List.getElem?_map, List.getD_eq_getElem?_getD, List.getElem?_eq_getElem hj]; rfl
  have hrun := run_append_grow (P := Tryd.prog) w 55 o.type 5 i0 (.int .u8 0) Tryd.underlying55 hi hz0 ⟨g, 0, none⟩ n n (l.map fun x => Value.int .u8 (x : Nat)) (by rw [hz1]; simp [hl]) (cells g l hbl.out) ⟨gx, 0, none⟩ m c (r.map fun x => Value.int .u8 (x : Nat)) (by rw [hz1]; simp [hr]) (cells gx r hbr.out) (by omega) (by omega) (growslice_fits (by omega) (by rw [hz2]; omega))
  have hge := grownCap_ge w (n + m) n 5
  have hcm := grownCap_le_maxLen w (n + m) n 5 (by unfold maxLen; omega)
  refine Lib.wpList_append_run w hgd s x _ _ ho _ _ hs hx _ _ hrun ?_
  refine h _ _ (Lib.hid ⟨by simp, .inr ⟨w.heap.size, grownCap w (n + m) n 5, _, by rw [List.length_append, hl, hr], Nat.le_refl _, heap_alloc_new w.drew _, by rw [List.length_append, hl, hr]; exact hge, hcm, ?_, ?_⟩⟩) (Lib.hid ((Below.refl _ w).drew.alloc (Nat.le_refl _) _))
  · simp only [Array.size_append, List.size_toArray, List.length_map, size_zeroCells, hl, hr]
    simp [Value.cells]
    omega
  · rw [List.length_append, hl, hr, Nat.mul_one, List.map_append]
    simp only [Array.toList_append, List.append_assoc]
    rw [← List.append_assoc, List.take_left' (by simp [hl, hr])]
/-- a struct literal of a node -/
theorem wpList_build_node {w : World} {ops : Array Oper} {rest : List Oper} {o : Oper} {a : Act} {Q : Exit → Act → World → Prop} (hg : o.guard = none) (x y z : Operand)
    (ho : o.op = .build 31 #[(0, x), (1, y), (2, z)]) (d : List Nat) (c p : Int) (hd : d.length = 32) (hx : a.eval x = dgV d) (hy : a.eval y = .int .i64 c) (hz : a.eval z = .int .i64 p)
    (h : wpList Tryd.prog ops Q rest (a.put o.dst (ndV ⟨d, c, p⟩)) w) : wpList Tryd.prog ops Q (o :: rest) a w := by
  have e1 : (#[(0, x), (1, y), (2, z)].map fun (i, x) => (i, a.eval x)).toList = [(0, dgV d), (1, .int .i64 c), (2, .int .i64 p)] := by simp [hx, hy, hz]
  refine wpList_build hg 31 _ ho (by rw [e1, built_node d hd c p]; rfl) ?_
  rw [e1, built_node d hd c p]
  exact h
theorem range_row {w : World} {g t : Nat} {cs : List Value} (h : w.heap[g]? = some (.cells cs.toArray t (0, 0))) : w.rangeAt g 0 cs := fun j v hj => by
  rw [Nat.zero_add, cell_of_row w g j _ _ _ h]; simpa using hj
end Go.Proofs.YtmfmgeapecapiaaDoor
namespace Go.Proofs.YtmfmgeapecapiaaDoor
open Go.RowKit SzSha SzTree
set_option linter.unusedVariables false
set_option maxRecDepth 100000
def saltTag : ByteArray := ⟨#[115, 97, 108, 116]⟩
def saltT : List Nat := [115, 97, 108, 116]
theorem saltTag_eq : strL saltTag = saltT := rfl
/-- the salt of a leaf -/
def saltN (l : List Nat) (k at_ : Int) : List Nat := hashT saltT l [k, at_]
theorem saltN_length (l : List Nat) (k at_ : Int) : (saltN l k at_).length = 32 := tagged_length _ _
theorem salt_d (l : List Nat) (k z : Int) : dgV (hashT (strL saltTag) l [k, z]) = dgV (saltN l k z) := by rw [saltTag_eq]; simp only [saltN]
theorem two_rows2 (w : World) (X Y : Array Value) (t : Nat) (o : Obj) : Below w.heap.size w (((w.alloc (.cells X t)).alloc (.cells Y t)).alloc o) ∧ (((w.alloc (.cells X t)).alloc (.cells Y t)).alloc o).heap[w.heap.size]? = some (.cells X t (0, 0)) ∧ (((w.alloc (.cells X t)).alloc (.cells Y t)).alloc o).heap[w.heap.size + 1]? = some (.cells Y t (0, 0)) ∧ (((w.alloc (.cells X t)).alloc (.cells Y t)).alloc o).heap[w.heap.size + 1 + 1]? = some o ∧ (((w.alloc (.cells X t)).alloc (.cells Y t)).alloc o).heap.size = w.heap.size + 1 + 1 + 1 := by
  have h1 := heap_alloc_new (w.alloc (.cells X t)) (.cells Y t)
  have h2 := heap_alloc_new ((w.alloc (.cells X t)).alloc (.cells Y t)) o
  simp only [World.size_alloc] at h1 h2
  exact ⟨(((Below.refl _ w).alloc (Nat.le_refl _) _).alloc (by simp) _).alloc (by simp; omega) _, by rw [Below.heap_alloc _ _ _ (by simp; omega), Below.heap_alloc _ _ _ (by simp)]; exact heap_alloc_new w _, by rw [Below.heap_alloc _ _ _ (by simp)]; exact h1, h2, by simp⟩
set_option maxHeartbeats 4000000 in
theorem salt_any (l : List Nat) (k z : Int) (w : World) (hl : Hid (l.length = 32)) (hb : Hid (Bytes l)) (hk1 : -9223372036854775808 ≤ k) (hk2 : k ≤ 9223372036854775807) (hz1 : -9223372036854775808 ≤ z) (hz2 : z ≤ 9223372036854775807) (hT : Hid (Tabs w)) :
    Calls Tryd.prog 28 #[dgV l, .int .i64 k, .int .i64 z] w fun e w' => e = .returned (dgV (saltN l k z)) ∧ Below w.heap.size w w' := by
  have HZS : Hid (∀ y ∈ ([k, z] : List Int), -9223372036854775808 ≤ y ∧ y ≤ 9223372036854775807) := Lib.hid (fun y hy => by
    simp only [List.mem_cons, List.not_mem_nil, or_false] at hy
    rcases hy with rfl | rfl <;> omega)
  clear hk1 hk2 hz1 hz2
  obtain ⟨X, HX⟩ : ∃ X, Hid ((l.map fun x => Value.int .u8 (x : Nat)).toArray = X) := ⟨_, Lib.hid rfl⟩
  have e0 : dgV l = .agg X := by unfold dgV; rw [HX.out]
  rw [e0]
  clear e0
  obtain ⟨t1, t2, t3, t4, t5⟩ := two_rows2 w X #[.int .u8 0, .int .u8 0, .int .u8 0, .int .u8 0, .int .u8 0, .int .u8 0, .int .u8 0, .int .u8 0, .int .u8 0, .int .u8 0, .int .u8 0, .int .u8 0, .int .u8 0, .int .u8 0, .int .u8 0, .int .u8 0, .int .u8 0, .int .u8 0, .int .u8 0, .int .u8 0, .int .u8 0, .int .u8 0, .int .u8 0, .int .u8 0, .int .u8 0, .int .u8 0, .int .u8 0, .int .u8 0, .int .u8 0, .int .u8 0, .int .u8 0, .int .u8 0] 25 (.cells #[.int .i64 k, .int .i64 z] 3)
  have T1 := Lib.hid t1
  have T3 := Lib.hid t3
  have T4 := Lib.hid t4
  have T5 := Lib.hid t5
  have HIN : Hid (In (((w.alloc (.cells X 25)).alloc (.cells #[.int .u8 0, .int .u8 0, .int .u8 0, .int .u8 0, .int .u8 0, .int .u8 0, .int .u8 0, .int .u8 0, .int .u8 0, .int .u8 0, .int .u8 0, .int .u8 0, .int .u8 0, .int .u8 0, .int .u8 0, .int .u8 0, .int .u8 0, .int .u8 0, .int .u8 0, .int .u8 0, .int .u8 0, .int .u8 0, .int .u8 0, .int .u8 0, .int .u8 0, .int .u8 0, .int .u8 0, .int .u8 0, .int .u8 0, .int .u8 0, .int .u8 0, .int .u8 0] 25)).alloc (.cells #[.int .i64 k, .int .i64 z] 3)) (some ⟨w.heap.size, 0, none⟩) 32 32 l) := Lib.hid ⟨hl.out, Nat.le_refl _, (fun h => by cases h), hb.out, fun _ => ⟨_, 0, rfl, by rw [t5]; omega, bytesAt_arr (by rw [HX.out]; exact t2)⟩⟩
  clear t1 t2 t3 t4 t5
  go_enter Tryd.func28, Tryd.ntmps28
  go_wp2_with fail
  refine (thash_any saltTag [k, z] (w.heap.size + 1 + 1) 2 2 _ 32 32 l _ (by decide) HZS rfl (by omega) (Lib.hid (fun i hi => ?_)) (by rw [T5.out]; omega) (by omega) (Lib.hid (hT.out.below T1.out)) HIN).mono ?_
  · have : i = 0 ∨ i = 1 := by omega
    rcases this with rfl | rfl <;> (rw [cell_of_row _ _ _ _ _ _ T4.out]; rfl)
  rintro e w2 ⟨rfl, hq⟩
  rw [salt_d]
  have HB2 := Lib.hid (T1.out.trans (hq.mono T1.out.size))
  have HR2 := Lib.hid ((hq.block (w.heap.size + 1) (by rw [T5.out]; omega)).trans T3.out)
  obtain ⟨Y, HY⟩ : ∃ Y, Hid (((saltN l k z).map fun x => Value.int .u8 (x : Nat)).toArray = Y) := ⟨_, Lib.hid rfl⟩
  have HEX : Hid (dgV (saltN l k z) = .agg Y) := Lib.hid (by unfold dgV; rw [HY.out])
  have hYs : Hid (32 = Y.size) := Lib.hid (by rw [← HY.out]; simp [saltN_length])
  have hsz : Hid ((Tryd.prog.info? 25).map (·.size) = some Y.size) := Lib.hid (by rw [← HY.out]; exact size32 _ (saltN_length _ _ _))
  have hone : Hid (Y.all (·.oneCell') = true) := Lib.hid (by rw [← HY.out]; exact oneCells _)
  rw [HEX.out]
  clear hq
  go_wp2_with (refine wpList_store_row rfl 25 (.tmp 6) (.tmp 11) rfl (w.heap.size + 1) Y rfl rfl 25 _ HR2.out hsz.out hYs.out hone.out ?_)
  refine bodyPost_ret (results_cell_row rfl _ _ (w.heap.size + 1) 25 _ (0, 0) _ rfl (setRow_heap w2 (w.heap.size + 1) _ _ _ _ HR2.out) Tryd.underlying25 rfl hsz.out) rfl ?_
  exact ⟨by rw [HEX.out], below_setRow HB2.out (Nat.le_succ _) _⟩
end Go.Proofs.YtmfmgeapecapiaaDoor
namespace Go.Proofs.YtmfmgeapecapiaaDoor
open Go.RowKit SzSha SzTree
set_option linter.unusedVariables false
set_option maxRecDepth 100000
def lineTag : ByteArray := ⟨#[108, 105, 110, 101]⟩
def lineT : List Nat := [108, 105, 110, 101]
theorem lineTag_eq : strL lineTag = lineT := rfl
/-- the leaf of a line -/
def leafN (c0 c1 c2 c3 c4 : Int) (l : List Nat) : Nd := ⟨hashT lineT l [c0, c1, c2, c3, c4], c3, c2 * c3⟩
theorem leaf_d (c0 c1 c2 c3 c4 : Int) (l : List Nat) : dgV (hashT (strL lineTag) l [c0, c1, c2, c3, c4]) = dgV (leafN c0 c1 c2 c3 c4 l).d := by rw [lineTag_eq]; simp only [leafN]
theorem five_cells {w : World} {g t : Nat} {a b c d e : Int} (h : w.heap[g]? = some (.cells #[.int .i64 a, .int .i64 b, .int .i64 c, .int .i64 d, .int .i64 e] t (0, 0))) (i : Nat) (hi : i < 5) : w.cell? ⟨g, i, none⟩ = some (.int .i64 (([a, b, c, d, e] : List Int).getD i 0)) := by
  have : i = 0 ∨ i = 1 ∨ i = 2 ∨ i = 3 ∨ i = 4 := by omega
  rcases this with rfl | rfl | rfl | rfl | rfl <;> (rw [cell_of_row _ _ _ _ _ _ h]; rfl)
theorem mul_leaf {a b : Int} (h1 : 0 ≤ a) (h2 : a ≤ 12) (h3 : 0 ≤ b) (h4 : b ≤ 60) : 0 ≤ a * b ∧ a * b ≤ 12 * b := ⟨Int.mul_nonneg h1 h3, Int.mul_le_mul_of_nonneg_right h2 h3⟩
theorem three_rows3 (w : World) (X Y Z : Array Value) (t u v : Nat) : Below w.heap.size w (((w.alloc (.cells X t)).alloc (.cells Y u)).alloc (.cells Z v)) ∧ (((w.alloc (.cells X t)).alloc (.cells Y u)).alloc (.cells Z v)).heap[w.heap.size]? = some (.cells X t (0, 0)) ∧ (((w.alloc (.cells X t)).alloc (.cells Y u)).alloc (.cells Z v)).heap[w.heap.size + 1]? = some (.cells Y u (0, 0)) ∧ (((w.alloc (.cells X t)).alloc (.cells Y u)).alloc (.cells Z v)).heap[w.heap.size + 1 + 1]? = some (.cells Z v (0, 0)) := by
  have h1 := heap_alloc_new (w.alloc (.cells X t)) (.cells Y u)
  have h2 := heap_alloc_new ((w.alloc (.cells X t)).alloc (.cells Y u)) (.cells Z v)
  simp only [World.size_alloc] at h1 h2
  exact ⟨(((Below.refl _ w).alloc (Nat.le_refl _) _).alloc (by simp) _).alloc (by simp; omega) _, by rw [Below.heap_alloc _ _ _ (by simp; omega), Below.heap_alloc _ _ _ (by simp)]; exact heap_alloc_new w _, by rw [Below.heap_alloc _ _ _ (by simp)]; exact h1, h2⟩

def wF (W0 : World) (ba : Nat) (bs : Nat) (br : Nat) (c0 : Int) (c1 : Int) (c2 : Int) (c3 : Int) (c4 : Int) (l : List Nat) : Nat → Value → World → Prop
  | 0, fv, _ => fv = Value.slice (some ⟨bs, 0, none⟩) 32 32
  | 1, fv, _ => fv = Value.pointer (some ⟨ba, 0, none⟩)
  | 2, fv, _ => fv = Value.int .i64 (c0)
  | 3, fv, _ => fv = Value.pointer (some ⟨ba, 1, none⟩)
  | 4, fv, _ => fv = Value.int .i64 (c1)
  | 5, fv, _ => fv = Value.pointer (some ⟨ba, 2, none⟩)
  | 6, fv, _ => fv = Value.int .i64 (c2)
  | 7, fv, _ => fv = Value.pointer (some ⟨ba, 3, none⟩)
  | 8, fv, _ => fv = Value.int .i64 (c3)
  | 9, fv, _ => fv = Value.pointer (some ⟨ba, 4, none⟩)
  | 10, fv, _ => fv = Value.int .i64 (c4)
  | 11, fv, fw => ∃ g, fv = .slice (some ⟨g, 0, none⟩) 5 5 ∧ g < fw.heap.size ∧ ∀ i, i < 5 → fw.cell? ⟨g, i, none⟩ = some (.int .i64 (([c0, c1, c2, c3, c4] : List Int).getD i 0))
  | 12, fv, _ => fv = dgV (leafN c0 c1 c2 c3 c4 l).d
  | 13, fv, _ => fv = Value.pointer (some ⟨ba, 3, none⟩)
  | 14, fv, _ => fv = Value.int .i64 (c3)
  | 15, fv, _ => fv = Value.pointer (some ⟨ba, 2, none⟩)
  | 16, fv, _ => fv = Value.int .i64 (c2)
  | 17, fv, _ => fv = Value.pointer (some ⟨ba, 3, none⟩)
  | 18, fv, _ => fv = Value.int .i64 (c3)
  | 19, fv, _ => fv = Value.int .i64 (c2 * c3)
  | 20, fv, _ => fv = ndV (leafN c0 c1 c2 c3 c4 l)
  | 21, fv, fw => fw.heap[br]? = some (.cells (ndC (leafN c0 c1 c2 c3 c4 l)).toArray 31 (0, 0)) ∧ Below W0.heap.size W0 fw
  | 22, fv, _ => fv = Value.int .i64 (0)
  | _, _, _ => True
theorem wF_below {W0 : World} {ba : Nat} {bs : Nat} {br : Nat} {c0 : Int} {c1 : Int} {c2 : Int} {c3 : Int} {c4 : Int} {l : List Nat} {w w' : World} (hb : Below w.heap.size w w') : ∀ j v, wF W0 ba bs br c0 c1 c2 c3 c4 l j v w → wF W0 ba bs br c0 c1 c2 c3 c4 l j v w'
  | 0, v, h => h
  | 1, v, h => h
  | 2, v, h => h
  | 3, v, h => h
  | 4, v, h => h
  | 5, v, h => h
  | 6, v, h => h
  | 7, v, h => h
  | 8, v, h => h
  | 9, v, h => h
  | 10, v, h => h
  | 11, v, ⟨g, h1, h2, h3⟩ => ⟨g, h1, Nat.lt_of_lt_of_le h2 hb.size, fun i hi => (hb.cell (p := ⟨g, i, none⟩) h2).trans (h3 i hi)⟩
  | 12, v, h => h
  | 13, v, h => h
  | 14, v, h => h
  | 15, v, h => h
  | 16, v, h => h
  | 17, v, h => h
  | 18, v, h => h
  | 19, v, h => h
  | 20, v, h => h
  | 21, v, h => ⟨(hb.block br (Array.getElem?_eq_some_iff.1 h.1).1).trans h.1, h.2.trans (hb.mono h.2.size)⟩
  | 22, v, h => h
  | n + 23, v, h => trivial
theorem wF_pure {W0 : World} {ba : Nat} {bs : Nat} {br : Nat} {c0 : Int} {c1 : Int} {c2 : Int} {c3 : Int} {c4 : Int} {l : List Nat} {w w' : World} : ∀ j v, j ≠ 11 → j ≠ 21 → wF W0 ba bs br c0 c1 c2 c3 c4 l j v w → wF W0 ba bs br c0 c1 c2 c3 c4 l j v w'
  | 0, v, _, _, h => h
  | 1, v, _, _, h => h
  | 2, v, _, _, h => h
  | 3, v, _, _, h => h
  | 4, v, _, _, h => h
  | 5, v, _, _, h => h
  | 6, v, _, _, h => h
  | 7, v, _, _, h => h
  | 8, v, _, _, h => h
  | 9, v, _, _, h => h
  | 10, v, _, _, h => h
  | 11, v, hh, _, _ => absurd rfl hh
  | 12, v, _, _, h => h
  | 13, v, _, _, h => h
  | 14, v, _, _, h => h
  | 15, v, _, _, h => h
  | 16, v, _, _, h => h
  | 17, v, _, _, h => h
  | 18, v, _, _, h => h
  | 19, v, _, _, h => h
  | 20, v, _, _, h => h
  | 21, v, _, hh, _ => absurd rfl hh
  | 22, v, _, _, h => h
  | n + 23, v, _, _, h => trivial

set_option maxHeartbeats 4000000 in
theorem leaf_yes (c0 c1 c2 c3 c4 : Int) (l : List Nat) (w : World) (hv : 0 ≤ c0 ∧ c0 < 4096 ∧ 0 ≤ c1 ∧ c1 < 1024 ∧ 0 ≤ c2 ∧ c2 ≤ 12 ∧ 0 ≤ c3 ∧ c3 ≤ 60 ∧ 0 ≤ c4 ∧ c4 < 7) (hl : Hid (l.length = 32)) (hb : Hid (Bytes l)) (hT : Hid (Tabs w)) :
    Calls Tryd.prog 27 #[.agg #[.int .i64 c0, .int .i64 c1, .int .i64 c2, .int .i64 c3, .int .i64 c4], dgV l] w fun e w' => e = .returned (.tuple #[ndV (leafN c0 c1 c2 c3 c4 l), .int .i64 0]) ∧ Below w.heap.size w w' := by
  have hm := mul_leaf (a := c2) (b := c3) (by omega) (by omega) (by omega) (by omega)
  have HJ : Hid (NdOk (leafN c0 c1 c2 c3 c4 l)) := Lib.hid ⟨tagged_length _ _, tagged_bytes _ _, by simp only [leafN]; omega, by simp only [leafN]; omega⟩
  have HW1 : Hid (IntKind.i64.wrap (c2 * c3) = c2 * c3) := Lib.hid (IntWalk.i64_in _ (by omega))
  have HZS : Hid (∀ z ∈ ([c0, c1, c2, c3, c4] : List Int), -9223372036854775808 ≤ z ∧ z ≤ 9223372036854775807) := Lib.hid (fun z hz => by
    simp only [List.mem_cons, List.not_mem_nil, or_false] at hz
    rcases hz with rfl | rfl | rfl | rfl | rfl <;> omega)
  have HS1 : Hid ((Tryd.prog.info? 31).map (·.size) = some (ndC (leafN c0 c1 c2 c3 c4 l)).toArray.size) := Lib.hid (by rw [size34 HJ.out]; simp)
  have HS2 : Hid (34 = (ndC (leafN c0 c1 c2 c3 c4 l)).toArray.size) := Lib.hid (by simp [ndC_length HJ.out])
  have d0 : decide (c0 < 0) = false := decide_eq_false (by omega)
  have d1 : decide (4096 ≤ c0) = false := decide_eq_false (by omega)
  have d2 : decide (c1 < 0) = false := decide_eq_false (by omega)
  have d3 : decide (1024 ≤ c1) = false := decide_eq_false (by omega)
  have d4 : decide (c2 < 0) = false := decide_eq_false (by omega)
  have d5 : decide (12 < c2) = false := decide_eq_false (by omega)
  have d6 : decide (c3 < 0) = false := decide_eq_false (by omega)
  have d7 : decide (60 < c3) = false := decide_eq_false (by omega)
  have d8 : decide (c4 < 0) = false := decide_eq_false (by omega)
  have d9 : decide (7 ≤ c4) = false := decide_eq_false (by omega)
  clear hv hm
  obtain ⟨X, HX⟩ : ∃ X, Hid ((l.map fun x => Value.int .u8 (x : Nat)).toArray = X) := ⟨_, Lib.hid rfl⟩
  have e0 : dgV l = .agg X := by unfold dgV; rw [HX.out]
  rw [e0]
  clear e0
  obtain ⟨t1, t2, t3, t4⟩ := three_rows3 w #[.int .i64 c0, .int .i64 c1, .int .i64 c2, .int .i64 c3, .int .i64 c4] X #[.int .u8 0, .int .u8 0, .int .u8 0, .int .u8 0, .int .u8 0, .int .u8 0, .int .u8 0, .int .u8 0, .int .u8 0, .int .u8 0, .int .u8 0, .int .u8 0, .int .u8 0, .int .u8 0, .int .u8 0, .int .u8 0, .int .u8 0, .int .u8 0, .int .u8 0, .int .u8 0, .int .u8 0, .int .u8 0, .int .u8 0, .int .u8 0, .int .u8 0, .int .u8 0, .int .u8 0, .int .u8 0, .int .u8 0, .int .u8 0, .int .u8 0, .int .u8 0, .int .i64 0, .int .i64 0] 41 25 31
  have HB1 := Lib.hid t1
  have HRL := Lib.hid t2
  have HRS := Lib.hid t3
  have HRR := Lib.hid t4
  have hT1 := Lib.hid (hT.out.below HB1.out)
  have k0 := five_cells t2 0 (by omega)
  have k1 := five_cells t2 1 (by omega)
  have k2 := five_cells t2 2 (by omega)
  have k3 := five_cells t2 3 (by omega)
  have k4 := five_cells t2 4 (by omega)
  clear t1 t2 t3 t4
  go_enter Tryd.func27, Tryd.ntmps27
  go_wp2_with fail
  clear k0 k1 k2 k3 k4
  generalize (((w.alloc (.cells #[.int .i64 c0, .int .i64 c1, .int .i64 c2, .int .i64 c3, .int .i64 c4] 41)).alloc (.cells X 25)).alloc (.cells #[.int .u8 0, .int .u8 0, .int .u8 0, .int .u8 0, .int .u8 0, .int .u8 0, .int .u8 0, .int .u8 0, .int .u8 0, .int .u8 0, .int .u8 0, .int .u8 0, .int .u8 0, .int .u8 0, .int .u8 0, .int .u8 0, .int .u8 0, .int .u8 0, .int .u8 0, .int .u8 0, .int .u8 0, .int .u8 0, .int .u8 0, .int .u8 0, .int .u8 0, .int .u8 0, .int .u8 0, .int .u8 0, .int .u8 0, .int .u8 0, .int .u8 0, .int .u8 0, .int .i64 0, .int .i64 0] 31)) = W1 at *

  refine region_flow3 (by kernel_rfl) (by kernel_rfl) (fun i => Nat.beq i 21 || Nat.beq i 22) (fun i => i) (by kernel_rfl) (fun fx => #[Value.agg #[Value.int IntKind.i64 c0, Value.int IntKind.i64 c1, Value.int IntKind.i64 c2, Value.int IntKind.i64 c3, Value.int IntKind.i64 c4], Value.agg X, Value.pointer (some { block := w.heap.size, off := 0 }), Value.pointer (some { block := w.heap.size + 1, off := 0 }), Value.pointer (some { block := w.heap.size + 1 + 1, off := 0 }), fx 22, Value.pointer (some { block := w.heap.size, off := 0 }), Value.int IntKind.i64 c0, Value.bool false, Value.bool false, Value.pointer (some { block := w.heap.size, off := 0 }), Value.int IntKind.i64 c0, Value.bool false, Value.bool false, Value.bool false, Value.pointer (some { block := w.heap.size, off := 1 }), Value.int IntKind.i64 c1, Value.bool false, Value.bool false, Value.bool false, Value.pointer (some { block := w.heap.size, off := 1 }), Value.int IntKind.i64 c1, Value.bool false, Value.bool false, Value.bool false, Value.pointer (some { block := w.heap.size, off := 2 }), Value.int IntKind.i64 c2, Value.bool false, Value.bool false, Value.bool false, Value.pointer (some { block := w.heap.size, off := 2 }), Value.int IntKind.i64 c2, Value.bool false, Value.bool false, Value.bool false, Value.pointer (some { block := w.heap.size, off := 3 }), Value.int IntKind.i64 c3, Value.bool false, Value.bool false, Value.bool false, Value.pointer (some { block := w.heap.size, off := 3 }), Value.int IntKind.i64 c3, Value.bool false, Value.bool false, Value.bool false, Value.pointer (some { block := w.heap.size, off := 4 }), Value.int IntKind.i64 c4, Value.bool false, Value.bool false, Value.bool false, Value.pointer (some { block := w.heap.size, off := 4 }), Value.int IntKind.i64 c4, Value.bool false, Value.bool false, undef, fx 0, fx 1, fx 2, fx 3, fx 4, fx 5, fx 6, fx 7, fx 8, fx 9, fx 10, fx 11, fx 12, fx 13, fx 14, fx 15, fx 16, fx 17, fx 18, fx 19, fx 20]) (fun i => bif Nat.beq i 22 then Value.int IntKind.i64 0 else undef) (fun L fx w' => (L 21 = false → Below W1.heap.size W1 w')) (fun fi fv _ fw => wF w w.heap.size (w.heap.size + 1) (w.heap.size + 1 + 1) c0 c1 c2 c3 c4 l fi fv fw) (fun _ => (Below.refl _ _).drew) ?_ ?_
  · refine ⟨?_, ?_, ?_, ?_, ?_, ?_, ?_, ?_, ?_, ?_, ?_, ?_, ?_, ?_, ?_, ?_, ?_, ?_, ?_, ?_, ?_, ?_, ?_, trivial⟩
    all_goals intro L fx w' hC hi hcl hdn hd
    · have hnd : L 21 = false := Bool.eq_false_iff.2 (fun h => by have := (hcl 12 0 (hcl 20 12 (hcl 21 20 h (by kernel_rfl)) (by kernel_rfl)) (by kernel_rfl)); rw [hi] at this; cases this)
      go_wp2_with fail
      exact ⟨_, rfl, (fun _ => hC hnd), rfl, fun _ _ _ _ _ h => h⟩
    · have hnd : L 21 = false := Bool.eq_false_iff.2 (fun h => by have := (hcl 2 1 (hcl 11 2 (hcl 12 11 (hcl 20 12 (hcl 21 20 h (by kernel_rfl)) (by kernel_rfl)) (by kernel_rfl)) (by kernel_rfl)) (by kernel_rfl)); rw [hi] at this; cases this)
      go_wp2_with fail
      exact ⟨_, rfl, (fun _ => hC hnd), rfl, fun _ _ _ _ _ h => h⟩
    · have h1 : fx 1 = Value.pointer (some ⟨w.heap.size, 0, none⟩) := hd.1 rfl
      have hnd : L 21 = false := Bool.eq_false_iff.2 (fun h => by have := (hcl 11 2 (hcl 12 11 (hcl 20 12 (hcl 21 20 h (by kernel_rfl)) (by kernel_rfl)) (by kernel_rfl)) (by kernel_rfl)); rw [hi] at this; cases this)
      have hc : w'.cell? ⟨w.heap.size, 0, none⟩ = some (.int .i64 c0) := five_cells (((hC hnd).block _ (Array.getElem?_eq_some_iff.1 HRL.out).1).trans HRL.out) 0 (by omega)
      go_wp2_with fail
      exact ⟨_, by rw [← h1]; rfl, (fun _ => hC hnd), rfl, fun _ _ _ _ _ h => h⟩
    · have hnd : L 21 = false := Bool.eq_false_iff.2 (fun h => by have := (hcl 4 3 (hcl 11 4 (hcl 12 11 (hcl 20 12 (hcl 21 20 h (by kernel_rfl)) (by kernel_rfl)) (by kernel_rfl)) (by kernel_rfl)) (by kernel_rfl)); rw [hi] at this; cases this)
      go_wp2_with fail
      exact ⟨_, rfl, (fun _ => hC hnd), rfl, fun _ _ _ _ _ h => h⟩
    · have h3 : fx 3 = Value.pointer (some ⟨w.heap.size, 1, none⟩) := hd.1 rfl
      have hnd : L 21 = false := Bool.eq_false_iff.2 (fun h => by have := (hcl 11 4 (hcl 12 11 (hcl 20 12 (hcl 21 20 h (by kernel_rfl)) (by kernel_rfl)) (by kernel_rfl)) (by kernel_rfl)); rw [hi] at this; cases this)
      have hc : w'.cell? ⟨w.heap.size, 1, none⟩ = some (.int .i64 c1) := five_cells (((hC hnd).block _ (Array.getElem?_eq_some_iff.1 HRL.out).1).trans HRL.out) 1 (by omega)
      go_wp2_with fail
      exact ⟨_, by rw [← h3]; rfl, (fun _ => hC hnd), rfl, fun _ _ _ _ _ h => h⟩
    · have hnd : L 21 = false := Bool.eq_false_iff.2 (fun h => by have := (hcl 6 5 (hcl 11 6 (hcl 12 11 (hcl 20 12 (hcl 21 20 h (by kernel_rfl)) (by kernel_rfl)) (by kernel_rfl)) (by kernel_rfl)) (by kernel_rfl)); rw [hi] at this; cases this)
      go_wp2_with fail
      exact ⟨_, rfl, (fun _ => hC hnd), rfl, fun _ _ _ _ _ h => h⟩
    · have h5 : fx 5 = Value.pointer (some ⟨w.heap.size, 2, none⟩) := hd.1 rfl
      have hnd : L 21 = false := Bool.eq_false_iff.2 (fun h => by have := (hcl 11 6 (hcl 12 11 (hcl 20 12 (hcl 21 20 h (by kernel_rfl)) (by kernel_rfl)) (by kernel_rfl)) (by kernel_rfl)); rw [hi] at this; cases this)
      have hc : w'.cell? ⟨w.heap.size, 2, none⟩ = some (.int .i64 c2) := five_cells (((hC hnd).block _ (Array.getElem?_eq_some_iff.1 HRL.out).1).trans HRL.out) 2 (by omega)
      go_wp2_with fail
      exact ⟨_, by rw [← h5]; rfl, (fun _ => hC hnd), rfl, fun _ _ _ _ _ h => h⟩
    · have hnd : L 21 = false := Bool.eq_false_iff.2 (fun h => by have := (hcl 8 7 (hcl 11 8 (hcl 12 11 (hcl 20 12 (hcl 21 20 h (by kernel_rfl)) (by kernel_rfl)) (by kernel_rfl)) (by kernel_rfl)) (by kernel_rfl)); rw [hi] at this; cases this)
      go_wp2_with fail
      exact ⟨_, rfl, (fun _ => hC hnd), rfl, fun _ _ _ _ _ h => h⟩
    · have h7 : fx 7 = Value.pointer (some ⟨w.heap.size, 3, none⟩) := hd.1 rfl
      have hnd : L 21 = false := Bool.eq_false_iff.2 (fun h => by have := (hcl 11 8 (hcl 12 11 (hcl 20 12 (hcl 21 20 h (by kernel_rfl)) (by kernel_rfl)) (by kernel_rfl)) (by kernel_rfl)); rw [hi] at this; cases this)
      have hc : w'.cell? ⟨w.heap.size, 3, none⟩ = some (.int .i64 c3) := five_cells (((hC hnd).block _ (Array.getElem?_eq_some_iff.1 HRL.out).1).trans HRL.out) 3 (by omega)
      go_wp2_with fail
      exact ⟨_, by rw [← h7]; rfl, (fun _ => hC hnd), rfl, fun _ _ _ _ _ h => h⟩
    · have hnd : L 21 = false := Bool.eq_false_iff.2 (fun h => by have := (hcl 10 9 (hcl 11 10 (hcl 12 11 (hcl 20 12 (hcl 21 20 h (by kernel_rfl)) (by kernel_rfl)) (by kernel_rfl)) (by kernel_rfl)) (by kernel_rfl)); rw [hi] at this; cases this)
      go_wp2_with fail
      exact ⟨_, rfl, (fun _ => hC hnd), rfl, fun _ _ _ _ _ h => h⟩
    · have h9 : fx 9 = Value.pointer (some ⟨w.heap.size, 4, none⟩) := hd.1 rfl
      have hnd : L 21 = false := Bool.eq_false_iff.2 (fun h => by have := (hcl 11 10 (hcl 12 11 (hcl 20 12 (hcl 21 20 h (by kernel_rfl)) (by kernel_rfl)) (by kernel_rfl)) (by kernel_rfl)); rw [hi] at this; cases this)
      have hc : w'.cell? ⟨w.heap.size, 4, none⟩ = some (.int .i64 c4) := five_cells (((hC hnd).block _ (Array.getElem?_eq_some_iff.1 HRL.out).1).trans HRL.out) 4 (by omega)
      go_wp2_with fail
      exact ⟨_, by rw [← h9]; rfl, (fun _ => hC hnd), rfl, fun _ _ _ _ _ h => h⟩
    · have h2 : fx 2 = Value.int .i64 (c0) := hd.1 rfl
      have h4 : fx 4 = Value.int .i64 (c1) := hd.2.1 rfl
      have h6 : fx 6 = Value.int .i64 (c2) := hd.2.2.1 rfl
      have h8 : fx 8 = Value.int .i64 (c3) := hd.2.2.2.1 rfl
      have h10 : fx 10 = Value.int .i64 (c4) := hd.2.2.2.2.1 rfl
      have hnd : L 21 = false := Bool.eq_false_iff.2 (fun h => by have := (hcl 12 11 (hcl 20 12 (hcl 21 20 h (by kernel_rfl)) (by kernel_rfl)) (by kernel_rfl)); rw [hi] at this; cases this)
      go_wp2_with fail
      have hbb : Below w'.heap.size w' (w'.alloc (.cells #[.int .i64 c0, .int .i64 c1, .int .i64 c2, .int .i64 c3, .int .i64 c4] 3)) := (Below.refl _ _).alloc (Nat.le_refl _) _
      have hq := heap_alloc_new w' (.cells #[.int .i64 c0, .int .i64 c1, .int .i64 c2, .int .i64 c3, .int .i64 c4] 3)
      exact ⟨_, by rw [← h2, ← h4, ← h6, ← h8, ← h10]; rfl, fun _ => (hC hnd).trans (hbb.mono (hC hnd).size), ⟨_, rfl, by simp, fun i hi5 => five_cells hq i hi5⟩, fun j v t _ _ h => wF_below hbb j v h⟩
    · have h0 : fx 0 = Value.slice (some ⟨w.heap.size + 1, 0, none⟩) 32 32 := hd.1 rfl
      have H11 := Lib.hid (hd.2.1 rfl)
      have hnd : L 21 = false := Bool.eq_false_iff.2 (fun h => by have := (hcl 20 12 (hcl 21 20 h (by kernel_rfl)) (by kernel_rfl)); rw [hi] at this; cases this)
      obtain ⟨g, h11, hg, hcs⟩ := H11.out
      have hb12 := hC hnd
      have HCS := Lib.hid hcs
      clear hcs
      have HIN : Hid (In w' (some ⟨w.heap.size + 1, 0, none⟩) 32 32 l) := Lib.hid ⟨hl.out, Nat.le_refl _, (fun h => by cases h), hb.out, fun _ => ⟨_, 0, rfl, Nat.lt_of_lt_of_le (Array.getElem?_eq_some_iff.1 HRS.out).1 hb12.size, bytesAt_arr (by rw [HX.out]; exact ((hC hnd).block _ (Array.getElem?_eq_some_iff.1 HRS.out).1).trans HRS.out)⟩⟩
      go_wp2_with fail
      refine (thash_any lineTag [c0, c1, c2, c3, c4] g 5 5 _ 32 32 l w' (by decide) HZS rfl (by omega) HCS hg (by omega) (Lib.hid (hT1.out.below hb12)) HIN).mono ?_
      rintro e w2 ⟨rfl, hq⟩
      have HQ := Lib.hid hq
      clear hq
      rw [leaf_d]
      go_wp2_with fail
      exact ⟨_, by rw [← h0, ← h11]; rfl, fun _ => hb12.trans (HQ.out.mono hb12.size), rfl, fun j v t _ _ h => wF_below HQ.out j v h⟩
    · have hnd : L 21 = false := Bool.eq_false_iff.2 (fun h => by have := (hcl 14 13 (hcl 20 14 (hcl 21 20 h (by kernel_rfl)) (by kernel_rfl)) (by kernel_rfl)); rw [hi] at this; cases this)
      go_wp2_with fail
      exact ⟨_, rfl, (fun _ => hC hnd), rfl, fun _ _ _ _ _ h => h⟩
    · have h13 : fx 13 = Value.pointer (some ⟨w.heap.size, 3, none⟩) := hd.1 rfl
      have hnd : L 21 = false := Bool.eq_false_iff.2 (fun h => by have := (hcl 20 14 (hcl 21 20 h (by kernel_rfl)) (by kernel_rfl)); rw [hi] at this; cases this)
      have hc : w'.cell? ⟨w.heap.size, 3, none⟩ = some (.int .i64 c3) := five_cells (((hC hnd).block _ (Array.getElem?_eq_some_iff.1 HRL.out).1).trans HRL.out) 3 (by omega)
      go_wp2_with fail
      exact ⟨_, by rw [← h13]; rfl, (fun _ => hC hnd), rfl, fun _ _ _ _ _ h => h⟩
    · have hnd : L 21 = false := Bool.eq_false_iff.2 (fun h => by have := (hcl 16 15 (hcl 19 16 (hcl 20 19 (hcl 21 20 h (by kernel_rfl)) (by kernel_rfl)) (by kernel_rfl)) (by kernel_rfl)); rw [hi] at this; cases this)
      go_wp2_with fail
      exact ⟨_, rfl, (fun _ => hC hnd), rfl, fun _ _ _ _ _ h => h⟩
    · have h15 : fx 15 = Value.pointer (some ⟨w.heap.size, 2, none⟩) := hd.1 rfl
      have hnd : L 21 = false := Bool.eq_false_iff.2 (fun h => by have := (hcl 19 16 (hcl 20 19 (hcl 21 20 h (by kernel_rfl)) (by kernel_rfl)) (by kernel_rfl)); rw [hi] at this; cases this)
      have hc : w'.cell? ⟨w.heap.size, 2, none⟩ = some (.int .i64 c2) := five_cells (((hC hnd).block _ (Array.getElem?_eq_some_iff.1 HRL.out).1).trans HRL.out) 2 (by omega)
      go_wp2_with fail
      exact ⟨_, by rw [← h15]; rfl, (fun _ => hC hnd), rfl, fun _ _ _ _ _ h => h⟩
    · have hnd : L 21 = false := Bool.eq_false_iff.2 (fun h => by have := (hcl 18 17 (hcl 19 18 (hcl 20 19 (hcl 21 20 h (by kernel_rfl)) (by kernel_rfl)) (by kernel_rfl)) (by kernel_rfl)); rw [hi] at this; cases this)
      go_wp2_with fail
      exact ⟨_, rfl, (fun _ => hC hnd), rfl, fun _ _ _ _ _ h => h⟩
    · have h17 : fx 17 = Value.pointer (some ⟨w.heap.size, 3, none⟩) := hd.1 rfl
      have hnd : L 21 = false := Bool.eq_false_iff.2 (fun h => by have := (hcl 19 18 (hcl 20 19 (hcl 21 20 h (by kernel_rfl)) (by kernel_rfl)) (by kernel_rfl)); rw [hi] at this; cases this)
      have hc : w'.cell? ⟨w.heap.size, 3, none⟩ = some (.int .i64 c3) := five_cells (((hC hnd).block _ (Array.getElem?_eq_some_iff.1 HRL.out).1).trans HRL.out) 3 (by omega)
      go_wp2_with fail
      exact ⟨_, by rw [← h17]; rfl, (fun _ => hC hnd), rfl, fun _ _ _ _ _ h => h⟩
    · have h16 : fx 16 = Value.int .i64 (c2) := hd.1 rfl
      have h18 : fx 18 = Value.int .i64 (c3) := hd.2.1 rfl
      have hnd : L 21 = false := Bool.eq_false_iff.2 (fun h => by have := (hcl 20 19 (hcl 21 20 h (by kernel_rfl)) (by kernel_rfl)); rw [hi] at this; cases this)
      have hw : IntKind.i64.wrap (c2 * c3) = c2 * c3 := HW1.out
      go_wp2_with fail
      exact ⟨_, by rw [← h16, ← h18]; rfl, (fun _ => hC hnd), rfl, fun _ _ _ _ _ h => h⟩
    · have h12 : fx 12 = dgV (leafN c0 c1 c2 c3 c4 l).d := hd.1 rfl
      have h14 : fx 14 = Value.int .i64 (c3) := hd.2.1 rfl
      have h19 : fx 19 = Value.int .i64 (c2 * c3) := hd.2.2.1 rfl
      have hnd : L 21 = false := Bool.eq_false_iff.2 (fun h => by have := (hcl 21 20 h (by kernel_rfl)); rw [hi] at this; cases this)
      refine wpList_build_node rfl (.tmp 67) (.tmp 69) (.tmp 74) rfl (leafN c0 c1 c2 c3 c4 l).d c3 (c2 * c3) HJ.out.len h12 h14 h19 ?_
      clear hd
      go_wp2_with fail
      exact ⟨_, by rw [← h12, ← h19, ← h14]; rfl, fun _ => hC hnd, rfl, fun _ _ _ _ _ h => h⟩
    · have h20 : fx 20 = ndV (leafN c0 c1 c2 c3 c4 l) := hd.1 rfl
      have hb21 := hC hi
      have hrow := (hb21.block _ (Array.getElem?_eq_some_iff.1 HRR.out).1).trans HRR.out
      refine wpList_store_row rfl 31 (.tmp 4) (.tmp 75) rfl (w.heap.size + 1 + 1) (ndC (leafN c0 c1 c2 c3 c4 l)).toArray rfl h20 31 _ hrow HS1.out HS2.out (ndC_one _) ?_
      clear hd
      go_wp2_with fail
      refine ⟨undef, by rw [← h20]; rfl, fun h => (updB_self h).elim, ⟨setRow_heap _ _ _ _ _ _ hrow, below_setRow (HB1.out.trans (hb21.mono HB1.out.size)) (by omega) _⟩, fun j v t hj hu h => ?_⟩
      refine wF_pure j v ?_ ?_ h <;> intro e <;> subst e
      · refine absurd hu (not_needed (E := fun i => Nat.beq i 21 || Nat.beq i 22) (j := 11) [12] ?_ ?_ ?_)
        · kernel_rfl
        · kernel_rfl
        · intro m hm hne; simp at hm; subst hm; exact hcl 20 12 (hdn 20 (by kernel_rfl)) (by kernel_rfl)
      · rw [hi] at hj; cases hj
    · go_wp2_with fail
      exact ⟨_, rfl, fun h => hC h, rfl, fun _ _ _ _ _ h => h⟩
  · intro L fx w' hC hS
    have H21 := Lib.hid (hS 21 (by decide) rfl)
    have H22 := Lib.hid (hS 22 (by decide) rfl)

    have h22 : fx 22 = .int .i64 0 := H22.out
    rw [h22]
    clear hS h22 H22
    go_wp2_with fail
    have hl := run_loadVar_row (P := Tryd.prog) w' (w.heap.size + 1 + 1) 31 31 (ndC (leafN c0 c1 c2 c3 c4 l)).toArray (0, 0) _ H21.out.1 Tryd.underlying31 rfl HS1.out
    refine bodyPost_ret (v := .tuple #[ndV (leafN c0 c1 c2 c3 c4 l), .int .i64 0]) ?_ rfl ⟨rfl, H21.out.2⟩
    unfold ndV
    simp [results, Tryd.results27, asAddr, hl]
end Go.Proofs.YtmfmgeapecapiaaDoor
namespace Go.Proofs.YtmfmgeapecapiaaDoor
open Go.RowKit SzSha SzTree
set_option linter.unusedVariables false
set_option maxRecDepth 100000
def zeroN : Nd := ⟨List.replicate 32 0, 0, 0⟩
theorem zeroN_ok : NdOk zeroN := ⟨by simp [zeroN], (fun x hx => by have := List.eq_of_mem_replicate hx; omega), by simp [zeroN], by simp [zeroN]⟩
theorem zeroN_cells : (ndC zeroN).toArray = #[.int .u8 0, .int .u8 0, .int .u8 0, .int .u8 0, .int .u8 0, .int .u8 0, .int .u8 0, .int .u8 0, .int .u8 0, .int .u8 0, .int .u8 0, .int .u8 0, .int .u8 0, .int .u8 0, .int .u8 0, .int .u8 0, .int .u8 0, .int .u8 0, .int .u8 0, .int .u8 0, .int .u8 0, .int .u8 0, .int .u8 0, .int .u8 0, .int .u8 0, .int .u8 0, .int .u8 0, .int .u8 0, .int .u8 0, .int .u8 0, .int .u8 0, .int .u8 0, .int .i64 0, .int .i64 0] := by simp [zeroN, ndC, List.replicate]
end Go.Proofs.YtmfmgeapecapiaaDoor
namespace Go.Proofs.YtmfmgeapecapiaaDoor
open Go.RowKit SzSha SzTree
set_option linter.unusedVariables false
set_option maxRecDepth 100000
/-- a line is valid -/
def lOk (c0 c1 c2 c3 c4 : Int) : Prop := 0 ≤ c0 ∧ c0 < 4096 ∧ 0 ≤ c1 ∧ c1 < 1024 ∧ 0 ≤ c2 ∧ c2 ≤ 12 ∧ 0 ≤ c3 ∧ c3 ≤ 60 ∧ 0 ≤ c4 ∧ c4 < 7
theorem zeros34 : (#[.int .u8 0, .int .u8 0, .int .u8 0, .int .u8 0, .int .u8 0, .int .u8 0, .int .u8 0, .int .u8 0, .int .u8 0, .int .u8 0, .int .u8 0, .int .u8 0, .int .u8 0, .int .u8 0, .int .u8 0, .int .u8 0, .int .u8 0, .int .u8 0, .int .u8 0, .int .u8 0, .int .u8 0, .int .u8 0, .int .u8 0, .int .u8 0, .int .u8 0, .int .u8 0, .int .u8 0, .int .u8 0, .int .u8 0, .int .u8 0, .int .u8 0, .int .u8 0, .int .i64 0, .int .i64 0] : Array Value) = (ndC zeroN).toArray := zeroN_cells.symm

set_option maxHeartbeats 4000000 in
theorem leaf_n0 (c0 c1 c2 c3 c4 : Int) (l : List Nat) (w : World) (d0 : decide (c0 < 0) = true) :
    Calls Tryd.prog 27 #[.agg #[.int .i64 c0, .int .i64 c1, .int .i64 c2, .int .i64 c3, .int .i64 c4], dgV l] w fun e w' => e = .returned (.tuple #[ndV zeroN, .int .i64 410]) ∧ Below w.heap.size w w' := by
  have HSZ : Hid ((Tryd.prog.info? 31).map (·.size) = some (ndC zeroN).toArray.size) := Lib.hid (by rw [size34 zeroN_ok]; simp)
  obtain ⟨X, HX⟩ : ∃ X, Hid ((l.map fun x => Value.int .u8 (x : Nat)).toArray = X) := ⟨_, Lib.hid rfl⟩
  have e0 : dgV l = .agg X := by unfold dgV; rw [HX.out]
  rw [e0]
  clear e0
  obtain ⟨t1, t2, t3, t4⟩ := three_rows3 w #[.int .i64 c0, .int .i64 c1, .int .i64 c2, .int .i64 c3, .int .i64 c4] X #[.int .u8 0, .int .u8 0, .int .u8 0, .int .u8 0, .int .u8 0, .int .u8 0, .int .u8 0, .int .u8 0, .int .u8 0, .int .u8 0, .int .u8 0, .int .u8 0, .int .u8 0, .int .u8 0, .int .u8 0, .int .u8 0, .int .u8 0, .int .u8 0, .int .u8 0, .int .u8 0, .int .u8 0, .int .u8 0, .int .u8 0, .int .u8 0, .int .u8 0, .int .u8 0, .int .u8 0, .int .u8 0, .int .u8 0, .int .u8 0, .int .u8 0, .int .u8 0, .int .i64 0, .int .i64 0] 41 25 31
  have HB1 := Lib.hid t1
  have HRR := Lib.hid t4
  have k0 := five_cells t2 0 (by omega)
  have k1 := five_cells t2 1 (by omega)
  have k2 := five_cells t2 2 (by omega)
  have k3 := five_cells t2 3 (by omega)
  have k4 := five_cells t2 4 (by omega)
  have HSZ2 := HSZ
  have HON := Lib.hid (ndC_one zeroN)
  rw [← zeros34] at HSZ2 HON
  clear t1 t2 t3 t4
  go_enter Tryd.func27, Tryd.ntmps27
  go_wp2_with (first | (refine wpList_load_row rfl 31 (.tmp 4) rfl (w.heap.size + 1 + 1) rfl 31 _ (0, 0) _ HRR.out Tryd.underlying31 rfl HSZ2.out ?_) | (refine wpList_store_row rfl 31 (.tmp 4) (.tmp 54) rfl (w.heap.size + 1 + 1) #[.int .u8 0, .int .u8 0, .int .u8 0, .int .u8 0, .int .u8 0, .int .u8 0, .int .u8 0, .int .u8 0, .int .u8 0, .int .u8 0, .int .u8 0, .int .u8 0, .int .u8 0, .int .u8 0, .int .u8 0, .int .u8 0, .int .u8 0, .int .u8 0, .int .u8 0, .int .u8 0, .int .u8 0, .int .u8 0, .int .u8 0, .int .u8 0, .int .u8 0, .int .u8 0, .int .u8 0, .int .u8 0, .int .u8 0, .int .u8 0, .int .u8 0, .int .u8 0, .int .i64 0, .int .i64 0] ?ha ?hb 31 _ HRR.out HSZ2.out rfl HON.out ?hc))
  rw [zeros34] at HB1 HRR
  rw [zeros34]
  have hr := setRow_heap _ (w.heap.size + 1 + 1) _ (ndC zeroN).toArray _ _ HRR.out
  have hl := run_loadVar_row (P := Tryd.prog) _ (w.heap.size + 1 + 1) 31 31 (ndC zeroN).toArray (0, 0) _ hr Tryd.underlying31 rfl HSZ.out
  refine bodyPost_ret (v := .tuple #[ndV zeroN, .int .i64 410]) ?_ rfl ⟨rfl, below_setRow HB1.out (by omega) _⟩
  unfold ndV
  simp [results, Tryd.results27, asAddr, hl]

set_option maxHeartbeats 4000000 in
theorem leaf_n1 (c0 c1 c2 c3 c4 : Int) (l : List Nat) (w : World) (d0 : decide (c0 < 0) = false) (d1 : decide (4096 ≤ c0) = true) :
    Calls Tryd.prog 27 #[.agg #[.int .i64 c0, .int .i64 c1, .int .i64 c2, .int .i64 c3, .int .i64 c4], dgV l] w fun e w' => e = .returned (.tuple #[ndV zeroN, .int .i64 410]) ∧ Below w.heap.size w w' := by
  have HSZ : Hid ((Tryd.prog.info? 31).map (·.size) = some (ndC zeroN).toArray.size) := Lib.hid (by rw [size34 zeroN_ok]; simp)
  obtain ⟨X, HX⟩ : ∃ X, Hid ((l.map fun x => Value.int .u8 (x : Nat)).toArray = X) := ⟨_, Lib.hid rfl⟩
  have e0 : dgV l = .agg X := by unfold dgV; rw [HX.out]
  rw [e0]
  clear e0
  obtain ⟨t1, t2, t3, t4⟩ := three_rows3 w #[.int .i64 c0, .int .i64 c1, .int .i64 c2, .int .i64 c3, .int .i64 c4] X #[.int .u8 0, .int .u8 0, .int .u8 0, .int .u8 0, .int .u8 0, .int .u8 0, .int .u8 0, .int .u8 0, .int .u8 0, .int .u8 0, .int .u8 0, .int .u8 0, .int .u8 0, .int .u8 0, .int .u8 0, .int .u8 0, .int .u8 0, .int .u8 0, .int .u8 0, .int .u8 0, .int .u8 0, .int .u8 0, .int .u8 0, .int .u8 0, .int .u8 0, .int .u8 0, .int .u8 0, .int .u8 0, .int .u8 0, .int .u8 0, .int .u8 0, .int .u8 0, .int .i64 0, .int .i64 0] 41 25 31
  have HB1 := Lib.hid t1
  have HRR := Lib.hid t4
  have k0 := five_cells t2 0 (by omega)
  have k1 := five_cells t2 1 (by omega)
  have k2 := five_cells t2 2 (by omega)
  have k3 := five_cells t2 3 (by omega)
  have k4 := five_cells t2 4 (by omega)
  have HSZ2 := HSZ
  have HON := Lib.hid (ndC_one zeroN)
  rw [← zeros34] at HSZ2 HON
  clear t1 t2 t3 t4
  go_enter Tryd.func27, Tryd.ntmps27
  go_wp2_with (first | (refine wpList_load_row rfl 31 (.tmp 4) rfl (w.heap.size + 1 + 1) rfl 31 _ (0, 0) _ HRR.out Tryd.underlying31 rfl HSZ2.out ?_) | (refine wpList_store_row rfl 31 (.tmp 4) (.tmp 54) rfl (w.heap.size + 1 + 1) #[.int .u8 0, .int .u8 0, .int .u8 0, .int .u8 0, .int .u8 0, .int .u8 0, .int .u8 0, .int .u8 0, .int .u8 0, .int .u8 0, .int .u8 0, .int .u8 0, .int .u8 0, .int .u8 0, .int .u8 0, .int .u8 0, .int .u8 0, .int .u8 0, .int .u8 0, .int .u8 0, .int .u8 0, .int .u8 0, .int .u8 0, .int .u8 0, .int .u8 0, .int .u8 0, .int .u8 0, .int .u8 0, .int .u8 0, .int .u8 0, .int .u8 0, .int .u8 0, .int .i64 0, .int .i64 0] ?ha ?hb 31 _ HRR.out HSZ2.out rfl HON.out ?hc))
  rw [zeros34] at HB1 HRR
  rw [zeros34]
  have hr := setRow_heap _ (w.heap.size + 1 + 1) _ (ndC zeroN).toArray _ _ HRR.out
  have hl := run_loadVar_row (P := Tryd.prog) _ (w.heap.size + 1 + 1) 31 31 (ndC zeroN).toArray (0, 0) _ hr Tryd.underlying31 rfl HSZ.out
  refine bodyPost_ret (v := .tuple #[ndV zeroN, .int .i64 410]) ?_ rfl ⟨rfl, below_setRow HB1.out (by omega) _⟩
  unfold ndV
  simp [results, Tryd.results27, asAddr, hl]

set_option maxHeartbeats 4000000 in
theorem leaf_n2 (c0 c1 c2 c3 c4 : Int) (l : List Nat) (w : World) (d0 : decide (c0 < 0) = false) (d1 : decide (4096 ≤ c0) = false) (d2 : decide (c1 < 0) = true) :
    Calls Tryd.prog 27 #[.agg #[.int .i64 c0, .int .i64 c1, .int .i64 c2, .int .i64 c3, .int .i64 c4], dgV l] w fun e w' => e = .returned (.tuple #[ndV zeroN, .int .i64 410]) ∧ Below w.heap.size w w' := by
  have HSZ : Hid ((Tryd.prog.info? 31).map (·.size) = some (ndC zeroN).toArray.size) := Lib.hid (by rw [size34 zeroN_ok]; simp)
  obtain ⟨X, HX⟩ : ∃ X, Hid ((l.map fun x => Value.int .u8 (x : Nat)).toArray = X) := ⟨_, Lib.hid rfl⟩
  have e0 : dgV l = .agg X := by unfold dgV; rw [HX.out]
  rw [e0]
  clear e0
  obtain ⟨t1, t2, t3, t4⟩ := three_rows3 w #[.int .i64 c0, .int .i64 c1, .int .i64 c2, .int .i64 c3, .int .i64 c4] X #[.int .u8 0, .int .u8 0, .int .u8 0, .int .u8 0, .int .u8 0, .int .u8 0, .int .u8 0, .int .u8 0, .int .u8 0, .int .u8 0, .int .u8 0, .int .u8 0, .int .u8 0, .int .u8 0, .int .u8 0, .int .u8 0, .int .u8 0, .int .u8 0, .int .u8 0, .int .u8 0, .int .u8 0, .int .u8 0, .int .u8 0, .int .u8 0, .int .u8 0, .int .u8 0, .int .u8 0, .int .u8 0, .int .u8 0, .int .u8 0, .int .u8 0, .int .u8 0, .int .i64 0, .int .i64 0] 41 25 31
  have HB1 := Lib.hid t1
  have HRR := Lib.hid t4
  have k0 := five_cells t2 0 (by omega)
  have k1 := five_cells t2 1 (by omega)
  have k2 := five_cells t2 2 (by omega)
  have k3 := five_cells t2 3 (by omega)
  have k4 := five_cells t2 4 (by omega)
  have HSZ2 := HSZ
  have HON := Lib.hid (ndC_one zeroN)
  rw [← zeros34] at HSZ2 HON
  clear t1 t2 t3 t4
  go_enter Tryd.func27, Tryd.ntmps27
  go_wp2_with (first | (refine wpList_load_row rfl 31 (.tmp 4) rfl (w.heap.size + 1 + 1) rfl 31 _ (0, 0) _ HRR.out Tryd.underlying31 rfl HSZ2.out ?_) | (refine wpList_store_row rfl 31 (.tmp 4) (.tmp 54) rfl (w.heap.size + 1 + 1) #[.int .u8 0, .int .u8 0, .int .u8 0, .int .u8 0, .int .u8 0, .int .u8 0, .int .u8 0, .int .u8 0, .int .u8 0, .int .u8 0, .int .u8 0, .int .u8 0, .int .u8 0, .int .u8 0, .int .u8 0, .int .u8 0, .int .u8 0, .int .u8 0, .int .u8 0, .int .u8 0, .int .u8 0, .int .u8 0, .int .u8 0, .int .u8 0, .int .u8 0, .int .u8 0, .int .u8 0, .int .u8 0, .int .u8 0, .int .u8 0, .int .u8 0, .int .u8 0, .int .i64 0, .int .i64 0] ?ha ?hb 31 _ HRR.out HSZ2.out rfl HON.out ?hc))
  rw [zeros34] at HB1 HRR
  rw [zeros34]
  have hr := setRow_heap _ (w.heap.size + 1 + 1) _ (ndC zeroN).toArray _ _ HRR.out
  have hl := run_loadVar_row (P := Tryd.prog) _ (w.heap.size + 1 + 1) 31 31 (ndC zeroN).toArray (0, 0) _ hr Tryd.underlying31 rfl HSZ.out
  refine bodyPost_ret (v := .tuple #[ndV zeroN, .int .i64 410]) ?_ rfl ⟨rfl, below_setRow HB1.out (by omega) _⟩
  unfold ndV
  simp [results, Tryd.results27, asAddr, hl]

set_option maxHeartbeats 4000000 in
theorem leaf_n3 (c0 c1 c2 c3 c4 : Int) (l : List Nat) (w : World) (d0 : decide (c0 < 0) = false) (d1 : decide (4096 ≤ c0) = false) (d2 : decide (c1 < 0) = false) (d3 : decide (1024 ≤ c1) = true) :
    Calls Tryd.prog 27 #[.agg #[.int .i64 c0, .int .i64 c1, .int .i64 c2, .int .i64 c3, .int .i64 c4], dgV l] w fun e w' => e = .returned (.tuple #[ndV zeroN, .int .i64 410]) ∧ Below w.heap.size w w' := by
  have HSZ : Hid ((Tryd.prog.info? 31).map (·.size) = some (ndC zeroN).toArray.size) := Lib.hid (by rw [size34 zeroN_ok]; simp)
  obtain ⟨X, HX⟩ : ∃ X, Hid ((l.map fun x => Value.int .u8 (x : Nat)).toArray = X) := ⟨_, Lib.hid rfl⟩
  have e0 : dgV l = .agg X := by unfold dgV; rw [HX.out]
  rw [e0]
  clear e0
  obtain ⟨t1, t2, t3, t4⟩ := three_rows3 w #[.int .i64 c0, .int .i64 c1, .int .i64 c2, .int .i64 c3, .int .i64 c4] X #[.int .u8 0, .int .u8 0, .int .u8 0, .int .u8 0, .int .u8 0, .int .u8 0, .int .u8 0, .int .u8 0, .int .u8 0, .int .u8 0, .int .u8 0, .int .u8 0, .int .u8 0, .int .u8 0, .int .u8 0, .int .u8 0, .int .u8 0, .int .u8 0, .int .u8 0, .int .u8 0, .int .u8 0, .int .u8 0, .int .u8 0, .int .u8 0, .int .u8 0, .int .u8 0, .int .u8 0, .int .u8 0, .int .u8 0, .int .u8 0, .int .u8 0, .int .u8 0, .int .i64 0, .int .i64 0] 41 25 31
  have HB1 := Lib.hid t1
  have HRR := Lib.hid t4
  have k0 := five_cells t2 0 (by omega)
  have k1 := five_cells t2 1 (by omega)
  have k2 := five_cells t2 2 (by omega)
  have k3 := five_cells t2 3 (by omega)
  have k4 := five_cells t2 4 (by omega)
  have HSZ2 := HSZ
  have HON := Lib.hid (ndC_one zeroN)
  rw [← zeros34] at HSZ2 HON
  clear t1 t2 t3 t4
  go_enter Tryd.func27, Tryd.ntmps27
  go_wp2_with (first | (refine wpList_load_row rfl 31 (.tmp 4) rfl (w.heap.size + 1 + 1) rfl 31 _ (0, 0) _ HRR.out Tryd.underlying31 rfl HSZ2.out ?_) | (refine wpList_store_row rfl 31 (.tmp 4) (.tmp 54) rfl (w.heap.size + 1 + 1) #[.int .u8 0, .int .u8 0, .int .u8 0, .int .u8 0, .int .u8 0, .int .u8 0, .int .u8 0, .int .u8 0, .int .u8 0, .int .u8 0, .int .u8 0, .int .u8 0, .int .u8 0, .int .u8 0, .int .u8 0, .int .u8 0, .int .u8 0, .int .u8 0, .int .u8 0, .int .u8 0, .int .u8 0, .int .u8 0, .int .u8 0, .int .u8 0, .int .u8 0, .int .u8 0, .int .u8 0, .int .u8 0, .int .u8 0, .int .u8 0, .int .u8 0, .int .u8 0, .int .i64 0, .int .i64 0] ?ha ?hb 31 _ HRR.out HSZ2.out rfl HON.out ?hc))
  rw [zeros34] at HB1 HRR
  rw [zeros34]
  have hr := setRow_heap _ (w.heap.size + 1 + 1) _ (ndC zeroN).toArray _ _ HRR.out
  have hl := run_loadVar_row (P := Tryd.prog) _ (w.heap.size + 1 + 1) 31 31 (ndC zeroN).toArray (0, 0) _ hr Tryd.underlying31 rfl HSZ.out
  refine bodyPost_ret (v := .tuple #[ndV zeroN, .int .i64 410]) ?_ rfl ⟨rfl, below_setRow HB1.out (by omega) _⟩
  unfold ndV
  simp [results, Tryd.results27, asAddr, hl]

set_option maxHeartbeats 4000000 in
theorem leaf_n4 (c0 c1 c2 c3 c4 : Int) (l : List Nat) (w : World) (d0 : decide (c0 < 0) = false) (d1 : decide (4096 ≤ c0) = false) (d2 : decide (c1 < 0) = false) (d3 : decide (1024 ≤ c1) = false) (d4 : decide (c2 < 0) = true) :
    Calls Tryd.prog 27 #[.agg #[.int .i64 c0, .int .i64 c1, .int .i64 c2, .int .i64 c3, .int .i64 c4], dgV l] w fun e w' => e = .returned (.tuple #[ndV zeroN, .int .i64 410]) ∧ Below w.heap.size w w' := by
  have HSZ : Hid ((Tryd.prog.info? 31).map (·.size) = some (ndC zeroN).toArray.size) := Lib.hid (by rw [size34 zeroN_ok]; simp)
  obtain ⟨X, HX⟩ : ∃ X, Hid ((l.map fun x => Value.int .u8 (x : Nat)).toArray = X) := ⟨_, Lib.hid rfl⟩
  have e0 : dgV l = .agg X := by unfold dgV; rw [HX.out]
  rw [e0]
  clear e0
  obtain ⟨t1, t2, t3, t4⟩ := three_rows3 w #[.int .i64 c0, .int .i64 c1, .int .i64 c2, .int .i64 c3, .int .i64 c4] X #[.int .u8 0, .int .u8 0, .int .u8 0, .int .u8 0, .int .u8 0, .int .u8 0, .int .u8 0, .int .u8 0, .int .u8 0, .int .u8 0, .int .u8 0, .int .u8 0, .int .u8 0, .int .u8 0, .int .u8 0, .int .u8 0, .int .u8 0, .int .u8 0, .int .u8 0, .int .u8 0, .int .u8 0, .int .u8 0, .int .u8 0, .int .u8 0, .int .u8 0, .int .u8 0, .int .u8 0, .int .u8 0, .int .u8 0, .int .u8 0, .int .u8 0, .int .u8 0, .int .i64 0, .int .i64 0] 41 25 31
  have HB1 := Lib.hid t1
  have HRR := Lib.hid t4
  have k0 := five_cells t2 0 (by omega)
  have k1 := five_cells t2 1 (by omega)
  have k2 := five_cells t2 2 (by omega)
  have k3 := five_cells t2 3 (by omega)
  have k4 := five_cells t2 4 (by omega)
  have HSZ2 := HSZ
  have HON := Lib.hid (ndC_one zeroN)
  rw [← zeros34] at HSZ2 HON
  clear t1 t2 t3 t4
  go_enter Tryd.func27, Tryd.ntmps27
  go_wp2_with (first | (refine wpList_load_row rfl 31 (.tmp 4) rfl (w.heap.size + 1 + 1) rfl 31 _ (0, 0) _ HRR.out Tryd.underlying31 rfl HSZ2.out ?_) | (refine wpList_store_row rfl 31 (.tmp 4) (.tmp 54) rfl (w.heap.size + 1 + 1) #[.int .u8 0, .int .u8 0, .int .u8 0, .int .u8 0, .int .u8 0, .int .u8 0, .int .u8 0, .int .u8 0, .int .u8 0, .int .u8 0, .int .u8 0, .int .u8 0, .int .u8 0, .int .u8 0, .int .u8 0, .int .u8 0, .int .u8 0, .int .u8 0, .int .u8 0, .int .u8 0, .int .u8 0, .int .u8 0, .int .u8 0, .int .u8 0, .int .u8 0, .int .u8 0, .int .u8 0, .int .u8 0, .int .u8 0, .int .u8 0, .int .u8 0, .int .u8 0, .int .i64 0, .int .i64 0] ?ha ?hb 31 _ HRR.out HSZ2.out rfl HON.out ?hc))
  rw [zeros34] at HB1 HRR
  rw [zeros34]
  have hr := setRow_heap _ (w.heap.size + 1 + 1) _ (ndC zeroN).toArray _ _ HRR.out
  have hl := run_loadVar_row (P := Tryd.prog) _ (w.heap.size + 1 + 1) 31 31 (ndC zeroN).toArray (0, 0) _ hr Tryd.underlying31 rfl HSZ.out
  refine bodyPost_ret (v := .tuple #[ndV zeroN, .int .i64 410]) ?_ rfl ⟨rfl, below_setRow HB1.out (by omega) _⟩
  unfold ndV
  simp [results, Tryd.results27, asAddr, hl]

set_option maxHeartbeats 4000000 in
theorem leaf_n5 (c0 c1 c2 c3 c4 : Int) (l : List Nat) (w : World) (d0 : decide (c0 < 0) = false) (d1 : decide (4096 ≤ c0) = false) (d2 : decide (c1 < 0) = false) (d3 : decide (1024 ≤ c1) = false) (d4 : decide (c2 < 0) = false) (d5 : decide (12 < c2) = true) :
    Calls Tryd.prog 27 #[.agg #[.int .i64 c0, .int .i64 c1, .int .i64 c2, .int .i64 c3, .int .i64 c4], dgV l] w fun e w' => e = .returned (.tuple #[ndV zeroN, .int .i64 410]) ∧ Below w.heap.size w w' := by
  have HSZ : Hid ((Tryd.prog.info? 31).map (·.size) = some (ndC zeroN).toArray.size) := Lib.hid (by rw [size34 zeroN_ok]; simp)
  obtain ⟨X, HX⟩ : ∃ X, Hid ((l.map fun x => Value.int .u8 (x : Nat)).toArray = X) := ⟨_, Lib.hid rfl⟩
  have e0 : dgV l = .agg X := by unfold dgV; rw [HX.out]
  rw [e0]
  clear e0
  obtain ⟨t1, t2, t3, t4⟩ := three_rows3 w #[.int .i64 c0, .int .i64 c1, .int .i64 c2, .int .i64 c3, .int .i64 c4] X #[.int .u8 0, .int .u8 0, .int .u8 0, .int .u8 0, .int .u8 0, .int .u8 0, .int .u8 0, .int .u8 0, .int .u8 0, .int .u8 0, .int .u8 0, .int .u8 0, .int .u8 0, .int .u8 0, .int .u8 0, .int .u8 0, .int .u8 0, .int .u8 0, .int .u8 0, .int .u8 0, .int .u8 0, .int .u8 0, .int .u8 0, .int .u8 0, .int .u8 0, .int .u8 0, .int .u8 0, .int .u8 0, .int .u8 0, .int .u8 0, .int .u8 0, .int .u8 0, .int .i64 0, .int .i64 0] 41 25 31
  have HB1 := Lib.hid t1
  have HRR := Lib.hid t4
  have k0 := five_cells t2 0 (by omega)
  have k1 := five_cells t2 1 (by omega)
  have k2 := five_cells t2 2 (by omega)
  have k3 := five_cells t2 3 (by omega)
  have k4 := five_cells t2 4 (by omega)
  have HSZ2 := HSZ
  have HON := Lib.hid (ndC_one zeroN)
  rw [← zeros34] at HSZ2 HON
  clear t1 t2 t3 t4
  go_enter Tryd.func27, Tryd.ntmps27
  go_wp2_with (first | (refine wpList_load_row rfl 31 (.tmp 4) rfl (w.heap.size + 1 + 1) rfl 31 _ (0, 0) _ HRR.out Tryd.underlying31 rfl HSZ2.out ?_) | (refine wpList_store_row rfl 31 (.tmp 4) (.tmp 54) rfl (w.heap.size + 1 + 1) #[.int .u8 0, .int .u8 0, .int .u8 0, .int .u8 0, .int .u8 0, .int .u8 0, .int .u8 0, .int .u8 0, .int .u8 0, .int .u8 0, .int .u8 0, .int .u8 0, .int .u8 0, .int .u8 0, .int .u8 0, .int .u8 0, .int .u8 0, .int .u8 0, .int .u8 0, .int .u8 0, .int .u8 0, .int .u8 0, .int .u8 0, .int .u8 0, .int .u8 0, .int .u8 0, .int .u8 0, .int .u8 0, .int .u8 0, .int .u8 0, .int .u8 0, .int .u8 0, .int .i64 0, .int .i64 0] ?ha ?hb 31 _ HRR.out HSZ2.out rfl HON.out ?hc))
  rw [zeros34] at HB1 HRR
  rw [zeros34]
  have hr := setRow_heap _ (w.heap.size + 1 + 1) _ (ndC zeroN).toArray _ _ HRR.out
  have hl := run_loadVar_row (P := Tryd.prog) _ (w.heap.size + 1 + 1) 31 31 (ndC zeroN).toArray (0, 0) _ hr Tryd.underlying31 rfl HSZ.out
  refine bodyPost_ret (v := .tuple #[ndV zeroN, .int .i64 410]) ?_ rfl ⟨rfl, below_setRow HB1.out (by omega) _⟩
  unfold ndV
  simp [results, Tryd.results27, asAddr, hl]

set_option maxHeartbeats 4000000 in
theorem leaf_n6 (c0 c1 c2 c3 c4 : Int) (l : List Nat) (w : World) (d0 : decide (c0 < 0) = false) (d1 : decide (4096 ≤ c0) = false) (d2 : decide (c1 < 0) = false) (d3 : decide (1024 ≤ c1) = false) (d4 : decide (c2 < 0) = false) (d5 : decide (12 < c2) = false) (d6 : decide (c3 < 0) = true) :
    Calls Tryd.prog 27 #[.agg #[.int .i64 c0, .int .i64 c1, .int .i64 c2, .int .i64 c3, .int .i64 c4], dgV l] w fun e w' => e = .returned (.tuple #[ndV zeroN, .int .i64 410]) ∧ Below w.heap.size w w' := by
  have HSZ : Hid ((Tryd.prog.info? 31).map (·.size) = some (ndC zeroN).toArray.size) := Lib.hid (by rw [size34 zeroN_ok]; simp)
  obtain ⟨X, HX⟩ : ∃ X, Hid ((l.map fun x => Value.int .u8 (x : Nat)).toArray = X) := ⟨_, Lib.hid rfl⟩
  have e0 : dgV l = .agg X := by unfold dgV; rw [HX.out]
  rw [e0]
  clear e0
  obtain ⟨t1, t2, t3, t4⟩ := three_rows3 w #[.int .i64 c0, .int .i64 c1, .int .i64 c2, .int .i64 c3, .int .i64 c4] X #[.int .u8 0, .int .u8 0, .int .u8 0, .int .u8 0, .int .u8 0, .int .u8 0, .int .u8 0, .int .u8 0, .int .u8 0, .int .u8 0, .int .u8 0, .int .u8 0, .int .u8 0, .int .u8 0, .int .u8 0, .int .u8 0, .int .u8 0, .int .u8 0, .int .u8 0, .int .u8 0, .int .u8 0, .int .u8 0, .int .u8 0, .int .u8 0, .int .u8 0, .int .u8 0, .int .u8 0, .int .u8 0, .int .u8 0, .int .u8 0, .int .u8 0, .int .u8 0, .int .i64 0, .int .i64 0] 41 25 31
  have HB1 := Lib.hid t1
  have HRR := Lib.hid t4
  have k0 := five_cells t2 0 (by omega)
  have k1 := five_cells t2 1 (by omega)
  have k2 := five_cells t2 2 (by omega)
  have k3 := five_cells t2 3 (by omega)
  have k4 := five_cells t2 4 (by omega)
  have HSZ2 := HSZ
  have HON := Lib.hid (ndC_one zeroN)
  rw [← zeros34] at HSZ2 HON
  clear t1 t2 t3 t4
  go_enter Tryd.func27, Tryd.ntmps27
  go_wp2_with (first | (refine wpList_load_row rfl 31 (.tmp 4) rfl (w.heap.size + 1 + 1) rfl 31 _ (0, 0) _ HRR.out Tryd.underlying31 rfl HSZ2.out ?_) | (refine wpList_store_row rfl 31 (.tmp 4) (.tmp 54) rfl (w.heap.size + 1 + 1) #[.int .u8 0, .int .u8 0, .int .u8 0, .int .u8 0, .int .u8 0, .int .u8 0, .int .u8 0, .int .u8 0, .int .u8 0, .int .u8 0, .int .u8 0, .int .u8 0, .int .u8 0, .int .u8 0, .int .u8 0, .int .u8 0, .int .u8 0, .int .u8 0, .int .u8 0, .int .u8 0, .int .u8 0, .int .u8 0, .int .u8 0, .int .u8 0, .int .u8 0, .int .u8 0, .int .u8 0, .int .u8 0, .int .u8 0, .int .u8 0, .int .u8 0, .int .u8 0, .int .i64 0, .int .i64 0] ?ha ?hb 31 _ HRR.out HSZ2.out rfl HON.out ?hc))
  rw [zeros34] at HB1 HRR
  rw [zeros34]
  have hr := setRow_heap _ (w.heap.size + 1 + 1) _ (ndC zeroN).toArray _ _ HRR.out
  have hl := run_loadVar_row (P := Tryd.prog) _ (w.heap.size + 1 + 1) 31 31 (ndC zeroN).toArray (0, 0) _ hr Tryd.underlying31 rfl HSZ.out
  refine bodyPost_ret (v := .tuple #[ndV zeroN, .int .i64 410]) ?_ rfl ⟨rfl, below_setRow HB1.out (by omega) _⟩
  unfold ndV
  simp [results, Tryd.results27, asAddr, hl]

set_option maxHeartbeats 4000000 in
theorem leaf_n7 (c0 c1 c2 c3 c4 : Int) (l : List Nat) (w : World) (d0 : decide (c0 < 0) = false) (d1 : decide (4096 ≤ c0) = false) (d2 : decide (c1 < 0) = false) (d3 : decide (1024 ≤ c1) = false) (d4 : decide (c2 < 0) = false) (d5 : decide (12 < c2) = false) (d6 : decide (c3 < 0) = false) (d7 : decide (60 < c3) = true) :
    Calls Tryd.prog 27 #[.agg #[.int .i64 c0, .int .i64 c1, .int .i64 c2, .int .i64 c3, .int .i64 c4], dgV l] w fun e w' => e = .returned (.tuple #[ndV zeroN, .int .i64 410]) ∧ Below w.heap.size w w' := by
  have HSZ : Hid ((Tryd.prog.info? 31).map (·.size) = some (ndC zeroN).toArray.size) := Lib.hid (by rw [size34 zeroN_ok]; simp)
  obtain ⟨X, HX⟩ : ∃ X, Hid ((l.map fun x => Value.int .u8 (x : Nat)).toArray = X) := ⟨_, Lib.hid rfl⟩
  have e0 : dgV l = .agg X := by unfold dgV; rw [HX.out]
  rw [e0]
  clear e0
  obtain ⟨t1, t2, t3, t4⟩ := three_rows3 w #[.int .i64 c0, .int .i64 c1, .int .i64 c2, .int .i64 c3, .int .i64 c4] X #[.int .u8 0, .int .u8 0, .int .u8 0, .int .u8 0, .int .u8 0, .int .u8 0, .int .u8 0, .int .u8 0, .int .u8 0, .int .u8 0, .int .u8 0, .int .u8 0, .int .u8 0, .int .u8 0, .int .u8 0, .int .u8 0, .int .u8 0, .int .u8 0, .int .u8 0, .int .u8 0, .int .u8 0, .int .u8 0, .int .u8 0, .int .u8 0, .int .u8 0, .int .u8 0, .int .u8 0, .int .u8 0, .int .u8 0, .int .u8 0, .int .u8 0, .int .u8 0, .int .i64 0, .int .i64 0] 41 25 31
  have HB1 := Lib.hid t1
  have HRR := Lib.hid t4
  have k0 := five_cells t2 0 (by omega)
  have k1 := five_cells t2 1 (by omega)
  have k2 := five_cells t2 2 (by omega)
  have k3 := five_cells t2 3 (by omega)
  have k4 := five_cells t2 4 (by omega)
  have HSZ2 := HSZ
  have HON := Lib.hid (ndC_one zeroN)
  rw [← zeros34] at HSZ2 HON
  clear t1 t2 t3 t4
  go_enter Tryd.func27, Tryd.ntmps27
  go_wp2_with (first | (refine wpList_load_row rfl 31 (.tmp 4) rfl (w.heap.size + 1 + 1) rfl 31 _ (0, 0) _ HRR.out Tryd.underlying31 rfl HSZ2.out ?_) | (refine wpList_store_row rfl 31 (.tmp 4) (.tmp 54) rfl (w.heap.size + 1 + 1) #[.int .u8 0, .int .u8 0, .int .u8 0, .int .u8 0, .int .u8 0, .int .u8 0, .int .u8 0, .int .u8 0, .int .u8 0, .int .u8 0, .int .u8 0, .int .u8 0, .int .u8 0, .int .u8 0, .int .u8 0, .int .u8 0, .int .u8 0, .int .u8 0, .int .u8 0, .int .u8 0, .int .u8 0, .int .u8 0, .int .u8 0, .int .u8 0, .int .u8 0, .int .u8 0, .int .u8 0, .int .u8 0, .int .u8 0, .int .u8 0, .int .u8 0, .int .u8 0, .int .i64 0, .int .i64 0] ?ha ?hb 31 _ HRR.out HSZ2.out rfl HON.out ?hc))
  rw [zeros34] at HB1 HRR
  rw [zeros34]
  have hr := setRow_heap _ (w.heap.size + 1 + 1) _ (ndC zeroN).toArray _ _ HRR.out
  have hl := run_loadVar_row (P := Tryd.prog) _ (w.heap.size + 1 + 1) 31 31 (ndC zeroN).toArray (0, 0) _ hr Tryd.underlying31 rfl HSZ.out
  refine bodyPost_ret (v := .tuple #[ndV zeroN, .int .i64 410]) ?_ rfl ⟨rfl, below_setRow HB1.out (by omega) _⟩
  unfold ndV
  simp [results, Tryd.results27, asAddr, hl]

set_option maxHeartbeats 4000000 in
theorem leaf_n8 (c0 c1 c2 c3 c4 : Int) (l : List Nat) (w : World) (d0 : decide (c0 < 0) = false) (d1 : decide (4096 ≤ c0) = false) (d2 : decide (c1 < 0) = false) (d3 : decide (1024 ≤ c1) = false) (d4 : decide (c2 < 0) = false) (d5 : decide (12 < c2) = false) (d6 : decide (c3 < 0) = false) (d7 : decide (60 < c3) = false) (d8 : decide (c4 < 0) = true) :
    Calls Tryd.prog 27 #[.agg #[.int .i64 c0, .int .i64 c1, .int .i64 c2, .int .i64 c3, .int .i64 c4], dgV l] w fun e w' => e = .returned (.tuple #[ndV zeroN, .int .i64 410]) ∧ Below w.heap.size w w' := by
  have HSZ : Hid ((Tryd.prog.info? 31).map (·.size) = some (ndC zeroN).toArray.size) := Lib.hid (by rw [size34 zeroN_ok]; simp)
  obtain ⟨X, HX⟩ : ∃ X, Hid ((l.map fun x => Value.int .u8 (x : Nat)).toArray = X) := ⟨_, Lib.hid rfl⟩
  have e0 : dgV l = .agg X := by unfold dgV; rw [HX.out]
  rw [e0]
  clear e0
  obtain ⟨t1, t2, t3, t4⟩ := three_rows3 w #[.int .i64 c0, .int .i64 c1, .int .i64 c2, .int .i64 c3, .int .i64 c4] X #[.int .u8 0, .int .u8 0, .int .u8 0, .int .u8 0, .int .u8 0, .int .u8 0, .int .u8 0, .int .u8 0, .int .u8 0, .int .u8 0, .int .u8 0, .int .u8 0, .int .u8 0, .int .u8 0, .int .u8 0, .int .u8 0, .int .u8 0, .int .u8 0, .int .u8 0, .int .u8 0, .int .u8 0, .int .u8 0, .int .u8 0, .int .u8 0, .int .u8 0, .int .u8 0, .int .u8 0, .int .u8 0, .int .u8 0, .int .u8 0, .int .u8 0, .int .u8 0, .int .i64 0, .int .i64 0] 41 25 31
  have HB1 := Lib.hid t1
  have HRR := Lib.hid t4
  have k0 := five_cells t2 0 (by omega)
  have k1 := five_cells t2 1 (by omega)
  have k2 := five_cells t2 2 (by omega)
  have k3 := five_cells t2 3 (by omega)
  have k4 := five_cells t2 4 (by omega)
  have HSZ2 := HSZ
  have HON := Lib.hid (ndC_one zeroN)
  rw [← zeros34] at HSZ2 HON
  clear t1 t2 t3 t4
  go_enter Tryd.func27, Tryd.ntmps27
  go_wp2_with (first | (refine wpList_load_row rfl 31 (.tmp 4) rfl (w.heap.size + 1 + 1) rfl 31 _ (0, 0) _ HRR.out Tryd.underlying31 rfl HSZ2.out ?_) | (refine wpList_store_row rfl 31 (.tmp 4) (.tmp 54) rfl (w.heap.size + 1 + 1) #[.int .u8 0, .int .u8 0, .int .u8 0, .int .u8 0, .int .u8 0, .int .u8 0, .int .u8 0, .int .u8 0, .int .u8 0, .int .u8 0, .int .u8 0, .int .u8 0, .int .u8 0, .int .u8 0, .int .u8 0, .int .u8 0, .int .u8 0, .int .u8 0, .int .u8 0, .int .u8 0, .int .u8 0, .int .u8 0, .int .u8 0, .int .u8 0, .int .u8 0, .int .u8 0, .int .u8 0, .int .u8 0, .int .u8 0, .int .u8 0, .int .u8 0, .int .u8 0, .int .i64 0, .int .i64 0] ?ha ?hb 31 _ HRR.out HSZ2.out rfl HON.out ?hc))
  rw [zeros34] at HB1 HRR
  rw [zeros34]
  have hr := setRow_heap _ (w.heap.size + 1 + 1) _ (ndC zeroN).toArray _ _ HRR.out
  have hl := run_loadVar_row (P := Tryd.prog) _ (w.heap.size + 1 + 1) 31 31 (ndC zeroN).toArray (0, 0) _ hr Tryd.underlying31 rfl HSZ.out
  refine bodyPost_ret (v := .tuple #[ndV zeroN, .int .i64 410]) ?_ rfl ⟨rfl, below_setRow HB1.out (by omega) _⟩
  unfold ndV
  simp [results, Tryd.results27, asAddr, hl]

set_option maxHeartbeats 4000000 in
theorem leaf_n9 (c0 c1 c2 c3 c4 : Int) (l : List Nat) (w : World) (d0 : decide (c0 < 0) = false) (d1 : decide (4096 ≤ c0) = false) (d2 : decide (c1 < 0) = false) (d3 : decide (1024 ≤ c1) = false) (d4 : decide (c2 < 0) = false) (d5 : decide (12 < c2) = false) (d6 : decide (c3 < 0) = false) (d7 : decide (60 < c3) = false) (d8 : decide (c4 < 0) = false) (d9 : decide (7 ≤ c4) = true) :
    Calls Tryd.prog 27 #[.agg #[.int .i64 c0, .int .i64 c1, .int .i64 c2, .int .i64 c3, .int .i64 c4], dgV l] w fun e w' => e = .returned (.tuple #[ndV zeroN, .int .i64 410]) ∧ Below w.heap.size w w' := by
  have HSZ : Hid ((Tryd.prog.info? 31).map (·.size) = some (ndC zeroN).toArray.size) := Lib.hid (by rw [size34 zeroN_ok]; simp)
  obtain ⟨X, HX⟩ : ∃ X, Hid ((l.map fun x => Value.int .u8 (x : Nat)).toArray = X) := ⟨_, Lib.hid rfl⟩
  have e0 : dgV l = .agg X := by unfold dgV; rw [HX.out]
  rw [e0]
  clear e0
  obtain ⟨t1, t2, t3, t4⟩ := three_rows3 w #[.int .i64 c0, .int .i64 c1, .int .i64 c2, .int .i64 c3, .int .i64 c4] X #[.int .u8 0, .int .u8 0, .int .u8 0, .int .u8 0, .int .u8 0, .int .u8 0, .int .u8 0, .int .u8 0, .int .u8 0, .int .u8 0, .int .u8 0, .int .u8 0, .int .u8 0, .int .u8 0, .int .u8 0, .int .u8 0, .int .u8 0, .int .u8 0, .int .u8 0, .int .u8 0, .int .u8 0, .int .u8 0, .int .u8 0, .int .u8 0, .int .u8 0, .int .u8 0, .int .u8 0, .int .u8 0, .int .u8 0, .int .u8 0, .int .u8 0, .int .u8 0, .int .i64 0, .int .i64 0] 41 25 31
  have HB1 := Lib.hid t1
  have HRR := Lib.hid t4
  have k0 := five_cells t2 0 (by omega)
  have k1 := five_cells t2 1 (by omega)
  have k2 := five_cells t2 2 (by omega)
  have k3 := five_cells t2 3 (by omega)
  have k4 := five_cells t2 4 (by omega)
  have HSZ2 := HSZ
  have HON := Lib.hid (ndC_one zeroN)
  rw [← zeros34] at HSZ2 HON
  clear t1 t2 t3 t4
  go_enter Tryd.func27, Tryd.ntmps27
  go_wp2_with (first | (refine wpList_load_row rfl 31 (.tmp 4) rfl (w.heap.size + 1 + 1) rfl 31 _ (0, 0) _ HRR.out Tryd.underlying31 rfl HSZ2.out ?_) | (refine wpList_store_row rfl 31 (.tmp 4) (.tmp 54) rfl (w.heap.size + 1 + 1) #[.int .u8 0, .int .u8 0, .int .u8 0, .int .u8 0, .int .u8 0, .int .u8 0, .int .u8 0, .int .u8 0, .int .u8 0, .int .u8 0, .int .u8 0, .int .u8 0, .int .u8 0, .int .u8 0, .int .u8 0, .int .u8 0, .int .u8 0, .int .u8 0, .int .u8 0, .int .u8 0, .int .u8 0, .int .u8 0, .int .u8 0, .int .u8 0, .int .u8 0, .int .u8 0, .int .u8 0, .int .u8 0, .int .u8 0, .int .u8 0, .int .u8 0, .int .u8 0, .int .i64 0, .int .i64 0] ?ha ?hb 31 _ HRR.out HSZ2.out rfl HON.out ?hc))
  rw [zeros34] at HB1 HRR
  rw [zeros34]
  have hr := setRow_heap _ (w.heap.size + 1 + 1) _ (ndC zeroN).toArray _ _ HRR.out
  have hl := run_loadVar_row (P := Tryd.prog) _ (w.heap.size + 1 + 1) 31 31 (ndC zeroN).toArray (0, 0) _ hr Tryd.underlying31 rfl HSZ.out
  refine bodyPost_ret (v := .tuple #[ndV zeroN, .int .i64 410]) ?_ rfl ⟨rfl, below_setRow HB1.out (by omega) _⟩
  unfold ndV
  simp [results, Tryd.results27, asAddr, hl]

theorem leaf_no (c0 c1 c2 c3 c4 : Int) (l : List Nat) (w : World) (h : ¬ lOk c0 c1 c2 c3 c4) :
    Calls Tryd.prog 27 #[.agg #[.int .i64 c0, .int .i64 c1, .int .i64 c2, .int .i64 c3, .int .i64 c4], dgV l] w fun e w' => e = .returned (.tuple #[ndV zeroN, .int .i64 410]) ∧ Below w.heap.size w w' := by
  by_cases b0 : c0 < 0
  · exact leaf_n0 c0 c1 c2 c3 c4 l w  (decide_eq_true b0)
  by_cases b1 : 4096 ≤ c0
  · exact leaf_n1 c0 c1 c2 c3 c4 l w (decide_eq_false b0) (decide_eq_true b1)
  by_cases b2 : c1 < 0
  · exact leaf_n2 c0 c1 c2 c3 c4 l w (decide_eq_false b0) (decide_eq_false b1) (decide_eq_true b2)
  by_cases b3 : 1024 ≤ c1
  · exact leaf_n3 c0 c1 c2 c3 c4 l w (decide_eq_false b0) (decide_eq_false b1) (decide_eq_false b2) (decide_eq_true b3)
  by_cases b4 : c2 < 0
  · exact leaf_n4 c0 c1 c2 c3 c4 l w (decide_eq_false b0) (decide_eq_false b1) (decide_eq_false b2) (decide_eq_false b3) (decide_eq_true b4)
  by_cases b5 : 12 < c2
  · exact leaf_n5 c0 c1 c2 c3 c4 l w (decide_eq_false b0) (decide_eq_false b1) (decide_eq_false b2) (decide_eq_false b3) (decide_eq_false b4) (decide_eq_true b5)
  by_cases b6 : c3 < 0
  · exact leaf_n6 c0 c1 c2 c3 c4 l w (decide_eq_false b0) (decide_eq_false b1) (decide_eq_false b2) (decide_eq_false b3) (decide_eq_false b4) (decide_eq_false b5) (decide_eq_true b6)
  by_cases b7 : 60 < c3
  · exact leaf_n7 c0 c1 c2 c3 c4 l w (decide_eq_false b0) (decide_eq_false b1) (decide_eq_false b2) (decide_eq_false b3) (decide_eq_false b4) (decide_eq_false b5) (decide_eq_false b6) (decide_eq_true b7)
  by_cases b8 : c4 < 0
  · exact leaf_n8 c0 c1 c2 c3 c4 l w (decide_eq_false b0) (decide_eq_false b1) (decide_eq_false b2) (decide_eq_false b3) (decide_eq_false b4) (decide_eq_false b5) (decide_eq_false b6) (decide_eq_false b7) (decide_eq_true b8)
  by_cases b9 : 7 ≤ c4
  · exact leaf_n9 c0 c1 c2 c3 c4 l w (decide_eq_false b0) (decide_eq_false b1) (decide_eq_false b2) (decide_eq_false b3) (decide_eq_false b4) (decide_eq_false b5) (decide_eq_false b6) (decide_eq_false b7) (decide_eq_false b8) (decide_eq_true b9)
  exact absurd (show lOk c0 c1 c2 c3 c4 by unfold lOk; omega) h
end Go.Proofs.YtmfmgeapecapiaaDoor
namespace Go.Proofs.YtmfmgeapecapiaaDoor
open Go.RowKit SzSha SzTree
set_option linter.unusedVariables false
set_option maxRecDepth 100000
theorem flatN_length : ∀ (ls : List Nd), (∀ x ∈ ls, NdOk x) → (flatN ls).length = ls.length * 34
  | [], _ => rfl
  | n :: ls, ho => by
    have h1 := ndC_length (ho n (by simp))
    have h2 := flatN_length ls (fun x hx => ho x (List.mem_cons_of_mem _ hx))
    show ((n :: ls).flatMap ndC).length = _
    rw [List.flatMap_cons, List.length_append, h1]
    have h3 : (ls.flatMap ndC).length = ls.length * 34 := h2
    rw [h3, List.length_cons]; omega
end Go.Proofs.YtmfmgeapecapiaaDoor
namespace Go.Proofs.YtmfmgeapecapiaaDoor
section
variable {P : Program} {ops : Array Oper}
def waitsB (l : List Oper) (m j : Nat) : Bool := (l[m]?.map fun o => o.after.any fun e => Region.binds .any e && Nat.beq e.on j).getD false
def FlowAll4 (P : Program) (ops : Array Oper) (E : Nat → Bool) (l0 : List Oper) (k : Nat → Nat) (build : (Nat → Value) → Array Value) (df : List Deferred) (C : (Nat → Bool) → (Nat → Value) → World → Prop) (S : Nat → Value → Value → World → Prop) : Nat → List Oper → Prop
  | _, [] => True
  | i, o :: l => (∀ L x w, C L x w → L i = false → (∀ m j, L m = true → waitsB l0 m j = true → L j = true) → (∀ m, waitsB l0 i m = true → L m = true) → Deps3 k S x w o.after.toList → wpList P ops (FlowPost3 E l0 k build df C S i L x w) [o] ⟨build x, df⟩ w) ∧ FlowAll4 P ops E l0 k build df C S (i + 1) l
theorem FlowAll4.at {l0 : List Oper} {E : Nat → Bool} {k : Nat → Nat} {build : (Nat → Value) → Array Value} {df : List Deferred} {C : (Nat → Bool) → (Nat → Value) → World → Prop} {S : Nat → Value → Value → World → Prop} :
    ∀ (l : List Oper) (m i : Nat) (o : Oper), FlowAll4 P ops E l0 k build df C S m l → l[i]? = some o → ∀ L x w, C L x w → L (m + i) = false → (∀ m' j, L m' = true → waitsB l0 m' j = true → L j = true) → (∀ m', waitsB l0 (m + i) m' = true → L m' = true) → Deps3 k S x w o.after.toList → wpList P ops (FlowPost3 E l0 k build df C S (m + i) L x w) [o] ⟨build x, df⟩ w
  | [], m, i, o, _, h => by simp at h
  | o' :: l, m, 0, o, h, ho => by
    have : o' = o := by simpa using ho
    subst this
    exact h.1
  | o' :: l, m, i + 1, o, h, ho => by
    have := FlowAll4.at l (m + 1) i o h.2 (by simpa using ho)
    rw [show m + (i + 1) = m + 1 + i by omega]
    exact this
theorem any_flow4 {E : Nat → Bool} {k : Nat → Nat} {l : List Oper} {Q : Exit → Act → World → Prop} {build : (Nat → Value) → Array Value} {df : List Deferred} {C : (Nat → Bool) → (Nat → Value) → World → Prop} {S : Nat → Value → Value → World → Prop} (hB : flowB l = true) (hk : tiedB k l = true) (hall : FlowAll4 P l.toArray E l k build df C S 0 l)
    (hend : ∀ L x w, C L x w → (∀ i, i < l.length → E i = true → S i (x i) (x (k i)) w) → Q .normal ⟨build x, df⟩ w) :
    ∀ (f : Nat) (listed : Array Bool) (x : Nat → Value) (w : World), listed.size = l.length → cnt listed l.length ≤ f → C (fun j => listed.getD j false) x w → (∀ i, listed.getD i false = true → (E i = true ∨ ∃ m, m < l.length ∧ listed.getD m true = false ∧ usesB l m i = true) → S i (x i) (x (k i)) w) → (∀ i, listed.getD i false = true → listed.getD (k i) false = true) → (∀ m j, listed.getD m false = true → waitsB l m j = true → listed.getD j false = true) → wpAny P .any l.toArray Q f listed ⟨build x, df⟩ w := by
  have hfull : ∀ (listed : Array Bool) (x : Nat → Value) (w : World), listed.size = l.length → C (fun j => listed.getD j false) x w → (∀ i, listed.getD i false = true → (E i = true ∨ ∃ m, m < l.length ∧ listed.getD m true = false ∧ usesB l m i = true) → S i (x i) (x (k i)) w) → Region.ready .any l.toArray listed = [] → Q .normal ⟨build x, df⟩ w := by
    intro listed x w hs hC hS hr
    have hlt : ∀ n i, i < n → i < l.length → listed.getD i true = true := by
      intro n
      induction n with
      | zero => intro i hi; omega
      | succ n ih =>
        intro i hi hil
        rcases Nat.lt_or_ge i n with h | h
        · exact ih i h hil
        · obtain rfl : i = n := by omega
          apply Classical.byContradiction
          intro hne
          have hf : listed.getD i true = false := by simpa using hne
          have : i ∈ Region.ready .any l.toArray listed := by
            refine mem_ready.2 ⟨hf, l[i], by simp [hil], fun e he hbd => ?_⟩
            have h1 := List.all_eq_true.1 hB i (by simpa using hil)
            simp only [List.getElem?_eq_getElem hil, Option.map_some, Option.getD_some] at h1
            have h2 := Array.all_eq_true_iff_forall_mem.1 h1 e he
            have h3 : e.on < i := by rw [hbd] at h2; simpa using h2
            have h4 := ih e.on h3 (by omega)
            have h5 : e.on < listed.size := by omega
            simp only [Array.getD, h5, dite_true] at h4 ⊢
            exact h4
          rw [hr] at this
          cases this
    refine hend _ x w hC fun i hi hE => hS i ?_ (.inl hE)
    have h4 := hlt (i + 1) i (by omega) hi
    have h5 : i < listed.size := by omega
    simp only [Array.getD, h5, dite_true] at h4 ⊢
    exact h4
  intro f
  induction f with
  | zero =>
    intro listed x w hs hc hC hS hT hD
    have hr : Region.ready .any l.toArray listed = [] := by
      rw [List.eq_nil_iff_forall_not_mem]
      intro i hi
      obtain ⟨hu, o, ho, _⟩ := mem_ready.1 hi
      have hil : i < l.length := by have := (Array.getElem?_eq_some_iff.1 ho).1; simpa using this
      have : 0 < cnt listed l.length := List.countP_pos_iff.2 ⟨i, by simpa using hil, by rw [hu]; rfl⟩
      omega
    exact ⟨hr, hfull listed x w hs hC hS hr⟩
  | succ f ih =>
    intro listed x w hs hc hC hS hT hD
    refine ⟨fun hr => hfull listed x w hs hC hS hr, fun i hi => ?_⟩
    obtain ⟨hu, o, ho, hd⟩ := mem_ready.1 hi
    have hil : i < l.length := by have := (Array.getElem?_eq_some_iff.1 ho).1; simpa using this
    have hol : l[i]? = some o := by simpa using ho
    have hui : listed.getD i false = false := by
      have : i < listed.size := by omega
      simp only [Array.getD, this, dite_true] at hu ⊢
      exact hu
    have hdn : ∀ j, waitsB l (0 + i) j = true → listed.getD j false = true := fun j huse => by
      rw [Nat.zero_add] at huse
      unfold waitsB at huse
      rw [hol, Option.map_some, Option.getD_some] at huse
      obtain ⟨q, hq, h2⟩ := Array.any_eq_true.1 huse
      simp only [Bool.and_eq_true] at h2
      have h3 := hd _ (Array.getElem_mem hq) h2.1
      rw [Nat.eq_of_beq_eq_true h2.2] at h3
      exact h3
    have hstep := hall.at l 0 i o hol (fun j => listed.getD j false) x w hC (by rw [Nat.zero_add]; exact hui) hD hdn (deps3_of _ fun e he hb => hS e.on (hd e (by simpa using he) (dataE_binds hb)) (.inr ⟨i, hil, hu, by
      unfold usesB
      rw [hol, Option.map_some, Option.getD_some]
      exact Array.any_eq_true'.2 ⟨e, by simpa using he, by rw [hb]; simp⟩⟩))
    rw [Nat.zero_add] at hstep
    refine wpOp_flow ho (fun e a w he h => ?_) (fun a' w' h => ?_) hstep
    · cases e <;> first | exact he rfl | exact h
    · obtain ⟨v, rfl, hC', hS', hk'⟩ := h
      have hfe : (fun j => (listed.setIfInBounds i true).getD j false) = updB (fun j => listed.getD j false) i := by
        funext j
        by_cases e : j = i
        · subst e
          have h1 : j < (listed.setIfInBounds j true).size := by simp; omega
          rw [updB_same]
          simp only [Array.getD, h1, dite_true]; simp
        · rw [getD_set_ne false (Ne.symm e)]
          unfold updB
          rw [show Nat.beq j i = false by cases hb : Nat.beq j i; rfl; exact absurd (Nat.eq_of_beq_eq_true hb) e]; rfl
      have hset0 : ∀ m, listed.getD m false = true → (listed.setIfInBounds i true).getD m false = true := fun m hm => by
        have := congrFun hfe m
        rw [this]; unfold updB; simp only [hm, Bool.or_true]
      refine ih _ _ _ (by simp [hs]) ?_ (by rw [hfe]; exact hC') (fun j hj hn => ?_) (fun j hj => ?_) fun m j hm huse => ?_
      · have h1 := countP_drop (p := fun k => !listed.getD k true) (q := fun k => !(listed.setIfInBounds i true).getD k true) (i := i) (List.range l.length) List.nodup_range (by simpa using hil) (by rw [hu]; rfl)
          (by have : i < (listed.setIfInBounds i true).size := by simp; omega
              simp only [Array.getD, this, dite_true]; simp) (fun j hj => by rw [getD_set_ne true (Ne.symm hj)])
        have h2 : cnt listed l.length ≤ f + 1 := hc
        unfold cnt at h2 ⊢
        omega
      · by_cases e : j = i
        · subst e; rw [upd_same]; exact hS'
        · rw [getD_set_ne false (Ne.symm e)] at hj
          have hki : k j ≠ i := fun e2 => by
            have := hT j hj
            rw [e2, getD_both hu] at this
            cases this
          rw [upd_ne x v e, upd_ne x v hki]
          have hn' : E j = true ∨ ∃ m, m < l.length ∧ m ≠ i ∧ listed.getD m true = false ∧ usesB l m j = true := by
            rcases hn with h | ⟨m, h1, h2, h3⟩
            · exact .inl h
            · refine .inr ⟨m, h1, ?_, ?_, h3⟩
              · intro em
                subst em
                have : m < (listed.setIfInBounds m true).size := by simp; omega
                simp only [Array.getD, this, dite_true] at h2
                simp at h2
              · by_cases em : m = i
                · subst em
                  have : m < (listed.setIfInBounds m true).size := by simp; omega
                  simp only [Array.getD, this, dite_true] at h2
                  simp at h2
                · rwa [getD_set_ne true (Ne.symm em)] at h2
          refine hk' j _ _ hj ?_ (hS j hj ?_)
          · rcases hn' with h | ⟨m, h1, h2, h4, h3⟩
            · exact .inl h
            · refine .inr ⟨m, mem_users h1 h3, h2, ?_⟩
              have : m < listed.size := by omega
              simp only [Array.getD, this, dite_true] at h4 ⊢
              exact h4
          · rcases hn' with h | ⟨m, h1, _, h2, h3⟩
            · exact .inl h
            · exact .inr ⟨m, h1, h2, h3⟩
      · have hset : ∀ m, listed.getD m false = true → (listed.setIfInBounds i true).getD m false = true := fun m hm => by
          by_cases e : m = i
          · subst e; rw [getD_both hu] at hm; cases hm
          · rw [getD_set_ne false (Ne.symm e)]; exact hm
        by_cases e : j = i
        · subst e
          have h1 := List.all_eq_true.1 hk j (by simpa using hil)
          simp only [Bool.or_eq_true] at h1
          rcases h1 with h1 | h1
          · rw [Nat.eq_of_beq_eq_true h1]; exact hj
          · have ho' : l[j]? = some o := by simpa using ho
            rw [ho', Option.map_some, Option.getD_some] at h1
            obtain ⟨m, hm, h2⟩ := Array.any_eq_true.1 h1
            obtain ⟨e, he, h2⟩ : ∃ e ∈ o.after, (Region.binds .any e && Nat.beq e.on (k j)) = true := ⟨_, Array.getElem_mem hm, h2⟩
            simp only [Bool.and_eq_true] at h2
            rw [← Nat.eq_of_beq_eq_true h2.2]
            exact hset _ (hd e he h2.1)
        · rw [getD_set_ne false (Ne.symm e)] at hj
          exact hset _ (hT j hj)
      · by_cases e : m = i
        · subst e
          unfold waitsB at huse
          rw [hol, Option.map_some, Option.getD_some] at huse
          obtain ⟨q, hq, h2⟩ := Array.any_eq_true.1 huse
          simp only [Bool.and_eq_true] at h2
          have h3 := hd _ (Array.getElem_mem hq) h2.1
          rw [Nat.eq_of_beq_eq_true h2.2] at h3
          exact hset0 _ h3
        · rw [getD_set_ne false (Ne.symm e)] at hm
          exact hset0 _ (hD m j hm huse)
/-- the region -/
theorem region_flow4 {l : List Oper} {Q : Exit → Act → World → Prop} {id : Nat} {df : List Deferred} {w : World} (hm : P.follows .mixedOrders = true) (hB : flowB l = true) (E : Nat → Bool)
    (k : Nat → Nat) (hk : tiedB k l = true) (build : (Nat → Value) → Array Value) (x0 : Nat → Value) (C : (Nat → Bool) → (Nat → Value) → World → Prop) (S : Nat → Value → Value → World → Prop) (hC : C (fun _ => false) x0 w.drew) (hall : FlowAll4 P l.toArray E l k build df C S 0 l)
    (hend : ∀ L x w, C L x w → (∀ i, i < l.length → E i = true → S i (x i) (x (k i)) w) → Q .normal ⟨build x, df⟩ w) : (Code.region id l.toArray true).wp P Q ⟨build x0, df⟩ w := by
  have hf : (fun j => (Array.replicate l.toArray.size false).getD j false) = fun _ => false := by funext j; exact getD_replicate_false _ _
  refine wp_region_any hm (any_flow4 hB hk hall hend _ _ _ _ (by simp) ?_ (by rw [hf]; exact hC) (fun i hi => ?_) (fun i hi => ?_) fun m j hm _ => ?_)
  · have : cnt (Array.replicate l.toArray.size false) l.length ≤ (List.range l.length).length := List.countP_le_length
    simpa using this
  · rw [getD_replicate_false] at hi; cases hi
  · rw [getD_replicate_false] at hi; cases hi
  · rw [getD_replicate_false] at hm; cases hm
end
end Go.Proofs.YtmfmgeapecapiaaDoor
