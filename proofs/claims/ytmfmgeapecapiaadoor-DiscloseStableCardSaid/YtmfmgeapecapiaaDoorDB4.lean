/- sizar/tree.Join. sizar/tree.Salt. sizar/tree.Leaf of a valid line. sizar/tree.Join of nodes that are not valid. -/
import Derived.Test.YtmfmgeapecapiaaDoorDB3
import Derived.Test.YtmfmgeapecapiaaDoorDB2
import Derived.Lib.AppendZeros
import Derived.IntWalk
namespace Go.Proofs.YtmfmgeapecapiaaDoor
open Go.RowKit SzSha SzTree
set_option linter.unusedVariables false
set_option maxRecDepth 100000
/-- append of bytes behind a slice without room -/
theorem wpList_append_full {w : World} {ops : Array Oper} {rest : List Oper} {o : Oper} {a : Act} {Q : Exit → Act → World → Prop} (hgd : o.guard = none) (s x : Operand)
    (ho : o.op = .call { callee := .builtin .append, args := #[s, x], argTypes := #[55, 55] })
    (g n gx m c : Nat) (l r : List Nat) (hs : a.eval s = .slice (some ⟨g, 0, none⟩) n n) (hx : a.eval x = .slice (some ⟨gx, 0, none⟩) m c) (hl : l.length = n) (hr : r.length = m)
    (hbl : Hid (BytesAt w g 0 l)) (hbr : Hid (BytesAt w gx 0 r)) (hm : 0 < m) (hlen : n + m ≤ 1000000)
    (h : ∀ v' w', Hid (OwnB w' w.heap.size v' (l ++ r)) → Hid (Below w.heap.size w w') → wpList Tryd.prog ops Q rest (a.put o.dst v') w') : wpList Tryd.prog ops Q (o :: rest) a w := by
  obtain ⟨i0, hi, hz0, hz1, hz2⟩ := info_parts info_u8
  have cells : ∀ (q : Nat) (z : List Nat), BytesAt w q 0 z → ∀ j v, (z.map fun x => Value.int .u8 (x : Nat))[j]? = some v → w.cell? ((⟨q, 0, none⟩ : Addr).add j) = some v := fun q z hz j v hv => by
    have hj : j < z.length := by have := (List.getElem?_eq_some_iff.1 hv).1; simpa using this
    have h1 := hz j hj
    rw [Nat.zero_add] at h1
    rw [add_row, Nat.zero_add, h1, ← hv, List.getElem?_map, List.getD_eq_getElem?_getD, List.getElem?_eq_getElem hj]; rfl
  have hrun := run_append_grow (P := Tryd.prog) w 55 o.type 5 i0 (.int .u8 0) Tryd.underlying55 hi hz0 ⟨g, 0, none⟩ n n (l.map fun x => Value.int .u8 (x : Nat)) (by rw [hz1]; simp [hl]) (cells g l hbl.out) ⟨gx, 0, none⟩ m c (r.map fun x => Value.int .u8 (x : Nat)) (by rw [hz1]; simp [hr]) (cells gx r hbr.out) (by omega) (by omega) (growslice_fits (by omega) (by rw [hz2]; omega))
  have hge := grownCap_ge w (n + m) n 5
  have hcm := grownCap_le_maxLen w (n + m) n 5 (by unfold maxLen; omega)
  refine Lib.wpList_append_run w hgd s x _ _ ho _ _ hs hx _ _ hrun ?_
  refine h _ _ (Lib.hid ⟨by simp, .inr ⟨w.heap.size, grownCap w (n + m) n 5, _, by rw [List.length_append, hl, hr], Nat.le_refl _, heap_alloc_new w.drew _, by rw [List.length_append, hl, hr]; exact hge, hcm, ?_, ?_⟩⟩) (Lib.hid ((Below.refl _ w).drew.alloc (Nat.le_refl _) _))
  · simp only [Array.size_append, List.size_toArray, List.length_map, size_zeroCells, hl, hr]
    simp [Value.cells]
    omega
  · rw [List.length_append, hl, hr, Nat.mul_one, List.map_append]
    simp only [Array.toList_append, List.append_assoc]
    rw [← List.append_assoc, List.take_left' (by simp [hl, hr])]
/-- a struct literal of a node -/
theorem wpList_build_node {w : World} {ops : Array Oper} {rest : List Oper} {o : Oper} {a : Act} {Q : Exit → Act → World → Prop} (hg : o.guard = none) (x y z : Operand)
    (ho : o.op = .build 31 #[(0, x), (1, y), (2, z)]) (d : List Nat) (c p : Int) (hd : d.length = 32) (hx : a.eval x = dgV d) (hy : a.eval y = .int .i64 c) (hz : a.eval z = .int .i64 p)
    (h : wpList Tryd.prog ops Q rest (a.put o.dst (ndV ⟨d, c, p⟩)) w) : wpList Tryd.prog ops Q (o :: rest) a w := by
  have e1 : (#[(0, x), (1, y), (2, z)].map fun (i, x) => (i, a.eval x)).toList = [(0, dgV d), (1, .int .i64 c), (2, .int .i64 p)] := by simp [hx, hy, hz]
  refine wpList_build hg 31 _ ho (by rw [e1, built_node d hd c p]; rfl) ?_
  rw [e1, built_node d hd c p]
  exact h
def sumTag : ByteArray := ⟨#[115, 117, 109]⟩
theorem sumTag_eq : strL sumTag = sumT := rfl
theorem join_d (a b : Nd) : dgV (hashT (strL sumTag) (a.d ++ b.d) [a.c, a.p, b.c, b.p]) = dgV (joinN a b).d := by rw [sumTag_eq]; simp only [joinN]
theorem bytes_node {w : World} {g : Nat} {n : Nd} {t : Nat} (h : w.heap[g]? = some (.cells (ndC n).toArray t (0, 0))) : BytesAt w g 0 n.d := fun i hi => by
  rw [Nat.zero_add, cell_of_row w g i _ _ _ h]
  simp [ndC, List.getElem?_append_left, hi, List.getD_eq_getElem?_getD]
theorem cell_c {w : World} {g : Nat} {n : Nd} {t : Nat} (hn : NdOk n) (h : w.heap[g]? = some (.cells (ndC n).toArray t (0, 0))) : w.cell? ⟨g, 32, none⟩ = some (.int .i64 n.c) := by
  rw [cell_of_row w g _ _ _ _ h]; simpa using ndC_c hn
theorem cell_p {w : World} {g : Nat} {n : Nd} {t : Nat} (hn : NdOk n) (h : w.heap[g]? = some (.cells (ndC n).toArray t (0, 0))) : w.cell? ⟨g, 33, none⟩ = some (.int .i64 n.p) := by
  rw [cell_of_row w g _ _ _ _ h]; simpa using ndC_p hn
theorem join_ok {a b : Nd} (ha : NdOk a) (hb : NdOk b) (h : vL [a, b] = true) : NdOk (joinN a b) := by
  simp only [vL, List.all_cons, List.all_nil, Bool.and_true, Bool.and_eq_true, sumC] at h
  have h1 := vN_bd h.1.1
  have h2 := vN_bd h.1.2
  exact ⟨tagged_length _ _, tagged_bytes _ _, by simp only [joinN]; omega, by simp only [joinN]; omega⟩

def wJ (W0 : World) (M : Nat) (ba : Nat) (bb : Nat) (br : Nat) (a : Nd) (b : Nd) : Nat → Value → World → Prop
  | 0, fv, _ => fv = Value.pointer (some ⟨ba, 0, none⟩)
  | 1, fv, _ => fv = Value.slice (some ⟨ba, 0, none⟩) 32 32
  | 2, fv, _ => fv = Value.pointer (some ⟨bb, 0, none⟩)
  | 3, fv, _ => fv = Value.slice (some ⟨bb, 0, none⟩) 32 32
  | 4, fv, fw => OwnB fw M fv (a.d ++ b.d)
  | 5, fv, _ => fv = Value.pointer (some ⟨ba, 32, none⟩)
  | 6, fv, _ => fv = Value.int .i64 (a.c)
  | 7, fv, _ => fv = Value.pointer (some ⟨ba, 33, none⟩)
  | 8, fv, _ => fv = Value.int .i64 (a.p)
  | 9, fv, _ => fv = Value.pointer (some ⟨bb, 32, none⟩)
  | 10, fv, _ => fv = Value.int .i64 (b.c)
  | 11, fv, _ => fv = Value.pointer (some ⟨bb, 33, none⟩)
  | 12, fv, _ => fv = Value.int .i64 (b.p)
  | 13, fv, fw => ∃ g, fv = .slice (some ⟨g, 0, none⟩) 4 4 ∧ g < fw.heap.size ∧ ∀ i, i < 4 → fw.cell? ⟨g, i, none⟩ = some (.int .i64 (([a.c, a.p, b.c, b.p] : List Int).getD i 0))
  | 14, fv, _ => fv = dgV (joinN a b).d
  | 15, fv, _ => fv = Value.pointer (some ⟨ba, 32, none⟩)
  | 16, fv, _ => fv = Value.int .i64 (a.c)
  | 17, fv, _ => fv = Value.pointer (some ⟨bb, 32, none⟩)
  | 18, fv, _ => fv = Value.int .i64 (b.c)
  | 19, fv, _ => fv = Value.int .i64 (a.c + b.c)
  | 20, fv, _ => fv = Value.pointer (some ⟨ba, 33, none⟩)
  | 21, fv, _ => fv = Value.int .i64 (a.p)
  | 22, fv, _ => fv = Value.pointer (some ⟨bb, 33, none⟩)
  | 23, fv, _ => fv = Value.int .i64 (b.p)
  | 24, fv, _ => fv = Value.int .i64 (a.p + b.p)
  | 25, fv, _ => fv = ndV (joinN a b)
  | 26, fv, fw => fw.heap[br]? = some (.cells (ndC (joinN a b)).toArray 31 (0, 0)) ∧ Below W0.heap.size W0 fw
  | 27, fv, _ => fv = Value.int .i64 (0)
  | _, _, _ => True
theorem wJ_below {W0 : World} {M : Nat} {ba : Nat} {bb : Nat} {br : Nat} {a : Nd} {b : Nd} {w w' : World} (hb : Below w.heap.size w w') : ∀ j v, wJ W0 M ba bb br a b j v w → wJ W0 M ba bb br a b j v w'
  | 0, v, h => h
  | 1, v, h => h
  | 2, v, h => h
  | 3, v, h => h
  | 4, v, h => h.below hb
  | 5, v, h => h
  | 6, v, h => h
  | 7, v, h => h
  | 8, v, h => h
  | 9, v, h => h
  | 10, v, h => h
  | 11, v, h => h
  | 12, v, h => h
  | 13, v, ⟨g, h1, h2, h3⟩ => ⟨g, h1, Nat.lt_of_lt_of_le h2 hb.size, fun i hi => (hb.cell (p := ⟨g, i, none⟩) h2).trans (h3 i hi)⟩
  | 14, v, h => h
  | 15, v, h => h
  | 16, v, h => h
  | 17, v, h => h
  | 18, v, h => h
  | 19, v, h => h
  | 20, v, h => h
  | 21, v, h => h
  | 22, v, h => h
  | 23, v, h => h
  | 24, v, h => h
  | 25, v, h => h
  | 26, v, h => ⟨(hb.block br (Array.getElem?_eq_some_iff.1 h.1).1).trans h.1, h.2.trans (hb.mono h.2.size)⟩
  | 27, v, h => h
  | n + 28, v, h => trivial
theorem wJ_pure {W0 : World} {M : Nat} {ba : Nat} {bb : Nat} {br : Nat} {a : Nd} {b : Nd} {w w' : World} : ∀ j v, j ≠ 4 → j ≠ 13 → j ≠ 26 → wJ W0 M ba bb br a b j v w → wJ W0 M ba bb br a b j v w'
  | 0, v, _, _, _, h => h
  | 1, v, _, _, _, h => h
  | 2, v, _, _, _, h => h
  | 3, v, _, _, _, h => h
  | 4, v, hh, _, _, _ => absurd rfl hh
  | 5, v, _, _, _, h => h
  | 6, v, _, _, _, h => h
  | 7, v, _, _, _, h => h
  | 8, v, _, _, _, h => h
  | 9, v, _, _, _, h => h
  | 10, v, _, _, _, h => h
  | 11, v, _, _, _, h => h
  | 12, v, _, _, _, h => h
  | 13, v, _, hh, _, _ => absurd rfl hh
  | 14, v, _, _, _, h => h
  | 15, v, _, _, _, h => h
  | 16, v, _, _, _, h => h
  | 17, v, _, _, _, h => h
  | 18, v, _, _, _, h => h
  | 19, v, _, _, _, h => h
  | 20, v, _, _, _, h => h
  | 21, v, _, _, _, h => h
  | 22, v, _, _, _, h => h
  | 23, v, _, _, _, h => h
  | 24, v, _, _, _, h => h
  | 25, v, _, _, _, h => h
  | 26, v, _, _, hh, _ => absurd rfl hh
  | 27, v, _, _, _, h => h
  | n + 28, v, _, _, _, h => trivial

theorem four_cells {w : World} {g t : Nat} {a b c d : Int} (h : w.heap[g]? = some (.cells #[.int .i64 a, .int .i64 b, .int .i64 c, .int .i64 d] t (0, 0))) (i : Nat) (hi : i < 4) : w.cell? ⟨g, i, none⟩ = some (.int .i64 (([a, b, c, d] : List Int).getD i 0)) := by
  have : i = 0 ∨ i = 1 ∨ i = 2 ∨ i = 3 := by omega
  rcases this with rfl | rfl | rfl | rfl <;> (rw [cell_of_row _ _ _ _ _ _ h]; rfl)
theorem range_row {w : World} {g t : Nat} {cs : List Value} (h : w.heap[g]? = some (.cells cs.toArray t (0, 0))) : w.rangeAt g 0 cs := fun j v hj => by
  rw [Nat.zero_add, cell_of_row w g j _ _ _ h]; simpa using hj
theorem ownB_mono {w : World} {B B' : Nat} {v : Value} {l : List Nat} (h : OwnB w B v l) (hB : B' ≤ B) : OwnB w B' v l := by
  refine ⟨h.1, ?_⟩
  rcases h.2 with h0 | ⟨g, cap, cur, e, hb, r⟩
  · exact .inl h0
  · exact .inr ⟨g, cap, cur, e, Nat.le_trans hB hb, r⟩
theorem three_rows (w : World) (X Y Z : Array Value) (t : Nat) : Below w.heap.size w (((w.alloc (.cells X t)).alloc (.cells Y t)).alloc (.cells Z t)) ∧ (((w.alloc (.cells X t)).alloc (.cells Y t)).alloc (.cells Z t)).heap[w.heap.size]? = some (.cells X t (0, 0)) ∧ (((w.alloc (.cells X t)).alloc (.cells Y t)).alloc (.cells Z t)).heap[w.heap.size + 1]? = some (.cells Y t (0, 0)) ∧ (((w.alloc (.cells X t)).alloc (.cells Y t)).alloc (.cells Z t)).heap[w.heap.size + 1 + 1]? = some (.cells Z t (0, 0)) ∧ (((w.alloc (.cells X t)).alloc (.cells Y t)).alloc (.cells Z t)).heap.size = w.heap.size + 1 + 1 + 1 := by
  have h1 := heap_alloc_new (w.alloc (.cells X t)) (.cells Y t)
  have h2 := heap_alloc_new ((w.alloc (.cells X t)).alloc (.cells Y t)) (.cells Z t)
  simp only [World.size_alloc] at h1 h2
  exact ⟨(((Below.refl _ w).alloc (Nat.le_refl _) _).alloc (by simp) _).alloc (by simp; omega) _, by rw [Below.heap_alloc _ _ _ (by simp; omega), Below.heap_alloc _ _ _ (by simp)]; exact heap_alloc_new w _, by rw [Below.heap_alloc _ _ _ (by simp)]; exact h1, h2, by simp⟩
set_option maxHeartbeats 4000000 in
theorem join_yes (a b : Nd) (w : World) (ha : NdOk a) (hb : NdOk b) (hv : vL [a, b] = true) (hT : Hid (Tabs w)) :
    Calls Tryd.prog 74 #[ndV a, ndV b] w fun e w' => e = .returned (.tuple #[ndV (joinN a b), .int .i64 0]) ∧ Below w.heap.size w w' := by
  have HOA := Lib.hid ha
  have HOB := Lib.hid hb
  have HV := Lib.hid hv
  have HJ := Lib.hid (join_ok ha hb hv)
  have hsum : 0 ≤ a.c ∧ a.c ≤ 1073741824 ∧ 0 ≤ a.p ∧ a.p ≤ 12 * a.c ∧ 0 ≤ b.c ∧ b.c ≤ 1073741824 ∧ 0 ≤ b.p ∧ b.p ≤ 12 * b.c := by
    simp only [vL, List.all_cons, List.all_nil, Bool.and_true, Bool.and_eq_true, sumC] at hv
    have h1 := vN_bd hv.1.1
    have h2 := vN_bd hv.1.2
    omega
  have HW1 : Hid (IntKind.i64.wrap (a.c + b.c) = a.c + b.c) := Lib.hid (IntWalk.i64_in _ (by omega))
  have HW2 : Hid (IntKind.i64.wrap (a.p + b.p) = a.p + b.p) := Lib.hid (IntWalk.i64_in _ (by omega))
  have HZS : Hid (∀ z ∈ ([a.c, a.p, b.c, b.p] : List Int), -9223372036854775808 ≤ z ∧ z ≤ 9223372036854775807) := Lib.hid (fun z hz => by
    simp only [List.mem_cons, List.not_mem_nil, or_false] at hz
    rcases hz with rfl | rfl | rfl | rfl <;> omega)
  have HS1 : Hid ((Tryd.prog.info? 31).map (·.size) = some (ndC (joinN a b)).toArray.size) := Lib.hid (by rw [size34 HJ.out]; simp)
  have HS2 : Hid (34 = (ndC (joinN a b)).toArray.size) := Lib.hid (by simp [ndC_length HJ.out])
  have HSA : Hid ((Tryd.prog.info? 31).map (·.size) = some (ndC a).toArray.size) := Lib.hid (by rw [size34 HOA.out]; simp)
  have HSB : Hid ((Tryd.prog.info? 31).map (·.size) = some (ndC b).toArray.size) := Lib.hid (by rw [size34 HOB.out]; simp)
  obtain ⟨t1, t2, t3, t4, t5⟩ := three_rows w (ndC a).toArray (ndC b).toArray #[.int .u8 0, .int .u8 0, .int .u8 0, .int .u8 0, .int .u8 0, .int .u8 0, .int .u8 0, .int .u8 0, .int .u8 0, .int .u8 0, .int .u8 0, .int .u8 0, .int .u8 0, .int .u8 0, .int .u8 0, .int .u8 0, .int .u8 0, .int .u8 0, .int .u8 0, .int .u8 0, .int .u8 0, .int .u8 0, .int .u8 0, .int .u8 0, .int .u8 0, .int .u8 0, .int .u8 0, .int .u8 0, .int .u8 0, .int .u8 0, .int .u8 0, .int .u8 0, .int .i64 0, .int .i64 0] 31
  have T1 := Lib.hid t1
  have T2 := Lib.hid t2
  have T3 := Lib.hid t3
  have T4 := Lib.hid t4
  have T5 := Lib.hid t5
  clear ha hb hv hsum t1 t2 t3 t4 t5
  go_enter Tryd.func74, Tryd.ntmps74
  unfold ndV
  go_wp2_with (first | (refine wpList_load_row rfl 31 (.tmp 2) rfl w.heap.size rfl 31 _ (0, 0) _ T2.out Tryd.underlying31 rfl HSA.out ?_) | (refine wpList_load_row rfl 31 (.tmp 3) rfl (w.heap.size + 1) rfl 31 _ (0, 0) _ T3.out Tryd.underlying31 rfl HSB.out ?_) | (refine wpList_build_nodes2 rfl (.tmp 6) (.tmp 7) rfl a b rfl rfl HOA.out HOB.out ?_))
  have hq := heap_alloc_new (((w.alloc (.cells (ndC a).toArray 31)).alloc (.cells (ndC b).toArray 31)).alloc (.cells #[.int .u8 0, .int .u8 0, .int .u8 0, .int .u8 0, .int .u8 0, .int .u8 0, .int .u8 0, .int .u8 0, .int .u8 0, .int .u8 0, .int .u8 0, .int .u8 0, .int .u8 0, .int .u8 0, .int .u8 0, .int .u8 0, .int .u8 0, .int .u8 0, .int .u8 0, .int .u8 0, .int .u8 0, .int .u8 0, .int .u8 0, .int .u8 0, .int .u8 0, .int .u8 0, .int .u8 0, .int .u8 0, .int .u8 0, .int .u8 0, .int .u8 0, .int .u8 0, .int .i64 0, .int .i64 0] 31)) (.cells (flatN [a, b]).toArray 31)
  rw [T5.out] at hq
  have hb4 := (Below.refl _ (((w.alloc (.cells (ndC a).toArray 31)).alloc (.cells (ndC b).toArray 31)).alloc (.cells #[.int .u8 0, .int .u8 0, .int .u8 0, .int .u8 0, .int .u8 0, .int .u8 0, .int .u8 0, .int .u8 0, .int .u8 0, .int .u8 0, .int .u8 0, .int .u8 0, .int .u8 0, .int .u8 0, .int .u8 0, .int .u8 0, .int .u8 0, .int .u8 0, .int .u8 0, .int .u8 0, .int .u8 0, .int .u8 0, .int .u8 0, .int .u8 0, .int .u8 0, .int .u8 0, .int .u8 0, .int .u8 0, .int .u8 0, .int .u8 0, .int .u8 0, .int .u8 0, .int .i64 0, .int .i64 0] 31))).alloc (Nat.le_refl _) (.cells (flatN [a, b]).toArray 31)
  have HIN : Hid (InN ((((w.alloc (.cells (ndC a).toArray 31)).alloc (.cells (ndC b).toArray 31)).alloc (.cells #[.int .u8 0, .int .u8 0, .int .u8 0, .int .u8 0, .int .u8 0, .int .u8 0, .int .u8 0, .int .u8 0, .int .u8 0, .int .u8 0, .int .u8 0, .int .u8 0, .int .u8 0, .int .u8 0, .int .u8 0, .int .u8 0, .int .u8 0, .int .u8 0, .int .u8 0, .int .u8 0, .int .u8 0, .int .u8 0, .int .u8 0, .int .u8 0, .int .u8 0, .int .u8 0, .int .u8 0, .int .u8 0, .int .u8 0, .int .u8 0, .int .u8 0, .int .u8 0, .int .i64 0, .int .i64 0] 31)).alloc (.cells (flatN [a, b]).toArray 31)) (some ⟨w.heap.size + 1 + 1 + 1, 0, none⟩) 2 2 [a, b]) := Lib.hid ⟨rfl, Nat.le_refl _, (fun h => by cases h), (fun x hx => by
    simp only [List.mem_cons, List.not_mem_nil, or_false] at hx
    rcases hx with rfl | rfl
    · exact HOA.out
    · exact HOB.out), fun _ => ⟨_, 0, rfl, (Array.getElem?_eq_some_iff.1 hq).1, range_row hq⟩⟩
  refine (valid_any [a, b] _ 2 2 _ (by omega) HIN).mono ?_
  rintro e W1 ⟨rfl, hq1⟩
  rw [HV.out]
  have hb4' := hb4.trans (hq1.mono hb4.size)
  have HB1 := Lib.hid (T1.out.trans (hb4'.mono T1.out.size))
  have HRA := Lib.hid ((hb4'.block w.heap.size (by rw [T5.out]; omega)).trans T2.out)
  have HRB := Lib.hid ((hb4'.block (w.heap.size + 1) (by rw [T5.out]; omega)).trans T3.out)
  have HRR := Lib.hid ((hb4'.block (w.heap.size + 1 + 1) (by rw [T5.out]; omega)).trans T4.out)
  have hT1 := Lib.hid (hT.out.below HB1.out)
  clear hq hb4 hb4' hq1 HIN T1 T2 T3 T4 T5 HSA HSB HV
  go_wp2_with fail

  refine region_flow3 (by kernel_rfl) (by kernel_rfl) (fun i => Nat.beq i 26 || Nat.beq i 27) (fun i => i) (by kernel_rfl) (fun fx => #[Value.agg (ndC a).toArray, Value.agg (ndC b).toArray, Value.pointer (some ⟨w.heap.size, 0, none⟩), Value.pointer (some ⟨w.heap.size + 1, 0, none⟩), Value.pointer (some ⟨w.heap.size + 1 + 1, 0, none⟩), fx 27, Value.agg (ndC a).toArray, Value.agg (ndC b).toArray, Value.slice (some ⟨w.heap.size + 1 + 1 + 1, 0, none⟩) 2 2, Value.bool true, Value.bool false, undef, fx 0, fx 1, fx 2, fx 3, fx 4, fx 5, fx 6, fx 7, fx 8, fx 9, fx 10, fx 11, fx 12, fx 13, fx 14, fx 15, fx 16, fx 17, fx 18, fx 19, fx 20, fx 21, fx 22, fx 23, fx 24, fx 25]) (fun i => bif Nat.beq i 27 then Value.int .i64 (0) else undef) (fun L fx w' => (L 26 = false → Below W1.heap.size W1 w')) (fun fi fv _ fw => wJ w W1.heap.size w.heap.size (w.heap.size + 1) (w.heap.size + 1 + 1) a b fi fv fw) (fun _ => (Below.refl _ _).drew) ?_ ?_
  · refine ⟨?_, ?_, ?_, ?_, ?_, ?_, ?_, ?_, ?_, ?_, ?_, ?_, ?_, ?_, ?_, ?_, ?_, ?_, ?_, ?_, ?_, ?_, ?_, ?_, ?_, ?_, ?_, ?_, trivial⟩
    all_goals intro L fx w' hC hi hcl hdn hd
    · have hnd : L 26 = false := Bool.eq_false_iff.2 (fun h => by have := (hcl 1 0 (hcl 4 1 (hcl 14 4 (hcl 25 14 (hcl 26 25 h (by kernel_rfl)) (by kernel_rfl)) (by kernel_rfl)) (by kernel_rfl)) (by kernel_rfl)); rw [hi] at this; cases this)
      go_wp2_with fail
      exact ⟨_, rfl, (fun _ => hC hnd), rfl, fun _ _ _ _ _ h => h⟩
    · have h0 : fx 0 = Value.pointer (some ⟨w.heap.size, 0, none⟩) := hd.1 rfl
      have hnd : L 26 = false := Bool.eq_false_iff.2 (fun h => by have := (hcl 4 1 (hcl 14 4 (hcl 25 14 (hcl 26 25 h (by kernel_rfl)) (by kernel_rfl)) (by kernel_rfl)) (by kernel_rfl)); rw [hi] at this; cases this)
      go_wp2_with fail
      exact ⟨_, by rw [← h0]; rfl, (fun _ => hC hnd), rfl, fun _ _ _ _ _ h => h⟩
    · have hnd : L 26 = false := Bool.eq_false_iff.2 (fun h => by have := (hcl 3 2 (hcl 4 3 (hcl 14 4 (hcl 25 14 (hcl 26 25 h (by kernel_rfl)) (by kernel_rfl)) (by kernel_rfl)) (by kernel_rfl)) (by kernel_rfl)); rw [hi] at this; cases this)
      go_wp2_with fail
      exact ⟨_, rfl, (fun _ => hC hnd), rfl, fun _ _ _ _ _ h => h⟩
    · have h2 : fx 2 = Value.pointer (some ⟨w.heap.size + 1, 0, none⟩) := hd.1 rfl
      have hnd : L 26 = false := Bool.eq_false_iff.2 (fun h => by have := (hcl 4 3 (hcl 14 4 (hcl 25 14 (hcl 26 25 h (by kernel_rfl)) (by kernel_rfl)) (by kernel_rfl)) (by kernel_rfl)); rw [hi] at this; cases this)
      go_wp2_with fail
      exact ⟨_, by rw [← h2]; rfl, (fun _ => hC hnd), rfl, fun _ _ _ _ _ h => h⟩
    · have h1 : fx 1 = Value.slice (some ⟨w.heap.size, 0, none⟩) 32 32 := hd.1 rfl
      have h3 : fx 3 = Value.slice (some ⟨w.heap.size + 1, 0, none⟩) 32 32 := hd.2.1 rfl
      have hnd : L 26 = false := Bool.eq_false_iff.2 (fun h => by have := (hcl 14 4 (hcl 25 14 (hcl 26 25 h (by kernel_rfl)) (by kernel_rfl)) (by kernel_rfl)); rw [hi] at this; cases this)
      have HBL := Lib.hid (bytes_node (((hC hnd).block _ (Array.getElem?_eq_some_iff.1 HRA.out).1).trans HRA.out))
      have HBR := Lib.hid (bytes_node (((hC hnd).block _ (Array.getElem?_eq_some_iff.1 HRB.out).1).trans HRB.out))
      have hs := (hC hnd).size
      refine wpList_append_full rfl (.tmp 13) (.tmp 15) rfl w.heap.size 32 (w.heap.size + 1) 32 32 a.d b.d h1 h3 HOA.out.len HOB.out.len HBL HBR (by omega) (by omega) ?_
      intro v2 w2 HO2 HB2
      clear hd
      go_wp2_with fail
      exact ⟨v2, by rw [← h1, ← h3]; rfl, fun _ => (hC hnd).trans (HB2.out.mono hs), (ownB_mono HO2.out hs), fun j v t _ _ h => wJ_below HB2.out j v h⟩
    · have hnd : L 26 = false := Bool.eq_false_iff.2 (fun h => by have := (hcl 6 5 (hcl 13 6 (hcl 14 13 (hcl 25 14 (hcl 26 25 h (by kernel_rfl)) (by kernel_rfl)) (by kernel_rfl)) (by kernel_rfl)) (by kernel_rfl)); rw [hi] at this; cases this)
      go_wp2_with fail
      exact ⟨_, rfl, (fun _ => hC hnd), rfl, fun _ _ _ _ _ h => h⟩
    · have h5 : fx 5 = Value.pointer (some ⟨w.heap.size, 32, none⟩) := hd.1 rfl
      have hnd : L 26 = false := Bool.eq_false_iff.2 (fun h => by have := (hcl 13 6 (hcl 14 13 (hcl 25 14 (hcl 26 25 h (by kernel_rfl)) (by kernel_rfl)) (by kernel_rfl)) (by kernel_rfl)); rw [hi] at this; cases this)
      have hc := cell_c HOA.out (((hC hnd).block _ (Array.getElem?_eq_some_iff.1 HRA.out).1).trans HRA.out)
      go_wp2_with fail
      exact ⟨_, by rw [← h5]; rfl, (fun _ => hC hnd), rfl, fun _ _ _ _ _ h => h⟩
    · have hnd : L 26 = false := Bool.eq_false_iff.2 (fun h => by have := (hcl 8 7 (hcl 13 8 (hcl 14 13 (hcl 25 14 (hcl 26 25 h (by kernel_rfl)) (by kernel_rfl)) (by kernel_rfl)) (by kernel_rfl)) (by kernel_rfl)); rw [hi] at this; cases this)
      go_wp2_with fail
      exact ⟨_, rfl, (fun _ => hC hnd), rfl, fun _ _ _ _ _ h => h⟩
    · have h7 : fx 7 = Value.pointer (some ⟨w.heap.size, 33, none⟩) := hd.1 rfl
      have hnd : L 26 = false := Bool.eq_false_iff.2 (fun h => by have := (hcl 13 8 (hcl 14 13 (hcl 25 14 (hcl 26 25 h (by kernel_rfl)) (by kernel_rfl)) (by kernel_rfl)) (by kernel_rfl)); rw [hi] at this; cases this)
      have hc := cell_p HOA.out (((hC hnd).block _ (Array.getElem?_eq_some_iff.1 HRA.out).1).trans HRA.out)
      go_wp2_with fail
      exact ⟨_, by rw [← h7]; rfl, (fun _ => hC hnd), rfl, fun _ _ _ _ _ h => h⟩
    · have hnd : L 26 = false := Bool.eq_false_iff.2 (fun h => by have := (hcl 10 9 (hcl 13 10 (hcl 14 13 (hcl 25 14 (hcl 26 25 h (by kernel_rfl)) (by kernel_rfl)) (by kernel_rfl)) (by kernel_rfl)) (by kernel_rfl)); rw [hi] at this; cases this)
      go_wp2_with fail
      exact ⟨_, rfl, (fun _ => hC hnd), rfl, fun _ _ _ _ _ h => h⟩
    · have h9 : fx 9 = Value.pointer (some ⟨w.heap.size + 1, 32, none⟩) := hd.1 rfl
      have hnd : L 26 = false := Bool.eq_false_iff.2 (fun h => by have := (hcl 13 10 (hcl 14 13 (hcl 25 14 (hcl 26 25 h (by kernel_rfl)) (by kernel_rfl)) (by kernel_rfl)) (by kernel_rfl)); rw [hi] at this; cases this)
      have hc := cell_c HOB.out (((hC hnd).block _ (Array.getElem?_eq_some_iff.1 HRB.out).1).trans HRB.out)
      go_wp2_with fail
      exact ⟨_, by rw [← h9]; rfl, (fun _ => hC hnd), rfl, fun _ _ _ _ _ h => h⟩
    · have hnd : L 26 = false := Bool.eq_false_iff.2 (fun h => by have := (hcl 12 11 (hcl 13 12 (hcl 14 13 (hcl 25 14 (hcl 26 25 h (by kernel_rfl)) (by kernel_rfl)) (by kernel_rfl)) (by kernel_rfl)) (by kernel_rfl)); rw [hi] at this; cases this)
      go_wp2_with fail
      exact ⟨_, rfl, (fun _ => hC hnd), rfl, fun _ _ _ _ _ h => h⟩
    · have h11 : fx 11 = Value.pointer (some ⟨w.heap.size + 1, 33, none⟩) := hd.1 rfl
      have hnd : L 26 = false := Bool.eq_false_iff.2 (fun h => by have := (hcl 13 12 (hcl 14 13 (hcl 25 14 (hcl 26 25 h (by kernel_rfl)) (by kernel_rfl)) (by kernel_rfl)) (by kernel_rfl)); rw [hi] at this; cases this)
      have hc := cell_p HOB.out (((hC hnd).block _ (Array.getElem?_eq_some_iff.1 HRB.out).1).trans HRB.out)
      go_wp2_with fail
      exact ⟨_, by rw [← h11]; rfl, (fun _ => hC hnd), rfl, fun _ _ _ _ _ h => h⟩
    · have h6 : fx 6 = Value.int .i64 (a.c) := hd.1 rfl
      have h8 : fx 8 = Value.int .i64 (a.p) := hd.2.1 rfl
      have h10 : fx 10 = Value.int .i64 (b.c) := hd.2.2.1 rfl
      have h12 : fx 12 = Value.int .i64 (b.p) := hd.2.2.2.1 rfl
      have hnd : L 26 = false := Bool.eq_false_iff.2 (fun h => by have := (hcl 14 13 (hcl 25 14 (hcl 26 25 h (by kernel_rfl)) (by kernel_rfl)) (by kernel_rfl)); rw [hi] at this; cases this)
      go_wp2_with fail
      have hbb : Below w'.heap.size w' (w'.alloc (.cells #[.int .i64 a.c, .int .i64 a.p, .int .i64 b.c, .int .i64 b.p] 3)) := (Below.refl _ _).alloc (Nat.le_refl _) _
      have hq := heap_alloc_new w' (.cells #[.int .i64 a.c, .int .i64 a.p, .int .i64 b.c, .int .i64 b.p] 3)
      exact ⟨_, by rw [← h6, ← h8, ← h10, ← h12]; rfl, fun _ => (hC hnd).trans (hbb.mono (hC hnd).size), ⟨_, rfl, by simp, fun i hi4 => four_cells hq i hi4⟩, fun j v t _ _ h => wJ_below hbb j v h⟩
    · have H4 := Lib.hid (hd.1 rfl)
      have H13 := Lib.hid (hd.2.1 rfl)
      have hnd : L 26 = false := Bool.eq_false_iff.2 (fun h => by have := (hcl 25 14 (hcl 26 25 h (by kernel_rfl)) (by kernel_rfl)); rw [hi] at this; cases this)
      obtain ⟨A4, n4, c4, h4, hn4, hc4, hA4, HR4⟩ := H4.out.slice
      obtain ⟨g, h13, hg, hcs⟩ := H13.out
      have hb14 := hC hnd
      have HCS := Lib.hid hcs
      clear hcs
      have hn64 : n4 ≤ 1000000 := by rw [← hn4.out, List.length_append, HOA.out.len, HOB.out.len]; omega
      have HIN : Hid (In w' A4 n4 c4 (a.d ++ b.d)) := Lib.hid ⟨hn4.out, hc4, hA4.out, (fun x hx => by rcases List.mem_append.1 hx with h' | h'; exact HOA.out.bytes x h'; exact HOB.out.bytes x h'), HR4.out⟩
      go_wp2_with fail
      refine (thash_any sumTag [a.c, a.p, b.c, b.p] g 4 4 A4 n4 c4 (a.d ++ b.d) w' (by decide) HZS rfl (by omega) HCS hg hn64 (Lib.hid (hT1.out.below hb14)) HIN).mono ?_
      rintro e w2 ⟨rfl, hq⟩
      have HQ := Lib.hid hq
      clear hq
      rw [join_d a b]
      go_wp2_with fail
      exact ⟨_, by rw [← h4, ← h13]; rfl, fun _ => hb14.trans (HQ.out.mono hb14.size), rfl, fun j v t _ _ h => wJ_below HQ.out j v h⟩
    · have hnd : L 26 = false := Bool.eq_false_iff.2 (fun h => by have := (hcl 16 15 (hcl 19 16 (hcl 25 19 (hcl 26 25 h (by kernel_rfl)) (by kernel_rfl)) (by kernel_rfl)) (by kernel_rfl)); rw [hi] at this; cases this)
      go_wp2_with fail
      exact ⟨_, rfl, (fun _ => hC hnd), rfl, fun _ _ _ _ _ h => h⟩
    · have h15 : fx 15 = Value.pointer (some ⟨w.heap.size, 32, none⟩) := hd.1 rfl
      have hnd : L 26 = false := Bool.eq_false_iff.2 (fun h => by have := (hcl 19 16 (hcl 25 19 (hcl 26 25 h (by kernel_rfl)) (by kernel_rfl)) (by kernel_rfl)); rw [hi] at this; cases this)
      have hc := cell_c HOA.out (((hC hnd).block _ (Array.getElem?_eq_some_iff.1 HRA.out).1).trans HRA.out)
      go_wp2_with fail
      exact ⟨_, by rw [← h15]; rfl, (fun _ => hC hnd), rfl, fun _ _ _ _ _ h => h⟩
    · have hnd : L 26 = false := Bool.eq_false_iff.2 (fun h => by have := (hcl 18 17 (hcl 19 18 (hcl 25 19 (hcl 26 25 h (by kernel_rfl)) (by kernel_rfl)) (by kernel_rfl)) (by kernel_rfl)); rw [hi] at this; cases this)
      go_wp2_with fail
      exact ⟨_, rfl, (fun _ => hC hnd), rfl, fun _ _ _ _ _ h => h⟩
    · have h17 : fx 17 = Value.pointer (some ⟨w.heap.size + 1, 32, none⟩) := hd.1 rfl
      have hnd : L 26 = false := Bool.eq_false_iff.2 (fun h => by have := (hcl 19 18 (hcl 25 19 (hcl 26 25 h (by kernel_rfl)) (by kernel_rfl)) (by kernel_rfl)); rw [hi] at this; cases this)
      have hc := cell_c HOB.out (((hC hnd).block _ (Array.getElem?_eq_some_iff.1 HRB.out).1).trans HRB.out)
      go_wp2_with fail
      exact ⟨_, by rw [← h17]; rfl, (fun _ => hC hnd), rfl, fun _ _ _ _ _ h => h⟩
    · have h16 : fx 16 = Value.int .i64 (a.c) := hd.1 rfl
      have h18 : fx 18 = Value.int .i64 (b.c) := hd.2.1 rfl
      have hnd : L 26 = false := Bool.eq_false_iff.2 (fun h => by have := (hcl 25 19 (hcl 26 25 h (by kernel_rfl)) (by kernel_rfl)); rw [hi] at this; cases this)
      have hw : IntKind.i64.wrap (a.c + b.c) = a.c + b.c := HW1.out
      go_wp2_with fail
      exact ⟨_, by rw [← h16, ← h18]; rfl, (fun _ => hC hnd), rfl, fun _ _ _ _ _ h => h⟩
    · have hnd : L 26 = false := Bool.eq_false_iff.2 (fun h => by have := (hcl 21 20 (hcl 24 21 (hcl 25 24 (hcl 26 25 h (by kernel_rfl)) (by kernel_rfl)) (by kernel_rfl)) (by kernel_rfl)); rw [hi] at this; cases this)
      go_wp2_with fail
      exact ⟨_, rfl, (fun _ => hC hnd), rfl, fun _ _ _ _ _ h => h⟩
    · have h20 : fx 20 = Value.pointer (some ⟨w.heap.size, 33, none⟩) := hd.1 rfl
      have hnd : L 26 = false := Bool.eq_false_iff.2 (fun h => by have := (hcl 24 21 (hcl 25 24 (hcl 26 25 h (by kernel_rfl)) (by kernel_rfl)) (by kernel_rfl)); rw [hi] at this; cases this)
      have hc := cell_p HOA.out (((hC hnd).block _ (Array.getElem?_eq_some_iff.1 HRA.out).1).trans HRA.out)
      go_wp2_with fail
      exact ⟨_, by rw [← h20]; rfl, (fun _ => hC hnd), rfl, fun _ _ _ _ _ h => h⟩
    · have hnd : L 26 = false := Bool.eq_false_iff.2 (fun h => by have := (hcl 23 22 (hcl 24 23 (hcl 25 24 (hcl 26 25 h (by kernel_rfl)) (by kernel_rfl)) (by kernel_rfl)) (by kernel_rfl)); rw [hi] at this; cases this)
      go_wp2_with fail
      exact ⟨_, rfl, (fun _ => hC hnd), rfl, fun _ _ _ _ _ h => h⟩
    · have h22 : fx 22 = Value.pointer (some ⟨w.heap.size + 1, 33, none⟩) := hd.1 rfl
      have hnd : L 26 = false := Bool.eq_false_iff.2 (fun h => by have := (hcl 24 23 (hcl 25 24 (hcl 26 25 h (by kernel_rfl)) (by kernel_rfl)) (by kernel_rfl)); rw [hi] at this; cases this)
      have hc := cell_p HOB.out (((hC hnd).block _ (Array.getElem?_eq_some_iff.1 HRB.out).1).trans HRB.out)
      go_wp2_with fail
      exact ⟨_, by rw [← h22]; rfl, (fun _ => hC hnd), rfl, fun _ _ _ _ _ h => h⟩
    · have h21 : fx 21 = Value.int .i64 (a.p) := hd.1 rfl
      have h23 : fx 23 = Value.int .i64 (b.p) := hd.2.1 rfl
      have hnd : L 26 = false := Bool.eq_false_iff.2 (fun h => by have := (hcl 25 24 (hcl 26 25 h (by kernel_rfl)) (by kernel_rfl)); rw [hi] at this; cases this)
      have hw : IntKind.i64.wrap (a.p + b.p) = a.p + b.p := HW2.out
      go_wp2_with fail
      exact ⟨_, by rw [← h21, ← h23]; rfl, (fun _ => hC hnd), rfl, fun _ _ _ _ _ h => h⟩
    · have h14 : fx 14 = dgV (joinN a b).d := hd.1 rfl
      have h19 : fx 19 = Value.int .i64 (a.c + b.c) := hd.2.1 rfl
      have h24 : fx 24 = Value.int .i64 (a.p + b.p) := hd.2.2.1 rfl
      have hnd : L 26 = false := Bool.eq_false_iff.2 (fun h => by have := (hcl 26 25 h (by kernel_rfl)); rw [hi] at this; cases this)
      refine wpList_build_node rfl (.tmp 26) (.tmp 31) (.tmp 36) rfl (joinN a b).d (a.c + b.c) (a.p + b.p) HJ.out.len h14 h19 h24 ?_
      clear hd
      go_wp2_with fail
      exact ⟨_, by rw [← h14, ← h19, ← h24]; rfl, fun _ => hC hnd, rfl, fun _ _ _ _ _ h => h⟩
    · have h25 : fx 25 = ndV (joinN a b) := hd.1 rfl
      have hb26 := hC hi
      have hrow := (hb26.block _ (Array.getElem?_eq_some_iff.1 HRR.out).1).trans HRR.out
      refine wpList_store_row rfl 31 (.tmp 4) (.tmp 37) rfl (w.heap.size + 1 + 1) (ndC (joinN a b)).toArray rfl h25 31 _ hrow HS1.out HS2.out (ndC_one _) ?_
      clear hd
      go_wp2_with fail
      refine ⟨undef, by rw [← h25]; rfl, fun h => (updB_self h).elim, ⟨setRow_heap _ _ _ _ _ _ hrow, below_setRow (HB1.out.trans (hb26.mono HB1.out.size)) (by omega) _⟩, fun j v t hj hu h => ?_⟩
      refine wJ_pure j v ?_ ?_ ?_ h <;> intro e <;> subst e
      · refine absurd hu (not_needed (E := fun i => Nat.beq i 26 || Nat.beq i 27) (j := 4) [14] ?_ ?_ ?_)
        · kernel_rfl
        · kernel_rfl
        · intro m hm hne; simp at hm; subst hm; exact hcl 25 14 (hdn 25 (by kernel_rfl)) (by kernel_rfl)
      · refine absurd hu (not_needed (E := fun i => Nat.beq i 26 || Nat.beq i 27) (j := 13) [14] ?_ ?_ ?_)
        · kernel_rfl
        · kernel_rfl
        · intro m hm hne; simp at hm; subst hm; exact hcl 25 14 (hdn 25 (by kernel_rfl)) (by kernel_rfl)
      · rw [hi] at hj; cases hj
    · go_wp2_with fail
      exact ⟨_, rfl, fun h => hC h, rfl, fun _ _ _ _ _ h => h⟩
  · intro L fx w' hC hS
    have H26 := Lib.hid (hS 26 (by decide) rfl)
    have H27 := Lib.hid (hS 27 (by decide) rfl)

    have h27 : fx 27 = .int .i64 0 := H27.out
    rw [h27]
    clear hS h27 H27
    go_wp2_with fail
    have hl := run_loadVar_row (P := Tryd.prog) w' (w.heap.size + 1 + 1) 31 31 (ndC (joinN a b)).toArray (0, 0) _ H26.out.1 Tryd.underlying31 rfl HS1.out
    refine bodyPost_ret (v := .tuple #[ndV (joinN a b), .int .i64 0]) ?_ rfl ⟨rfl, H26.out.2⟩
    unfold ndV
    simp [results, Tryd.results74, asAddr, hl]
end Go.Proofs.YtmfmgeapecapiaaDoor
namespace Go.Proofs.YtmfmgeapecapiaaDoor
open Go.RowKit SzSha SzTree
set_option linter.unusedVariables false
set_option maxRecDepth 100000
def saltTag : ByteArray := ⟨#[115, 97, 108, 116]⟩
def saltT : List Nat := [115, 97, 108, 116]
theorem saltTag_eq : strL saltTag = saltT := rfl
/-- the salt of a leaf -/
def saltN (l : List Nat) (k at_ : Int) : List Nat := hashT saltT l [k, at_]
theorem saltN_length (l : List Nat) (k at_ : Int) : (saltN l k at_).length = 32 := tagged_length _ _
theorem salt_d (l : List Nat) (k z : Int) : dgV (hashT (strL saltTag) l [k, z]) = dgV (saltN l k z) := by rw [saltTag_eq]; simp only [saltN]
theorem two_rows2 (w : World) (X Y : Array Value) (t : Nat) (o : Obj) : Below w.heap.size w (((w.alloc (.cells X t)).alloc (.cells Y t)).alloc o) ∧ (((w.alloc (.cells X t)).alloc (.cells Y t)).alloc o).heap[w.heap.size]? = some (.cells X t (0, 0)) ∧ (((w.alloc (.cells X t)).alloc (.cells Y t)).alloc o).heap[w.heap.size + 1]? = some (.cells Y t (0, 0)) ∧ (((w.alloc (.cells X t)).alloc (.cells Y t)).alloc o).heap[w.heap.size + 1 + 1]? = some o ∧ (((w.alloc (.cells X t)).alloc (.cells Y t)).alloc o).heap.size = w.heap.size + 1 + 1 + 1 := by
  have h1 := heap_alloc_new (w.alloc (.cells X t)) (.cells Y t)
  have h2 := heap_alloc_new ((w.alloc (.cells X t)).alloc (.cells Y t)) o
  simp only [World.size_alloc] at h1 h2
  exact ⟨(((Below.refl _ w).alloc (Nat.le_refl _) _).alloc (by simp) _).alloc (by simp; omega) _, by rw [Below.heap_alloc _ _ _ (by simp; omega), Below.heap_alloc _ _ _ (by simp)]; exact heap_alloc_new w _, by rw [Below.heap_alloc _ _ _ (by simp)]; exact h1, h2, by simp⟩
set_option maxHeartbeats 4000000 in
theorem salt_any (l : List Nat) (k z : Int) (w : World) (hl : Hid (l.length = 32)) (hb : Hid (Bytes l)) (hk1 : -9223372036854775808 ≤ k) (hk2 : k ≤ 9223372036854775807) (hz1 : -9223372036854775808 ≤ z) (hz2 : z ≤ 9223372036854775807) (hT : Hid (Tabs w)) :
    Calls Tryd.prog 28 #[dgV l, .int .i64 k, .int .i64 z] w fun e w' => e = .returned (dgV (saltN l k z)) ∧ Below w.heap.size w w' := by
  have HZS : Hid (∀ y ∈ ([k, z] : List Int), -9223372036854775808 ≤ y ∧ y ≤ 9223372036854775807) := Lib.hid (fun y hy => by
    simp only [List.mem_cons, List.not_mem_nil, or_false] at hy
    rcases hy with rfl | rfl <;> omega)
  clear hk1 hk2 hz1 hz2
  obtain ⟨X, HX⟩ : ∃ X, Hid ((l.map fun x => Value.int .u8 (x : Nat)).toArray = X) := ⟨_, Lib.hid rfl⟩
  have e0 : dgV l = .agg X := by unfold dgV; rw [HX.out]
  rw [e0]
  clear e0
  obtain ⟨t1, t2, t3, t4, t5⟩ := two_rows2 w X #[.int .u8 0, .int .u8 0, .int .u8 0, .int .u8 0, .int .u8 0, .int .u8 0, .int .u8 0, .int .u8 0, .int .u8 0, .int .u8 0, .int .u8 0, .int .u8 0, .int .u8 0, .int .u8 0, .int .u8 0, .int .u8 0, .int .u8 0, .int .u8 0, .int .u8 0, .int .u8 0, .int .u8 0, .int .u8 0, .int .u8 0, .int .u8 0, .int .u8 0, .int .u8 0, .int .u8 0, .int .u8 0, .int .u8 0, .int .u8 0, .int .u8 0, .int .u8 0] 25 (.cells #[.int .i64 k, .int .i64 z] 3)
  have T1 := Lib.hid t1
  have T3 := Lib.hid t3
  have T4 := Lib.hid t4
  have T5 := Lib.hid t5
  have HIN : Hid (In (((w.alloc (.cells X 25)).alloc (.cells #[.int .u8 0, .int .u8 0, .int .u8 0, .int .u8 0, .int .u8 0, .int .u8 0, .int .u8 0, .int .u8 0, .int .u8 0, .int .u8 0, .int .u8 0, .int .u8 0, .int .u8 0, .int .u8 0, .int .u8 0, .int .u8 0, .int .u8 0, .int .u8 0, .int .u8 0, .int .u8 0, .int .u8 0, .int .u8 0, .int .u8 0, .int .u8 0, .int .u8 0, .int .u8 0, .int .u8 0, .int .u8 0, .int .u8 0, .int .u8 0, .int .u8 0, .int .u8 0] 25)).alloc (.cells #[.int .i64 k, .int .i64 z] 3)) (some ⟨w.heap.size, 0, none⟩) 32 32 l) := Lib.hid ⟨hl.out, Nat.le_refl _, (fun h => by cases h), hb.out, fun _ => ⟨_, 0, rfl, by rw [t5]; omega, bytesAt_arr (by rw [HX.out]; exact t2)⟩⟩
  clear t1 t2 t3 t4 t5
  go_enter Tryd.func28, Tryd.ntmps28
  go_wp2_with fail
  refine (thash_any saltTag [k, z] (w.heap.size + 1 + 1) 2 2 _ 32 32 l _ (by decide) HZS rfl (by omega) (Lib.hid (fun i hi => ?_)) (by rw [T5.out]; omega) (by omega) (Lib.hid (hT.out.below T1.out)) HIN).mono ?_
  · have : i = 0 ∨ i = 1 := by omega
    rcases this with rfl | rfl <;> (rw [cell_of_row _ _ _ _ _ _ T4.out]; rfl)
  rintro e w2 ⟨rfl, hq⟩
  rw [salt_d]
  have HB2 := Lib.hid (T1.out.trans (hq.mono T1.out.size))
  have HR2 := Lib.hid ((hq.block (w.heap.size + 1) (by rw [T5.out]; omega)).trans T3.out)
  obtain ⟨Y, HY⟩ : ∃ Y, Hid (((saltN l k z).map fun x => Value.int .u8 (x : Nat)).toArray = Y) := ⟨_, Lib.hid rfl⟩
  have HEX : Hid (dgV (saltN l k z) = .agg Y) := Lib.hid (by unfold dgV; rw [HY.out])
  have hYs : Hid (32 = Y.size) := Lib.hid (by rw [← HY.out]; simp [saltN_length])
  have hsz : Hid ((Tryd.prog.info? 25).map (·.size) = some Y.size) := Lib.hid (by rw [← HY.out]; exact size32 _ (saltN_length _ _ _))
  have hone : Hid (Y.all (·.oneCell') = true) := Lib.hid (by rw [← HY.out]; exact oneCells _)
  rw [HEX.out]
  clear hq
  go_wp2_with (refine wpList_store_row rfl 25 (.tmp 6) (.tmp 11) rfl (w.heap.size + 1) Y rfl rfl 25 _ HR2.out hsz.out hYs.out hone.out ?_)
  refine bodyPost_ret (results_cell_row rfl _ _ (w.heap.size + 1) 25 _ (0, 0) _ rfl (setRow_heap w2 (w.heap.size + 1) _ _ _ _ HR2.out) Tryd.underlying25 rfl hsz.out) rfl ?_
  exact ⟨by rw [HEX.out], below_setRow HB2.out (Nat.le_succ _) _⟩
end Go.Proofs.YtmfmgeapecapiaaDoor
namespace Go.Proofs.YtmfmgeapecapiaaDoor
open Go.RowKit SzSha SzTree
set_option linter.unusedVariables false
set_option maxRecDepth 100000
def lineTag : ByteArray := ⟨#[108, 105, 110, 101]⟩
def lineT : List Nat := [108, 105, 110, 101]
theorem lineTag_eq : strL lineTag = lineT := rfl
/-- the leaf of a line -/
def leafN (c0 c1 c2 c3 c4 : Int) (l : List Nat) : Nd := ⟨hashT lineT l [c0, c1, c2, c3, c4], c3, c2 * c3⟩
theorem leaf_d (c0 c1 c2 c3 c4 : Int) (l : List Nat) : dgV (hashT (strL lineTag) l [c0, c1, c2, c3, c4]) = dgV (leafN c0 c1 c2 c3 c4 l).d := by rw [lineTag_eq]; simp only [leafN]
theorem five_cells {w : World} {g t : Nat} {a b c d e : Int} (h : w.heap[g]? = some (.cells #[.int .i64 a, .int .i64 b, .int .i64 c, .int .i64 d, .int .i64 e] t (0, 0))) (i : Nat) (hi : i < 5) : w.cell? ⟨g, i, none⟩ = some (.int .i64 (([a, b, c, d, e] : List Int).getD i 0)) := by
  have : i = 0 ∨ i = 1 ∨ i = 2 ∨ i = 3 ∨ i = 4 := by omega
  rcases this with rfl | rfl | rfl | rfl | rfl <;> (rw [cell_of_row _ _ _ _ _ _ h]; rfl)
theorem mul_leaf {a b : Int} (h1 : 0 ≤ a) (h2 : a ≤ 12) (h3 : 0 ≤ b) (h4 : b ≤ 60) : 0 ≤ a * b ∧ a * b ≤ 12 * b := ⟨Int.mul_nonneg h1 h3, Int.mul_le_mul_of_nonneg_right h2 h3⟩
theorem three_rows3 (w : World) (X Y Z : Array Value) (t u v : Nat) : Below w.heap.size w (((w.alloc (.cells X t)).alloc (.cells Y u)).alloc (.cells Z v)) ∧ (((w.alloc (.cells X t)).alloc (.cells Y u)).alloc (.cells Z v)).heap[w.heap.size]? = some (.cells X t (0, 0)) ∧ (((w.alloc (.cells X t)).alloc (.cells Y u)).alloc (.cells Z v)).heap[w.heap.size + 1]? = some (.cells Y u (0, 0)) ∧ (((w.alloc (.cells X t)).alloc (.cells Y u)).alloc (.cells Z v)).heap[w.heap.size + 1 + 1]? = some (.cells Z v (0, 0)) := by
  have h1 := heap_alloc_new (w.alloc (.cells X t)) (.cells Y u)
  have h2 := heap_alloc_new ((w.alloc (.cells X t)).alloc (.cells Y u)) (.cells Z v)
  simp only [World.size_alloc] at h1 h2
  exact ⟨(((Below.refl _ w).alloc (Nat.le_refl _) _).alloc (by simp) _).alloc (by simp; omega) _, by rw [Below.heap_alloc _ _ _ (by simp; omega), Below.heap_alloc _ _ _ (by simp)]; exact heap_alloc_new w _, by rw [Below.heap_alloc _ _ _ (by simp)]; exact h1, h2⟩

def wF (W0 : World) (ba : Nat) (bs : Nat) (br : Nat) (c0 : Int) (c1 : Int) (c2 : Int) (c3 : Int) (c4 : Int) (l : List Nat) : Nat → Value → World → Prop
  | 0, fv, _ => fv = Value.slice (some ⟨bs, 0, none⟩) 32 32
  | 1, fv, _ => fv = Value.pointer (some ⟨ba, 0, none⟩)
  | 2, fv, _ => fv = Value.int .i64 (c0)
  | 3, fv, _ => fv = Value.pointer (some ⟨ba, 1, none⟩)
  | 4, fv, _ => fv = Value.int .i64 (c1)
  | 5, fv, _ => fv = Value.pointer (some ⟨ba, 2, none⟩)
  | 6, fv, _ => fv = Value.int .i64 (c2)
  | 7, fv, _ => fv = Value.pointer (some ⟨ba, 3, none⟩)
  | 8, fv, _ => fv = Value.int .i64 (c3)
  | 9, fv, _ => fv = Value.pointer (some ⟨ba, 4, none⟩)
  | 10, fv, _ => fv = Value.int .i64 (c4)
  | 11, fv, fw => ∃ g, fv = .slice (some ⟨g, 0, none⟩) 5 5 ∧ g < fw.heap.size ∧ ∀ i, i < 5 → fw.cell? ⟨g, i, none⟩ = some (.int .i64 (([c0, c1, c2, c3, c4] : List Int).getD i 0))
  | 12, fv, _ => fv = dgV (leafN c0 c1 c2 c3 c4 l).d
  | 13, fv, _ => fv = Value.pointer (some ⟨ba, 3, none⟩)
  | 14, fv, _ => fv = Value.int .i64 (c3)
  | 15, fv, _ => fv = Value.pointer (some ⟨ba, 2, none⟩)
  | 16, fv, _ => fv = Value.int .i64 (c2)
  | 17, fv, _ => fv = Value.pointer (some ⟨ba, 3, none⟩)
  | 18, fv, _ => fv = Value.int .i64 (c3)
  | 19, fv, _ => fv = Value.int .i64 (c2 * c3)
  | 20, fv, _ => fv = ndV (leafN c0 c1 c2 c3 c4 l)
  | 21, fv, fw => fw.heap[br]? = some (.cells (ndC (leafN c0 c1 c2 c3 c4 l)).toArray 31 (0, 0)) ∧ Below W0.heap.size W0 fw
  | 22, fv, _ => fv = Value.int .i64 (0)
  | _, _, _ => True
theorem wF_below {W0 : World} {ba : Nat} {bs : Nat} {br : Nat} {c0 : Int} {c1 : Int} {c2 : Int} {c3 : Int} {c4 : Int} {l : List Nat} {w w' : World} (hb : Below w.heap.size w w') : ∀ j v, wF W0 ba bs br c0 c1 c2 c3 c4 l j v w → wF W0 ba bs br c0 c1 c2 c3 c4 l j v w'
  | 0, v, h => h
  | 1, v, h => h
  | 2, v, h => h
  | 3, v, h => h
  | 4, v, h => h
  | 5, v, h => h
  | 6, v, h => h
  | 7, v, h => h
  | 8, v, h => h
  | 9, v, h => h
  | 10, v, h => h
  | 11, v, ⟨g, h1, h2, h3⟩ => ⟨g, h1, Nat.lt_of_lt_of_le h2 hb.size, fun i hi => (hb.cell (p := ⟨g, i, none⟩) h2).trans (h3 i hi)⟩
  | 12, v, h => h
  | 13, v, h => h
  | 14, v, h => h
  | 15, v, h => h
  | 16, v, h => h
  | 17, v, h => h
  | 18, v, h => h
  | 19, v, h => h
  | 20, v, h => h
  | 21, v, h => ⟨(hb.block br (Array.getElem?_eq_some_iff.1 h.1).1).trans h.1, h.2.trans (hb.mono h.2.size)⟩
  | 22, v, h => h
  | n + 23, v, h => trivial
theorem wF_pure {W0 : World} {ba : Nat} {bs : Nat} {br : Nat} {c0 : Int} {c1 : Int} {c2 : Int} {c3 : Int} {c4 : Int} {l : List Nat} {w w' : World} : ∀ j v, j ≠ 11 → j ≠ 21 → wF W0 ba bs br c0 c1 c2 c3 c4 l j v w → wF W0 ba bs br c0 c1 c2 c3 c4 l j v w'
  | 0, v, _, _, h => h
  | 1, v, _, _, h => h
  | 2, v, _, _, h => h
  | 3, v, _, _, h => h
  | 4, v, _, _, h => h
  | 5, v, _, _, h => h
  | 6, v, _, _, h => h
  | 7, v, _, _, h => h
  | 8, v, _, _, h => h
  | 9, v, _, _, h => h
  | 10, v, _, _, h => h
  | 11, v, hh, _, _ => absurd rfl hh
  | 12, v, _, _, h => h
  | 13, v, _, _, h => h
  | 14, v, _, _, h => h
  | 15, v, _, _, h => h
  | 16, v, _, _, h => h
  | 17, v, _, _, h => h
  | 18, v, _, _, h => h
  | 19, v, _, _, h => h
  | 20, v, _, _, h => h
  | 21, v, _, hh, _ => absurd rfl hh
  | 22, v, _, _, h => h
  | n + 23, v, _, _, h => trivial

set_option maxHeartbeats 4000000 in
theorem leaf_yes (c0 c1 c2 c3 c4 : Int) (l : List Nat) (w : World) (hv : 0 ≤ c0 ∧ c0 < 4096 ∧ 0 ≤ c1 ∧ c1 < 1024 ∧ 0 ≤ c2 ∧ c2 ≤ 12 ∧ 0 ≤ c3 ∧ c3 ≤ 60 ∧ 0 ≤ c4 ∧ c4 < 7) (hl : Hid (l.length = 32)) (hb : Hid (Bytes l)) (hT : Hid (Tabs w)) :
    Calls Tryd.prog 27 #[.agg #[.int .i64 c0, .int .i64 c1, .int .i64 c2, .int .i64 c3, .int .i64 c4], dgV l] w fun e w' => e = .returned (.tuple #[ndV (leafN c0 c1 c2 c3 c4 l), .int .i64 0]) ∧ Below w.heap.size w w' := by
  have hm := mul_leaf (a := c2) (b := c3) (by omega) (by omega) (by omega) (by omega)
  have HJ : Hid (NdOk (leafN c0 c1 c2 c3 c4 l)) := Lib.hid ⟨tagged_length _ _, tagged_bytes _ _, by simp only [leafN]; omega, by simp only [leafN]; omega⟩
  have HW1 : Hid (IntKind.i64.wrap (c2 * c3) = c2 * c3) := Lib.hid (IntWalk.i64_in _ (by omega))
  have HZS : Hid (∀ z ∈ ([c0, c1, c2, c3, c4] : List Int), -9223372036854775808 ≤ z ∧ z ≤ 9223372036854775807) := Lib.hid (fun z hz => by
    simp only [List.mem_cons, List.not_mem_nil, or_false] at hz
    rcases hz with rfl | rfl | rfl | rfl | rfl <;> omega)
  have HS1 : Hid ((Tryd.prog.info? 31).map (·.size) = some (ndC (leafN c0 c1 c2 c3 c4 l)).toArray.size) := Lib.hid (by rw [size34 HJ.out]; simp)
  have HS2 : Hid (34 = (ndC (leafN c0 c1 c2 c3 c4 l)).toArray.size) := Lib.hid (by simp [ndC_length HJ.out])
  have d0 : decide (c0 < 0) = false := decide_eq_false (by omega)
  have d1 : decide (4096 ≤ c0) = false := decide_eq_false (by omega)
  have d2 : decide (c1 < 0) = false := decide_eq_false (by omega)
  have d3 : decide (1024 ≤ c1) = false := decide_eq_false (by omega)
  have d4 : decide (c2 < 0) = false := decide_eq_false (by omega)
  have d5 : decide (12 < c2) = false := decide_eq_false (by omega)
  have d6 : decide (c3 < 0) = false := decide_eq_false (by omega)
  have d7 : decide (60 < c3) = false := decide_eq_false (by omega)
  have d8 : decide (c4 < 0) = false := decide_eq_false (by omega)
  have d9 : decide (7 ≤ c4) = false := decide_eq_false (by omega)
  clear hv hm
  obtain ⟨X, HX⟩ : ∃ X, Hid ((l.map fun x => Value.int .u8 (x : Nat)).toArray = X) := ⟨_, Lib.hid rfl⟩
  have e0 : dgV l = .agg X := by unfold dgV; rw [HX.out]
  rw [e0]
  clear e0
  obtain ⟨t1, t2, t3, t4⟩ := three_rows3 w #[.int .i64 c0, .int .i64 c1, .int .i64 c2, .int .i64 c3, .int .i64 c4] X #[.int .u8 0, .int .u8 0, .int .u8 0, .int .u8 0, .int .u8 0, .int .u8 0, .int .u8 0, .int .u8 0, .int .u8 0, .int .u8 0, .int .u8 0, .int .u8 0, .int .u8 0, .int .u8 0, .int .u8 0, .int .u8 0, .int .u8 0, .int .u8 0, .int .u8 0, .int .u8 0, .int .u8 0, .int .u8 0, .int .u8 0, .int .u8 0, .int .u8 0, .int .u8 0, .int .u8 0, .int .u8 0, .int .u8 0, .int .u8 0, .int .u8 0, .int .u8 0, .int .i64 0, .int .i64 0] 41 25 31
  have HB1 := Lib.hid t1
  have HRL := Lib.hid t2
  have HRS := Lib.hid t3
  have HRR := Lib.hid t4
  have hT1 := Lib.hid (hT.out.below HB1.out)
  have k0 := five_cells t2 0 (by omega)
  have k1 := five_cells t2 1 (by omega)
  have k2 := five_cells t2 2 (by omega)
  have k3 := five_cells t2 3 (by omega)
  have k4 := five_cells t2 4 (by omega)
  clear t1 t2 t3 t4
  go_enter Tryd.func27, Tryd.ntmps27
  go_wp2_with fail
  clear k0 k1 k2 k3 k4
  generalize (((w.alloc (.cells #[.int .i64 c0, .int .i64 c1, .int .i64 c2, .int .i64 c3, .int .i64 c4] 41)).alloc (.cells X 25)).alloc (.cells #[.int .u8 0, .int .u8 0, .int .u8 0, .int .u8 0, .int .u8 0, .int .u8 0, .int .u8 0, .int .u8 0, .int .u8 0, .int .u8 0, .int .u8 0, .int .u8 0, .int .u8 0, .int .u8 0, .int .u8 0, .int .u8 0, .int .u8 0, .int .u8 0, .int .u8 0, .int .u8 0, .int .u8 0, .int .u8 0, .int .u8 0, .int .u8 0, .int .u8 0, .int .u8 0, .int .u8 0, .int .u8 0, .int .u8 0, .int .u8 0, .int .u8 0, .int .u8 0, .int .i64 0, .int .i64 0] 31)) = W1 at *

  refine region_flow3 (by kernel_rfl) (by kernel_rfl) (fun i => Nat.beq i 21 || Nat.beq i 22) (fun i => i) (by kernel_rfl) (fun fx => #[Value.agg #[Value.int IntKind.i64 c0, Value.int IntKind.i64 c1, Value.int IntKind.i64 c2, Value.int IntKind.i64 c3, Value.int IntKind.i64 c4], Value.agg X, Value.pointer (some { block := w.heap.size, off := 0 }), Value.pointer (some { block := w.heap.size + 1, off := 0 }), Value.pointer (some { block := w.heap.size + 1 + 1, off := 0 }), fx 22, Value.pointer (some { block := w.heap.size, off := 0 }), Value.int IntKind.i64 c0, Value.bool false, Value.bool false, Value.pointer (some { block := w.heap.size, off := 0 }), Value.int IntKind.i64 c0, Value.bool false, Value.bool false, Value.bool false, Value.pointer (some { block := w.heap.size, off := 1 }), Value.int IntKind.i64 c1, Value.bool false, Value.bool false, Value.bool false, Value.pointer (some { block := w.heap.size, off := 1 }), Value.int IntKind.i64 c1, Value.bool false, Value.bool false, Value.bool false, Value.pointer (some { block := w.heap.size, off := 2 }), Value.int IntKind.i64 c2, Value.bool false, Value.bool false, Value.bool false, Value.pointer (some { block := w.heap.size, off := 2 }), Value.int IntKind.i64 c2, Value.bool false, Value.bool false, Value.bool false, Value.pointer (some { block := w.heap.size, off := 3 }), Value.int IntKind.i64 c3, Value.bool false, Value.bool false, Value.bool false, Value.pointer (some { block := w.heap.size, off := 3 }), Value.int IntKind.i64 c3, Value.bool false, Value.bool false, Value.bool false, Value.pointer (some { block := w.heap.size, off := 4 }), Value.int IntKind.i64 c4, Value.bool false, Value.bool false, Value.bool false, Value.pointer (some { block := w.heap.size, off := 4 }), Value.int IntKind.i64 c4, Value.bool false, Value.bool false, undef, fx 0, fx 1, fx 2, fx 3, fx 4, fx 5, fx 6, fx 7, fx 8, fx 9, fx 10, fx 11, fx 12, fx 13, fx 14, fx 15, fx 16, fx 17, fx 18, fx 19, fx 20]) (fun i => bif Nat.beq i 22 then Value.int IntKind.i64 0 else undef) (fun L fx w' => (L 21 = false → Below W1.heap.size W1 w')) (fun fi fv _ fw => wF w w.heap.size (w.heap.size + 1) (w.heap.size + 1 + 1) c0 c1 c2 c3 c4 l fi fv fw) (fun _ => (Below.refl _ _).drew) ?_ ?_
  · refine ⟨?_, ?_, ?_, ?_, ?_, ?_, ?_, ?_, ?_, ?_, ?_, ?_, ?_, ?_, ?_, ?_, ?_, ?_, ?_, ?_, ?_, ?_, ?_, trivial⟩
    all_goals intro L fx w' hC hi hcl hdn hd
    · have hnd : L 21 = false := Bool.eq_false_iff.2 (fun h => by have := (hcl 12 0 (hcl 20 12 (hcl 21 20 h (by kernel_rfl)) (by kernel_rfl)) (by kernel_rfl)); rw [hi] at this; cases this)
      go_wp2_with fail
      exact ⟨_, rfl, (fun _ => hC hnd), rfl, fun _ _ _ _ _ h => h⟩
    · have hnd : L 21 = false := Bool.eq_false_iff.2 (fun h => by have := (hcl 2 1 (hcl 11 2 (hcl 12 11 (hcl 20 12 (hcl 21 20 h (by kernel_rfl)) (by kernel_rfl)) (by kernel_rfl)) (by kernel_rfl)) (by kernel_rfl)); rw [hi] at this; cases this)
      go_wp2_with fail
      exact ⟨_, rfl, (fun _ => hC hnd), rfl, fun _ _ _ _ _ h => h⟩
    · have h1 : fx 1 = Value.pointer (some ⟨w.heap.size, 0, none⟩) := hd.1 rfl
      have hnd : L 21 = false := Bool.eq_false_iff.2 (fun h => by have := (hcl 11 2 (hcl 12 11 (hcl 20 12 (hcl 21 20 h (by kernel_rfl)) (by kernel_rfl)) (by kernel_rfl)) (by kernel_rfl)); rw [hi] at this; cases this)
      have hc : w'.cell? ⟨w.heap.size, 0, none⟩ = some (.int .i64 c0) := five_cells (((hC hnd).block _ (Array.getElem?_eq_some_iff.1 HRL.out).1).trans HRL.out) 0 (by omega)
      go_wp2_with fail
      exact ⟨_, by rw [← h1]; rfl, (fun _ => hC hnd), rfl, fun _ _ _ _ _ h => h⟩
    · have hnd : L 21 = false := Bool.eq_false_iff.2 (fun h => by have := (hcl 4 3 (hcl 11 4 (hcl 12 11 (hcl 20 12 (hcl 21 20 h (by kernel_rfl)) (by kernel_rfl)) (by kernel_rfl)) (by kernel_rfl)) (by kernel_rfl)); rw [hi] at this; cases this)
      go_wp2_with fail
      exact ⟨_, rfl, (fun _ => hC hnd), rfl, fun _ _ _ _ _ h => h⟩
    · have h3 : fx 3 = Value.pointer (some ⟨w.heap.size, 1, none⟩) := hd.1 rfl
      have hnd : L 21 = false := Bool.eq_false_iff.2 (fun h => by have := (hcl 11 4 (hcl 12 11 (hcl 20 12 (hcl 21 20 h (by kernel_rfl)) (by kernel_rfl)) (by kernel_rfl)) (by kernel_rfl)); rw [hi] at this; cases this)
      have hc : w'.cell? ⟨w.heap.size, 1, none⟩ = some (.int .i64 c1) := five_cells (((hC hnd).block _ (Array.getElem?_eq_some_iff.1 HRL.out).1).trans HRL.out) 1 (by omega)
      go_wp2_with fail
      exact ⟨_, by rw [← h3]; rfl, (fun _ => hC hnd), rfl, fun _ _ _ _ _ h => h⟩
    · have hnd : L 21 = false := Bool.eq_false_iff.2 (fun h => by have := (hcl 6 5 (hcl 11 6 (hcl 12 11 (hcl 20 12 (hcl 21 20 h (by kernel_rfl)) (by kernel_rfl)) (by kernel_rfl)) (by kernel_rfl)) (by kernel_rfl)); rw [hi] at this; cases this)
      go_wp2_with fail
      exact ⟨_, rfl, (fun _ => hC hnd), rfl, fun _ _ _ _ _ h => h⟩
    · have h5 : fx 5 = Value.pointer (some ⟨w.heap.size, 2, none⟩) := hd.1 rfl
      have hnd : L 21 = false := Bool.eq_false_iff.2 (fun h => by have := (hcl 11 6 (hcl 12 11 (hcl 20 12 (hcl 21 20 h (by kernel_rfl)) (by kernel_rfl)) (by kernel_rfl)) (by kernel_rfl)); rw [hi] at this; cases this)
      have hc : w'.cell? ⟨w.heap.size, 2, none⟩ = some (.int .i64 c2) := five_cells (((hC hnd).block _ (Array.getElem?_eq_some_iff.1 HRL.out).1).trans HRL.out) 2 (by omega)
      go_wp2_with fail
      exact ⟨_, by rw [← h5]; rfl, (fun _ => hC hnd), rfl, fun _ _ _ _ _ h => h⟩
    · have hnd : L 21 = false := Bool.eq_false_iff.2 (fun h => by have := (hcl 8 7 (hcl 11 8 (hcl 12 11 (hcl 20 12 (hcl 21 20 h (by kernel_rfl)) (by kernel_rfl)) (by kernel_rfl)) (by kernel_rfl)) (by kernel_rfl)); rw [hi] at this; cases this)
      go_wp2_with fail
      exact ⟨_, rfl, (fun _ => hC hnd), rfl, fun _ _ _ _ _ h => h⟩
    · have h7 : fx 7 = Value.pointer (some ⟨w.heap.size, 3, none⟩) := hd.1 rfl
      have hnd : L 21 = false := Bool.eq_false_iff.2 (fun h => by have := (hcl 11 8 (hcl 12 11 (hcl 20 12 (hcl 21 20 h (by kernel_rfl)) (by kernel_rfl)) (by kernel_rfl)) (by kernel_rfl)); rw [hi] at this; cases this)
      have hc : w'.cell? ⟨w.heap.size, 3, none⟩ = some (.int .i64 c3) := five_cells (((hC hnd).block _ (Array.getElem?_eq_some_iff.1 HRL.out).1).trans HRL.out) 3 (by omega)
      go_wp2_with fail
      exact ⟨_, by rw [← h7]; rfl, (fun _ => hC hnd), rfl, fun _ _ _ _ _ h => h⟩
    · have hnd : L 21 = false := Bool.eq_false_iff.2 (fun h => by have := (hcl 10 9 (hcl 11 10 (hcl 12 11 (hcl 20 12 (hcl 21 20 h (by kernel_rfl)) (by kernel_rfl)) (by kernel_rfl)) (by kernel_rfl)) (by kernel_rfl)); rw [hi] at this; cases this)
      go_wp2_with fail
      exact ⟨_, rfl, (fun _ => hC hnd), rfl, fun _ _ _ _ _ h => h⟩
    · have h9 : fx 9 = Value.pointer (some ⟨w.heap.size, 4, none⟩) := hd.1 rfl
      have hnd : L 21 = false := Bool.eq_false_iff.2 (fun h => by have := (hcl 11 10 (hcl 12 11 (hcl 20 12 (hcl 21 20 h (by kernel_rfl)) (by kernel_rfl)) (by kernel_rfl)) (by kernel_rfl)); rw [hi] at this; cases this)
      have hc : w'.cell? ⟨w.heap.size, 4, none⟩ = some (.int .i64 c4) := five_cells (((hC hnd).block _ (Array.getElem?_eq_some_iff.1 HRL.out).1).trans HRL.out) 4 (by omega)
      go_wp2_with fail
      exact ⟨_, by rw [← h9]; rfl, (fun _ => hC hnd), rfl, fun _ _ _ _ _ h => h⟩
    · have h2 : fx 2 = Value.int .i64 (c0) := hd.1 rfl
      have h4 : fx 4 = Value.int .i64 (c1) := hd.2.1 rfl
      have h6 : fx 6 = Value.int .i64 (c2) := hd.2.2.1 rfl
      have h8 : fx 8 = Value.int .i64 (c3) := hd.2.2.2.1 rfl
      have h10 : fx 10 = Value.int .i64 (c4) := hd.2.2.2.2.1 rfl
      have hnd : L 21 = false := Bool.eq_false_iff.2 (fun h => by have := (hcl 12 11 (hcl 20 12 (hcl 21 20 h (by kernel_rfl)) (by kernel_rfl)) (by kernel_rfl)); rw [hi] at this; cases this)
      go_wp2_with fail
      have hbb : Below w'.heap.size w' (w'.alloc (.cells #[.int .i64 c0, .int .i64 c1, .int .i64 c2, .int .i64 c3, .int .i64 c4] 3)) := (Below.refl _ _).alloc (Nat.le_refl _) _
      have hq := heap_alloc_new w' (.cells #[.int .i64 c0, .int .i64 c1, .int .i64 c2, .int .i64 c3, .int .i64 c4] 3)
      exact ⟨_, by rw [← h2, ← h4, ← h6, ← h8, ← h10]; rfl, fun _ => (hC hnd).trans (hbb.mono (hC hnd).size), ⟨_, rfl, by simp, fun i hi5 => five_cells hq i hi5⟩, fun j v t _ _ h => wF_below hbb j v h⟩
    · have h0 : fx 0 = Value.slice (some ⟨w.heap.size + 1, 0, none⟩) 32 32 := hd.1 rfl
      have H11 := Lib.hid (hd.2.1 rfl)
      have hnd : L 21 = false := Bool.eq_false_iff.2 (fun h => by have := (hcl 20 12 (hcl 21 20 h (by kernel_rfl)) (by kernel_rfl)); rw [hi] at this; cases this)
      obtain ⟨g, h11, hg, hcs⟩ := H11.out
      have hb12 := hC hnd
      have HCS := Lib.hid hcs
      clear hcs
      have HIN : Hid (In w' (some ⟨w.heap.size + 1, 0, none⟩) 32 32 l) := Lib.hid ⟨hl.out, Nat.le_refl _, (fun h => by cases h), hb.out, fun _ => ⟨_, 0, rfl, Nat.lt_of_lt_of_le (Array.getElem?_eq_some_iff.1 HRS.out).1 hb12.size, bytesAt_arr (by rw [HX.out]; exact ((hC hnd).block _ (Array.getElem?_eq_some_iff.1 HRS.out).1).trans HRS.out)⟩⟩
      go_wp2_with fail
      refine (thash_any lineTag [c0, c1, c2, c3, c4] g 5 5 _ 32 32 l w' (by decide) HZS rfl (by omega) HCS hg (by omega) (Lib.hid (hT1.out.below hb12)) HIN).mono ?_
      rintro e w2 ⟨rfl, hq⟩
      have HQ := Lib.hid hq
      clear hq
      rw [leaf_d]
      go_wp2_with fail
      exact ⟨_, by rw [← h0, ← h11]; rfl, fun _ => hb12.trans (HQ.out.mono hb12.size), rfl, fun j v t _ _ h => wF_below HQ.out j v h⟩
    · have hnd : L 21 = false := Bool.eq_false_iff.2 (fun h => by have := (hcl 14 13 (hcl 20 14 (hcl 21 20 h (by kernel_rfl)) (by kernel_rfl)) (by kernel_rfl)); rw [hi] at this; cases this)
      go_wp2_with fail
      exact ⟨_, rfl, (fun _ => hC hnd), rfl, fun _ _ _ _ _ h => h⟩
    · have h13 : fx 13 = Value.pointer (some ⟨w.heap.size, 3, none⟩) := hd.1 rfl
      have hnd : L 21 = false := Bool.eq_false_iff.2 (fun h => by have := (hcl 20 14 (hcl 21 20 h (by kernel_rfl)) (by kernel_rfl)); rw [hi] at this; cases this)
      have hc : w'.cell? ⟨w.heap.size, 3, none⟩ = some (.int .i64 c3) := five_cells (((hC hnd).block _ (Array.getElem?_eq_some_iff.1 HRL.out).1).trans HRL.out) 3 (by omega)
      go_wp2_with fail
      exact ⟨_, by rw [← h13]; rfl, (fun _ => hC hnd), rfl, fun _ _ _ _ _ h => h⟩
    · have hnd : L 21 = false := Bool.eq_false_iff.2 (fun h => by have := (hcl 16 15 (hcl 19 16 (hcl 20 19 (hcl 21 20 h (by kernel_rfl)) (by kernel_rfl)) (by kernel_rfl)) (by kernel_rfl)); rw [hi] at this; cases this)
      go_wp2_with fail
      exact ⟨_, rfl, (fun _ => hC hnd), rfl, fun _ _ _ _ _ h => h⟩
    · have h15 : fx 15 = Value.pointer (some ⟨w.heap.size, 2, none⟩) := hd.1 rfl
      have hnd : L 21 = false := Bool.eq_false_iff.2 (fun h => by have := (hcl 19 16 (hcl 20 19 (hcl 21 20 h (by kernel_rfl)) (by kernel_rfl)) (by kernel_rfl)); rw [hi] at this; cases this)
      have hc : w'.cell? ⟨w.heap.size, 2, none⟩ = some (.int .i64 c2) := five_cells (((hC hnd).block _ (Array.getElem?_eq_some_iff.1 HRL.out).1).trans HRL.out) 2 (by omega)
      go_wp2_with fail
      exact ⟨_, by rw [← h15]; rfl, (fun _ => hC hnd), rfl, fun _ _ _ _ _ h => h⟩
    · have hnd : L 21 = false := Bool.eq_false_iff.2 (fun h => by have := (hcl 18 17 (hcl 19 18 (hcl 20 19 (hcl 21 20 h (by kernel_rfl)) (by kernel_rfl)) (by kernel_rfl)) (by kernel_rfl)); rw [hi] at this; cases this)
      go_wp2_with fail
      exact ⟨_, rfl, (fun _ => hC hnd), rfl, fun _ _ _ _ _ h => h⟩
    · have h17 : fx 17 = Value.pointer (some ⟨w.heap.size, 3, none⟩) := hd.1 rfl
      have hnd : L 21 = false := Bool.eq_false_iff.2 (fun h => by have := (hcl 19 18 (hcl 20 19 (hcl 21 20 h (by kernel_rfl)) (by kernel_rfl)) (by kernel_rfl)); rw [hi] at this; cases this)
      have hc : w'.cell? ⟨w.heap.size, 3, none⟩ = some (.int .i64 c3) := five_cells (((hC hnd).block _ (Array.getElem?_eq_some_iff.1 HRL.out).1).trans HRL.out) 3 (by omega)
      go_wp2_with fail
      exact ⟨_, by rw [← h17]; rfl, (fun _ => hC hnd), rfl, fun _ _ _ _ _ h => h⟩
    · have h16 : fx 16 = Value.int .i64 (c2) := hd.1 rfl
      have h18 : fx 18 = Value.int .i64 (c3) := hd.2.1 rfl
      have hnd : L 21 = false := Bool.eq_false_iff.2 (fun h => by have := (hcl 20 19 (hcl 21 20 h (by kernel_rfl)) (by kernel_rfl)); rw [hi] at this; cases this)
      have hw : IntKind.i64.wrap (c2 * c3) = c2 * c3 := HW1.out
      go_wp2_with fail
      exact ⟨_, by rw [← h16, ← h18]; rfl, (fun _ => hC hnd), rfl, fun _ _ _ _ _ h => h⟩
    · have h12 : fx 12 = dgV (leafN c0 c1 c2 c3 c4 l).d := hd.1 rfl
      have h14 : fx 14 = Value.int .i64 (c3) := hd.2.1 rfl
      have h19 : fx 19 = Value.int .i64 (c2 * c3) := hd.2.2.1 rfl
      have hnd : L 21 = false := Bool.eq_false_iff.2 (fun h => by have := (hcl 21 20 h (by kernel_rfl)); rw [hi] at this; cases this)
      refine wpList_build_node rfl (.tmp 67) (.tmp 69) (.tmp 74) rfl (leafN c0 c1 c2 c3 c4 l).d c3 (c2 * c3) HJ.out.len h12 h14 h19 ?_
      clear hd
      go_wp2_with fail
      exact ⟨_, by rw [← h12, ← h19, ← h14]; rfl, fun _ => hC hnd, rfl, fun _ _ _ _ _ h => h⟩
    · have h20 : fx 20 = ndV (leafN c0 c1 c2 c3 c4 l) := hd.1 rfl
      have hb21 := hC hi
      have hrow := (hb21.block _ (Array.getElem?_eq_some_iff.1 HRR.out).1).trans HRR.out
      refine wpList_store_row rfl 31 (.tmp 4) (.tmp 75) rfl (w.heap.size + 1 + 1) (ndC (leafN c0 c1 c2 c3 c4 l)).toArray rfl h20 31 _ hrow HS1.out HS2.out (ndC_one _) ?_
      clear hd
      go_wp2_with fail
      refine ⟨undef, by rw [← h20]; rfl, fun h => (updB_self h).elim, ⟨setRow_heap _ _ _ _ _ _ hrow, below_setRow (HB1.out.trans (hb21.mono HB1.out.size)) (by omega) _⟩, fun j v t hj hu h => ?_⟩
      refine wF_pure j v ?_ ?_ h <;> intro e <;> subst e
      · refine absurd hu (not_needed (E := fun i => Nat.beq i 21 || Nat.beq i 22) (j := 11) [12] ?_ ?_ ?_)
        · kernel_rfl
        · kernel_rfl
        · intro m hm hne; simp at hm; subst hm; exact hcl 20 12 (hdn 20 (by kernel_rfl)) (by kernel_rfl)
      · rw [hi] at hj; cases hj
    · go_wp2_with fail
      exact ⟨_, rfl, fun h => hC h, rfl, fun _ _ _ _ _ h => h⟩
  · intro L fx w' hC hS
    have H21 := Lib.hid (hS 21 (by decide) rfl)
    have H22 := Lib.hid (hS 22 (by decide) rfl)

    have h22 : fx 22 = .int .i64 0 := H22.out
    rw [h22]
    clear hS h22 H22
    go_wp2_with fail
    have hl := run_loadVar_row (P := Tryd.prog) w' (w.heap.size + 1 + 1) 31 31 (ndC (leafN c0 c1 c2 c3 c4 l)).toArray (0, 0) _ H21.out.1 Tryd.underlying31 rfl HS1.out
    refine bodyPost_ret (v := .tuple #[ndV (leafN c0 c1 c2 c3 c4 l), .int .i64 0]) ?_ rfl ⟨rfl, H21.out.2⟩
    unfold ndV
    simp [results, Tryd.results27, asAddr, hl]
end Go.Proofs.YtmfmgeapecapiaaDoor
namespace Go.Proofs.YtmfmgeapecapiaaDoor
open Go.RowKit SzSha SzTree
set_option linter.unusedVariables false
set_option maxRecDepth 100000
def zeroN : Nd := ⟨List.replicate 32 0, 0, 0⟩
theorem zeroN_ok : NdOk zeroN := ⟨by simp [zeroN], (fun x hx => by have := List.eq_of_mem_replicate hx; omega), by simp [zeroN], by simp [zeroN]⟩
theorem zeroN_cells : (ndC zeroN).toArray = #[.int .u8 0, .int .u8 0, .int .u8 0, .int .u8 0, .int .u8 0, .int .u8 0, .int .u8 0, .int .u8 0, .int .u8 0, .int .u8 0, .int .u8 0, .int .u8 0, .int .u8 0, .int .u8 0, .int .u8 0, .int .u8 0, .int .u8 0, .int .u8 0, .int .u8 0, .int .u8 0, .int .u8 0, .int .u8 0, .int .u8 0, .int .u8 0, .int .u8 0, .int .u8 0, .int .u8 0, .int .u8 0, .int .u8 0, .int .u8 0, .int .u8 0, .int .u8 0, .int .i64 0, .int .i64 0] := by simp [zeroN, ndC, List.replicate]
set_option maxHeartbeats 4000000 in
theorem join_no (a b : Nd) (w : World) (ha : NdOk a) (hb : NdOk b) (hv : vL [a, b] = false) :
    Calls Tryd.prog 74 #[ndV a, ndV b] w fun e w' => e = .returned (.tuple #[ndV zeroN, .int .i64 410]) ∧ Below w.heap.size w w' := by
  have HOA := Lib.hid ha
  have HOB := Lib.hid hb
  have HV := Lib.hid hv
  have HSA : Hid ((Tryd.prog.info? 31).map (·.size) = some (ndC a).toArray.size) := Lib.hid (by rw [size34 HOA.out]; simp)
  have HSB : Hid ((Tryd.prog.info? 31).map (·.size) = some (ndC b).toArray.size) := Lib.hid (by rw [size34 HOB.out]; simp)
  have HSZ : Hid ((Tryd.prog.info? 31).map (·.size) = some (ndC zeroN).toArray.size) := Lib.hid (by rw [size34 zeroN_ok]; simp)
  have HZ2 : Hid ((ndC zeroN).toArray.size = (ndC zeroN).toArray.size) := Lib.hid rfl
  have HZC := Lib.hid zeroN_cells
  obtain ⟨t1, t2, t3, t4, t5⟩ := three_rows w (ndC a).toArray (ndC b).toArray (ndC zeroN).toArray 31
  have T1 := Lib.hid t1
  have T2 := Lib.hid t2
  have T3 := Lib.hid t3
  have T4 := Lib.hid t4
  have T5 := Lib.hid t5
  rw [HZC.out] at T1 T2 T3 T5
  clear ha hb hv t1 t2 t3 t4 t5
  go_enter Tryd.func74, Tryd.ntmps74
  unfold ndV
  go_wp2_with (first | (refine wpList_load_row rfl 31 (.tmp 2) rfl w.heap.size rfl 31 _ (0, 0) _ T2.out Tryd.underlying31 rfl HSA.out ?_) | (refine wpList_load_row rfl 31 (.tmp 3) rfl (w.heap.size + 1) rfl 31 _ (0, 0) _ T3.out Tryd.underlying31 rfl HSB.out ?_) | (refine wpList_build_nodes2 rfl (.tmp 6) (.tmp 7) rfl a b rfl rfl HOA.out HOB.out ?_))
  rw [← HZC.out]
  rw [HZC.out] at T4
  rw [← HZC.out] at T1 T4 T5
  have hq := heap_alloc_new (((w.alloc (.cells (ndC a).toArray 31)).alloc (.cells (ndC b).toArray 31)).alloc (.cells (ndC zeroN).toArray 31)) (.cells (flatN [a, b]).toArray 31)
  rw [T5.out] at hq
  have hb4 := (Below.refl _ (((w.alloc (.cells (ndC a).toArray 31)).alloc (.cells (ndC b).toArray 31)).alloc (.cells (ndC zeroN).toArray 31))).alloc (Nat.le_refl _) (.cells (flatN [a, b]).toArray 31)
  have HIN : Hid (InN ((((w.alloc (.cells (ndC a).toArray 31)).alloc (.cells (ndC b).toArray 31)).alloc (.cells (ndC zeroN).toArray 31)).alloc (.cells (flatN [a, b]).toArray 31)) (some ⟨w.heap.size + 1 + 1 + 1, 0, none⟩) 2 2 [a, b]) := Lib.hid ⟨rfl, Nat.le_refl _, (fun h => by cases h), (fun x hx => by
    simp only [List.mem_cons, List.not_mem_nil, or_false] at hx
    rcases hx with rfl | rfl
    · exact HOA.out
    · exact HOB.out), fun _ => ⟨_, 0, rfl, (Array.getElem?_eq_some_iff.1 hq).1, range_row hq⟩⟩
  refine (valid_any [a, b] _ 2 2 _ (by omega) HIN).mono ?_
  rintro e W1 ⟨rfl, hq1⟩
  rw [HV.out]
  have hb4' := hb4.trans (hq1.mono hb4.size)
  have HB1 := Lib.hid (T1.out.trans (hb4'.mono T1.out.size))
  have HRR := Lib.hid ((hb4'.block (w.heap.size + 1 + 1) (by rw [T5.out]; omega)).trans T4.out)
  clear hq hb4 hb4' hq1 HIN T1 T2 T3 T4 T5 HSA HSB HV HZC
  go_wp2_with (first | (refine wpList_load_row rfl 31 (.tmp 4) rfl (w.heap.size + 1 + 1) rfl 31 _ (0, 0) _ HRR.out Tryd.underlying31 rfl HSZ.out ?_) | (refine wpList_store_row rfl 31 (.tmp 4) (.tmp 11) rfl (w.heap.size + 1 + 1) (ndC zeroN).toArray ?ha ?hb 31 (ndC zeroN).toArray HRR.out HSZ.out rfl (ndC_one zeroN) ?hc))
  have hr := setRow_heap W1 (w.heap.size + 1 + 1) _ (ndC zeroN).toArray _ _ HRR.out
  have hl := run_loadVar_row (P := Tryd.prog) (W1.setRow (w.heap.size + 1 + 1) (ndC zeroN).toArray) (w.heap.size + 1 + 1) 31 31 (ndC zeroN).toArray (0, 0) _ hr Tryd.underlying31 rfl HSZ.out
  refine bodyPost_ret (v := .tuple #[ndV zeroN, .int .i64 410]) ?_ rfl ⟨rfl, below_setRow HB1.out (by omega) _⟩
  unfold ndV
  simp [results, Tryd.results74, asAddr, hl]
/-- Join -/
def joinR (a b : Nd) : Nd := if vL [a, b] then joinN a b else zeroN
def joinE (a b : Nd) : Int := if vL [a, b] then 0 else 410
theorem join_any (a b : Nd) (w : World) (ha : NdOk a) (hb : NdOk b) (hT : Hid (Tabs w)) :
    Calls Tryd.prog 74 #[ndV a, ndV b] w fun e w' => e = .returned (.tuple #[ndV (joinR a b), .int .i64 (joinE a b)]) ∧ Below w.heap.size w w' := by
  by_cases h : vL [a, b] = true
  · rw [joinR, joinE, if_pos h, if_pos h]; exact join_yes a b w ha hb h hT
  · rw [joinR, joinE, if_neg h, if_neg h]; exact join_no a b w ha hb (by simpa using h)
end Go.Proofs.YtmfmgeapecapiaaDoor
