/- Operations inside a round of a range over a function: rows loaded and stored, slices of nodes and bools built and appended. sizar/tree.Leaf, every line; slices of three nodes built. Digests compared. Nodes compared; sizarref41.Same. A digest that came in by value. Nodes, lines and slices of them that came in. Claims and transcripts that came in. Trees of digests, paths and climbs: plain functions. The kit of layers 42 and 43. sizar/digest: leaf, node. sizar/disclose: in, validLine, validClaim, the numbers of lines and claims, lines, claims. sizar/digest: half. -/
import Derived.Maps.OwnIn
import Derived.Maps.AppendAt
import Derived.OwnWalkIn
import Derived.RangeFuncNested
import Derived.RangeFuncFrom
import Derived.RangeFuncBox
import Derived.Test.YtmfmgeapecapiaaGreatDoorCS3
import Derived.Test.YtmfmgeapecapiaaGreatDoorCS1
import Derived.Stop.BytesEq
import Derived.Test.YtmfmgeapecapiaaGreatDoorCS2
import Derived.Laws.StructEq
import Derived.Deep.Slices
import Derived.Test.YtmfmgeapecapiaaGreatDoorShelf
import Derived.IntWalk
import Derived.Lib.ItoaNum
set_option maxHeartbeats 16000001
namespace Go.Proofs.YtmfmgeapecapiaaGreatDoor
open Go.RowKit SzSha SzTree
set_option linter.unusedVariables false
set_option maxRecDepth 100000
section
variable {F : Fence} {nF : Nat} {P : Program} {ops : Array Oper} {rest : List Oper} {o : Oper} {a : Act} {w : World} {Q : Exit → Act → World → Prop}
theorem wpListIn_buildSlice (hgd : o.guard = none) (t e : TypeId) (len : Nat) (parts : Array (Nat × Operand)) (ho : o.op = .buildSlice t len parts)
  (cells : Array Value) (ie : TypeInfo) (z : Value)
  (hu : P.underlying t = some (.slice e)) (hie : P.info? e = some ie) (hz : ie.zero = some z) (hsmall : ¬ len * ie.size > 2 ^ 24) (hpos : ¬ len * ie.size = 0)
  (hf : Instr.fill (fun i => some (i * ie.size, ie.size)) ((Array.range (len * ie.size)).map (z.cells[· % z.cells.size]!)) (parts.map fun (i, x) => (i, a.eval x)).toList = some cells)
  (h : wpListIn F nF P ops Q rest (a.put o.dst (.slice (some ⟨w.heap.size, 0, none⟩) len len)) (w.alloc (.cells cells e))) : wpListIn F nF P ops Q (o :: rest) a w := by
 refine wpListIn_plain hgd fun K hK => ?_
 unfold Oper.wpIn
 refine ⟨by simp [Oper.about, ho], ?_⟩
 rw [Oper.semAt_plain F _ _ (by rw [ho]; intro c hc'; cases hc')]
 unfold execOp
 simp only [ho, Sem.run_bind, run_buildSlice w t e len _ cells ie z hu hie hz hsmall hpos hf, Result.andThen_ok]
 exact hK _ _ h
end
theorem info_node : ∃ i, Tryz.prog.info? 39 = some i ∧ i.zero = some (.agg (Array.replicate 32 (.int .u8 0) ++ #[.int .i64 0, .int .i64 0])) ∧ i.size = 34 ∧ i.bytes = 48 := by
 refine ⟨_, rfl, ?_, ?_, ?_⟩ <;> kernel_rfl
theorem fill_node1 {n : Nd} (hn : NdOk n) {i : TypeInfo} {z : Value} (hs : i.size = 34) : Instr.fill (fun j => some (j * i.size, i.size)) ((Array.range (1 * i.size)).map (z.cells[· % z.cells.size]!)) [(0, ndV n)] = some (flatN [n]).toArray := by
 rw [hs]
 have e1 : ([(0, ndV n)] : List (Nat × Value)) = (([ndV n] : List Value).zipIdx 0).map fun x => (x.2, x.1) := by simp
 rw [e1, Great.fill_whole (by omega) [ndV n] _ (fun v hv => by
  simp only [List.mem_cons, List.not_mem_nil, or_false] at hv
  subst hv
  rw [nd_cells]; simpa using ndC_length hn) (by simp)]
 rfl
theorem wpList_build_nodes1 {w : World} {ops : Array Oper} {rest : List Oper} {o : Oper} {a : Act} {Q : Exit → Act → World → Prop} (hg : o.guard = none) (x : Operand)
  (ho : o.op = .buildSlice 30 1 #[(0, x)]) (n : Nd) (hx : a.eval x = ndV n) (hn : NdOk n)
  (h : wpList Tryz.prog ops Q rest (a.put o.dst (.slice (some ⟨w.heap.size, 0, none⟩) 1 1)) (w.alloc (.cells (flatN [n]).toArray 39))) : wpList Tryz.prog ops Q (o :: rest) a w := by
 obtain ⟨i0, hi, hz, hs, _⟩ := info_node
 refine wpList_buildSlice hg 30 39 1 _ ho _ i0 _ Tryz.underlying30 hi hz (by rw [hs]; omega) (by rw [hs]; omega) ?_ h
 have e1 : (#[(0, x)].map fun (i, x) => (i, a.eval x)).toList = [(0, ndV n)] := by simp [hx]
 rw [e1]; exact fill_node1 hn hs
/-- a slice of nodes that the call made -/
def OwnN (w : World) (base : Nat) (v : Value) (ls : List Nd) : Prop := w.ownsRow base 39 34 v ls.length (flatN ls)
theorem OwnN.nil (w : World) (base : Nat) : OwnN w base (.slice none 0 0) [] := ⟨rfl, .inl ⟨rfl, rfl⟩⟩
theorem flatN_append (a b : List Nd) : flatN (a ++ b) = flatN a ++ flatN b := by unfold flatN; rw [List.flatMap_append]
theorem flatN_one (ls : List Nd) : ∀ u ∈ flatN ls, u.oneCell' = true := fun u hu => by
 obtain ⟨n, _, h⟩ := List.mem_flatMap.1 hu
 have := ndC_one n
 rw [Array.all_eq_true_iff_forall_mem] at this
 exact this u (by simpa using h)
theorem there_row {w : World} {g : Nat} {cur : Array Value} {t : TypeId} (h : w.heap[g]? = some (.cells cur t (0, 0))) {m : Nat} (hm : m ≤ cur.size) : w.there g 0 m := fun j hj => by
 rw [Nat.zero_add]
 exact ⟨by rw [cell_of_row w g j cur _ _ h]; simp; omega, by simp [World.frozen?, h]⟩
theorem OwnN.kept {w w' : World} {base : Nat} {v : Value} {ls : List Nd} (h : OwnN w base v ls) (hk : ∀ g, v.ownBlock = some g → w'.heap[g]? = w.heap[g]?) : OwnN w' base v ls := by
 refine ⟨h.1, ?_⟩
 rcases h.2 with h0 | ⟨g, cap, cur, rfl, hb, hh, r⟩
 ·exact .inl h0
 ·exact .inr ⟨g, cap, cur, rfl, hb, (hk g rfl).trans hh, r⟩
theorem OwnN.block {w : World} {base : Nat} {v : Value} {ls : List Nd} (h : OwnN w base v ls) (g : Nat) (hg : v.ownBlock = some g) : base ≤ g ∧ g < w.heap.size ∧ ∃ cur, w.heap[g]? = some (.cells cur 39 (0, 0)) := by
 rcases h.2 with ⟨rfl, h0⟩ | ⟨g', cap, cur, rfl, hb, hh, r⟩
 ·cases hg
 ·have : g' = g := by simpa [Value.ownBlock] using hg
  subst this
  exact ⟨hb, (Array.getElem?_eq_some_iff.1 hh).1, cur, hh⟩
theorem OwnN.below {w w' : World} {base : Nat} {v : Value} {ls : List Nd} (h : OwnN w base v ls) (hb : Below w.heap.size w w') : OwnN w' base v ls := h.kept fun g hg => hb.block g (h.block g hg).2.1
theorem OwnN.form {w : World} {base : Nat} {v : Value} {ls : List Nd} (h : OwnN w base v ls) : ∃ A n c, v = .slice A n c := by
 rcases h.2 with ⟨rfl, h0⟩ | ⟨g, cap, cur, rfl, r⟩
 ·exact ⟨_, _, _, rfl⟩
 ·exact ⟨_, _, _, rfl⟩
/-- the slice, read -/
theorem OwnN.slice {w : World} {base : Nat} {v : Value} {ls : List Nd} (h : OwnN w base v ls) (ho : ∀ x ∈ ls, NdOk x) : ∃ A n c, v = .slice A n c ∧ InN w A n c ls ∧ (∀ x, A = some x → ∃ g, x = ⟨g, 0, none⟩ ∧ base ≤ g ∧ w.there g 0 (n * 34)) := by
 rcases h.2 with ⟨rfl, h0⟩ | ⟨g, cap, cur, rfl, hb, hh, hc, hm, hs, ht⟩
 ·exact ⟨none, 0, 0, rfl, ⟨h0, Nat.le_refl _, fun _ => rfl, ho, fun h1 => by omega⟩, fun x hx => by cases hx⟩
 ·refine ⟨_, _, cap, rfl, ⟨rfl, hc, (fun e => by cases e), ho, fun _ => ⟨g, 0, rfl, (Array.getElem?_eq_some_iff.1 hh).1, fun j u hj => ?_⟩⟩, fun x hx => by cases hx; exact ⟨g, rfl, hb, there_row hh (by rw [hs]; exact Nat.mul_le_mul_right 34 hc)⟩⟩
  have hj2 : j < ls.length * 34 := by rw [← flatN_length ls ho]; exact (List.getElem?_eq_some_iff.1 hj).1
  rw [Nat.zero_add, cell_of_row w g j cur _ _ hh]
  rw [← ht, List.getElem?_take_of_lt hj2] at hj
  simpa using hj
/-- append of a node to a slice of the call's own -/
theorem append_node_post {base : Nat} {w w' : World} {v v' : Value} {ls : List Nd} {n : Nd} (hown : OwnN w base v ls) (h1 : w'.ownsRow base 39 34 v' (ls.length + 1) (flatN ls ++ flatN [n])) (h2 : w.grownBy w' v.ownBlock) (hbase : base ≤ w.heap.size) : OwnN w' base v' (ls ++ [n]) := by
 unfold OwnN
 rw [flatN_append, List.length_append]; exact h1
theorem wpListIn_append_node {F : Fence} {nF : Nat} {w : World} {ops : Array Oper} {rest : List Oper} {o : Oper} {a : Act} {Q : Exit → Act → World → Prop} (hgd : o.guard = none) (s x : Operand)
  (ho : o.op = .call { callee := .builtin .append, args := #[s, x], argTypes := #[30, 30] })
  (base : Nat) (v : Value) (ls : List Nd) (n : Nd) (hs : a.eval s = v) (hown : Hid (OwnN w base v ls)) (hn : NdOk n) (g : Nat) (hx : a.eval x = .slice (some ⟨g, 0, none⟩) 1 1)
  (hr : Hid (w.heap[g]? = some (.cells (flatN [n]).toArray 39 (0, 0)))) (hlen : ls.length ≤ 100000) (hbase : base ≤ w.heap.size)
  (h : ∀ v' w', Hid (OwnN w' base v' (ls ++ [n])) → Hid (w.grownBy w' v.ownBlock) → wpListIn F nF Tryz.prog ops Q rest (a.put o.dst v') w') : wpListIn F nF Tryz.prog ops Q (o :: rest) a w := by
 obtain ⟨i0, hi, hz, hz1, hz2⟩ := info_node
 refine wpListIn_append_own_at _ hgd s x _ ho base _ i0 _ 34 48 Tryz.underlying30 hi hz hz1 hz2 (by simp [Value.cells]) (by omega) v _ _ hs hown.out ⟨g, 0, none⟩ 1 1 (flatN [n]) hx (by rw [flatN_length _ (fun y hy => by simp at hy; subst hy; exact hn)]; rfl) (fun j u hu => by rw [add_row]; exact range_row hr.out j u hu) (flatN_one _) (by unfold maxLen; omega) (by omega) hbase ?_
 intro v' w' h1 h2 h3 h4
 have := append_node_post hown.out h1 h2 hbase
 exact h v' w' (Lib.hid this) (Lib.hid h2)
theorem wpList_append_node {w : World} {ops : Array Oper} {rest : List Oper} {o : Oper} {a : Act} {Q : Exit → Act → World → Prop} (hgd : o.guard = none) (s x : Operand)
  (ho : o.op = .call { callee := .builtin .append, args := #[s, x], argTypes := #[30, 30] })
  (base : Nat) (v : Value) (ls : List Nd) (n : Nd) (hs : a.eval s = v) (hown : Hid (OwnN w base v ls)) (hn : NdOk n) (g : Nat) (hx : a.eval x = .slice (some ⟨g, 0, none⟩) 1 1)
  (hr : Hid (w.heap[g]? = some (.cells (flatN [n]).toArray 39 (0, 0)))) (hlen : ls.length ≤ 100000) (hbase : base ≤ w.heap.size)
  (h : ∀ v' w', Hid (OwnN w' base v' (ls ++ [n])) → Hid (w.grownBy w' v.ownBlock) → wpList Tryz.prog ops Q rest (a.put o.dst v') w') : wpList Tryz.prog ops Q (o :: rest) a w := by
 obtain ⟨i0, hi, hz, hz1, hz2⟩ := info_node
 refine wpList_append_own_at _ hgd s x _ ho base _ i0 _ 34 48 Tryz.underlying30 hi hz hz1 hz2 (by simp [Value.cells]) (by omega) v _ _ hs hown.out ⟨g, 0, none⟩ 1 1 (flatN [n]) hx (by rw [flatN_length _ (fun y hy => by simp at hy; subst hy; exact hn)]; rfl) (fun j u hu => by rw [add_row]; exact range_row hr.out j u hu) (flatN_one _) (by unfold maxLen; omega) (by omega) hbase ?_
 intro v' w' h1 h2 h3 h4
 have := append_node_post hown.out h1 h2 hbase
 exact h v' w' (Lib.hid this) (Lib.hid h2)
/-- slices of bools that the call made -/
def bCs (bs : List Bool) : List Value := bs.map Value.bool
def OwnL (w : World) (base : Nat) (v : Value) (bs : List Bool) : Prop := w.ownsRow base 4 1 v bs.length (bCs bs)
theorem OwnL.nil (w : World) (base : Nat) : OwnL w base (.slice none 0 0) [] := ⟨rfl, .inl ⟨rfl, rfl⟩⟩
theorem OwnL.kept {w w' : World} {base : Nat} {v : Value} {ls : List Bool} (h : OwnL w base v ls) (hk : ∀ g, v.ownBlock = some g → w'.heap[g]? = w.heap[g]?) : OwnL w' base v ls := by
 refine ⟨h.1, ?_⟩
 rcases h.2 with h0 | ⟨g, cap, cur, rfl, hb, hh, r⟩
 ·exact .inl h0
 ·exact .inr ⟨g, cap, cur, rfl, hb, (hk g rfl).trans hh, r⟩
theorem OwnL.block {w : World} {base : Nat} {v : Value} {ls : List Bool} (h : OwnL w base v ls) (g : Nat) (hg : v.ownBlock = some g) : base ≤ g ∧ g < w.heap.size ∧ ∃ cur, w.heap[g]? = some (.cells cur 4 (0, 0)) := by
 rcases h.2 with ⟨rfl, h0⟩ | ⟨g', cap, cur, rfl, hb, hh, r⟩
 ·cases hg
 ·have : g' = g := by simpa [Value.ownBlock] using hg
  subst this
  exact ⟨hb, (Array.getElem?_eq_some_iff.1 hh).1, cur, hh⟩
theorem OwnL.below {w w' : World} {base : Nat} {v : Value} {ls : List Bool} (h : OwnL w base v ls) (hb : Below w.heap.size w w') : OwnL w' base v ls := h.kept fun g hg => hb.block g (h.block g hg).2.1
theorem OwnL.form {w : World} {base : Nat} {v : Value} {ls : List Bool} (h : OwnL w base v ls) : ∃ A n c, v = .slice A n c := by
 rcases h.2 with ⟨rfl, h0⟩ | ⟨g, cap, cur, rfl, r⟩
 ·exact ⟨_, _, _, rfl⟩
 ·exact ⟨_, _, _, rfl⟩
theorem OwnL.slice {w : World} {base : Nat} {v : Value} {ls : List Bool} (h : OwnL w base v ls) : ∃ A c, v = .slice A ls.length c ∧ ls.length ≤ c ∧ (0 < ls.length → ∃ g, A = some ⟨g, 0, none⟩ ∧ base ≤ g ∧ g < w.heap.size ∧ Rw bC 1 w g 0 ls.length (fun k => ls.getD k false)) ∧ (A = none → c = 0) := by
 rcases h.2 with ⟨rfl, h0⟩ | ⟨g, cap, cur, rfl, hb, hh, hc, hm, hs, ht⟩
 ·exact ⟨none, 0, by rw [h0], by omega, fun h1 => by omega, fun _ => rfl⟩
 ·refine ⟨_, cap, rfl, hc, fun _ => ⟨g, rfl, hb, (Array.getElem?_eq_some_iff.1 hh).1, fun k hk => ⟨fun j u hj => ?_, ?_⟩⟩, fun e => by cases e⟩
  ·have hj0 : j = 0 := by
    have := (List.getElem?_eq_some_iff.1 hj).1
    simp [bC] at this; exact this
   subst hj0
   have hk2 : (bCs ls)[k]? = some u := by
    simp only [bC, List.getElem?_cons_zero, Option.some.injEq] at hj
    simp [bCs, hk, ← hj, List.getD_eq_getElem?_getD]
   rw [show 0 + k * 1 + 0 = k by omega, cell_of_row w g k cur _ _ hh]
   rw [← ht, List.getElem?_take_of_lt (by omega)] at hk2
   simpa using hk2
  ·intro j hj
   have := there_row hh (m := k * 1 + 1) (by rw [hs]; omega) (k * 1 + j) (by omega)
   rwa [Nat.zero_add, show k * 1 + j = 0 + k * 1 + j by omega] at this
theorem info_bool : ∃ i, Tryz.prog.info? 4 = some i ∧ i.zero = some (.bool false) ∧ i.size = 1 ∧ i.bytes = 1 := by
 refine ⟨_, rfl, ?_, ?_, ?_⟩ <;> kernel_rfl
instance (c0 c1 c2 c3 c4 : Int) : Decidable (lOk c0 c1 c2 c3 c4) := by unfold lOk; infer_instance
/-- Leaf -/
def leafR (c0 c1 c2 c3 c4 : Int) (l : List Nat) : Nd := if lOk c0 c1 c2 c3 c4 then leafN c0 c1 c2 c3 c4 l else zeroN
def leafE (c0 c1 c2 c3 c4 : Int) : Int := if lOk c0 c1 c2 c3 c4 then 0 else 410
theorem leafN_ok {c0 c1 c2 c3 c4 : Int} (l : List Nat) (h : lOk c0 c1 c2 c3 c4) : NdOk (leafN c0 c1 c2 c3 c4 l) := by
 unfold lOk at h
 have hm := mul_leaf (a := c2) (b := c3) (by omega) (by omega) (by omega) (by omega)
 exact ⟨tagged_length _ _, tagged_bytes _ _, by simp only [leafN]; omega, by simp only [leafN]; omega⟩
theorem leaf_any (c0 c1 c2 c3 c4 : Int) (l : List Nat) (w : World) (hl : Hid (l.length = 32)) (hb : Hid (Bytes l)) (hT : Hid (Tabs w)) :
  Calls Tryz.prog 41 #[.agg #[.int .i64 c0, .int .i64 c1, .int .i64 c2, .int .i64 c3, .int .i64 c4], dgV l] w fun e w' => e = .returned (.tuple #[ndV (leafR c0 c1 c2 c3 c4 l), .int .i64 (leafE c0 c1 c2 c3 c4)]) ∧ Below w.heap.size w w' := by
 by_cases h : lOk c0 c1 c2 c3 c4
 ·rw [leafR, leafE, if_pos h, if_pos h]
  exact leaf_yes c0 c1 c2 c3 c4 l w (by unfold lOk at h; exact h) hl hb hT
 ·rw [leafR, leafE, if_neg h, if_neg h]
  exact leaf_no c0 c1 c2 c3 c4 l w h
theorem sizeOf_u8 (w : World) : (sizeOf 5).run Tryz.prog w = .ok 1 w := by
 obtain ⟨i0, hi, hz0, hz1, hz2⟩ := info_parts info_u8
 simp [sizeOf, typeInfo, hi, hz1]
theorem dg_cells8 (l : List Nat) (hb : Bytes l) : dgV l = .agg ((l.map UInt8.ofNat).map Extern.Stop.cell).toArray := by
 unfold dgV
 rw [List.map_map]
 congr 2
 apply List.map_congr_left
 intro x hx
 show Value.int .u8 (x : Nat) = Extern.Stop.cell (UInt8.ofNat x)
 have := hb x hx
 unfold Extern.Stop.cell
 rw [UInt8.toNat_ofNat', Nat.mod_eq_of_lt (by omega)]; rfl
theorem ofNat_inj : ∀ (l m : List Nat), Bytes l → Bytes m → (l.map UInt8.ofNat == m.map UInt8.ofNat) = (l == m)
 | [], [], _, _ => rfl
 | [], _ :: _, _, _ => rfl
 | _ :: _, [], _, _ => rfl
 | x :: l, y :: m, hl, hm => by
  have ih := ofNat_inj l m (fun z hz => hl z (List.mem_cons_of_mem _ hz)) (fun z hz => hm z (List.mem_cons_of_mem _ hz))
  have hx := hl x (by simp)
  have hy := hm y (by simp)
  simp only [List.map_cons, List.cons_beq_cons, ih]
  congr 1
  rw [Bool.eq_iff_iff]
  simp only [beq_iff_eq, ← UInt8.toNat_inj, UInt8.toNat_ofNat', Nat.mod_eq_of_lt (show x < 2 ^ 8 by omega), Nat.mod_eq_of_lt (show y < 2 ^ 8 by omega)]
theorem equal_dg (d : Nat) (l m : List Nat) (hl : l.length = 32) (hm : m.length = 32) (bl : Bytes l) (bm : Bytes m) (w : World) : (Op.equalIn (d + 2) 25 (dgV l) (dgV m)).run Tryz.prog w = .ok (l == m) w := by
 rw [dg_cells8 l bl, dg_cells8 m bm, run_equalIn_bytes w d 25 5 32 Tryz.underlying25 Tryz.underlying5 sizeOf_u8 _ _ (by simpa using hl) (by simpa using hm), ofNat_inj l m bl bm]
theorem eql_dg (l m : List Nat) (hl : l.length = 32) (hm : m.length = 32) (bl : Bytes l) (bm : Bytes m) (w : World) : (binOp .eql 25 (dgV l) (dgV m)).run Tryz.prog w = .ok (.bool (l == m)) w := by
 have := equal_dg 9998 l m hl hm bl bm w
 unfold dgV at this ⊢
 rw [run_eql_struct, this]; rfl
theorem neq_dg (l m : List Nat) (hl : l.length = 32) (hm : m.length = 32) (bl : Bytes l) (bm : Bytes m) (w : World) : (binOp .neq 25 (dgV l) (dgV m)).run Tryz.prog w = .ok (.bool (!(l == m))) w := by
 have := equal_dg 9998 l m hl hm bl bm w
 unfold dgV at this ⊢
 rw [run_neq_struct, this]; rfl
theorem guard_dg (op : BinOp) (x y : Operand) (l m : List Nat) (w : World) : (eqGuard op 25 x y (dgV l) (dgV m)).run Tryz.prog w = .ok () w := by
 unfold dgV
 exact run_eqGuard_agg w op _ x y _ _ (by kernel_rfl)
/-- equality of nodes -/
def ndEq (a b : Nd) : Bool := a.d == b.d && (a.c == b.c && a.p == b.p)
theorem ndEq_iff (a b : Nd) : ndEq a b = true ↔ a = b := by
 cases a; cases b
 simp [ndEq]
theorem ndEq_refl (a : Nd) : ndEq a a = true := (ndEq_iff a a).2 rfl
theorem part_d {n : Nd} (h : NdOk n) (w : World) : (part 25 (ndC n).toArray 0).run Tryz.prog w = .ok (dgV n.d) w := by
 have e : (ndC n).take 32 = n.d.map fun x => Value.int .u8 (x : Nat) := by unfold ndC; rw [List.take_left' (by simp [h.len])]
 have hu := Tryz.underlying25
 simp [part, isAgg, run_underlying hu, dgV, ← e]
theorem part_c {n : Nd} (h : NdOk n) (w : World) : (part 3 (ndC n).toArray 32).run Tryz.prog w = .ok (.int .i64 n.c) w := by
 have hu := Tryz.underlying3
 have hc := ndC_c h
 simp [part, isAgg, run_underlying hu, hc]
theorem part_p {n : Nd} (h : NdOk n) (w : World) : (part 3 (ndC n).toArray 33).run Tryz.prog w = .ok (.int .i64 n.p) w := by
 have hu := Tryz.underlying3
 have hc := ndC_p h
 simp [part, isAgg, run_underlying hu, hc]
theorem equal_nd (a b : Nd) (ha : NdOk a) (hb : NdOk b) (w : World) : (Op.equalIn 10000 39 (ndV a) (ndV b)).run Tryz.prog w = .ok (ndEq a b) w := by
 have hf : (Tryz.prog.fieldsOf 39).toList.map (fun f => (f.name != "_", f.type, f.offset)) = [(true, 25, 0), (true, 3, 32), (true, 3, 33)] := by kernel_rfl
 have hS : Tryz.prog.underlying 39 = some (.struct (Tryz.prog.fieldsOf 39)) := by kernel_rfl
 have hp : Tryz.prog.stoodInHeld 39 = false := by kernel_rfl
 unfold ndV
 rw [show (10000 : Nat) = 9999 + 1 from rfl, run_equalIn_agg w 9999 _ _ _ hS hp]
 generalize (Tryz.prog.fieldsOf 39).toList = fs at hf
 obtain ⟨f1, f2, f3, rfl⟩ : ∃ f1 f2 f3, fs = [f1, f2, f3] := by
  have hl := congrArg List.length hf
  simp only [List.length_map, List.length_cons, List.length_nil] at hl
  rcases fs with _ | ⟨f1, fs⟩
  ·simp at hl
  rcases fs with _ | ⟨f2, fs⟩
  ·simp at hl
  rcases fs with _ | ⟨f3, fs⟩
  ·simp at hl
  rcases fs with _ | ⟨f4, fs⟩
  ·exact ⟨f1, f2, f3, rfl⟩
  ·simp at hl
 simp only [List.map_cons, List.map_nil, List.cons.injEq, Prod.mk.injEq, and_true, bne_iff_ne, ne_eq] at hf
 obtain ⟨⟨n1, t1, o1⟩, ⟨n2, t2, o2⟩, n3, t3, o3⟩ := hf
 have q1 := equal_dg 9997 a.d b.d ha.len hb.len ha.bytes hb.bytes w
 have q2 := run_equalIn_int (P := Tryz.prog) w 9998 3 .i64 _ a.c b.c Tryz.underlying3
 have q3 := run_equalIn_int (P := Tryz.prog) w 9998 3 .i64 _ a.p b.p Tryz.underlying3
 simp only [Nat.reduceAdd] at q1 q2 q3
 have e3 : (Op.eqFields 9999 (ndC a).toArray (ndC b).toArray [f3]).run Tryz.prog w = .ok (a.p == b.p) w := by
  simp only [Op.eqFields, n3, t3, o3, not_false_eq_true, ne_eq, if_true, Sem.run_bind, part_p ha, part_p hb, Result.andThen_ok, q3]
  cases a.p == b.p <;> rfl
 have e2 : (Op.eqFields 9999 (ndC a).toArray (ndC b).toArray [f2, f3]).run Tryz.prog w = .ok (a.c == b.c && a.p == b.p) w := by
  rw [Op.eqFields]
  simp only [n2, t2, o2, not_false_eq_true, ne_eq, if_true, Sem.run_bind, part_c ha, part_c hb, Result.andThen_ok, q2]
  cases a.c == b.c
  ·rfl
  ·exact e3
 rw [Op.eqFields]
 simp only [n1, t1, o1, not_false_eq_true, ne_eq, if_true, Sem.run_bind, part_d ha, part_d hb, Result.andThen_ok, q1]
 unfold ndEq
 cases a.d == b.d
 ·rfl
 ·exact e2
theorem neq_nd (a b : Nd) (ha : NdOk a) (hb : NdOk b) (w : World) : (binOp .neq 39 (ndV a) (ndV b)).run Tryz.prog w = .ok (.bool (!(ndEq a b))) w := by
 have := equal_nd a b ha hb w
 unfold ndV at this ⊢
 rw [run_neq_struct, this]; rfl
theorem guard_nd (op : BinOp) (x y : Operand) (a b : Nd) (w : World) : (eqGuard op 39 x y (ndV a) (ndV b)).run Tryz.prog w = .ok () w := by
 unfold ndV
 exact run_eqGuard_agg w op _ x y _ _ (by kernel_rfl)
theorem wpList_neq_nd {w : World} {ops : Array Oper} {rest : List Oper} {o : Oper} {a : Act} {Q : Exit → Act → World → Prop} (hg : o.guard = none) (x y : Operand) (t : TypeId)
  (ho : o.op = .binOp .neq 39 x y t) (m n : Nd) (hx : a.eval x = ndV m) (hy : a.eval y = ndV n) (hm : NdOk m) (hn : NdOk n)
  (h : wpList Tryz.prog ops Q rest (a.put o.dst (.bool (!(ndEq m n)))) w) : wpList Tryz.prog ops Q (o :: rest) a w :=
 wpList_plain hg fun _ hK => by
  unfold Oper.wp execOp
  simp only [ho, hx, hy, Sem.run_bind, guard_nd, neq_nd m n hm hn, Result.andThen_ok]
  exact hK _ _ h
theorem wpList_eql_dg {w : World} {ops : Array Oper} {rest : List Oper} {o : Oper} {a : Act} {Q : Exit → Act → World → Prop} (hg : o.guard = none) (x y : Operand) (t : TypeId)
  (ho : o.op = .binOp .eql 25 x y t) (l m : List Nat) (hx : a.eval x = dgV l) (hy : a.eval y = dgV m) (hl : l.length = 32) (hm : m.length = 32) (bl : Bytes l) (bm : Bytes m)
  (h : wpList Tryz.prog ops Q rest (a.put o.dst (.bool (l == m))) w) : wpList Tryz.prog ops Q (o :: rest) a w :=
 wpList_plain hg fun _ hK => by
  unfold Oper.wp execOp
  simp only [ho, hx, hy, Sem.run_bind, guard_dg, eql_dg l m hl hm bl bm, Result.andThen_ok]
  exact hK _ _ h
open Go.ChangeShapes Go.WideShapes Go.ChangeAt
def natOf : Value → Nat
 | .int _ z => z.toNat
 | _ => 0
open Go.Deep
section
variable {H : Type} {enc : TypeId × Value → H} {W : World} {base : Nat} {spare : Nat → Bool} {held : Bool} {fuel : Nat}
theorem cells_dg : Tryz.prog.cellsOf 25 = 32 := by kernel_rfl
theorem cells_it : Tryz.prog.cellsOf 3 = 1 := by kernel_rfl
theorem cells_ln : Tryz.prog.cellsOf 45 = 5 := by kernel_rfl
theorem trod_dg {cs : List Value} {x : DataW H × List MemPlace} (hf : DataW.trod enc Tryz.prog W base spare held fuel 25 cs = some x) : ∃ l : List Nat, cs = l.map (fun y => Value.int .u8 (y : Nat)) ∧ l.length = 32 ∧ Bytes l := by
 obtain ⟨xs, m, rfl, hx, hlen, hxl, hget⟩ := DataW.trod_array Tryz.underlying25 hf
 rw [cells_dg] at hlen
 have key : ∀ i (hi : i < cs.length), ∃ z : Nat, z < 256 ∧ cs[i] = .int .u8 (z : Nat) := fun i hi => by
  have h1 := hget i (by omega)
  rw [cells8, Nat.mul_one] at h1
  have hxi : i < xs.length := by omega
  rw [List.getElem?_eq_getElem hxi] at h1
  obtain ⟨z, hc, _, hw⟩ := DataW.trod_int Tryz.underlying5 h1
  have hb := bounds_u8 hw
  refine ⟨z.toNat, by omega, ?_⟩
  have h2 := congrArg (·[0]?) hc
  rw [Int.toNat_of_nonneg hb.1]
  simpa [List.getElem?_take, List.getElem?_drop, hi] using h2
 refine ⟨cs.map natOf, ?_, by simp [hlen], fun x hx => ?_⟩
 ·rw [List.map_map]
  apply List.ext_getElem
  ·simp
  ·intro i h1 h2
   obtain ⟨z, hz, e⟩ := key i h1
   rw [List.getElem_map, e]
   simp [natOf]
 ·obtain ⟨u, hu, rfl⟩ := List.mem_map.1 hx
  obtain ⟨i, hi, rfl⟩ := List.mem_iff_getElem.1 hu
  obtain ⟨z, hz, e⟩ := key i hi
  rw [e]
  simpa [natOf] using hz
theorem trod_it {cs : List Value} {x : DataW H × List MemPlace} (hf : DataW.trod enc Tryz.prog W base spare held fuel 3 cs = some x) : ∃ z : Int, cs = [.int .i64 z] ∧ -9223372036854775808 ≤ z ∧ z ≤ 9223372036854775807 := by
 obtain ⟨z, hc, _, hw⟩ := DataW.trod_int Tryz.underlying3 hf
 exact ⟨z, hc, bounds_i64 hw⟩
/-- a line -/
structure Ln where
 c0 : Int
 c1 : Int
 c2 : Int
 c3 : Int
 c4 : Int
def lnC (l : Ln) : List Value := [.int .i64 l.c0, .int .i64 l.c1, .int .i64 l.c2, .int .i64 l.c3, .int .i64 l.c4]
def I64 (z : Int) : Prop := -9223372036854775808 ≤ z ∧ z ≤ 9223372036854775807
structure LnOk (l : Ln) : Prop where
 b0 : I64 l.c0
 b1 : I64 l.c1
 b2 : I64 l.c2
 b3 : I64 l.c3
 b4 : I64 l.c4
theorem ln_fields : ∃ f0 f1 f2 f3 f4 : Field, Tryz.prog.underlying 45 = some (.struct #[f0, f1, f2, f3, f4]) ∧ (f0.type = 3 ∧ f0.offset = 0) ∧ (f1.type = 3 ∧ f1.offset = 1) ∧ (f2.type = 3 ∧ f2.offset = 2) ∧ (f3.type = 3 ∧ f3.offset = 3) ∧ f4.type = 3 ∧ f4.offset = 4 :=
 ⟨_, _, _, _, _, Tryz.underlying45, ⟨rfl, rfl⟩, ⟨rfl, rfl⟩, ⟨rfl, rfl⟩, ⟨rfl, rfl⟩, rfl, rfl⟩
theorem trod_ln {cs : List Value} {x : DataW H × List MemPlace} (hf : DataW.trod enc Tryz.prog W base spare held fuel 45 cs = some x) : ∃ n : Ln, cs = lnC n ∧ LnOk n := by
 obtain ⟨f0, f1, f2, f3, f4, hu, ⟨t0, o0⟩, ⟨t1, o1⟩, ⟨t2, o2⟩, ⟨t3, o3⟩, t4, o4⟩ := ln_fields
 obtain ⟨xs, m, rfl, hx, hlen, hxl, hget⟩ := DataW.trod_struct hu hf
 rw [cells_ln] at hlen
 have hxl' : xs.length = 5 := hxl
 have g0 := hget 0 f0 rfl
 have g1 := hget 1 f1 rfl
 have g2 := hget 2 f2 rfl
 have g3 := hget 3 f3 rfl
 have g4 := hget 4 f4 rfl
 rw [t0, o0, cells_it, List.getElem?_eq_getElem (by omega)] at g0
 rw [t1, o1, cells_it, List.getElem?_eq_getElem (by omega)] at g1
 rw [t2, o2, cells_it, List.getElem?_eq_getElem (by omega)] at g2
 rw [t3, o3, cells_it, List.getElem?_eq_getElem (by omega)] at g3
 rw [t4, o4, cells_it, List.getElem?_eq_getElem (by omega)] at g4
 obtain ⟨z0, e0, h0⟩ := trod_it g0
 obtain ⟨z1, e1, h1⟩ := trod_it g1
 obtain ⟨z2, e2, h2⟩ := trod_it g2
 obtain ⟨z3, e3, h3⟩ := trod_it g3
 obtain ⟨z4, e4, h4⟩ := trod_it g4
 refine ⟨⟨z0, z1, z2, z3, z4⟩, ?_, ⟨h0, h1, h2, h3, h4⟩⟩
 match cs, hlen with
 | [a, b, c, d, e], _ =>
  simp at e0 e1 e2 e3 e4
  subst e0 e1 e2 e3 e4
  rfl
theorem rangeAt_flat {α : Type} {cells : α → List Value} {k : Nat} {w : World} {g : Nat} : ∀ (ls : List α) (off : Nat), (∀ x ∈ ls, (cells x).length = k) → (∀ i (hi : i < ls.length), w.rangeAt g (off + i * k) (cells ls[i])) → w.rangeAt g off (ls.flatMap cells)
 | [], off, _, _ => fun j v hj => by simp at hj
 | x :: ls, off, hl, h => fun j v hj => by
  rw [List.flatMap_cons] at hj
  have hx := hl x (by simp)
  by_cases hjk : j < k
  ·rw [List.getElem?_append_left (by omega)] at hj
   have := h 0 (by simp) j v hj
   rwa [Nat.zero_mul, Nat.add_zero] at this
  ·rw [List.getElem?_append_right (by omega), hx] at hj
   have ih := rangeAt_flat ls (off + k) (fun y hy => hl y (List.mem_cons_of_mem _ hy)) (fun i hi => by
    have := h (i + 1) (by simpa using hi)
    rw [Nat.succ_mul, Nat.add_comm (i * k), ← Nat.add_assoc] at this
    exact this)
   have := ih (j - k) v hj
   rwa [show off + k + (j - k) = off + j by omega] at this
instance : Inhabited Nd := ⟨⟨[], 0, 0⟩⟩
instance : Inhabited Ln := ⟨⟨0, 0, 0, 0, 0⟩⟩
/-- a slice of lines that came in -/
structure InLn (w : World) (A : Option Addr) (n c : Nat) (ls : List Ln) : Prop where
 len : ls.length = n
 cap : n ≤ c
 none_ : A = none → c = 0
 ok : ∀ x ∈ ls, LnOk x
 rd : 0 < ls.length → ∃ g off, A = some ⟨g, off, none⟩ ∧ g < w.heap.size ∧ w.rangeAt g off (ls.flatMap lnC)
end
/-- a claim -/
structure Cl where
 p : Int
 r : Int
 m : Bool
def clC (c : Cl) : List Value := [.int .i64 c.p, .int .i64 c.r, .bool c.m]
structure ClOk (c : Cl) : Prop where
 b0 : I64 c.p
 b1 : I64 c.r
instance : Inhabited Cl := ⟨⟨0, 0, false⟩⟩
/-- a slice of claims that came in -/
structure InCl (w : World) (A : Option Addr) (n c : Nat) (ls : List Cl) : Prop where
 len : ls.length = n
 cap : n ≤ c
 none_ : A = none → c = 0
 ok : ∀ x ∈ ls, ClOk x
 rd : 0 < ls.length → ∃ g off, A = some ⟨g, off, none⟩ ∧ g < w.heap.size ∧ w.rangeAt g off (ls.flatMap clC)
/-- a transcript; where its slices lie -/
structure Tr where
 cam : Int
 stu : Int
 ver : Int
 kno : Int
 ln : List Ln
 cl : List Cl
 salt : List Nat
structure TrP where
 A : Option Addr
 n : Nat
 c : Nat
 A2 : Option Addr
 n2 : Nat
 c2 : Nat
def trC (t : Tr) (p : TrP) : List Value := [.int .i64 t.cam, .int .i64 t.stu, .int .i64 t.ver, .int .i64 t.kno, .slice p.A p.n p.c, .slice p.A2 p.n2 p.c2] ++ t.salt.map fun x => Value.int .u8 (x : Nat)
def trV (t : Tr) (p : TrP) : Value := .agg (trC t p).toArray
structure TrOk (w : World) (t : Tr) (p : TrP) : Prop where
 b0 : I64 t.cam
 b1 : I64 t.stu
 b2 : I64 t.ver
 b3 : I64 t.kno
 ln : InLn w p.A p.n p.c t.ln
 cl : InCl w p.A2 p.n2 p.c2 t.cl
 len : t.salt.length = 32
 bytes : Bytes t.salt
 mn : p.n ≤ maxLen
 mc : p.n2 ≤ maxLen
section
variable {H : Type} {enc : TypeId × Value → H} {W : World} {base : Nat} {fuel : Nat}
theorem cells_cl : Tryz.prog.cellsOf 56 = 3 := by kernel_rfl
theorem cells_bl : Tryz.prog.cellsOf 4 = 1 := by kernel_rfl
theorem cells_tr : Tryz.prog.cellsOf 27 = 38 := by kernel_rfl
theorem cells_lns : Tryz.prog.cellsOf 22 = 1 := by kernel_rfl
theorem cells_cls : Tryz.prog.cellsOf 23 = 1 := by kernel_rfl
theorem cl_fields : ∃ f0 f1 f2 : Field, Tryz.prog.underlying 56 = some (.struct #[f0, f1, f2]) ∧ (f0.type = 3 ∧ f0.offset = 0) ∧ (f1.type = 3 ∧ f1.offset = 1) ∧ f2.type = 4 ∧ f2.offset = 2 :=
 ⟨_, _, _, Tryz.underlying56, ⟨rfl, rfl⟩, ⟨rfl, rfl⟩, rfl, rfl⟩
theorem trod_cl {spare : Nat → Bool} {held : Bool} {cs : List Value} {x : DataW H × List MemPlace} (hf : DataW.trod enc Tryz.prog W base spare held fuel 56 cs = some x) : ∃ n : Cl, cs = clC n ∧ ClOk n := by
 obtain ⟨f0, f1, f2, hu, ⟨t0, o0⟩, ⟨t1, o1⟩, t2, o2⟩ := cl_fields
 obtain ⟨xs, m, rfl, hx, hlen, hxl, hget⟩ := DataW.trod_struct hu hf
 rw [cells_cl] at hlen
 have hxl' : xs.length = 3 := hxl
 have g0 := hget 0 f0 rfl
 have g1 := hget 1 f1 rfl
 have g2 := hget 2 f2 rfl
 rw [t0, o0, cells_it, List.getElem?_eq_getElem (by omega)] at g0
 rw [t1, o1, cells_it, List.getElem?_eq_getElem (by omega)] at g1
 rw [t2, o2, cells_bl, List.getElem?_eq_getElem (by omega)] at g2
 obtain ⟨z0, e0, h0⟩ := trod_it g0
 obtain ⟨z1, e1, h1⟩ := trod_it g1
 obtain ⟨b, e2, _⟩ := DataW.trod_bool Tryz.underlying4 g2
 refine ⟨⟨z0, z1, b⟩, ?_, ⟨h0, h1⟩⟩
 match cs, hlen with
 | [a, b, c], _ =>
  simp at e0 e1 e2
  subst e0 e1 e2
  rfl
/-- a slice of elements of k cells each, read out of its cell -/
theorem trod_rows {α : Type} {t e : TypeId} {k : Nat} {cells : α → List Value} {ok : α → Prop} (hk : 0 < k) (ht : Tryz.prog.underlying t = some (.slice e)) (ce : Tryz.prog.cellsOf e = k) (hlenc : ∀ x, ok x → (cells x).length = k) (hel : ∀ (n : Nat) (cs : List Value) (y : DataW H × List MemPlace), DataW.trod enc Tryz.prog W 0 (fun _ => true) true n e cs = some y → ∃ x, cs = cells x ∧ ok x) [Inhabited α]
  {cs : List Value} {y : DataW H × List MemPlace} (hf : DataW.trod enc Tryz.prog W 0 (fun _ => true) true fuel t cs = some y) :
  ∃ (A : Option Addr) (n c : Nat) (ls : List α), cs = [.slice A n c] ∧ ls.length = n ∧ n ≤ c ∧ (A = none → c = 0) ∧ (∀ x ∈ ls, ok x) ∧ (0 < ls.length → ∃ g off, A = some ⟨g, off, none⟩ ∧ g < W.heap.size ∧ W.rangeAt g off (ls.flatMap cells)) ∧ c ≤ maxLen := by
 rcases open_slice ht hf with ⟨hcs, hx⟩ | ⟨a, len, cap, m, n, D, Pl, hcs, _, hl, hm, hmm, hx, hget⟩
 ·subst hcs
  exact ⟨none, 0, 0, [], rfl, rfl, Nat.le_refl _, fun _ => rfl, (fun x hx => by cases hx), (fun h => by simp at h), Nat.zero_le _⟩
 ·subst hcs
  simp only [if_true] at hmm
  have each : ∀ i, i < len → ∃ x : α, ok x ∧ ∀ j u, (cells x)[j]? = some u → W.cell? ((a.add (i * k)).add j) = some u := fun i hi => by
   obtain ⟨cs', h1, h2⟩ := hget i (by omega)
   rw [ce] at h1
   obtain ⟨x, rfl, ho⟩ := hel _ _ _ h2
   obtain ⟨_, hlen', hcell⟩ := World.cells?_some h1
   refine ⟨x, ho, fun j u hj => ?_⟩
   have hj2 : j < k := by have := (List.getElem?_eq_some_iff.1 hj).1; omega
   rw [hcell j hj2]; exact hj
  obtain ⟨f, hf2⟩ := choose_lt each
  refine ⟨some a, len, cap, (List.range len).map f, rfl, by simp, hl, (fun h => by cases h), fun x hx => ?_, fun h0 => ?_, hm⟩
  ·obtain ⟨i, hi, rfl⟩ := List.mem_map.1 hx
   exact (hf2 i (by simpa using hi)).1
  ·have hl0 : 0 < len := by simpa using h0
   have hle : ∀ i, i < len → (cells (f i)).length = k := fun i hi => hlenc _ (hf2 i hi).1
   have c0 := (hf2 0 hl0).2 0 ((cells (f 0))[0]'(by rw [hle 0 hl0]; exact hk)) (List.getElem?_eq_getElem _)
   obtain ⟨ab, ao, spot⟩ := a
   have hspot : spot = none := by simpa [Addr.add] using World.cell?_spot c0
   subst hspot
   rw [Addr.add_lit, Addr.add_lit] at c0
   refine ⟨ab, ao, rfl, block_lt_of_cell c0, rangeAt_flat (k := k) _ _ (fun x hx => ?_) (fun i hi j u hj => ?_)⟩
   ·obtain ⟨i, hi, rfl⟩ := List.mem_map.1 hx
    exact hle i (by simpa using hi)
   ·have hi2 : i < len := by simpa using hi
    have hj' : (cells (f i))[j]? = some u := by simpa using hj
    have := (hf2 i hi2).2 j u hj'
    rwa [Addr.add_lit, Addr.add_lit] at this
theorem tr_fields : ∃ f0 f1 f2 f3 f4 f5 f6 : Field, Tryz.prog.underlying 27 = some (.struct #[f0, f1, f2, f3, f4, f5, f6]) ∧ (f0.type = 3 ∧ f0.offset = 0) ∧ (f1.type = 3 ∧ f1.offset = 1) ∧ (f2.type = 3 ∧ f2.offset = 2) ∧ (f3.type = 3 ∧ f3.offset = 3) ∧ (f4.type = 22 ∧ f4.offset = 4) ∧ (f5.type = 23 ∧ f5.offset = 5) ∧ f6.type = 25 ∧ f6.offset = 6 :=
 ⟨_, _, _, _, _, _, _, Tryz.underlying27, ⟨rfl, rfl⟩, ⟨rfl, rfl⟩, ⟨rfl, rfl⟩, ⟨rfl, rfl⟩, ⟨rfl, rfl⟩, ⟨rfl, rfl⟩, rfl, rfl⟩
theorem arg_tr {v : Value} {d : DataW H} {p : List MemPlace} (hval : Value.okWide Tryz.prog W .any base 27 v) (h : DataW.Trod enc Tryz.prog W 0 (fun _ => true) true 27 v d p) : ∃ (t : Tr) (q : TrP), v = trV t q ∧ TrOk W t q := by
 obtain ⟨f0, f1, f2, f3, f4, f5, f6, hu, ⟨t0, o0⟩, ⟨t1, o1⟩, ⟨t2, o2⟩, ⟨t3, o3⟩, ⟨t4, o4⟩, ⟨t5, o5⟩, t6, o6⟩ := tr_fields
 obtain ⟨cs, rfl, hsz⟩ := okWide_struct hu hval
 obtain ⟨fuel, hf⟩ := h
 obtain ⟨xs, m, rfl, hx, hlen, hxl, hget⟩ := DataW.trod_struct hu hf
 rw [cells_tr] at hlen
 have hxl' : xs.length = 7 := hxl
 have g0 := hget 0 f0 rfl
 have g1 := hget 1 f1 rfl
 have g2 := hget 2 f2 rfl
 have g3 := hget 3 f3 rfl
 have g4 := hget 4 f4 rfl
 have g5 := hget 5 f5 rfl
 have g6 := hget 6 f6 rfl
 rw [t0, o0, cells_it, List.getElem?_eq_getElem (by omega)] at g0
 rw [t1, o1, cells_it, List.getElem?_eq_getElem (by omega)] at g1
 rw [t2, o2, cells_it, List.getElem?_eq_getElem (by omega)] at g2
 rw [t3, o3, cells_it, List.getElem?_eq_getElem (by omega)] at g3
 rw [t4, o4, cells_lns, List.getElem?_eq_getElem (by omega)] at g4
 rw [t5, o5, cells_cls, List.getElem?_eq_getElem (by omega)] at g5
 rw [t6, o6, cells_dg, List.getElem?_eq_getElem (by omega)] at g6
 obtain ⟨z0, e0, h0⟩ := trod_it g0
 obtain ⟨z1, e1, h1⟩ := trod_it g1
 obtain ⟨z2, e2, h2⟩ := trod_it g2
 obtain ⟨z3, e3, h3⟩ := trod_it g3
 obtain ⟨A, n, c, ls, e4, l1, l2, l3, l4, l5, l6⟩ := trod_rows (cells := lnC) (ok := LnOk) (by omega) Tryz.underlying22 cells_ln (fun x hx => rfl) (fun n cs y hy => trod_ln hy) g4
 obtain ⟨A2, n2, c2, ls2, e5, k1, k2, k3, k4, k5, k6⟩ := trod_rows (cells := clC) (ok := ClOk) (by omega) Tryz.underlying23 cells_cl (fun x hx => rfl) (fun n cs y hy => trod_cl hy) g5
 obtain ⟨s, e6, hs, hb⟩ := trod_dg g6
 refine ⟨⟨z0, z1, z2, z3, ls, ls2, s⟩, ⟨A, n, c, A2, n2, c2⟩, ?_, ⟨h0, h1, h2, h3, ⟨l1, l2, l3, l4, l5⟩, ⟨k1, k2, k3, k4, k5⟩, hs, hb, Nat.le_trans l2 l6, Nat.le_trans k2 k6⟩⟩
 unfold trV
 congr 1
 rw [← Array.toArray_toList (xs := cs)]
 congr 1
 unfold trC
 obtain ⟨L, hL⟩ : ∃ L, cs.toList = L := ⟨_, rfl⟩
 have hLl : L.length = 38 := by rw [← hL]; exact hlen
 simp only [Value.cells, hL] at e0 e1 e2 e3 e4 e5 e6 ⊢
 match L, hLl with
 | a0 :: a1 :: a2 :: a3 :: a4 :: a5 :: rest, hr =>
  simp only [List.drop_zero, List.drop_succ_cons, List.take_succ_cons, List.take_zero, List.cons.injEq, and_true] at e0 e1 e2 e3 e4 e5 e6
  rw [List.take_of_length_le (by simp at hr; omega)] at e6
  subst e0 e1 e2 e3 e4 e5 e6
  rfl
end
end Go.Proofs.YtmfmgeapecapiaaGreatDoor
namespace Go.Proofs.SzTree
open SzSha
set_option linter.unusedVariables false
abbrev Dg := List Nat
def leafT : Dg := [108, 101, 97, 102]
def nodeT : Dg := [110, 111, 100, 101]
def emptyT : Dg := [101, 109, 112, 116, 121]
def leafD (d : Dg) : Dg := tagged leafT d
def nodeD (a b : Dg) : Dg := tagged nodeT (a ++ b)
def emptyD : Dg := tagged emptyT []
def treeF : Nat → List Dg → Dg
 | 0, _ => emptyD
 | f + 1, l => if l.length = 0 then emptyD else if l.length = 1 then leafD (l.headD []) else nodeD (treeF f (l.take (half l.length))) (treeF f (l.drop (half l.length)))
theorem treeF_fuel : ∀ f g l, l.length ≤ f → l.length ≤ g → treeF f l = treeF g l
 | 0, 0, _, _, _ => rfl
 | 0, g + 1, l, h, _ => by unfold treeF; rw [if_pos (by omega)]
 | f + 1, 0, l, _, h => by unfold treeF; rw [if_pos (by omega)]
 | f + 1, g + 1, l, h1, h2 => by
  unfold treeF
  by_cases h0 : l.length = 0
  ·rw [if_pos h0, if_pos h0]
  ·by_cases h : l.length = 1
   ·rw [if_neg h0, if_neg h0, if_pos h, if_pos h]
   ·have hb := half_bd (n := l.length) (by omega)
    rw [if_neg h0, if_neg h0, if_neg h, if_neg h, treeF_fuel f g _ (by rw [List.length_take]; omega) (by rw [List.length_take]; omega), treeF_fuel f g _ (by rw [List.length_drop]; omega) (by rw [List.length_drop]; omega)]
/-- the digest of a list -/
def treeD (l : List Dg) : Dg := treeF l.length l
theorem treeD_nil : treeD [] = emptyD := rfl
theorem treeD_one (d : Dg) : treeD [d] = leafD d := rfl
theorem treeD_two {l : List Dg} (h : 2 ≤ l.length) : treeD l = nodeD (treeD (l.take (half l.length))) (treeD (l.drop (half l.length))) := by
 have hb := half_bd h
 unfold treeD
 rw [treeF_fuel l.length (l.length - 1 + 1) l (by omega) (by omega)]
 conv => lhs; unfold treeF
 rw [if_neg (by omega), if_neg (by omega), treeF_fuel (l.length - 1) (l.take (half l.length)).length _ (by rw [List.length_take]; omega) (by omega), treeF_fuel (l.length - 1) (l.drop (half l.length)).length _ (by rw [List.length_drop]; omega) (by omega)]
theorem leafD_length (d : Dg) : (leafD d).length = 32 := tagged_length _ _
theorem nodeD_length (a b : Dg) : (nodeD a b).length = 32 := tagged_length _ _
theorem leafD_bytes (d : Dg) : Bytes (leafD d) := tagged_bytes _ _
theorem nodeD_bytes (a b : Dg) : Bytes (nodeD a b) := tagged_bytes _ _
theorem treeF_ok : ∀ f l, (treeF f l).length = 32 ∧ Bytes (treeF f l)
 | 0, _ => ⟨tagged_length _ _, tagged_bytes _ _⟩
 | f + 1, l => by
  unfold treeF
  split
  ·exact ⟨tagged_length _ _, tagged_bytes _ _⟩
  ·split
   ·exact ⟨leafD_length _, leafD_bytes _⟩
   ·exact ⟨nodeD_length _ _, nodeD_bytes _ _⟩
theorem treeD_length (l : List Dg) : (treeD l).length = 32 := (treeF_ok _ l).1
theorem treeD_bytes (l : List Dg) : Bytes (treeD l) := (treeF_ok _ l).2
/-- the sides of the way to leaf i of n, from the root downwards: whether the leaf is in the first half -/
def dirsF : Nat → Nat → Nat → List Bool
 | 0, _, _ => []
 | f + 1, i, n => if n ≤ 1 then [] else if i < half n then true :: dirsF f i (half n) else false :: dirsF f (i - half n) (n - half n)
theorem dirsF_stop (f i n : Nat) (h : n ≤ 1) : dirsF f i n = [] := by
 cases f with
 | zero => rfl
 | succ f => unfold dirsF; rw [if_pos h]
theorem dirsF_fuel : ∀ f g i n, n ≤ f + 1 → n ≤ g + 1 → dirsF f i n = dirsF g i n
 | 0, g, i, n, h, _ => by rw [dirsF_stop _ _ _ (by omega), dirsF_stop _ _ _ (by omega)]
 | f + 1, 0, i, n, _, h => by rw [dirsF_stop _ _ _ (by omega), dirsF_stop _ _ _ (by omega)]
 | f + 1, g + 1, i, n, h1, h2 => by
  unfold dirsF
  by_cases h : n ≤ 1
  ·rw [if_pos h, if_pos h]
  ·have hb := half_bd (n := n) (by omega)
   rw [if_neg h, if_neg h, dirsF_fuel f g i (half n) (by omega) (by omega), dirsF_fuel f g (i - half n) (n - half n) (by omega) (by omega)]
def dirsD (i m : Nat) : List Bool := dirsF m i m
theorem dirsD_one (i : Nat) {m : Nat} (h : m ≤ 1) : dirsD i m = [] := dirsF_stop _ _ _ h
theorem dirsD_left {i m : Nat} (h : 2 ≤ m) (hi : i < half m) : dirsD i m = true :: dirsD i (half m) := by
 have hb := half_bd h
 unfold dirsD
 rw [dirsF_fuel m (m + 1) i m (by omega) (by omega)]
 conv => lhs; unfold dirsF
 rw [if_neg (by omega), if_pos hi, dirsF_fuel m (half m) i (half m) (by omega) (by omega)]
theorem dirsD_right {i m : Nat} (h : 2 ≤ m) (hi : ¬ i < half m) : dirsD i m = false :: dirsD (i - half m) (m - half m) := by
 have hb := half_bd h
 unfold dirsD
 rw [dirsF_fuel m (m + 1) i m (by omega) (by omega)]
 conv => lhs; unfold dirsF
 rw [if_neg (by omega), if_neg hi, dirsF_fuel m (m - half m) (i - half m) (m - half m) (by omega) (by omega)]
/-- the path of element i -/
def pathF : Nat → List Dg → Nat → List Dg
 | 0, _, _ => []
 | f + 1, l, i => if l.length ≤ 1 then [] else if i < half l.length then pathF f (l.take (half l.length)) i ++ [treeD (l.drop (half l.length))] else pathF f (l.drop (half l.length)) (i - half l.length) ++ [treeD (l.take (half l.length))]
theorem pathF_stop (f : Nat) (l : List Dg) (i : Nat) (h : l.length ≤ 1) : pathF f l i = [] := by
 cases f with
 | zero => rfl
 | succ f => unfold pathF; rw [if_pos h]
theorem pathF_fuel : ∀ f g l i, l.length ≤ f + 1 → l.length ≤ g + 1 → pathF f l i = pathF g l i
 | 0, g, l, i, h, _ => by rw [pathF_stop _ _ _ (by omega), pathF_stop _ _ _ (by omega)]
 | f + 1, 0, l, i, _, h => by rw [pathF_stop _ _ _ (by omega), pathF_stop _ _ _ (by omega)]
 | f + 1, g + 1, l, i, h1, h2 => by
  unfold pathF
  by_cases h : l.length ≤ 1
  ·rw [if_pos h, if_pos h]
  ·have hb := half_bd (n := l.length) (by omega)
   rw [if_neg h, if_neg h, pathF_fuel f g (l.take (half l.length)) i (by rw [List.length_take]; omega) (by rw [List.length_take]; omega), pathF_fuel f g (l.drop (half l.length)) _ (by rw [List.length_drop]; omega) (by rw [List.length_drop]; omega)]
def pathD (l : List Dg) (i : Nat) : List Dg := pathF l.length l i
theorem pathD_one {l : List Dg} {i : Nat} (h : l.length ≤ 1) : pathD l i = [] := pathF_stop _ _ _ h
theorem pathD_left {l : List Dg} {i : Nat} (h : 2 ≤ l.length) (hi : i < half l.length) : pathD l i = pathD (l.take (half l.length)) i ++ [treeD (l.drop (half l.length))] := by
 have hb := half_bd h
 unfold pathD
 rw [pathF_fuel l.length (l.length + 1) l i (by omega) (by omega)]
 conv => lhs; unfold pathF
 rw [if_neg (by omega), if_pos hi, pathF_fuel l.length (l.take (half l.length)).length _ i (by rw [List.length_take]; omega) (by omega)]
theorem pathD_right {l : List Dg} {i : Nat} (h : 2 ≤ l.length) (hi : ¬ i < half l.length) : pathD l i = pathD (l.drop (half l.length)) (i - half l.length) ++ [treeD (l.take (half l.length))] := by
 have hb := half_bd h
 unfold pathD
 rw [pathF_fuel l.length (l.length + 1) l i (by omega) (by omega)]
 conv => lhs; unfold pathF
 rw [if_neg (by omega), if_neg hi, pathF_fuel l.length (l.drop (half l.length)).length _ _ (by rw [List.length_drop]; omega) (by omega)]
theorem pathD_dirs : ∀ (f : Nat) (l : List Dg) (i : Nat), l.length ≤ f → (pathD l i).length = (dirsD i l.length).length
 | 0, l, i, h => by rw [pathD_one (by omega), dirsD_one i (by omega)]; rfl
 | f + 1, l, i, h => by
  by_cases h1 : l.length ≤ 1
  ·rw [pathD_one h1, dirsD_one i h1]; rfl
  ·have hb := half_bd (n := l.length) (by omega)
   have ht : (l.take (half l.length)).length = half l.length := by rw [List.length_take]; omega
   have hd : (l.drop (half l.length)).length = l.length - half l.length := List.length_drop
   by_cases hi : i < half l.length
   ·rw [pathD_left (by omega) hi, dirsD_left (by omega) hi, List.length_append, List.length_cons, pathD_dirs f _ i (by omega), ht]; rfl
   ·rw [pathD_right (by omega) hi, dirsD_right (by omega) hi, List.length_append, List.length_cons, pathD_dirs f _ _ (by omega), hd]; rfl
theorem pathD_length (l : List Dg) (i : Nat) : (pathD l i).length = (dirsD i l.length).length := pathD_dirs _ l i (Nat.le_refl _)
theorem pathF_ok : ∀ f l i, ∀ p ∈ pathF f l i, p.length = 32 ∧ Bytes p
 | 0, _, _, p, hp => by simp [pathF] at hp
 | f + 1, l, i, p, hp => by
  unfold pathF at hp
  split at hp
  ·cases hp
  ·split at hp
   ·rcases List.mem_append.1 hp with h | h
    ·exact pathF_ok f _ _ p h
    ·rw [List.mem_singleton.1 h]; exact ⟨treeD_length _, treeD_bytes _⟩
   ·rcases List.mem_append.1 hp with h | h
    ·exact pathF_ok f _ _ p h
    ·rw [List.mem_singleton.1 h]; exact ⟨treeD_length _, treeD_bytes _⟩
theorem pathD_ok (l : List Dg) (i : Nat) : ∀ p ∈ pathD l i, p.length = 32 ∧ Bytes p := pathF_ok _ l i
/-- a step upwards, and many -/
def stepD (r : Bool) (p x : Dg) : Dg := if r then nodeD x p else nodeD p x
def climbD : List Bool → List Dg → Dg → Dg
 | r :: rs, p :: ps, x => climbD rs ps (stepD r p x)
 | _, _, x => x
theorem climbD_snoc : ∀ (rs : List Bool) (ps : List Dg) (r : Bool) (p x : Dg), rs.length = ps.length → climbD (rs ++ [r]) (ps ++ [p]) x = stepD r p (climbD rs ps x)
 | [], [], _, _, _, _ => rfl
 | [], _ :: _, _, _, _, h => by simp at h
 | _ :: _, [], _, _, _, h => by simp at h
 | r' :: rs, p' :: ps, r, p, x, h => by
  simp only [List.cons_append, climbD]
  exact climbD_snoc rs ps r p _ (by simpa using h)
theorem climbD_ok : ∀ (rs : List Bool) (ps : List Dg) (x : Dg), x.length = 32 → Bytes x → (climbD rs ps x).length = 32 ∧ Bytes (climbD rs ps x)
 | [], _, x, h1, h2 => ⟨h1, h2⟩
 | _ :: _, [], x, h1, h2 => ⟨h1, h2⟩
 | r :: rs, p :: ps, x, _, _ => by
  simp only [climbD]
  refine climbD_ok rs ps _ ?_ ?_ <;> (unfold stepD; split)
  ·exact nodeD_length _ _
  ·exact nodeD_length _ _
  ·exact nodeD_bytes _ _
  ·exact nodeD_bytes _ _
/-- paths lead to the digest of the list -/
theorem climbD_path : ∀ (f : Nat) (l : List Dg) (i : Nat) (hi : i < l.length), l.length ≤ f → climbD (dirsD i l.length).reverse (pathD l i) (leafD l[i]) = treeD l
 | 0, l, i, hi, h => by omega
 | f + 1, l, i, hi, h => by
  by_cases h1 : l.length ≤ 1
  ·obtain ⟨d, rfl⟩ : ∃ d, l = [d] := List.length_eq_one_iff.1 (by omega)
   have : i = 0 := by simpa using hi
   subst this
   rw [pathD_one (by simp), dirsD_one 0 (by simp)]; rfl
  ·have hb := half_bd (n := l.length) (by omega)
   have ht : (l.take (half l.length)).length = half l.length := by rw [List.length_take]; omega
   have hd : (l.drop (half l.length)).length = l.length - half l.length := List.length_drop
   rw [treeD_two (by omega)]
   by_cases hk : i < half l.length
   ·rw [pathD_left (by omega) hk, dirsD_left (by omega) hk, List.reverse_cons]
    have ih := climbD_path f (l.take (half l.length)) i (by omega) (by omega)
    rw [show (l.take (half l.length))[i]'(by omega) = l[i] from List.getElem_take, ht] at ih
    rw [climbD_snoc _ _ _ _ _ (by rw [List.length_reverse, pathD_length, ht])]
    rw [ih]; rfl
   ·rw [pathD_right (by omega) hk, dirsD_right (by omega) hk, List.reverse_cons]
    have ih := climbD_path f (l.drop (half l.length)) (i - half l.length) (by omega) (by omega)
    rw [climbD_snoc _ _ _ _ _ (by rw [List.length_reverse, pathD_length, hd])]
    have e : (l.drop (half l.length))[i - half l.length]'(by omega) = l[i] := by
     rw [List.getElem_drop]; congr 1; omega
    rw [e, hd] at ih
    rw [ih]; rfl
/-- half by logarithm -/
theorem halfF_log : ∀ (f j n : Nat), 2 ^ j < n → n ≤ 2 ^ (j + f + 1) → halfF f (2 ^ j) n = 2 ^ (Nat.log2 (n - 1))
 | 0, j, n, h1, h2 => by
  have hp := Nat.two_pow_pos j
  rw [Nat.add_zero] at h2
  have e : Nat.log2 (n - 1) = j := (Nat.log2_eq_iff (by omega)).2 ⟨by omega, by omega⟩
  rw [e]; rfl
 | f + 1, j, n, h1, h2 => by
  unfold halfF
  have hp := Nat.two_pow_pos j
  by_cases h : 2 * 2 ^ j < n
  ·rw [if_pos h, show 2 * 2 ^ j = 2 ^ (j + 1) by rw [Nat.pow_succ]; omega]
   exact halfF_log f (j + 1) n (by rw [Nat.pow_succ]; omega) (by rw [show j + 1 + f + 1 = j + (f + 1) + 1 by omega]; exact h2)
  ·rw [if_neg h]
   have e : Nat.log2 (n - 1) = j := (Nat.log2_eq_iff (by omega)).2 ⟨by omega, by rw [Nat.pow_succ]; omega⟩
   rw [e]
theorem half_log {n : Nat} (h : 2 ≤ n) (h2 : n ≤ 18446744073709551616) : half n = 2 ^ (Nat.log2 (n - 1)) := halfF_log 64 0 n (by show 1 < n; omega) (Nat.le_trans h2 (by decide))
end Go.Proofs.SzTree
namespace Go.Proofs.YtmfmgeapecapiaaGreatDoor
open Go.RowKit SzSha SzTree
set_option linter.unusedVariables false
set_option maxRecDepth 100000
theorem row_kept {w w' : World} {b : Nat} {cs : Array Value} {t : TypeId} (h : w.heap[b]? = some (.cells cs t (0, 0))) (hb : Below w.heap.size w w') : w'.heap[b]? = some (.cells cs t (0, 0)) := (hb.block b (Array.getElem?_eq_some_iff.1 h).1).trans h
theorem wpList_unguard {P : Program} {ops : Array Oper} {rest : List Oper} {o : Oper} {a : Act} {w : World} {Q : Exit → Act → World → Prop} (hw : Region.wanted o (yielded ops a.tmps) = true) (h : wpList P ops Q ({ o with guard := none } :: rest) a w) : wpList P ops Q (o :: rest) a w := by
 unfold wpList at h ⊢
 rw [if_pos hw]
 rw [if_pos (by unfold Region.wanted; rfl)] at h
 exact h
/-- a digest's cells -/
def dgC (l : List Nat) : List Value := l.map fun x => Value.int .u8 (x : Nat)
theorem dgV_agg (l : List Nat) : dgV l = .agg (dgC l).toArray := rfl
theorem dgC_length (l : List Nat) : (dgC l).length = l.length := by simp [dgC]
structure DgOk (l : List Nat) : Prop where
 len : l.length = 32
 bytes : Bytes l
theorem dgC_size {l : List Nat} (h : DgOk l) : 32 = (dgC l).toArray.size := by simp [dgC, h.len]
theorem dgC_info {l : List Nat} (h : DgOk l) : (Tryz.prog.info? 25).map (·.size) = some (dgC l).toArray.size := size32 l h.len
theorem dgC_one (l : List Nat) : (dgC l).toArray.all (·.oneCell') = true := oneCells l
theorem leafD_ok (d : List Nat) : DgOk (leafD d) := ⟨leafD_length d, leafD_bytes d⟩
theorem nodeD_ok (a b : List Nat) : DgOk (nodeD a b) := ⟨nodeD_length a b, nodeD_bytes a b⟩
theorem treeD_okD (l : List Dg) : DgOk (treeD l) := ⟨treeD_length l, treeD_bytes l⟩
def leafTag : ByteArray := ⟨#[108, 101, 97, 102]⟩
def nodeTag : ByteArray := ⟨#[110, 111, 100, 101]⟩
def emptyTag : ByteArray := ⟨#[101, 109, 112, 116, 121]⟩
theorem leafTag_d (l : List Nat) : dgV (tagged (strL leafTag) l) = dgV (leafD l) := rfl
theorem nodeTag_d (a b : List Nat) : dgV (tagged (strL nodeTag) (a ++ b)) = dgV (nodeD a b) := rfl
theorem emptyTag_d : dgV (tagged (strL emptyTag) []) = dgV emptyD := rfl
def zeroD : List Nat := List.replicate 32 0
theorem zeroD_ok : DgOk zeroD := ⟨by simp [zeroD], fun x hx => by have := List.eq_of_mem_replicate hx; omega⟩
theorem zeroD_cells : (dgC zeroD).toArray = #[.int .u8 0, .int .u8 0, .int .u8 0, .int .u8 0, .int .u8 0, .int .u8 0, .int .u8 0, .int .u8 0, .int .u8 0, .int .u8 0, .int .u8 0, .int .u8 0, .int .u8 0, .int .u8 0, .int .u8 0, .int .u8 0, .int .u8 0, .int .u8 0, .int .u8 0, .int .u8 0, .int .u8 0, .int .u8 0, .int .u8 0, .int .u8 0, .int .u8 0, .int .u8 0, .int .u8 0, .int .u8 0, .int .u8 0, .int .u8 0, .int .u8 0, .int .u8 0] := by simp [zeroD, dgC, List.replicate]
theorem bytes_app2 {l m : List Nat} (hl : Bytes l) (hm : Bytes m) : Bytes (l ++ m) := fun x hx => by
 rcases List.mem_append.1 hx with h | h
 ·exact hl x h
 ·exact hm x h
theorem rd_row {w : World} {g : Nat} {l : List Nat} {t : Nat} (h : w.heap[g]? = some (.cells (dgC l).toArray t (0, 0))) : Rd w w.heap.size (some ⟨g, 0, none⟩) l := fun _ => ⟨_, 0, rfl, (Array.getElem?_eq_some_iff.1 h).1, bytesAt_arr h⟩
theorem dleaf_any (d : List Nat) (w : World) (hd : Hid (DgOk d)) (hT : Hid (Tabs w)) :
  Calls Tryz.prog 90 #[dgV d] w fun e w' => e = .returned (dgV (leafD d)) ∧ Below w.heap.size w w' := by
 have hb0 := ((Below.refl _ w).alloc (Nat.le_refl _) (.cells (dgC d).toArray 25)).alloc (by simp) (.cells (dgC zeroD).toArray 25)
 have hr0 := (Below.heap_alloc (w.alloc (.cells (dgC d).toArray 25)) (.cells (dgC zeroD).toArray 25) w.heap.size (by simp)).trans (heap_alloc_new w (.cells (dgC d).toArray 25))
 have hr1 := heap_alloc_new (w.alloc (.cells (dgC d).toArray 25)) (.cells (dgC zeroD).toArray 25)
 rw [World.size_alloc] at hr1
 rw [zeroD_cells] at hb0 hr0 hr1
 have HB0 := Lib.hid hb0
 have HR0 := Lib.hid hr0
 have HR1 := Lib.hid hr1
 clear hb0 hr0 hr1
 rw [dgV_agg]
 go_enter Tryz.func90, Tryz.ntmps90
 go_wp2_with fail
 refine (tagged_any leafTag (some ⟨w.heap.size, 0, none⟩) 32 32 d _ (by decide) (Lib.hid hd.out.len) (Nat.le_refl _) (fun h => by cases h) (by omega) (Lib.hid hd.out.bytes) (Lib.hid (hT.out.below HB0.out)) (Lib.hid (rd_row HR0.out))).mono ?_
 rintro e w2 ⟨rfl, hq⟩
 rw [leafTag_d]
 have HB2 := Lib.hid (HB0.out.trans (hq.mono HB0.out.size))
 have HR2 := Lib.hid (row_kept HR1.out hq)
 have HS1 := Lib.hid (dgC_info (leafD_ok d))
 have HS2 := Lib.hid (dgC_size (leafD_ok d))
 rw [dgV_agg]
 clear hq
 go_wp2_with (refine wpList_store_row rfl 25 (.tmp 2) (.tmp 4) rfl (w.heap.size + 1) (dgC (leafD d)).toArray rfl rfl 25 _ HR2.out HS1.out HS2.out (dgC_one _) ?_)
 refine bodyPost_ret (results_cell_row rfl _ _ (w.heap.size + 1) 25 _ (0, 0) _ rfl (setRow_heap w2 (w.heap.size + 1) _ _ _ _ HR2.out) Tryz.underlying25 rfl HS1.out) rfl ?_
 exact ⟨rfl, below_setRow HB2.out (Nat.le_succ _) _⟩
def wDn (W0 : World) (M : Nat) (ba : Nat) (bb : Nat) (br : Nat) (a : List Nat) (b : List Nat) : Nat → Value → World → Prop
 | 0, fv, _ => fv = .slice (some ⟨ba, 0, none⟩) 32 32
 | 1, fv, _ => fv = .slice (some ⟨bb, 0, none⟩) 32 32
 | 2, fv, fw => ∃ g, fv = .slice (some ⟨g, 0, none⟩) 2 2 ∧ g < fw.heap.size ∧ fw.cell? ⟨g, 0, none⟩ = some (Value.slice (some ⟨ba, 0, none⟩) 32 32) ∧ fw.cell? ⟨g, 1, none⟩ = some (Value.slice (some ⟨bb, 0, none⟩) 32 32)
 | 3, fv, fw => OwnB fw M fv (a ++ b)
 | 4, fv, _ => fv = dgV (nodeD a b)
 | 5, fv, fw => fw.heap[br]? = some (.cells (dgC (nodeD a b)).toArray 25 (0, 0)) ∧ Below W0.heap.size W0 fw
 | _, _, _ => True
theorem wDn_below {W0 : World} {M : Nat} {ba : Nat} {bb : Nat} {br : Nat} {a : List Nat} {b : List Nat} {w w' : World} (hb : Below w.heap.size w w') : ∀ j v, wDn W0 M ba bb br a b j v w → wDn W0 M ba bb br a b j v w'
 | 0, v, h => h
 | 1, v, h => h
 | 2, v, ⟨g, h1, h2, h3, h4⟩ => ⟨g, h1, Nat.lt_of_lt_of_le h2 hb.size, (hb.cell (p := ⟨g, 0, none⟩) h2).trans h3, (hb.cell (p := ⟨g, 1, none⟩) h2).trans h4⟩
 | 3, v, h => h.below hb
 | 4, v, h => h
 | 5, v, h => ⟨row_kept h.1 hb, h.2.trans (hb.mono h.2.size)⟩
 | n + 6, v, h => trivial
theorem wDn_pure {W0 : World} {M : Nat} {ba : Nat} {bb : Nat} {br : Nat} {a : List Nat} {b : List Nat} {w w' : World} : ∀ j v, j ≠ 2 → j ≠ 3 → j ≠ 5 → wDn W0 M ba bb br a b j v w → wDn W0 M ba bb br a b j v w'
 | 0, v, _, _, _, h => h
 | 1, v, _, _, _, h => h
 | 2, v, hh, _, _, _ => absurd rfl hh
 | 3, v, _, hh, _, _ => absurd rfl hh
 | 4, v, _, _, _, h => h
 | 5, v, _, _, hh, _ => absurd rfl hh
 | n + 6, v, _, _, _, h => trivial
theorem dnode_any (a b : List Nat) (w : World) (ha : Hid (DgOk a)) (hb : Hid (DgOk b)) (hT : Hid (Tabs w)) :
  Calls Tryz.prog 92 #[dgV a, dgV b] w fun e w' => e = .returned (dgV (nodeD a b)) ∧ Below w.heap.size w w' := by
 obtain ⟨t1, t2, t3, t4, t5⟩ := two_rows2 w (dgC a).toArray (dgC b).toArray 25 (.cells (dgC zeroD).toArray 25)
 rw [zeroD_cells] at t1 t2 t3 t4 t5
 have HB0 := Lib.hid t1
 have HRA := Lib.hid t2
 have HRB := Lib.hid t3
 have HRR := Lib.hid t4
 have hT1 := Lib.hid (hT.out.below t1)
 have HS1 := Lib.hid (dgC_info (nodeD_ok a b))
 have HS2 := Lib.hid (dgC_size (nodeD_ok a b))
 clear t1 t2 t3 t4 t5
 rw [dgV_agg a, dgV_agg b]
 go_enter Tryz.func92, Tryz.ntmps92
 go_wp2_with fail
 generalize (((w.alloc (.cells (dgC a).toArray 25)).alloc (.cells (dgC b).toArray 25)).alloc (.cells #[.int .u8 0, .int .u8 0, .int .u8 0, .int .u8 0, .int .u8 0, .int .u8 0, .int .u8 0, .int .u8 0, .int .u8 0, .int .u8 0, .int .u8 0, .int .u8 0, .int .u8 0, .int .u8 0, .int .u8 0, .int .u8 0, .int .u8 0, .int .u8 0, .int .u8 0, .int .u8 0, .int .u8 0, .int .u8 0, .int .u8 0, .int .u8 0, .int .u8 0, .int .u8 0, .int .u8 0, .int .u8 0, .int .u8 0, .int .u8 0, .int .u8 0, .int .u8 0] 25)) = W1 at *
 refine region_flow3 (by kernel_rfl) (by kernel_rfl) (fun i => Nat.beq i 5) (fun i => i) (by kernel_rfl) (fun fx => #[.agg (dgC a).toArray, .agg (dgC b).toArray, .pointer (some { block := w.heap.size, off := 0 }), .pointer (some { block := w.heap.size + 1, off := 0 }), .pointer (some { block := w.heap.size + 1 + 1, off := 0 }), fx 0, fx 1, fx 2, fx 3, fx 4]) (fun _ => undef) (fun L fx w' => (L 5 = false → Below W1.heap.size W1 w')) (fun fi fv _ fw => wDn w W1.heap.size w.heap.size (w.heap.size + 1) (w.heap.size + 1 + 1) a b fi fv fw) (fun _ => (Below.refl _ _).drew) ?_ ?_
 ·refine ⟨?_, ?_, ?_, ?_, ?_, ?_, trivial⟩
  all_goals intro L fx w' hC hi hcl hdn hd
  ·have hnd : L 5 = false := Bool.eq_false_iff.2 (fun h => by have := (hcl 2 0 (hcl 3 2 (hcl 4 3 (hcl 5 4 h (by kernel_rfl)) (by kernel_rfl)) (by kernel_rfl)) (by kernel_rfl)); rw [hi] at this; cases this)
   go_wp2_with fail
   exact ⟨_, rfl, (fun _ => hC hnd), rfl, kP⟩
  ·have hnd : L 5 = false := Bool.eq_false_iff.2 (fun h => by have := (hcl 2 1 (hcl 3 2 (hcl 4 3 (hcl 5 4 h (by kernel_rfl)) (by kernel_rfl)) (by kernel_rfl)) (by kernel_rfl)); rw [hi] at this; cases this)
   go_wp2_with fail
   exact ⟨_, rfl, (fun _ => hC hnd), rfl, kP⟩
  ·have h0 : fx 0 = .slice (some ⟨w.heap.size, 0, none⟩) 32 32 := hd.1 rfl
   have h1 : fx 1 = .slice (some ⟨w.heap.size + 1, 0, none⟩) 32 32 := hd.2.1 rfl
   have hnd : L 5 = false := Bool.eq_false_iff.2 (fun h => by have := (hcl 3 2 (hcl 4 3 (hcl 5 4 h (by kernel_rfl)) (by kernel_rfl)) (by kernel_rfl)); rw [hi] at this; cases this)
   go_wp2_with fail
   have hq := pair_row w' (Value.slice (some ⟨w.heap.size, 0, none⟩) 32 32) (Value.slice (some ⟨w.heap.size + 1, 0, none⟩) 32 32) 143
   exact ⟨_, by simp only [upd, h0, h1]; rfl, fun _ => (hC hnd).trans (hq.1.mono (hC hnd).size), ⟨_, rfl, by rw [hq.2.1]; omega, hq.2.2.1, hq.2.2.2⟩, fun j v t _ _ h => wDn_below hq.1 j v h⟩
  ·have H2 := Lib.hid (hd.1 rfl)
   have hnd : L 5 = false := Bool.eq_false_iff.2 (fun h => by have := (hcl 4 3 (hcl 5 4 h (by kernel_rfl)) (by kernel_rfl)); rw [hi] at this; cases this)
   obtain ⟨g, h2, hg, c0, c1⟩ := H2.out
   have hb12 := hC hnd
   go_wp2_with fail
   refine (concat2 g 32 32 32 32 _ _ a b w' hg c0 c1 (Lib.hid ha.out.len) (Lib.hid hb.out.len) (by omega) (by omega) (fun h => by cases h) (fun h => by cases h) (Lib.hid (rd_row (row_kept HRA.out hb12))) (Lib.hid (rd_row (row_kept HRB.out hb12)))).mono ?_
   rintro e w2 ⟨v2, rfl, ho, hq⟩
   go_wp2_with fail
   exact ⟨v2, by first | rfl | (rw [← h2]; rfl), fun _ => hb12.trans (hq.mono hb12.size), ⟨ho.1, ho.2.imp id fun ⟨g, cap, cur, e, h1, r⟩ => ⟨g, cap, cur, e, Nat.le_trans hb12.size h1, r⟩⟩, fun j v t _ _ h => wDn_below hq j v h⟩
  ·have H3 := Lib.hid (hd.1 rfl)
   have hnd : L 5 = false := Bool.eq_false_iff.2 (fun h => by have := (hcl 5 4 h (by kernel_rfl)); rw [hi] at this; cases this)
   have hb12 := hC hnd
   obtain ⟨A3, n3, c3, h3, hn3, hc3, hA3, HR3⟩ := H3.out.slice
   go_wp2_with fail
   refine (tagged_any nodeTag A3 n3 c3 (a ++ b) w' (by decide) hn3 hc3 hA3.out (by rw [← hn3.out, List.length_append, ha.out.len, hb.out.len]; omega) (Lib.hid (bytes_app2 ha.out.bytes hb.out.bytes)) (Lib.hid (hT1.out.below hb12)) HR3).mono ?_
   rintro e w2 ⟨rfl, hq⟩
   rw [nodeTag_d]
   go_wp2_with fail
   exact ⟨_, by first | rfl | (rw [← h3]; rfl), fun _ => hb12.trans (hq.mono hb12.size), rfl, fun j v t _ _ h => wDn_below hq j v h⟩
  ·have h4 : fx 4 = dgV (nodeD a b) := hd.1 rfl
   have hb21 := hC hi
   have hrow := row_kept HRR.out hb21
   refine wpList_store_row rfl 25 (.tmp 4) (.tmp 9) rfl (w.heap.size + 1 + 1) (dgC (nodeD a b)).toArray rfl h4 25 _ hrow HS1.out HS2.out (dgC_one _) ?_
   clear hd
   go_wp2_with fail
   refine ⟨undef, by rw [← h4]; rfl, fun h => (updB_self h).elim, ⟨setRow_heap _ _ _ _ _ _ hrow, below_setRow (HB0.out.trans (hb21.mono HB0.out.size)) (by omega) _⟩, fun j v t hj hu h => ?_⟩
   refine wDn_pure j v ?_ ?_ ?_ h <;> intro e <;> subst e
   ·exact absurd hu (not_needed (E := fun i => Nat.beq i 5) (j := 2) [3] (by kernel_rfl) (by kernel_rfl) (fun m hm hne => by simp at hm; subst hm; exact hcl 4 3 (hdn 4 (by kernel_rfl)) (by kernel_rfl)))
   ·exact absurd hu (not_needed (E := fun i => Nat.beq i 5) (j := 3) [4] (by kernel_rfl) (by kernel_rfl) (fun m hm hne => by simp at hm; subst hm; exact hdn 4 (by kernel_rfl)))
   ·rw [hi] at hj; cases hj
 ·intro L fx w' hC hS
  have H5 := Lib.hid (hS 5 (by decide) rfl)
  clear hS hC
  go_wp2_with fail
  refine bodyPost_ret (results_cell_row rfl _ _ (w.heap.size + 1 + 1) 25 _ (0, 0) _ rfl H5.out.1 Tryz.underlying25 rfl HS1.out) rfl ?_
  exact ⟨rfl, H5.out.2⟩
theorem in_any (x lo hi : Int) (w : World) : Calls Tryz.prog 52 #[.int .i64 x, .int .i64 lo, .int .i64 hi] w fun e w' => e = .returned (.bool (decide (lo ≤ x) && decide (x ≤ hi))) ∧ w = w' := by
 by_cases h : lo ≤ x
 ·have d : decide (lo ≤ x) = true := decide_eq_true h
  have HE : Hid ((decide (lo ≤ x) && decide (x ≤ hi)) = decide (x ≤ hi)) := Lib.hid (by rw [d]; rfl)
  rw [HE.out]
  go_enter Tryz.func52, Tryz.ntmps52
  go_wp2_with fail
  go_ret
  exact ⟨rfl, rfl⟩
 ·have d : decide (lo ≤ x) = false := decide_eq_false h
  have HE : Hid ((decide (lo ≤ x) && decide (x ≤ hi)) = false) := Lib.hid (by rw [d]; rfl)
  rw [HE.out]
  go_enter Tryz.func52, Tryz.ntmps52
  go_wp2_with fail
  go_ret
  exact ⟨rfl, rfl⟩
theorem and_dec {p q : Prop} [Decidable p] [Decidable q] (h : p ∧ q) : (decide p && decide q) = true := by simp [h]
theorem and_dec_no {p q : Prop} [Decidable p] [Decidable q] (h : ¬ (p ∧ q)) : (decide p && decide q) = false := by
 rw [← Bool.decide_and]; exact decide_eq_false h
/-- a valid claim -/
def kOk (p r : Int) : Prop := 0 ≤ p ∧ p ≤ 255 ∧ 0 ≤ r ∧ r ≤ 63
instance (p r : Int) : Decidable (kOk p r) := by unfold kOk; infer_instance
theorem vline_0 (c0 c1 c2 c3 c4 : Int) (w : World) (d0 : (decide (0 ≤ c0) && decide (c0 ≤ 4095)) = false) : Calls Tryz.prog 96 #[.agg #[.int .i64 c0, .int .i64 c1, .int .i64 c2, .int .i64 c3, .int .i64 c4]] w fun e w' => e = .returned (.bool false) ∧ Below w.heap.size w w' := by
 have HB := Lib.hid ((Below.refl _ w).alloc (Nat.le_refl _) (.cells #[.int .i64 c0, .int .i64 c1, .int .i64 c2, .int .i64 c3, .int .i64 c4] 45))
 have D0 := Lib.hid d0
 clear d0
 go_enter Tryz.func96, Tryz.ntmps96
 go_wp2_with fail
 refine (in_any _ _ _ _).mono ?_
 rintro e w0 ⟨rfl, rfl⟩
 rw [D0.out]
 go_wp2_with fail
 go_ret
 exact ⟨rfl, HB.out⟩
theorem vline_1 (c0 c1 c2 c3 c4 : Int) (w : World) (d0 : (decide (0 ≤ c0) && decide (c0 ≤ 4095)) = true) (d1 : (decide (0 ≤ c1) && decide (c1 ≤ 1023)) = false) : Calls Tryz.prog 96 #[.agg #[.int .i64 c0, .int .i64 c1, .int .i64 c2, .int .i64 c3, .int .i64 c4]] w fun e w' => e = .returned (.bool false) ∧ Below w.heap.size w w' := by
 have HB := Lib.hid ((Below.refl _ w).alloc (Nat.le_refl _) (.cells #[.int .i64 c0, .int .i64 c1, .int .i64 c2, .int .i64 c3, .int .i64 c4] 45))
 have D0 := Lib.hid d0
 have D1 := Lib.hid d1
 clear d0 d1
 go_enter Tryz.func96, Tryz.ntmps96
 go_wp2_with fail
 refine (in_any _ _ _ _).mono ?_
 rintro e w0 ⟨rfl, rfl⟩
 rw [D0.out]
 go_wp2_with fail
 refine (in_any _ _ _ _).mono ?_
 rintro e w1 ⟨rfl, rfl⟩
 rw [D1.out]
 go_wp2_with fail
 go_ret
 exact ⟨rfl, HB.out⟩
theorem vline_2 (c0 c1 c2 c3 c4 : Int) (w : World) (d0 : (decide (0 ≤ c0) && decide (c0 ≤ 4095)) = true) (d1 : (decide (0 ≤ c1) && decide (c1 ≤ 1023)) = true) (d2 : (decide (0 ≤ c2) && decide (c2 ≤ 12)) = false) : Calls Tryz.prog 96 #[.agg #[.int .i64 c0, .int .i64 c1, .int .i64 c2, .int .i64 c3, .int .i64 c4]] w fun e w' => e = .returned (.bool false) ∧ Below w.heap.size w w' := by
 have HB := Lib.hid ((Below.refl _ w).alloc (Nat.le_refl _) (.cells #[.int .i64 c0, .int .i64 c1, .int .i64 c2, .int .i64 c3, .int .i64 c4] 45))
 have D0 := Lib.hid d0
 have D1 := Lib.hid d1
 have D2 := Lib.hid d2
 clear d0 d1 d2
 go_enter Tryz.func96, Tryz.ntmps96
 go_wp2_with fail
 refine (in_any _ _ _ _).mono ?_
 rintro e w0 ⟨rfl, rfl⟩
 rw [D0.out]
 go_wp2_with fail
 refine (in_any _ _ _ _).mono ?_
 rintro e w1 ⟨rfl, rfl⟩
 rw [D1.out]
 go_wp2_with fail
 refine (in_any _ _ _ _).mono ?_
 rintro e w2 ⟨rfl, rfl⟩
 rw [D2.out]
 go_wp2_with fail
 go_ret
 exact ⟨rfl, HB.out⟩
theorem vline_3 (c0 c1 c2 c3 c4 : Int) (w : World) (d0 : (decide (0 ≤ c0) && decide (c0 ≤ 4095)) = true) (d1 : (decide (0 ≤ c1) && decide (c1 ≤ 1023)) = true) (d2 : (decide (0 ≤ c2) && decide (c2 ≤ 12)) = true) (d3 : (decide (0 ≤ c3) && decide (c3 ≤ 60)) = false) : Calls Tryz.prog 96 #[.agg #[.int .i64 c0, .int .i64 c1, .int .i64 c2, .int .i64 c3, .int .i64 c4]] w fun e w' => e = .returned (.bool false) ∧ Below w.heap.size w w' := by
 have HB := Lib.hid ((Below.refl _ w).alloc (Nat.le_refl _) (.cells #[.int .i64 c0, .int .i64 c1, .int .i64 c2, .int .i64 c3, .int .i64 c4] 45))
 have D0 := Lib.hid d0
 have D1 := Lib.hid d1
 have D2 := Lib.hid d2
 have D3 := Lib.hid d3
 clear d0 d1 d2 d3
 go_enter Tryz.func96, Tryz.ntmps96
 go_wp2_with fail
 refine (in_any _ _ _ _).mono ?_
 rintro e w0 ⟨rfl, rfl⟩
 rw [D0.out]
 go_wp2_with fail
 refine (in_any _ _ _ _).mono ?_
 rintro e w1 ⟨rfl, rfl⟩
 rw [D1.out]
 go_wp2_with fail
 refine (in_any _ _ _ _).mono ?_
 rintro e w2 ⟨rfl, rfl⟩
 rw [D2.out]
 go_wp2_with fail
 refine (in_any _ _ _ _).mono ?_
 rintro e w3 ⟨rfl, rfl⟩
 rw [D3.out]
 go_wp2_with fail
 go_ret
 exact ⟨rfl, HB.out⟩
theorem vline_4 (c0 c1 c2 c3 c4 : Int) (w : World) (d0 : (decide (0 ≤ c0) && decide (c0 ≤ 4095)) = true) (d1 : (decide (0 ≤ c1) && decide (c1 ≤ 1023)) = true) (d2 : (decide (0 ≤ c2) && decide (c2 ≤ 12)) = true) (d3 : (decide (0 ≤ c3) && decide (c3 ≤ 60)) = true) (d4 : (decide (0 ≤ c4) && decide (c4 ≤ 6)) = false) : Calls Tryz.prog 96 #[.agg #[.int .i64 c0, .int .i64 c1, .int .i64 c2, .int .i64 c3, .int .i64 c4]] w fun e w' => e = .returned (.bool false) ∧ Below w.heap.size w w' := by
 have HB := Lib.hid ((Below.refl _ w).alloc (Nat.le_refl _) (.cells #[.int .i64 c0, .int .i64 c1, .int .i64 c2, .int .i64 c3, .int .i64 c4] 45))
 have D0 := Lib.hid d0
 have D1 := Lib.hid d1
 have D2 := Lib.hid d2
 have D3 := Lib.hid d3
 have D4 := Lib.hid d4
 clear d0 d1 d2 d3 d4
 go_enter Tryz.func96, Tryz.ntmps96
 go_wp2_with fail
 refine (in_any _ _ _ _).mono ?_
 rintro e w0 ⟨rfl, rfl⟩
 rw [D0.out]
 go_wp2_with fail
 refine (in_any _ _ _ _).mono ?_
 rintro e w1 ⟨rfl, rfl⟩
 rw [D1.out]
 go_wp2_with fail
 refine (in_any _ _ _ _).mono ?_
 rintro e w2 ⟨rfl, rfl⟩
 rw [D2.out]
 go_wp2_with fail
 refine (in_any _ _ _ _).mono ?_
 rintro e w3 ⟨rfl, rfl⟩
 rw [D3.out]
 go_wp2_with fail
 refine (in_any _ _ _ _).mono ?_
 rintro e w4 ⟨rfl, rfl⟩
 rw [D4.out]
 go_wp2_with fail
 go_ret
 exact ⟨rfl, HB.out⟩
theorem vline_5 (c0 c1 c2 c3 c4 : Int) (w : World) (d0 : (decide (0 ≤ c0) && decide (c0 ≤ 4095)) = true) (d1 : (decide (0 ≤ c1) && decide (c1 ≤ 1023)) = true) (d2 : (decide (0 ≤ c2) && decide (c2 ≤ 12)) = true) (d3 : (decide (0 ≤ c3) && decide (c3 ≤ 60)) = true) (d4 : (decide (0 ≤ c4) && decide (c4 ≤ 6)) = true) : Calls Tryz.prog 96 #[.agg #[.int .i64 c0, .int .i64 c1, .int .i64 c2, .int .i64 c3, .int .i64 c4]] w fun e w' => e = .returned (.bool true) ∧ Below w.heap.size w w' := by
 have HB := Lib.hid ((Below.refl _ w).alloc (Nat.le_refl _) (.cells #[.int .i64 c0, .int .i64 c1, .int .i64 c2, .int .i64 c3, .int .i64 c4] 45))
 have D0 := Lib.hid d0
 have D1 := Lib.hid d1
 have D2 := Lib.hid d2
 have D3 := Lib.hid d3
 have D4 := Lib.hid d4
 clear d0 d1 d2 d3 d4
 go_enter Tryz.func96, Tryz.ntmps96
 go_wp2_with fail
 refine (in_any _ _ _ _).mono ?_
 rintro e w0 ⟨rfl, rfl⟩
 rw [D0.out]
 go_wp2_with fail
 refine (in_any _ _ _ _).mono ?_
 rintro e w1 ⟨rfl, rfl⟩
 rw [D1.out]
 go_wp2_with fail
 refine (in_any _ _ _ _).mono ?_
 rintro e w2 ⟨rfl, rfl⟩
 rw [D2.out]
 go_wp2_with fail
 refine (in_any _ _ _ _).mono ?_
 rintro e w3 ⟨rfl, rfl⟩
 rw [D3.out]
 go_wp2_with fail
 refine (in_any _ _ _ _).mono ?_
 rintro e w4 ⟨rfl, rfl⟩
 rw [D4.out]
 go_wp2_with fail
 go_ret
 exact ⟨rfl, HB.out⟩
theorem vline_any (c0 c1 c2 c3 c4 : Int) (w : World) : Calls Tryz.prog 96 #[.agg #[.int .i64 c0, .int .i64 c1, .int .i64 c2, .int .i64 c3, .int .i64 c4]] w fun e w' => e = .returned (.bool (decide (lOk c0 c1 c2 c3 c4))) ∧ Below w.heap.size w w' := by
 by_cases b0 : 0 ≤ c0 ∧ c0 ≤ 4095
 case neg =>
  rw [decide_eq_false (show ¬ (lOk c0 c1 c2 c3 c4) by unfold lOk; omega)]
  exact vline_0 c0 c1 c2 c3 c4  w (and_dec_no b0)
 by_cases b1 : 0 ≤ c1 ∧ c1 ≤ 1023
 case neg =>
  rw [decide_eq_false (show ¬ (lOk c0 c1 c2 c3 c4) by unfold lOk; omega)]
  exact vline_1 c0 c1 c2 c3 c4  w (and_dec b0) (and_dec_no b1)
 by_cases b2 : 0 ≤ c2 ∧ c2 ≤ 12
 case neg =>
  rw [decide_eq_false (show ¬ (lOk c0 c1 c2 c3 c4) by unfold lOk; omega)]
  exact vline_2 c0 c1 c2 c3 c4  w (and_dec b0) (and_dec b1) (and_dec_no b2)
 by_cases b3 : 0 ≤ c3 ∧ c3 ≤ 60
 case neg =>
  rw [decide_eq_false (show ¬ (lOk c0 c1 c2 c3 c4) by unfold lOk; omega)]
  exact vline_3 c0 c1 c2 c3 c4  w (and_dec b0) (and_dec b1) (and_dec b2) (and_dec_no b3)
 by_cases b4 : 0 ≤ c4 ∧ c4 ≤ 6
 case neg =>
  rw [decide_eq_false (show ¬ (lOk c0 c1 c2 c3 c4) by unfold lOk; omega)]
  exact vline_4 c0 c1 c2 c3 c4  w (and_dec b0) (and_dec b1) (and_dec b2) (and_dec b3) (and_dec_no b4)
 rw [decide_eq_true (show lOk c0 c1 c2 c3 c4 by unfold lOk; omega)]
 exact vline_5 c0 c1 c2 c3 c4  w (and_dec b0) (and_dec b1) (and_dec b2) (and_dec b3) (and_dec b4)
theorem vclaim_0 (p r : Int) (m : Bool) (w : World) (d0 : (decide (0 ≤ p) && decide (p ≤ 255)) = false) : Calls Tryz.prog 107 #[.agg #[.int .i64 p, .int .i64 r, .bool m]] w fun e w' => e = .returned (.bool false) ∧ Below w.heap.size w w' := by
 have HB := Lib.hid ((Below.refl _ w).alloc (Nat.le_refl _) (.cells #[.int .i64 p, .int .i64 r, .bool m] 56))
 have D0 := Lib.hid d0
 clear d0
 go_enter Tryz.func107, Tryz.ntmps107
 go_wp2_with fail
 refine (in_any _ _ _ _).mono ?_
 rintro e w0 ⟨rfl, rfl⟩
 rw [D0.out]
 go_wp2_with fail
 go_ret
 exact ⟨rfl, HB.out⟩
theorem vclaim_1 (p r : Int) (m : Bool) (w : World) (d0 : (decide (0 ≤ p) && decide (p ≤ 255)) = true) (d1 : (decide (0 ≤ r) && decide (r ≤ 63)) = false) : Calls Tryz.prog 107 #[.agg #[.int .i64 p, .int .i64 r, .bool m]] w fun e w' => e = .returned (.bool false) ∧ Below w.heap.size w w' := by
 have HB := Lib.hid ((Below.refl _ w).alloc (Nat.le_refl _) (.cells #[.int .i64 p, .int .i64 r, .bool m] 56))
 have D0 := Lib.hid d0
 have D1 := Lib.hid d1
 clear d0 d1
 go_enter Tryz.func107, Tryz.ntmps107
 go_wp2_with fail
 refine (in_any _ _ _ _).mono ?_
 rintro e w0 ⟨rfl, rfl⟩
 rw [D0.out]
 go_wp2_with fail
 refine (in_any _ _ _ _).mono ?_
 rintro e w1 ⟨rfl, rfl⟩
 rw [D1.out]
 go_wp2_with fail
 go_ret
 exact ⟨rfl, HB.out⟩
theorem vclaim_2 (p r : Int) (m : Bool) (w : World) (d0 : (decide (0 ≤ p) && decide (p ≤ 255)) = true) (d1 : (decide (0 ≤ r) && decide (r ≤ 63)) = true) : Calls Tryz.prog 107 #[.agg #[.int .i64 p, .int .i64 r, .bool m]] w fun e w' => e = .returned (.bool true) ∧ Below w.heap.size w w' := by
 have HB := Lib.hid ((Below.refl _ w).alloc (Nat.le_refl _) (.cells #[.int .i64 p, .int .i64 r, .bool m] 56))
 have D0 := Lib.hid d0
 have D1 := Lib.hid d1
 clear d0 d1
 go_enter Tryz.func107, Tryz.ntmps107
 go_wp2_with fail
 refine (in_any _ _ _ _).mono ?_
 rintro e w0 ⟨rfl, rfl⟩
 rw [D0.out]
 go_wp2_with fail
 refine (in_any _ _ _ _).mono ?_
 rintro e w1 ⟨rfl, rfl⟩
 rw [D1.out]
 go_wp2_with fail
 go_ret
 exact ⟨rfl, HB.out⟩
theorem vclaim_any (p r : Int) (m : Bool) (w : World) : Calls Tryz.prog 107 #[.agg #[.int .i64 p, .int .i64 r, .bool m]] w fun e w' => e = .returned (.bool (decide (kOk p r))) ∧ Below w.heap.size w w' := by
 by_cases b0 : 0 ≤ p ∧ p ≤ 255
 case neg =>
  rw [decide_eq_false (show ¬ (kOk p r) by unfold kOk; omega)]
  exact vclaim_0 p r  m  w (and_dec_no b0)
 by_cases b1 : 0 ≤ r ∧ r ≤ 63
 case neg =>
  rw [decide_eq_false (show ¬ (kOk p r) by unfold kOk; omega)]
  exact vclaim_1 p r  m  w (and_dec b0) (and_dec_no b1)
 rw [decide_eq_true (show kOk p r by unfold kOk; omega)]
 exact vclaim_2 p r  m  w (and_dec b0) (and_dec b1)
/-- the numbers of lines and of claims -/
def noL (c0 c1 : Int) : Int := wrap64 (wrap64 (4096 * c1) + c0)
def noK (p r : Int) : Int := wrap64 (wrap64 (64 * p) + r)
theorem noL_val {c0 c1 c2 c3 c4 : Int} (h : lOk c0 c1 c2 c3 c4) : noL c0 c1 = 4096 * c1 + c0 := by unfold lOk at h; unfold noL wrap64; omega
theorem noK_val {p r : Int} (h : kOk p r) : noK p r = 64 * p + r := by unfold kOk at h; unfold noK wrap64; omega
theorem noL_bd (c0 c1 : Int) : I64 (noL c0 c1) := by unfold I64 noL wrap64; omega
theorem noK_bd (p r : Int) : I64 (noK p r) := by unfold I64 noK wrap64; omega
theorem noL_any (c0 c1 c2 c3 c4 : Int) (w : World) : Calls Tryz.prog 94 #[.agg #[.int .i64 c0, .int .i64 c1, .int .i64 c2, .int .i64 c3, .int .i64 c4]] w fun e w' => e = .returned (.int .i64 (noL c0 c1)) ∧ Below w.heap.size w w' := by
 have HB := Lib.hid ((Below.refl _ w).alloc (Nat.le_refl _) (.cells #[.int .i64 c0, .int .i64 c1, .int .i64 c2, .int .i64 c3, .int .i64 c4] 45))
 go_enter Tryz.func94, Tryz.ntmps94
 go_wp2_with fail
 go_ret
 exact ⟨by unfold noL; rfl, HB.out⟩
theorem noK_any (p r : Int) (m : Bool) (w : World) : Calls Tryz.prog 104 #[.agg #[.int .i64 p, .int .i64 r, .bool m]] w fun e w' => e = .returned (.int .i64 (noK p r)) ∧ Below w.heap.size w w' := by
 have HB := Lib.hid ((Below.refl _ w).alloc (Nat.le_refl _) (.cells #[.int .i64 p, .int .i64 r, .bool m] 56))
 go_enter Tryz.func104, Tryz.ntmps104
 go_wp2_with fail
 go_ret
 exact ⟨by unfold noK; rfl, HB.out⟩
def tabL : Array Value := #[.int .i64 1, .func (.func 96) #[] #[], .func (.func 94) #[] #[], .func (.func 95) #[] #[]]
def tabK : Array Value := #[.int .i64 2, .func (.func 107) #[] #[], .func (.func 104) #[] #[], .func (.func 105) #[] #[]]
theorem lines_any (w : World) : Calls Tryz.prog 42 #[] w fun e w' => e = .returned (.agg tabL) ∧ Below w.heap.size w w' := by
 go_enter Tryz.func42, Tryz.ntmps42
 go_wp2_with (refine wpList_store_row rfl 86 (.tmp 0) (.tmp 5) rfl w.heap.size tabL rfl rfl 86 _ (heap_alloc_new w _) (by kernel_rfl) rfl (by decide +kernel) ?_)
 refine bodyPost_ret (results_cell_row rfl _ _ w.heap.size 86 tabL (0, 0) _ rfl (laid_row w _ tabL 86).2.2 Tryz.underlying86 rfl (by kernel_rfl)) rfl ?_
 exact ⟨rfl, (laid_row w _ tabL 86).1⟩
theorem claims_any (w : World) : Calls Tryz.prog 49 #[] w fun e w' => e = .returned (.agg tabK) ∧ Below w.heap.size w w' := by
 go_enter Tryz.func49, Tryz.ntmps49
 go_wp2_with (refine wpList_store_row rfl 95 (.tmp 0) (.tmp 5) rfl w.heap.size tabK rfl rfl 95 _ (heap_alloc_new w _) (by kernel_rfl) rfl (by decide +kernel) ?_)
 refine bodyPost_ret (results_cell_row rfl _ _ w.heap.size 95 tabK (0, 0) _ rfl (laid_row w _ tabK 95).2.2 Tryz.underlying95 rfl (by kernel_rfl)) rfl ?_
 exact ⟨rfl, (laid_row w _ tabK 95).1⟩
theorem bitLen_log {m k : Nat} (h1 : 2 ^ k ≤ m) (h2 : m < 2 ^ (k + 1)) (h3 : m < 2 ^ 64) : Lib.bitLen m = k + 1 := by
 have hm : m ≠ 0 := by have := Nat.two_pow_pos k; omega
 obtain ⟨a, b, c⟩ := Lib.bitLenAux_bounds 64 m h3 hm
 have e : Lib.bitLenAux 64 m = Lib.bitLen m := rfl
 rw [e] at a b c
 have q1 : 2 ^ k < 2 ^ Lib.bitLen m := by omega
 have q2 : 2 ^ (Lib.bitLen m - 1) < 2 ^ (k + 1) := by omega
 have r1 := (Nat.pow_lt_pow_iff_right (a := 2) (by omega)).1 q1
 have r2 := (Nat.pow_lt_pow_iff_right (a := 2) (by omega)).1 q2
 omega
theorem dhalf_any (n : Nat) (w : World) (h2 : 2 ≤ n) (hn : n ≤ 2199023255552) : Calls Tryz.prog 91 #[.int .i64 (n : Nat)] w fun e w' => e = .returned (.int .i64 (half n : Nat)) ∧ w = w' := by
 have e1 : IntKind.i64.wrap ((n : Int) - 1) = (n : Int) - 1 := IntWalk.i64_in _ (by omega)
 have e2 : IntKind.u64.wrap ((n : Int) - 1) = (n : Int) - 1 := by rw [IntKind.wrap_u64]; omega
 obtain ⟨k, HK⟩ : ∃ k, Hid (Nat.log2 (n - 1) = k) := ⟨_, Lib.hid rfl⟩
 have hlog := (Nat.log2_eq_iff (n := n - 1) (k := k) (by omega)).1 HK.out
 have hk : k ≤ 62 := by
  apply Classical.byContradiction
  intro hc
  have : 2 ^ 63 ≤ 2 ^ k := Nat.pow_le_pow_right (by omega) (by omega)
  omega
 have HE : Hid (half n = 2 ^ k) := Lib.hid (by rw [half_log h2 (by omega), HK.out])
 have HB : Hid (Lib.bitLen (n - 1) = k + 1) := Lib.hid (bitLen_log hlog.1 hlog.2 (by omega))
 have hw : IntKind.i64.wrap (((k + 1 : Nat) : Int) - 1) = (k : Int) := by rw [IntWalk.i64_in _ (by omega)]; omega
 have hw2 : IntKind.i64.wrap ((k : Int) + 1 - 1) = (k : Int) := by rw [IntWalk.i64_in _ (by omega)]; omega
 obtain ⟨p, HP⟩ : ∃ p : Nat, Hid (2 ^ k = p) := ⟨_, Lib.hid rfl⟩
 have HZ : Hid (wrap64 ((2 : Int) ^ k) = (p : Int)) := Lib.hid (by
  have hp : (2 : Nat) ^ k ≤ 2 ^ 62 := Nat.pow_le_pow_right (by omega) hk
  have e3 : (2 : Int) ^ k = ((2 ^ k : Nat) : Int) := by simp
  rw [e3, HP.out]
  rw [HP.out, show (2 : Nat) ^ 62 = 4611686018427387904 by decide] at hp
  unfold wrap64
  omega)
 clear hlog
 go_enter Tryz.func91, Tryz.ntmps91
 go_wp2_with fail
 refine (Tryz.bits_Len ((n : Int) - 1) w (by omega) (by omega)).mono ?_
 rintro e w2 ⟨rfl, rfl⟩
 rw [show ((n : Int) - 1).toNat = n - 1 by omega, HB.out]
 go_wp2_with fail
 go_ret
 exact ⟨by rw [HE.out, HP.out, ← HZ.out]; rfl, rfl⟩
end Go.Proofs.YtmfmgeapecapiaaGreatDoor
