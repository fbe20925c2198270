/- sizar/tree.Leaf of a valid line. -/
import Derived.Test.YtgcmbiegbclhmaaDoorTreeJoin
import Derived.Test.YtgcmbiegbclhmaaDoorTreeSalt
namespace Go.Proofs.YtgcmbiegbclhmaaDoor
open Go.RowKit SzSha SzTree
set_option linter.unusedVariables false
set_option maxRecDepth 100000
def lineTag : ByteArray := ⟨#[108, 105, 110, 101]⟩
def lineT : List Nat := [108, 105, 110, 101]
theorem lineTag_eq : strL lineTag = lineT := rfl
/-- the leaf of a line -/
def leafN (c0 c1 c2 c3 c4 : Int) (l : List Nat) : Nd := ⟨hashT lineT l [c0, c1, c2, c3, c4], c3, c2 * c3⟩
theorem leaf_d (c0 c1 c2 c3 c4 : Int) (l : List Nat) : dgV (hashT (strL lineTag) l [c0, c1, c2, c3, c4]) = dgV (leafN c0 c1 c2 c3 c4 l).d := by rw [lineTag_eq]; simp only [leafN]
theorem five_cells {w : World} {g t : Nat} {a b c d e : Int} (h : w.heap[g]? = some (.cells #[.int .i64 a, .int .i64 b, .int .i64 c, .int .i64 d, .int .i64 e] t (0, 0))) (i : Nat) (hi : i < 5) : w.cell? ⟨g, i, none⟩ = some (.int .i64 (([a, b, c, d, e] : List Int).getD i 0)) := by
  have : i = 0 ∨ i = 1 ∨ i = 2 ∨ i = 3 ∨ i = 4 := by omega
  rcases this with rfl | rfl | rfl | rfl | rfl <;> (rw [cell_of_row _ _ _ _ _ _ h]; rfl)
theorem mul_leaf {a b : Int} (h1 : 0 ≤ a) (h2 : a ≤ 12) (h3 : 0 ≤ b) (h4 : b ≤ 60) : 0 ≤ a * b ∧ a * b ≤ 12 * b := ⟨Int.mul_nonneg h1 h3, Int.mul_le_mul_of_nonneg_right h2 h3⟩
theorem three_rows3 (w : World) (X Y Z : Array Value) (t u v : Nat) : Below w.heap.size w (((w.alloc (.cells X t)).alloc (.cells Y u)).alloc (.cells Z v)) ∧ (((w.alloc (.cells X t)).alloc (.cells Y u)).alloc (.cells Z v)).heap[w.heap.size]? = some (.cells X t (0, 0)) ∧ (((w.alloc (.cells X t)).alloc (.cells Y u)).alloc (.cells Z v)).heap[w.heap.size + 1]? = some (.cells Y u (0, 0)) ∧ (((w.alloc (.cells X t)).alloc (.cells Y u)).alloc (.cells Z v)).heap[w.heap.size + 1 + 1]? = some (.cells Z v (0, 0)) := by
  have h1 := heap_alloc_new (w.alloc (.cells X t)) (.cells Y u)
  have h2 := heap_alloc_new ((w.alloc (.cells X t)).alloc (.cells Y u)) (.cells Z v)
  simp only [World.size_alloc] at h1 h2
  exact ⟨(((Below.refl _ w).alloc (Nat.le_refl _) _).alloc (by simp) _).alloc (by simp; omega) _, by rw [Below.heap_alloc _ _ _ (by simp; omega), Below.heap_alloc _ _ _ (by simp)]; exact heap_alloc_new w _, by rw [Below.heap_alloc _ _ _ (by simp)]; exact h1, h2⟩

def wF (W0 : World) (ba : Nat) (bs : Nat) (br : Nat) (c0 : Int) (c1 : Int) (c2 : Int) (c3 : Int) (c4 : Int) (l : List Nat) : Nat → Value → World → Prop
  | 0, fv, _ => fv = Value.slice (some ⟨bs, 0, none⟩) 32 32
  | 1, fv, _ => fv = Value.pointer (some ⟨ba, 0, none⟩)
  | 2, fv, _ => fv = Value.int .i64 (c0)
  | 3, fv, _ => fv = Value.pointer (some ⟨ba, 1, none⟩)
  | 4, fv, _ => fv = Value.int .i64 (c1)
  | 5, fv, _ => fv = Value.pointer (some ⟨ba, 2, none⟩)
  | 6, fv, _ => fv = Value.int .i64 (c2)
  | 7, fv, _ => fv = Value.pointer (some ⟨ba, 3, none⟩)
  | 8, fv, _ => fv = Value.int .i64 (c3)
  | 9, fv, _ => fv = Value.pointer (some ⟨ba, 4, none⟩)
  | 10, fv, _ => fv = Value.int .i64 (c4)
  | 11, fv, fw => ∃ g, fv = .slice (some ⟨g, 0, none⟩) 5 5 ∧ g < fw.heap.size ∧ ∀ i, i < 5 → fw.cell? ⟨g, i, none⟩ = some (.int .i64 (([c0, c1, c2, c3, c4] : List Int).getD i 0))
  | 12, fv, _ => fv = dgV (leafN c0 c1 c2 c3 c4 l).d
  | 13, fv, _ => fv = Value.pointer (some ⟨ba, 3, none⟩)
  | 14, fv, _ => fv = Value.int .i64 (c3)
  | 15, fv, _ => fv = Value.pointer (some ⟨ba, 2, none⟩)
  | 16, fv, _ => fv = Value.int .i64 (c2)
  | 17, fv, _ => fv = Value.pointer (some ⟨ba, 3, none⟩)
  | 18, fv, _ => fv = Value.int .i64 (c3)
  | 19, fv, _ => fv = Value.int .i64 (c2 * c3)
  | 20, fv, _ => fv = ndV (leafN c0 c1 c2 c3 c4 l)
  | 21, fv, fw => fw.heap[br]? = some (.cells (ndC (leafN c0 c1 c2 c3 c4 l)).toArray 26 (0, 0)) ∧ Below W0.heap.size W0 fw
  | 22, fv, _ => fv = Value.int .i64 (0)
  | _, _, _ => True
theorem wF_below {W0 : World} {ba : Nat} {bs : Nat} {br : Nat} {c0 : Int} {c1 : Int} {c2 : Int} {c3 : Int} {c4 : Int} {l : List Nat} {w w' : World} (hb : Below w.heap.size w w') : ∀ j v, wF W0 ba bs br c0 c1 c2 c3 c4 l j v w → wF W0 ba bs br c0 c1 c2 c3 c4 l j v w'
  | 0, v, h => h
  | 1, v, h => h
  | 2, v, h => h
  | 3, v, h => h
  | 4, v, h => h
  | 5, v, h => h
  | 6, v, h => h
  | 7, v, h => h
  | 8, v, h => h
  | 9, v, h => h
  | 10, v, h => h
  | 11, v, ⟨g, h1, h2, h3⟩ => ⟨g, h1, Nat.lt_of_lt_of_le h2 hb.size, fun i hi => (hb.cell (p := ⟨g, i, none⟩) h2).trans (h3 i hi)⟩
  | 12, v, h => h
  | 13, v, h => h
  | 14, v, h => h
  | 15, v, h => h
  | 16, v, h => h
  | 17, v, h => h
  | 18, v, h => h
  | 19, v, h => h
  | 20, v, h => h
  | 21, v, h => ⟨(hb.block br (Array.getElem?_eq_some_iff.1 h.1).1).trans h.1, h.2.trans (hb.mono h.2.size)⟩
  | 22, v, h => h
  | n + 23, v, h => trivial
theorem wF_pure {W0 : World} {ba : Nat} {bs : Nat} {br : Nat} {c0 : Int} {c1 : Int} {c2 : Int} {c3 : Int} {c4 : Int} {l : List Nat} {w w' : World} : ∀ j v, j ≠ 11 → j ≠ 21 → wF W0 ba bs br c0 c1 c2 c3 c4 l j v w → wF W0 ba bs br c0 c1 c2 c3 c4 l j v w'
  | 0, v, _, _, h => h
  | 1, v, _, _, h => h
  | 2, v, _, _, h => h
  | 3, v, _, _, h => h
  | 4, v, _, _, h => h
  | 5, v, _, _, h => h
  | 6, v, _, _, h => h
  | 7, v, _, _, h => h
  | 8, v, _, _, h => h
  | 9, v, _, _, h => h
  | 10, v, _, _, h => h
  | 11, v, hh, _, _ => absurd rfl hh
  | 12, v, _, _, h => h
  | 13, v, _, _, h => h
  | 14, v, _, _, h => h
  | 15, v, _, _, h => h
  | 16, v, _, _, h => h
  | 17, v, _, _, h => h
  | 18, v, _, _, h => h
  | 19, v, _, _, h => h
  | 20, v, _, _, h => h
  | 21, v, _, hh, _ => absurd rfl hh
  | 22, v, _, _, h => h
  | n + 23, v, _, _, h => trivial

set_option maxHeartbeats 4000000 in
theorem leaf_yes (c0 c1 c2 c3 c4 : Int) (l : List Nat) (w : World) (hv : 0 ≤ c0 ∧ c0 < 4096 ∧ 0 ≤ c1 ∧ c1 < 1024 ∧ 0 ≤ c2 ∧ c2 ≤ 12 ∧ 0 ≤ c3 ∧ c3 ≤ 60 ∧ 0 ≤ c4 ∧ c4 < 7) (hl : Hid (l.length = 32)) (hb : Hid (Bytes l)) (hT : Hid (Tabs w)) :
    Calls Tryd.prog 25 #[.agg #[.int .i64 c0, .int .i64 c1, .int .i64 c2, .int .i64 c3, .int .i64 c4], dgV l] w fun e w' => e = .returned (.tuple #[ndV (leafN c0 c1 c2 c3 c4 l), .int .i64 0]) ∧ Below w.heap.size w w' := by
  have hm := mul_leaf (a := c2) (b := c3) (by omega) (by omega) (by omega) (by omega)
  have HJ : Hid (NdOk (leafN c0 c1 c2 c3 c4 l)) := Lib.hid ⟨tagged_length _ _, tagged_bytes _ _, by simp only [leafN]; omega, by simp only [leafN]; omega⟩
  have HW1 : Hid (IntKind.i64.wrap (c2 * c3) = c2 * c3) := Lib.hid (IntWalk.i64_in _ (by omega))
  have HZS : Hid (∀ z ∈ ([c0, c1, c2, c3, c4] : List Int), -9223372036854775808 ≤ z ∧ z ≤ 9223372036854775807) := Lib.hid (fun z hz => by
    simp only [List.mem_cons, List.not_mem_nil, or_false] at hz
    rcases hz with rfl | rfl | rfl | rfl | rfl <;> omega)
  have HS1 : Hid ((Tryd.prog.info? 26).map (·.size) = some (ndC (leafN c0 c1 c2 c3 c4 l)).toArray.size) := Lib.hid (by rw [size34 HJ.out]; simp)
  have HS2 : Hid (34 = (ndC (leafN c0 c1 c2 c3 c4 l)).toArray.size) := Lib.hid (by simp [ndC_length HJ.out])
  have d0 : decide (c0 < 0) = false := decide_eq_false (by omega)
  have d1 : decide (4096 ≤ c0) = false := decide_eq_false (by omega)
  have d2 : decide (c1 < 0) = false := decide_eq_false (by omega)
  have d3 : decide (1024 ≤ c1) = false := decide_eq_false (by omega)
  have d4 : decide (c2 < 0) = false := decide_eq_false (by omega)
  have d5 : decide (12 < c2) = false := decide_eq_false (by omega)
  have d6 : decide (c3 < 0) = false := decide_eq_false (by omega)
  have d7 : decide (60 < c3) = false := decide_eq_false (by omega)
  have d8 : decide (c4 < 0) = false := decide_eq_false (by omega)
  have d9 : decide (7 ≤ c4) = false := decide_eq_false (by omega)
  clear hv hm
  obtain ⟨X, HX⟩ : ∃ X, Hid ((l.map fun x => Value.int .u8 (x : Nat)).toArray = X) := ⟨_, Lib.hid rfl⟩
  have e0 : dgV l = .agg X := by unfold dgV; rw [HX.out]
  rw [e0]
  clear e0
  obtain ⟨t1, t2, t3, t4⟩ := three_rows3 w #[.int .i64 c0, .int .i64 c1, .int .i64 c2, .int .i64 c3, .int .i64 c4] X #[.int .u8 0, .int .u8 0, .int .u8 0, .int .u8 0, .int .u8 0, .int .u8 0, .int .u8 0, .int .u8 0, .int .u8 0, .int .u8 0, .int .u8 0, .int .u8 0, .int .u8 0, .int .u8 0, .int .u8 0, .int .u8 0, .int .u8 0, .int .u8 0, .int .u8 0, .int .u8 0, .int .u8 0, .int .u8 0, .int .u8 0, .int .u8 0, .int .u8 0, .int .u8 0, .int .u8 0, .int .u8 0, .int .u8 0, .int .u8 0, .int .u8 0, .int .u8 0, .int .i64 0, .int .i64 0] 49 24 26
  have HB1 := Lib.hid t1
  have HRL := Lib.hid t2
  have HRS := Lib.hid t3
  have HRR := Lib.hid t4
  have hT1 := Lib.hid (hT.out.below HB1.out)
  have k0 := five_cells t2 0 (by omega)
  have k1 := five_cells t2 1 (by omega)
  have k2 := five_cells t2 2 (by omega)
  have k3 := five_cells t2 3 (by omega)
  have k4 := five_cells t2 4 (by omega)
  clear t1 t2 t3 t4
  go_enter Tryd.func25, Tryd.ntmps25
  go_wp2_with fail
  clear k0 k1 k2 k3 k4
  generalize (((w.alloc (.cells #[.int .i64 c0, .int .i64 c1, .int .i64 c2, .int .i64 c3, .int .i64 c4] 49)).alloc (.cells X 24)).alloc (.cells #[.int .u8 0, .int .u8 0, .int .u8 0, .int .u8 0, .int .u8 0, .int .u8 0, .int .u8 0, .int .u8 0, .int .u8 0, .int .u8 0, .int .u8 0, .int .u8 0, .int .u8 0, .int .u8 0, .int .u8 0, .int .u8 0, .int .u8 0, .int .u8 0, .int .u8 0, .int .u8 0, .int .u8 0, .int .u8 0, .int .u8 0, .int .u8 0, .int .u8 0, .int .u8 0, .int .u8 0, .int .u8 0, .int .u8 0, .int .u8 0, .int .u8 0, .int .u8 0, .int .i64 0, .int .i64 0] 26)) = W1 at *

  refine region_flow3 (by kernel_rfl) (by kernel_rfl) (fun i => Nat.beq i 21 || Nat.beq i 22) (fun i => i) (by kernel_rfl) (fun fx => #[Value.agg #[Value.int IntKind.i64 c0, Value.int IntKind.i64 c1, Value.int IntKind.i64 c2, Value.int IntKind.i64 c3, Value.int IntKind.i64 c4], Value.agg X, Value.pointer (some { block := w.heap.size, off := 0 }), Value.pointer (some { block := w.heap.size + 1, off := 0 }), Value.pointer (some { block := w.heap.size + 1 + 1, off := 0 }), fx 22, Value.pointer (some { block := w.heap.size, off := 0 }), Value.int IntKind.i64 c0, Value.bool false, Value.bool false, Value.pointer (some { block := w.heap.size, off := 0 }), Value.int IntKind.i64 c0, Value.bool false, Value.bool false, Value.bool false, Value.pointer (some { block := w.heap.size, off := 1 }), Value.int IntKind.i64 c1, Value.bool false, Value.bool false, Value.bool false, Value.pointer (some { block := w.heap.size, off := 1 }), Value.int IntKind.i64 c1, Value.bool false, Value.bool false, Value.bool false, Value.pointer (some { block := w.heap.size, off := 2 }), Value.int IntKind.i64 c2, Value.bool false, Value.bool false, Value.bool false, Value.pointer (some { block := w.heap.size, off := 2 }), Value.int IntKind.i64 c2, Value.bool false, Value.bool false, Value.bool false, Value.pointer (some { block := w.heap.size, off := 3 }), Value.int IntKind.i64 c3, Value.bool false, Value.bool false, Value.bool false, Value.pointer (some { block := w.heap.size, off := 3 }), Value.int IntKind.i64 c3, Value.bool false, Value.bool false, Value.bool false, Value.pointer (some { block := w.heap.size, off := 4 }), Value.int IntKind.i64 c4, Value.bool false, Value.bool false, Value.bool false, Value.pointer (some { block := w.heap.size, off := 4 }), Value.int IntKind.i64 c4, Value.bool false, Value.bool false, undef, fx 0, fx 1, fx 2, fx 3, fx 4, fx 5, fx 6, fx 7, fx 8, fx 9, fx 10, fx 11, fx 12, fx 13, fx 14, fx 15, fx 16, fx 17, fx 18, fx 19, fx 20]) (fun i => bif Nat.beq i 22 then Value.int IntKind.i64 0 else undef) (fun L fx w' => (L 21 = false → Below W1.heap.size W1 w')) (fun fi fv _ fw => wF w w.heap.size (w.heap.size + 1) (w.heap.size + 1 + 1) c0 c1 c2 c3 c4 l fi fv fw) (fun _ => (Below.refl _ _).drew) ?_ ?_
  · refine ⟨?_, ?_, ?_, ?_, ?_, ?_, ?_, ?_, ?_, ?_, ?_, ?_, ?_, ?_, ?_, ?_, ?_, ?_, ?_, ?_, ?_, ?_, ?_, trivial⟩
    all_goals intro L fx w' hC hi hcl hdn hd
    · have hnd : L 21 = false := Bool.eq_false_iff.2 (fun h => by have := (hcl 12 0 (hcl 20 12 (hcl 21 20 h (by kernel_rfl)) (by kernel_rfl)) (by kernel_rfl)); rw [hi] at this; cases this)
      go_wp2_with fail
      exact ⟨_, rfl, (fun _ => hC hnd), rfl, fun _ _ _ _ _ h => h⟩
    · have hnd : L 21 = false := Bool.eq_false_iff.2 (fun h => by have := (hcl 2 1 (hcl 11 2 (hcl 12 11 (hcl 20 12 (hcl 21 20 h (by kernel_rfl)) (by kernel_rfl)) (by kernel_rfl)) (by kernel_rfl)) (by kernel_rfl)); rw [hi] at this; cases this)
      go_wp2_with fail
      exact ⟨_, rfl, (fun _ => hC hnd), rfl, fun _ _ _ _ _ h => h⟩
    · have h1 : fx 1 = Value.pointer (some ⟨w.heap.size, 0, none⟩) := hd.1 rfl
      have hnd : L 21 = false := Bool.eq_false_iff.2 (fun h => by have := (hcl 11 2 (hcl 12 11 (hcl 20 12 (hcl 21 20 h (by kernel_rfl)) (by kernel_rfl)) (by kernel_rfl)) (by kernel_rfl)); rw [hi] at this; cases this)
      have hc : w'.cell? ⟨w.heap.size, 0, none⟩ = some (.int .i64 c0) := five_cells (((hC hnd).block _ (Array.getElem?_eq_some_iff.1 HRL.out).1).trans HRL.out) 0 (by omega)
      go_wp2_with fail
      exact ⟨_, by rw [← h1]; rfl, (fun _ => hC hnd), rfl, fun _ _ _ _ _ h => h⟩
    · have hnd : L 21 = false := Bool.eq_false_iff.2 (fun h => by have := (hcl 4 3 (hcl 11 4 (hcl 12 11 (hcl 20 12 (hcl 21 20 h (by kernel_rfl)) (by kernel_rfl)) (by kernel_rfl)) (by kernel_rfl)) (by kernel_rfl)); rw [hi] at this; cases this)
      go_wp2_with fail
      exact ⟨_, rfl, (fun _ => hC hnd), rfl, fun _ _ _ _ _ h => h⟩
    · have h3 : fx 3 = Value.pointer (some ⟨w.heap.size, 1, none⟩) := hd.1 rfl
      have hnd : L 21 = false := Bool.eq_false_iff.2 (fun h => by have := (hcl 11 4 (hcl 12 11 (hcl 20 12 (hcl 21 20 h (by kernel_rfl)) (by kernel_rfl)) (by kernel_rfl)) (by kernel_rfl)); rw [hi] at this; cases this)
      have hc : w'.cell? ⟨w.heap.size, 1, none⟩ = some (.int .i64 c1) := five_cells (((hC hnd).block _ (Array.getElem?_eq_some_iff.1 HRL.out).1).trans HRL.out) 1 (by omega)
      go_wp2_with fail
      exact ⟨_, by rw [← h3]; rfl, (fun _ => hC hnd), rfl, fun _ _ _ _ _ h => h⟩
    · have hnd : L 21 = false := Bool.eq_false_iff.2 (fun h => by have := (hcl 6 5 (hcl 11 6 (hcl 12 11 (hcl 20 12 (hcl 21 20 h (by kernel_rfl)) (by kernel_rfl)) (by kernel_rfl)) (by kernel_rfl)) (by kernel_rfl)); rw [hi] at this; cases this)
      go_wp2_with fail
      exact ⟨_, rfl, (fun _ => hC hnd), rfl, fun _ _ _ _ _ h => h⟩
    · have h5 : fx 5 = Value.pointer (some ⟨w.heap.size, 2, none⟩) := hd.1 rfl
      have hnd : L 21 = false := Bool.eq_false_iff.2 (fun h => by have := (hcl 11 6 (hcl 12 11 (hcl 20 12 (hcl 21 20 h (by kernel_rfl)) (by kernel_rfl)) (by kernel_rfl)) (by kernel_rfl)); rw [hi] at this; cases this)
      have hc : w'.cell? ⟨w.heap.size, 2, none⟩ = some (.int .i64 c2) := five_cells (((hC hnd).block _ (Array.getElem?_eq_some_iff.1 HRL.out).1).trans HRL.out) 2 (by omega)
      go_wp2_with fail
      exact ⟨_, by rw [← h5]; rfl, (fun _ => hC hnd), rfl, fun _ _ _ _ _ h => h⟩
    · have hnd : L 21 = false := Bool.eq_false_iff.2 (fun h => by have := (hcl 8 7 (hcl 11 8 (hcl 12 11 (hcl 20 12 (hcl 21 20 h (by kernel_rfl)) (by kernel_rfl)) (by kernel_rfl)) (by kernel_rfl)) (by kernel_rfl)); rw [hi] at this; cases this)
      go_wp2_with fail
      exact ⟨_, rfl, (fun _ => hC hnd), rfl, fun _ _ _ _ _ h => h⟩
    · have h7 : fx 7 = Value.pointer (some ⟨w.heap.size, 3, none⟩) := hd.1 rfl
      have hnd : L 21 = false := Bool.eq_false_iff.2 (fun h => by have := (hcl 11 8 (hcl 12 11 (hcl 20 12 (hcl 21 20 h (by kernel_rfl)) (by kernel_rfl)) (by kernel_rfl)) (by kernel_rfl)); rw [hi] at this; cases this)
      have hc : w'.cell? ⟨w.heap.size, 3, none⟩ = some (.int .i64 c3) := five_cells (((hC hnd).block _ (Array.getElem?_eq_some_iff.1 HRL.out).1).trans HRL.out) 3 (by omega)
      go_wp2_with fail
      exact ⟨_, by rw [← h7]; rfl, (fun _ => hC hnd), rfl, fun _ _ _ _ _ h => h⟩
    · have hnd : L 21 = false := Bool.eq_false_iff.2 (fun h => by have := (hcl 10 9 (hcl 11 10 (hcl 12 11 (hcl 20 12 (hcl 21 20 h (by kernel_rfl)) (by kernel_rfl)) (by kernel_rfl)) (by kernel_rfl)) (by kernel_rfl)); rw [hi] at this; cases this)
      go_wp2_with fail
      exact ⟨_, rfl, (fun _ => hC hnd), rfl, fun _ _ _ _ _ h => h⟩
    · have h9 : fx 9 = Value.pointer (some ⟨w.heap.size, 4, none⟩) := hd.1 rfl
      have hnd : L 21 = false := Bool.eq_false_iff.2 (fun h => by have := (hcl 11 10 (hcl 12 11 (hcl 20 12 (hcl 21 20 h (by kernel_rfl)) (by kernel_rfl)) (by kernel_rfl)) (by kernel_rfl)); rw [hi] at this; cases this)
      have hc : w'.cell? ⟨w.heap.size, 4, none⟩ = some (.int .i64 c4) := five_cells (((hC hnd).block _ (Array.getElem?_eq_some_iff.1 HRL.out).1).trans HRL.out) 4 (by omega)
      go_wp2_with fail
      exact ⟨_, by rw [← h9]; rfl, (fun _ => hC hnd), rfl, fun _ _ _ _ _ h => h⟩
    · have h2 : fx 2 = Value.int .i64 (c0) := hd.1 rfl
      have h4 : fx 4 = Value.int .i64 (c1) := hd.2.1 rfl
      have h6 : fx 6 = Value.int .i64 (c2) := hd.2.2.1 rfl
      have h8 : fx 8 = Value.int .i64 (c3) := hd.2.2.2.1 rfl
      have h10 : fx 10 = Value.int .i64 (c4) := hd.2.2.2.2.1 rfl
      have hnd : L 21 = false := Bool.eq_false_iff.2 (fun h => by have := (hcl 12 11 (hcl 20 12 (hcl 21 20 h (by kernel_rfl)) (by kernel_rfl)) (by kernel_rfl)); rw [hi] at this; cases this)
      go_wp2_with fail
      have hbb : Below w'.heap.size w' (w'.alloc (.cells #[.int .i64 c0, .int .i64 c1, .int .i64 c2, .int .i64 c3, .int .i64 c4] 3)) := (Below.refl _ _).alloc (Nat.le_refl _) _
      have hq := heap_alloc_new w' (.cells #[.int .i64 c0, .int .i64 c1, .int .i64 c2, .int .i64 c3, .int .i64 c4] 3)
      exact ⟨_, by rw [← h2, ← h4, ← h6, ← h8, ← h10]; rfl, fun _ => (hC hnd).trans (hbb.mono (hC hnd).size), ⟨_, rfl, by simp, fun i hi5 => five_cells hq i hi5⟩, fun j v t _ _ h => wF_below hbb j v h⟩
    · have h0 : fx 0 = Value.slice (some ⟨w.heap.size + 1, 0, none⟩) 32 32 := hd.1 rfl
      have H11 := Lib.hid (hd.2.1 rfl)
      have hnd : L 21 = false := Bool.eq_false_iff.2 (fun h => by have := (hcl 20 12 (hcl 21 20 h (by kernel_rfl)) (by kernel_rfl)); rw [hi] at this; cases this)
      obtain ⟨g, h11, hg, hcs⟩ := H11.out
      have hb12 := hC hnd
      have HCS := Lib.hid hcs
      clear hcs
      have HIN : Hid (In w' (some ⟨w.heap.size + 1, 0, none⟩) 32 32 l) := Lib.hid ⟨hl.out, Nat.le_refl _, (fun h => by cases h), hb.out, fun _ => ⟨_, 0, rfl, Nat.lt_of_lt_of_le (Array.getElem?_eq_some_iff.1 HRS.out).1 hb12.size, bytesAt_arr (by rw [HX.out]; exact ((hC hnd).block _ (Array.getElem?_eq_some_iff.1 HRS.out).1).trans HRS.out)⟩⟩
      go_wp2_with fail
      refine (thash_any lineTag [c0, c1, c2, c3, c4] g 5 5 _ 32 32 l w' (by decide) HZS rfl (by omega) HCS hg (by omega) (Lib.hid (hT1.out.below hb12)) HIN).mono ?_
      rintro e w2 ⟨rfl, hq⟩
      have HQ := Lib.hid hq
      clear hq
      rw [leaf_d]
      go_wp2_with fail
      exact ⟨_, by rw [← h0, ← h11]; rfl, fun _ => hb12.trans (HQ.out.mono hb12.size), rfl, fun j v t _ _ h => wF_below HQ.out j v h⟩
    · have hnd : L 21 = false := Bool.eq_false_iff.2 (fun h => by have := (hcl 14 13 (hcl 20 14 (hcl 21 20 h (by kernel_rfl)) (by kernel_rfl)) (by kernel_rfl)); rw [hi] at this; cases this)
      go_wp2_with fail
      exact ⟨_, rfl, (fun _ => hC hnd), rfl, fun _ _ _ _ _ h => h⟩
    · have h13 : fx 13 = Value.pointer (some ⟨w.heap.size, 3, none⟩) := hd.1 rfl
      have hnd : L 21 = false := Bool.eq_false_iff.2 (fun h => by have := (hcl 20 14 (hcl 21 20 h (by kernel_rfl)) (by kernel_rfl)); rw [hi] at this; cases this)
      have hc : w'.cell? ⟨w.heap.size, 3, none⟩ = some (.int .i64 c3) := five_cells (((hC hnd).block _ (Array.getElem?_eq_some_iff.1 HRL.out).1).trans HRL.out) 3 (by omega)
      go_wp2_with fail
      exact ⟨_, by rw [← h13]; rfl, (fun _ => hC hnd), rfl, fun _ _ _ _ _ h => h⟩
    · have hnd : L 21 = false := Bool.eq_false_iff.2 (fun h => by have := (hcl 16 15 (hcl 19 16 (hcl 20 19 (hcl 21 20 h (by kernel_rfl)) (by kernel_rfl)) (by kernel_rfl)) (by kernel_rfl)); rw [hi] at this; cases this)
      go_wp2_with fail
      exact ⟨_, rfl, (fun _ => hC hnd), rfl, fun _ _ _ _ _ h => h⟩
    · have h15 : fx 15 = Value.pointer (some ⟨w.heap.size, 2, none⟩) := hd.1 rfl
      have hnd : L 21 = false := Bool.eq_false_iff.2 (fun h => by have := (hcl 19 16 (hcl 20 19 (hcl 21 20 h (by kernel_rfl)) (by kernel_rfl)) (by kernel_rfl)); rw [hi] at this; cases this)
      have hc : w'.cell? ⟨w.heap.size, 2, none⟩ = some (.int .i64 c2) := five_cells (((hC hnd).block _ (Array.getElem?_eq_some_iff.1 HRL.out).1).trans HRL.out) 2 (by omega)
      go_wp2_with fail
      exact ⟨_, by rw [← h15]; rfl, (fun _ => hC hnd), rfl, fun _ _ _ _ _ h => h⟩
    · have hnd : L 21 = false := Bool.eq_false_iff.2 (fun h => by have := (hcl 18 17 (hcl 19 18 (hcl 20 19 (hcl 21 20 h (by kernel_rfl)) (by kernel_rfl)) (by kernel_rfl)) (by kernel_rfl)); rw [hi] at this; cases this)
      go_wp2_with fail
      exact ⟨_, rfl, (fun _ => hC hnd), rfl, fun _ _ _ _ _ h => h⟩
    · have h17 : fx 17 = Value.pointer (some ⟨w.heap.size, 3, none⟩) := hd.1 rfl
      have hnd : L 21 = false := Bool.eq_false_iff.2 (fun h => by have := (hcl 19 18 (hcl 20 19 (hcl 21 20 h (by kernel_rfl)) (by kernel_rfl)) (by kernel_rfl)); rw [hi] at this; cases this)
      have hc : w'.cell? ⟨w.heap.size, 3, none⟩ = some (.int .i64 c3) := five_cells (((hC hnd).block _ (Array.getElem?_eq_some_iff.1 HRL.out).1).trans HRL.out) 3 (by omega)
      go_wp2_with fail
      exact ⟨_, by rw [← h17]; rfl, (fun _ => hC hnd), rfl, fun _ _ _ _ _ h => h⟩
    · have h16 : fx 16 = Value.int .i64 (c2) := hd.1 rfl
      have h18 : fx 18 = Value.int .i64 (c3) := hd.2.1 rfl
      have hnd : L 21 = false := Bool.eq_false_iff.2 (fun h => by have := (hcl 20 19 (hcl 21 20 h (by kernel_rfl)) (by kernel_rfl)); rw [hi] at this; cases this)
      have hw : IntKind.i64.wrap (c2 * c3) = c2 * c3 := HW1.out
      go_wp2_with fail
      exact ⟨_, by rw [← h16, ← h18]; rfl, (fun _ => hC hnd), rfl, fun _ _ _ _ _ h => h⟩
    · have h12 : fx 12 = dgV (leafN c0 c1 c2 c3 c4 l).d := hd.1 rfl
      have h14 : fx 14 = Value.int .i64 (c3) := hd.2.1 rfl
      have h19 : fx 19 = Value.int .i64 (c2 * c3) := hd.2.2.1 rfl
      have hnd : L 21 = false := Bool.eq_false_iff.2 (fun h => by have := (hcl 21 20 h (by kernel_rfl)); rw [hi] at this; cases this)
      refine wpList_build_node rfl (.tmp 67) (.tmp 69) (.tmp 74) rfl (leafN c0 c1 c2 c3 c4 l).d c3 (c2 * c3) HJ.out.len h12 h14 h19 ?_
      clear hd
      go_wp2_with fail
      exact ⟨_, by rw [← h12, ← h19, ← h14]; rfl, fun _ => hC hnd, rfl, fun _ _ _ _ _ h => h⟩
    · have h20 : fx 20 = ndV (leafN c0 c1 c2 c3 c4 l) := hd.1 rfl
      have hb21 := hC hi
      have hrow := (hb21.block _ (Array.getElem?_eq_some_iff.1 HRR.out).1).trans HRR.out
      refine wpList_store_row rfl 26 (.tmp 4) (.tmp 75) rfl (w.heap.size + 1 + 1) (ndC (leafN c0 c1 c2 c3 c4 l)).toArray rfl h20 26 _ hrow HS1.out HS2.out (ndC_one _) ?_
      clear hd
      go_wp2_with fail
      refine ⟨undef, by rw [← h20]; rfl, fun h => (updB_self h).elim, ⟨setRow_heap _ _ _ _ _ _ hrow, below_setRow (HB1.out.trans (hb21.mono HB1.out.size)) (by omega) _⟩, fun j v t hj hu h => ?_⟩
      refine wF_pure j v ?_ ?_ h <;> intro e <;> subst e
      · refine absurd hu (not_needed (E := fun i => Nat.beq i 21 || Nat.beq i 22) (j := 11) [12] ?_ ?_ ?_)
        · kernel_rfl
        · kernel_rfl
        · intro m hm hne; simp at hm; subst hm; exact hcl 20 12 (hdn 20 (by kernel_rfl)) (by kernel_rfl)
      · rw [hi] at hj; cases hj
    · go_wp2_with fail
      exact ⟨_, rfl, fun h => hC h, rfl, fun _ _ _ _ _ h => h⟩
  · intro L fx w' hC hS
    have H21 := Lib.hid (hS 21 (by decide) rfl)
    have H22 := Lib.hid (hS 22 (by decide) rfl)

    have h22 : fx 22 = .int .i64 0 := H22.out
    rw [h22]
    clear hS h22 H22
    go_wp2_with fail
    have hl := run_loadVar_row (P := Tryd.prog) w' (w.heap.size + 1 + 1) 26 26 (ndC (leafN c0 c1 c2 c3 c4 l)).toArray (0, 0) _ H21.out.1 Tryd.underlying26 rfl HS1.out
    refine bodyPost_ret (v := .tuple #[ndV (leafN c0 c1 c2 c3 c4 l), .int .i64 0]) ?_ rfl ⟨rfl, H21.out.2⟩
    unfold ndV
    simp [results, Tryd.results25, asAddr, hl]
end Go.Proofs.YtgcmbiegbclhmaaDoor