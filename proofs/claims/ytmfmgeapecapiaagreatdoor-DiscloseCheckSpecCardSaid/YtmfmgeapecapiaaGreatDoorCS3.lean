/- sizar/tree.Leaf of a valid line. sizar/tree.Join of nodes that are not valid. sizar/tree.Leaf. sizar/tree.Root$1: the root of valid leaves. region_flow4: as region_flow3, and whoever is done, all that it waits for (phases and chains too) is done. Rows of elements, exchanged pairwise. -/
import Derived.Test.YtmfmgeapecapiaaGreatDoorCS2
import Derived.Test.YtmfmgeapecapiaaGreatDoorCS1
import Derived.IntWalk
set_option maxHeartbeats 16000001
namespace Go.Proofs.YtmfmgeapecapiaaGreatDoor
open Go.RowKit SzSha SzTree
set_option linter.unusedVariables false
set_option maxRecDepth 100000
def lineTag : ByteArray := ⟨#[108, 105, 110, 101]⟩
def lineT : List Nat := [108, 105, 110, 101]
theorem lineTag_eq : strL lineTag = lineT := rfl
/-- the leaf of a line -/
def leafN (c0 c1 c2 c3 c4 : Int) (l : List Nat) : Nd := ⟨hashT lineT l [c0, c1, c2, c3, c4], c3, c2 * c3⟩
theorem leaf_d (c0 c1 c2 c3 c4 : Int) (l : List Nat) : dgV (hashT (strL lineTag) l [c0, c1, c2, c3, c4]) = dgV (leafN c0 c1 c2 c3 c4 l).d := by rw [lineTag_eq]; simp only [leafN]
theorem five_cells {w : World} {g t : Nat} {a b c d e : Int} (h : w.heap[g]? = some (.cells #[.int .i64 a, .int .i64 b, .int .i64 c, .int .i64 d, .int .i64 e] t (0, 0))) (i : Nat) (hi : i < 5) : w.cell? ⟨g, i, none⟩ = some (.int .i64 (([a, b, c, d, e] : List Int).getD i 0)) := by
 have : i = 0 ∨ i = 1 ∨ i = 2 ∨ i = 3 ∨ i = 4 := by omega
 rcases this with rfl | rfl | rfl | rfl | rfl <;> (rw [cell_of_row _ _ _ _ _ _ h]; rfl)
theorem mul_leaf {a b : Int} (h1 : 0 ≤ a) (h2 : a ≤ 12) (h3 : 0 ≤ b) (h4 : b ≤ 60) : 0 ≤ a * b ∧ a * b ≤ 12 * b := ⟨Int.mul_nonneg h1 h3, Int.mul_le_mul_of_nonneg_right h2 h3⟩
theorem three_rows3 (w : World) (X Y Z : Array Value) (t u v : Nat) : Below w.heap.size w (((w.alloc (.cells X t)).alloc (.cells Y u)).alloc (.cells Z v)) ∧ (((w.alloc (.cells X t)).alloc (.cells Y u)).alloc (.cells Z v)).heap[w.heap.size]? = some (.cells X t (0, 0)) ∧ (((w.alloc (.cells X t)).alloc (.cells Y u)).alloc (.cells Z v)).heap[w.heap.size + 1]? = some (.cells Y u (0, 0)) ∧ (((w.alloc (.cells X t)).alloc (.cells Y u)).alloc (.cells Z v)).heap[w.heap.size + 1 + 1]? = some (.cells Z v (0, 0)) := by
 have h1 := heap_alloc_new (w.alloc (.cells X t)) (.cells Y u)
 have h2 := heap_alloc_new ((w.alloc (.cells X t)).alloc (.cells Y u)) (.cells Z v)
 simp only [World.size_alloc] at h1 h2
 exact ⟨(((Below.refl _ w).alloc (Nat.le_refl _) _).alloc (by simp) _).alloc (by simp; omega) _, by rw [Below.heap_alloc _ _ _ (by simp; omega), Below.heap_alloc _ _ _ (by simp)]; exact heap_alloc_new w _, by rw [Below.heap_alloc _ _ _ (by simp)]; exact h1, h2⟩
def wF (W0 : World) (ba : Nat) (bs : Nat) (br : Nat) (c0 : Int) (c1 : Int) (c2 : Int) (c3 : Int) (c4 : Int) (l : List Nat) : Nat → Value → World → Prop
 | 0, fv, _ => fv = .slice (some ⟨bs, 0, none⟩) 32 32
 | 1, fv, _ => fv = .pointer (some ⟨ba, 0, none⟩)
 | 2, fv, _ => fv = .int .i64 (c0)
 | 3, fv, _ => fv = .pointer (some ⟨ba, 1, none⟩)
 | 4, fv, _ => fv = .int .i64 (c1)
 | 5, fv, _ => fv = .pointer (some ⟨ba, 2, none⟩)
 | 6, fv, _ => fv = .int .i64 (c2)
 | 7, fv, _ => fv = .pointer (some ⟨ba, 3, none⟩)
 | 8, fv, _ => fv = .int .i64 (c3)
 | 9, fv, _ => fv = .pointer (some ⟨ba, 4, none⟩)
 | 10, fv, _ => fv = .int .i64 (c4)
 | 11, fv, fw => ∃ g, fv = .slice (some ⟨g, 0, none⟩) 5 5 ∧ g < fw.heap.size ∧ ∀ i, i < 5 → fw.cell? ⟨g, i, none⟩ = some (.int .i64 (([c0, c1, c2, c3, c4] : List Int).getD i 0))
 | 12, fv, _ => fv = dgV (leafN c0 c1 c2 c3 c4 l).d
 | 13, fv, _ => fv = .pointer (some ⟨ba, 3, none⟩)
 | 14, fv, _ => fv = .int .i64 (c3)
 | 15, fv, _ => fv = .pointer (some ⟨ba, 2, none⟩)
 | 16, fv, _ => fv = .int .i64 (c2)
 | 17, fv, _ => fv = .pointer (some ⟨ba, 3, none⟩)
 | 18, fv, _ => fv = .int .i64 (c3)
 | 19, fv, _ => fv = .int .i64 (c2 * c3)
 | 20, fv, _ => fv = ndV (leafN c0 c1 c2 c3 c4 l)
 | 21, fv, fw => fw.heap[br]? = some (.cells (ndC (leafN c0 c1 c2 c3 c4 l)).toArray 39 (0, 0)) ∧ Below W0.heap.size W0 fw
 | 22, fv, _ => fv = .int .i64 (0)
 | _, _, _ => True
theorem wF_below {W0 : World} {ba : Nat} {bs : Nat} {br : Nat} {c0 : Int} {c1 : Int} {c2 : Int} {c3 : Int} {c4 : Int} {l : List Nat} {w w' : World} (hb : Below w.heap.size w w') : ∀ j v, wF W0 ba bs br c0 c1 c2 c3 c4 l j v w → wF W0 ba bs br c0 c1 c2 c3 c4 l j v w'
 | 0, v, h => h
 | 1, v, h => h
 | 2, v, h => h
 | 3, v, h => h
 | 4, v, h => h
 | 5, v, h => h
 | 6, v, h => h
 | 7, v, h => h
 | 8, v, h => h
 | 9, v, h => h
 | 10, v, h => h
 | 11, v, ⟨g, h1, h2, h3⟩ => ⟨g, h1, Nat.lt_of_lt_of_le h2 hb.size, fun i hi => (hb.cell (p := ⟨g, i, none⟩) h2).trans (h3 i hi)⟩
 | 12, v, h => h
 | 13, v, h => h
 | 14, v, h => h
 | 15, v, h => h
 | 16, v, h => h
 | 17, v, h => h
 | 18, v, h => h
 | 19, v, h => h
 | 20, v, h => h
 | 21, v, h => ⟨(hb.block br (Array.getElem?_eq_some_iff.1 h.1).1).trans h.1, h.2.trans (hb.mono h.2.size)⟩
 | 22, v, h => h
 | n + 23, v, h => trivial
theorem wF_pure {W0 : World} {ba : Nat} {bs : Nat} {br : Nat} {c0 : Int} {c1 : Int} {c2 : Int} {c3 : Int} {c4 : Int} {l : List Nat} {w w' : World} : ∀ j v, j ≠ 11 → j ≠ 21 → wF W0 ba bs br c0 c1 c2 c3 c4 l j v w → wF W0 ba bs br c0 c1 c2 c3 c4 l j v w'
 | 0, v, _, _, h => h
 | 1, v, _, _, h => h
 | 2, v, _, _, h => h
 | 3, v, _, _, h => h
 | 4, v, _, _, h => h
 | 5, v, _, _, h => h
 | 6, v, _, _, h => h
 | 7, v, _, _, h => h
 | 8, v, _, _, h => h
 | 9, v, _, _, h => h
 | 10, v, _, _, h => h
 | 11, v, hh, _, _ => absurd rfl hh
 | 12, v, _, _, h => h
 | 13, v, _, _, h => h
 | 14, v, _, _, h => h
 | 15, v, _, _, h => h
 | 16, v, _, _, h => h
 | 17, v, _, _, h => h
 | 18, v, _, _, h => h
 | 19, v, _, _, h => h
 | 20, v, _, _, h => h
 | 21, v, _, hh, _ => absurd rfl hh
 | 22, v, _, _, h => h
 | n + 23, v, _, _, h => trivial
theorem leaf_yes (c0 c1 c2 c3 c4 : Int) (l : List Nat) (w : World) (hv : 0 ≤ c0 ∧ c0 < 4096 ∧ 0 ≤ c1 ∧ c1 < 1024 ∧ 0 ≤ c2 ∧ c2 ≤ 12 ∧ 0 ≤ c3 ∧ c3 ≤ 60 ∧ 0 ≤ c4 ∧ c4 < 7) (hl : Hid (l.length = 32)) (hb : Hid (Bytes l)) (hT : Hid (Tabs w)) :
  Calls Tryz.prog 41 #[.agg #[.int .i64 c0, .int .i64 c1, .int .i64 c2, .int .i64 c3, .int .i64 c4], dgV l] w fun e w' => e = .returned (.tuple #[ndV (leafN c0 c1 c2 c3 c4 l), .int .i64 0]) ∧ Below w.heap.size w w' := by
 have hm := mul_leaf (a := c2) (b := c3) (by omega) (by omega) (by omega) (by omega)
 have HJ : Hid (NdOk (leafN c0 c1 c2 c3 c4 l)) := Lib.hid ⟨tagged_length _ _, tagged_bytes _ _, by simp only [leafN]; omega, by simp only [leafN]; omega⟩
 have HW1 : Hid (IntKind.i64.wrap (c2 * c3) = c2 * c3) := Lib.hid (IntWalk.i64_in _ (by omega))
 have HZS : Hid (∀ z ∈ ([c0, c1, c2, c3, c4] : List Int), -9223372036854775808 ≤ z ∧ z ≤ 9223372036854775807) := Lib.hid (fun z hz => by
  simp only [List.mem_cons, List.not_mem_nil, or_false] at hz
  rcases hz with rfl | rfl | rfl | rfl | rfl <;> omega)
 have HS1 : Hid ((Tryz.prog.info? 39).map (·.size) = some (ndC (leafN c0 c1 c2 c3 c4 l)).toArray.size) := Lib.hid (by rw [size34 HJ.out]; simp)
 have HS2 : Hid (34 = (ndC (leafN c0 c1 c2 c3 c4 l)).toArray.size) := Lib.hid (by simp [ndC_length HJ.out])
 have d0 : decide (c0 < 0) = false := decide_eq_false (by omega)
 have d1 : decide (4096 ≤ c0) = false := decide_eq_false (by omega)
 have d2 : decide (c1 < 0) = false := decide_eq_false (by omega)
 have d3 : decide (1024 ≤ c1) = false := decide_eq_false (by omega)
 have d4 : decide (c2 < 0) = false := decide_eq_false (by omega)
 have d5 : decide (12 < c2) = false := decide_eq_false (by omega)
 have d6 : decide (c3 < 0) = false := decide_eq_false (by omega)
 have d7 : decide (60 < c3) = false := decide_eq_false (by omega)
 have d8 : decide (c4 < 0) = false := decide_eq_false (by omega)
 have d9 : decide (7 ≤ c4) = false := decide_eq_false (by omega)
 clear hv hm
 obtain ⟨X, HX⟩ : ∃ X, Hid ((l.map fun x => Value.int .u8 (x : Nat)).toArray = X) := ⟨_, Lib.hid rfl⟩
 have e0 : dgV l = .agg X := by unfold dgV; rw [HX.out]
 rw [e0]
 clear e0
 obtain ⟨t1, t2, t3, t4⟩ := three_rows3 w #[.int .i64 c0, .int .i64 c1, .int .i64 c2, .int .i64 c3, .int .i64 c4] X #[.int .u8 0, .int .u8 0, .int .u8 0, .int .u8 0, .int .u8 0, .int .u8 0, .int .u8 0, .int .u8 0, .int .u8 0, .int .u8 0, .int .u8 0, .int .u8 0, .int .u8 0, .int .u8 0, .int .u8 0, .int .u8 0, .int .u8 0, .int .u8 0, .int .u8 0, .int .u8 0, .int .u8 0, .int .u8 0, .int .u8 0, .int .u8 0, .int .u8 0, .int .u8 0, .int .u8 0, .int .u8 0, .int .u8 0, .int .u8 0, .int .u8 0, .int .u8 0, .int .i64 0, .int .i64 0] 45 25 39
 have HB1 := Lib.hid t1
 have HRL := Lib.hid t2
 have HRS := Lib.hid t3
 have HRR := Lib.hid t4
 have hT1 := Lib.hid (hT.out.below HB1.out)
 have k0 := five_cells t2 0 (by omega)
 have k1 := five_cells t2 1 (by omega)
 have k2 := five_cells t2 2 (by omega)
 have k3 := five_cells t2 3 (by omega)
 have k4 := five_cells t2 4 (by omega)
 clear t1 t2 t3 t4
 go_enter Tryz.func41, Tryz.ntmps41
 go_wp2_with fail
 clear k0 k1 k2 k3 k4
 generalize (((w.alloc (.cells #[.int .i64 c0, .int .i64 c1, .int .i64 c2, .int .i64 c3, .int .i64 c4] 45)).alloc (.cells X 25)).alloc (.cells #[.int .u8 0, .int .u8 0, .int .u8 0, .int .u8 0, .int .u8 0, .int .u8 0, .int .u8 0, .int .u8 0, .int .u8 0, .int .u8 0, .int .u8 0, .int .u8 0, .int .u8 0, .int .u8 0, .int .u8 0, .int .u8 0, .int .u8 0, .int .u8 0, .int .u8 0, .int .u8 0, .int .u8 0, .int .u8 0, .int .u8 0, .int .u8 0, .int .u8 0, .int .u8 0, .int .u8 0, .int .u8 0, .int .u8 0, .int .u8 0, .int .u8 0, .int .u8 0, .int .i64 0, .int .i64 0] 39)) = W1 at *
 refine region_flow3 (by kernel_rfl) (by kernel_rfl) (fun i => Nat.beq i 21 || Nat.beq i 22) (fun i => i) (by kernel_rfl) (fun fx => #[.agg #[.int IntKind.i64 c0, .int IntKind.i64 c1, .int IntKind.i64 c2, .int IntKind.i64 c3, .int IntKind.i64 c4], .agg X, .pointer (some { block := w.heap.size, off := 0 }), .pointer (some { block := w.heap.size + 1, off := 0 }), .pointer (some { block := w.heap.size + 1 + 1, off := 0 }), fx 22, .pointer (some { block := w.heap.size, off := 0 }), .int IntKind.i64 c0, .bool false, .bool false, .pointer (some { block := w.heap.size, off := 0 }), .int IntKind.i64 c0, .bool false, .bool false, .bool false, .pointer (some { block := w.heap.size, off := 1 }), .int IntKind.i64 c1, .bool false, .bool false, .bool false, .pointer (some { block := w.heap.size, off := 1 }), .int IntKind.i64 c1, .bool false, .bool false, .bool false, .pointer (some { block := w.heap.size, off := 2 }), .int IntKind.i64 c2, .bool false, .bool false, .bool false, .pointer (some { block := w.heap.size, off := 2 }), .int IntKind.i64 c2, .bool false, .bool false, .bool false, .pointer (some { block := w.heap.size, off := 3 }), .int IntKind.i64 c3, .bool false, .bool false, .bool false, .pointer (some { block := w.heap.size, off := 3 }), .int IntKind.i64 c3, .bool false, .bool false, .bool false, .pointer (some { block := w.heap.size, off := 4 }), .int IntKind.i64 c4, .bool false, .bool false, .bool false, .pointer (some { block := w.heap.size, off := 4 }), .int IntKind.i64 c4, .bool false, .bool false, undef, fx 0, fx 1, fx 2, fx 3, fx 4, fx 5, fx 6, fx 7, fx 8, fx 9, fx 10, fx 11, fx 12, fx 13, fx 14, fx 15, fx 16, fx 17, fx 18, fx 19, fx 20]) (fun i => bif Nat.beq i 22 then Value.int IntKind.i64 0 else undef) (fun L fx w' => (L 21 = false → Below W1.heap.size W1 w')) (fun fi fv _ fw => wF w w.heap.size (w.heap.size + 1) (w.heap.size + 1 + 1) c0 c1 c2 c3 c4 l fi fv fw) (fun _ => (Below.refl _ _).drew) ?_ ?_
 ·refine ⟨?_, ?_, ?_, ?_, ?_, ?_, ?_, ?_, ?_, ?_, ?_, ?_, ?_, ?_, ?_, ?_, ?_, ?_, ?_, ?_, ?_, ?_, ?_, trivial⟩
  all_goals intro L fx w' hC hi hcl hdn hd
  ·have hnd : L 21 = false := Bool.eq_false_iff.2 (fun h => by have := (hcl 12 0 (hcl 20 12 (hcl 21 20 h (by kernel_rfl)) (by kernel_rfl)) (by kernel_rfl)); rw [hi] at this; cases this)
   go_wp2_with fail
   exact ⟨_, rfl, (fun _ => hC hnd), rfl, kP⟩
  ·have hnd : L 21 = false := Bool.eq_false_iff.2 (fun h => by have := (hcl 2 1 (hcl 11 2 (hcl 12 11 (hcl 20 12 (hcl 21 20 h (by kernel_rfl)) (by kernel_rfl)) (by kernel_rfl)) (by kernel_rfl)) (by kernel_rfl)); rw [hi] at this; cases this)
   go_wp2_with fail
   exact ⟨_, rfl, (fun _ => hC hnd), rfl, kP⟩
  ·have h1 : fx 1 = .pointer (some ⟨w.heap.size, 0, none⟩) := hd.1 rfl
   have hnd : L 21 = false := Bool.eq_false_iff.2 (fun h => by have := (hcl 11 2 (hcl 12 11 (hcl 20 12 (hcl 21 20 h (by kernel_rfl)) (by kernel_rfl)) (by kernel_rfl)) (by kernel_rfl)); rw [hi] at this; cases this)
   have hc : w'.cell? ⟨w.heap.size, 0, none⟩ = some (.int .i64 c0) := five_cells (((hC hnd).block _ (Array.getElem?_eq_some_iff.1 HRL.out).1).trans HRL.out) 0 (by omega)
   go_wp2_with fail
   exact ⟨_, by rw [← h1]; rfl, (fun _ => hC hnd), rfl, kP⟩
  ·have hnd : L 21 = false := Bool.eq_false_iff.2 (fun h => by have := (hcl 4 3 (hcl 11 4 (hcl 12 11 (hcl 20 12 (hcl 21 20 h (by kernel_rfl)) (by kernel_rfl)) (by kernel_rfl)) (by kernel_rfl)) (by kernel_rfl)); rw [hi] at this; cases this)
   go_wp2_with fail
   exact ⟨_, rfl, (fun _ => hC hnd), rfl, kP⟩
  ·have h3 : fx 3 = .pointer (some ⟨w.heap.size, 1, none⟩) := hd.1 rfl
   have hnd : L 21 = false := Bool.eq_false_iff.2 (fun h => by have := (hcl 11 4 (hcl 12 11 (hcl 20 12 (hcl 21 20 h (by kernel_rfl)) (by kernel_rfl)) (by kernel_rfl)) (by kernel_rfl)); rw [hi] at this; cases this)
   have hc : w'.cell? ⟨w.heap.size, 1, none⟩ = some (.int .i64 c1) := five_cells (((hC hnd).block _ (Array.getElem?_eq_some_iff.1 HRL.out).1).trans HRL.out) 1 (by omega)
   go_wp2_with fail
   exact ⟨_, by rw [← h3]; rfl, (fun _ => hC hnd), rfl, kP⟩
  ·have hnd : L 21 = false := Bool.eq_false_iff.2 (fun h => by have := (hcl 6 5 (hcl 11 6 (hcl 12 11 (hcl 20 12 (hcl 21 20 h (by kernel_rfl)) (by kernel_rfl)) (by kernel_rfl)) (by kernel_rfl)) (by kernel_rfl)); rw [hi] at this; cases this)
   go_wp2_with fail
   exact ⟨_, rfl, (fun _ => hC hnd), rfl, kP⟩
  ·have h5 : fx 5 = .pointer (some ⟨w.heap.size, 2, none⟩) := hd.1 rfl
   have hnd : L 21 = false := Bool.eq_false_iff.2 (fun h => by have := (hcl 11 6 (hcl 12 11 (hcl 20 12 (hcl 21 20 h (by kernel_rfl)) (by kernel_rfl)) (by kernel_rfl)) (by kernel_rfl)); rw [hi] at this; cases this)
   have hc : w'.cell? ⟨w.heap.size, 2, none⟩ = some (.int .i64 c2) := five_cells (((hC hnd).block _ (Array.getElem?_eq_some_iff.1 HRL.out).1).trans HRL.out) 2 (by omega)
   go_wp2_with fail
   exact ⟨_, by rw [← h5]; rfl, (fun _ => hC hnd), rfl, kP⟩
  ·have hnd : L 21 = false := Bool.eq_false_iff.2 (fun h => by have := (hcl 8 7 (hcl 11 8 (hcl 12 11 (hcl 20 12 (hcl 21 20 h (by kernel_rfl)) (by kernel_rfl)) (by kernel_rfl)) (by kernel_rfl)) (by kernel_rfl)); rw [hi] at this; cases this)
   go_wp2_with fail
   exact ⟨_, rfl, (fun _ => hC hnd), rfl, kP⟩
  ·have h7 : fx 7 = .pointer (some ⟨w.heap.size, 3, none⟩) := hd.1 rfl
   have hnd : L 21 = false := Bool.eq_false_iff.2 (fun h => by have := (hcl 11 8 (hcl 12 11 (hcl 20 12 (hcl 21 20 h (by kernel_rfl)) (by kernel_rfl)) (by kernel_rfl)) (by kernel_rfl)); rw [hi] at this; cases this)
   have hc : w'.cell? ⟨w.heap.size, 3, none⟩ = some (.int .i64 c3) := five_cells (((hC hnd).block _ (Array.getElem?_eq_some_iff.1 HRL.out).1).trans HRL.out) 3 (by omega)
   go_wp2_with fail
   exact ⟨_, by rw [← h7]; rfl, (fun _ => hC hnd), rfl, kP⟩
  ·have hnd : L 21 = false := Bool.eq_false_iff.2 (fun h => by have := (hcl 10 9 (hcl 11 10 (hcl 12 11 (hcl 20 12 (hcl 21 20 h (by kernel_rfl)) (by kernel_rfl)) (by kernel_rfl)) (by kernel_rfl)) (by kernel_rfl)); rw [hi] at this; cases this)
   go_wp2_with fail
   exact ⟨_, rfl, (fun _ => hC hnd), rfl, kP⟩
  ·have h9 : fx 9 = .pointer (some ⟨w.heap.size, 4, none⟩) := hd.1 rfl
   have hnd : L 21 = false := Bool.eq_false_iff.2 (fun h => by have := (hcl 11 10 (hcl 12 11 (hcl 20 12 (hcl 21 20 h (by kernel_rfl)) (by kernel_rfl)) (by kernel_rfl)) (by kernel_rfl)); rw [hi] at this; cases this)
   have hc : w'.cell? ⟨w.heap.size, 4, none⟩ = some (.int .i64 c4) := five_cells (((hC hnd).block _ (Array.getElem?_eq_some_iff.1 HRL.out).1).trans HRL.out) 4 (by omega)
   go_wp2_with fail
   exact ⟨_, by rw [← h9]; rfl, (fun _ => hC hnd), rfl, kP⟩
  ·have h2 : fx 2 = .int .i64 (c0) := hd.1 rfl
   have h4 : fx 4 = .int .i64 (c1) := hd.2.1 rfl
   have h6 : fx 6 = .int .i64 (c2) := hd.2.2.1 rfl
   have h8 : fx 8 = .int .i64 (c3) := hd.2.2.2.1 rfl
   have h10 : fx 10 = .int .i64 (c4) := hd.2.2.2.2.1 rfl
   have hnd : L 21 = false := Bool.eq_false_iff.2 (fun h => by have := (hcl 12 11 (hcl 20 12 (hcl 21 20 h (by kernel_rfl)) (by kernel_rfl)) (by kernel_rfl)); rw [hi] at this; cases this)
   go_wp2_with fail
   have hbb : Below w'.heap.size w' (w'.alloc (.cells #[.int .i64 c0, .int .i64 c1, .int .i64 c2, .int .i64 c3, .int .i64 c4] 3)) := (Below.refl _ _).alloc (Nat.le_refl _) _
   have hq := heap_alloc_new w' (.cells #[.int .i64 c0, .int .i64 c1, .int .i64 c2, .int .i64 c3, .int .i64 c4] 3)
   exact ⟨_, by rw [← h2, ← h4, ← h6, ← h8, ← h10]; rfl, fun _ => (hC hnd).trans (hbb.mono (hC hnd).size), ⟨_, rfl, by simp, fun i hi5 => five_cells hq i hi5⟩, fun j v t _ _ h => wF_below hbb j v h⟩
  ·have h0 : fx 0 = .slice (some ⟨w.heap.size + 1, 0, none⟩) 32 32 := hd.1 rfl
   have H11 := Lib.hid (hd.2.1 rfl)
   have hnd : L 21 = false := Bool.eq_false_iff.2 (fun h => by have := (hcl 20 12 (hcl 21 20 h (by kernel_rfl)) (by kernel_rfl)); rw [hi] at this; cases this)
   obtain ⟨g, h11, hg, hcs⟩ := H11.out
   have hb12 := hC hnd
   have HCS := Lib.hid hcs
   clear hcs
   have HIN : Hid (In w' (some ⟨w.heap.size + 1, 0, none⟩) 32 32 l) := Lib.hid ⟨hl.out, Nat.le_refl _, (fun h => by cases h), hb.out, fun _ => ⟨_, 0, rfl, Nat.lt_of_lt_of_le (Array.getElem?_eq_some_iff.1 HRS.out).1 hb12.size, bytesAt_arr (by rw [HX.out]; exact ((hC hnd).block _ (Array.getElem?_eq_some_iff.1 HRS.out).1).trans HRS.out)⟩⟩
   go_wp2_with fail
   refine (thash_any lineTag [c0, c1, c2, c3, c4] g 5 5 _ 32 32 l w' (by decide) HZS rfl (by omega) HCS hg (by omega) (Lib.hid (hT1.out.below hb12)) HIN).mono ?_
   rintro e w2 ⟨rfl, hq⟩
   have HQ := Lib.hid hq
   clear hq
   rw [leaf_d]
   go_wp2_with fail
   exact ⟨_, by rw [← h0, ← h11]; rfl, fun _ => hb12.trans (HQ.out.mono hb12.size), rfl, fun j v t _ _ h => wF_below HQ.out j v h⟩
  ·have hnd : L 21 = false := Bool.eq_false_iff.2 (fun h => by have := (hcl 14 13 (hcl 20 14 (hcl 21 20 h (by kernel_rfl)) (by kernel_rfl)) (by kernel_rfl)); rw [hi] at this; cases this)
   go_wp2_with fail
   exact ⟨_, rfl, (fun _ => hC hnd), rfl, kP⟩
  ·have h13 : fx 13 = .pointer (some ⟨w.heap.size, 3, none⟩) := hd.1 rfl
   have hnd : L 21 = false := Bool.eq_false_iff.2 (fun h => by have := (hcl 20 14 (hcl 21 20 h (by kernel_rfl)) (by kernel_rfl)); rw [hi] at this; cases this)
   have hc : w'.cell? ⟨w.heap.size, 3, none⟩ = some (.int .i64 c3) := five_cells (((hC hnd).block _ (Array.getElem?_eq_some_iff.1 HRL.out).1).trans HRL.out) 3 (by omega)
   go_wp2_with fail
   exact ⟨_, by rw [← h13]; rfl, (fun _ => hC hnd), rfl, kP⟩
  ·have hnd : L 21 = false := Bool.eq_false_iff.2 (fun h => by have := (hcl 16 15 (hcl 19 16 (hcl 20 19 (hcl 21 20 h (by kernel_rfl)) (by kernel_rfl)) (by kernel_rfl)) (by kernel_rfl)); rw [hi] at this; cases this)
   go_wp2_with fail
   exact ⟨_, rfl, (fun _ => hC hnd), rfl, kP⟩
  ·have h15 : fx 15 = .pointer (some ⟨w.heap.size, 2, none⟩) := hd.1 rfl
   have hnd : L 21 = false := Bool.eq_false_iff.2 (fun h => by have := (hcl 19 16 (hcl 20 19 (hcl 21 20 h (by kernel_rfl)) (by kernel_rfl)) (by kernel_rfl)); rw [hi] at this; cases this)
   have hc : w'.cell? ⟨w.heap.size, 2, none⟩ = some (.int .i64 c2) := five_cells (((hC hnd).block _ (Array.getElem?_eq_some_iff.1 HRL.out).1).trans HRL.out) 2 (by omega)
   go_wp2_with fail
   exact ⟨_, by rw [← h15]; rfl, (fun _ => hC hnd), rfl, kP⟩
  ·have hnd : L 21 = false := Bool.eq_false_iff.2 (fun h => by have := (hcl 18 17 (hcl 19 18 (hcl 20 19 (hcl 21 20 h (by kernel_rfl)) (by kernel_rfl)) (by kernel_rfl)) (by kernel_rfl)); rw [hi] at this; cases this)
   go_wp2_with fail
   exact ⟨_, rfl, (fun _ => hC hnd), rfl, kP⟩
  ·have h17 : fx 17 = .pointer (some ⟨w.heap.size, 3, none⟩) := hd.1 rfl
   have hnd : L 21 = false := Bool.eq_false_iff.2 (fun h => by have := (hcl 19 18 (hcl 20 19 (hcl 21 20 h (by kernel_rfl)) (by kernel_rfl)) (by kernel_rfl)); rw [hi] at this; cases this)
   have hc : w'.cell? ⟨w.heap.size, 3, none⟩ = some (.int .i64 c3) := five_cells (((hC hnd).block _ (Array.getElem?_eq_some_iff.1 HRL.out).1).trans HRL.out) 3 (by omega)
   go_wp2_with fail
   exact ⟨_, by rw [← h17]; rfl, (fun _ => hC hnd), rfl, kP⟩
  ·have h16 : fx 16 = .int .i64 (c2) := hd.1 rfl
   have h18 : fx 18 = .int .i64 (c3) := hd.2.1 rfl
   have hnd : L 21 = false := Bool.eq_false_iff.2 (fun h => by have := (hcl 20 19 (hcl 21 20 h (by kernel_rfl)) (by kernel_rfl)); rw [hi] at this; cases this)
   have hw : IntKind.i64.wrap (c2 * c3) = c2 * c3 := HW1.out
   go_wp2_with fail
   exact ⟨_, by rw [← h16, ← h18]; rfl, (fun _ => hC hnd), rfl, kP⟩
  ·have h12 : fx 12 = dgV (leafN c0 c1 c2 c3 c4 l).d := hd.1 rfl
   have h14 : fx 14 = .int .i64 (c3) := hd.2.1 rfl
   have h19 : fx 19 = .int .i64 (c2 * c3) := hd.2.2.1 rfl
   have hnd : L 21 = false := Bool.eq_false_iff.2 (fun h => by have := (hcl 21 20 h (by kernel_rfl)); rw [hi] at this; cases this)
   refine wpList_build_node rfl (.tmp 67) (.tmp 69) (.tmp 74) rfl (leafN c0 c1 c2 c3 c4 l).d c3 (c2 * c3) HJ.out.len h12 h14 h19 ?_
   clear hd
   go_wp2_with fail
   exact ⟨_, by rw [← h12, ← h19, ← h14]; rfl, fun _ => hC hnd, rfl, kP⟩
  ·have h20 : fx 20 = ndV (leafN c0 c1 c2 c3 c4 l) := hd.1 rfl
   have hb21 := hC hi
   have hrow := (hb21.block _ (Array.getElem?_eq_some_iff.1 HRR.out).1).trans HRR.out
   refine wpList_store_row rfl 39 (.tmp 4) (.tmp 75) rfl (w.heap.size + 1 + 1) (ndC (leafN c0 c1 c2 c3 c4 l)).toArray rfl h20 39 _ hrow HS1.out HS2.out (ndC_one _) ?_
   clear hd
   go_wp2_with fail
   refine ⟨undef, by rw [← h20]; rfl, fun h => (updB_self h).elim, ⟨setRow_heap _ _ _ _ _ _ hrow, below_setRow (HB1.out.trans (hb21.mono HB1.out.size)) (by omega) _⟩, fun j v t hj hu h => ?_⟩
   refine wF_pure j v ?_ ?_ h <;> intro e <;> subst e
   ·refine absurd hu (not_needed (E := fun i => Nat.beq i 21 || Nat.beq i 22) (j := 11) [12] ?_ ?_ ?_)
    ·kernel_rfl
    ·kernel_rfl
    ·intro m hm hne; simp at hm; subst hm; exact hcl 20 12 (hdn 20 (by kernel_rfl)) (by kernel_rfl)
   ·rw [hi] at hj; cases hj
  ·go_wp2_with fail
   exact ⟨_, rfl, fun h => hC h, rfl, kP⟩
 ·intro L fx w' hC hS
  have H21 := Lib.hid (hS 21 (by decide) rfl)
  have H22 := Lib.hid (hS 22 (by decide) rfl)
  have h22 : fx 22 = .int .i64 0 := H22.out
  rw [h22]
  clear hS h22 H22
  go_wp2_with fail
  have hl := run_loadVar_row (P := Tryz.prog) w' (w.heap.size + 1 + 1) 39 39 (ndC (leafN c0 c1 c2 c3 c4 l)).toArray (0, 0) _ H21.out.1 Tryz.underlying39 rfl HS1.out
  refine bodyPost_ret (v := .tuple #[ndV (leafN c0 c1 c2 c3 c4 l), .int .i64 0]) ?_ rfl ⟨rfl, H21.out.2⟩
  unfold ndV
  simp [results, Tryz.results41, asAddr, hl]
def zeroN : Nd := ⟨List.replicate 32 0, 0, 0⟩
theorem zeroN_ok : NdOk zeroN := ⟨by simp [zeroN], (fun x hx => by have := List.eq_of_mem_replicate hx; omega), by simp [zeroN], by simp [zeroN]⟩
theorem zeroN_cells : (ndC zeroN).toArray = #[.int .u8 0, .int .u8 0, .int .u8 0, .int .u8 0, .int .u8 0, .int .u8 0, .int .u8 0, .int .u8 0, .int .u8 0, .int .u8 0, .int .u8 0, .int .u8 0, .int .u8 0, .int .u8 0, .int .u8 0, .int .u8 0, .int .u8 0, .int .u8 0, .int .u8 0, .int .u8 0, .int .u8 0, .int .u8 0, .int .u8 0, .int .u8 0, .int .u8 0, .int .u8 0, .int .u8 0, .int .u8 0, .int .u8 0, .int .u8 0, .int .u8 0, .int .u8 0, .int .i64 0, .int .i64 0] := by simp [zeroN, ndC, List.replicate]
/-- a line is valid -/
def lOk (c0 c1 c2 c3 c4 : Int) : Prop := 0 ≤ c0 ∧ c0 < 4096 ∧ 0 ≤ c1 ∧ c1 < 1024 ∧ 0 ≤ c2 ∧ c2 ≤ 12 ∧ 0 ≤ c3 ∧ c3 ≤ 60 ∧ 0 ≤ c4 ∧ c4 < 7
theorem zeros34 : (#[.int .u8 0, .int .u8 0, .int .u8 0, .int .u8 0, .int .u8 0, .int .u8 0, .int .u8 0, .int .u8 0, .int .u8 0, .int .u8 0, .int .u8 0, .int .u8 0, .int .u8 0, .int .u8 0, .int .u8 0, .int .u8 0, .int .u8 0, .int .u8 0, .int .u8 0, .int .u8 0, .int .u8 0, .int .u8 0, .int .u8 0, .int .u8 0, .int .u8 0, .int .u8 0, .int .u8 0, .int .u8 0, .int .u8 0, .int .u8 0, .int .u8 0, .int .u8 0, .int .i64 0, .int .i64 0] : Array Value) = (ndC zeroN).toArray := zeroN_cells.symm
theorem leaf_n0 (c0 c1 c2 c3 c4 : Int) (l : List Nat) (w : World) (d0 : decide (c0 < 0) = true) :
  Calls Tryz.prog 41 #[.agg #[.int .i64 c0, .int .i64 c1, .int .i64 c2, .int .i64 c3, .int .i64 c4], dgV l] w fun e w' => e = .returned (.tuple #[ndV zeroN, .int .i64 410]) ∧ Below w.heap.size w w' := by
 have HSZ : Hid ((Tryz.prog.info? 39).map (·.size) = some (ndC zeroN).toArray.size) := Lib.hid (by rw [size34 zeroN_ok]; simp)
 obtain ⟨X, HX⟩ : ∃ X, Hid ((l.map fun x => Value.int .u8 (x : Nat)).toArray = X) := ⟨_, Lib.hid rfl⟩
 have e0 : dgV l = .agg X := by unfold dgV; rw [HX.out]
 rw [e0]
 clear e0
 obtain ⟨t1, t2, t3, t4⟩ := three_rows3 w #[.int .i64 c0, .int .i64 c1, .int .i64 c2, .int .i64 c3, .int .i64 c4] X #[.int .u8 0, .int .u8 0, .int .u8 0, .int .u8 0, .int .u8 0, .int .u8 0, .int .u8 0, .int .u8 0, .int .u8 0, .int .u8 0, .int .u8 0, .int .u8 0, .int .u8 0, .int .u8 0, .int .u8 0, .int .u8 0, .int .u8 0, .int .u8 0, .int .u8 0, .int .u8 0, .int .u8 0, .int .u8 0, .int .u8 0, .int .u8 0, .int .u8 0, .int .u8 0, .int .u8 0, .int .u8 0, .int .u8 0, .int .u8 0, .int .u8 0, .int .u8 0, .int .i64 0, .int .i64 0] 45 25 39
 have HB1 := Lib.hid t1
 have HRR := Lib.hid t4
 have k0 := five_cells t2 0 (by omega)
 have k1 := five_cells t2 1 (by omega)
 have k2 := five_cells t2 2 (by omega)
 have k3 := five_cells t2 3 (by omega)
 have k4 := five_cells t2 4 (by omega)
 have HSZ2 := HSZ
 have HON := Lib.hid (ndC_one zeroN)
 rw [← zeros34] at HSZ2 HON
 clear t1 t2 t3 t4
 go_enter Tryz.func41, Tryz.ntmps41
 go_wp2_with (first | (refine wpList_load_row rfl 39 (.tmp 4) rfl (w.heap.size + 1 + 1) rfl 39 _ (0, 0) _ HRR.out Tryz.underlying39 rfl HSZ2.out ?_) | (refine wpList_store_row rfl 39 (.tmp 4) (.tmp 54) rfl (w.heap.size + 1 + 1) #[.int .u8 0, .int .u8 0, .int .u8 0, .int .u8 0, .int .u8 0, .int .u8 0, .int .u8 0, .int .u8 0, .int .u8 0, .int .u8 0, .int .u8 0, .int .u8 0, .int .u8 0, .int .u8 0, .int .u8 0, .int .u8 0, .int .u8 0, .int .u8 0, .int .u8 0, .int .u8 0, .int .u8 0, .int .u8 0, .int .u8 0, .int .u8 0, .int .u8 0, .int .u8 0, .int .u8 0, .int .u8 0, .int .u8 0, .int .u8 0, .int .u8 0, .int .u8 0, .int .i64 0, .int .i64 0] ?ha ?hb 39 _ HRR.out HSZ2.out rfl HON.out ?hc))
 rw [zeros34] at HB1 HRR
 rw [zeros34]
 have hr := setRow_heap _ (w.heap.size + 1 + 1) _ (ndC zeroN).toArray _ _ HRR.out
 have hl := run_loadVar_row (P := Tryz.prog) _ (w.heap.size + 1 + 1) 39 39 (ndC zeroN).toArray (0, 0) _ hr Tryz.underlying39 rfl HSZ.out
 refine bodyPost_ret (v := .tuple #[ndV zeroN, .int .i64 410]) ?_ rfl ⟨rfl, below_setRow HB1.out (by omega) _⟩
 unfold ndV
 simp [results, Tryz.results41, asAddr, hl]
theorem leaf_n1 (c0 c1 c2 c3 c4 : Int) (l : List Nat) (w : World) (d0 : decide (c0 < 0) = false) (d1 : decide (4096 ≤ c0) = true) :
  Calls Tryz.prog 41 #[.agg #[.int .i64 c0, .int .i64 c1, .int .i64 c2, .int .i64 c3, .int .i64 c4], dgV l] w fun e w' => e = .returned (.tuple #[ndV zeroN, .int .i64 410]) ∧ Below w.heap.size w w' := by
 have HSZ : Hid ((Tryz.prog.info? 39).map (·.size) = some (ndC zeroN).toArray.size) := Lib.hid (by rw [size34 zeroN_ok]; simp)
 obtain ⟨X, HX⟩ : ∃ X, Hid ((l.map fun x => Value.int .u8 (x : Nat)).toArray = X) := ⟨_, Lib.hid rfl⟩
 have e0 : dgV l = .agg X := by unfold dgV; rw [HX.out]
 rw [e0]
 clear e0
 obtain ⟨t1, t2, t3, t4⟩ := three_rows3 w #[.int .i64 c0, .int .i64 c1, .int .i64 c2, .int .i64 c3, .int .i64 c4] X #[.int .u8 0, .int .u8 0, .int .u8 0, .int .u8 0, .int .u8 0, .int .u8 0, .int .u8 0, .int .u8 0, .int .u8 0, .int .u8 0, .int .u8 0, .int .u8 0, .int .u8 0, .int .u8 0, .int .u8 0, .int .u8 0, .int .u8 0, .int .u8 0, .int .u8 0, .int .u8 0, .int .u8 0, .int .u8 0, .int .u8 0, .int .u8 0, .int .u8 0, .int .u8 0, .int .u8 0, .int .u8 0, .int .u8 0, .int .u8 0, .int .u8 0, .int .u8 0, .int .i64 0, .int .i64 0] 45 25 39
 have HB1 := Lib.hid t1
 have HRR := Lib.hid t4
 have k0 := five_cells t2 0 (by omega)
 have k1 := five_cells t2 1 (by omega)
 have k2 := five_cells t2 2 (by omega)
 have k3 := five_cells t2 3 (by omega)
 have k4 := five_cells t2 4 (by omega)
 have HSZ2 := HSZ
 have HON := Lib.hid (ndC_one zeroN)
 rw [← zeros34] at HSZ2 HON
 clear t1 t2 t3 t4
 go_enter Tryz.func41, Tryz.ntmps41
 go_wp2_with (first | (refine wpList_load_row rfl 39 (.tmp 4) rfl (w.heap.size + 1 + 1) rfl 39 _ (0, 0) _ HRR.out Tryz.underlying39 rfl HSZ2.out ?_) | (refine wpList_store_row rfl 39 (.tmp 4) (.tmp 54) rfl (w.heap.size + 1 + 1) #[.int .u8 0, .int .u8 0, .int .u8 0, .int .u8 0, .int .u8 0, .int .u8 0, .int .u8 0, .int .u8 0, .int .u8 0, .int .u8 0, .int .u8 0, .int .u8 0, .int .u8 0, .int .u8 0, .int .u8 0, .int .u8 0, .int .u8 0, .int .u8 0, .int .u8 0, .int .u8 0, .int .u8 0, .int .u8 0, .int .u8 0, .int .u8 0, .int .u8 0, .int .u8 0, .int .u8 0, .int .u8 0, .int .u8 0, .int .u8 0, .int .u8 0, .int .u8 0, .int .i64 0, .int .i64 0] ?ha ?hb 39 _ HRR.out HSZ2.out rfl HON.out ?hc))
 rw [zeros34] at HB1 HRR
 rw [zeros34]
 have hr := setRow_heap _ (w.heap.size + 1 + 1) _ (ndC zeroN).toArray _ _ HRR.out
 have hl := run_loadVar_row (P := Tryz.prog) _ (w.heap.size + 1 + 1) 39 39 (ndC zeroN).toArray (0, 0) _ hr Tryz.underlying39 rfl HSZ.out
 refine bodyPost_ret (v := .tuple #[ndV zeroN, .int .i64 410]) ?_ rfl ⟨rfl, below_setRow HB1.out (by omega) _⟩
 unfold ndV
 simp [results, Tryz.results41, asAddr, hl]
theorem leaf_n2 (c0 c1 c2 c3 c4 : Int) (l : List Nat) (w : World) (d0 : decide (c0 < 0) = false) (d1 : decide (4096 ≤ c0) = false) (d2 : decide (c1 < 0) = true) :
  Calls Tryz.prog 41 #[.agg #[.int .i64 c0, .int .i64 c1, .int .i64 c2, .int .i64 c3, .int .i64 c4], dgV l] w fun e w' => e = .returned (.tuple #[ndV zeroN, .int .i64 410]) ∧ Below w.heap.size w w' := by
 have HSZ : Hid ((Tryz.prog.info? 39).map (·.size) = some (ndC zeroN).toArray.size) := Lib.hid (by rw [size34 zeroN_ok]; simp)
 obtain ⟨X, HX⟩ : ∃ X, Hid ((l.map fun x => Value.int .u8 (x : Nat)).toArray = X) := ⟨_, Lib.hid rfl⟩
 have e0 : dgV l = .agg X := by unfold dgV; rw [HX.out]
 rw [e0]
 clear e0
 obtain ⟨t1, t2, t3, t4⟩ := three_rows3 w #[.int .i64 c0, .int .i64 c1, .int .i64 c2, .int .i64 c3, .int .i64 c4] X #[.int .u8 0, .int .u8 0, .int .u8 0, .int .u8 0, .int .u8 0, .int .u8 0, .int .u8 0, .int .u8 0, .int .u8 0, .int .u8 0, .int .u8 0, .int .u8 0, .int .u8 0, .int .u8 0, .int .u8 0, .int .u8 0, .int .u8 0, .int .u8 0, .int .u8 0, .int .u8 0, .int .u8 0, .int .u8 0, .int .u8 0, .int .u8 0, .int .u8 0, .int .u8 0, .int .u8 0, .int .u8 0, .int .u8 0, .int .u8 0, .int .u8 0, .int .u8 0, .int .i64 0, .int .i64 0] 45 25 39
 have HB1 := Lib.hid t1
 have HRR := Lib.hid t4
 have k0 := five_cells t2 0 (by omega)
 have k1 := five_cells t2 1 (by omega)
 have k2 := five_cells t2 2 (by omega)
 have k3 := five_cells t2 3 (by omega)
 have k4 := five_cells t2 4 (by omega)
 have HSZ2 := HSZ
 have HON := Lib.hid (ndC_one zeroN)
 rw [← zeros34] at HSZ2 HON
 clear t1 t2 t3 t4
 go_enter Tryz.func41, Tryz.ntmps41
 go_wp2_with (first | (refine wpList_load_row rfl 39 (.tmp 4) rfl (w.heap.size + 1 + 1) rfl 39 _ (0, 0) _ HRR.out Tryz.underlying39 rfl HSZ2.out ?_) | (refine wpList_store_row rfl 39 (.tmp 4) (.tmp 54) rfl (w.heap.size + 1 + 1) #[.int .u8 0, .int .u8 0, .int .u8 0, .int .u8 0, .int .u8 0, .int .u8 0, .int .u8 0, .int .u8 0, .int .u8 0, .int .u8 0, .int .u8 0, .int .u8 0, .int .u8 0, .int .u8 0, .int .u8 0, .int .u8 0, .int .u8 0, .int .u8 0, .int .u8 0, .int .u8 0, .int .u8 0, .int .u8 0, .int .u8 0, .int .u8 0, .int .u8 0, .int .u8 0, .int .u8 0, .int .u8 0, .int .u8 0, .int .u8 0, .int .u8 0, .int .u8 0, .int .i64 0, .int .i64 0] ?ha ?hb 39 _ HRR.out HSZ2.out rfl HON.out ?hc))
 rw [zeros34] at HB1 HRR
 rw [zeros34]
 have hr := setRow_heap _ (w.heap.size + 1 + 1) _ (ndC zeroN).toArray _ _ HRR.out
 have hl := run_loadVar_row (P := Tryz.prog) _ (w.heap.size + 1 + 1) 39 39 (ndC zeroN).toArray (0, 0) _ hr Tryz.underlying39 rfl HSZ.out
 refine bodyPost_ret (v := .tuple #[ndV zeroN, .int .i64 410]) ?_ rfl ⟨rfl, below_setRow HB1.out (by omega) _⟩
 unfold ndV
 simp [results, Tryz.results41, asAddr, hl]
theorem leaf_n3 (c0 c1 c2 c3 c4 : Int) (l : List Nat) (w : World) (d0 : decide (c0 < 0) = false) (d1 : decide (4096 ≤ c0) = false) (d2 : decide (c1 < 0) = false) (d3 : decide (1024 ≤ c1) = true) :
  Calls Tryz.prog 41 #[.agg #[.int .i64 c0, .int .i64 c1, .int .i64 c2, .int .i64 c3, .int .i64 c4], dgV l] w fun e w' => e = .returned (.tuple #[ndV zeroN, .int .i64 410]) ∧ Below w.heap.size w w' := by
 have HSZ : Hid ((Tryz.prog.info? 39).map (·.size) = some (ndC zeroN).toArray.size) := Lib.hid (by rw [size34 zeroN_ok]; simp)
 obtain ⟨X, HX⟩ : ∃ X, Hid ((l.map fun x => Value.int .u8 (x : Nat)).toArray = X) := ⟨_, Lib.hid rfl⟩
 have e0 : dgV l = .agg X := by unfold dgV; rw [HX.out]
 rw [e0]
 clear e0
 obtain ⟨t1, t2, t3, t4⟩ := three_rows3 w #[.int .i64 c0, .int .i64 c1, .int .i64 c2, .int .i64 c3, .int .i64 c4] X #[.int .u8 0, .int .u8 0, .int .u8 0, .int .u8 0, .int .u8 0, .int .u8 0, .int .u8 0, .int .u8 0, .int .u8 0, .int .u8 0, .int .u8 0, .int .u8 0, .int .u8 0, .int .u8 0, .int .u8 0, .int .u8 0, .int .u8 0, .int .u8 0, .int .u8 0, .int .u8 0, .int .u8 0, .int .u8 0, .int .u8 0, .int .u8 0, .int .u8 0, .int .u8 0, .int .u8 0, .int .u8 0, .int .u8 0, .int .u8 0, .int .u8 0, .int .u8 0, .int .i64 0, .int .i64 0] 45 25 39
 have HB1 := Lib.hid t1
 have HRR := Lib.hid t4
 have k0 := five_cells t2 0 (by omega)
 have k1 := five_cells t2 1 (by omega)
 have k2 := five_cells t2 2 (by omega)
 have k3 := five_cells t2 3 (by omega)
 have k4 := five_cells t2 4 (by omega)
 have HSZ2 := HSZ
 have HON := Lib.hid (ndC_one zeroN)
 rw [← zeros34] at HSZ2 HON
 clear t1 t2 t3 t4
 go_enter Tryz.func41, Tryz.ntmps41
 go_wp2_with (first | (refine wpList_load_row rfl 39 (.tmp 4) rfl (w.heap.size + 1 + 1) rfl 39 _ (0, 0) _ HRR.out Tryz.underlying39 rfl HSZ2.out ?_) | (refine wpList_store_row rfl 39 (.tmp 4) (.tmp 54) rfl (w.heap.size + 1 + 1) #[.int .u8 0, .int .u8 0, .int .u8 0, .int .u8 0, .int .u8 0, .int .u8 0, .int .u8 0, .int .u8 0, .int .u8 0, .int .u8 0, .int .u8 0, .int .u8 0, .int .u8 0, .int .u8 0, .int .u8 0, .int .u8 0, .int .u8 0, .int .u8 0, .int .u8 0, .int .u8 0, .int .u8 0, .int .u8 0, .int .u8 0, .int .u8 0, .int .u8 0, .int .u8 0, .int .u8 0, .int .u8 0, .int .u8 0, .int .u8 0, .int .u8 0, .int .u8 0, .int .i64 0, .int .i64 0] ?ha ?hb 39 _ HRR.out HSZ2.out rfl HON.out ?hc))
 rw [zeros34] at HB1 HRR
 rw [zeros34]
 have hr := setRow_heap _ (w.heap.size + 1 + 1) _ (ndC zeroN).toArray _ _ HRR.out
 have hl := run_loadVar_row (P := Tryz.prog) _ (w.heap.size + 1 + 1) 39 39 (ndC zeroN).toArray (0, 0) _ hr Tryz.underlying39 rfl HSZ.out
 refine bodyPost_ret (v := .tuple #[ndV zeroN, .int .i64 410]) ?_ rfl ⟨rfl, below_setRow HB1.out (by omega) _⟩
 unfold ndV
 simp [results, Tryz.results41, asAddr, hl]
theorem leaf_n4 (c0 c1 c2 c3 c4 : Int) (l : List Nat) (w : World) (d0 : decide (c0 < 0) = false) (d1 : decide (4096 ≤ c0) = false) (d2 : decide (c1 < 0) = false) (d3 : decide (1024 ≤ c1) = false) (d4 : decide (c2 < 0) = true) :
  Calls Tryz.prog 41 #[.agg #[.int .i64 c0, .int .i64 c1, .int .i64 c2, .int .i64 c3, .int .i64 c4], dgV l] w fun e w' => e = .returned (.tuple #[ndV zeroN, .int .i64 410]) ∧ Below w.heap.size w w' := by
 have HSZ : Hid ((Tryz.prog.info? 39).map (·.size) = some (ndC zeroN).toArray.size) := Lib.hid (by rw [size34 zeroN_ok]; simp)
 obtain ⟨X, HX⟩ : ∃ X, Hid ((l.map fun x => Value.int .u8 (x : Nat)).toArray = X) := ⟨_, Lib.hid rfl⟩
 have e0 : dgV l = .agg X := by unfold dgV; rw [HX.out]
 rw [e0]
 clear e0
 obtain ⟨t1, t2, t3, t4⟩ := three_rows3 w #[.int .i64 c0, .int .i64 c1, .int .i64 c2, .int .i64 c3, .int .i64 c4] X #[.int .u8 0, .int .u8 0, .int .u8 0, .int .u8 0, .int .u8 0, .int .u8 0, .int .u8 0, .int .u8 0, .int .u8 0, .int .u8 0, .int .u8 0, .int .u8 0, .int .u8 0, .int .u8 0, .int .u8 0, .int .u8 0, .int .u8 0, .int .u8 0, .int .u8 0, .int .u8 0, .int .u8 0, .int .u8 0, .int .u8 0, .int .u8 0, .int .u8 0, .int .u8 0, .int .u8 0, .int .u8 0, .int .u8 0, .int .u8 0, .int .u8 0, .int .u8 0, .int .i64 0, .int .i64 0] 45 25 39
 have HB1 := Lib.hid t1
 have HRR := Lib.hid t4
 have k0 := five_cells t2 0 (by omega)
 have k1 := five_cells t2 1 (by omega)
 have k2 := five_cells t2 2 (by omega)
 have k3 := five_cells t2 3 (by omega)
 have k4 := five_cells t2 4 (by omega)
 have HSZ2 := HSZ
 have HON := Lib.hid (ndC_one zeroN)
 rw [← zeros34] at HSZ2 HON
 clear t1 t2 t3 t4
 go_enter Tryz.func41, Tryz.ntmps41
 go_wp2_with (first | (refine wpList_load_row rfl 39 (.tmp 4) rfl (w.heap.size + 1 + 1) rfl 39 _ (0, 0) _ HRR.out Tryz.underlying39 rfl HSZ2.out ?_) | (refine wpList_store_row rfl 39 (.tmp 4) (.tmp 54) rfl (w.heap.size + 1 + 1) #[.int .u8 0, .int .u8 0, .int .u8 0, .int .u8 0, .int .u8 0, .int .u8 0, .int .u8 0, .int .u8 0, .int .u8 0, .int .u8 0, .int .u8 0, .int .u8 0, .int .u8 0, .int .u8 0, .int .u8 0, .int .u8 0, .int .u8 0, .int .u8 0, .int .u8 0, .int .u8 0, .int .u8 0, .int .u8 0, .int .u8 0, .int .u8 0, .int .u8 0, .int .u8 0, .int .u8 0, .int .u8 0, .int .u8 0, .int .u8 0, .int .u8 0, .int .u8 0, .int .i64 0, .int .i64 0] ?ha ?hb 39 _ HRR.out HSZ2.out rfl HON.out ?hc))
 rw [zeros34] at HB1 HRR
 rw [zeros34]
 have hr := setRow_heap _ (w.heap.size + 1 + 1) _ (ndC zeroN).toArray _ _ HRR.out
 have hl := run_loadVar_row (P := Tryz.prog) _ (w.heap.size + 1 + 1) 39 39 (ndC zeroN).toArray (0, 0) _ hr Tryz.underlying39 rfl HSZ.out
 refine bodyPost_ret (v := .tuple #[ndV zeroN, .int .i64 410]) ?_ rfl ⟨rfl, below_setRow HB1.out (by omega) _⟩
 unfold ndV
 simp [results, Tryz.results41, asAddr, hl]
theorem leaf_n5 (c0 c1 c2 c3 c4 : Int) (l : List Nat) (w : World) (d0 : decide (c0 < 0) = false) (d1 : decide (4096 ≤ c0) = false) (d2 : decide (c1 < 0) = false) (d3 : decide (1024 ≤ c1) = false) (d4 : decide (c2 < 0) = false) (d5 : decide (12 < c2) = true) :
  Calls Tryz.prog 41 #[.agg #[.int .i64 c0, .int .i64 c1, .int .i64 c2, .int .i64 c3, .int .i64 c4], dgV l] w fun e w' => e = .returned (.tuple #[ndV zeroN, .int .i64 410]) ∧ Below w.heap.size w w' := by
 have HSZ : Hid ((Tryz.prog.info? 39).map (·.size) = some (ndC zeroN).toArray.size) := Lib.hid (by rw [size34 zeroN_ok]; simp)
 obtain ⟨X, HX⟩ : ∃ X, Hid ((l.map fun x => Value.int .u8 (x : Nat)).toArray = X) := ⟨_, Lib.hid rfl⟩
 have e0 : dgV l = .agg X := by unfold dgV; rw [HX.out]
 rw [e0]
 clear e0
 obtain ⟨t1, t2, t3, t4⟩ := three_rows3 w #[.int .i64 c0, .int .i64 c1, .int .i64 c2, .int .i64 c3, .int .i64 c4] X #[.int .u8 0, .int .u8 0, .int .u8 0, .int .u8 0, .int .u8 0, .int .u8 0, .int .u8 0, .int .u8 0, .int .u8 0, .int .u8 0, .int .u8 0, .int .u8 0, .int .u8 0, .int .u8 0, .int .u8 0, .int .u8 0, .int .u8 0, .int .u8 0, .int .u8 0, .int .u8 0, .int .u8 0, .int .u8 0, .int .u8 0, .int .u8 0, .int .u8 0, .int .u8 0, .int .u8 0, .int .u8 0, .int .u8 0, .int .u8 0, .int .u8 0, .int .u8 0, .int .i64 0, .int .i64 0] 45 25 39
 have HB1 := Lib.hid t1
 have HRR := Lib.hid t4
 have k0 := five_cells t2 0 (by omega)
 have k1 := five_cells t2 1 (by omega)
 have k2 := five_cells t2 2 (by omega)
 have k3 := five_cells t2 3 (by omega)
 have k4 := five_cells t2 4 (by omega)
 have HSZ2 := HSZ
 have HON := Lib.hid (ndC_one zeroN)
 rw [← zeros34] at HSZ2 HON
 clear t1 t2 t3 t4
 go_enter Tryz.func41, Tryz.ntmps41
 go_wp2_with (first | (refine wpList_load_row rfl 39 (.tmp 4) rfl (w.heap.size + 1 + 1) rfl 39 _ (0, 0) _ HRR.out Tryz.underlying39 rfl HSZ2.out ?_) | (refine wpList_store_row rfl 39 (.tmp 4) (.tmp 54) rfl (w.heap.size + 1 + 1) #[.int .u8 0, .int .u8 0, .int .u8 0, .int .u8 0, .int .u8 0, .int .u8 0, .int .u8 0, .int .u8 0, .int .u8 0, .int .u8 0, .int .u8 0, .int .u8 0, .int .u8 0, .int .u8 0, .int .u8 0, .int .u8 0, .int .u8 0, .int .u8 0, .int .u8 0, .int .u8 0, .int .u8 0, .int .u8 0, .int .u8 0, .int .u8 0, .int .u8 0, .int .u8 0, .int .u8 0, .int .u8 0, .int .u8 0, .int .u8 0, .int .u8 0, .int .u8 0, .int .i64 0, .int .i64 0] ?ha ?hb 39 _ HRR.out HSZ2.out rfl HON.out ?hc))
 rw [zeros34] at HB1 HRR
 rw [zeros34]
 have hr := setRow_heap _ (w.heap.size + 1 + 1) _ (ndC zeroN).toArray _ _ HRR.out
 have hl := run_loadVar_row (P := Tryz.prog) _ (w.heap.size + 1 + 1) 39 39 (ndC zeroN).toArray (0, 0) _ hr Tryz.underlying39 rfl HSZ.out
 refine bodyPost_ret (v := .tuple #[ndV zeroN, .int .i64 410]) ?_ rfl ⟨rfl, below_setRow HB1.out (by omega) _⟩
 unfold ndV
 simp [results, Tryz.results41, asAddr, hl]
theorem leaf_n6 (c0 c1 c2 c3 c4 : Int) (l : List Nat) (w : World) (d0 : decide (c0 < 0) = false) (d1 : decide (4096 ≤ c0) = false) (d2 : decide (c1 < 0) = false) (d3 : decide (1024 ≤ c1) = false) (d4 : decide (c2 < 0) = false) (d5 : decide (12 < c2) = false) (d6 : decide (c3 < 0) = true) :
  Calls Tryz.prog 41 #[.agg #[.int .i64 c0, .int .i64 c1, .int .i64 c2, .int .i64 c3, .int .i64 c4], dgV l] w fun e w' => e = .returned (.tuple #[ndV zeroN, .int .i64 410]) ∧ Below w.heap.size w w' := by
 have HSZ : Hid ((Tryz.prog.info? 39).map (·.size) = some (ndC zeroN).toArray.size) := Lib.hid (by rw [size34 zeroN_ok]; simp)
 obtain ⟨X, HX⟩ : ∃ X, Hid ((l.map fun x => Value.int .u8 (x : Nat)).toArray = X) := ⟨_, Lib.hid rfl⟩
 have e0 : dgV l = .agg X := by unfold dgV; rw [HX.out]
 rw [e0]
 clear e0
 obtain ⟨t1, t2, t3, t4⟩ := three_rows3 w #[.int .i64 c0, .int .i64 c1, .int .i64 c2, .int .i64 c3, .int .i64 c4] X #[.int .u8 0, .int .u8 0, .int .u8 0, .int .u8 0, .int .u8 0, .int .u8 0, .int .u8 0, .int .u8 0, .int .u8 0, .int .u8 0, .int .u8 0, .int .u8 0, .int .u8 0, .int .u8 0, .int .u8 0, .int .u8 0, .int .u8 0, .int .u8 0, .int .u8 0, .int .u8 0, .int .u8 0, .int .u8 0, .int .u8 0, .int .u8 0, .int .u8 0, .int .u8 0, .int .u8 0, .int .u8 0, .int .u8 0, .int .u8 0, .int .u8 0, .int .u8 0, .int .i64 0, .int .i64 0] 45 25 39
 have HB1 := Lib.hid t1
 have HRR := Lib.hid t4
 have k0 := five_cells t2 0 (by omega)
 have k1 := five_cells t2 1 (by omega)
 have k2 := five_cells t2 2 (by omega)
 have k3 := five_cells t2 3 (by omega)
 have k4 := five_cells t2 4 (by omega)
 have HSZ2 := HSZ
 have HON := Lib.hid (ndC_one zeroN)
 rw [← zeros34] at HSZ2 HON
 clear t1 t2 t3 t4
 go_enter Tryz.func41, Tryz.ntmps41
 go_wp2_with (first | (refine wpList_load_row rfl 39 (.tmp 4) rfl (w.heap.size + 1 + 1) rfl 39 _ (0, 0) _ HRR.out Tryz.underlying39 rfl HSZ2.out ?_) | (refine wpList_store_row rfl 39 (.tmp 4) (.tmp 54) rfl (w.heap.size + 1 + 1) #[.int .u8 0, .int .u8 0, .int .u8 0, .int .u8 0, .int .u8 0, .int .u8 0, .int .u8 0, .int .u8 0, .int .u8 0, .int .u8 0, .int .u8 0, .int .u8 0, .int .u8 0, .int .u8 0, .int .u8 0, .int .u8 0, .int .u8 0, .int .u8 0, .int .u8 0, .int .u8 0, .int .u8 0, .int .u8 0, .int .u8 0, .int .u8 0, .int .u8 0, .int .u8 0, .int .u8 0, .int .u8 0, .int .u8 0, .int .u8 0, .int .u8 0, .int .u8 0, .int .i64 0, .int .i64 0] ?ha ?hb 39 _ HRR.out HSZ2.out rfl HON.out ?hc))
 rw [zeros34] at HB1 HRR
 rw [zeros34]
 have hr := setRow_heap _ (w.heap.size + 1 + 1) _ (ndC zeroN).toArray _ _ HRR.out
 have hl := run_loadVar_row (P := Tryz.prog) _ (w.heap.size + 1 + 1) 39 39 (ndC zeroN).toArray (0, 0) _ hr Tryz.underlying39 rfl HSZ.out
 refine bodyPost_ret (v := .tuple #[ndV zeroN, .int .i64 410]) ?_ rfl ⟨rfl, below_setRow HB1.out (by omega) _⟩
 unfold ndV
 simp [results, Tryz.results41, asAddr, hl]
theorem leaf_n7 (c0 c1 c2 c3 c4 : Int) (l : List Nat) (w : World) (d0 : decide (c0 < 0) = false) (d1 : decide (4096 ≤ c0) = false) (d2 : decide (c1 < 0) = false) (d3 : decide (1024 ≤ c1) = false) (d4 : decide (c2 < 0) = false) (d5 : decide (12 < c2) = false) (d6 : decide (c3 < 0) = false) (d7 : decide (60 < c3) = true) :
  Calls Tryz.prog 41 #[.agg #[.int .i64 c0, .int .i64 c1, .int .i64 c2, .int .i64 c3, .int .i64 c4], dgV l] w fun e w' => e = .returned (.tuple #[ndV zeroN, .int .i64 410]) ∧ Below w.heap.size w w' := by
 have HSZ : Hid ((Tryz.prog.info? 39).map (·.size) = some (ndC zeroN).toArray.size) := Lib.hid (by rw [size34 zeroN_ok]; simp)
 obtain ⟨X, HX⟩ : ∃ X, Hid ((l.map fun x => Value.int .u8 (x : Nat)).toArray = X) := ⟨_, Lib.hid rfl⟩
 have e0 : dgV l = .agg X := by unfold dgV; rw [HX.out]
 rw [e0]
 clear e0
 obtain ⟨t1, t2, t3, t4⟩ := three_rows3 w #[.int .i64 c0, .int .i64 c1, .int .i64 c2, .int .i64 c3, .int .i64 c4] X #[.int .u8 0, .int .u8 0, .int .u8 0, .int .u8 0, .int .u8 0, .int .u8 0, .int .u8 0, .int .u8 0, .int .u8 0, .int .u8 0, .int .u8 0, .int .u8 0, .int .u8 0, .int .u8 0, .int .u8 0, .int .u8 0, .int .u8 0, .int .u8 0, .int .u8 0, .int .u8 0, .int .u8 0, .int .u8 0, .int .u8 0, .int .u8 0, .int .u8 0, .int .u8 0, .int .u8 0, .int .u8 0, .int .u8 0, .int .u8 0, .int .u8 0, .int .u8 0, .int .i64 0, .int .i64 0] 45 25 39
 have HB1 := Lib.hid t1
 have HRR := Lib.hid t4
 have k0 := five_cells t2 0 (by omega)
 have k1 := five_cells t2 1 (by omega)
 have k2 := five_cells t2 2 (by omega)
 have k3 := five_cells t2 3 (by omega)
 have k4 := five_cells t2 4 (by omega)
 have HSZ2 := HSZ
 have HON := Lib.hid (ndC_one zeroN)
 rw [← zeros34] at HSZ2 HON
 clear t1 t2 t3 t4
 go_enter Tryz.func41, Tryz.ntmps41
 go_wp2_with (first | (refine wpList_load_row rfl 39 (.tmp 4) rfl (w.heap.size + 1 + 1) rfl 39 _ (0, 0) _ HRR.out Tryz.underlying39 rfl HSZ2.out ?_) | (refine wpList_store_row rfl 39 (.tmp 4) (.tmp 54) rfl (w.heap.size + 1 + 1) #[.int .u8 0, .int .u8 0, .int .u8 0, .int .u8 0, .int .u8 0, .int .u8 0, .int .u8 0, .int .u8 0, .int .u8 0, .int .u8 0, .int .u8 0, .int .u8 0, .int .u8 0, .int .u8 0, .int .u8 0, .int .u8 0, .int .u8 0, .int .u8 0, .int .u8 0, .int .u8 0, .int .u8 0, .int .u8 0, .int .u8 0, .int .u8 0, .int .u8 0, .int .u8 0, .int .u8 0, .int .u8 0, .int .u8 0, .int .u8 0, .int .u8 0, .int .u8 0, .int .i64 0, .int .i64 0] ?ha ?hb 39 _ HRR.out HSZ2.out rfl HON.out ?hc))
 rw [zeros34] at HB1 HRR
 rw [zeros34]
 have hr := setRow_heap _ (w.heap.size + 1 + 1) _ (ndC zeroN).toArray _ _ HRR.out
 have hl := run_loadVar_row (P := Tryz.prog) _ (w.heap.size + 1 + 1) 39 39 (ndC zeroN).toArray (0, 0) _ hr Tryz.underlying39 rfl HSZ.out
 refine bodyPost_ret (v := .tuple #[ndV zeroN, .int .i64 410]) ?_ rfl ⟨rfl, below_setRow HB1.out (by omega) _⟩
 unfold ndV
 simp [results, Tryz.results41, asAddr, hl]
theorem leaf_n8 (c0 c1 c2 c3 c4 : Int) (l : List Nat) (w : World) (d0 : decide (c0 < 0) = false) (d1 : decide (4096 ≤ c0) = false) (d2 : decide (c1 < 0) = false) (d3 : decide (1024 ≤ c1) = false) (d4 : decide (c2 < 0) = false) (d5 : decide (12 < c2) = false) (d6 : decide (c3 < 0) = false) (d7 : decide (60 < c3) = false) (d8 : decide (c4 < 0) = true) :
  Calls Tryz.prog 41 #[.agg #[.int .i64 c0, .int .i64 c1, .int .i64 c2, .int .i64 c3, .int .i64 c4], dgV l] w fun e w' => e = .returned (.tuple #[ndV zeroN, .int .i64 410]) ∧ Below w.heap.size w w' := by
 have HSZ : Hid ((Tryz.prog.info? 39).map (·.size) = some (ndC zeroN).toArray.size) := Lib.hid (by rw [size34 zeroN_ok]; simp)
 obtain ⟨X, HX⟩ : ∃ X, Hid ((l.map fun x => Value.int .u8 (x : Nat)).toArray = X) := ⟨_, Lib.hid rfl⟩
 have e0 : dgV l = .agg X := by unfold dgV; rw [HX.out]
 rw [e0]
 clear e0
 obtain ⟨t1, t2, t3, t4⟩ := three_rows3 w #[.int .i64 c0, .int .i64 c1, .int .i64 c2, .int .i64 c3, .int .i64 c4] X #[.int .u8 0, .int .u8 0, .int .u8 0, .int .u8 0, .int .u8 0, .int .u8 0, .int .u8 0, .int .u8 0, .int .u8 0, .int .u8 0, .int .u8 0, .int .u8 0, .int .u8 0, .int .u8 0, .int .u8 0, .int .u8 0, .int .u8 0, .int .u8 0, .int .u8 0, .int .u8 0, .int .u8 0, .int .u8 0, .int .u8 0, .int .u8 0, .int .u8 0, .int .u8 0, .int .u8 0, .int .u8 0, .int .u8 0, .int .u8 0, .int .u8 0, .int .u8 0, .int .i64 0, .int .i64 0] 45 25 39
 have HB1 := Lib.hid t1
 have HRR := Lib.hid t4
 have k0 := five_cells t2 0 (by omega)
 have k1 := five_cells t2 1 (by omega)
 have k2 := five_cells t2 2 (by omega)
 have k3 := five_cells t2 3 (by omega)
 have k4 := five_cells t2 4 (by omega)
 have HSZ2 := HSZ
 have HON := Lib.hid (ndC_one zeroN)
 rw [← zeros34] at HSZ2 HON
 clear t1 t2 t3 t4
 go_enter Tryz.func41, Tryz.ntmps41
 go_wp2_with (first | (refine wpList_load_row rfl 39 (.tmp 4) rfl (w.heap.size + 1 + 1) rfl 39 _ (0, 0) _ HRR.out Tryz.underlying39 rfl HSZ2.out ?_) | (refine wpList_store_row rfl 39 (.tmp 4) (.tmp 54) rfl (w.heap.size + 1 + 1) #[.int .u8 0, .int .u8 0, .int .u8 0, .int .u8 0, .int .u8 0, .int .u8 0, .int .u8 0, .int .u8 0, .int .u8 0, .int .u8 0, .int .u8 0, .int .u8 0, .int .u8 0, .int .u8 0, .int .u8 0, .int .u8 0, .int .u8 0, .int .u8 0, .int .u8 0, .int .u8 0, .int .u8 0, .int .u8 0, .int .u8 0, .int .u8 0, .int .u8 0, .int .u8 0, .int .u8 0, .int .u8 0, .int .u8 0, .int .u8 0, .int .u8 0, .int .u8 0, .int .i64 0, .int .i64 0] ?ha ?hb 39 _ HRR.out HSZ2.out rfl HON.out ?hc))
 rw [zeros34] at HB1 HRR
 rw [zeros34]
 have hr := setRow_heap _ (w.heap.size + 1 + 1) _ (ndC zeroN).toArray _ _ HRR.out
 have hl := run_loadVar_row (P := Tryz.prog) _ (w.heap.size + 1 + 1) 39 39 (ndC zeroN).toArray (0, 0) _ hr Tryz.underlying39 rfl HSZ.out
 refine bodyPost_ret (v := .tuple #[ndV zeroN, .int .i64 410]) ?_ rfl ⟨rfl, below_setRow HB1.out (by omega) _⟩
 unfold ndV
 simp [results, Tryz.results41, asAddr, hl]
theorem leaf_n9 (c0 c1 c2 c3 c4 : Int) (l : List Nat) (w : World) (d0 : decide (c0 < 0) = false) (d1 : decide (4096 ≤ c0) = false) (d2 : decide (c1 < 0) = false) (d3 : decide (1024 ≤ c1) = false) (d4 : decide (c2 < 0) = false) (d5 : decide (12 < c2) = false) (d6 : decide (c3 < 0) = false) (d7 : decide (60 < c3) = false) (d8 : decide (c4 < 0) = false) (d9 : decide (7 ≤ c4) = true) :
  Calls Tryz.prog 41 #[.agg #[.int .i64 c0, .int .i64 c1, .int .i64 c2, .int .i64 c3, .int .i64 c4], dgV l] w fun e w' => e = .returned (.tuple #[ndV zeroN, .int .i64 410]) ∧ Below w.heap.size w w' := by
 have HSZ : Hid ((Tryz.prog.info? 39).map (·.size) = some (ndC zeroN).toArray.size) := Lib.hid (by rw [size34 zeroN_ok]; simp)
 obtain ⟨X, HX⟩ : ∃ X, Hid ((l.map fun x => Value.int .u8 (x : Nat)).toArray = X) := ⟨_, Lib.hid rfl⟩
 have e0 : dgV l = .agg X := by unfold dgV; rw [HX.out]
 rw [e0]
 clear e0
 obtain ⟨t1, t2, t3, t4⟩ := three_rows3 w #[.int .i64 c0, .int .i64 c1, .int .i64 c2, .int .i64 c3, .int .i64 c4] X #[.int .u8 0, .int .u8 0, .int .u8 0, .int .u8 0, .int .u8 0, .int .u8 0, .int .u8 0, .int .u8 0, .int .u8 0, .int .u8 0, .int .u8 0, .int .u8 0, .int .u8 0, .int .u8 0, .int .u8 0, .int .u8 0, .int .u8 0, .int .u8 0, .int .u8 0, .int .u8 0, .int .u8 0, .int .u8 0, .int .u8 0, .int .u8 0, .int .u8 0, .int .u8 0, .int .u8 0, .int .u8 0, .int .u8 0, .int .u8 0, .int .u8 0, .int .u8 0, .int .i64 0, .int .i64 0] 45 25 39
 have HB1 := Lib.hid t1
 have HRR := Lib.hid t4
 have k0 := five_cells t2 0 (by omega)
 have k1 := five_cells t2 1 (by omega)
 have k2 := five_cells t2 2 (by omega)
 have k3 := five_cells t2 3 (by omega)
 have k4 := five_cells t2 4 (by omega)
 have HSZ2 := HSZ
 have HON := Lib.hid (ndC_one zeroN)
 rw [← zeros34] at HSZ2 HON
 clear t1 t2 t3 t4
 go_enter Tryz.func41, Tryz.ntmps41
 go_wp2_with (first | (refine wpList_load_row rfl 39 (.tmp 4) rfl (w.heap.size + 1 + 1) rfl 39 _ (0, 0) _ HRR.out Tryz.underlying39 rfl HSZ2.out ?_) | (refine wpList_store_row rfl 39 (.tmp 4) (.tmp 54) rfl (w.heap.size + 1 + 1) #[.int .u8 0, .int .u8 0, .int .u8 0, .int .u8 0, .int .u8 0, .int .u8 0, .int .u8 0, .int .u8 0, .int .u8 0, .int .u8 0, .int .u8 0, .int .u8 0, .int .u8 0, .int .u8 0, .int .u8 0, .int .u8 0, .int .u8 0, .int .u8 0, .int .u8 0, .int .u8 0, .int .u8 0, .int .u8 0, .int .u8 0, .int .u8 0, .int .u8 0, .int .u8 0, .int .u8 0, .int .u8 0, .int .u8 0, .int .u8 0, .int .u8 0, .int .u8 0, .int .i64 0, .int .i64 0] ?ha ?hb 39 _ HRR.out HSZ2.out rfl HON.out ?hc))
 rw [zeros34] at HB1 HRR
 rw [zeros34]
 have hr := setRow_heap _ (w.heap.size + 1 + 1) _ (ndC zeroN).toArray _ _ HRR.out
 have hl := run_loadVar_row (P := Tryz.prog) _ (w.heap.size + 1 + 1) 39 39 (ndC zeroN).toArray (0, 0) _ hr Tryz.underlying39 rfl HSZ.out
 refine bodyPost_ret (v := .tuple #[ndV zeroN, .int .i64 410]) ?_ rfl ⟨rfl, below_setRow HB1.out (by omega) _⟩
 unfold ndV
 simp [results, Tryz.results41, asAddr, hl]
theorem leaf_no (c0 c1 c2 c3 c4 : Int) (l : List Nat) (w : World) (h : ¬ lOk c0 c1 c2 c3 c4) :
  Calls Tryz.prog 41 #[.agg #[.int .i64 c0, .int .i64 c1, .int .i64 c2, .int .i64 c3, .int .i64 c4], dgV l] w fun e w' => e = .returned (.tuple #[ndV zeroN, .int .i64 410]) ∧ Below w.heap.size w w' := by
 by_cases b0 : c0 < 0
 ·exact leaf_n0 c0 c1 c2 c3 c4 l w  (decide_eq_true b0)
 by_cases b1 : 4096 ≤ c0
 ·exact leaf_n1 c0 c1 c2 c3 c4 l w (decide_eq_false b0) (decide_eq_true b1)
 by_cases b2 : c1 < 0
 ·exact leaf_n2 c0 c1 c2 c3 c4 l w (decide_eq_false b0) (decide_eq_false b1) (decide_eq_true b2)
 by_cases b3 : 1024 ≤ c1
 ·exact leaf_n3 c0 c1 c2 c3 c4 l w (decide_eq_false b0) (decide_eq_false b1) (decide_eq_false b2) (decide_eq_true b3)
 by_cases b4 : c2 < 0
 ·exact leaf_n4 c0 c1 c2 c3 c4 l w (decide_eq_false b0) (decide_eq_false b1) (decide_eq_false b2) (decide_eq_false b3) (decide_eq_true b4)
 by_cases b5 : 12 < c2
 ·exact leaf_n5 c0 c1 c2 c3 c4 l w (decide_eq_false b0) (decide_eq_false b1) (decide_eq_false b2) (decide_eq_false b3) (decide_eq_false b4) (decide_eq_true b5)
 by_cases b6 : c3 < 0
 ·exact leaf_n6 c0 c1 c2 c3 c4 l w (decide_eq_false b0) (decide_eq_false b1) (decide_eq_false b2) (decide_eq_false b3) (decide_eq_false b4) (decide_eq_false b5) (decide_eq_true b6)
 by_cases b7 : 60 < c3
 ·exact leaf_n7 c0 c1 c2 c3 c4 l w (decide_eq_false b0) (decide_eq_false b1) (decide_eq_false b2) (decide_eq_false b3) (decide_eq_false b4) (decide_eq_false b5) (decide_eq_false b6) (decide_eq_true b7)
 by_cases b8 : c4 < 0
 ·exact leaf_n8 c0 c1 c2 c3 c4 l w (decide_eq_false b0) (decide_eq_false b1) (decide_eq_false b2) (decide_eq_false b3) (decide_eq_false b4) (decide_eq_false b5) (decide_eq_false b6) (decide_eq_false b7) (decide_eq_true b8)
 by_cases b9 : 7 ≤ c4
 ·exact leaf_n9 c0 c1 c2 c3 c4 l w (decide_eq_false b0) (decide_eq_false b1) (decide_eq_false b2) (decide_eq_false b3) (decide_eq_false b4) (decide_eq_false b5) (decide_eq_false b6) (decide_eq_false b7) (decide_eq_false b8) (decide_eq_true b9)
 exact absurd (show lOk c0 c1 c2 c3 c4 by unfold lOk; omega) h
theorem flatN_length : ∀ (ls : List Nd), (∀ x ∈ ls, NdOk x) → (flatN ls).length = ls.length * 34
 | [], _ => rfl
 | n :: ls, ho => by
  have h1 := ndC_length (ho n (by simp))
  have h2 := flatN_length ls (fun x hx => ho x (List.mem_cons_of_mem _ hx))
  show ((n :: ls).flatMap ndC).length = _
  rw [List.flatMap_cons, List.length_append, h1]
  have h3 : (ls.flatMap ndC).length = ls.length * 34 := h2
  rw [h3, List.length_cons]; omega
section
variable {P : Program} {ops : Array Oper}
def waitsB (l : List Oper) (m j : Nat) : Bool := (l[m]?.map fun o => o.after.any fun e => Region.binds .any e && Nat.beq e.on j).getD false
def FlowAll4 (P : Program) (ops : Array Oper) (E : Nat → Bool) (l0 : List Oper) (k : Nat → Nat) (build : (Nat → Value) → Array Value) (df : List Deferred) (C : (Nat → Bool) → (Nat → Value) → World → Prop) (S : Nat → Value → Value → World → Prop) : Nat → List Oper → Prop
 | _, [] => True
 | i, o :: l => (∀ L x w, C L x w → L i = false → (∀ m j, L m = true → waitsB l0 m j = true → L j = true) → (∀ m, waitsB l0 i m = true → L m = true) → Deps3 k S x w o.after.toList → wpList P ops (FlowPost3 E l0 k build df C S i L x w) [o] ⟨build x, df⟩ w) ∧ FlowAll4 P ops E l0 k build df C S (i + 1) l
theorem FlowAll4.at {l0 : List Oper} {E : Nat → Bool} {k : Nat → Nat} {build : (Nat → Value) → Array Value} {df : List Deferred} {C : (Nat → Bool) → (Nat → Value) → World → Prop} {S : Nat → Value → Value → World → Prop} :
  ∀ (l : List Oper) (m i : Nat) (o : Oper), FlowAll4 P ops E l0 k build df C S m l → l[i]? = some o → ∀ L x w, C L x w → L (m + i) = false → (∀ m' j, L m' = true → waitsB l0 m' j = true → L j = true) → (∀ m', waitsB l0 (m + i) m' = true → L m' = true) → Deps3 k S x w o.after.toList → wpList P ops (FlowPost3 E l0 k build df C S (m + i) L x w) [o] ⟨build x, df⟩ w
 | [], m, i, o, _, h => by simp at h
 | o' :: l, m, 0, o, h, ho => by
  have : o' = o := by simpa using ho
  subst this
  exact h.1
 | o' :: l, m, i + 1, o, h, ho => by
  have := FlowAll4.at l (m + 1) i o h.2 (by simpa using ho)
  rw [show m + (i + 1) = m + 1 + i by omega]
  exact this
theorem any_flow4 {E : Nat → Bool} {k : Nat → Nat} {l : List Oper} {Q : Exit → Act → World → Prop} {build : (Nat → Value) → Array Value} {df : List Deferred} {C : (Nat → Bool) → (Nat → Value) → World → Prop} {S : Nat → Value → Value → World → Prop} (hB : flowB l = true) (hk : tiedB k l = true) (hall : FlowAll4 P l.toArray E l k build df C S 0 l)
  (hend : ∀ L x w, C L x w → (∀ i, i < l.length → E i = true → S i (x i) (x (k i)) w) → Q .normal ⟨build x, df⟩ w) :
  ∀ (f : Nat) (listed : Array Bool) (x : Nat → Value) (w : World), listed.size = l.length → cnt listed l.length ≤ f → C (fun j => listed.getD j false) x w → (∀ i, listed.getD i false = true → (E i = true ∨ ∃ m, m < l.length ∧ listed.getD m true = false ∧ usesB l m i = true) → S i (x i) (x (k i)) w) → (∀ i, listed.getD i false = true → listed.getD (k i) false = true) → (∀ m j, listed.getD m false = true → waitsB l m j = true → listed.getD j false = true) → wpAny P .any l.toArray Q f listed ⟨build x, df⟩ w := by
 have hfull : ∀ (listed : Array Bool) (x : Nat → Value) (w : World), listed.size = l.length → C (fun j => listed.getD j false) x w → (∀ i, listed.getD i false = true → (E i = true ∨ ∃ m, m < l.length ∧ listed.getD m true = false ∧ usesB l m i = true) → S i (x i) (x (k i)) w) → Region.ready .any l.toArray listed = [] → Q .normal ⟨build x, df⟩ w := by
  intro listed x w hs hC hS hr
  have hlt : ∀ n i, i < n → i < l.length → listed.getD i true = true := by
   intro n
   induction n with
   | zero => intro i hi; omega
   | succ n ih =>
    intro i hi hil
    rcases Nat.lt_or_ge i n with h | h
    ·exact ih i h hil
    ·obtain rfl : i = n := by omega
     apply Classical.byContradiction
     intro hne
     have hf : listed.getD i true = false := by simpa using hne
     have : i ∈ Region.ready .any l.toArray listed := by
      refine mem_ready.2 ⟨hf, l[i], by simp [hil], fun e he hbd => ?_⟩
      have h1 := List.all_eq_true.1 hB i (by simpa using hil)
      simp only [List.getElem?_eq_getElem hil, Option.map_some, Option.getD_some] at h1
      have h2 := Array.all_eq_true_iff_forall_mem.1 h1 e he
      have h3 : e.on < i := by rw [hbd] at h2; simpa using h2
      have h4 := ih e.on h3 (by omega)
      have h5 : e.on < listed.size := by omega
      simp only [Array.getD, h5, dite_true] at h4 ⊢
      exact h4
     rw [hr] at this
     cases this
  refine hend _ x w hC fun i hi hE => hS i ?_ (.inl hE)
  have h4 := hlt (i + 1) i (by omega) hi
  have h5 : i < listed.size := by omega
  simp only [Array.getD, h5, dite_true] at h4 ⊢
  exact h4
 intro f
 induction f with
 | zero =>
  intro listed x w hs hc hC hS hT hD
  have hr : Region.ready .any l.toArray listed = [] := by
   rw [List.eq_nil_iff_forall_not_mem]
   intro i hi
   obtain ⟨hu, o, ho, _⟩ := mem_ready.1 hi
   have hil : i < l.length := by have := (Array.getElem?_eq_some_iff.1 ho).1; simpa using this
   have : 0 < cnt listed l.length := List.countP_pos_iff.2 ⟨i, by simpa using hil, by rw [hu]; rfl⟩
   omega
  exact ⟨hr, hfull listed x w hs hC hS hr⟩
 | succ f ih =>
  intro listed x w hs hc hC hS hT hD
  refine ⟨fun hr => hfull listed x w hs hC hS hr, fun i hi => ?_⟩
  obtain ⟨hu, o, ho, hd⟩ := mem_ready.1 hi
  have hil : i < l.length := by have := (Array.getElem?_eq_some_iff.1 ho).1; simpa using this
  have hol : l[i]? = some o := by simpa using ho
  have hui : listed.getD i false = false := by
   have : i < listed.size := by omega
   simp only [Array.getD, this, dite_true] at hu ⊢
   exact hu
  have hdn : ∀ j, waitsB l (0 + i) j = true → listed.getD j false = true := fun j huse => by
   rw [Nat.zero_add] at huse
   unfold waitsB at huse
   rw [hol, Option.map_some, Option.getD_some] at huse
   obtain ⟨q, hq, h2⟩ := Array.any_eq_true.1 huse
   simp only [Bool.and_eq_true] at h2
   have h3 := hd _ (Array.getElem_mem hq) h2.1
   rw [Nat.eq_of_beq_eq_true h2.2] at h3
   exact h3
  have hstep := hall.at l 0 i o hol (fun j => listed.getD j false) x w hC (by rw [Nat.zero_add]; exact hui) hD hdn (deps3_of _ fun e he hb => hS e.on (hd e (by simpa using he) (dataE_binds hb)) (.inr ⟨i, hil, hu, by
   unfold usesB
   rw [hol, Option.map_some, Option.getD_some]
   exact Array.any_eq_true'.2 ⟨e, by simpa using he, by rw [hb]; simp⟩⟩))
  rw [Nat.zero_add] at hstep
  refine wpOp_flow ho (fun e a w he h => ?_) (fun a' w' h => ?_) hstep
  ·cases e <;> first | exact he rfl | exact h
  ·obtain ⟨v, rfl, hC', hS', hk'⟩ := h
   have hfe : (fun j => (listed.setIfInBounds i true).getD j false) = updB (fun j => listed.getD j false) i := by
    funext j
    by_cases e : j = i
    ·subst e
     have h1 : j < (listed.setIfInBounds j true).size := by simp; omega
     rw [updB_same]
     simp only [Array.getD, h1, dite_true]; simp
    ·rw [getD_set_ne false (Ne.symm e)]
     unfold updB
     rw [show Nat.beq j i = false by cases hb : Nat.beq j i; rfl; exact absurd (Nat.eq_of_beq_eq_true hb) e]; rfl
   have hset0 : ∀ m, listed.getD m false = true → (listed.setIfInBounds i true).getD m false = true := fun m hm => by
    have := congrFun hfe m
    rw [this]; unfold updB; simp only [hm, Bool.or_true]
   refine ih _ _ _ (by simp [hs]) ?_ (by rw [hfe]; exact hC') (fun j hj hn => ?_) (fun j hj => ?_) fun m j hm huse => ?_
   ·have h1 := countP_drop (p := fun k => !listed.getD k true) (q := fun k => !(listed.setIfInBounds i true).getD k true) (i := i) (List.range l.length) List.nodup_range (by simpa using hil) (by rw [hu]; rfl)
     (by have : i < (listed.setIfInBounds i true).size := by simp; omega
         simp only [Array.getD, this, dite_true]; simp) (fun j hj => by rw [getD_set_ne true (Ne.symm hj)])
    have h2 : cnt listed l.length ≤ f + 1 := hc
    unfold cnt at h2 ⊢
    omega
   ·by_cases e : j = i
    ·subst e; rw [upd_same]; exact hS'
    ·rw [getD_set_ne false (Ne.symm e)] at hj
     have hki : k j ≠ i := fun e2 => by
      have := hT j hj
      rw [e2, getD_both hu] at this
      cases this
     rw [upd_ne x v e, upd_ne x v hki]
     have hn' : E j = true ∨ ∃ m, m < l.length ∧ m ≠ i ∧ listed.getD m true = false ∧ usesB l m j = true := by
      rcases hn with h | ⟨m, h1, h2, h3⟩
      ·exact .inl h
      ·refine .inr ⟨m, h1, ?_, ?_, h3⟩
       ·intro em
        subst em
        have : m < (listed.setIfInBounds m true).size := by simp; omega
        simp only [Array.getD, this, dite_true] at h2
        simp at h2
       ·by_cases em : m = i
        ·subst em
         have : m < (listed.setIfInBounds m true).size := by simp; omega
         simp only [Array.getD, this, dite_true] at h2
         simp at h2
        ·rwa [getD_set_ne true (Ne.symm em)] at h2
     refine hk' j _ _ hj ?_ (hS j hj ?_)
     ·rcases hn' with h | ⟨m, h1, h2, h4, h3⟩
      ·exact .inl h
      ·refine .inr ⟨m, mem_users h1 h3, h2, ?_⟩
       have : m < listed.size := by omega
       simp only [Array.getD, this, dite_true] at h4 ⊢
       exact h4
     ·rcases hn' with h | ⟨m, h1, _, h2, h3⟩
      ·exact .inl h
      ·exact .inr ⟨m, h1, h2, h3⟩
   ·have hset : ∀ m, listed.getD m false = true → (listed.setIfInBounds i true).getD m false = true := fun m hm => by
     by_cases e : m = i
     ·subst e; rw [getD_both hu] at hm; cases hm
     ·rw [getD_set_ne false (Ne.symm e)]; exact hm
    by_cases e : j = i
    ·subst e
     have h1 := List.all_eq_true.1 hk j (by simpa using hil)
     simp only [Bool.or_eq_true] at h1
     rcases h1 with h1 | h1
     ·rw [Nat.eq_of_beq_eq_true h1]; exact hj
     ·have ho' : l[j]? = some o := by simpa using ho
      rw [ho', Option.map_some, Option.getD_some] at h1
      obtain ⟨m, hm, h2⟩ := Array.any_eq_true.1 h1
      obtain ⟨e, he, h2⟩ : ∃ e ∈ o.after, (Region.binds .any e && Nat.beq e.on (k j)) = true := ⟨_, Array.getElem_mem hm, h2⟩
      simp only [Bool.and_eq_true] at h2
      rw [← Nat.eq_of_beq_eq_true h2.2]
      exact hset _ (hd e he h2.1)
    ·rw [getD_set_ne false (Ne.symm e)] at hj
     exact hset _ (hT j hj)
   ·by_cases e : m = i
    ·subst e
     unfold waitsB at huse
     rw [hol, Option.map_some, Option.getD_some] at huse
     obtain ⟨q, hq, h2⟩ := Array.any_eq_true.1 huse
     simp only [Bool.and_eq_true] at h2
     have h3 := hd _ (Array.getElem_mem hq) h2.1
     rw [Nat.eq_of_beq_eq_true h2.2] at h3
     exact hset0 _ h3
    ·rw [getD_set_ne false (Ne.symm e)] at hm
     exact hset0 _ (hD m j hm huse)
/-- the region -/
theorem region_flow4 {l : List Oper} {Q : Exit → Act → World → Prop} {id : Nat} {df : List Deferred} {w : World} (hm : P.follows .mixedOrders = true) (hB : flowB l = true) (E : Nat → Bool)
  (k : Nat → Nat) (hk : tiedB k l = true) (build : (Nat → Value) → Array Value) (x0 : Nat → Value) (C : (Nat → Bool) → (Nat → Value) → World → Prop) (S : Nat → Value → Value → World → Prop) (hC : C (fun _ => false) x0 w.drew) (hall : FlowAll4 P l.toArray E l k build df C S 0 l)
  (hend : ∀ L x w, C L x w → (∀ i, i < l.length → E i = true → S i (x i) (x (k i)) w) → Q .normal ⟨build x, df⟩ w) : (Code.region id l.toArray true).wp P Q ⟨build x0, df⟩ w := by
 have hf : (fun j => (Array.replicate l.toArray.size false).getD j false) = fun _ => false := by funext j; exact getD_replicate_false _ _
 refine wp_region_any hm (any_flow4 hB hk hall hend _ _ _ _ (by simp) ?_ (by rw [hf]; exact hC) (fun i hi => ?_) (fun i hi => ?_) fun m j hm _ => ?_)
 ·have : cnt (Array.replicate l.toArray.size false) l.length ≤ (List.range l.length).length := List.countP_le_length
  simpa using this
 ·rw [getD_replicate_false] at hi; cases hi
 ·rw [getD_replicate_false] at hi; cases hi
 ·rw [getD_replicate_false] at hm; cases hm
end
variable {α : Type}
/-- n elements of k cells each, from an offset of a block on; none is frozen -/
def Rw (enc : α → List Value) (s : Nat) (w : World) (g off n : Nat) (F : Nat → α) : Prop := ∀ k, k < n → w.rangeAt g (off + k * s) (enc (F k)) ∧ w.there g (off + k * s) s
def swF (F : Nat → α) (i j : Nat) (a b : Bool) (k : Nat) : α := bif a && Nat.beq k i then F j else bif b && Nat.beq k j then F i else F k
def curF (f : Nat → α) (n i k : Nat) : α := if k < i ∨ n - i ≤ k then f (n - 1 - k) else f k
theorem mul_gap {k k' s : Nat} (h : k < k') : k * s + s ≤ k' * s := by
 have := Nat.mul_le_mul_right s (show k + 1 ≤ k' from h)
 rw [Nat.succ_mul] at this; exact this
theorem Rw.set {enc : α → List Value} {s : Nat} {w : World} {g off n : Nat} {F : Nat → α} (h : Rw enc s w g off n F) (hs : ∀ k, k < n → (enc (F k)).length = s) (k0 : Nat) (hk0 : k0 < n) (x : α) (hx : (enc x).length = s) :
  Rw enc s (w.setCells g (off + k0 * s) (enc x)) g off n (fun k => bif Nat.beq k k0 then x else F k) := fun k hk => by
 refine ⟨?_, World.there_setCells (h k hk).2 _ _ _⟩
 by_cases e : k = k0
 ·subst e
  show (w.setCells g (off + k * s) (enc x)).rangeAt g (off + k * s) (enc (bif Nat.beq k k then x else F k))
  rw [show Nat.beq k k = true by simp]
  exact World.rangeAt_setCells_same w g _ _ (by rw [hx]; exact (h k hk0).2)
 ·show (w.setCells g (off + k0 * s) (enc x)).rangeAt g (off + k * s) (enc (bif Nat.beq k k0 then x else F k))
  rw [show Nat.beq k k0 = false by cases hb : Nat.beq k k0; rfl; exact absurd (Nat.eq_of_beq_eq_true hb) e]
  refine World.rangeAt_setCells_apart (h k hk).1 _ _ _ ?_
  rw [hs k hk, hx]
  rcases Nat.lt_or_gt_of_ne e with h' | h'
  ·have := mul_gap (s := s) h'; omega
  ·have := mul_gap (s := s) h'; omega
theorem Rw.congr {enc : α → List Value} {s : Nat} {w : World} {g off n : Nat} {F G : Nat → α} (h : Rw enc s w g off n F) (e : ∀ k, k < n → F k = G k) : Rw enc s w g off n G := fun k hk => by rw [← e k hk]; exact h k hk
theorem beq_no {k i : Nat} (h : k ≠ i) : Nat.beq k i = false := by cases hb : Nat.beq k i; rfl; exact absurd (Nat.eq_of_beq_eq_true hb) h
theorem swF_len {enc : α → List Value} {s n i j : Nat} {F : Nat → α} (hs : ∀ k, k < n → (enc (F k)).length = s) (hi : i < n) (hj : j < n) (a b : Bool) : ∀ k, k < n → (enc (swF F i j a b k)).length = s := fun k hk => by
 unfold swF
 cases a && Nat.beq k i <;> cases b && Nat.beq k j <;> first | exact hs _ hk | exact hs _ hi | exact hs _ hj
theorem swF_one (F : Nat → α) (i j k : Nat) : (bif Nat.beq k i then F j else swF F i j false false k) = swF F i j true false k := by
 unfold swF; cases Nat.beq k i <;> rfl
theorem swF_two (F : Nat → α) {i j : Nat} (h : i < j) (k : Nat) : (bif Nat.beq k j then F i else swF F i j true false k) = swF F i j true true k := by
 by_cases e : k = i
 ·subst e
  unfold swF
  rw [beq_no (show k ≠ j by omega)]; simp
 ·unfold swF
  rw [beq_no e]; cases Nat.beq k j <;> rfl
theorem curF_len {enc : α → List Value} {s n i : Nat} {f : Nat → α} (hs : ∀ k, k < n → (enc (f k)).length = s) : ∀ k, k < n → (enc (curF f n i k)).length = s := fun k hk => by
 unfold curF; split
 ·exact hs _ (by omega)
 ·exact hs _ hk
theorem curF_next (f : Nat → α) {n i j : Nat} (h : i + j + 1 = n) (hij : i < j) (k : Nat) (hk : k < n) : swF (curF f n i) i j true true k = curF f n (i + 1) k := by
 unfold swF
 by_cases e1 : k = i
 ·subst e1
  rw [show Nat.beq k k = true by simp]
  show curF f n k j = _
  unfold curF
  rw [if_neg (by omega), if_pos (by omega), show n - 1 - k = j by omega]
 ·rw [beq_no e1]
  by_cases e2 : k = j
  ·subst e2
   rw [show Nat.beq k k = true by simp]
   show curF f n i i = _
   unfold curF
   rw [if_neg (by omega), if_pos (by omega), show n - 1 - k = i by omega]
  ·rw [beq_no e2]
   show curF f n i k = _
   unfold curF
   by_cases h3 : k < i ∨ n - i ≤ k
   ·rw [if_pos h3, if_pos (by omega)]
   ·rw [if_neg h3, if_neg (by omega)]
theorem curF_zero (f : Nat → α) (n k : Nat) (hk : k < n) : f k = curF f n 0 k := by unfold curF; rw [if_neg (by omega)]
theorem curF_end (f : Nat → α) {n i : Nat} (h : n ≤ 2 * i + 1) (k : Nat) (hk : k < n) : curF f n i k = f (n - 1 - k) := by
 unfold curF; split
 ·rfl
 ·rw [show n - 1 - k = k by omega]
theorem grown_setCells {a w : World} {g : Nat} (h : a.grownBy w (some g)) (o : Nat) (vs : List Value) : a.grownBy (w.setCells g o vs) (some g) := by
 induction vs generalizing o w with
 | nil => exact h
 | cons v vs ih => exact ih (only_setCell h (.inl rfl) v) _
def bC (b : Bool) : List Value := [.bool b]
end Go.Proofs.YtmfmgeapecapiaaGreatDoor
