/- sizar/tree.Salt. -/
import Derived.Test.YtgcmbiegbclhmaaDoorTreeHash
namespace Go.Proofs.YtgcmbiegbclhmaaDoor
open Go.RowKit SzSha SzTree
set_option linter.unusedVariables false
set_option maxRecDepth 100000
def saltTag : ByteArray := ⟨#[115, 97, 108, 116]⟩
def saltT : List Nat := [115, 97, 108, 116]
theorem saltTag_eq : strL saltTag = saltT := rfl
/-- the salt of a leaf -/
def saltN (l : List Nat) (k at_ : Int) : List Nat := hashT saltT l [k, at_]
theorem saltN_length (l : List Nat) (k at_ : Int) : (saltN l k at_).length = 32 := tagged_length _ _
theorem salt_d (l : List Nat) (k z : Int) : dgV (hashT (strL saltTag) l [k, z]) = dgV (saltN l k z) := by rw [saltTag_eq]; simp only [saltN]
theorem two_rows2 (w : World) (X Y : Array Value) (t : Nat) (o : Obj) : Below w.heap.size w (((w.alloc (.cells X t)).alloc (.cells Y t)).alloc o) ∧ (((w.alloc (.cells X t)).alloc (.cells Y t)).alloc o).heap[w.heap.size]? = some (.cells X t (0, 0)) ∧ (((w.alloc (.cells X t)).alloc (.cells Y t)).alloc o).heap[w.heap.size + 1]? = some (.cells Y t (0, 0)) ∧ (((w.alloc (.cells X t)).alloc (.cells Y t)).alloc o).heap[w.heap.size + 1 + 1]? = some o ∧ (((w.alloc (.cells X t)).alloc (.cells Y t)).alloc o).heap.size = w.heap.size + 1 + 1 + 1 := by
  have h1 := heap_alloc_new (w.alloc (.cells X t)) (.cells Y t)
  have h2 := heap_alloc_new ((w.alloc (.cells X t)).alloc (.cells Y t)) o
  simp only [World.size_alloc] at h1 h2
  exact ⟨(((Below.refl _ w).alloc (Nat.le_refl _) _).alloc (by simp) _).alloc (by simp; omega) _, by rw [Below.heap_alloc _ _ _ (by simp; omega), Below.heap_alloc _ _ _ (by simp)]; exact heap_alloc_new w _, by rw [Below.heap_alloc _ _ _ (by simp)]; exact h1, h2, by simp⟩
set_option maxHeartbeats 4000000 in
theorem salt_any (l : List Nat) (k z : Int) (w : World) (hl : Hid (l.length = 32)) (hb : Hid (Bytes l)) (hk1 : -9223372036854775808 ≤ k) (hk2 : k ≤ 9223372036854775807) (hz1 : -9223372036854775808 ≤ z) (hz2 : z ≤ 9223372036854775807) (hT : Hid (Tabs w)) :
    Calls Tryd.prog 27 #[dgV l, .int .i64 k, .int .i64 z] w fun e w' => e = .returned (dgV (saltN l k z)) ∧ Below w.heap.size w w' := by
  have HZS : Hid (∀ y ∈ ([k, z] : List Int), -9223372036854775808 ≤ y ∧ y ≤ 9223372036854775807) := Lib.hid (fun y hy => by
    simp only [List.mem_cons, List.not_mem_nil, or_false] at hy
    rcases hy with rfl | rfl <;> omega)
  clear hk1 hk2 hz1 hz2
  obtain ⟨X, HX⟩ : ∃ X, Hid ((l.map fun x => Value.int .u8 (x : Nat)).toArray = X) := ⟨_, Lib.hid rfl⟩
  have e0 : dgV l = .agg X := by unfold dgV; rw [HX.out]
  rw [e0]
  clear e0
  obtain ⟨t1, t2, t3, t4, t5⟩ := two_rows2 w X #[.int .u8 0, .int .u8 0, .int .u8 0, .int .u8 0, .int .u8 0, .int .u8 0, .int .u8 0, .int .u8 0, .int .u8 0, .int .u8 0, .int .u8 0, .int .u8 0, .int .u8 0, .int .u8 0, .int .u8 0, .int .u8 0, .int .u8 0, .int .u8 0, .int .u8 0, .int .u8 0, .int .u8 0, .int .u8 0, .int .u8 0, .int .u8 0, .int .u8 0, .int .u8 0, .int .u8 0, .int .u8 0, .int .u8 0, .int .u8 0, .int .u8 0, .int .u8 0] 24 (.cells #[.int .i64 k, .int .i64 z] 3)
  have T1 := Lib.hid t1
  have T3 := Lib.hid t3
  have T4 := Lib.hid t4
  have T5 := Lib.hid t5
  have HIN : Hid (In (((w.alloc (.cells X 24)).alloc (.cells #[.int .u8 0, .int .u8 0, .int .u8 0, .int .u8 0, .int .u8 0, .int .u8 0, .int .u8 0, .int .u8 0, .int .u8 0, .int .u8 0, .int .u8 0, .int .u8 0, .int .u8 0, .int .u8 0, .int .u8 0, .int .u8 0, .int .u8 0, .int .u8 0, .int .u8 0, .int .u8 0, .int .u8 0, .int .u8 0, .int .u8 0, .int .u8 0, .int .u8 0, .int .u8 0, .int .u8 0, .int .u8 0, .int .u8 0, .int .u8 0, .int .u8 0, .int .u8 0] 24)).alloc (.cells #[.int .i64 k, .int .i64 z] 3)) (some ⟨w.heap.size, 0, none⟩) 32 32 l) := Lib.hid ⟨hl.out, Nat.le_refl _, (fun h => by cases h), hb.out, fun _ => ⟨_, 0, rfl, by rw [t5]; omega, bytesAt_arr (by rw [HX.out]; exact t2)⟩⟩
  clear t1 t2 t3 t4 t5
  go_enter Tryd.func27, Tryd.ntmps27
  go_wp2_with fail
  refine (thash_any saltTag [k, z] (w.heap.size + 1 + 1) 2 2 _ 32 32 l _ (by decide) HZS rfl (by omega) (Lib.hid (fun i hi => ?_)) (by rw [T5.out]; omega) (by omega) (Lib.hid (hT.out.below T1.out)) HIN).mono ?_
  · have : i = 0 ∨ i = 1 := by omega
    rcases this with rfl | rfl <;> (rw [cell_of_row _ _ _ _ _ _ T4.out]; rfl)
  rintro e w2 ⟨rfl, hq⟩
  rw [salt_d]
  have HB2 := Lib.hid (T1.out.trans (hq.mono T1.out.size))
  have HR2 := Lib.hid ((hq.block (w.heap.size + 1) (by rw [T5.out]; omega)).trans T3.out)
  obtain ⟨Y, HY⟩ : ∃ Y, Hid (((saltN l k z).map fun x => Value.int .u8 (x : Nat)).toArray = Y) := ⟨_, Lib.hid rfl⟩
  have HEX : Hid (dgV (saltN l k z) = .agg Y) := Lib.hid (by unfold dgV; rw [HY.out])
  have hYs : Hid (32 = Y.size) := Lib.hid (by rw [← HY.out]; simp [saltN_length])
  have hsz : Hid ((Tryd.prog.info? 24).map (·.size) = some Y.size) := Lib.hid (by rw [← HY.out]; exact size32 _ (saltN_length _ _ _))
  have hone : Hid (Y.all (·.oneCell') = true) := Lib.hid (by rw [← HY.out]; exact oneCells _)
  rw [HEX.out]
  clear hq
  go_wp2_with (refine wpList_store_row rfl 24 (.tmp 6) (.tmp 11) rfl (w.heap.size + 1) Y rfl rfl 24 _ HR2.out hsz.out hYs.out hone.out ?_)
  refine bodyPost_ret (results_cell_row rfl _ _ (w.heap.size + 1) 24 _ (0, 0) _ rfl (setRow_heap w2 (w.heap.size + 1) _ _ _ _ HR2.out) Tryd.underlying24 rfl hsz.out) rfl ?_
  exact ⟨by rw [HEX.out], below_setRow HB2.out (Nat.le_succ _) _⟩
end Go.Proofs.YtgcmbiegbclhmaaDoor
