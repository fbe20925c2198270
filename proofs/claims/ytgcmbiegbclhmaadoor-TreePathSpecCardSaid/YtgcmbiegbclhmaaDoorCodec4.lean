/- sizar/codec.newWriter. -/
import Derived.Test.YtgcmbiegbclhmaaDoorCodec
import Derived.Laws.EntriesVeiled
namespace Go.Proofs.YtgcmbiegbclhmaaDoor
open Go.RowKit SzSha SzTree
set_option linter.unusedVariables false
set_option maxRecDepth 100000
/-- the table of writers -/
structure Wr (w : World) (q c : Nat) : Prop where
  c1 : w.cell? ⟨q, 1, none⟩ = some (.func (.func 64) #[] #[])
  c3 : w.cell? ⟨q, 3, none⟩ = some (.func (.func 68) #[] #[.pointer (some ⟨c, 0, none⟩)])
  p : w.cell? ⟨c, 0, none⟩ = some (.pointer (some ⟨q, 0, none⟩))
theorem Wr.below {w w' : World} {q c : Nat} (h : Wr w q c) (hb : Below w.heap.size w w') : Wr w' q c :=
  ⟨(hb.cell (block_lt_of_cell h.c1)).trans h.c1, (hb.cell (block_lt_of_cell h.c3)).trans h.c3, (hb.cell (block_lt_of_cell h.p)).trans h.p⟩
set_option maxHeartbeats 2000000 in
theorem newWriter_any (w : World) : Calls Tryd.prog 55 #[] w fun e w' => e = .returned (.pointer (some ⟨w.heap.size, 0, none⟩)) ∧ Wr w' w.heap.size (w.heap.size + 1) ∧ Below w.heap.size w w' := by
  go_enter Tryd.func55, Tryd.ntmps55
  go_wp2_with fail
  go_ret
  have h0 := heap_alloc_new w (.cells #[.nilFunc, .func (.func 64) #[] #[], .func (.func 67) #[] #[], .func (.func 68) #[] #[.pointer (some ⟨w.heap.size + 1, 0, none⟩)]] 104)
  have h1 := heap_alloc_new (w.alloc (.cells #[.nilFunc, .func (.func 64) #[] #[], .func (.func 67) #[] #[], .func (.func 68) #[] #[.pointer (some ⟨w.heap.size + 1, 0, none⟩)]] 104)) (.cells #[.pointer (some ⟨w.heap.size, 0, none⟩)] 89)
  have h2 := (Below.heap_alloc (w.alloc (.cells #[.nilFunc, .func (.func 64) #[] #[], .func (.func 67) #[] #[], .func (.func 68) #[] #[.pointer (some ⟨w.heap.size + 1, 0, none⟩)]] 104)) (.cells #[.pointer (some ⟨w.heap.size, 0, none⟩)] 89) w.heap.size (by simp)).trans h0
  rw [World.size_alloc] at h1
  exact ⟨rfl, ⟨by rw [cell_of_row _ _ _ _ _ _ h2]; rfl, by rw [cell_of_row _ _ _ _ _ _ h2]; rfl, by rw [cell_of_row _ _ _ _ _ _ h1]; rfl⟩, ((Below.refl _ w).alloc (Nat.le_refl _) _).alloc (by simp) _⟩
end Go.Proofs.YtgcmbiegbclhmaaDoor
