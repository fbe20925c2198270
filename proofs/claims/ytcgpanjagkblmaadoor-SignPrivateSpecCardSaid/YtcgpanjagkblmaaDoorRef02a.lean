/- The reference of layer 2: ror, word, numbers: each returns what its plain function says. -/
import Derived.Deep.QuietTactic
import Derived.BigQuiet
import Derived.StillTailTactics
import Derived.Test.YtcgpanjagkblmaaDoorTagged
namespace Go.Proofs.YtcgpanjagkblmaaDoor
open Go.RowKit SzSha
set_option linter.unusedVariables false
theorem rror_bits (x n : Nat) (hx : x < 4294967296) (h1 : 1 ≤ n) (h2 : n ≤ 31) : bits .or .u32 ((x : Int) / 2 ^ n) (IntKind.u32.wrap ((x : Int) * 2 ^ (32 - n))) = (ror x n : Nat) := by
  have e1 : IntKind.u32.wrap ((x : Int) * 2 ^ (32 - n)) = ((x * 2 ^ (32 - n) % 4294967296 : Nat) : Int) := by rw [IntKind.wrap_u32']; rfl
  have e2 : ((x : Int) / 2 ^ n) = ((x / 2 ^ n : Nat) : Int) := rfl
  rw [e1, e2, u32_or_nat _ _ (div_lt _ hx) (Nat.mod_lt _ (by decide))]; rfl
set_option maxHeartbeats 400000 in
theorem rror_any (x n : Nat) (w : World) (hx : x < 4294967296) (h1 : 1 ≤ n) (h2 : n ≤ 31) :
    Calls Tryd.prog 76 #[.int .u32 x, .int .i64 n] w fun e w' => e = .returned (.int .u32 (ror x n : Nat)) ∧ w.drew = w' := by
  obtain ⟨m, hm⟩ : ∃ m, n + m = 32 := ⟨32 - n, by omega⟩
  have hm1 : m ≤ 31 := by omega
  have e32 : IntKind.i64.wrap (32 - (n : Int)) = (m : Int) := by rw [IntWalk.i64_in _ (by omega)]; omega
  have R := Lib.hid (rror_bits x n hx h1 h2)
  have HM := Lib.hid hm
  clear hm
  go_enter Tryd.func76, Tryd.ntmps76
  go_wp2_with fail
  refine wp_region_still_lit (by kernel_rfl) (by kernel_rfl) ?_
  repeat still_step
  refine wpStill_nil ?_
  change Exit.then _ _ _ _ w.drew
  go_wp2_with fail
  go_ret
  refine ⟨?_, rfl⟩
  rw [← R.out, show 32 - n = m by have := HM.out; omega]; rfl
theorem or_low (a b k : Nat) (hb : b < 2 ^ k) : a * 2 ^ k ||| b = a * 2 ^ k + b := by
  rw [Nat.mul_comm, ← Nat.two_pow_add_eq_or_of_lt hb]
theorem rword_bits (a b c d : Nat) (ha : a < 256) (hb : b < 256) (hc : c < 256) (hd : d < 256) :
    bits .or .u32 (bits .or .u32 (bits .or .u32 (IntKind.u32.wrap ((a : Int) * 16777216)) (IntKind.u32.wrap ((b : Int) * 65536))) (IntKind.u32.wrap ((c : Int) * 256))) (d : Int) = ((((a * 256 + b) * 256 + c) * 256 + d : Nat) : Int) := by
  have e1 : IntKind.u32.wrap ((a : Int) * 16777216) = ((a * 16777216 : Nat) : Int) := by rw [IntKind.wrap_u32']; omega
  have e2 : IntKind.u32.wrap ((b : Int) * 65536) = ((b * 65536 : Nat) : Int) := by rw [IntKind.wrap_u32']; omega
  have e3 : IntKind.u32.wrap ((c : Int) * 256) = ((c * 256 : Nat) : Int) := by rw [IntKind.wrap_u32']; omega
  rw [e1, e2, e3, u32_or_nat _ _ (by omega) (by omega)]
  have o1 : a * 16777216 ||| b * 65536 = a * 16777216 + b * 65536 := or_low a (b * 65536) 24 (by omega)
  rw [o1, u32_or_nat _ _ (by omega) (by omega)]
  have o2 : (a * 16777216 + b * 65536) ||| c * 256 = a * 16777216 + b * 65536 + c * 256 := by
    have := or_low (a * 256 + b) (c * 256) 16 (by omega)
    rw [show (a * 256 + b) * 2 ^ 16 = a * 16777216 + b * 65536 by omega] at this
    exact this
  rw [o2, u32_or_nat _ _ (by omega) (by omega)]
  have o3 : (a * 16777216 + b * 65536 + c * 256) ||| d = a * 16777216 + b * 65536 + c * 256 + d := by
    have := or_low ((a * 256 + b) * 256 + c) d 8 (by omega)
    rw [show ((a * 256 + b) * 256 + c) * 2 ^ 8 = a * 16777216 + b * 65536 + c * 256 by omega] at this
    exact this
  rw [o3]
  exact congrArg Nat.cast (show a * 16777216 + b * 65536 + c * 256 + d = ((a * 256 + b) * 256 + c) * 256 + d by omega)
set_option maxHeartbeats 400000 in
theorem rword_any (g off c : Nat) (x0 x1 x2 x3 : Nat) (w : World) (h0 : x0 < 256) (h1 : x1 < 256) (h2 : x2 < 256) (h3 : x3 < 256)
    (c0 : w.cell? ⟨g, off, none⟩ = some (.int .u8 x0)) (c1 : w.cell? ⟨g, off + 1, none⟩ = some (.int .u8 x1)) (c2 : w.cell? ⟨g, off + 2, none⟩ = some (.int .u8 x2)) (c3 : w.cell? ⟨g, off + 3, none⟩ = some (.int .u8 x3)) :
    Calls Tryd.prog 75 #[.slice (some ⟨g, off, none⟩) 4 c] w fun e w' => e = .returned (.int .u32 (((x0 * 256 + x1) * 256 + x2) * 256 + x3 : Nat)) ∧ w.drew = w' := by
  have R := Lib.hid (rword_bits x0 x1 x2 x3 h0 h1 h2 h3)
  have u0 : IntKind.u32.wrap (x0 : Int) = x0 := by rw [IntKind.wrap_u32']; omega
  have u1 : IntKind.u32.wrap (x1 : Int) = x1 := by rw [IntKind.wrap_u32']; omega
  have u2 : IntKind.u32.wrap (x2 : Int) = x2 := by rw [IntKind.wrap_u32']; omega
  have u3 : IntKind.u32.wrap (x3 : Int) = x3 := by rw [IntKind.wrap_u32']; omega
  go_enter Tryd.func75, Tryd.ntmps75
  go_wp2_with fail
  refine wp_region_still_lit (by kernel_rfl) (by kernel_rfl) ?_
  change wpStill _ _ w.drew (fun a' => Exit.then _ _ _ a' w.drew) _ _
  have c0' : w.drew.cell? ⟨g, off, none⟩ = some (.int .u8 x0) := c0
  have c1' : w.drew.cell? ⟨g, off + 1, none⟩ = some (.int .u8 x1) := c1
  have c2' : w.drew.cell? ⟨g, off + 2, none⟩ = some (.int .u8 x2) := c2
  have c3' : w.drew.cell? ⟨g, off + 3, none⟩ = some (.int .u8 x3) := c3
  generalize hw : w.drew = w1 at *
  have HW := Lib.hid hw
  clear hw c0 c1 c2 c3
  repeat still_step
  refine wpStill_nil ?_
  go_wp2_with fail
  go_ret
  refine ⟨?_, HW.out⟩
  rw [← R.out]; rfl
/-- the table K as a value -/
def ksV : Array Value := (ks.map fun x => Value.int .u32 (x : Nat)).toArray
set_option maxRecDepth 100000 in
set_option maxHeartbeats 1000000 in
theorem numbers_any (w : World) : Calls Tryd.prog 77 #[] w fun e w' => e = .returned (.agg ksV) ∧ Below w.heap.size w w' := by
  go_enter Tryd.func77, Tryd.ntmps77
  go_wp2_with (refine wpList_store_row rfl 84 (.tmp 0) (.tmp 1) rfl w.heap.size ksV rfl rfl 84 _ (heap_alloc_new w _) (by kernel_rfl) rfl (by decide +kernel) ?_)
  refine bodyPost_ret (results_cell_row rfl _ _ w.heap.size 84 ksV (0, 0) _ rfl (laid_row w _ ksV 84).2.2 Tryd.underlying84 rfl (by kernel_rfl)) rfl ?_
  exact ⟨rfl, (laid_row w _ ksV 84).1⟩
end Go.Proofs.YtcgpanjagkblmaaDoor
