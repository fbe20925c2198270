/- sizar/group.times: a product modulo P of two numbers below it; what was in memory stays. -/
import Derived.Test.YtcgpanjagkblmaaDoorDiv
import Derived.Test.YtcgpanjagkblmaaDoorPowMath
namespace Go.Proofs.YtcgpanjagkblmaaDoor
open Go.RowKit
theorem mul64_any (x y hi lo : Nat) (w : World) (hx : x ≤ 18446744073709551615) (hy : y ≤ 18446744073709551615) (h1 : Hid (hi = x * y / 18446744073709551616)) (h2 : Hid (lo = x * y % 18446744073709551616)) :
    Calls Tryd.prog 49 #[.int .u64 x, .int .u64 y] w fun e w' => e = .returned (.tuple #[.int .u64 hi, .int .u64 lo]) ∧ w = w' :=
  (Tryd.bits_Mul64 x y (by omega) (by omega) w).mono fun _ _ h => ⟨by rw [h1.out, h2.out]; exact h.1, h.2.symm⟩
theorem div64_rest (hi lo y q r : Nat) (w : World) (h1 : hi < y) (h2 : y ≤ 18446744073709551615) (h3 : lo ≤ 18446744073709551615) (hq : Hid (q = (hi * 18446744073709551616 + lo) / y)) (hr : Hid (r = (hi * 18446744073709551616 + lo) % y)) :
    Calls Tryd.prog 50 #[.int .u64 hi, .int .u64 lo, .int .u64 y] w fun e w' => e = .returned (.tuple #[.int .u64 q, .int .u64 r]) ∧ Below w.heap.size w w' :=
  (div64_any hi lo y w h1 h2 h3).mono fun _ _ h => ⟨by rw [hq.out, hr.out]; exact h.1, h.2⟩
/-- the words of a product below m * m, and its rest -/
theorem words (a b m : Nat) (hm : m ≤ 4611686018427387904) (ha : a < m) (hb : b < m) : ∃ hi lo q r : Nat, Hid (hi = a * b / 18446744073709551616) ∧ Hid (lo = a * b % 18446744073709551616) ∧ hi < m ∧ lo ≤ 18446744073709551615 ∧
    Hid (q = (hi * 18446744073709551616 + lo) / m) ∧ Hid (r = (hi * 18446744073709551616 + lo) % m) ∧ Hid (r = a * b % m) ∧ r < m := by
  have h : a * b ≤ m * m := Nat.mul_le_mul (by omega) (by omega)
  have h' : m * m ≤ m * 4611686018427387904 := Nat.mul_le_mul_left _ hm
  refine ⟨_, _, _, _, Lib.hid rfl, Lib.hid rfl, ?_, ?_, Lib.hid rfl, Lib.hid rfl, ?_, Nat.mod_lt _ (by omega)⟩
  · generalize m * m = z at *
    generalize a * b = x at *
    omega
  · have := Nat.mod_lt (a * b) (show 0 < 18446744073709551616 by omega)
    omega
  · refine Lib.hid ?_
    congr 1
    generalize a * b = x at *
    omega
set_option maxHeartbeats 400000 in
theorem times_any (a b : Nat) (w : World) (ha : a < 4611686018427377339) (hb : b < 4611686018427377339) :
    Calls Tryd.prog 48 #[.int .u64 a, .int .u64 b] w fun e w' => e = .returned (.int .u64 (SzPow.mulP a b : Int)) ∧ Below w.heap.size w w' := by
  obtain ⟨hi, lo, q, r, h1, h2, h3, h4, h5, h6, h7, h8⟩ := words a b 4611686018427377339 (by omega) ha hb
  go_enter Tryd.func48, Tryd.ntmps48
  go_wp2_with fail
  refine (mul64_any a b hi lo _ (by omega) (by omega) h1 h2).mono ?_
  rintro e w' ⟨rfl, rfl⟩
  go_wp2_with fail
  refine (div64_rest hi lo 4611686018427377339 q r _ h3 (by omega) h4 h5 h6).mono ?_
  rintro e w' ⟨rfl, hb⟩
  go_wp2_with fail
  go_ret
  exact ⟨by rw [SzPow.mulP, SzPow.P_eq, ← h7.out]; rfl, hb⟩
end Go.Proofs.YtcgpanjagkblmaaDoor
