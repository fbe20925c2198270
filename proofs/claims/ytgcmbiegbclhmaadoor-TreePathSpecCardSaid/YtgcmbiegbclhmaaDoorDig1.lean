/- math/bits.RotateLeft32, sizar/digest: rotated, word, put: each does what its plain function says. -/
import Derived.WalkKit
import Derived.WalkLawsBesides
import Derived.Lib.Hide
import Derived.Deep.OwnRows
import Derived.Laws.AppendOwn
import Derived.OwnWalk
import Derived.Outline
import Derived.Laws.Bits64b
import Derived.Test.YtgcmbiegbclhmaaDoorProg
import Derived.Test.YtgcmbiegbclhmaaDoorShaMath
namespace Go.Proofs.YtgcmbiegbclhmaaDoor
open Go.RowKit SzSha
set_option linter.unusedVariables false
theorem rot_bits (n : Nat) (h1 : 1 ≤ n) (h2 : n ≤ 31) : bits .and .u64 (IntKind.u64.wrap (-(n : Int))) 31 = ((32 - n : Nat) : Int) := by
  have e : IntKind.u64.wrap (-(n : Int)) = ((18446744073709551616 - n : Nat) : Int) := by
    rw [IntKind.wrap_u64]; omega
  have h := bits_and_u64_nat (18446744073709551616 - n) 31 (by omega) (by omega)
  rw [e]
  refine h.trans ?_
  rw [show (31 : Nat) = 2 ^ 5 - 1 from rfl, Nat.and_two_pow_sub_one_eq_mod]
  omega
theorem rot_end (x n m : Nat) (hx : x < 4294967296) (h : n + m = 32) :
    bits .or .u32 ((x : Int) * 2 ^ m % 4294967296) ((x : Int) / 2 ^ (32 - m)) = (ror x n : Nat) := by
  have e1 : (x : Int) * 2 ^ m % 4294967296 = ((x * 2 ^ (32 - n) % 4294967296 : Nat) : Int) := by
    rw [show 32 - n = m by omega]; rfl
  have e2 : ((x : Int) / 2 ^ (32 - m)) = ((x / 2 ^ n : Nat) : Int) := by
    rw [show 32 - m = n by omega]; rfl
  rw [e1, e2, u32_or_nat _ _ (Nat.mod_lt _ (by decide)) (div_lt _ hx), Nat.or_comm]; rfl
set_option maxHeartbeats 400000 in
theorem rotl_any (x n : Nat) (w : World) (hx : x < 4294967296) (h1 : 1 ≤ n) (h2 : n ≤ 31) :
    Calls Tryd.prog 70 #[.int .u32 x, .int .i64 (-(n : Int))] w fun e w' => e = .returned (.int .u32 (ror x n : Nat)) ∧ w = w' := by
  have hb := rot_bits n h1 h2
  obtain ⟨m, hm⟩ : ∃ m, n + m = 32 := ⟨32 - n, by omega⟩
  rw [show 32 - n = m by omega] at hb
  have hm1 : m ≤ 31 := by omega
  have R := Lib.hid (rot_end x n m hx hm)
  have HM := Lib.hid hm
  clear hm
  go_enter Tryd.func70, Tryd.ntmps70
  go_wp2_with fail
  go_ret
  refine ⟨?_, rfl⟩
  rw [← R.out]; rfl
theorem xor_nat (a b : Nat) (ha : a < 4294967296) (hb : b < 4294967296) : Hid (bits .xor .u32 (a : Int) (b : Int) = ((a ^^^ b : Nat) : Int)) := Lib.hid (u32_xor_nat a b ha hb)
set_option maxHeartbeats 400000 in
theorem rotated_any (x a b c : Nat) (w : World) (hx : x < 4294967296) (a1 : 1 ≤ a) (a2 : a ≤ 31) (b1 : 1 ≤ b) (b2 : b ≤ 31) (c1 : 1 ≤ c) (c2 : c ≤ 31) :
    Calls Tryd.prog 71 #[.int .u32 x, .int .i64 a, .int .i64 b, .int .i64 c] w fun e w' => e = .returned (.int .u32 (rot3 x a b c : Nat)) ∧ w = w' := by
  have r1 := ror_lt x a hx
  have r2 := ror_lt x b hx
  have r3 := ror_lt x c hx
  have X1 := xor_nat _ _ r1 r2
  have X2 := xor_nat _ _ (SzSha.xor_lt r1 r2) r3
  clear r1 r2 r3
  go_enter Tryd.func71, Tryd.ntmps71
  go_wp2_with fail
  refine (rotl_any x a _ hx a1 a2).mono ?_
  rintro e w' ⟨rfl, rfl⟩
  go_wp2_with fail
  refine (rotl_any x b _ hx b1 b2).mono ?_
  rintro e w' ⟨rfl, rfl⟩
  go_wp2_with fail
  refine (rotl_any x c _ hx c1 c2).mono ?_
  rintro e w' ⟨rfl, rfl⟩
  rw [X1.out]
  go_wp2_with fail
  go_ret
  refine ⟨?_, rfl⟩
  show Ending.returned (.int .u32 (bits .xor .u32 _ _)) = _
  rw [X2.out]; rfl
end Go.Proofs.YtgcmbiegbclhmaaDoor
