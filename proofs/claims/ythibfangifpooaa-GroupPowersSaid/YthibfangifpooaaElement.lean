/- sizar/sizarlaw03: element, add, times; sizar/sizarref03.Of: each returns what its plain function says. -/
import Derived.Laws.Bits128
import Derived.Test.YthibfangifpooaaGroup
import Derived.Test.YthibfangifpooaaRef03b
import Derived.Test.YthibfangifpooaaGroupLaw
namespace Go.Proofs.Ythibfangifpooaa
open Go.RowKit SzGrp SzPow
set_option linter.unusedVariables false
theorem element_yes (n : Nat) (a : Int) (w : World) (h : n ≤ 18446744073709551615) (ha : Hid ((sq n : Int) = a)) (h0 : (a != 0) = true) :
    Calls Try.prog 19 #[.int .u64 n] w fun e w' => e = .returned (.tuple #[.int .i64 a, .bool true]) ∧ w = w' := by
  go_enter Try.func19, Try.ntmps19
  go_wp2_with fail
  refine (square_any n _ h).mono ?_
  rintro e w1 ⟨rfl, rfl⟩
  rw [ha.out]
  go_wp2_with fail
  go_ret2
  exact ⟨rfl, rfl⟩
theorem element_no (n : Nat) (w : World) (h : n ≤ 18446744073709551615) (ha : Hid ((sq n : Int) = 0)) :
    Calls Try.prog 19 #[.int .u64 n] w fun e w' => e = .returned (.tuple #[.int .i64 0, .bool false]) ∧ w = w' := by
  go_enter Try.func19, Try.ntmps19
  go_wp2_with fail
  refine (square_any n _ h).mono ?_
  rintro e w1 ⟨rfl, rfl⟩
  rw [ha.out]
  go_wp2_with fail
  go_ret2
  exact ⟨rfl, rfl⟩
/-- what 'element' finds, as the walk takes it -/
def El (n : Nat) (a : Int) : Prop := (sq n : Int) = a ∧ isE a = true ∧ 1 ≤ a ∧ a < 4611686018427377339
theorem el_cases (n : Nat) : sq n = 0 ∨ ∃ a : Int, El n a := by
  by_cases h : sq n = 0
  · exact .inl h
  · have hE := isE_sq n h
    exact .inr ⟨_, rfl, hE, isE_bounds hE⟩
theorem element_el (n : Nat) (a : Int) (w : World) (h : n ≤ 18446744073709551615) (ha : El n a) :
    Calls Try.prog 19 #[.int .u64 n] w fun e w' => e = .returned (.tuple #[.int .i64 a, .bool true]) ∧ w = w' :=
  element_yes n a w h (Lib.hid ha.1) (bne_iff_ne.2 (by have := ha.2.2.1; omega))
/-- the scalar that a number determines -/
def ofS (n : Int) : Int := n % 4611686018427387904 % 2305843009213688669
theorem sc_ofS (n : Int) : sc (ofS n) = true := by
  have h1 := Int.emod_nonneg (n % 4611686018427387904) (show (2305843009213688669 : Int) ≠ 0 by decide)
  have h2 := Int.emod_lt_of_pos (n % 4611686018427387904) (show (0 : Int) < 2305843009213688669 by decide)
  exact sc_mid h1 h2
theorem add_any (a b : Int) (w : World) :
    Calls Try.prog 23 #[.int .i64 a, .int .i64 b] w fun e w' => e = .returned (.int .i64 (sumV a b)) ∧ Below w.heap.size w w' := by
  go_enter Try.func23, Try.ntmps23
  go_wp2_with fail
  refine (sum_any a b _).mono ?_
  rintro e w1 ⟨rfl, hb1⟩
  go_wp2_with fail
  go_ret
  exact ⟨rfl, hb1⟩
theorem timesS_any (a b : Int) (w : World) :
    Calls Try.prog 24 #[.int .i64 a, .int .i64 b] w fun e w' => e = .returned (.int .i64 (prodV a b)) ∧ Below w.heap.size w w' := by
  go_enter Try.func24, Try.ntmps24
  go_wp2_with fail
  refine (product_any a b _).mono ?_
  rintro e w1 ⟨rfl, hb1⟩
  go_wp2_with fail
  go_ret
  exact ⟨rfl, hb1⟩
theorem i64_and62 (n : Int) : bits .and .i64 n 4611686018427387903 = n % 4611686018427387904 := by
  have h62 : (BitVec.ofInt 64 4611686018427387903).toNat = 2 ^ 62 - 1 := by decide
  have key : (BitVec.ofInt 64 n &&& BitVec.ofInt 64 4611686018427387903).toNat = (n % ((2 ^ 64 : Nat) : Int)).toNat % 2 ^ 62 := by
    rw [BitVec.toNat_and, BitVec.toNat_ofInt, h62, Nat.and_two_pow_sub_one_eq_mod]
  show IntKind.i64.wrap ((BitVec.ofInt 64 n &&& BitVec.ofInt 64 4611686018427387903).toNat : Nat) = n % 4611686018427387904
  rw [key, IntKind.wrap_i64]
  omega
theorem of_bits (n : Int) : (bits .and .i64 n 4611686018427387903).tmod 2305843009213688669 = ofS n := by
  rw [i64_and62, Int.tmod_eq_emod_of_nonneg (Int.emod_nonneg _ (by decide))]; rfl
theorem of_any (n : Int) (w : World) (h1 : -9223372036854775808 ≤ n) (h2 : n ≤ 9223372036854775807) :
    Calls Try.prog 20 #[.int .i64 n] w fun e w' => e = .returned (.int .i64 (ofS n)) ∧ w = w' := by
  go_enter Try.func20, Try.ntmps20
  go_wp2_with fail
  go_ret
  exact ⟨by rw [← of_bits]; rfl, rfl⟩
end Go.Proofs.Ythibfangifpooaa
