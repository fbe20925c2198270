/- sizar/sizarlaw03: element, add, times; sizar/sizarref03.Of: each returns what its plain function says. -/
import Derived.Test.YthibfangifpooaaGroup
import Derived.Test.YthibfangifpooaaRef03b
import Derived.Test.YthibfangifpooaaGroupLaw
namespace Go.Proofs.Ythibfangifpooaa
open Go.RowKit SzGrp SzPow
theorem element_yes (n : Nat) (a : Int) (w : World) (h : n ≤ 18446744073709551615) (ha : Hid ((sq n : Int) = a)) (h0 : (a != 0) = true) :
    Calls Try.prog 19 #[.int .u64 n] w fun e w' => e = .returned (.tuple #[.int .i64 a, .bool true]) ∧ w = w' := by
  go_enter Try.func19, Try.ntmps19
  go_wp2_with fail
  refine (square_any n _ h).mono ?_
  rintro e w1 ⟨rfl, rfl⟩
  rw [ha.out]
  go_wp2_with fail
  go_ret2
  exact ⟨rfl, rfl⟩
theorem element_no (n : Nat) (w : World) (h : n ≤ 18446744073709551615) (ha : Hid ((sq n : Int) = 0)) :
    Calls Try.prog 19 #[.int .u64 n] w fun e w' => e = .returned (.tuple #[.int .i64 0, .bool false]) ∧ w = w' := by
  go_enter Try.func19, Try.ntmps19
  go_wp2_with fail
  refine (square_any n _ h).mono ?_
  rintro e w1 ⟨rfl, rfl⟩
  rw [ha.out]
  go_wp2_with fail
  go_ret2
  exact ⟨rfl, rfl⟩
/-- what 'element' finds, as the walk takes it -/
def El (n : Nat) (a : Int) : Prop := (sq n : Int) = a ∧ isE a = true ∧ 1 ≤ a ∧ a < 4611686018427377339
theorem el_cases (n : Nat) : sq n = 0 ∨ ∃ a : Int, El n a := by
  by_cases h : sq n = 0
  · exact .inl h
  · have hE := isE_sq n h
    exact .inr ⟨_, rfl, hE, isE_bounds hE⟩
theorem element_el (n : Nat) (a : Int) (w : World) (h : n ≤ 18446744073709551615) (ha : El n a) :
    Calls Try.prog 19 #[.int .u64 n] w fun e w' => e = .returned (.tuple #[.int .i64 a, .bool true]) ∧ w = w' :=
  element_yes n a w h (Lib.hid ha.1) (bne_iff_ne.2 (by have := ha.2.2.1; omega))
end Go.Proofs.Ythibfangifpooaa
