/- The reference of layer 3: Inv, Base, Square, Of. -/
import Derived.Test.YthibfangifpooaaRef03
namespace Go.Proofs.Ythibfangifpooaa
open Go.RowKit SzGrp SzPow SzRef
set_option maxRecDepth 100000 in
set_option maxHeartbeats 1000000 in
theorem rinv_any (a : Int) (w : World) (h1 : -9223372036854775808 ≤ a) (h2 : a ≤ 9223372036854775807) :
    Calls Try.prog 12 #[.int .i64 a] w fun e w' => e = .returned (.tuple #[.int .i64 (expV a 2305843009213688668), .int .i64 (expE a 2305843009213688668)]) ∧ w = w' := by
  by_cases c1 : isE a = true
  · obtain ⟨n1, n2⟩ := isE_bounds c1
    have HZ := Lib.hid ((ck_zero a).2 c1)
    obtain ⟨n, rfl⟩ := Int.eq_ofNat_of_zero_le (show 0 ≤ a by omega)
    have e0 : sc 2305843009213688668 = true := by decide
    have R : Hid (expV n 2305843009213688668 = (powP n 2305843009213688668 : Int) ∧ expE n 2305843009213688668 = 0) := Lib.hid (by simp [expV, expE, c1, e0])
    clear c1 e0
    go_enter Try.func12, Try.ntmps12
    go_wp2_with fail
    refine (rcheck_any _ _ h1 h2).mono ?_
    rintro e w1 ⟨rfl, rfl⟩
    rw [HZ.out]
    go_wp2_with fail
    refine (rpower_any n 2305843009213688668 _ (by omega) (by omega)).mono ?_
    rintro e w2 ⟨rfl, rfl⟩
    go_wp2_with fail
    go_ret2
    exact ⟨by rw [R.out.1, R.out.2]; rfl, rfl⟩
  · have c1' : isE a = false := by simpa using c1
    have HZ : Hid (ck a = 30) := Lib.hid (by simp [ck, c1'])
    have R : Hid (expV a 2305843009213688668 = 0 ∧ expE a 2305843009213688668 = 30) := Lib.hid (by simp [expV, expE, c1'])
    clear c1 c1'
    go_enter Try.func12, Try.ntmps12
    go_wp2_with fail
    refine (rcheck_any _ _ h1 h2).mono ?_
    rintro e w1 ⟨rfl, rfl⟩
    rw [HZ.out]
    go_wp2_with fail
    go_ret2
    exact ⟨by rw [R.out.1, R.out.2]; rfl, rfl⟩
theorem rbase_any (k : Int) (w : World) :
    Calls Try.prog 16 #[.int .i64 k] w fun e w' => e = .returned (.tuple #[.int .i64 (expV 4 k), .int .i64 (expE 4 k)]) ∧ w = w' := by
  go_enter Try.func16, Try.ntmps16
  go_wp2_with fail
  refine (rexp_any 4 k _ (by omega) (by omega)).mono ?_
  rintro e w1 ⟨rfl, rfl⟩
  go_wp2_with fail
  go_ret2
  exact ⟨rfl, rfl⟩
theorem square_any (n : Nat) (w : World) (h : n ≤ 18446744073709551615) :
    Calls Try.prog 32 #[.int .u64 n] w fun e w' => e = .returned (.int .i64 (sq n : Int)) ∧ w = w' := by
  obtain ⟨m, Hm⟩ : ∃ m, Hid (n % 4611686018427377339 = m) := ⟨_, Lib.hid rfl⟩
  have hm : m < 4611686018427377339 := by rw [← Hm.out]; exact Nat.mod_lt _ (by omega)
  have em : (n : Int) % 4611686018427377339 = (m : Int) := by have := Hm.out; omega
  go_enter Try.func32, Try.ntmps32
  go_wp2_with fail
  refine (modular_any m m 4611686018427377339 _ hm (by omega) (by omega)).mono ?_
  rintro e w1 ⟨rfl, rfl⟩
  rw [mulM_P]
  go_wp2_with fail
  go_ret
  exact ⟨by rw [sq, Hm.out]; rfl, rfl⟩
end Go.Proofs.Ythibfangifpooaa
