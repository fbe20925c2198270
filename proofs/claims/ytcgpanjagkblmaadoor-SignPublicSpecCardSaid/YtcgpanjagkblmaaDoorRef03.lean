/- The reference of layer 3: each function returns what the same plain functions say; the world is as it was. -/
import Derived.WalkKit
import Derived.WalkLawsBesides
import Derived.Lib.Hide
import Derived.Test.YtcgpanjagkblmaaDoorProg
import Derived.Test.YtcgpanjagkblmaaDoorRef03Math
import Derived.Test.YtcgpanjagkblmaaDoorRef03m
namespace Go.Proofs.YtcgpanjagkblmaaDoor
open Go.RowKit SzGrp SzPow SzRef
set_option maxRecDepth 100000 in
set_option maxHeartbeats 1000000 in
theorem rpower_any (a k : Nat) (w : World) (ha : a < 4611686018427377339) (hk : k ≤ 9223372036854775807) :
    Calls Tryd.prog 58 #[.int .i64 a, .int .i64 k] w fun e w' => e = .returned (.int .i64 (powP a k : Int)) ∧ w = w' := by
  go_enter Tryd.func58, Tryd.ntmps58
  go_wp2_with fail
  go_loop [0, 1, 5] (fun x y z => ∃ a' b' c' : Nat, x = .int .i64 a' ∧ y = .int .i64 b' ∧ z = .int .i64 c' ∧ a' < 4611686018427377339 ∧ c' < 4611686018427377339 ∧ b' ≤ 9223372036854775807 ∧ Hid ((c' * a' ^ b') % P = powP a k)) (fun _ y _ => (intOf y).toNat)
  case atStart => exact ⟨a, k, 1, rfl, rfl, rfl, ha, by omega, hk, Lib.hid (by rw [Nat.one_mul]; rfl)⟩
  case round =>
    obtain ⟨a', b', c', rfl, rfl, rfl, l1, l2, l3, hr⟩ := hrel
    have ha2 := mulP_lt a' a'
    have hc2 := mulP_lt c' a'
    by_cases h0 : 0 < b'
    · by_cases ho : b' % 2 = 1
      · have o : (((b' : Int) % 2) == 1) = true := beq_iff_eq.2 (by omega)
        have R := Lib.hid (pow_odd c' a' b' ho)
        clear ho
        go_wp2_with fail
        refine (modular_any c' a' 4611686018427377339 _ l2 (by omega) (by omega)).mono ?_
        rintro e w' ⟨rfl, rfl⟩
        rw [mulM_P]
        go_wp2_with fail
        refine (modular_any a' a' 4611686018427377339 _ l1 (by omega) (by omega)).mono ?_
        rintro e w' ⟨rfl, rfl⟩
        rw [mulM_P]
        go_wp2_with fail
        go_round
        case rel => exact ⟨mulP a' a', b' / 2, mulP c' a', rfl, by go_num, rfl, ha2, hc2, by omega, Lib.hid (by rw [← R.out]; exact hr.out)⟩
        case measure => simp [intOf]; omega
      · have o : (((b' : Int) % 2) == 1) = false := beq_eq_false_iff_ne.2 (by omega)
        have R := Lib.hid (pow_even c' a' b' ho)
        clear ho
        go_wp2_with fail
        refine (modular_any a' a' 4611686018427377339 _ l1 (by omega) (by omega)).mono ?_
        rintro e w' ⟨rfl, rfl⟩
        rw [mulM_P]
        go_wp2_with fail
        go_round
        case rel => exact ⟨mulP a' a', b' / 2, c', rfl, by go_num, rfl, ha2, l2, by omega, Lib.hid (by rw [← R.out]; exact hr.out)⟩
        case measure => simp [intOf]; omega
    · obtain rfl : b' = 0 := by omega
      have R : Hid (c' = powP a k) := Lib.hid (by rw [← hr.out, Nat.pow_zero, Nat.mul_one, P_eq, Nat.mod_eq_of_lt l2])
      go_wp2_with fail
      go_ret
      exact ⟨by rw [← R.out]; rfl, rfl⟩
set_option maxRecDepth 100000 in
set_option maxHeartbeats 1000000 in
theorem rcheck_any (a : Int) (w : World) (h1 : -9223372036854775808 ≤ a) (h2 : a ≤ 9223372036854775807) :
    Calls Tryd.prog 43 #[.int .i64 a] w fun e w' => e = .returned (.int .i64 (ck a)) ∧ w = w' := by
  by_cases c1 : a < 1
  · have R := Lib.hid (ck_low c1)
    have d1 : decide (a < 1) = true := decide_eq_true c1
    go_enter Tryd.func43, Tryd.ntmps43
    go_wp2_with fail
    go_ret
    exact ⟨by rw [R.out]; rfl, rfl⟩
  · have d1 : decide (a < 1) = false := decide_eq_false c1
    by_cases c2 : 4611686018427377339 ≤ a
    · have R := Lib.hid (ck_high c2)
      have d2 : decide (4611686018427377339 ≤ a) = true := decide_eq_true c2
      go_enter Tryd.func43, Tryd.ntmps43
      go_wp2_with fail
      go_ret
      exact ⟨by rw [R.out]; rfl, rfl⟩
    · obtain ⟨n, rfl⟩ := Int.eq_ofNat_of_zero_le (show 0 ≤ a by omega)
      have d2 : decide (4611686018427377339 ≤ (n : Int)) = false := decide_eq_false c2
      have R := Lib.hid (ck_mid (n := n) (by omega) (by omega))
      by_cases c3 : powP n Q = 1
      · have e3 : ((powP n 2305843009213688669 : Nat) : Int) = 1 := by have := c3; rw [Q_eq] at this; omega
        have E3 := Lib.hid e3
        have C3 := Lib.hid c3
        clear e3 c3
        go_enter Tryd.func43, Tryd.ntmps43
        go_wp2_with fail
        refine (rpower_any n 2305843009213688669 _ (by omega) (by omega)).mono ?_
        rintro e w' ⟨rfl, rfl⟩
        rw [E3.out]
        go_wp2_with fail
        go_ret
        exact ⟨by rw [R.out, if_pos C3.out]; rfl, rfl⟩
      · have e3 : (((powP n 2305843009213688669 : Nat) : Int) != 1) = true := by have := c3; rw [Q_eq] at this; rw [bne_iff_ne]; omega
        have C3 := Lib.hid c3
        clear c3
        go_enter Tryd.func43, Tryd.ntmps43
        go_wp2_with fail
        refine (rpower_any n 2305843009213688669 _ (by omega) (by omega)).mono ?_
        rintro e w' ⟨rfl, rfl⟩
        go_wp2_with fail
        go_ret
        exact ⟨by rw [R.out, if_neg C3.out]; rfl, rfl⟩
set_option maxRecDepth 100000 in
set_option maxHeartbeats 1000000 in
theorem rmul_any (a b : Int) (w : World) (h1 : -9223372036854775808 ≤ a) (h2 : a ≤ 9223372036854775807) (h3 : -9223372036854775808 ≤ b) (h4 : b ≤ 9223372036854775807) :
    Calls Tryd.prog 45 #[.int .i64 a, .int .i64 b] w fun e w' => e = .returned (.tuple #[.int .i64 (mulV a b), .int .i64 (mulE a b)]) ∧ w = w' := by
  by_cases c1 : isE a = true
  · obtain ⟨n1, n2⟩ := isE_bounds c1
    have HA := Lib.hid ((ck_zero a).2 c1)
    by_cases c2 : isE b = true
    · obtain ⟨n3, n4⟩ := isE_bounds c2
      obtain ⟨x, rfl⟩ := Int.eq_ofNat_of_zero_le (show 0 ≤ a by omega)
      obtain ⟨y, rfl⟩ := Int.eq_ofNat_of_zero_le (show 0 ≤ b by omega)
      have HB := Lib.hid ((ck_zero y).2 c2)
      have R : Hid (mulV x y = (mulP x y : Int) ∧ mulE x y = 0) := Lib.hid (by simp [mulV, mulE, c1, c2, ck])
      clear c1 c2
      go_enter Tryd.func45, Tryd.ntmps45
      go_wp2_with fail
      refine (rcheck_any _ _ h1 h2).mono ?_
      rintro e w' ⟨rfl, rfl⟩
      rw [HA.out]
      go_wp2_with fail
      refine (rcheck_any _ _ h3 h4).mono ?_
      rintro e w' ⟨rfl, rfl⟩
      rw [HB.out]
      go_wp2_with fail
      refine (modular_any x y 4611686018427377339 _ (by omega) (by omega) (by omega)).mono ?_
      rintro e w' ⟨rfl, rfl⟩
      rw [mulM_P]
      go_wp2_with fail
      go_ret2
      exact ⟨by rw [R.out.1, R.out.2]; rfl, rfl⟩
    · have c2' : isE b = false := by simpa using c2
      have HB : Hid (ck b = 30) := Lib.hid (by simp [ck, c2'])
      have R : Hid (mulV a b = 0 ∧ mulE a b = 30) := Lib.hid (by simp [mulV, mulE, c2', c1, ck])
      clear c1 c2 c2'
      go_enter Tryd.func45, Tryd.ntmps45
      go_wp2_with fail
      refine (rcheck_any _ _ h1 h2).mono ?_
      rintro e w' ⟨rfl, rfl⟩
      rw [HA.out]
      go_wp2_with fail
      refine (rcheck_any _ _ h3 h4).mono ?_
      rintro e w' ⟨rfl, rfl⟩
      rw [HB.out]
      go_wp2_with fail
      go_ret2
      exact ⟨by rw [R.out.1, R.out.2]; rfl, rfl⟩
  · have c1' : isE a = false := by simpa using c1
    have HA : Hid (ck a = 30) := Lib.hid (by simp [ck, c1'])
    have R : Hid (mulV a b = 0 ∧ mulE a b = 30) := Lib.hid (by simp [mulV, mulE, c1'])
    clear c1 c1'
    go_enter Tryd.func45, Tryd.ntmps45
    go_wp2_with fail
    refine (rcheck_any _ _ h1 h2).mono ?_
    rintro e w' ⟨rfl, rfl⟩
    rw [HA.out]
    go_wp2_with fail
    go_ret2
    exact ⟨by rw [R.out.1, R.out.2]; rfl, rfl⟩
set_option maxRecDepth 100000 in
set_option maxHeartbeats 1000000 in
theorem rexp_any (a k : Int) (w : World) (h1 : -9223372036854775808 ≤ a) (h2 : a ≤ 9223372036854775807) :
    Calls Tryd.prog 44 #[.int .i64 a, .int .i64 k] w fun e w' => e = .returned (.tuple #[.int .i64 (expV a k), .int .i64 (expE a k)]) ∧ w = w' := by
  by_cases c1 : isE a = true
  · obtain ⟨n1, n2⟩ := isE_bounds c1
    have HZ := Lib.hid ((ck_zero a).2 c1)
    by_cases c2 : sc k = true
    · obtain ⟨m1, m2⟩ := sc_bounds c2
      obtain ⟨n, rfl⟩ := Int.eq_ofNat_of_zero_le (show 0 ≤ a by omega)
      obtain ⟨m, rfl⟩ := Int.eq_ofNat_of_zero_le m1
      have R : Hid (expV n m = (powP n m : Int) ∧ expE n m = 0) := Lib.hid (by simp [expV, expE, c1, c2])
      have C2 := Lib.hid c2
      clear c1 c2
      go_enter Tryd.func44, Tryd.ntmps44
      go_wp2_with fail
      refine (rcheck_any _ _ h1 h2).mono ?_
      rintro e w1 ⟨rfl, rfl⟩
      rw [HZ.out]
      go_wp2_with fail
      refine (rscalar_any _ _).mono ?_
      rintro e w2 ⟨rfl, rfl⟩
      rw [C2.out]
      go_wp2_with fail
      refine (rpower_any n m _ (by omega) (by omega)).mono ?_
      rintro e w2 ⟨rfl, rfl⟩
      go_wp2_with fail
      go_ret2
      exact ⟨by rw [R.out.1, R.out.2]; rfl, rfl⟩
    · have c2' : sc k = false := by simpa using c2
      have R : Hid (expV a k = 0 ∧ expE a k = 1) := Lib.hid (by simp [expV, expE, c1, c2'])
      have C2 := Lib.hid c2'
      clear c1 c2 c2'
      go_enter Tryd.func44, Tryd.ntmps44
      go_wp2_with fail
      refine (rcheck_any _ _ h1 h2).mono ?_
      rintro e w1 ⟨rfl, rfl⟩
      rw [HZ.out]
      go_wp2_with fail
      refine (rscalar_any _ _).mono ?_
      rintro e w2 ⟨rfl, rfl⟩
      rw [C2.out]
      go_wp2_with fail
      go_ret2
      exact ⟨by rw [R.out.1, R.out.2]; rfl, rfl⟩
  · have c1' : isE a = false := by simpa using c1
    have HZ : Hid (ck a = 30) := Lib.hid (by simp [ck, c1'])
    have R : Hid (expV a k = 0 ∧ expE a k = 30) := Lib.hid (by simp [expV, expE, c1'])
    clear c1 c1'
    go_enter Tryd.func44, Tryd.ntmps44
    go_wp2_with fail
    refine (rcheck_any _ _ h1 h2).mono ?_
    rintro e w1 ⟨rfl, rfl⟩
    rw [HZ.out]
    go_wp2_with fail
    go_ret2
    exact ⟨by rw [R.out.1, R.out.2]; rfl, rfl⟩
end Go.Proofs.YtcgpanjagkblmaaDoor
