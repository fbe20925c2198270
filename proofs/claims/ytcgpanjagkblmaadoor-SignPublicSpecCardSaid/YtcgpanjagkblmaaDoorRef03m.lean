/- The reference of layer 3: sum, Modular, IsScalar, Sum, Product: each returns what its plain function says; the world is as it was. -/
import Derived.WalkKit
import Derived.WalkLawsBesides
import Derived.Lib.Hide
import Derived.Test.YtcgpanjagkblmaaDoorProg
import Derived.Test.YtcgpanjagkblmaaDoorRef03Math
namespace Go.Proofs.YtcgpanjagkblmaaDoor
open Go.RowKit SzGrp SzPow SzRef
theorem rsum_any (a b m : Nat) (w : World) (ha : a < m) (hb : b < m) (hm : m ≤ 4611686018427387904) :
    Calls Tryd.prog 57 #[.int .i64 a, .int .i64 b, .int .i64 m] w fun e w' => e = .returned (.int .i64 (addM a b m : Int)) ∧ w = w' := by
  by_cases c : m ≤ a + b
  · have R := Lib.hid (addM_ge a b m ha hb c)
    go_enter Tryd.func57, Tryd.ntmps57
    go_wp2_with fail
    go_ret
    exact ⟨by rw [R.out]; show Ending.returned (.int .i64 _) = _; congr 2; omega, rfl⟩
  · have R := Lib.hid (addM_lt' a b m (by omega))
    go_enter Tryd.func57, Tryd.ntmps57
    go_wp2_with fail
    go_ret
    exact ⟨by rw [R.out]; show Ending.returned (.int .i64 _) = _; congr 2, rfl⟩
set_option maxRecDepth 100000 in
set_option maxHeartbeats 1000000 in
theorem modular_any (a b m : Nat) (w : World) (ha : a < m) (hb : b ≤ 9223372036854775807) (hm : m ≤ 4611686018427387904) :
    Calls Tryd.prog 56 #[.int .i64 a, .int .i64 b, .int .i64 m] w fun e w' => e = .returned (.int .i64 (mulM a b m : Int)) ∧ w = w' := by
  go_enter Tryd.func56, Tryd.ntmps56
  go_wp2_with fail
  go_loop [0, 1, 7] (fun x y z => ∃ a' b' c' : Nat, x = .int .i64 a' ∧ y = .int .i64 b' ∧ z = .int .i64 c' ∧ a' < m ∧ c' < m ∧ b' ≤ 9223372036854775807 ∧ Hid ((c' + a' * b') % m = mulM a b m)) (fun _ y _ => (intOf y).toNat)
  case atStart => exact ⟨a, b, 0, rfl, rfl, rfl, ha, by omega, hb, Lib.hid (by simp [mulM])⟩
  case round =>
    obtain ⟨a', b', c', rfl, rfl, rfl, l1, l2, l3, hr⟩ := hrel
    have ha2 := addM_lt a' a' m (by omega)
    have hc2 := addM_lt c' a' m (by omega)
    by_cases h0 : 0 < b'
    · by_cases ho : b' % 2 = 1
      · have o : (((b' : Int) % 2) == 1) = true := beq_iff_eq.2 (by omega)
        have R := Lib.hid (odd_step m c' a' b' ho)
        clear ho
        go_wp2_with fail
        refine (rsum_any c' a' m _ l2 l1 hm).mono ?_
        rintro e w' ⟨rfl, rfl⟩
        go_wp2_with fail
        refine (rsum_any a' a' m _ l1 l1 hm).mono ?_
        rintro e w' ⟨rfl, rfl⟩
        go_wp2_with fail
        go_round
        case rel => exact ⟨addM a' a' m, b' / 2, addM c' a' m, rfl, by go_num, rfl, ha2, hc2, by omega, Lib.hid (by rw [← R.out]; exact hr.out)⟩
        case measure => simp [intOf]; omega
      · have o : (((b' : Int) % 2) == 1) = false := beq_eq_false_iff_ne.2 (by omega)
        have R := Lib.hid (even_step m c' a' b' ho)
        clear ho
        go_wp2_with fail
        refine (rsum_any a' a' m _ l1 l1 hm).mono ?_
        rintro e w' ⟨rfl, rfl⟩
        go_wp2_with fail
        go_round
        case rel => exact ⟨addM a' a' m, b' / 2, c', rfl, by go_num, rfl, ha2, l2, by omega, Lib.hid (by rw [← R.out]; exact hr.out)⟩
        case measure => simp [intOf]; omega
    · obtain rfl : b' = 0 := by omega
      have R : Hid (c' = mulM a b m) := Lib.hid (by rw [← hr.out, Nat.mul_zero, Nat.add_zero, Nat.mod_eq_of_lt l2])
      go_wp2_with fail
      go_ret
      exact ⟨by rw [← R.out]; rfl, rfl⟩
theorem rscalar_any (k : Int) (w : World) :
    Calls Tryd.prog 55 #[.int .i64 k] w fun e w' => e = .returned (.bool (sc k)) ∧ w = w' := by
  by_cases c1 : 0 ≤ k
  · have d1 : decide (0 ≤ k) = true := decide_eq_true c1
    by_cases c2 : k < 2305843009213688669
    · have d2 : decide (k < 2305843009213688669) = true := decide_eq_true c2
      have R := Lib.hid (sc_mid c1 c2)
      go_enter Tryd.func55, Tryd.ntmps55
      go_wp2_with fail
      go_ret
      exact ⟨by rw [R.out]; rfl, rfl⟩
    · have d2 : decide (k < 2305843009213688669) = false := decide_eq_false c2
      have R := Lib.hid (sc_high (a := k) (by omega))
      go_enter Tryd.func55, Tryd.ntmps55
      go_wp2_with fail
      go_ret
      exact ⟨by rw [R.out]; rfl, rfl⟩
  · have d1 : decide (0 ≤ k) = false := decide_eq_false c1
    have R := Lib.hid (sc_low (a := k) (by omega))
    go_enter Tryd.func55, Tryd.ntmps55
    go_wp2_with fail
    go_ret
    exact ⟨by rw [R.out]; rfl, rfl⟩
theorem sumV_mod {x y : Nat} (hx : x < 2305843009213688669) (hy : y < 2305843009213688669) : sumV x y = (addM x y 2305843009213688669 : Int) ∧ sumE x y = 0 := by
  have h1 := sc_mid (a := (x : Int)) (by omega) (by omega)
  have h2 := sc_mid (a := (y : Int)) (by omega) (by omega)
  refine ⟨?_, by simp [sumE, h1, h2]⟩
  simp only [sumV, h1, h2, Bool.and_self, if_true, addM]; omega
theorem prodV_mod {x y : Nat} (hx : x < 2305843009213688669) (hy : y < 2305843009213688669) : prodV x y = (mulM x y 2305843009213688669 : Int) := by
  have h1 := sc_mid (a := (x : Int)) (by omega) (by omega)
  have h2 := sc_mid (a := (y : Int)) (by omega) (by omega)
  simp only [prodV, h1, h2, Bool.and_self, if_true, mulM]; omega
set_option maxRecDepth 100000 in
set_option maxHeartbeats 1000000 in
theorem rSum_any (a b : Int) (w : World) :
    Calls Tryd.prog 41 #[.int .i64 a, .int .i64 b] w fun e w' => e = .returned (.tuple #[.int .i64 (sumV a b), .int .i64 (sumE a b)]) ∧ w = w' := by
  by_cases c1 : sc a = true
  · have C1 := Lib.hid c1
    by_cases c2 : sc b = true
    · have C2 := Lib.hid c2
      obtain ⟨m1, m2⟩ := sc_bounds c1
      obtain ⟨m3, m4⟩ := sc_bounds c2
      obtain ⟨x, rfl⟩ := Int.eq_ofNat_of_zero_le m1
      obtain ⟨y, rfl⟩ := Int.eq_ofNat_of_zero_le m3
      have R := Lib.hid (sumV_mod (x := x) (y := y) (by omega) (by omega))
      clear c1 c2
      go_enter Tryd.func41, Tryd.ntmps41
      go_wp2_with fail
      refine (rscalar_any _ _).mono ?_
      rintro e w' ⟨rfl, rfl⟩
      rw [C1.out]
      go_wp2_with fail
      refine (rscalar_any _ _).mono ?_
      rintro e w' ⟨rfl, rfl⟩
      rw [C2.out]
      go_wp2_with fail
      refine (rsum_any x y 2305843009213688669 _ (by omega) (by omega) (by omega)).mono ?_
      rintro e w' ⟨rfl, rfl⟩
      go_wp2_with fail
      go_ret2
      exact ⟨by rw [R.out.1, R.out.2]; rfl, rfl⟩
    · have c2' : sc b = false := by simpa using c2
      have R : Hid (sumV a b = 0 ∧ sumE a b = 1) := Lib.hid (by simp [sumV, sumE, c2'])
      have C2 := Lib.hid c2'
      clear c1 c2 c2'
      go_enter Tryd.func41, Tryd.ntmps41
      go_wp2_with fail
      refine (rscalar_any _ _).mono ?_
      rintro e w' ⟨rfl, rfl⟩
      rw [C1.out]
      go_wp2_with fail
      refine (rscalar_any _ _).mono ?_
      rintro e w' ⟨rfl, rfl⟩
      rw [C2.out]
      go_wp2_with fail
      go_ret2
      exact ⟨by rw [R.out.1, R.out.2]; rfl, rfl⟩
  · have c1' : sc a = false := by simpa using c1
    have R : Hid (sumV a b = 0 ∧ sumE a b = 1) := Lib.hid (by simp [sumV, sumE, c1'])
    have C1 := Lib.hid c1'
    clear c1 c1'
    go_enter Tryd.func41, Tryd.ntmps41
    go_wp2_with fail
    refine (rscalar_any _ _).mono ?_
    rintro e w' ⟨rfl, rfl⟩
    rw [C1.out]
    go_wp2_with fail
    go_ret2
    exact ⟨by rw [R.out.1, R.out.2]; rfl, rfl⟩
set_option maxRecDepth 100000 in
set_option maxHeartbeats 1000000 in
theorem rProduct_any (a b : Int) (w : World) :
    Calls Tryd.prog 39 #[.int .i64 a, .int .i64 b] w fun e w' => e = .returned (.tuple #[.int .i64 (prodV a b), .int .i64 (sumE a b)]) ∧ w = w' := by
  by_cases c1 : sc a = true
  · have C1 := Lib.hid c1
    by_cases c2 : sc b = true
    · have C2 := Lib.hid c2
      obtain ⟨m1, m2⟩ := sc_bounds c1
      obtain ⟨m3, m4⟩ := sc_bounds c2
      obtain ⟨x, rfl⟩ := Int.eq_ofNat_of_zero_le m1
      obtain ⟨y, rfl⟩ := Int.eq_ofNat_of_zero_le m3
      have R := Lib.hid (And.intro (prodV_mod (x := x) (y := y) (by omega) (by omega)) (sumV_mod (x := x) (y := y) (by omega) (by omega)).2)
      clear c1 c2
      go_enter Tryd.func39, Tryd.ntmps39
      go_wp2_with fail
      refine (rscalar_any _ _).mono ?_
      rintro e w' ⟨rfl, rfl⟩
      rw [C1.out]
      go_wp2_with fail
      refine (rscalar_any _ _).mono ?_
      rintro e w' ⟨rfl, rfl⟩
      rw [C2.out]
      go_wp2_with fail
      refine (modular_any x y 2305843009213688669 _ (by omega) (by omega) (by omega)).mono ?_
      rintro e w' ⟨rfl, rfl⟩
      go_wp2_with fail
      go_ret2
      exact ⟨by rw [R.out.1, R.out.2]; rfl, rfl⟩
    · have c2' : sc b = false := by simpa using c2
      have R : Hid (prodV a b = 0 ∧ sumE a b = 1) := Lib.hid (by simp [prodV, sumE, c2'])
      have C2 := Lib.hid c2'
      clear c1 c2 c2'
      go_enter Tryd.func39, Tryd.ntmps39
      go_wp2_with fail
      refine (rscalar_any _ _).mono ?_
      rintro e w' ⟨rfl, rfl⟩
      rw [C1.out]
      go_wp2_with fail
      refine (rscalar_any _ _).mono ?_
      rintro e w' ⟨rfl, rfl⟩
      rw [C2.out]
      go_wp2_with fail
      go_ret2
      exact ⟨by rw [R.out.1, R.out.2]; rfl, rfl⟩
  · have c1' : sc a = false := by simpa using c1
    have R : Hid (prodV a b = 0 ∧ sumE a b = 1) := Lib.hid (by simp [prodV, sumE, c1'])
    have C1 := Lib.hid c1'
    clear c1 c1'
    go_enter Tryd.func39, Tryd.ntmps39
    go_wp2_with fail
    refine (rscalar_any _ _).mono ?_
    rintro e w' ⟨rfl, rfl⟩
    rw [C1.out]
    go_wp2_with fail
    go_ret2
    exact ⟨by rw [R.out.1, R.out.2]; rfl, rfl⟩
end Go.Proofs.YtcgpanjagkblmaaDoor
