/- sizar/group: Mul, Exp, Inv, Base, Sum, Product: each returns what its plain function says; what was in memory stays. -/
import Derived.Test.YtcgpanjagkblmaaDoorCheck
namespace Go.Proofs.YtcgpanjagkblmaaDoor
open Go.RowKit SzGrp SzPow
theorem scalars1 (k : Int) (b : Nat) (w : World) (h : w.cell? ⟨b, 0, none⟩ = some (.int .i64 k)) :
    Calls Tryd.prog 47 #[.slice (some ⟨b, 0, none⟩) 1 1] w fun e w' => e = .returned (.bool (sc k)) ∧ w = w' :=
  (scalars_any [k] b w (by simp) (Lib.hid fun i hi => by
    have : i = 0 := by simp at hi; omega
    subst this; simpa using h)).mono fun _ _ h => by simpa using h
theorem scalars2 (x y : Int) (b : Nat) (w : World) (h0 : w.cell? ⟨b, 0, none⟩ = some (.int .i64 x)) (h1 : w.cell? ⟨b, 1, none⟩ = some (.int .i64 y)) :
    Calls Tryd.prog 47 #[.slice (some ⟨b, 0, none⟩) 2 2] w fun e w' => e = .returned (.bool (sc x && sc y)) ∧ w = w' :=
  (scalars_any [x, y] b w (by simp) (Lib.hid fun i hi => by
    have : i = 0 ∨ i = 1 := by simp at hi; omega
    rcases this with rfl | rfl
    · simpa using h0
    · simpa using h1)).mono fun _ _ h => by simpa using h
set_option maxRecDepth 100000 in
set_option maxHeartbeats 1000000 in
theorem exp_any (a k : Int) (w : World) (h1 : -9223372036854775808 ≤ a) (h2 : a ≤ 9223372036854775807) (h3 : -9223372036854775808 ≤ k) (h4 : k ≤ 9223372036854775807) :
    Calls Tryd.prog 23 #[.int .i64 a, .int .i64 k] w fun e w' => e = .returned (.tuple #[.int .i64 (expV a k), .int .i64 (expE a k)]) ∧ Below w.heap.size w w' := by
  by_cases c1 : isE a = true
  · have hz := (ck_zero a).2 c1
    obtain ⟨n1, n2⟩ := isE_bounds c1
    have HZ := Lib.hid hz
    by_cases c2 : sc k = true
    · obtain ⟨m1, m2⟩ := sc_bounds c2
      obtain ⟨n, rfl⟩ := Int.eq_ofNat_of_zero_le (show 0 ≤ a by omega)
      obtain ⟨m, rfl⟩ := Int.eq_ofNat_of_zero_le m1
      have R : Hid (expV n m = (powP n m : Int) ∧ expE n m = 0) := Lib.hid (by simp [expV, expE, c1, c2])
      have hp := powP_lt n m
      have C2 := Lib.hid c2
      clear c1 c2 hz
      go_enter Tryd.func23, Tryd.ntmps23
      go_wp2_with fail
      refine (check_any _ _ h1 h2).mono ?_
      rintro e w1 ⟨rfl, hb1⟩
      rw [HZ.out]
      go_wp2_with fail
      refine (scalars1 (m : Int) w1.heap.size _ (by simp)).mono ?_
      rintro e w2 ⟨rfl, rfl⟩
      rw [C2.out]
      go_wp2_with fail
      refine (power_any n m _ (by omega) (by omega)).mono ?_
      rintro e w2 ⟨rfl, hb2⟩
      go_wp2_with fail
      go_ret2
      refine ⟨by rw [R.out.1, R.out.2]; rfl, ?_⟩
      exact (hb1.alloc hb1.size _).trans (hb2.mono (Nat.le_trans hb1.size (by simp)))
    · have c2' : sc k = false := by simpa using c2
      have R : Hid (expV a k = 0 ∧ expE a k = 1) := Lib.hid (by simp [expV, expE, c1, c2'])
      have C2 := Lib.hid c2'
      clear c1 c2 c2' hz
      go_enter Tryd.func23, Tryd.ntmps23
      go_wp2_with fail
      refine (check_any _ _ h1 h2).mono ?_
      rintro e w1 ⟨rfl, hb1⟩
      rw [HZ.out]
      go_wp2_with fail
      refine (scalars1 k w1.heap.size _ (by simp)).mono ?_
      rintro e w2 ⟨rfl, rfl⟩
      rw [C2.out]
      go_wp2_with fail
      go_ret2
      exact ⟨by rw [R.out.1, R.out.2]; rfl, hb1.alloc hb1.size _⟩
  · have c1' : isE a = false := by simpa using c1
    have HZ : Hid (ck a = 30) := Lib.hid (by simp [ck, c1'])
    have R : Hid (expV a k = 0 ∧ expE a k = 30) := Lib.hid (by simp [expV, expE, c1'])
    clear c1 c1'
    go_enter Tryd.func23, Tryd.ntmps23
    go_wp2_with fail
    refine (check_any _ _ h1 h2).mono ?_
    rintro e w1 ⟨rfl, hb1⟩
    rw [HZ.out]
    go_wp2_with fail
    go_ret2
    exact ⟨by rw [R.out.1, R.out.2]; rfl, hb1⟩
theorem inv_any (a : Int) (w : World) (h1 : -9223372036854775808 ≤ a) (h2 : a ≤ 9223372036854775807) :
    Calls Tryd.prog 30 #[.int .i64 a] w fun e w' => e = .returned (.tuple #[.int .i64 (expV a 2305843009213688668), .int .i64 (expE a 2305843009213688668)]) ∧ Below w.heap.size w w' := by
  go_enter Tryd.func30, Tryd.ntmps30
  go_wp2_with fail
  refine (exp_any a 2305843009213688668 _ h1 h2 (by omega) (by omega)).mono ?_
  rintro e w1 ⟨rfl, hb1⟩
  go_wp2_with fail
  go_ret2
  exact ⟨rfl, hb1⟩
theorem base_any (k : Int) (w : World) (h1 : -9223372036854775808 ≤ k) (h2 : k ≤ 9223372036854775807) :
    Calls Tryd.prog 22 #[.int .i64 k] w fun e w' => e = .returned (.tuple #[.int .i64 (expV 4 k), .int .i64 (expE 4 k)]) ∧ Below w.heap.size w w' := by
  go_enter Tryd.func22, Tryd.ntmps22
  go_wp2_with fail
  refine (exp_any 4 k _ (by omega) (by omega) h1 h2).mono ?_
  rintro e w1 ⟨rfl, hb1⟩
  go_wp2_with fail
  go_ret2
  exact ⟨rfl, hb1⟩
set_option maxRecDepth 100000 in
set_option maxHeartbeats 1000000 in
theorem sum_any (a b : Int) (w : World) :
    Calls Tryd.prog 36 #[.int .i64 a, .int .i64 b] w fun e w' => e = .returned (.tuple #[.int .i64 (sumV a b), .int .i64 (sumE a b)]) ∧ Below w.heap.size w w' := by
  by_cases c1 : (sc a && sc b) = true
  · have C := c1
    simp only [Bool.and_eq_true] at C
    obtain ⟨m1, m2⟩ := sc_bounds C.1
    obtain ⟨m3, m4⟩ := sc_bounds C.2
    have R : Hid (sumV a b = (a + b) % 2305843009213688669 ∧ sumE a b = 0) := Lib.hid (by simp [sumV, sumE, C.1, C.2])
    have C1 := Lib.hid c1
    clear C c1
    go_enter Tryd.func36, Tryd.ntmps36
    go_wp2_with fail
    refine (scalars2 a b w.heap.size _ (by simp) (by simp)).mono ?_
    rintro e w2 ⟨rfl, rfl⟩
    rw [C1.out]
    go_wp2_with fail
    go_ret2
    exact ⟨by rw [R.out.1, R.out.2]; rfl, (Below.refl _ _).alloc (Nat.le_refl _) _⟩
  · have c1' : (sc a && sc b) = false := by simpa using c1
    have R : Hid (sumV a b = 0 ∧ sumE a b = 1) := Lib.hid (by unfold sumV sumE; rw [c1']; exact ⟨rfl, rfl⟩)
    have C1 := Lib.hid c1'
    clear c1 c1'
    go_enter Tryd.func36, Tryd.ntmps36
    go_wp2_with fail
    refine (scalars2 a b w.heap.size _ (by simp) (by simp)).mono ?_
    rintro e w2 ⟨rfl, rfl⟩
    rw [C1.out]
    go_wp2_with fail
    go_ret2
    exact ⟨by rw [R.out.1, R.out.2]; rfl, (Below.refl _ _).alloc (Nat.le_refl _) _⟩
set_option maxRecDepth 100000 in
set_option maxHeartbeats 1000000 in
theorem product_any (a b : Int) (w : World) :
    Calls Tryd.prog 26 #[.int .i64 a, .int .i64 b] w fun e w' => e = .returned (.tuple #[.int .i64 (prodV a b), .int .i64 (sumE a b)]) ∧ Below w.heap.size w w' := by
  by_cases c1 : (sc a && sc b) = true
  · have C := c1
    simp only [Bool.and_eq_true] at C
    obtain ⟨m1, m2⟩ := sc_bounds C.1
    obtain ⟨m3, m4⟩ := sc_bounds C.2
    obtain ⟨x, rfl⟩ := Int.eq_ofNat_of_zero_le m1
    obtain ⟨y, rfl⟩ := Int.eq_ofNat_of_zero_le m3
    obtain ⟨hi, lo, q, r, h1, h2, h3, h4, h5, h6, h7, h8⟩ := words x y 2305843009213688669 (by omega) (by omega) (by omega)
    have R : Hid (prodV x y = (r : Int) ∧ sumE x y = 0) := Lib.hid (by
      rw [h7.out]
      simp [prodV, sumE, C.1, C.2])
    have C1 := Lib.hid c1
    clear C c1
    go_enter Tryd.func26, Tryd.ntmps26
    go_wp2_with fail
    refine (scalars2 x y w.heap.size _ (by simp) (by simp)).mono ?_
    rintro e w2 ⟨rfl, rfl⟩
    rw [C1.out]
    go_wp2_with fail
    refine (mul64_any x y hi lo _ (by omega) (by omega) h1 h2).mono ?_
    rintro e w2 ⟨rfl, rfl⟩
    go_wp2_with fail
    refine (div64_rest hi lo 2305843009213688669 q r _ h3 (by omega) h4 h5 h6).mono ?_
    rintro e w2 ⟨rfl, hb⟩
    go_wp2_with fail
    go_ret2
    exact ⟨by rw [R.out.1, R.out.2]; rfl, ((Below.refl _ _).alloc (Nat.le_refl _) _).trans (hb.mono (by simp))⟩
  · have c1' : (sc a && sc b) = false := by simpa using c1
    have R : Hid (prodV a b = 0 ∧ sumE a b = 1) := Lib.hid (by unfold prodV sumE; rw [c1']; exact ⟨rfl, rfl⟩)
    have C1 := Lib.hid c1'
    clear c1 c1'
    go_enter Tryd.func26, Tryd.ntmps26
    go_wp2_with fail
    refine (scalars2 a b w.heap.size _ (by simp) (by simp)).mono ?_
    rintro e w2 ⟨rfl, rfl⟩
    rw [C1.out]
    go_wp2_with fail
    go_ret2
    exact ⟨by rw [R.out.1, R.out.2]; rfl, (Below.refl _ _).alloc (Nat.le_refl _) _⟩
theorem index0 (x y : Value) (w : World) : (Instr.index 54 (.agg #[x, y]) (.int .i64 0)).run Tryd.prog w = .ok x w := by kernel_rfl
theorem index1 (x y : Value) (w : World) : (Instr.index 54 (.agg #[x, y]) (.int .i64 1)).run Tryd.prog w = .ok y w := by kernel_rfl
set_option maxRecDepth 100000 in
set_option maxHeartbeats 1000000 in
theorem mul_any (a b : Int) (w : World) (h1 : -9223372036854775808 ≤ a) (h2 : a ≤ 9223372036854775807) (h3 : -9223372036854775808 ≤ b) (h4 : b ≤ 9223372036854775807) :
    Calls Tryd.prog 25 #[.int .i64 a, .int .i64 b] w fun e w' => e = .returned (.tuple #[.int .i64 (mulV a b), .int .i64 (mulE a b)]) ∧ Below w.heap.size w w' := by
  have i0 := index0 (.int .i64 a) (.int .i64 b)
  have i1 := index1 (.int .i64 a) (.int .i64 b)
  go_enter Tryd.func25, Tryd.ntmps25
  go_wp2_with fail
  go_loopw [12] (fun i wr => Below w.heap.size w wr ∧ (i = .int .i64 0 ∨ (i = .int .i64 1 ∧ Hid (isE a = true)) ∨ (i = .int .i64 2 ∧ Hid (isE a = true) ∧ Hid (isE b = true)))) (fun i _ => 2 - (intOf i).toNat)
  case atStart => exact ⟨Below.refl _ _, .inl rfl⟩
  case round =>
    obtain ⟨hB, hrel⟩ := hrel
    rcases hrel with rfl | ⟨rfl, ea⟩ | ⟨rfl, ea, eb⟩
    · by_cases c1 : isE a = true
      · have HZ := Lib.hid ((ck_zero a).2 c1)
        have C1 := Lib.hid c1
        clear c1
        go_wp2_with fail
        refine (check_any _ _ h1 h2).mono ?_
        rintro e w1 ⟨rfl, hb1⟩
        rw [HZ.out]
        go_wp2_with fail
        go_roundw
        case rel => exact ⟨hB.trans (hb1.mono hB.size), .inr (.inl ⟨rfl, C1⟩)⟩
        case measure => simp [intOf]
      · have c1' : isE a = false := by simpa using c1
        have HZ : Hid (ck a = 30) := Lib.hid (by simp [ck, c1'])
        have R : Hid (mulV a b = 0 ∧ mulE a b = 30) := Lib.hid (by simp [mulV, mulE, c1'])
        clear c1 c1'
        go_wp2_with fail
        refine (check_any _ _ h1 h2).mono ?_
        rintro e w1 ⟨rfl, hb1⟩
        rw [HZ.out]
        go_wp2_with fail
        go_ret2
        exact ⟨by rw [R.out.1, R.out.2]; rfl, hB.trans (hb1.mono hB.size)⟩
    · by_cases c1 : isE b = true
      · have HZ := Lib.hid ((ck_zero b).2 c1)
        have C1 := Lib.hid c1
        clear c1
        go_wp2_with fail
        refine (check_any _ _ h3 h4).mono ?_
        rintro e w1 ⟨rfl, hb1⟩
        rw [HZ.out]
        go_wp2_with fail
        go_roundw
        case rel => exact ⟨hB.trans (hb1.mono hB.size), .inr (.inr ⟨rfl, ea, C1⟩)⟩
        case measure => simp [intOf]
      · have c1' : isE b = false := by simpa using c1
        have HZ : Hid (ck b = 30) := Lib.hid (by simp [ck, c1'])
        have R : Hid (mulV a b = 0 ∧ mulE a b = 30) := Lib.hid (by simp [mulV, mulE, c1', ea.out, ck])
        clear c1 c1'
        go_wp2_with fail
        refine (check_any _ _ h3 h4).mono ?_
        rintro e w1 ⟨rfl, hb1⟩
        rw [HZ.out]
        go_wp2_with fail
        go_ret2
        exact ⟨by rw [R.out.1, R.out.2]; rfl, hB.trans (hb1.mono hB.size)⟩
    · obtain ⟨n1, n2⟩ := isE_bounds ea.out
      obtain ⟨n3, n4⟩ := isE_bounds eb.out
      obtain ⟨x, rfl⟩ := Int.eq_ofNat_of_zero_le (show 0 ≤ a by omega)
      obtain ⟨y, rfl⟩ := Int.eq_ofNat_of_zero_le (show 0 ≤ b by omega)
      have R : Hid (mulV x y = (mulP x y : Int) ∧ mulE x y = 0) := Lib.hid (by simp [mulV, mulE, ea.out, eb.out, ck])
      have hp := mulP_lt x y
      go_wp2_with fail
      refine (times_any x y _ (by omega) (by omega)).mono ?_
      rintro e w1 ⟨rfl, hb1⟩
      go_wp2_with fail
      go_ret2
      exact ⟨by rw [R.out.1, R.out.2]; rfl, hB.trans (hb1.mono hB.size)⟩
end Go.Proofs.YtcgpanjagkblmaaDoor
