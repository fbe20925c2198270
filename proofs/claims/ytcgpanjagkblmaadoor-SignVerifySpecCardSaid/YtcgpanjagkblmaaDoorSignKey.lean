/- sizar/sign: key.valid, key.public, Public, scalar. -/
import Derived.Test.YtcgpanjagkblmaaDoorSignHash
import Derived.Test.YtcgpanjagkblmaaDoorGroup
import Derived.Test.YtcgpanjagkblmaaDoorGroupLaw
namespace Go.Proofs.YtcgpanjagkblmaaDoor
open Go.RowKit SzSha SzGrp
set_option linter.unusedVariables false
/-- a number is a private key -/
def isKey (x : Int) : Bool := decide (1 ≤ x) && decide (x < 2305843009213688669)
theorem isKey_sc {x : Int} (h : isKey x = true) : sc x = true := by
  simp only [isKey, Bool.and_eq_true, decide_eq_true_eq] at h
  exact sc_mid (by omega) (by omega)
set_option maxRecDepth 100000 in
theorem valid_any (x : Int) (w : World) : Calls Tryd.prog 31 #[.int .i64 x] w fun e w' => e = .returned (.bool (isKey x)) ∧ w = w' := by
  by_cases c1 : 1 ≤ x
  · have d1 : decide (1 ≤ x) = true := decide_eq_true c1
    by_cases c2 : x < 2305843009213688669
    · have d2 : decide (x < 2305843009213688669) = true := decide_eq_true c2
      have R : Hid (isKey x = true) := Lib.hid (by simp only [isKey, d1, d2, Bool.and_self])
      go_enter Tryd.func31, Tryd.ntmps31
      go_wp2_with fail
      go_ret
      exact ⟨by rw [R.out]; rfl, rfl⟩
    · have d2 : decide (x < 2305843009213688669) = false := decide_eq_false c2
      have R : Hid (isKey x = false) := Lib.hid (by simp only [isKey, d1, d2, Bool.and_false])
      go_enter Tryd.func31, Tryd.ntmps31
      go_wp2_with fail
      go_ret
      exact ⟨by rw [R.out]; rfl, rfl⟩
  · have d1 : decide (1 ≤ x) = false := decide_eq_false c1
    have R : Hid (isKey x = false) := Lib.hid (by simp only [isKey, d1, Bool.false_and])
    go_enter Tryd.func31, Tryd.ntmps31
    go_wp2_with fail
    go_ret
    exact ⟨by rw [R.out]; rfl, rfl⟩
set_option maxRecDepth 100000 in
theorem public_any (x : Int) (w : World) (h1 : -9223372036854775808 ≤ x) (h2 : x ≤ 9223372036854775807) : Calls Tryd.prog 32 #[.int .i64 x] w fun e w' => e = .returned (.int .i64 (expV 4 x)) ∧ Below w.heap.size w w' := by
  go_enter Tryd.func32, Tryd.ntmps32
  go_wp2_with fail
  refine (base_any x _ h1 h2).mono ?_
  rintro e w1 ⟨rfl, hb1⟩
  go_wp2_with fail
  go_ret
  exact ⟨rfl, hb1⟩
def pubV (x : Int) : Int := if isKey x then expV 4 x else 0
def pubE (x : Int) : Int := if isKey x then 0 else 40
set_option maxRecDepth 100000 in
theorem Public_any (x : Int) (w : World) (h1 : -9223372036854775808 ≤ x) (h2 : x ≤ 9223372036854775807) : Calls Tryd.prog 13 #[.int .i64 x] w fun e w' => e = .returned (.tuple #[.int .i64 (pubV x), .int .i64 (pubE x)]) ∧ Below w.heap.size w w' := by
  by_cases c : isKey x = true
  · have C := Lib.hid c
    have R : Hid (pubV x = expV 4 x ∧ pubE x = 0) := Lib.hid ⟨by rw [pubV, if_pos c], by rw [pubE, if_pos c]⟩
    clear c
    go_enter Tryd.func13, Tryd.ntmps13
    go_wp2_with fail
    refine (valid_any x _).mono ?_
    rintro e w1 ⟨rfl, rfl⟩
    rw [C.out]
    go_wp2_with fail
    refine (public_any x _ h1 h2).mono ?_
    rintro e w1 ⟨rfl, hb1⟩
    go_wp2_with fail
    go_ret2
    exact ⟨by rw [R.out.1, R.out.2]; rfl, hb1⟩
  · have c' : isKey x = false := by simpa using c
    have C := Lib.hid c'
    have R : Hid (pubV x = 0 ∧ pubE x = 40) := Lib.hid ⟨by rw [pubV, if_neg c], by rw [pubE, if_neg c]⟩
    clear c c'
    go_enter Tryd.func13, Tryd.ntmps13
    go_wp2_with fail
    refine (valid_any x _).mono ?_
    rintro e w1 ⟨rfl, rfl⟩
    rw [C.out]
    go_wp2_with fail
    go_ret2
    exact ⟨by rw [R.out.1, R.out.2]; rfl, Below.refl _ _⟩
set_option maxRecDepth 100000 in
theorem scalarE_any (a : Int) (w : World) : Calls Tryd.prog 42 #[.int .i64 a] w fun e w' => e = .returned (.int .i64 (sumE a 0)) ∧ Below w.heap.size w w' := by
  go_enter Tryd.func42, Tryd.ntmps42
  go_wp2_with fail
  refine (sum_any a 0 _).mono ?_
  rintro e w1 ⟨rfl, hb1⟩
  go_wp2_with fail
  go_ret
  exact ⟨rfl, hb1⟩
end Go.Proofs.YtcgpanjagkblmaaDoor
