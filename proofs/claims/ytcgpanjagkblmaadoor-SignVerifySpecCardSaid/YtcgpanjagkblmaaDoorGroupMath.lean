/- The plain functions that the group's operations compute, for all integers; no program in sight. -/
import Derived.Test.YtcgpanjagkblmaaDoorPowMath
namespace Go.Proofs.SzGrp
open SzPow
/-- the order of the group -/
def Q : Nat := 2305843009213688669
theorem Q_eq : Q = 2305843009213688669 := rfl
/-- is a number an element? -/
def isE (a : Int) : Bool := decide (1 ≤ a) && decide (a < 4611686018427377339) && (powP a.toNat Q == 1)
/-- Check -/
def ck (a : Int) : Int := if isE a then 0 else 30
theorem ck_cases (a : Int) : ck a = 0 ∨ ck a = 30 := by unfold ck; split <;> simp
theorem ck_zero (a : Int) : ck a = 0 ↔ isE a = true := by unfold ck; split <;> simp_all
theorem isE_bounds {a : Int} (h : isE a = true) : 1 ≤ a ∧ a < 4611686018427377339 := by
  simp only [isE, Bool.and_eq_true, decide_eq_true_eq] at h
  exact h.1
theorem ck_low {a : Int} (h : a < 1) : ck a = 30 := by
  have : isE a = false := by simp [isE]; omega
  simp [ck, this]
theorem ck_high {a : Int} (h : 4611686018427377339 ≤ a) : ck a = 30 := by
  have h' : decide (a < 4611686018427377339) = false := decide_eq_false (by omega)
  simp [ck, isE, h']
theorem ck_mid {n : Nat} (h : 1 ≤ n) (h' : n < 4611686018427377339) : ck (n : Int) = if powP n Q = 1 then 0 else 30 := by
  have e1 : decide (1 ≤ (n : Int)) = true := decide_eq_true (by omega)
  have e2 : decide ((n : Int) < 4611686018427377339) = true := decide_eq_true (by omega)
  simp [ck, isE, e1, e2]
/-- is a number a scalar? -/
def sc (k : Int) : Bool := decide (0 ≤ k) && decide (k < 2305843009213688669)
theorem sc_bounds {a : Int} (h : sc a = true) : 0 ≤ a ∧ a < 2305843009213688669 := by
  simp only [sc, Bool.and_eq_true, decide_eq_true_eq] at h
  exact h
theorem sc_low {a : Int} (h : a < 0) : sc a = false := by simp [sc]; omega
theorem sc_high {a : Int} (h : 2305843009213688669 ≤ a) : sc a = false := by
  have h' : decide (a < 2305843009213688669) = false := decide_eq_false (by omega)
  simp [sc, h']
theorem sc_mid {a : Int} (h : 0 ≤ a) (h' : a < 2305843009213688669) : sc a = true := by
  have e1 : decide (0 ≤ a) = true := decide_eq_true h
  have e2 : decide (a < 2305843009213688669) = true := decide_eq_true h'
  simp [sc, e1, e2]
/-- Mul -/
def mulE (a b : Int) : Int := if isE a then ck b else 30
def mulV (a b : Int) : Int := if isE a && isE b then (mulP a.toNat b.toNat : Int) else 0
/-- Exp -/
def expE (a k : Int) : Int := if isE a then (if sc k then 0 else 1) else 30
def expV (a k : Int) : Int := if isE a && sc k then (powP a.toNat k.toNat : Int) else 0
/-- Sum and Product -/
def sumE (a b : Int) : Int := if sc a && sc b then 0 else 1
def sumV (a b : Int) : Int := if sc a && sc b then (a + b) % 2305843009213688669 else 0
def prodV (a b : Int) : Int := if sc a && sc b then a * b % 2305843009213688669 else 0
/-- a square modulo P -/
def sq (n : Nat) : Nat := mulP (n % 4611686018427377339) (n % 4611686018427377339)
end Go.Proofs.SzGrp
