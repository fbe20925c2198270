/- Plain arithmetic of the reference of layer 3: sums and products modulo m, powers. -/
import Derived.Test.YtcgpanjagkblmaaDoorGroupMath
namespace Go.Proofs.SzRef
open SzPow
def addM (a b m : Nat) : Nat := (a + b) % m
def mulM (a b m : Nat) : Nat := a * b % m
theorem addM_lt (a b m : Nat) (h : 0 < m) : addM a b m < m := Nat.mod_lt _ h
theorem mulM_lt (a b m : Nat) (h : 0 < m) : mulM a b m < m := Nat.mod_lt _ h
theorem mulM_P (a b : Nat) : mulM a b 4611686018427377339 = mulP a b := rfl
theorem addM_ge (a b m : Nat) (ha : a < m) (hb : b < m) (h : m ≤ a + b) : addM a b m = a + b - m := by
  unfold addM
  rw [Nat.mod_eq_sub_mod h, Nat.mod_eq_of_lt (by omega)]
theorem addM_lt' (a b m : Nat) (h : a + b < m) : addM a b m = a + b := Nat.mod_eq_of_lt h
theorem mod_step (m c a h : Nat) : (c + a * (2 * h)) % m = (c + addM a a m * h) % m := by
  have e : a * (2 * h) = (a + a) * h := by rw [← Nat.mul_assoc, Nat.mul_two]
  have e2 : (a + a) % m * h % m = (a + a) * h % m := Nat.mod_mul_mod ..
  rw [e, addM, Nat.add_mod, ← e2, ← Nat.add_mod]
theorem odd_step (m c a b : Nat) (h : b % 2 = 1) : (c + a * b) % m = (addM c a m + addM a a m * (b / 2)) % m := by
  have e : b = 2 * (b / 2) + 1 := by omega
  have e1 : c + a * b = (c + a) + a * (2 * (b / 2)) := by
    conv => lhs; rw [e, Nat.mul_add, Nat.mul_one]
    omega
  rw [e1, mod_step]
  unfold addM
  rw [Nat.mod_add_mod]
theorem even_step (m c a b : Nat) (h : ¬ b % 2 = 1) : (c + a * b) % m = (c + addM a a m * (b / 2)) % m := by
  have e : b = 2 * (b / 2) := by omega
  conv => lhs; rw [e]
  exact mod_step m c a (b / 2)
theorem pow_even (c a k : Nat) (h : ¬ k % 2 = 1) : (c * a ^ k) % P = (c * (mulP a a) ^ (k / 2)) % P := by
  have e : k = 2 * (k / 2) := by omega
  conv => lhs; rw [e, Nat.pow_mul, Nat.pow_two]
  unfold mulP
  rw [Nat.mul_mod, Nat.pow_mod, Nat.mul_mod c ((a * a % P) ^ (k / 2)), Nat.pow_mod (a * a % P), Nat.mod_mod]
theorem pow_odd (c a k : Nat) (h : k % 2 = 1) : (c * a ^ k) % P = (mulP c a * (mulP a a) ^ (k / 2)) % P := by
  have e : k = 2 * (k / 2) + 1 := by omega
  have e1 : c * a ^ k = (c * a) * a ^ (2 * (k / 2)) := by
    conv => lhs; rw [e, Nat.pow_succ]
    rw [Nat.mul_assoc, Nat.mul_comm a]
  rw [e1, pow_even _ _ _ (by omega), show 2 * (k / 2) / 2 = k / 2 by omega]
  unfold mulP
  rw [Nat.mod_mul_mod]
end Go.Proofs.SzRef
