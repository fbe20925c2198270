/- Plain arithmetic, no program in sight: the bits of a number from the top, and a power modulo P by squaring. -/
import Derived.Laws.Bits64b
import Derived.Lib.BitFns
import Derived.Test.YtcgpanjagkblmaaDoorDivMath
namespace Go.Proofs.SzPow
/-- the modulus of the group -/
def P : Nat := 4611686018427377339
theorem P_eq : P = 4611686018427377339 := rfl
def bitAt (k i : Nat) : Bool := k / 2 ^ i % 2 == 1
/-- the j greatest of L bits -/
def top (k L : Nat) : Nat → List Bool
  | 0 => []
  | j + 1 => top k L j ++ [bitAt k (L - 1 - j)]
theorem top_length (k L j : Nat) : (top k L j).length = j := by
  induction j with
  | zero => rfl
  | succ j ih => simp [top, ih]
/-- a product modulo P -/
def mulP (a b : Nat) : Nat := a * b % P
theorem mulP_lt (a b : Nat) : mulP a b < 4611686018427377339 := Nat.mod_lt _ (by decide)
def step (a c : Nat) (b : Bool) : Nat := if b then mulP (mulP c c) a else mulP c c
def pw (a : Nat) (l : List Bool) : Nat := l.foldl (step a) 1
theorem pw_snoc (a : Nat) (l : List Bool) (b : Bool) : pw a (l ++ [b]) = step a (pw a l) b := by simp [pw]
theorem P_pos : 0 < P := by decide
theorem step_lt (a c : Nat) (b : Bool) : step a c b < P := by
  unfold step mulP
  split
  · exact Nat.mod_lt _ P_pos
  · exact Nat.mod_lt _ P_pos
theorem pw_lt (a : Nat) (l : List Bool) : pw a l < P := by
  rcases List.eq_nil_or_concat l with rfl | ⟨l, b, rfl⟩
  · show 1 < P; decide
  · rw [List.concat_eq_append, pw_snoc]; exact step_lt _ _ _
theorem step_pow (a n : Nat) (b : Bool) : step a (a ^ n % P) b = a ^ (2 * n + if b then 1 else 0) % P := by
  have e : a ^ n % P * (a ^ n % P) % P = a ^ (2 * n) % P := by rw [← Nat.mul_mod, ← Nat.pow_add, Nat.two_mul]
  unfold step mulP
  cases b
  · simp only [Bool.false_eq_true, if_false, Nat.add_zero]; exact e
  · simp only [if_true]; rw [e, Nat.mod_mul_mod, Nat.pow_succ]
theorem pw_top (a k L : Nat) : ∀ j, j ≤ L → k < 2 ^ L → pw a (top k L j) = a ^ (k / 2 ^ (L - j)) % P
  | 0, _, hk => by rw [Nat.sub_zero, Nat.div_eq_of_lt hk, Nat.pow_zero]; show 1 = 1 % P; decide
  | j + 1, hj, hk => by
    rw [top, pw_snoc, pw_top a k L j (by omega) hk, step_pow]
    congr 2
    have e : L - j = (L - (j + 1)) + 1 := by omega
    have e' : L - 1 - j = L - (j + 1) := by omega
    rw [e, e', Nat.pow_succ, ← Nat.div_div_eq_div_mul, bitAt]
    generalize k / 2 ^ (L - (j + 1)) = z
    split <;> rename_i h <;> simp at h <;> omega
/-- a power modulo P -/
def powP (a k : Nat) : Nat := a ^ k % P
theorem powP_lt (a k : Nat) : powP a k < 4611686018427377339 := Nat.mod_lt _ (by decide)
theorem pw_all (a k : Nat) (hk : k < 18446744073709551616) : pw a (top k (Lib.bitLen k) (Lib.bitLen k)) = a ^ k % P := by
  rcases Nat.eq_zero_or_pos k with rfl | h
  · have e : Lib.bitLen 0 = 0 := by decide
    rw [e, Nat.pow_zero]; show 1 = 1 % P; decide
  · rw [pw_top a k _ _ (Nat.le_refl _) (SzDiv.norm 64 k h hk (by omega)).2.2, Nat.sub_self, Nat.pow_zero, Nat.div_one]
theorem bitLen_le (k : Nat) (hk : k < 18446744073709551616) : Lib.bitLen k ≤ 64 := by
  rcases Nat.eq_zero_or_pos k with rfl | h
  · decide
  · exact (SzDiv.norm 64 k h hk (by omega)).1
/-- a bit, as the walk spells it -/
theorem bit_walk (k i : Nat) (hk : k < 18446744073709551616) (hi : i ≤ 63) : (bits .and .u64 ((k : Int) / 2 ^ min i 64) 1 == 1) = bitAt k i := by
  have m : min i 64 = i := by omega
  have h1 : k / 2 ^ i ≤ k := Nat.div_le_self _ _
  have h := bits_and_u64_nat (k / 2 ^ i) 1 (by omega) (by omega)
  have e : (k / 2 ^ i) &&& 1 = k / 2 ^ i % 2 := Nat.and_two_pow_sub_one_eq_mod (k / 2 ^ i) 1
  rw [e] at h
  have e2 : (k : Int) / 2 ^ i = ((k / 2 ^ i : Nat) : Int) := by simp
  rw [m, e2, show (1 : Int) = ((1 : Nat) : Int) from rfl, h, bitAt, Bool.eq_iff_iff]
  simp only [beq_iff_eq]
  omega
end Go.Proofs.SzPow
