/- Plain arithmetic, no program in sight: one digit of the school division of two words by one, and the shifts around it (math/bits.Div64). -/
import Derived.Laws.Bits64b
import Derived.Lib.BitFns
namespace Go.Proofs.SzDiv
set_option linter.unusedVariables false
/-- the quotient digit, never more than the first guess -/
theorem guess (a b u d : Nat) (ha : 0 < a) (hd : d < 4294967296) : (u * 4294967296 + d) / (a * 4294967296 + b) ≤ u / a := by
  rw [Nat.le_div_iff_mul_le ha]
  have h := Nat.div_mul_le_self (u * 4294967296 + d) (a * 4294967296 + b)
  generalize (u * 4294967296 + d) / (a * 4294967296 + b) = t at *
  rw [Nat.mul_add, ← Nat.mul_assoc] at h
  generalize t * a = x at *
  omega
theorem digit_lt (y u d : Nat) (hu : u < y) (hd : d < 4294967296) : (u * 4294967296 + d) / y < 4294967296 := by
  rw [Nat.div_lt_iff_lt_mul (by omega)]
  omega
theorem prod_eq (q a b : Nat) : q * (a * 4294967296 + b) = (q * a) * 4294967296 + q * b := by rw [Nat.mul_add, Nat.mul_assoc]
/-- a round of the loop: the guess was too great -/
theorem step (a b u d q r : Nat) (ha : 0 < a) (hu : u < a * 4294967296 + b) (hd : d < 4294967296) (hq : q * a + r = u)
    (ht : (u * 4294967296 + d) / (a * 4294967296 + b) ≤ q) (hc : 4294967296 ≤ q ∨ 4294967296 * r + d < q * b) :
    1 ≤ q ∧ (u * 4294967296 + d) / (a * 4294967296 + b) ≤ q - 1 ∧ (q - 1) * a + (r + a) = u := by
  have hlt : (u * 4294967296 + d) / (a * 4294967296 + b) < q := by
    rcases hc with hc | hc
    · exact Nat.lt_of_lt_of_le (digit_lt _ _ _ hu hd) hc
    · rw [Nat.div_lt_iff_lt_mul (by omega), prod_eq]
      generalize q * a = x at *
      omega
  have h1 : 1 ≤ q := Nat.lt_of_le_of_lt (Nat.zero_le _) hlt
  refine ⟨h1, Nat.le_sub_one_of_lt hlt, ?_⟩
  clear ht hlt hc
  obtain ⟨p, rfl⟩ : ∃ p, q = p + 1 := ⟨q - 1, by omega⟩
  rw [Nat.add_mul] at hq
  simp only [Nat.add_sub_cancel]
  omega
/-- the loop's test fails: the guess is the digit -/
theorem done (a b u d q r : Nat) (ha : 0 < a) (hq : q * a + r = u) (ht : (u * 4294967296 + d) / (a * 4294967296 + b) ≤ q) (hc : q * b ≤ 4294967296 * r + d) :
    q = (u * 4294967296 + d) / (a * 4294967296 + b) := by
  refine Nat.le_antisymm ?_ ht
  rw [Nat.le_div_iff_mul_le (by omega), prod_eq]
  generalize q * a = x at *
  omega
/-- the loop is left because the rest is great -/
theorem left (a b u d q r : Nat) (ha : 0 < a) (hb : b < 4294967296) (hu : u < a * 4294967296 + b) (hq : q * a + r = u) (ht : (u * 4294967296 + d) / (a * 4294967296 + b) ≤ q) (hr : 4294967296 ≤ r) :
    q = (u * 4294967296 + d) / (a * 4294967296 + b) := by
  have hq' : q < 4294967296 := by
    rcases Nat.lt_or_ge q 4294967296 with h | h
    · exact h
    · exfalso
      have := Nat.mul_le_mul_right a h
      rw [Nat.mul_comm 4294967296 a] at this
      omega
  refine done a b u d q r ha hq ht ?_
  have := Nat.mul_le_mul (Nat.le_of_lt hq') (Nat.le_of_lt hb)
  omega
theorem wrapN (a : Nat) (h : a < 18446744073709551616) : IntKind.u64.wrap (a : Int) = (a : Int) := by rw [IntKind.wrap_u64]; omega
/-- the rest after a digit, whatever wrapped on the way -/
theorem rest (y u d q : Nat) (hy : 0 < y) (hy' : y < 18446744073709551616) (hq : q = (u * 4294967296 + d) / y) :
    IntKind.u64.wrap (IntKind.u64.wrap (IntKind.u64.wrap ((u : Int) * 4294967296) + (d : Int)) - IntKind.u64.wrap ((q : Int) * (y : Int))) = (((u * 4294967296 + d) % y : Nat) : Int) := by
  have h := Nat.div_add_mod (u * 4294967296 + d) y
  have hl := Nat.mod_lt (u * 4294967296 + d) hy
  rw [← hq] at h
  generalize (u * 4294967296 + d) % y = m at *
  simp only [IntKind.wrap_u64]
  have h' : ((y * q : Nat) : Int) + (m : Int) = (u : Int) * 4294967296 + (d : Int) := by generalize y * q = z at *; omega
  rw [show (q : Int) * (y : Int) = ((y * q : Nat) : Int) by rw [Nat.mul_comm, Int.natCast_mul]]
  generalize ((y * q : Nat) : Int) = x at *
  omega
theorem twoB (B y u d1 d0 : Nat) (hy : 0 < y) :
    (u * (B * B) + (d1 * B + d0)) / y = (u * B + d1) / y * B + ((u * B + d1) % y * B + d0) / y ∧
    (u * (B * B) + (d1 * B + d0)) % y = ((u * B + d1) % y * B + d0) % y := by
  have e : u * (B * B) + (d1 * B + d0) = (u * B + d1) * B + d0 := by rw [Nat.add_mul, Nat.mul_assoc]; omega
  rw [e]
  have h := Nat.div_add_mod (u * B + d1) y
  generalize (u * B + d1) / y = q at *
  generalize (u * B + d1) % y = m at *
  have e2 : (u * B + d1) * B + d0 = (m * B + d0) + y * (q * B) := by
    rw [← Nat.mul_assoc, ← h, Nat.add_mul]; omega
  rw [e2]
  exact ⟨by rw [Nat.add_mul_div_left _ _ hy]; omega, by rw [Nat.add_mul_mod_self_left]⟩
theorem two (y u d1 d0 : Nat) (hy : 0 < y) :
    (u * 18446744073709551616 + (d1 * 4294967296 + d0)) / y = (u * 4294967296 + d1) / y * 4294967296 + ((u * 4294967296 + d1) % y * 4294967296 + d0) / y ∧
    (u * 18446744073709551616 + (d1 * 4294967296 + d0)) % y = ((u * 4294967296 + d1) % y * 4294967296 + d0) % y :=
  twoB 4294967296 y u d1 d0 hy
/-- what is divided, shifted -/
theorem shiftedW (W A B hi lo : Nat) (hW : W = A * B) (hB : 0 < B) :
    (hi * B + lo / A) * W + lo * B % W = (hi * W + lo) * B := by
  have e : lo * B / W = lo / A := by rw [hW, Nat.mul_div_mul_right _ _ hB]
  have h := Nat.div_add_mod (lo * B) W
  rw [e, Nat.mul_comm] at h
  have : hi * B * W = hi * W * B := by rw [Nat.mul_assoc, Nat.mul_assoc, Nat.mul_comm B]
  rw [Nat.add_mul, Nat.add_mul, Nat.add_assoc, h, this]
theorem shifted (hi lo s : Nat) (hs : s ≤ 63) :
    (hi * 2 ^ s + lo / 2 ^ (64 - s)) * 18446744073709551616 + lo * 2 ^ s % 18446744073709551616 = (hi * 18446744073709551616 + lo) * 2 ^ s :=
  shiftedW 18446744073709551616 (2 ^ (64 - s)) (2 ^ s) hi lo (by rw [← Nat.pow_add, show 64 - s + s = 64 by omega]) (Nat.two_pow_pos s)
theorem unshift (n y s : Nat) : n * 2 ^ s / (y * 2 ^ s) = n / y ∧ n * 2 ^ s % (y * 2 ^ s) / 2 ^ s = n % y := by
  have := Nat.two_pow_pos s
  refine ⟨Nat.mul_div_mul_right _ _ this, ?_⟩
  rw [Nat.mul_mod_mul_right, Nat.mul_div_cancel _ this]
/-- the shift makes the greatest bit 1 -/
theorem norm : ∀ (k y : Nat), 0 < y → y < 2 ^ k → k ≤ 64 → Lib.bitLen y ≤ k ∧ 2 ^ Lib.bitLen y ≤ 2 * y ∧ y < 2 ^ Lib.bitLen y
  | 0, y, h0, h1, _ => by simp at h1; omega
  | k + 1, y, h0, h1, hk => by
    have h64 : y < 2 ^ 64 := Nat.lt_of_lt_of_le h1 (Nat.pow_le_pow_right (by omega) hk)
    rw [Lib.bitLen_half y (by omega) h64]
    by_cases hy : y / 2 = 0
    · have : y = 1 := by omega
      subst this
      have e : Lib.bitLen (1 / 2) = 0 := by decide
      rw [e]
      exact ⟨by omega, by decide, by decide⟩
    · obtain ⟨a, b, c⟩ := norm k (y / 2) (by omega) (by rw [Nat.pow_succ] at h1; omega) (by omega)
      rw [Nat.add_comm 1, Nat.pow_succ]
      exact ⟨by omega, by omega, by omega⟩
/-- the numbers of a division of two words by one: the shift, the divisor shifted and its halves, what is divided shifted -/
theorem parts (hi lo y : Nat) (h1 : hi < y) (h2 : y < 18446744073709551616) (h3 : lo < 18446744073709551616) :
    ∃ s yn a b u v : Nat, Lib.bitLen y ≤ 64 ∧ Lib.bitLen y + s = 64 ∧ s ≤ 63 ∧ 2147483648 ≤ a ∧ a < 4294967296 ∧ b < 4294967296 ∧ yn = a * 4294967296 + b ∧ yn < 18446744073709551616 ∧ u < yn ∧ v < 18446744073709551616 ∧
      IntKind.u64.wrap ((y : Int) * 2 ^ s) = (yn : Int) ∧ (yn : Int) / 4294967296 = (a : Int) ∧ bits .and .u64 (yn : Int) 4294967295 = (b : Int) ∧
      bits .or .u64 (IntKind.u64.wrap ((hi : Int) * 2 ^ s)) ((lo : Int) / 2 ^ (64 - s)) = (u : Int) ∧ IntKind.u64.wrap ((lo : Int) * 2 ^ s) = (v : Int) ∧
      (u * 18446744073709551616 + v) / yn = (hi * 18446744073709551616 + lo) / y ∧ (u * 18446744073709551616 + v) % yn / 2 ^ s = (hi * 18446744073709551616 + lo) % y := by
  obtain ⟨n1, n2, n3⟩ := norm 64 y (by omega) h2 (by omega)
  obtain ⟨s, hs⟩ : ∃ s, Lib.bitLen y + s = 64 := ⟨64 - Lib.bitLen y, by omega⟩
  generalize Lib.bitLen y = l at *
  have hl : 0 < l := by
    rcases Nat.eq_zero_or_pos l with h | h
    · subst h; simp at n3; omega
    · exact h
  have p64 : 2 ^ l * 2 ^ s = 18446744073709551616 := by rw [← Nat.pow_add, hs]
  have ps : 0 < 2 ^ s := Nat.two_pow_pos s
  have hyn1 : y * 2 ^ s < 18446744073709551616 := by rw [← p64]; exact Nat.mul_lt_mul_of_pos_right n3 ps
  have hyn2 : 18446744073709551616 ≤ 2 * (y * 2 ^ s) := by rw [← p64, ← Nat.mul_assoc]; exact Nat.mul_le_mul_right _ n2
  have hhs : (hi + 1) * 2 ^ s ≤ y * 2 ^ s := Nat.mul_le_mul_right _ h1
  rw [Nat.add_mul, Nat.one_mul] at hhs
  have hlo : lo / 2 ^ (64 - s) < 2 ^ s := by
    rw [Nat.div_lt_iff_lt_mul (Nat.two_pow_pos _), ← Nat.pow_add, show s + (64 - s) = 64 by omega]; exact h3
  have hsh := shifted hi lo s (by omega)
  have hun := unshift (hi * 18446744073709551616 + lo) y s
  refine ⟨s, y * 2 ^ s, y * 2 ^ s / 4294967296, y * 2 ^ s % 4294967296, hi * 2 ^ s + lo / 2 ^ (64 - s), lo * 2 ^ s % 18446744073709551616, n1, hs, by omega, by omega, by omega, by omega, by omega, hyn1, by omega, by omega, ?_, by omega, ?_, ?_, ?_, ?_, ?_⟩
  · rw [← wrapN _ hyn1]; simp
  · have h := bits_and_u64_nat (y * 2 ^ s) 4294967295 hyn1 (by omega)
    have e : (y * 2 ^ s) &&& 4294967295 = (y * 2 ^ s) % 4294967296 := Nat.and_two_pow_sub_one_eq_mod (y * 2 ^ s) 32
    rw [e] at h
    exact h
  · have e1 : IntKind.u64.wrap ((hi : Int) * 2 ^ s) = ((hi * 2 ^ s : Nat) : Int) := by rw [← wrapN (hi * 2 ^ s) (by omega)]; simp
    have e2 : (lo : Int) / 2 ^ (64 - s) = ((lo / 2 ^ (64 - s) : Nat) : Int) := by simp
    rw [e1, e2, bits_or_u64_nat _ _ (by omega) (by omega)]
    rw [Nat.mul_comm hi, ← Nat.two_pow_add_eq_or_of_lt hlo]
  · rw [show (lo : Int) * 2 ^ s = ((lo * 2 ^ s : Nat) : Int) by simp, IntKind.wrap_u64]; omega
  · rw [hsh, hun.1]
  · rw [hsh, hun.2]
theorem first (a u : Nat) (ha : 0 < a) (hu : u < 18446744073709551616) : ∃ q r : Nat, IntKind.u64.wrap ((u : Int) / (a : Int)) = (q : Int) ∧ IntKind.u64.wrap ((u : Int) - IntKind.u64.wrap ((q : Int) * (a : Int))) = (r : Int) ∧ q * a + r = u ∧ r < a ∧ q = u / a := by
  have h := Nat.div_add_mod u a
  have hl := Nat.mod_lt u ha
  have hd := Nat.div_le_self u a
  refine ⟨u / a, u % a, ?_, ?_, by rw [Nat.mul_comm]; exact h, hl, rfl⟩
  · rw [← Int.natCast_ediv]; exact wrapN _ (by omega)
  · rw [← Int.natCast_mul, Nat.mul_comm]
    generalize u % a = m at *
    generalize a * (u / a) = z at *
    rw [wrapN _ (by omega), show (u : Int) - (z : Int) = (m : Int) by omega]
    exact wrapN _ (by omega)
theorem low (v : Nat) (hv : v < 18446744073709551616) : ∃ d1 d0 : Nat, (v : Int) / 4294967296 = (d1 : Int) ∧ bits .and .u64 (v : Int) 4294967295 = (d0 : Int) ∧ v = d1 * 4294967296 + d0 ∧ d1 < 4294967296 ∧ d0 < 4294967296 := by
  refine ⟨v / 4294967296, v % 4294967296, by omega, ?_, by omega, by omega, by omega⟩
  have h := bits_and_u64_nat v 4294967295 hv (by omega)
  have e : v &&& 4294967295 = v % 4294967296 := Nat.and_two_pow_sub_one_eq_mod v 32
  rw [e] at h
  exact h
theorem small (q b : Nat) (hq : q < 4294967296) (hb : b < 4294967296) : ∃ p : Nat, (q : Int) * (b : Int) = (p : Int) ∧ p ≤ 18446744073709551615 ∧ p = q * b := by
  have := Nat.mul_le_mul (Nat.le_of_lt_succ hq) (Nat.le_of_lt_succ hb)
  exact ⟨q * b, by rw [Int.natCast_mul], by omega, rfl⟩
/-- what is returned -/
theorem final (q1 q0 : Nat) (hq1 : q1 < 4294967296) (hq0 : q0 < 4294967296) : IntKind.u64.wrap (IntKind.u64.wrap ((q1 : Int) * 4294967296) + (q0 : Int)) = ((q1 * 4294967296 + q0 : Nat) : Int) := by
  rw [show (q1 : Int) * 4294967296 = ((q1 * 4294967296 : Nat) : Int) by omega, wrapN _ (by omega), show ((q1 * 4294967296 : Nat) : Int) + (q0 : Int) = ((q1 * 4294967296 + q0 : Nat) : Int) by omega, wrapN _ (by omega)]
end Go.Proofs.SzDiv
