/- The plain laws of the group: elements are a commutative group, powers add and multiply their exponents, scalars are a ring, half of the numbers are elements. No program in sight. -/
import Derived.Test.YtcgpanjagkblmaaDoorPrime
import Derived.Test.YtcgpanjagkblmaaDoorSane03Math
namespace Go.Proofs.SzGrp
open SzPow SzPrm
theorem sq_lt (n : Nat) : sq n < 4611686018427377339 := mulP_lt _ _
theorem P_2Q : P - 1 = 2 * Q := by decide
theorem rP' : Root P 2 := by rw [P_eq]; exact rP
theorem fermatP (a : Nat) (h : a % P ≠ 0) : a ^ (2 * Q) % P = 1 := by rw [← P_2Q]; exact rP'.fermat a h
theorem powP_ne (k : Nat) (h : 0 < k) (e : powP 0 k = 1) : False := by
  unfold powP at e; rw [Nat.zero_pow h, Nat.zero_mod] at e; omega
theorem isE_iff (a : Nat) (h : a < P) : isE (a : Int) = true ↔ powP a Q = 1 := by
  rw [P_eq] at h
  unfold isE
  rw [show (a : Int).toNat = a from rfl]
  constructor
  · intro h; simp only [Bool.and_eq_true, beq_iff_eq] at h; exact h.2
  · intro h2
    have h0 : a ≠ 0 := fun e => powP_ne Q (by decide) (e ▸ h2)
    rw [h2]
    have e1 : decide (1 ≤ (a : Int)) = true := decide_eq_true (by omega)
    have e2 : decide ((a : Int) < 4611686018427377339) = true := decide_eq_true (by omega)
    rw [e1, e2]; rfl
theorem isE_nat {a : Int} (h : isE a = true) : ∃ n : Nat, a = n ∧ n < P ∧ 0 < n ∧ powP n Q = 1 := by
  obtain ⟨h1, h2⟩ := isE_bounds h
  obtain ⟨n, rfl⟩ := Int.eq_ofNat_of_zero_le (show 0 ≤ a by omega)
  have hp : n < P := by rw [P_eq]; omega
  exact ⟨n, rfl, hp, by omega, (isE_iff n hp).1 h⟩
theorem isE_of {n : Nat} (h : n < P) (h1 : n ^ Q % P = 1) : isE (n : Int) = true := (isE_iff n h).2 h1
theorem one_lt_P : 1 < P := by decide
theorem isE_sq (n : Nat) (h : sq n ≠ 0) : isE (sq n : Int) = true := by
  refine isE_of (by rw [P_eq]; exact sq_lt n) ?_
  have h' : n % P ≠ 0 := by
    intro e; apply h; unfold sq; rw [← P_eq, e]; rfl
  unfold sq mulP
  rw [← P_eq, ← Nat.pow_mod, ← Nat.pow_two, ← Nat.pow_mul]
  exact fermatP _ (by rw [Nat.mod_mod]; exact h')
theorem sq_ne (n : Nat) (h : n % 4611686018427377339 ≠ 0) : sq n ≠ 0 := by
  rw [← P_eq] at h
  intro e
  have : (n % P) ^ (2 * Q) % P = 0 := by
    rw [Nat.pow_mul, Nat.pow_two, Nat.pow_mod]
    unfold sq mulP at e
    rw [← P_eq] at e
    rw [e, Nat.zero_pow (by decide), Nat.zero_mod]
  rw [fermatP _ (by rw [Nat.mod_mod]; exact h)] at this
  omega
theorem mulV_nat {a b : Nat} (ha : isE (a : Int) = true) (hb : isE (b : Int) = true) : mulV a b = (mulP a b : Int) := by simp [mulV, ha, hb]
theorem expV_nat {a k : Nat} (ha : isE (a : Int) = true) (hk : sc (k : Int) = true) : expV a k = (powP a k : Int) := by simp [expV, ha, hk]
theorem isE_mulP {a b : Nat} (ha : powP a Q = 1) (hb : powP b Q = 1) : isE (mulP a b : Int) = true := by
  refine isE_of (Nat.mod_lt _ (by decide)) ?_
  unfold powP at ha hb
  unfold mulP
  rw [← Nat.pow_mod, Nat.mul_pow, Nat.mul_mod, ha, hb]; exact Nat.mod_eq_of_lt one_lt_P
theorem isE_powP {a : Nat} (k : Nat) (ha : powP a Q = 1) : isE (powP a k : Int) = true := by
  refine isE_of (Nat.mod_lt _ (by decide)) ?_
  unfold powP at ha ⊢
  rw [← Nat.pow_mod, ← Nat.pow_mul, Nat.mul_comm, Nat.pow_mul, Nat.pow_mod, ha, Nat.one_pow]; exact Nat.mod_eq_of_lt one_lt_P
theorem isE_mul {a b : Int} (ha : isE a = true) (hb : isE b = true) : isE (mulV a b) = true := by
  obtain ⟨x, rfl, _, _, hx⟩ := isE_nat ha
  obtain ⟨y, rfl, _, _, hy⟩ := isE_nat hb
  rw [mulV_nat ha hb]; exact isE_mulP hx hy
theorem sc_nat {k : Int} (h : sc k = true) : ∃ n : Nat, k = n ∧ n < Q := by
  obtain ⟨h1, h2⟩ := sc_bounds h
  obtain ⟨n, rfl⟩ := Int.eq_ofNat_of_zero_le h1
  exact ⟨n, rfl, by rw [Q_eq]; omega⟩
theorem sc_of {n : Nat} (h : n < Q) : sc (n : Int) = true := by rw [Q_eq] at h; exact sc_mid (by omega) (by omega)
theorem isE_exp {a k : Int} (ha : isE a = true) (hk : sc k = true) : isE (expV a k) = true := by
  obtain ⟨x, rfl, _, _, hx⟩ := isE_nat ha
  obtain ⟨y, rfl, _⟩ := sc_nat hk
  rw [expV_nat ha hk]; exact isE_powP y hx
theorem mulE_ok {a b : Int} (ha : isE a = true) (hb : isE b = true) : mulE a b = 0 := by simp [mulE, ck, ha, hb]
theorem expE_ok {a k : Int} (ha : isE a = true) (hk : sc k = true) : expE a k = 0 := by simp [expE, ha, hk]
theorem ck_ok {a : Int} (ha : isE a = true) : ck a = 0 := by simp [ck, ha]
theorem mulV_comm (a b : Int) : mulV a b = mulV b a := by unfold mulV mulP; rw [Bool.and_comm, Nat.mul_comm]
theorem mulP_assoc (a b c : Nat) : mulP (mulP a b) c = mulP a (mulP b c) := by unfold mulP; rw [Nat.mod_mul_mod, Nat.mul_mod_mod, Nat.mul_assoc]
theorem mulV_assoc {a b c : Int} (ha : isE a = true) (hb : isE b = true) (hc : isE c = true) : mulV (mulV a b) c = mulV a (mulV b c) := by
  obtain ⟨x, rfl, _, _, hx⟩ := isE_nat ha
  obtain ⟨y, rfl, _, _, hy⟩ := isE_nat hb
  obtain ⟨z, rfl, _, _, hz⟩ := isE_nat hc
  rw [mulV_nat ha hb, mulV_nat hb hc, mulV_nat (isE_mulP hx hy) hc, mulV_nat ha (isE_mulP hy hz), mulP_assoc]
theorem mulV_one {a : Int} (ha : isE a = true) : mulV a 1 = a := by
  obtain ⟨x, rfl, h, _, hx⟩ := isE_nat ha
  have : mulV x 1 = (mulP x 1 : Int) := mulV_nat (b := 1) ha e1
  rw [this]; unfold mulP; rw [Nat.mul_one, Nat.mod_eq_of_lt h]
theorem sc_last : sc 2305843009213688668 = true := by decide
theorem mulV_inv {a : Int} (ha : isE a = true) : mulV a (expV a 2305843009213688668) = 1 := by
  obtain ⟨x, rfl, h, _, hx⟩ := isE_nat ha
  have e : expV x 2305843009213688668 = (powP x 2305843009213688668 : Int) := expV_nat (k := 2305843009213688668) ha sc_last
  rw [e, mulV_nat ha (isE_powP _ hx)]
  have : ∀ k, k + 1 = Q → mulP x (powP x k) = 1 := fun k hk => by
    unfold powP at hx
    unfold mulP powP
    rw [Nat.mul_mod_mod, ← Nat.pow_succ', Nat.succ_eq_add_one, hk]
    exact hx
  rw [this _ (by rw [Q_eq])]; rfl
/-- an element's power depends on the exponent's rest modulo Q alone -/
theorem powP_mod {x : Nat} (hx : powP x Q = 1) (k : Nat) : powP x (k % Q) = powP x k := by
  unfold powP at *
  conv => rhs; rw [← Nat.div_add_mod k Q, Nat.pow_add, Nat.pow_mul, Nat.mul_mod, Nat.pow_mod, hx, Nat.one_pow, ← Nat.mul_mod, Nat.one_mul]
theorem powP_add (x j k : Nat) : mulP (powP x j) (powP x k) = powP x (j + k) := by
  unfold mulP powP; rw [← Nat.mul_mod, Nat.pow_add]
theorem powP_mul (x j k : Nat) : powP (powP x j) k = powP x (j * k) := by
  unfold powP; rw [← Nat.pow_mod, Nat.pow_mul]
theorem sumV_nat {j k : Nat} (hj : j < Q) (hk : k < Q) : sumV j k = ((j + k) % Q : Nat) := by
  simp only [sumV, sc_of hj, sc_of hk, Bool.and_self, if_true, Q_eq]; omega
theorem prodV_nat {j k : Nat} (hj : j < Q) (hk : k < Q) : prodV j k = ((j * k) % Q : Nat) := by
  simp only [prodV, sc_of hj, sc_of hk, Bool.and_self, if_true, Q_eq]; omega
theorem Q_pos : 0 < Q := by decide
theorem sumE_ok {j k : Int} (hj : sc j = true) (hk : sc k = true) : sumE j k = 0 := by simp [sumE, hj, hk]
theorem sc_sum {j k : Int} (hj : sc j = true) (hk : sc k = true) : sc (sumV j k) = true := by
  obtain ⟨m, rfl, hm⟩ := sc_nat hj
  obtain ⟨n, rfl, hn⟩ := sc_nat hk
  rw [sumV_nat hm hn]; exact sc_of (Nat.mod_lt _ Q_pos)
theorem sc_prod {j k : Int} (hj : sc j = true) (hk : sc k = true) : sc (prodV j k) = true := by
  obtain ⟨m, rfl, hm⟩ := sc_nat hj
  obtain ⟨n, rfl, hn⟩ := sc_nat hk
  rw [prodV_nat hm hn]; exact sc_of (Nat.mod_lt _ Q_pos)
theorem exp_sum {a j k : Int} (ha : isE a = true) (hj : sc j = true) (hk : sc k = true) : mulV (expV a j) (expV a k) = expV a (sumV j k) := by
  have h1 := isE_exp ha hj
  have h2 := isE_exp ha hk
  have h3 := sc_sum hj hk
  obtain ⟨x, rfl, _, _, hx⟩ := isE_nat ha
  obtain ⟨m, rfl, hm⟩ := sc_nat hj
  obtain ⟨n, rfl, hn⟩ := sc_nat hk
  rw [sumV_nat hm hn] at h3 ⊢
  rw [expV_nat ha hj, expV_nat ha hk, expV_nat ha h3, mulV_nat (isE_powP _ hx) (isE_powP _ hx), powP_add, powP_mod hx]
theorem exp_prod {a j k : Int} (ha : isE a = true) (hj : sc j = true) (hk : sc k = true) : expV a (prodV j k) = expV (expV a j) k := by
  have h1 := isE_exp ha hj
  have h3 := sc_prod hj hk
  obtain ⟨x, rfl, _, _, hx⟩ := isE_nat ha
  obtain ⟨m, rfl, hm⟩ := sc_nat hj
  obtain ⟨n, rfl, hn⟩ := sc_nat hk
  rw [prodV_nat hm hn] at h3 ⊢
  rw [expV_nat ha hj, expV_nat ha h3, expV_nat (isE_powP _ hx) hk, powP_mul, powP_mod hx]
theorem exp_zero {a : Int} (ha : isE a = true) : expV a 0 = 1 := by
  obtain ⟨x, rfl, h, _, hx⟩ := isE_nat ha
  have e : expV x 0 = (powP x 0 : Int) := expV_nat (k := 0) ha (by decide)
  rw [e]; unfold powP; rw [Nat.pow_zero, Nat.mod_eq_of_lt one_lt_P]; rfl
theorem exp_one {a : Int} (ha : isE a = true) : expV a 1 = a := by
  obtain ⟨x, rfl, h, _, hx⟩ := isE_nat ha
  have e : expV x 1 = (powP x 1 : Int) := expV_nat (k := 1) ha (by decide)
  rw [e]; unfold powP; rw [Nat.pow_one, Nat.mod_eq_of_lt h]
theorem expV_bounds (a k : Int) : 0 ≤ expV a k ∧ expV a k < 4611686018427377339 := by
  unfold expV; split
  · have := powP_lt a.toNat k.toNat; omega
  · omega
theorem mulV_bounds (a b : Int) : 0 ≤ mulV a b ∧ mulV a b < 4611686018427377339 := by
  unfold mulV; split
  · have := mulP_lt a.toNat b.toNat; omega
  · omega
/-- the ring of the scalars -/
theorem sum_comm (a b : Int) : sumV a b = sumV b a := by unfold sumV; rw [Bool.and_comm, Int.add_comm]
theorem prod_comm (a b : Int) : prodV a b = prodV b a := by unfold prodV; rw [Bool.and_comm, Int.mul_comm]
theorem sum_assoc {a b c : Int} (ha : sc a = true) (hb : sc b = true) (hc : sc c = true) : sumV (sumV a b) c = sumV a (sumV b c) := by
  obtain ⟨x, rfl, hx⟩ := sc_nat ha
  obtain ⟨y, rfl, hy⟩ := sc_nat hb
  obtain ⟨z, rfl, hz⟩ := sc_nat hc
  rw [sumV_nat hx hy, sumV_nat hy hz, sumV_nat (Nat.mod_lt _ Q_pos) hz, sumV_nat hx (Nat.mod_lt _ Q_pos), Nat.mod_add_mod, Nat.add_mod_mod, Nat.add_assoc]
theorem prod_assoc {a b c : Int} (ha : sc a = true) (hb : sc b = true) (hc : sc c = true) : prodV (prodV a b) c = prodV a (prodV b c) := by
  obtain ⟨x, rfl, hx⟩ := sc_nat ha
  obtain ⟨y, rfl, hy⟩ := sc_nat hb
  obtain ⟨z, rfl, hz⟩ := sc_nat hc
  rw [prodV_nat hx hy, prodV_nat hy hz, prodV_nat (Nat.mod_lt _ Q_pos) hz, prodV_nat hx (Nat.mod_lt _ Q_pos), Nat.mod_mul_mod, Nat.mul_mod_mod, Nat.mul_assoc]
theorem prod_sum {a b c : Int} (ha : sc a = true) (hb : sc b = true) (hc : sc c = true) : prodV a (sumV b c) = sumV (prodV a b) (prodV a c) := by
  obtain ⟨x, rfl, hx⟩ := sc_nat ha
  obtain ⟨y, rfl, hy⟩ := sc_nat hb
  obtain ⟨z, rfl, hz⟩ := sc_nat hc
  rw [sumV_nat hy hz, prodV_nat hx hy, prodV_nat hx hz, prodV_nat hx (Nat.mod_lt _ Q_pos), sumV_nat (Nat.mod_lt _ Q_pos) (Nat.mod_lt _ Q_pos), Nat.mul_mod_mod, ← Nat.add_mod, Nat.mul_add]
theorem sc_zero : sc 0 = true := by decide
theorem sc_one : sc 1 = true := by decide
theorem sum_zero {a : Int} (ha : sc a = true) : sumV a 0 = a := by
  obtain ⟨x, rfl, hx⟩ := sc_nat ha
  have : sumV x 0 = _ := sumV_nat (k := 0) hx Q_pos
  rw [this, Nat.add_zero, Nat.mod_eq_of_lt hx]
theorem prod_one {a : Int} (ha : sc a = true) : prodV a 1 = a := by
  obtain ⟨x, rfl, hx⟩ := sc_nat ha
  have : prodV x 1 = _ := prodV_nat (k := 1) hx (by decide)
  rw [this, Nat.mul_one, Nat.mod_eq_of_lt hx]
theorem prod_zero {a : Int} (ha : sc a = true) : prodV a 0 = 0 := by
  obtain ⟨x, rfl, hx⟩ := sc_nat ha
  have : prodV x 0 = _ := prodV_nat (k := 0) hx Q_pos
  rw [this, Nat.mul_zero, Nat.zero_mod]; rfl
/-- half of the numbers are elements -/
theorem two_Q : powP 2 Q = P - 1 := by rw [powP_eq _ _ (by decide)]; decide +kernel
theorem last_Q : powP (P - 1) Q = P - 1 := by rw [powP_eq _ _ (by decide)]; decide +kernel
theorem last_sq : (P - 1) * (P - 1) % P = 1 := by decide
theorem last_pow (i : Nat) : (P - 1) ^ i % P = 1 ∨ (P - 1) ^ i % P = P - 1 := by
  induction i with
  | zero => left; rw [Nat.pow_zero]; exact Nat.mod_eq_of_lt one_lt_P
  | succ i ih =>
    rw [Nat.pow_succ, Nat.mul_mod]
    rcases ih with h | h
    · right; rw [h, Nat.one_mul, Nat.mod_mod]; decide
    · left; rw [h, Nat.mod_eq_of_lt (show P - 1 < P by decide)]; exact last_sq
theorem pow_half (a q : Nat) (h2 : powP 2 q = P - 1) (h0 : 0 < a) (h : a < P) : powP a q = 1 ∨ powP a q = P - 1 := by
  obtain ⟨i, _, e⟩ := rP'.gen a h0 h
  have : powP a q = (P - 1) ^ i % P := by
    rw [← e]; unfold powP at h2 ⊢
    rw [← Nat.pow_mod, ← Nat.pow_mul, Nat.mul_comm, Nat.pow_mul, Nat.pow_mod, h2]
  rw [this]; exact last_pow i
theorem pow_Q (a : Nat) (h0 : 0 < a) (h : a < P) : powP a Q = 1 ∨ powP a Q = P - 1 := pow_half a Q two_Q h0 h
theorem neg_half (a q : Nat) (hl : powP (P - 1) q = P - 1) (h : a < P) (h0 : 0 < a) : powP (P - a) q = (P - 1) * powP a q % P := by
  have e : (P - a) = ((P - 1) * a) % P := by
    have e0 : (P - 1) * a = (P - a) + P * (a - 1) := by
      obtain ⟨b, rfl⟩ : ∃ b, a = b + 1 := ⟨a - 1, by omega⟩
      rw [Nat.mul_add, Nat.mul_one, show b + 1 - 1 = b by omega, Nat.sub_mul, Nat.one_mul]
      have : b ≤ P * b := Nat.le_mul_of_pos_left b P_pos
      omega
    rw [e0, Nat.add_mul_mod_self_left, Nat.mod_eq_of_lt (by omega)]
  unfold powP at *
  rw [e, ← Nat.pow_mod, Nat.mul_pow, Nat.mul_mod, hl]
theorem pow_neg (a : Nat) (h : a < P) (h0 : 0 < a) : powP (P - a) Q = (P - 1) * powP a Q % P := neg_half a Q last_Q h h0
theorem halves (a : Nat) (h0 : 0 < a) (h : a < 4611686018427377339) : (ck (a : Int) = 0 ∧ ck (4611686018427377339 - (a : Int)) = 30) ∨ (ck (a : Int) = 30 ∧ ck (4611686018427377339 - (a : Int)) = 0) := by
  have hP : a < P := by rw [P_eq]; exact h
  have e : (4611686018427377339 - (a : Int)) = ((P - a : Nat) : Int) := by rw [P_eq]; omega
  rw [e]
  have hn := pow_neg a hP h0
  have hne : P - 1 ≠ 1 := by decide
  have hb : (P - 1) % P = P - 1 := by decide
  have i1 := isE_iff a hP
  have i2 := isE_iff (P - a) (by omega)
  rcases pow_Q a h0 hP with c | c
  · left
    rw [c, Nat.mul_one, hb] at hn
    refine ⟨by rw [ck_zero, i1]; exact c, ?_⟩
    have : isE ((P - a : Nat) : Int) = false := by rw [← Bool.not_eq_true, i2, hn]; exact hne
    unfold ck; rw [this]; rfl
  · right
    rw [c, last_sq] at hn
    refine ⟨?_, by rw [ck_zero, i2]; exact hn⟩
    have : isE (a : Int) = false := by rw [← Bool.not_eq_true, i1, c]; exact hne
    unfold ck; rw [this]; rfl
theorem order_ne (q k : Nat) (h4 : powP 4 q = 1) (hq : Pr q) (h0 : 0 < k) (hk : k < q) : powP 4 k ≠ 1 := by
  intro h
  have hP : 1 % P = 1 := Nat.mod_eq_of_lt one_lt_P
  unfold powP at h h4
  have hg := one_gcd (N := P) (g := 4) k q (by rw [h, hP]) (by rw [h4, hP])
  have hd : ¬ q ∣ k := fun hd => by have := Nat.le_of_dvd h0 hd; omega
  have hc := hq.coprime (m := k) hd
  rw [Nat.gcd_comm, hc, Nat.pow_one] at hg
  revert hg; decide
/-- no power of G below Q is 1 -/
theorem four_ne (k : Nat) (h0 : 0 < k) (hk : k < Q) : powP 4 k ≠ 1 := order_ne Q k x4 (by rw [Q_eq]; exact rQ.prime) h0 hk
theorem base_ne {k : Int} (h : sc k = true) (h1 : 1 ≤ k) : (expV 4 k == 1) = false := by
  obtain ⟨n, rfl, hn⟩ := sc_nat h
  have e : expV 4 n = (powP 4 n : Int) := expV_nat (a := 4) e4 h
  rw [e, beq_eq_false_iff_ne]
  have := four_ne n (by omega) hn
  omega
end Go.Proofs.SzGrp
