/- Plain arithmetic, no program in sight: P and Q are prime, by primitive roots; Fermat's theorem modulo P. -/
import Derived.Test.YtcgpanjagkblmaaDoorGroupMath
namespace Go.Proofs.SzPrm
/-- a power modulo N, by squaring -/
def pm (N : Nat) : Nat → Nat → Nat → Nat
  | 0, _, _ => 1 % N
  | f + 1, g, k => if k % 2 = 1 then g * pm N f (g * g % N) (k / 2) % N else pm N f (g * g % N) (k / 2)
theorem pm_eq (N : Nat) : ∀ f g k, k < 2 ^ f → pm N f g k = g ^ k % N
  | 0, g, k, h => by
    obtain rfl : k = 0 := by simpa using h
    simp [pm]
  | f + 1, g, k, h => by
    have h2 : k / 2 < 2 ^ f := by rw [Nat.pow_succ] at h; omega
    have e : (g * g % N) ^ (k / 2) % N = g ^ (2 * (k / 2)) % N := by
      rw [← Nat.pow_mod, Nat.pow_mul, Nat.pow_two]
    simp only [pm]
    rw [pm_eq N f _ _ h2, e]
    split
    · rename_i ho
      rw [Nat.mul_mod_mod, ← Nat.pow_succ', show (2 * (k / 2)).succ = k by omega]
    · rename_i ho
      rw [show 2 * (k / 2) = k by omega]
/-- an injection of the numbers below n into themselves is onto -/
theorem onto : ∀ (n : Nat) (f : Nat → Nat), (∀ i, i < n → f i < n) → (∀ i j, i < n → j < n → f i = f j → i = j) → ∀ a, a < n → ∃ i, i < n ∧ f i = a
  | 0, _, _, _, a, h => absurd h (Nat.not_lt_zero _)
  | n + 1, f, hf, hi, a, ha => by
    by_cases hn : f n = n
    · by_cases e : a = n
      · exact ⟨n, by omega, by omega⟩
      · obtain ⟨i, h1, h2⟩ := onto n f (fun i h => by
          have := hf i (by omega)
          have : f i ≠ n := fun e => by have := hi i n (by omega) (by omega) (by omega); omega
          omega) (fun i j h h' => hi i j (by omega) (by omega)) a (by omega)
        exact ⟨i, by omega, h2⟩
    · have hm : f n < n := by have := hf n (by omega); omega
      have H := onto n (fun i => if f i = n then f n else f i) (fun i h => by
          show (if f i = n then f n else f i) < n
          have := hf i (by omega)
          split <;> omega) (fun i j h h' e => by
          have e' : (if f i = n then f n else f i) = (if f j = n then f n else f j) := e
          split at e' <;> split at e'
          · exact hi i j (by omega) (by omega) (by omega)
          · have := hi n j (by omega) (by omega) e'; omega
          · have := hi i n (by omega) (by omega) e'; omega
          · exact hi i j (by omega) (by omega) e')
      by_cases e1 : a = f n
      · exact ⟨n, by omega, e1.symm⟩
      · by_cases e2 : a = n
        · obtain ⟨i, h1, h2⟩ := H (f n) hm
          have h2' : (if f i = n then f n else f i) = f n := h2
          split at h2'
          · exact ⟨i, by omega, by omega⟩
          · have := hi i n (by omega) (by omega) h2'; omega
        · obtain ⟨i, h1, h2⟩ := H a (by omega)
          have h2' : (if f i = n then f n else f i) = a := h2
          split at h2'
          · omega
          · exact ⟨i, by omega, h2'⟩
theorem one_mul_pow {N g k : Nat} (h : g ^ k % N = 1 % N) (m : Nat) : g ^ (k * m) % N = 1 % N := by
  rw [Nat.pow_mul, Nat.pow_mod, h, ← Nat.pow_mod, Nat.one_pow]
theorem one_mod {N g m n : Nat} (hm : g ^ m % N = 1 % N) (hn : g ^ n % N = 1 % N) : g ^ (n % m) % N = 1 % N := by
  have e : g ^ n % N = g ^ (n % m) % N := by
    conv => lhs; rw [← Nat.div_add_mod n m, Nat.pow_add, Nat.mul_mod, one_mul_pow hm, ← Nat.mul_mod, Nat.one_mul]
  rw [← e]; exact hn
theorem one_gcd {N g : Nat} (m n : Nat) : g ^ m % N = 1 % N → g ^ n % N = 1 % N → g ^ (Nat.gcd m n) % N = 1 % N := by
  induction m, n using Nat.gcd.induction with
  | H0 n => intro _ h; rwa [Nat.gcd_zero_left]
  | H1 m n hm ih => intro h h'; rw [Nat.gcd_rec]; exact ih (one_mod h h') h
/-- a number above 1 with no divisors but 1 and itself -/
def Pr (p : Nat) : Prop := 1 < p ∧ ∀ d, d ∣ p → d = 1 ∨ d = p
theorem Pr.coprime {p m : Nat} (h : Pr p) (hm : ¬ p ∣ m) : Nat.Coprime p m := by
  rcases h.2 _ (Nat.gcd_dvd_left p m) with e | e
  · exact e
  · exact absurd (e ▸ Nat.gcd_dvd_right p m) hm
/-- g is a primitive root -/
structure Root (N g : Nat) : Prop where
  big : 1 < N
  one : g ^ (N - 1) % N = 1
  gen : ∀ a, 0 < a → a < N → ∃ i, i < N - 1 ∧ g ^ i % N = a
theorem root_of {N g : Nat} (hN : 1 < N) (h1 : g ^ (N - 1) % N = 1) (hq : ∀ m, m ∣ N - 1 → m ≠ 1 → ∃ q, q ∣ m ∧ g ^ ((N - 1) / q) % N ≠ 1) : Root N g := by
  have hz : ∀ i, i < N - 1 → g ^ i % N ≠ 0 := by
    intro i hi h
    have : g ^ (N - 1) % N = 0 := by
      rw [show N - 1 = i + (N - 1 - i) by omega, Nat.pow_add, Nat.mul_mod, h]; simp
    omega
  have ho : ∀ k, 0 < k → k < N - 1 → g ^ k % N ≠ 1 := by
    intro k hk hk' h
    have e1 : 1 % N = 1 := Nat.mod_eq_of_lt hN
    have hg := one_gcd (N := N) (g := g) k (N - 1) (by rw [h, e1]) (by rw [h1, e1])
    have hd := Nat.gcd_dvd_right k (N - 1)
    have hdk := Nat.gcd_le_left (N - 1) hk
    have hp := Nat.gcd_pos_of_pos_left (N - 1) hk
    generalize Nat.gcd k (N - 1) = d at *
    obtain ⟨m, hm⟩ := hd
    obtain ⟨q, ⟨r, hr⟩, hne⟩ := hq m ⟨d, by rw [hm, Nat.mul_comm]⟩ (fun e => by rw [e] at hm; omega)
    apply hne
    have hq0 : 0 < q := by
      rcases Nat.eq_zero_or_pos q with e | e
      · rw [e, Nat.zero_mul] at hr; rw [hr] at hm; omega
      · exact e
    rw [show (N - 1) / q = d * r by
      rw [hm, hr, show d * (q * r) = q * (d * r) by rw [← Nat.mul_assoc, Nat.mul_comm d q, Nat.mul_assoc], Nat.mul_div_cancel_left _ hq0], one_mul_pow hg, e1]
  have hinj : ∀ i j, i < j → j < N - 1 → g ^ i % N = g ^ j % N → False := by
    intro i j hij hj h
    apply ho (j - i) (by omega) (by omega)
    have e : g ^ (i + (N - 1 - i)) % N = g ^ (j + (N - 1 - i)) % N := by
      rw [Nat.pow_add, Nat.pow_add, Nat.mul_mod, h, ← Nat.mul_mod]
    rw [show i + (N - 1 - i) = N - 1 by omega, h1, show j + (N - 1 - i) = (N - 1) + (j - i) by omega, Nat.pow_add, Nat.mul_mod, h1, Nat.one_mul, Nat.mod_mod] at e
    exact e.symm
  refine ⟨hN, h1, fun a ha ha' => ?_⟩
  obtain ⟨i, hi, e⟩ := onto (N - 1) (fun i => g ^ i % N - 1) (fun i h => by
    have := Nat.mod_lt (g ^ i) (show N > 0 by omega)
    show g ^ i % N - 1 < N - 1
    omega) (fun i j h h' e => by
    have e' : g ^ i % N - 1 = g ^ j % N - 1 := e
    have := hz i h
    have := hz j h'
    rcases Nat.lt_trichotomy i j with c | c | c
    · exact (hinj i j c h' (by omega)).elim
    · exact c
    · exact (hinj j i c h (by omega)).elim) (a - 1) (by omega)
  have e' : g ^ i % N - 1 = a - 1 := e
  have := hz i hi
  exact ⟨i, hi, by omega⟩
theorem Root.fermat {N g : Nat} (h : Root N g) (a : Nat) (ha : a % N ≠ 0) : a ^ (N - 1) % N = 1 := by
  obtain ⟨i, _, e⟩ := h.gen (a % N) (by omega) (Nat.mod_lt _ (by have := h.big; omega))
  rw [Nat.pow_mod, ← e, ← Nat.pow_mod, ← Nat.pow_mul, Nat.mul_comm, Nat.pow_mul, Nat.pow_mod, h.one, Nat.one_pow, Nat.mod_eq_of_lt h.big]
theorem Root.prime {N g : Nat} (h : Root N g) : Pr N := by
  refine ⟨h.big, fun d hd => ?_⟩
  have hN := h.big
  have hle := Nat.le_of_dvd (by omega) hd
  by_cases e : d = N
  · exact .inr e
  · have hd0 : 0 < d := Nat.pos_of_dvd_of_pos hd (by omega)
    have hf := h.fermat d (by rw [Nat.mod_eq_of_lt (by omega)]; omega)
    by_cases e2 : N = 2
    · omega
    · left
      have h1 : d ∣ d ^ (N - 1) := Nat.dvd_trans (by rw [Nat.pow_one]; exact Nat.dvd_refl _) (Nat.pow_dvd_pow d (show 1 ≤ N - 1 by omega))
      have h2 : d ∣ d ^ (N - 1) % N := (Nat.dvd_mod_iff hd).2 h1
      rw [hf] at h2
      exact Nat.dvd_one.1 h2
/-- small primes by trial -/
def trial (p : Nat) : Nat → Bool
  | 0 => true
  | 1 => true
  | d + 1 => p % (d + 1) != 0 && trial p d
theorem trial_out {p : Nat} : ∀ {n}, trial p n = true → ∀ d, 2 ≤ d → d ≤ n → ¬ d ∣ p
  | 0, _, d, h1, h2 => by omega
  | 1, _, d, h1, h2 => by omega
  | n + 2, h, d, h1, h2 => by
    simp only [trial, Bool.and_eq_true, bne_iff_ne] at h
    by_cases e : d = n + 2
    · subst e; intro hd; exact h.1 (Nat.mod_eq_zero_of_dvd hd)
    · exact trial_out h.2 d h1 (by omega)
theorem pr_small {p : Nat} (h : 1 < p) (ht : trial p (p - 1) = true) : Pr p := by
  refine ⟨h, fun d hd => ?_⟩
  have h0 : 0 < d := Nat.pos_of_dvd_of_pos hd (by omega)
  have h1 := Nat.le_of_dvd (by omega) hd
  by_cases e1 : d = 1
  · exact .inl e1
  · by_cases e2 : d = p
    · exact .inr e2
    · exact absurd hd (trial_out ht d (by omega) (by omega))
/-- a divisor of a product of primes that none of them divides is 1 -/
theorem one_of_coprime {m n : Nat} (h : m ∣ n) (hc : Nat.Coprime n m) : m = 1 := by
  have := Nat.dvd_gcd h (Nat.dvd_refl m)
  rw [hc] at this
  exact Nat.dvd_one.1 this
theorem some_factor (fs : List Nat) (hp : ∀ q, q ∈ fs → Pr q) (n m : Nat) (hn : n = fs.foldr (· * ·) 1) (hm : m ∣ n) (h1 : m ≠ 1) : ∃ q, q ∈ fs ∧ q ∣ m := by
  apply Classical.byContradiction
  intro hno
  apply h1
  refine one_of_coprime hm ?_
  subst hn
  clear hm h1
  induction fs with
  | nil => exact Nat.coprime_one_left m
  | cons q fs ih =>
    have c1 : Nat.Coprime q m := (hp q (by simp)).coprime (fun h => hno ⟨q, by simp, h⟩)
    have c2 := ih (fun q h => hp q (by simp [h])) (fun ⟨q, h, h'⟩ => hno ⟨q, by simp [h], h'⟩)
    exact Nat.Coprime.mul_left c1 c2
theorem root_list (N g : Nat) (fs : List Nat) (hp : ∀ q, q ∈ fs → Pr q) (hN : 1 < N) (hf : N - 1 = fs.foldr (· * ·) 1) (hb : N < 2 ^ 64) (h1 : pm N 64 g (N - 1) = 1) (hq : fs.all (fun q => pm N 64 g ((N - 1) / q) != 1) = true) : Root N g := by
  refine root_of hN (by rw [← pm_eq N 64 g (N - 1) (by omega)]; exact h1) (fun m hm hm1 => ?_)
  obtain ⟨q, hmem, hd⟩ := some_factor fs hp (N - 1) m hf hm hm1
  refine ⟨q, hd, ?_⟩
  have := List.all_eq_true.1 hq q hmem
  rw [bne_iff_ne, pm_eq N 64 g _ (Nat.lt_of_le_of_lt (Nat.div_le_self _ _) (by omega))] at this
  exact this
theorem p2 : Pr 2 := pr_small (by decide) (by decide +kernel)
theorem p3 : Pr 3 := pr_small (by decide) (by decide +kernel)
theorem p5 : Pr 5 := pr_small (by decide) (by decide +kernel)
theorem p7 : Pr 7 := pr_small (by decide) (by decide +kernel)
theorem p11 : Pr 11 := pr_small (by decide) (by decide +kernel)
theorem p17 : Pr 17 := pr_small (by decide) (by decide +kernel)
theorem p23 : Pr 23 := pr_small (by decide) (by decide +kernel)
theorem p73 : Pr 73 := pr_small (by decide) (by decide +kernel)
theorem p821 : Pr 821 := pr_small (by decide) (by decide +kernel)
theorem p2311 : Pr 2311 := pr_small (by decide) (by decide +kernel)
theorem r1 : Root 172411 3 := root_list _ _ [2, 3, 5, 7, 821] (by simp [p2, p3, p5, p7, p821]) (by decide) (by decide +kernel) (by decide +kernel) (by decide +kernel) (by decide +kernel)
theorem r2 : Root 7930907 2 := root_list _ _ [2, 23, 172411] (by simp [p2, p23, r1.prime]) (by decide) (by decide +kernel) (by decide +kernel) (by decide +kernel) (by decide +kernel)
theorem r3 : Root 11864636873 5 := root_list _ _ [2, 2, 2, 11, 17, 7930907] (by simp [p2, p11, p17, r2.prime]) (by decide) (by decide +kernel) (by decide +kernel) (by decide +kernel) (by decide +kernel)
theorem r4 : Root 1732236983459 2 := root_list _ _ [2, 73, 11864636873] (by simp [p2, p73, r3.prime]) (by decide) (by decide +kernel) (by decide +kernel) (by decide +kernel) (by decide +kernel)
theorem r5 : Root 249442125618097 5 := root_list _ _ [2, 2, 2, 2, 3, 3, 1732236983459] (by simp [p2, p3, r4.prime]) (by decide) (by decide +kernel) (by decide +kernel) (by decide +kernel) (by decide +kernel)
theorem rQ : Root 2305843009213688669 2 := root_list _ _ [2, 2, 2311, 249442125618097] (by simp [p2, p2311, r5.prime]) (by decide) (by decide +kernel) (by decide +kernel) (by decide +kernel) (by decide +kernel)
theorem rP : Root 4611686018427377339 2 := root_list _ _ [2, 2305843009213688669] (by simp [p2, rQ.prime]) (by decide) (by decide +kernel) (by decide +kernel) (by decide +kernel) (by decide +kernel)
end Go.Proofs.SzPrm
