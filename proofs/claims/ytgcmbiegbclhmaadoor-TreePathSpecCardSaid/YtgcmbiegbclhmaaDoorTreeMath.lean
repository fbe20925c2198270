/- Encodings of lists of numbers; trees of nodes with sums: plain functions, no program in sight. -/
import Derived.Test.YtgcmbiegbclhmaaDoorShaMath
namespace Go.Proofs.SzTree
open SzSha
set_option linter.unusedVariables false
/-- the unsigned form of an integer -/
def zig (z : Int) : Nat := if 0 ≤ z then (2 * z).toNat else (-2 * z - 1).toNat
theorem zig_lt {z : Int} (h1 : -9223372036854775808 ≤ z) (h2 : z ≤ 9223372036854775807) : zig z < 18446744073709551616 := by unfold zig; split <;> omega
/-- a numeral -/
def numB : Nat → Nat → List Nat
  | 0, u => [u % 128]
  | f + 1, u => if u < 128 then [u] else (u % 128 + 128) :: numB f (u / 128)
def num (u : Nat) : List Nat := numB 10 u
theorem numB_length : ∀ f u, (numB f u).length ≤ f + 1
  | 0, u => by simp [numB]
  | f + 1, u => by
    unfold numB; split
    · simp
    · have := numB_length f (u / 128); simp; omega
theorem numB_bytes : ∀ f u, Bytes (numB f u)
  | 0, u => fun x hx => by simp [numB] at hx; omega
  | f + 1, u => fun x hx => by
    unfold numB at hx; split at hx
    · simp at hx; omega
    · rcases List.mem_cons.1 hx with h | h
      · omega
      · exact numB_bytes f _ x h
/-- the digits ahead of the i-th -/
def numP : Nat → Nat → List Nat
  | 0, u => []
  | i + 1, u => (u % 128 + 128) :: numP i (u / 128)
theorem numP_length : ∀ i u, (numP i u).length = i
  | 0, _ => rfl
  | i + 1, u => by simp [numP, numP_length i]
theorem numP_snoc : ∀ i u, numP (i + 1) u = numP i u ++ [u / 128 ^ i % 128 + 128]
  | 0, u => by simp [numP]
  | i + 1, u => by
    have h := numP_snoc i (u / 128)
    show (u % 128 + 128) :: numP (i + 1) (u / 128) = _
    rw [h, Nat.div_div_eq_div_mul, Nat.pow_succ, Nat.mul_comm (128 ^ i)]; rfl
theorem numB_stop (f i : Nat) : ∀ u, (∀ j, j < i → 128 ≤ u / 128 ^ j) → u / 128 ^ i < 128 → i ≤ f → numB f u = numP i u ++ [u / 128 ^ i] := by
  induction i generalizing f with
  | zero =>
    intro u _ h _
    simp only [Nat.pow_zero, Nat.div_one] at h ⊢
    cases f with
    | zero => simp [numB, numP, Nat.mod_eq_of_lt h]
    | succ f => simp [numB, numP, h]
  | succ i ih =>
    intro u h1 h2 h3
    cases f with
    | zero => omega
    | succ f =>
      have h0 := h1 0 (by omega)
      simp only [Nat.pow_zero, Nat.div_one] at h0
      have hh := ih f (u / 128) (fun j hj => by
        have := h1 (j + 1) (by omega)
        rwa [Nat.pow_succ, Nat.mul_comm, ← Nat.div_div_eq_div_mul] at this) (by rwa [Nat.div_div_eq_div_mul, Nat.mul_comm, ← Nat.pow_succ]) (by omega)
      unfold numB
      rw [if_neg (by omega), hh, Nat.div_div_eq_div_mul, Nat.mul_comm 128, ← Nat.pow_succ]
      rfl
/-- the encoding of a list of integers -/
def encI (zs : List Int) : List Nat := 3 :: (num zs.length ++ zs.flatMap fun z => 1 :: num (zig z))
theorem encI_bytes (zs : List Int) : Bytes (encI zs) := fun x hx => by
  rcases List.mem_cons.1 hx with h | h
  · omega
  · rcases List.mem_append.1 h with h | h
    · exact numB_bytes _ _ x h
    · obtain ⟨z, _, h⟩ := List.mem_flatMap.1 h
      rcases List.mem_cons.1 h with h | h
      · omega
      · exact numB_bytes _ _ x h
theorem flat_length (zs : List Int) : (zs.flatMap fun z => 1 :: num (zig z)).length ≤ 12 * zs.length := by
  induction zs with
  | nil => simp
  | cons z zs ih =>
    have := numB_length 10 (zig z)
    simp only [List.flatMap_cons, List.length_append, List.length_cons, num] at *
    omega
theorem encI_length (zs : List Int) : (encI zs).length ≤ 12 + 12 * zs.length := by
  have h1 := flat_length zs
  have h2 := numB_length 10 zs.length
  simp only [encI, List.length_cons, List.length_append, num] at *
  omega
/-- the hash of bytes, followed by numbers, under a tag -/
def hashT (tag b : List Nat) (zs : List Int) : List Nat := tagged tag (b ++ encI zs)
/-- a node -/
structure Nd where
  d : List Nat
  c : Int
  p : Int
def Nd.ok (n : Nd) : Prop := n.d.length = 32 ∧ Bytes n.d
def vN (n : Nd) : Bool := decide (0 ≤ n.c) && decide (n.c ≤ 1073741824) && decide (0 ≤ n.p) && decide (n.p ≤ 12 * n.c)
def sumC : List Nd → Int
  | [] => 0
  | n :: l => n.c + sumC l
def sumP : List Nd → Int
  | [] => 0
  | n :: l => n.p + sumP l
def vL (l : List Nd) : Bool := l.all vN && decide (sumC l ≤ 1073741824)
def sumT : List Nat := [115, 117, 109]
def joinN (a b : Nd) : Nd := ⟨hashT sumT (a.d ++ b.d) [a.c, a.p, b.c, b.p], a.c + b.c, a.p + b.p⟩
theorem sumC_append (l r : List Nd) : sumC (l ++ r) = sumC l + sumC r := by
  induction l with
  | nil => simp [sumC]
  | cons n l ih => simp only [List.cons_append, sumC, ih]; omega
theorem sumP_append (l r : List Nd) : sumP (l ++ r) = sumP l + sumP r := by
  induction l with
  | nil => simp [sumP]
  | cons n l ih => simp only [List.cons_append, sumP, ih]; omega
theorem vN_bd {n : Nd} (h : vN n = true) : 0 ≤ n.c ∧ n.c ≤ 1073741824 ∧ 0 ≤ n.p ∧ n.p ≤ 12 * n.c := by
  simp only [vN, Bool.and_eq_true, decide_eq_true_eq] at h; omega
theorem sums_bd : ∀ {l : List Nd}, l.all vN = true → 0 ≤ sumC l ∧ 0 ≤ sumP l ∧ sumP l ≤ 12 * sumC l
  | [], _ => by simp [sumC, sumP]
  | n :: l, h => by
    simp only [List.all_cons, Bool.and_eq_true] at h
    have h1 := vN_bd h.1
    have h2 := sums_bd h.2
    simp only [sumC, sumP]; omega
theorem sumC_le : ∀ l : List Nd, l.all vN = true → sumC l ≤ 1073741824 * (l.length : Int)
  | [], _ => by simp [sumC]
  | n :: l, h => by
    simp only [List.all_cons, Bool.and_eq_true] at h
    have h1 := vN_bd h.1
    have h2 := sumC_le l h.2
    simp only [sumC, List.length_cons]
    omega
/-- the greatest power of 2 that is less than n -/
def halfF : Nat → Nat → Nat → Nat
  | 0, k, _ => k
  | f + 1, k, n => if 2 * k < n then halfF f (2 * k) n else k
def half (n : Nat) : Nat := halfF 64 1 n
theorem halfF_bd : ∀ f k n, 1 ≤ k → k < n → 1 ≤ halfF f k n ∧ halfF f k n < n
  | 0, k, n, h1, h2 => ⟨h1, h2⟩
  | f + 1, k, n, h1, h2 => by
    unfold halfF; split
    · exact halfF_bd f _ n (by omega) (by omega)
    · exact ⟨h1, h2⟩
theorem half_bd {n : Nat} (h : 2 ≤ n) : 1 ≤ half n ∧ half n < n := halfF_bd 64 1 n (by omega) (by omega)
/-- the root of leaves (at least one), by at most so many steps -/
def rootF : Nat → List Nd → Nd
  | 0, l => l.headD ⟨[], 0, 0⟩
  | f + 1, l => if l.length ≤ 1 then l.headD ⟨[], 0, 0⟩ else joinN (rootF f (l.take (half l.length))) (rootF f (l.drop (half l.length)))
theorem rootF_fuel : ∀ f g l, l.length ≤ f + 1 → l.length ≤ g + 1 → rootF f l = rootF g l
  | 0, 0, l, _, _ => rfl
  | 0, g + 1, l, h, _ => by simp [rootF, show l.length ≤ 1 by omega]
  | f + 1, 0, l, _, h => by simp [rootF, show l.length ≤ 1 by omega]
  | f + 1, g + 1, l, h1, h2 => by
    unfold rootF
    by_cases h : l.length ≤ 1
    · rw [if_pos h, if_pos h]
    · have hb := half_bd (n := l.length) (by omega)
      rw [if_neg h, if_neg h, rootF_fuel f g _ (by rw [List.length_take]; omega) (by rw [List.length_take]; omega), rootF_fuel f g _ (by rw [List.length_drop]; omega) (by rw [List.length_drop]; omega)]
def root (l : List Nd) : Nd := rootF l.length l
theorem root_one (n : Nd) : root [n] = n := rfl
theorem root_two {l : List Nd} (h : 2 ≤ l.length) : root l = joinN (root (l.take (half l.length))) (root (l.drop (half l.length))) := by
  have hb := half_bd h
  unfold root
  rw [rootF_fuel l.length (l.length - 1 + 1) l (by omega) (by omega)]
  conv => lhs; unfold rootF
  rw [if_neg (by omega), rootF_fuel (l.length - 1) (l.take (half l.length)).length _ (by rw [List.length_take]; omega) (by omega), rootF_fuel (l.length - 1) (l.drop (half l.length)).length _ (by rw [List.length_drop]; omega) (by omega)]
theorem root_sums : ∀ (n : Nat) (l : List Nd), l.length = n → 1 ≤ n → (root l).c = sumC l ∧ (root l).p = sumP l := by
  intro n
  induction n using Nat.strongRecOn with
  | _ n ih =>
    intro l hl h1
    by_cases h : 2 ≤ n
    · have hb := half_bd (n := l.length) (by omega)
      rw [root_two (by omega)]
      have a := ih _ (by rw [List.length_take]; omega) (l.take (half l.length)) rfl (by rw [List.length_take]; omega)
      have b := ih _ (by rw [List.length_drop]; omega) (l.drop (half l.length)) rfl (by rw [List.length_drop]; omega)
      have e := List.take_append_drop (half l.length) l
      have s1 := sumC_append (l.take (half l.length)) (l.drop (half l.length))
      have s2 := sumP_append (l.take (half l.length)) (l.drop (half l.length))
      rw [e] at s1 s2
      simp only [joinN, a.1, a.2, b.1, b.2, s1, s2, and_self]
    · obtain ⟨x, rfl⟩ : ∃ x, l = [x] := List.length_eq_one_iff.1 (by omega)
      simp [root_one, sumC, sumP]
theorem vL_parts {l r : List Nd} (h : vL (l ++ r) = true) : vL l = true ∧ vL r = true := by
  simp only [vL, List.all_append, Bool.and_eq_true, decide_eq_true_eq, sumC_append] at h ⊢
  have a := sums_bd h.1.1
  have b := sums_bd h.1.2
  exact ⟨⟨h.1.1, by omega⟩, h.1.2, by omega⟩
theorem vL_root {l : List Nd} (h1 : 1 ≤ l.length) (h : vL l = true) : vN (root l) = true := by
  have hs := root_sums _ l rfl h1
  simp only [vL, Bool.and_eq_true, decide_eq_true_eq] at h
  have hb := sums_bd h.1
  simp only [vN, Bool.and_eq_true, decide_eq_true_eq, hs.1, hs.2]
  omega
end Go.Proofs.SzTree
