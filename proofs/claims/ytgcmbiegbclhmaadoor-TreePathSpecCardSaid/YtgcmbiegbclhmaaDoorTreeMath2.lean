/- Paths and climbs in trees of nodes: plain functions. -/
import Derived.Test.YtgcmbiegbclhmaaDoorTreeMath
namespace Go.Proofs.SzTree
open SzSha
set_option linter.unusedVariables false
/-- from the root downwards, the parts beside the way to a leaf: whether on the right side, from, to -/
def wayF : Nat → Nat → Nat → Nat → List (Bool × Nat × Nat)
  | 0, _, _, _ => []
  | f + 1, i, a, b => if b - a ≤ 1 then [] else if i < a + half (b - a) then (true, a + half (b - a), b) :: wayF f i a (a + half (b - a)) else (false, a, a + half (b - a)) :: wayF f i (a + half (b - a)) b
theorem wayF_stop (f i a b : Nat) (h : b - a ≤ 1) : wayF f i a b = [] := by
  cases f with
  | zero => rfl
  | succ f => unfold wayF; rw [if_pos h]
theorem wayF_fuel : ∀ f g i a b, b - a ≤ f + 1 → b - a ≤ g + 1 → wayF f i a b = wayF g i a b
  | 0, g, i, a, b, h, _ => by rw [wayF_stop _ _ _ _ (by omega), wayF_stop _ _ _ _ (by omega)]
  | f + 1, 0, i, a, b, _, h => by rw [wayF_stop _ _ _ _ (by omega), wayF_stop _ _ _ _ (by omega)]
  | f + 1, g + 1, i, a, b, h1, h2 => by
    unfold wayF
    by_cases h : b - a ≤ 1
    · rw [if_pos h, if_pos h]
    · have hb := half_bd (n := b - a) (by omega)
      rw [if_neg h, if_neg h, wayF_fuel f g i a _ (by omega) (by omega), wayF_fuel f g i _ b (by omega) (by omega)]
def way (i n : Nat) : List (Bool × Nat × Nat) := wayF n i 0 n
theorem wayF_step (f i a b : Nat) (h : 2 ≤ b - a) (hf : b - a ≤ f) : wayF f i a b = if i < a + half (b - a) then (true, a + half (b - a), b) :: wayF f i a (a + half (b - a)) else (false, a, a + half (b - a)) :: wayF f i (a + half (b - a)) b := by
  have hb := half_bd (n := b - a) h
  rw [wayF_fuel f (f + 1) i a b (by omega) (by omega)]
  conv => lhs; unfold wayF
  rw [if_neg (by omega)]
theorem wayF_length : ∀ f i a b, (wayF f i a b).length ≤ f
  | 0, _, _, _ => by simp [wayF]
  | f + 1, i, a, b => by
    unfold wayF; split
    · simp
    · split
      · have := wayF_length f i a (a + half (b - a)); simp; omega
      · have := wayF_length f i (a + half (b - a)) b; simp; omega
theorem wayF_bd : ∀ f i a b, a ≤ b → ∀ x ∈ wayF f i a b, a ≤ x.2.1 ∧ x.2.1 < x.2.2 ∧ x.2.2 ≤ b
  | 0, _, _, _, _, x, hx => by simp [wayF] at hx
  | f + 1, i, a, b, hab, x, hx => by
    unfold wayF at hx
    split at hx
    · cases hx
    · have hb := half_bd (n := b - a) (by omega)
      split at hx
      · rcases List.mem_cons.1 hx with rfl | h
        · simp only; omega
        · have := wayF_bd f i a _ (by omega) x h; omega
      · rcases List.mem_cons.1 hx with rfl | h
        · simp only; omega
        · have := wayF_bd f i _ b (by omega) x h; omega
def seg (l : List Nd) (a b : Nat) : List Nd := (l.take b).drop a
theorem seg_length (l : List Nd) (a b : Nat) (h : b ≤ l.length) : (seg l a b).length = b - a := by simp [seg]; omega
theorem seg_take (l : List Nd) (a k b : Nat) (h1 : a ≤ k) (h2 : k ≤ b) : (seg l a b).take (k - a) = seg l a k := by
  unfold seg
  rw [List.take_drop, List.take_take, show min (a + (k - a)) b = k by omega]
theorem seg_drop (l : List Nd) (a k b : Nat) (h1 : a ≤ k) (h2 : k ≤ b) : (seg l a b).drop (k - a) = seg l k b := by
  unfold seg
  rw [List.drop_drop, show a + (k - a) = k by omega]
theorem seg_app (l : List Nd) (a k b : Nat) (h1 : a ≤ k) (h2 : k ≤ b) : seg l a k ++ seg l k b = seg l a b := by
  rw [← seg_take l a k b h1 h2, ← seg_drop l a k b h1 h2, List.take_append_drop]
theorem seg_all (l : List Nd) : seg l 0 l.length = l := by simp [seg]
theorem seg_one (l : List Nd) (a : Nat) (h : a < l.length) : seg l a (a + 1) = [l[a]] := by
  unfold seg
  rw [List.take_succ_eq_append_getElem h, List.drop_append, List.drop_eq_nil_of_le (by simp; omega), List.length_take, show a - min a l.length = 0 by omega]; rfl
theorem vL_seg {l : List Nd} (h : vL l = true) (a b : Nat) (h1 : a ≤ b) (h2 : b ≤ l.length) : vL (seg l a b) = true := by
  have e : l = seg l 0 a ++ (seg l a b ++ seg l b l.length) := by
    rw [seg_app l a b _ h1 h2, seg_app l 0 a _ (by omega) (by omega), seg_all]
  rw [e] at h
  exact (vL_parts (vL_parts h).2).1
theorem root_seg (l : List Nd) (a b : Nat) (h : 2 ≤ b - a) (hb : b ≤ l.length) : root (seg l a b) = joinN (root (seg l a (a + half (b - a)))) (root (seg l (a + half (b - a)) b)) := by
  have hh := half_bd h
  rw [root_two (by rw [seg_length l a b hb]; exact h), seg_length l a b hb]
  have e1 := seg_take l a (a + half (b - a)) b (by omega) (by omega)
  have e2 := seg_drop l a (a + half (b - a)) b (by omega) (by omega)
  rw [show a + half (b - a) - a = half (b - a) by omega] at e1 e2
  rw [e1, e2]
/-- the path of a leaf -/
def pathN (l : List Nd) (i : Nat) : List Nd := ((way i l.length).map fun x => root (seg l x.2.1 x.2.2)).reverse
/-- a step upwards -/
def stepN (r : Bool) (p n : Nd) : Option Nd := if r then (if vL [n, p] then some (joinN n p) else none) else (if vL [p, n] then some (joinN p n) else none)
def climbF : List Bool → List Nd → Nd → Option Nd
  | r :: rs, p :: ps, n => (stepN r p n).bind (climbF rs ps)
  | _, _, n => some n
theorem climb_snoc : ∀ (rs : List Bool) (ps : List Nd) (r : Bool) (p n : Nd), rs.length = ps.length → climbF (rs ++ [r]) (ps ++ [p]) n = (climbF rs ps n).bind (stepN r p)
  | [], [], r, p, n, _ => by
    simp only [List.nil_append, climbF, Option.bind_some]
    cases stepN r p n <;> rfl
  | [], _ :: _, _, _, _, h => by simp at h
  | _ :: _, [], _, _, _, h => by simp at h
  | r' :: rs, p' :: ps, r, p, n, h => by
    simp only [List.cons_append, climbF]
    cases stepN r' p' n with
    | none => rfl
    | some x => exact climb_snoc rs ps r p x (by simpa using h)
/-- the sides of the way, from the leaf upwards -/
def sidesN (i n : Nat) : List Bool := ((way i n).map (·.1)).reverse
theorem vL_two {l r : List Nd} (h : vL (l ++ r) = true) (h1 : 1 ≤ l.length) (h2 : 1 ≤ r.length) : vL [root l, root r] = true := by
  have hp := vL_parts h
  have a := vL_root h1 hp.1
  have b := vL_root h2 hp.2
  have s1 := root_sums _ l rfl h1
  have s2 := root_sums _ r rfl h2
  simp only [vL, List.all_append, Bool.and_eq_true, decide_eq_true_eq, sumC_append] at h
  unfold vL
  rw [Bool.and_eq_true, decide_eq_true_eq]
  refine ⟨by simp [a, b], ?_⟩
  simp only [sumC, s1.1, s2.1]
  omega
theorem climb_seg (l : List Nd) (hv : vL l = true) : ∀ f i a b, a ≤ i → (hi : i < b) → (hb : b ≤ l.length) → b - a ≤ f →
    climbF ((wayF f i a b).map (·.1)).reverse ((wayF f i a b).map fun x => root (seg l x.2.1 x.2.2)).reverse (l[i]'(by omega)) = some (root (seg l a b)) := by
  intro f
  induction f with
  | zero => intro i a b h1 h2 h3 h4; omega
  | succ f ih =>
    intro i a b h1 h2 h3 h4
    by_cases h : b - a ≤ 1
    · rw [wayF_stop _ _ _ _ h]
      have hab : b = a + 1 := by omega
      have hia : i = a := by omega
      subst hab
      subst hia
      rw [seg_one l i (by omega)]
      rfl
    · have hh := half_bd (n := b - a) (by omega)
      have hv2 := vL_seg hv a b (by omega) h3
      rw [← seg_app l a (a + half (b - a)) b (by omega) (by omega)] at hv2
      have h2v := vL_two hv2 (by rw [seg_length _ _ _ (by omega)]; omega) (by rw [seg_length _ _ _ h3]; omega)
      unfold wayF
      rw [if_neg h]
      by_cases hk : i < a + half (b - a)
      · rw [if_pos hk]
        simp only [List.map_cons, List.reverse_cons]
        rw [climb_snoc _ _ _ _ _ (by simp), ih i a _ h1 hk (by omega) (by omega), Option.bind_some, stepN, if_pos rfl, if_pos h2v, ← root_seg l a b (by omega) h3]
      · rw [if_neg hk]
        simp only [List.map_cons, List.reverse_cons]
        rw [climb_snoc _ _ _ _ _ (by simp), ih i _ b (by omega) h2 h3 (by omega), Option.bind_some, stepN, if_neg (by simp), if_pos h2v, ← root_seg l a b (by omega) h3]
/-- paths lead to the root -/
theorem climb_path (l : List Nd) (hv : vL l = true) (i : Nat) (hi : i < l.length) : climbF (sidesN i l.length) (pathN l i) l[i] = some (root l) := by
  have := climb_seg l hv l.length i 0 l.length (by omega) hi (by omega) (by omega)
  rw [seg_all] at this
  exact this
theorem pathN_length (l : List Nd) (i : Nat) : (pathN l i).length = (sidesN i l.length).length := by simp [pathN, sidesN]
end Go.Proofs.SzTree
