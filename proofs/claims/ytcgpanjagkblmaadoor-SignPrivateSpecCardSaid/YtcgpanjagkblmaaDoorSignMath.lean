/- The plain laws of signatures: what is signed is accepted; only one S is accepted; differences; the nonce. No program in sight. -/
import Derived.Test.YtcgpanjagkblmaaDoorSign
namespace Go.Proofs.YtcgpanjagkblmaaDoor
open SzSha SzGrp
set_option linter.unusedVariables false
theorem expV_bd (a k : Int) : -9223372036854775808 ≤ expV a k ∧ expV a k ≤ 9223372036854775807 := by
  by_cases h : isE a = true
  · by_cases h2 : sc k = true
    · have := isE_bounds (isE_exp h h2); omega
    · have : expV a k = 0 := by unfold expV; rw [show sc k = false by simpa using h2]; simp
      omega
  · have : expV a k = 0 := by unfold expV; rw [show isE a = false by simpa using h]; simp
    omega
/-- what Verify says -/
def vfy (p : Int) (l : List Nat) (r s : Int) : Bool := isE p && isE r && sc s && (expV 4 s == mulV r (expV p (chal p r l)))
/-- the power of G with any integer as exponent -/
def EE (z : Int) : Int := expV 4 (z % 2305843009213688669)
theorem sc_mod (z : Int) : sc (z % 2305843009213688669) = true := sc_mid (by omega) (by omega)
theorem mod_sc {z : Int} (h : sc z = true) : z % 2305843009213688669 = z := by have := sc_bounds h; omega
theorem EE_sc {z : Int} (h : sc z = true) : expV 4 z = EE z := by unfold EE; rw [mod_sc h]
theorem EE_isE (z : Int) : isE (EE z) = true := isE_exp e4 (sc_mod z)
theorem EE_mod (z : Int) : EE (z % 2305843009213688669) = EE z := by unfold EE; rw [Int.emod_emod_of_dvd _ (Int.dvd_refl _)]
theorem sumV_sc {a b : Int} (ha : sc a = true) (hb : sc b = true) : sumV a b = (a + b) % 2305843009213688669 := by unfold sumV; rw [ha, hb]; rfl
theorem prodV_sc {a b : Int} (ha : sc a = true) (hb : sc b = true) : prodV a b = a * b % 2305843009213688669 := by unfold prodV; rw [ha, hb]; rfl
theorem EE_add (a b : Int) : mulV (EE a) (EE b) = EE (a + b) := by
  unfold EE
  rw [exp_sum e4 (sc_mod a) (sc_mod b), sumV_sc (sc_mod a) (sc_mod b), ← Int.add_emod]
theorem EE_mul (a b : Int) : expV (EE a) (b % 2305843009213688669) = EE (a * b) := by
  unfold EE
  rw [← exp_prod e4 (sc_mod a) (sc_mod b), prodV_sc (sc_mod a) (sc_mod b), ← Int.mul_emod]
theorem EE_mul' (a : Int) {b : Int} (hb : sc b = true) : expV (EE a) b = EE (a * b) := by
  have := EE_mul a b
  rwa [mod_sc hb] at this
theorem EE_zero : EE 0 = 1 := exp_zero e4
/-- a difference of scalars -/
def minV (a b : Int) : Int := sumV a (prodV 2305843009213688668 b)
theorem sc_last : sc 2305843009213688668 = true := by decide
theorem minV_sc {a b : Int} (ha : sc a = true) (hb : sc b = true) : minV a b = (a - b) % 2305843009213688669 := by
  unfold minV
  rw [prodV_sc sc_last hb, sumV_sc ha (sc_mod _)]
  omega
theorem EE_inj {a b : Int} (ha : sc a = true) (hb : sc b = true) (h : EE a = EE b) : a = b := by
  have e : EE (a - b) = 1 := by
    have h1 : EE (a - b) = mulV (EE a) (EE (-b)) := by rw [EE_add]; rfl
    rw [h1, h, EE_add, Int.add_right_neg, EE_zero]
  have hs := sc_mod (a - b)
  have ba := sc_bounds ha
  have bb := sc_bounds hb
  rcases Int.lt_or_le ((a - b) % 2305843009213688669) 1 with c | c
  · omega
  · have := base_ne hs c
    rw [beq_eq_false_iff_ne] at this
    exact absurd e this
theorem sgK_sc (x : Int) (l : List Nat) : sc (sgK x l) = true := sc_mid (by have := sgK_bd x l; omega) (by have := sgK_bd x l; omega)
theorem chal_sc (p r : Int) (l : List Nat) : sc (chal p r l) = true := sc_mid (by have := chal_bd p r l; omega) (by have := chal_bd p r l; omega)
theorem sgR_EE (x : Int) (l : List Nat) : sgR x l = EE (sgK x l) := EE_sc (sgK_sc x l)
theorem sgS_eq {x : Int} (l : List Nat) (hx : sc x = true) : sgS x l = (sgK x l + chal (expV 4 x) (sgR x l) l * x) % 2305843009213688669 := by
  unfold sgS
  rw [prodV_sc (chal_sc _ _ _) hx, sumV_sc (sgK_sc x l) (sc_mod _)]
  omega
theorem sgS_sc {x : Int} (l : List Nat) (hx : sc x = true) : sc (sgS x l) = true := by rw [sgS_eq l hx]; exact sc_mod _
theorem vfy_EE {x r s : Int} (l : List Nat) (hx : sc x = true) (hr : isE r = true) (hs : sc s = true) : vfy (expV 4 x) l r s = (EE s == mulV r (EE (x * chal (expV 4 x) r l))) := by
  unfold vfy
  rw [isE_exp e4 hx, hr, hs, EE_sc hs, ← EE_mul' x (chal_sc _ _ _), ← EE_sc hx]
  simp only [Bool.and_self, Bool.true_and]
/-- for each R exactly one S is accepted -/
theorem vfy_only {x : Int} (l : List Nat) (n : Int) (hx : sc x = true) : vfy (expV 4 x) l (sgR x l) n = decide (n = sgS x l) := by
  by_cases hn : sc n = true
  · rw [vfy_EE l hx (by rw [sgR_EE]; exact EE_isE _) hn]
    have e : mulV (sgR x l) (EE (x * chal (expV 4 x) (sgR x l) l)) = EE (sgS x l) := by
      conv => lhs; arg 1; rw [sgR_EE]
      rw [EE_add, sgS_eq l hx, EE_mod, Int.mul_comm x]
    rw [e]
    by_cases c : n = sgS x l
    · rw [c]; simp
    · rw [decide_eq_false c, beq_eq_false_iff_ne]
      exact fun h => c (EE_inj hn (sgS_sc l hx) h)
  · have hn' : sc n = false := by simpa using hn
    have c : n ≠ sgS x l := fun e => hn (e ▸ sgS_sc l hx)
    rw [decide_eq_false c]
    unfold vfy
    rw [hn']; simp
/-- what is signed is accepted -/
theorem vfy_sign {x : Int} (l : List Nat) (hx : sc x = true) : vfy (expV 4 x) l (sgR x l) (sgS x l) = true := by rw [vfy_only l _ hx]; simp
theorem expE_zero (a k : Int) : (expE a k == 0) = (isE a && sc k) := by
  unfold expE; cases isE a <;> cases sc k <;> rfl
theorem mulE_zero (a b : Int) : (mulE a b == 0) = (isE a && isE b) := by
  unfold mulE ck; cases isE a <;> cases isE b <;> rfl
/-- Verify is the equation of Schnorr -/
theorem vfy_eq (p : Int) (l : List Nat) (r s : Int) : vfy p l r s = ((expE 4 s == 0) && (expE p (chal p r l) == 0) && (mulE r (expV p (chal p r l)) == 0) && (expV 4 s == mulV r (expV p (chal p r l)))) := by
  rw [expE_zero, expE_zero, mulE_zero, e4, chal_sc]
  unfold vfy
  by_cases hp : isE p = true
  · rw [hp, isE_exp hp (chal_sc _ _ _)]
    cases isE r <;> cases sc s <;> simp
  · have hp' : isE p = false := by simpa using hp
    rw [hp']; simp
/-- the holder of the private key finds the nonce -/
theorem nonce {x : Int} (l : List Nat) (hx : sc x = true) : minV (sgS x l) (prodV (chal (expV 4 x) (sgR x l) l) x) = sgK x l := by
  rw [minV_sc (sgS_sc l hx) (sc_prod (chal_sc _ _ _) hx), prodV_sc (chal_sc _ _ _) hx, sgS_eq l hx]
  have := sgK_bd x l
  generalize chal (expV 4 x) (sgR x l) l * x = y
  omega
/-- signatures of one key differ as their challenges do -/
theorem differ {x : Int} (a b : List Nat) (hx : sc x = true) :
    expV 4 (minV (sgS x a) (sgS x b)) = mulV (mulV (sgR x a) (expV (sgR x b) 2305843009213688668)) (expV (expV 4 x) (minV (chal (expV 4 x) (sgR x a) a) (chal (expV 4 x) (sgR x b) b))) := by
  generalize hca : chal (expV 4 x) (sgR x a) a = ca
  generalize hcb : chal (expV 4 x) (sgR x b) b = cb
  have sa : sc ca = true := by rw [← hca]; exact chal_sc _ _ _
  have sb : sc cb = true := by rw [← hcb]; exact chal_sc _ _ _
  rw [minV_sc sa sb, minV_sc (sgS_sc a hx) (sgS_sc b hx), sgS_eq a hx, sgS_eq b hx, hca, hcb, sgR_EE, sgR_EE, EE_sc hx, EE_mul, EE_mul' _ sc_last, EE_add, EE_add, EE_sc (sc_mod _), EE_mod]
  unfold EE
  congr 1
  rw [Int.mul_sub, Int.mul_comm x ca, Int.mul_comm x cb]
  generalize ca * x = y
  generalize cb * x = z
  omega
theorem pos_sgR (x : Int) (l : List Nat) : 1 ≤ sgR x l := by rw [sgR_EE]; exact (isE_bounds (EE_isE _)).1
theorem isE_sgR (x : Int) (l : List Nat) : isE (sgR x l) = true := by rw [sgR_EE]; exact EE_isE _
theorem sc_minV {a b : Int} (ha : sc a = true) (hb : sc b = true) : sc (minV a b) = true := by rw [minV_sc ha hb]; exact sc_mod _
/-- the key that a number stands for -/
def keyOf (n : Int) : Int := 1 + (n % 4611686018427387904) % 2305843009213688668
theorem keyOf_key (n : Int) : isKey (keyOf n) = true := by
  unfold isKey keyOf
  rw [decide_eq_true (by omega), decide_eq_true (by omega)]; rfl
theorem keyOf_bd (n : Int) : 1 ≤ keyOf n ∧ keyOf n < 2305843009213688669 := by unfold keyOf; omega
end Go.Proofs.YtcgpanjagkblmaaDoor
