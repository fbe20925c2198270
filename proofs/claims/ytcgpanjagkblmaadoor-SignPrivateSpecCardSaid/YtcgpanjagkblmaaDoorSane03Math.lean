/- The examples of chapter 3, computed. -/
import Derived.Test.YtcgpanjagkblmaaDoorGroupMath
namespace Go.Proofs.SzGrp
open SzPow
theorem powP_eq (a k : Nat) (h : k < 18446744073709551616) : powP a k = pw a (top k (Lib.bitLen k) (Lib.bitLen k)) := (pw_all a k h).symm
theorem x1 : powP 1 Q = 1 := by rw [powP_eq _ _ (by decide)]; decide +kernel
theorem x4 : powP 4 Q = 1 := by rw [powP_eq _ _ (by decide)]; decide +kernel
theorem x16 : powP 16 Q = 1 := by rw [powP_eq _ _ (by decide)]; decide +kernel
theorem x2 : (powP 2 Q == 1) = false := by rw [powP_eq _ _ (by decide)]; decide +kernel
theorem xm : (powP 4611686018427377338 Q == 1) = false := by rw [powP_eq _ _ (by decide)]; decide +kernel
theorem e1 : isE 1 = true := by simp only [isE]; rw [show (1 : Int).toNat = 1 from rfl, x1]; decide
theorem e4 : isE 4 = true := by simp only [isE]; rw [show (4 : Int).toNat = 4 from rfl, x4]; decide
theorem e16 : isE 16 = true := by simp only [isE]; rw [show (16 : Int).toNat = 16 from rfl, x16]; decide
theorem e2 : isE 2 = false := by simp only [isE]; rw [show (2 : Int).toNat = 2 from rfl, x2]; decide
theorem em : isE 4611686018427377338 = false := by simp only [isE]; rw [show (4611686018427377338 : Int).toNat = 4611686018427377338 from rfl, xm]; decide
theorem c1 : ck 1 = 0 := by rw [ck_zero]; exact e1
theorem c4 : ck 4 = 0 := by rw [ck_zero]; exact e4
theorem c16 : ck 16 = 0 := by rw [ck_zero]; exact e16
theorem c2 : ck 2 = 30 := by unfold ck; rw [e2]; rfl
theorem cm : ck 4611686018427377338 = 30 := by unfold ck; rw [em]; rfl
theorem c0 : ck 0 = 30 := ck_low (by decide)
theorem cn : ck (-4) = 30 := ck_low (by decide)
theorem cp : ck 4611686018427377339 = 30 := ck_high (by decide)
theorem m44 : mulV 4 4 = 16 ∧ mulE 4 4 = 0 := by unfold mulV mulE; rw [e4, c4]; exact ⟨by decide, rfl⟩
theorem b3 : expV 4 3 = 64 ∧ expE 4 3 = 0 := by
  unfold expV expE; rw [e4]
  have : powP 4 3 = 64 := by rw [powP_eq _ _ (by decide)]; decide +kernel
  rw [show (4 : Int).toNat = 4 from rfl, show (3 : Int).toNat = 3 from rfl, this]
  exact ⟨by decide, by decide⟩
theorem xn : expE 4 (-1) = 1 := by unfold expE; rw [e4]; decide
theorem xq : expE 4 2305843009213688669 = 1 := by unfold expE; rw [e4]; decide
theorem i4 : expV 4 2305843009213688668 = 1152921504606844335 ∧ expE 4 2305843009213688668 = 0 := by
  unfold expV expE; rw [e4]
  have : powP 4 2305843009213688668 = 1152921504606844335 := by rw [powP_eq _ _ (by decide)]; decide +kernel
  rw [show (4 : Int).toNat = 4 from rfl, show (2305843009213688668 : Int).toNat = 2305843009213688668 from rfl, this]
  exact ⟨by decide, by decide⟩
theorem s1 : sumV 2305843009213688668 2 = 1 ∧ sumE 2305843009213688668 2 = 0 := by decide
theorem p1 : prodV 2305843009213688668 2305843009213688668 = 1 ∧ sumE 2305843009213688668 2305843009213688668 = 0 := by decide
theorem s0 : sumE 2305843009213688669 0 = 1 := by decide
end Go.Proofs.SzGrp
