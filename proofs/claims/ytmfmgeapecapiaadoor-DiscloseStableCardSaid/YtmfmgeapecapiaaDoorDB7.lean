/- sizar/disclose: in, validLine, validClaim, the numbers of lines and claims, lines, claims. sizar/digest: half. sizar/digest.Tree. Slices of digests: built, appended, reversed. -/
import Derived.Test.YtmfmgeapecapiaaDoorDB6
import Derived.Test.YtmfmgeapecapiaaDoorShelf
import Derived.Test.YtmfmgeapecapiaaDoorDB1
import Derived.IntWalk
import Derived.Lib.ItoaNum
namespace Go.Proofs.YtmfmgeapecapiaaDoor
open Go.RowKit SzSha SzTree
set_option linter.unusedVariables false
set_option maxRecDepth 100000
set_option maxHeartbeats 2000000 in
theorem in_any (x lo hi : Int) (w : World) : Calls Tryd.prog 46 #[.int .i64 x, .int .i64 lo, .int .i64 hi] w fun e w' => e = .returned (.bool (decide (lo ≤ x) && decide (x ≤ hi))) ∧ w = w' := by
  by_cases h : lo ≤ x
  · have d : decide (lo ≤ x) = true := decide_eq_true h
    have HE : Hid ((decide (lo ≤ x) && decide (x ≤ hi)) = decide (x ≤ hi)) := Lib.hid (by rw [d]; rfl)
    rw [HE.out]
    go_enter Tryd.func46, Tryd.ntmps46
    go_wp2_with fail
    go_ret
    exact ⟨rfl, rfl⟩
  · have d : decide (lo ≤ x) = false := decide_eq_false h
    have HE : Hid ((decide (lo ≤ x) && decide (x ≤ hi)) = false) := Lib.hid (by rw [d]; rfl)
    rw [HE.out]
    go_enter Tryd.func46, Tryd.ntmps46
    go_wp2_with fail
    go_ret
    exact ⟨rfl, rfl⟩
theorem and_dec {p q : Prop} [Decidable p] [Decidable q] (h : p ∧ q) : (decide p && decide q) = true := by simp [h]
theorem and_dec_no {p q : Prop} [Decidable p] [Decidable q] (h : ¬ (p ∧ q)) : (decide p && decide q) = false := by
  rw [← Bool.decide_and]; exact decide_eq_false h
/-- a valid claim -/
def kOk (p r : Int) : Prop := 0 ≤ p ∧ p ≤ 255 ∧ 0 ≤ r ∧ r ≤ 63
instance (p r : Int) : Decidable (kOk p r) := by unfold kOk; infer_instance
set_option maxHeartbeats 4000000 in
theorem vline_0 (c0 c1 c2 c3 c4 : Int) (w : World) (d0 : (decide (0 ≤ c0) && decide (c0 ≤ 4095)) = false) : Calls Tryd.prog 88 #[.agg #[.int .i64 c0, .int .i64 c1, .int .i64 c2, .int .i64 c3, .int .i64 c4]] w fun e w' => e = .returned (.bool false) ∧ Below w.heap.size w w' := by
  have HB := Lib.hid ((Below.refl _ w).alloc (Nat.le_refl _) (.cells #[.int .i64 c0, .int .i64 c1, .int .i64 c2, .int .i64 c3, .int .i64 c4] 41))
  have D0 := Lib.hid d0
  clear d0
  go_enter Tryd.func88, Tryd.ntmps88
  go_wp2_with fail
  refine (in_any _ _ _ _).mono ?_
  rintro e w0 ⟨rfl, rfl⟩
  rw [D0.out]
  go_wp2_with fail
  go_ret
  exact ⟨rfl, HB.out⟩
set_option maxHeartbeats 4000000 in
theorem vline_1 (c0 c1 c2 c3 c4 : Int) (w : World) (d0 : (decide (0 ≤ c0) && decide (c0 ≤ 4095)) = true) (d1 : (decide (0 ≤ c1) && decide (c1 ≤ 1023)) = false) : Calls Tryd.prog 88 #[.agg #[.int .i64 c0, .int .i64 c1, .int .i64 c2, .int .i64 c3, .int .i64 c4]] w fun e w' => e = .returned (.bool false) ∧ Below w.heap.size w w' := by
  have HB := Lib.hid ((Below.refl _ w).alloc (Nat.le_refl _) (.cells #[.int .i64 c0, .int .i64 c1, .int .i64 c2, .int .i64 c3, .int .i64 c4] 41))
  have D0 := Lib.hid d0
  have D1 := Lib.hid d1
  clear d0 d1
  go_enter Tryd.func88, Tryd.ntmps88
  go_wp2_with fail
  refine (in_any _ _ _ _).mono ?_
  rintro e w0 ⟨rfl, rfl⟩
  rw [D0.out]
  go_wp2_with fail
  refine (in_any _ _ _ _).mono ?_
  rintro e w1 ⟨rfl, rfl⟩
  rw [D1.out]
  go_wp2_with fail
  go_ret
  exact ⟨rfl, HB.out⟩
set_option maxHeartbeats 4000000 in
theorem vline_2 (c0 c1 c2 c3 c4 : Int) (w : World) (d0 : (decide (0 ≤ c0) && decide (c0 ≤ 4095)) = true) (d1 : (decide (0 ≤ c1) && decide (c1 ≤ 1023)) = true) (d2 : (decide (0 ≤ c2) && decide (c2 ≤ 12)) = false) : Calls Tryd.prog 88 #[.agg #[.int .i64 c0, .int .i64 c1, .int .i64 c2, .int .i64 c3, .int .i64 c4]] w fun e w' => e = .returned (.bool false) ∧ Below w.heap.size w w' := by
  have HB := Lib.hid ((Below.refl _ w).alloc (Nat.le_refl _) (.cells #[.int .i64 c0, .int .i64 c1, .int .i64 c2, .int .i64 c3, .int .i64 c4] 41))
  have D0 := Lib.hid d0
  have D1 := Lib.hid d1
  have D2 := Lib.hid d2
  clear d0 d1 d2
  go_enter Tryd.func88, Tryd.ntmps88
  go_wp2_with fail
  refine (in_any _ _ _ _).mono ?_
  rintro e w0 ⟨rfl, rfl⟩
  rw [D0.out]
  go_wp2_with fail
  refine (in_any _ _ _ _).mono ?_
  rintro e w1 ⟨rfl, rfl⟩
  rw [D1.out]
  go_wp2_with fail
  refine (in_any _ _ _ _).mono ?_
  rintro e w2 ⟨rfl, rfl⟩
  rw [D2.out]
  go_wp2_with fail
  go_ret
  exact ⟨rfl, HB.out⟩
set_option maxHeartbeats 4000000 in
theorem vline_3 (c0 c1 c2 c3 c4 : Int) (w : World) (d0 : (decide (0 ≤ c0) && decide (c0 ≤ 4095)) = true) (d1 : (decide (0 ≤ c1) && decide (c1 ≤ 1023)) = true) (d2 : (decide (0 ≤ c2) && decide (c2 ≤ 12)) = true) (d3 : (decide (0 ≤ c3) && decide (c3 ≤ 60)) = false) : Calls Tryd.prog 88 #[.agg #[.int .i64 c0, .int .i64 c1, .int .i64 c2, .int .i64 c3, .int .i64 c4]] w fun e w' => e = .returned (.bool false) ∧ Below w.heap.size w w' := by
  have HB := Lib.hid ((Below.refl _ w).alloc (Nat.le_refl _) (.cells #[.int .i64 c0, .int .i64 c1, .int .i64 c2, .int .i64 c3, .int .i64 c4] 41))
  have D0 := Lib.hid d0
  have D1 := Lib.hid d1
  have D2 := Lib.hid d2
  have D3 := Lib.hid d3
  clear d0 d1 d2 d3
  go_enter Tryd.func88, Tryd.ntmps88
  go_wp2_with fail
  refine (in_any _ _ _ _).mono ?_
  rintro e w0 ⟨rfl, rfl⟩
  rw [D0.out]
  go_wp2_with fail
  refine (in_any _ _ _ _).mono ?_
  rintro e w1 ⟨rfl, rfl⟩
  rw [D1.out]
  go_wp2_with fail
  refine (in_any _ _ _ _).mono ?_
  rintro e w2 ⟨rfl, rfl⟩
  rw [D2.out]
  go_wp2_with fail
  refine (in_any _ _ _ _).mono ?_
  rintro e w3 ⟨rfl, rfl⟩
  rw [D3.out]
  go_wp2_with fail
  go_ret
  exact ⟨rfl, HB.out⟩
set_option maxHeartbeats 4000000 in
theorem vline_4 (c0 c1 c2 c3 c4 : Int) (w : World) (d0 : (decide (0 ≤ c0) && decide (c0 ≤ 4095)) = true) (d1 : (decide (0 ≤ c1) && decide (c1 ≤ 1023)) = true) (d2 : (decide (0 ≤ c2) && decide (c2 ≤ 12)) = true) (d3 : (decide (0 ≤ c3) && decide (c3 ≤ 60)) = true) (d4 : (decide (0 ≤ c4) && decide (c4 ≤ 6)) = false) : Calls Tryd.prog 88 #[.agg #[.int .i64 c0, .int .i64 c1, .int .i64 c2, .int .i64 c3, .int .i64 c4]] w fun e w' => e = .returned (.bool false) ∧ Below w.heap.size w w' := by
  have HB := Lib.hid ((Below.refl _ w).alloc (Nat.le_refl _) (.cells #[.int .i64 c0, .int .i64 c1, .int .i64 c2, .int .i64 c3, .int .i64 c4] 41))
  have D0 := Lib.hid d0
  have D1 := Lib.hid d1
  have D2 := Lib.hid d2
  have D3 := Lib.hid d3
  have D4 := Lib.hid d4
  clear d0 d1 d2 d3 d4
  go_enter Tryd.func88, Tryd.ntmps88
  go_wp2_with fail
  refine (in_any _ _ _ _).mono ?_
  rintro e w0 ⟨rfl, rfl⟩
  rw [D0.out]
  go_wp2_with fail
  refine (in_any _ _ _ _).mono ?_
  rintro e w1 ⟨rfl, rfl⟩
  rw [D1.out]
  go_wp2_with fail
  refine (in_any _ _ _ _).mono ?_
  rintro e w2 ⟨rfl, rfl⟩
  rw [D2.out]
  go_wp2_with fail
  refine (in_any _ _ _ _).mono ?_
  rintro e w3 ⟨rfl, rfl⟩
  rw [D3.out]
  go_wp2_with fail
  refine (in_any _ _ _ _).mono ?_
  rintro e w4 ⟨rfl, rfl⟩
  rw [D4.out]
  go_wp2_with fail
  go_ret
  exact ⟨rfl, HB.out⟩
set_option maxHeartbeats 4000000 in
theorem vline_5 (c0 c1 c2 c3 c4 : Int) (w : World) (d0 : (decide (0 ≤ c0) && decide (c0 ≤ 4095)) = true) (d1 : (decide (0 ≤ c1) && decide (c1 ≤ 1023)) = true) (d2 : (decide (0 ≤ c2) && decide (c2 ≤ 12)) = true) (d3 : (decide (0 ≤ c3) && decide (c3 ≤ 60)) = true) (d4 : (decide (0 ≤ c4) && decide (c4 ≤ 6)) = true) : Calls Tryd.prog 88 #[.agg #[.int .i64 c0, .int .i64 c1, .int .i64 c2, .int .i64 c3, .int .i64 c4]] w fun e w' => e = .returned (.bool true) ∧ Below w.heap.size w w' := by
  have HB := Lib.hid ((Below.refl _ w).alloc (Nat.le_refl _) (.cells #[.int .i64 c0, .int .i64 c1, .int .i64 c2, .int .i64 c3, .int .i64 c4] 41))
  have D0 := Lib.hid d0
  have D1 := Lib.hid d1
  have D2 := Lib.hid d2
  have D3 := Lib.hid d3
  have D4 := Lib.hid d4
  clear d0 d1 d2 d3 d4
  go_enter Tryd.func88, Tryd.ntmps88
  go_wp2_with fail
  refine (in_any _ _ _ _).mono ?_
  rintro e w0 ⟨rfl, rfl⟩
  rw [D0.out]
  go_wp2_with fail
  refine (in_any _ _ _ _).mono ?_
  rintro e w1 ⟨rfl, rfl⟩
  rw [D1.out]
  go_wp2_with fail
  refine (in_any _ _ _ _).mono ?_
  rintro e w2 ⟨rfl, rfl⟩
  rw [D2.out]
  go_wp2_with fail
  refine (in_any _ _ _ _).mono ?_
  rintro e w3 ⟨rfl, rfl⟩
  rw [D3.out]
  go_wp2_with fail
  refine (in_any _ _ _ _).mono ?_
  rintro e w4 ⟨rfl, rfl⟩
  rw [D4.out]
  go_wp2_with fail
  go_ret
  exact ⟨rfl, HB.out⟩
theorem vline_any (c0 c1 c2 c3 c4 : Int) (w : World) : Calls Tryd.prog 88 #[.agg #[.int .i64 c0, .int .i64 c1, .int .i64 c2, .int .i64 c3, .int .i64 c4]] w fun e w' => e = .returned (.bool (decide (lOk c0 c1 c2 c3 c4))) ∧ Below w.heap.size w w' := by
  by_cases b0 : 0 ≤ c0 ∧ c0 ≤ 4095
  case neg =>
    rw [decide_eq_false (show ¬ (lOk c0 c1 c2 c3 c4) by unfold lOk; omega)]
    exact vline_0 c0 c1 c2 c3 c4  w (and_dec_no b0)
  by_cases b1 : 0 ≤ c1 ∧ c1 ≤ 1023
  case neg =>
    rw [decide_eq_false (show ¬ (lOk c0 c1 c2 c3 c4) by unfold lOk; omega)]
    exact vline_1 c0 c1 c2 c3 c4  w (and_dec b0) (and_dec_no b1)
  by_cases b2 : 0 ≤ c2 ∧ c2 ≤ 12
  case neg =>
    rw [decide_eq_false (show ¬ (lOk c0 c1 c2 c3 c4) by unfold lOk; omega)]
    exact vline_2 c0 c1 c2 c3 c4  w (and_dec b0) (and_dec b1) (and_dec_no b2)
  by_cases b3 : 0 ≤ c3 ∧ c3 ≤ 60
  case neg =>
    rw [decide_eq_false (show ¬ (lOk c0 c1 c2 c3 c4) by unfold lOk; omega)]
    exact vline_3 c0 c1 c2 c3 c4  w (and_dec b0) (and_dec b1) (and_dec b2) (and_dec_no b3)
  by_cases b4 : 0 ≤ c4 ∧ c4 ≤ 6
  case neg =>
    rw [decide_eq_false (show ¬ (lOk c0 c1 c2 c3 c4) by unfold lOk; omega)]
    exact vline_4 c0 c1 c2 c3 c4  w (and_dec b0) (and_dec b1) (and_dec b2) (and_dec b3) (and_dec_no b4)
  rw [decide_eq_true (show lOk c0 c1 c2 c3 c4 by unfold lOk; omega)]
  exact vline_5 c0 c1 c2 c3 c4  w (and_dec b0) (and_dec b1) (and_dec b2) (and_dec b3) (and_dec b4)
set_option maxHeartbeats 4000000 in
theorem vclaim_0 (p r : Int) (m : Bool) (w : World) (d0 : (decide (0 ≤ p) && decide (p ≤ 255)) = false) : Calls Tryd.prog 93 #[.agg #[.int .i64 p, .int .i64 r, .bool m]] w fun e w' => e = .returned (.bool false) ∧ Below w.heap.size w w' := by
  have HB := Lib.hid ((Below.refl _ w).alloc (Nat.le_refl _) (.cells #[.int .i64 p, .int .i64 r, .bool m] 49))
  have D0 := Lib.hid d0
  clear d0
  go_enter Tryd.func93, Tryd.ntmps93
  go_wp2_with fail
  refine (in_any _ _ _ _).mono ?_
  rintro e w0 ⟨rfl, rfl⟩
  rw [D0.out]
  go_wp2_with fail
  go_ret
  exact ⟨rfl, HB.out⟩
set_option maxHeartbeats 4000000 in
theorem vclaim_1 (p r : Int) (m : Bool) (w : World) (d0 : (decide (0 ≤ p) && decide (p ≤ 255)) = true) (d1 : (decide (0 ≤ r) && decide (r ≤ 63)) = false) : Calls Tryd.prog 93 #[.agg #[.int .i64 p, .int .i64 r, .bool m]] w fun e w' => e = .returned (.bool false) ∧ Below w.heap.size w w' := by
  have HB := Lib.hid ((Below.refl _ w).alloc (Nat.le_refl _) (.cells #[.int .i64 p, .int .i64 r, .bool m] 49))
  have D0 := Lib.hid d0
  have D1 := Lib.hid d1
  clear d0 d1
  go_enter Tryd.func93, Tryd.ntmps93
  go_wp2_with fail
  refine (in_any _ _ _ _).mono ?_
  rintro e w0 ⟨rfl, rfl⟩
  rw [D0.out]
  go_wp2_with fail
  refine (in_any _ _ _ _).mono ?_
  rintro e w1 ⟨rfl, rfl⟩
  rw [D1.out]
  go_wp2_with fail
  go_ret
  exact ⟨rfl, HB.out⟩
set_option maxHeartbeats 4000000 in
theorem vclaim_2 (p r : Int) (m : Bool) (w : World) (d0 : (decide (0 ≤ p) && decide (p ≤ 255)) = true) (d1 : (decide (0 ≤ r) && decide (r ≤ 63)) = true) : Calls Tryd.prog 93 #[.agg #[.int .i64 p, .int .i64 r, .bool m]] w fun e w' => e = .returned (.bool true) ∧ Below w.heap.size w w' := by
  have HB := Lib.hid ((Below.refl _ w).alloc (Nat.le_refl _) (.cells #[.int .i64 p, .int .i64 r, .bool m] 49))
  have D0 := Lib.hid d0
  have D1 := Lib.hid d1
  clear d0 d1
  go_enter Tryd.func93, Tryd.ntmps93
  go_wp2_with fail
  refine (in_any _ _ _ _).mono ?_
  rintro e w0 ⟨rfl, rfl⟩
  rw [D0.out]
  go_wp2_with fail
  refine (in_any _ _ _ _).mono ?_
  rintro e w1 ⟨rfl, rfl⟩
  rw [D1.out]
  go_wp2_with fail
  go_ret
  exact ⟨rfl, HB.out⟩
theorem vclaim_any (p r : Int) (m : Bool) (w : World) : Calls Tryd.prog 93 #[.agg #[.int .i64 p, .int .i64 r, .bool m]] w fun e w' => e = .returned (.bool (decide (kOk p r))) ∧ Below w.heap.size w w' := by
  by_cases b0 : 0 ≤ p ∧ p ≤ 255
  case neg =>
    rw [decide_eq_false (show ¬ (kOk p r) by unfold kOk; omega)]
    exact vclaim_0 p r  m  w (and_dec_no b0)
  by_cases b1 : 0 ≤ r ∧ r ≤ 63
  case neg =>
    rw [decide_eq_false (show ¬ (kOk p r) by unfold kOk; omega)]
    exact vclaim_1 p r  m  w (and_dec b0) (and_dec_no b1)
  rw [decide_eq_true (show kOk p r by unfold kOk; omega)]
  exact vclaim_2 p r  m  w (and_dec b0) (and_dec b1)
/-- the numbers of lines and of claims -/
def noL (c0 c1 : Int) : Int := wrap64 (wrap64 (4096 * c1) + c0)
def noK (p r : Int) : Int := wrap64 (wrap64 (64 * p) + r)
theorem noL_val {c0 c1 c2 c3 c4 : Int} (h : lOk c0 c1 c2 c3 c4) : noL c0 c1 = 4096 * c1 + c0 := by unfold lOk at h; unfold noL wrap64; omega
theorem noK_val {p r : Int} (h : kOk p r) : noK p r = 64 * p + r := by unfold kOk at h; unfold noK wrap64; omega
theorem noL_bd (c0 c1 : Int) : I64 (noL c0 c1) := by unfold I64 noL wrap64; omega
theorem noK_bd (p r : Int) : I64 (noK p r) := by unfold I64 noK wrap64; omega
set_option maxHeartbeats 2000000 in
theorem noL_any (c0 c1 c2 c3 c4 : Int) (w : World) : Calls Tryd.prog 86 #[.agg #[.int .i64 c0, .int .i64 c1, .int .i64 c2, .int .i64 c3, .int .i64 c4]] w fun e w' => e = .returned (.int .i64 (noL c0 c1)) ∧ Below w.heap.size w w' := by
  have HB := Lib.hid ((Below.refl _ w).alloc (Nat.le_refl _) (.cells #[.int .i64 c0, .int .i64 c1, .int .i64 c2, .int .i64 c3, .int .i64 c4] 41))
  go_enter Tryd.func86, Tryd.ntmps86
  go_wp2_with fail
  go_ret
  exact ⟨by unfold noL; rfl, HB.out⟩
set_option maxHeartbeats 2000000 in
theorem noK_any (p r : Int) (m : Bool) (w : World) : Calls Tryd.prog 91 #[.agg #[.int .i64 p, .int .i64 r, .bool m]] w fun e w' => e = .returned (.int .i64 (noK p r)) ∧ Below w.heap.size w w' := by
  have HB := Lib.hid ((Below.refl _ w).alloc (Nat.le_refl _) (.cells #[.int .i64 p, .int .i64 r, .bool m] 49))
  go_enter Tryd.func91, Tryd.ntmps91
  go_wp2_with fail
  go_ret
  exact ⟨by unfold noK; rfl, HB.out⟩
/-- what lines() and claims() give -/
def fnV (f : Nat) : Value := .func (.func f) #[] #[]
def tabL : Array Value := #[.int .i64 1, .func (.func 88) #[] #[], .func (.func 86) #[] #[], .func (.func 87) #[] #[]]
def tabK : Array Value := #[.int .i64 2, .func (.func 93) #[] #[], .func (.func 91) #[] #[], .func (.func 92) #[] #[]]
set_option maxHeartbeats 2000000 in
theorem lines_any (w : World) : Calls Tryd.prog 47 #[] w fun e w' => e = .returned (.agg tabL) ∧ Below w.heap.size w w' := by
  go_enter Tryd.func47, Tryd.ntmps47
  go_wp2_with (refine wpList_store_row rfl 106 (.tmp 0) (.tmp 5) rfl w.heap.size tabL rfl rfl 106 _ (heap_alloc_new w _) (by kernel_rfl) rfl (by decide +kernel) ?_)
  refine bodyPost_ret (results_cell_row rfl _ _ w.heap.size 106 tabL (0, 0) _ rfl (laid_row w _ tabL 106).2.2 Tryd.underlying106 rfl (by kernel_rfl)) rfl ?_
  exact ⟨rfl, (laid_row w _ tabL 106).1⟩
set_option maxHeartbeats 2000000 in
theorem claims_any (w : World) : Calls Tryd.prog 49 #[] w fun e w' => e = .returned (.agg tabK) ∧ Below w.heap.size w w' := by
  go_enter Tryd.func49, Tryd.ntmps49
  go_wp2_with (refine wpList_store_row rfl 113 (.tmp 0) (.tmp 5) rfl w.heap.size tabK rfl rfl 113 _ (heap_alloc_new w _) (by kernel_rfl) rfl (by decide +kernel) ?_)
  refine bodyPost_ret (results_cell_row rfl _ _ w.heap.size 113 tabK (0, 0) _ rfl (laid_row w _ tabK 113).2.2 Tryd.underlying113 rfl (by kernel_rfl)) rfl ?_
  exact ⟨rfl, (laid_row w _ tabK 113).1⟩
end Go.Proofs.YtmfmgeapecapiaaDoor
namespace Go.Proofs.YtmfmgeapecapiaaDoor
open Go.RowKit SzSha SzTree
set_option linter.unusedVariables false
set_option maxRecDepth 100000
theorem bitLen_log {m k : Nat} (h1 : 2 ^ k ≤ m) (h2 : m < 2 ^ (k + 1)) (h3 : m < 2 ^ 64) : Lib.bitLen m = k + 1 := by
  have hm : m ≠ 0 := by have := Nat.two_pow_pos k; omega
  obtain ⟨a, b, c⟩ := Lib.bitLenAux_bounds 64 m h3 hm
  have e : Lib.bitLenAux 64 m = Lib.bitLen m := rfl
  rw [e] at a b c
  have q1 : 2 ^ k < 2 ^ Lib.bitLen m := by omega
  have q2 : 2 ^ (Lib.bitLen m - 1) < 2 ^ (k + 1) := by omega
  have r1 := (Nat.pow_lt_pow_iff_right (a := 2) (by omega)).1 q1
  have r2 := (Nat.pow_lt_pow_iff_right (a := 2) (by omega)).1 q2
  omega
set_option maxHeartbeats 2000000 in
theorem dhalf_any (n : Nat) (w : World) (h2 : 2 ≤ n) (hn : n ≤ 2199023255552) : Calls Tryd.prog 84 #[.int .i64 (n : Nat)] w fun e w' => e = .returned (.int .i64 (half n : Nat)) ∧ w = w' := by
  have e1 : IntKind.i64.wrap ((n : Int) - 1) = (n : Int) - 1 := IntWalk.i64_in _ (by omega)
  have e2 : IntKind.u64.wrap ((n : Int) - 1) = (n : Int) - 1 := by rw [IntKind.wrap_u64]; omega
  obtain ⟨k, HK⟩ : ∃ k, Hid (Nat.log2 (n - 1) = k) := ⟨_, Lib.hid rfl⟩
  have hlog := (Nat.log2_eq_iff (n := n - 1) (k := k) (by omega)).1 HK.out
  have hk : k ≤ 62 := by
    apply Classical.byContradiction
    intro hc
    have : 2 ^ 63 ≤ 2 ^ k := Nat.pow_le_pow_right (by omega) (by omega)
    omega
  have HE : Hid (half n = 2 ^ k) := Lib.hid (by rw [half_log h2 (by omega), HK.out])
  have HB : Hid (Lib.bitLen (n - 1) = k + 1) := Lib.hid (bitLen_log hlog.1 hlog.2 (by omega))
  have hw : IntKind.i64.wrap (((k + 1 : Nat) : Int) - 1) = (k : Int) := by rw [IntWalk.i64_in _ (by omega)]; omega
  have hw2 : IntKind.i64.wrap ((k : Int) + 1 - 1) = (k : Int) := by rw [IntWalk.i64_in _ (by omega)]; omega
  obtain ⟨p, HP⟩ : ∃ p : Nat, Hid (2 ^ k = p) := ⟨_, Lib.hid rfl⟩
  have HZ : Hid (wrap64 ((2 : Int) ^ k) = (p : Int)) := Lib.hid (by
    have hp : (2 : Nat) ^ k ≤ 2 ^ 62 := Nat.pow_le_pow_right (by omega) hk
    have e3 : (2 : Int) ^ k = ((2 ^ k : Nat) : Int) := by simp
    rw [e3, HP.out]
    rw [HP.out, show (2 : Nat) ^ 62 = 4611686018427387904 by decide] at hp
    unfold wrap64
    omega)
  clear hlog
  go_enter Tryd.func84, Tryd.ntmps84
  go_wp2_with fail
  refine (Tryd.bits_Len ((n : Int) - 1) w (by omega) (by omega)).mono ?_
  rintro e w2 ⟨rfl, rfl⟩
  rw [show ((n : Int) - 1).toNat = n - 1 by omega, HB.out]
  go_wp2_with fail
  go_ret
  exact ⟨by rw [HE.out, HP.out, ← HZ.out]; rfl, rfl⟩
end Go.Proofs.YtmfmgeapecapiaaDoor
namespace Go.Proofs.YtmfmgeapecapiaaDoor
open Go.RowKit SzSha SzTree
set_option linter.unusedVariables false
set_option maxRecDepth 100000
/-- lists of digests -/
def flatD (ls : List Dg) : List Value := ls.flatMap dgC
structure InD (w : World) (A : Option Addr) (n c : Nat) (ls : List Dg) : Prop where
  len : ls.length = n
  cap : n ≤ c
  none_ : A = none → c = 0
  ok : ∀ x ∈ ls, DgOk x
  rd : 0 < ls.length → ∃ g off, A = some ⟨g, off, none⟩ ∧ g < w.heap.size ∧ w.rangeAt g off (flatD ls)
theorem InD.below {w w' : World} {A : Option Addr} {n c : Nat} {ls : List Dg} (h : InD w A n c ls) (hb : Below w.heap.size w w') : InD w' A n c ls :=
  ⟨h.len, h.cap, h.none_, h.ok, fun h0 => by
    obtain ⟨g, off, e, hg, hr⟩ := h.rd h0
    exact ⟨g, off, e, Nat.lt_of_lt_of_le hg hb.size, rangeAt_below hr hg hb⟩⟩
theorem flatD_append (a b : List Dg) : flatD (a ++ b) = flatD a ++ flatD b := by unfold flatD; rw [List.flatMap_append]
theorem flatD_length : ∀ (ls : List Dg), (∀ x ∈ ls, DgOk x) → (flatD ls).length = ls.length * 32
  | [], _ => rfl
  | n :: ls, ho => by
    have h1 : (dgC n).length = 32 := by rw [dgC_length]; exact (ho n (by simp)).len
    have h2 : (ls.flatMap dgC).length = ls.length * 32 := flatD_length ls (fun x hx => ho x (List.mem_cons_of_mem _ hx))
    show ((n :: ls).flatMap dgC).length = _
    rw [List.flatMap_cons, List.length_append, h1, h2, List.length_cons]; omega
theorem InD.take {w : World} {g off n c : Nat} {ls : List Dg} (h : InD w (some ⟨g, off, none⟩) n c ls) (k : Nat) (hk : k ≤ n) : InD w (some ⟨g, off, none⟩) k c (ls.take k) :=
  ⟨by rw [List.length_take, h.len]; omega, by have := h.cap; omega, (fun e => by cases e), fun x hx => h.ok x (List.mem_of_mem_take hx), fun h0 => by
    rw [List.length_take] at h0
    obtain ⟨g', off', e, hg, hr⟩ := h.rd (by omega)
    cases e
    refine ⟨g, off, rfl, hg, fun j v hj => hr j v ?_⟩
    have e2 : flatD ls = flatD (ls.take k) ++ flatD (ls.drop k) := by rw [← flatD_append, List.take_append_drop]
    rw [e2, List.getElem?_append_left (List.getElem?_eq_some_iff.1 hj).1]; exact hj⟩
theorem InD.drop {w : World} {g off n c : Nat} {ls : List Dg} (h : InD w (some ⟨g, off, none⟩) n c ls) (k : Nat) (hk : k ≤ n) : InD w (some ⟨g, off + k * 32, none⟩) (n - k) (c - k) (ls.drop k) :=
  ⟨by rw [List.length_drop, h.len], by have := h.cap; omega, (fun e => by cases e), fun x hx => h.ok x (List.mem_of_mem_drop hx), fun h0 => by
    rw [List.length_drop] at h0
    obtain ⟨g', off', e, hg, hr⟩ := h.rd (by omega)
    cases e
    refine ⟨g, off + k * 32, rfl, hg, fun j v hj => ?_⟩
    have e2 : flatD ls = flatD (ls.take k) ++ flatD (ls.drop k) := by rw [← flatD_append, List.take_append_drop]
    have e3 : (flatD (ls.take k)).length = k * 32 := by
      rw [flatD_length _ (fun x hx => h.ok x (List.mem_of_mem_take hx)), List.length_take, h.len]
      rw [show min k n = k by omega]
    rw [Nat.add_assoc]
    refine hr (k * 32 + j) v ?_
    rw [e2, List.getElem?_append_right (by omega), e3, Nat.add_sub_cancel_left]; exact hj⟩
theorem rangeD_one {w : World} {g off : Nat} {ls : List Dg} (hr : w.rangeAt g off (flatD ls)) (ho : ∀ x ∈ ls, DgOk x) (k : Nat) (hk : k < ls.length) : w.rangeAt g (off + k * 32) (dgC ls[k]) := fun j v hj => by
  have hj2 : j < 32 := by have := (List.getElem?_eq_some_iff.1 hj).1; rw [dgC_length, (ho _ (List.getElem_mem hk)).len] at this; exact this
  rw [Nat.add_assoc]
  refine hr (k * 32 + j) v ?_
  have e1 : ls = ls.take k ++ (ls[k] :: ls.drop (k + 1)) := by rw [← List.drop_eq_getElem_cons hk, List.take_append_drop]
  have e3 : (flatD (ls.take k)).length = k * 32 := by
    rw [flatD_length _ (fun x hx => ho x (List.mem_of_mem_take hx)), List.length_take, show min k ls.length = k by omega]
  have e2 : flatD ls = flatD (ls.take k) ++ (dgC ls[k] ++ flatD (ls.drop (k + 1))) := by
    conv => lhs; rw [e1]
    rw [flatD_append]; rfl
  rw [e2, List.getElem?_append_right (by omega), e3, Nat.add_sub_cancel_left, List.getElem?_append_left (by rw [dgC_length, (ho _ (List.getElem_mem hk)).len]; exact hj2)]
  exact hj
theorem dgC_infoL {l : List Nat} (h : DgOk l) : (Tryd.prog.info? 25).map (·.size) = some (dgC l).length := by have := dgC_info h; simpa using this
def wDt (W0 : World) (br : Nat) (g : Nat) (off : Nat) (n : Nat) (c : Nat) (k : Nat) (a : List Nat) (b : List Nat) (r : List Nat) : Nat → Value → World → Prop
  | 0, fv, _ => fv = Value.slice (some ⟨g, off, none⟩) n c
  | 1, fv, _ => fv = Value.int .i64 ((k : Nat))
  | 2, fv, _ => fv = Value.slice (some ⟨g, off, none⟩) k c
  | 3, fv, _ => fv = dgV a
  | 4, fv, _ => fv = Value.slice (some ⟨g, off, none⟩) n c
  | 5, fv, _ => fv = Value.int .i64 ((k : Nat))
  | 6, fv, _ => fv = Value.slice (some ⟨g, off + k * 32, none⟩) (n - k) (c - k)
  | 7, fv, _ => fv = dgV b
  | 8, fv, _ => fv = dgV r
  | 9, fv, fw => fw.heap[br]? = some (.cells (dgC r).toArray 25 (0, 0)) ∧ Below W0.heap.size W0 fw
  | _, _, _ => True
theorem wDt_below {W0 : World} {br : Nat} {g : Nat} {off : Nat} {n : Nat} {c : Nat} {k : Nat} {a : List Nat} {b : List Nat} {r : List Nat} {w w' : World} (hb : Below w.heap.size w w') : ∀ j v, wDt W0 br g off n c k a b r j v w → wDt W0 br g off n c k a b r j v w'
  | 0, v, h => h
  | 1, v, h => h
  | 2, v, h => h
  | 3, v, h => h
  | 4, v, h => h
  | 5, v, h => h
  | 6, v, h => h
  | 7, v, h => h
  | 8, v, h => h
  | 9, v, h => ⟨row_kept h.1 hb, h.2.trans (hb.mono h.2.size)⟩
  | n + 10, v, h => trivial
theorem wDt_pure {W0 : World} {br : Nat} {g : Nat} {off : Nat} {n : Nat} {c : Nat} {k : Nat} {a : List Nat} {b : List Nat} {r : List Nat} {w w' : World} : ∀ j v, j ≠ 9 → wDt W0 br g off n c k a b r j v w → wDt W0 br g off n c k a b r j v w'
  | 0, v, _, h => h
  | 1, v, _, h => h
  | 2, v, _, h => h
  | 3, v, _, h => h
  | 4, v, _, h => h
  | 5, v, _, h => h
  | 6, v, _, h => h
  | 7, v, _, h => h
  | 8, v, _, h => h
  | 9, v, hh, _ => absurd rfl hh
  | n + 10, v, _, h => trivial
set_option maxHeartbeats 4000000 in
theorem dtree_nil (A : Option Addr) (c : Nat) (w : World) (hT : Hid (Tabs w)) :
    Calls Tryd.prog 45 #[.slice A 0 c] w fun e w' => e = .returned (dgV (treeD [])) ∧ Below w.heap.size w w' := by
  have HB0 := Lib.hid ((Below.refl _ w).alloc (Nat.le_refl _) (.cells (dgC zeroD).toArray 25))
  have HR0 := Lib.hid (heap_alloc_new w (.cells (dgC zeroD).toArray 25))
  have HT1 := Lib.hid (hT.out.below HB0.out)
  rw [zeroD_cells] at HB0 HR0 HT1
  have HS1 := Lib.hid (dgC_info (treeD_okD []))
  have HS2 := Lib.hid (dgC_size (treeD_okD []))
  rw [treeD_nil] at HS1 HS2 ⊢
  go_enter Tryd.func45, Tryd.ntmps45
  go_wp2_with fail
  generalize w.alloc (.cells #[.int .u8 0, .int .u8 0, .int .u8 0, .int .u8 0, .int .u8 0, .int .u8 0, .int .u8 0, .int .u8 0, .int .u8 0, .int .u8 0, .int .u8 0, .int .u8 0, .int .u8 0, .int .u8 0, .int .u8 0, .int .u8 0, .int .u8 0, .int .u8 0, .int .u8 0, .int .u8 0, .int .u8 0, .int .u8 0, .int .u8 0, .int .u8 0, .int .u8 0, .int .u8 0, .int .u8 0, .int .u8 0, .int .u8 0, .int .u8 0, .int .u8 0, .int .u8 0] 25) = W1 at *
  refine (tagged_any emptyTag none 0 0 [] W1 (by decide) (Lib.hid rfl) (Nat.le_refl _) (fun _ => rfl) (by omega) (Lib.hid (fun x hx => by cases hx)) HT1 (Lib.hid (fun h => by simp at h))).mono ?_
  rintro e w2 ⟨rfl, hq⟩
  rw [emptyTag_d]
  have HB2 := Lib.hid (HB0.out.trans (hq.mono HB0.out.size))
  have HR2 := Lib.hid (row_kept HR0.out hq)
  clear hq
  rw [dgV_agg]
  go_wp2_with (refine wpList_store_row rfl 25 (.tmp 2) (.tmp 8) rfl w.heap.size (dgC emptyD).toArray rfl rfl 25 _ HR2.out HS1.out HS2.out (dgC_one _) ?_)
  refine bodyPost_ret (results_cell_row rfl _ _ w.heap.size 25 _ (0, 0) _ rfl (setRow_heap w2 w.heap.size _ _ _ _ HR2.out) Tryd.underlying25 rfl HS1.out) rfl ?_
  exact ⟨rfl, below_setRow HB2.out (Nat.le_refl _) _⟩
set_option maxHeartbeats 4000000 in
theorem dtree_any : ∀ (m : Nat) (ls : List Dg) (A : Option Addr) (n c : Nat) (w : World), n ≤ m → n ≤ 1099511627776 → Hid (InD w A n c ls) → Hid (Tabs w) →
    Calls Tryd.prog 45 #[.slice A n c] w fun e w' => e = .returned (dgV (treeD ls)) ∧ Below w.heap.size w w' := by
  intro m
  induction m with
  | zero =>
    intro ls A n c w h1 h2 h hT
    have h0 : n = 0 := by omega
    have hl : ls = [] := List.eq_nil_of_length_eq_zero (by rw [h.out.len]; exact h0)
    subst hl
    subst h0
    exact dtree_nil A c w hT
  | succ m ih =>
    intro ls A n c w hm hn h hT
    have HNE := Lib.hid (show ls.length = n from h.out.len)
    by_cases hz : n = 0
    · have hl : ls = [] := List.eq_nil_of_length_eq_zero (by rw [HNE.out]; exact hz)
      subst hl
      subst hz
      exact dtree_nil A c w hT
    obtain ⟨g, off, rfl, hg, hr⟩ := h.out.rd (by rw [h.out.len]; omega)
    have hcap := h.out.cap
    clear hr
    have HB0 := Lib.hid ((Below.refl _ w).alloc (Nat.le_refl _) (.cells (dgC zeroD).toArray 25))
    have HR0 := Lib.hid (heap_alloc_new w (.cells (dgC zeroD).toArray 25))
    have HIN := Lib.hid (h.out.below HB0.out)
    have HT1 := Lib.hid (hT.out.below HB0.out)
    rw [zeroD_cells] at HB0 HR0 HIN HT1
    have d0 : ((n : Int) == 0) = false := beq_false_of_ne (by omega)
    have d00 : decide ((n : Int) = 0) = false := decide_eq_false (by omega)
    by_cases h2 : 2 ≤ n
    · have d1 : decide ((n : Int) = 1) = false := decide_eq_false (by omega)
      have d11 : ((n : Int) == 1) = false := beq_false_of_ne (by omega)
      go_enter Tryd.func45, Tryd.ntmps45
      go_wp2_with fail
      generalize w.alloc (.cells #[.int .u8 0, .int .u8 0, .int .u8 0, .int .u8 0, .int .u8 0, .int .u8 0, .int .u8 0, .int .u8 0, .int .u8 0, .int .u8 0, .int .u8 0, .int .u8 0, .int .u8 0, .int .u8 0, .int .u8 0, .int .u8 0, .int .u8 0, .int .u8 0, .int .u8 0, .int .u8 0, .int .u8 0, .int .u8 0, .int .u8 0, .int .u8 0, .int .u8 0, .int .u8 0, .int .u8 0, .int .u8 0, .int .u8 0, .int .u8 0, .int .u8 0, .int .u8 0] 25) = W1 at *
      refine (dhalf_any n _ h2 (by omega)).mono ?_
      rintro e w2 ⟨rfl, hw1⟩
      subst hw1
      obtain ⟨k, HK⟩ : ∃ k, Hid (half n = k) := ⟨_, Lib.hid rfl⟩
      have hkb := half_bd h2
      rw [HK.out] at hkb
      rw [HK.out]
      have HT2 := Lib.hid (HIN.out.take k (by omega))
      have HT3 := Lib.hid (HIN.out.drop k (by omega))
      have HRT : Hid (nodeD (treeD (ls.take k)) (treeD (ls.drop k)) = treeD ls) := Lib.hid (by rw [treeD_two (l := ls) (by rw [HNE.out]; exact h2), HNE.out, HK.out])
      have HOA := Lib.hid (treeD_okD (ls.take k))
      have HOB := Lib.hid (treeD_okD (ls.drop k))
      have HRO := Lib.hid (treeD_okD ls)
      obtain ⟨a, HA⟩ : ∃ a, Hid (treeD (ls.take k) = a) := ⟨_, Lib.hid rfl⟩
      obtain ⟨b, HB⟩ : ∃ b, Hid (treeD (ls.drop k) = b) := ⟨_, Lib.hid rfl⟩
      obtain ⟨r, HR⟩ : ∃ r, Hid (treeD ls = r) := ⟨_, Lib.hid rfl⟩
      rw [HA.out, HB.out, HR.out] at HRT
      rw [HA.out] at HOA
      rw [HB.out] at HOB
      rw [HR.out] at HRO
      have HS1 := Lib.hid (dgC_info HRO.out)
      have HS2 := Lib.hid (dgC_size HRO.out)
      go_wp2_with fail
      refine region_flow3 (by kernel_rfl) (by kernel_rfl) (fun i => Nat.beq i 9) (fun i => i) (by kernel_rfl) (fun fx => #[Value.slice (some { block := g, off := off }) n c, undef, Value.pointer (some { block := w.heap.size, off := 0 }), Value.int IntKind.i64 ↑k, Value.slice (some { block := g, off := off }) n c, Value.int IntKind.i64 ↑n, Value.bool false, Value.bool false, undef, Value.bool false, Value.bool false, undef, undef, undef, undef, Value.slice (some { block := g, off := off }) n c, Value.int IntKind.i64 ↑n, Value.int IntKind.i64 ↑k, fx 0, fx 1, fx 2, fx 3, fx 4, fx 5, fx 6, fx 7, fx 8]) (fun _ => undef) (fun L fx w' => (L 9 = false → Below W1.heap.size W1 w')) (fun fi fv _ fw => wDt w w.heap.size g off n c k a b r fi fv fw) (fun _ => (Below.refl _ _).drew) ?_ ?_
      · refine ⟨?_, ?_, ?_, ?_, ?_, ?_, ?_, ?_, ?_, ?_, trivial⟩
        all_goals intro L fx w' hC hi hcl hdn hd
        · have hnd : L 9 = false := Bool.eq_false_iff.2 (fun h => by have := (hcl 2 0 (hcl 3 2 (hcl 8 3 (hcl 9 8 h (by kernel_rfl)) (by kernel_rfl)) (by kernel_rfl)) (by kernel_rfl)); rw [hi] at this; cases this)
          go_wp2_with fail
          exact ⟨_, rfl, (fun _ => hC hnd), rfl, fun _ _ _ _ _ h => h⟩
        · have hnd : L 9 = false := Bool.eq_false_iff.2 (fun h => by have := (hcl 2 1 (hcl 3 2 (hcl 8 3 (hcl 9 8 h (by kernel_rfl)) (by kernel_rfl)) (by kernel_rfl)) (by kernel_rfl)); rw [hi] at this; cases this)
          go_wp2_with fail
          exact ⟨_, rfl, (fun _ => hC hnd), rfl, fun _ _ _ _ _ h => h⟩
        · have h0 : fx 0 = Value.slice (some ⟨g, off, none⟩) n c := hd.1 rfl
          have h1 : fx 1 = Value.int .i64 ((k : Nat)) := hd.2.1 rfl
          have hnd : L 9 = false := Bool.eq_false_iff.2 (fun h => by have := (hcl 3 2 (hcl 8 3 (hcl 9 8 h (by kernel_rfl)) (by kernel_rfl)) (by kernel_rfl)); rw [hi] at this; cases this)
          go_wp2_with fail
          exact ⟨_, by simp only [upd, h0, h1]; rfl, (fun _ => hC hnd), rfl, fun _ _ _ _ _ h => h⟩
        · have h2 : fx 2 = Value.slice (some ⟨g, off, none⟩) k c := hd.1 rfl
          have hnd : L 9 = false := Bool.eq_false_iff.2 (fun h => by have := (hcl 8 3 (hcl 9 8 h (by kernel_rfl)) (by kernel_rfl)); rw [hi] at this; cases this)
          have hb12 := hC hnd
          have HIk := Lib.hid (HT2.out.below hb12)
          have HTk := Lib.hid (HT1.out.below hb12)
          go_wp2_with fail
          refine (ih (ls.take k) _ k c w' (by omega) (by omega) HIk HTk).mono ?_
          rintro e w2 ⟨rfl, hq⟩
          rw [HA.out]
          go_wp2_with fail
          exact ⟨_, by simp only [upd, h2]; rfl, fun _ => hb12.trans (hq.mono hb12.size), rfl, fun j v t _ _ h => wDt_below hq j v h⟩
        · have hnd : L 9 = false := Bool.eq_false_iff.2 (fun h => by have := (hcl 6 4 (hcl 7 6 (hcl 8 7 (hcl 9 8 h (by kernel_rfl)) (by kernel_rfl)) (by kernel_rfl)) (by kernel_rfl)); rw [hi] at this; cases this)
          go_wp2_with fail
          exact ⟨_, rfl, (fun _ => hC hnd), rfl, fun _ _ _ _ _ h => h⟩
        · have hnd : L 9 = false := Bool.eq_false_iff.2 (fun h => by have := (hcl 6 5 (hcl 7 6 (hcl 8 7 (hcl 9 8 h (by kernel_rfl)) (by kernel_rfl)) (by kernel_rfl)) (by kernel_rfl)); rw [hi] at this; cases this)
          go_wp2_with fail
          exact ⟨_, rfl, (fun _ => hC hnd), rfl, fun _ _ _ _ _ h => h⟩
        · have h4 : fx 4 = Value.slice (some ⟨g, off, none⟩) n c := hd.1 rfl
          have h5 : fx 5 = Value.int .i64 ((k : Nat)) := hd.2.1 rfl
          have hnd : L 9 = false := Bool.eq_false_iff.2 (fun h => by have := (hcl 7 6 (hcl 8 7 (hcl 9 8 h (by kernel_rfl)) (by kernel_rfl)) (by kernel_rfl)); rw [hi] at this; cases this)
          go_wp2_with fail
          exact ⟨_, by simp only [upd, h4, h5]; rfl, (fun _ => hC hnd), rfl, fun _ _ _ _ _ h => h⟩
        · have h6 : fx 6 = Value.slice (some ⟨g, off + k * 32, none⟩) (n - k) (c - k) := hd.1 rfl
          have hnd : L 9 = false := Bool.eq_false_iff.2 (fun h => by have := (hcl 8 7 (hcl 9 8 h (by kernel_rfl)) (by kernel_rfl)); rw [hi] at this; cases this)
          have hb12 := hC hnd
          have HIk := Lib.hid (HT3.out.below hb12)
          have HTk := Lib.hid (HT1.out.below hb12)
          go_wp2_with fail
          refine (ih (ls.drop k) _ (n - k) (c - k) w' (by omega) (by omega) HIk HTk).mono ?_
          rintro e w2 ⟨rfl, hq⟩
          rw [HB.out]
          go_wp2_with fail
          exact ⟨_, by simp only [upd, h6]; rfl, fun _ => hb12.trans (hq.mono hb12.size), rfl, fun j v t _ _ h => wDt_below hq j v h⟩
        · have h3 : fx 3 = dgV a := hd.1 rfl
          have h7 : fx 7 = dgV b := hd.2.1 rfl
          have hnd : L 9 = false := Bool.eq_false_iff.2 (fun h => by have := (hcl 9 8 h (by kernel_rfl)); rw [hi] at this; cases this)
          have hb12 := hC hnd
          have HTk := Lib.hid (HT1.out.below hb12)
          go_wp2_with fail
          refine (dnode_any a b w' HOA HOB HTk).mono ?_
          rintro e w2 ⟨rfl, hq⟩
          rw [HRT.out]
          go_wp2_with fail
          exact ⟨_, by simp only [upd, h3, h7]; rfl, fun _ => hb12.trans (hq.mono hb12.size), rfl, fun j v t _ _ h => wDt_below hq j v h⟩
        · have h8 : fx 8 = dgV r := hd.1 rfl
          have hb21 := hC hi
          have hrow := row_kept HR0.out hb21
          refine wpList_store_row rfl 25 (.tmp 2) (.tmp 26) rfl w.heap.size (dgC r).toArray rfl h8 25 _ hrow HS1.out HS2.out (dgC_one _) ?_
          clear hd
          go_wp2_with fail
          refine ⟨undef, by rw [← h8]; rfl, fun h => (updB_self h).elim, ⟨setRow_heap _ _ _ _ _ _ hrow, below_setRow (HB0.out.trans (hb21.mono HB0.out.size)) (Nat.le_refl _) _⟩, fun j v t hj hu h => ?_⟩
          refine wDt_pure j v ?_ h
          intro e
          subst e
          rw [hi] at hj; cases hj
      · intro L fx w' hC hS
        have H9 := Lib.hid (hS 9 (by decide) rfl)
        clear hS hC
        go_wp2_with fail
        refine bodyPost_ret (results_cell_row rfl _ _ w.heap.size 25 _ (0, 0) _ rfl H9.out.1 Tryd.underlying25 rfl HS1.out) rfl ?_
        exact ⟨by rw [HR.out]; rfl, H9.out.2⟩
    · have hn1 : n = 1 := by omega
      subst hn1
      obtain ⟨x, HX⟩ : ∃ x, Hid (ls = [x]) := (List.length_eq_one_iff.1 HNE.out).imp fun _ h => Lib.hid h
      have HXO : Hid (DgOk x) := Lib.hid (h.out.ok x (by rw [HX.out]; simp))
      obtain ⟨g', off', e, hg', hr⟩ := HIN.out.rd (by rw [HNE.out]; omega)
      cases e
      have HRX : Hid ((w.alloc (.cells #[.int .u8 0, .int .u8 0, .int .u8 0, .int .u8 0, .int .u8 0, .int .u8 0, .int .u8 0, .int .u8 0, .int .u8 0, .int .u8 0, .int .u8 0, .int .u8 0, .int .u8 0, .int .u8 0, .int .u8 0, .int .u8 0, .int .u8 0, .int .u8 0, .int .u8 0, .int .u8 0, .int .u8 0, .int .u8 0, .int .u8 0, .int .u8 0, .int .u8 0, .int .u8 0, .int .u8 0, .int .u8 0, .int .u8 0, .int .u8 0, .int .u8 0, .int .u8 0] 25)).rangeAt g off (dgC x)) := Lib.hid (by
        have := rangeD_one hr h.out.ok 0 (by rw [HNE.out]; omega)
        simpa [HX.out] using this)
      have HS1 := Lib.hid (dgC_info (leafD_ok x))
      have HS2 := Lib.hid (dgC_size (leafD_ok x))
      have HSX := Lib.hid (dgC_infoL HXO.out)
      clear hr
      go_enter Tryd.func45, Tryd.ntmps45
      go_wp2_with (with_reducible refine wpList_load_mid rfl 25 (.tmp 12) rfl g off rfl (dgC x) _ HRX.out Tryd.underlying25 rfl HSX.out ?_)
      rw [← dgV_agg]
      refine (dleaf_any x _ HXO HT1).mono ?_
      rintro e w2 ⟨rfl, hq⟩
      have HB2 := Lib.hid (HB0.out.trans (hq.mono HB0.out.size))
      have HR2 := Lib.hid (row_kept HR0.out hq)
      clear hq
      rw [dgV_agg]
      go_wp2_with (refine wpList_store_row rfl 25 (.tmp 2) (.tmp 14) rfl w.heap.size (dgC (leafD x)).toArray rfl rfl 25 _ HR2.out HS1.out HS2.out (dgC_one _) ?_)
      refine bodyPost_ret (results_cell_row rfl _ _ w.heap.size 25 _ (0, 0) _ rfl (setRow_heap w2 w.heap.size _ _ _ _ HR2.out) Tryd.underlying25 rfl HS1.out) rfl ?_
      exact ⟨by rw [HX.out, treeD_one]; rfl, below_setRow HB2.out (Nat.le_refl _) _⟩
end Go.Proofs.YtmfmgeapecapiaaDoor
namespace Go.Proofs.YtmfmgeapecapiaaDoor
open Go.RowKit SzSha SzTree
set_option linter.unusedVariables false
set_option maxRecDepth 100000
theorem dgC_len {l : List Nat} (h : DgOk l) : (dgC l).length = 32 := by rw [dgC_length]; exact h.len
theorem dg_cells (l : List Nat) : (dgV l).cells = (dgC l).toArray := rfl
theorem flatD_get : ∀ (ls : List Dg), (∀ x ∈ ls, DgOk x) → ∀ (k : Nat) (hk : k < ls.length) (j : Nat) (v : Value), (dgC ls[k])[j]? = some v → (flatD ls)[k * 32 + j]? = some v := fun ls ho k hk j v hj => by
  have hj2 : j < 32 := by have := (List.getElem?_eq_some_iff.1 hj).1; rw [dgC_length, (ho _ (List.getElem_mem hk)).len] at this; exact this
  have e1 : ls = ls.take k ++ (ls[k] :: ls.drop (k + 1)) := by rw [← List.drop_eq_getElem_cons hk, List.take_append_drop]
  have e3 : (flatD (ls.take k)).length = k * 32 := by
    rw [flatD_length _ (fun x hx => ho x (List.mem_of_mem_take hx)), List.length_take, show min k ls.length = k by omega]
  have e2 : flatD ls = flatD (ls.take k) ++ (dgC ls[k] ++ flatD (ls.drop (k + 1))) := by
    conv => lhs; rw [e1]
    rw [flatD_append]; rfl
  rw [e2, List.getElem?_append_right (by omega), e3, Nat.add_sub_cancel_left, List.getElem?_append_left (by rw [dgC_length, (ho _ (List.getElem_mem hk)).len]; exact hj2)]
  exact hj
theorem info_dig : ∃ i, Tryd.prog.info? 25 = some i ∧ i.zero = some (.agg (Array.replicate 32 (.int .u8 0))) ∧ i.size = 32 ∧ i.bytes = 32 := by
  refine ⟨_, rfl, ?_, ?_, ?_⟩ <;> kernel_rfl
theorem fill_dig1 {n : Dg} (hn : DgOk n) {i : TypeInfo} {z : Value} (hs : i.size = 32) : Instr.fill (fun j => some (j * i.size, i.size)) ((Array.range (1 * i.size)).map (z.cells[· % z.cells.size]!)) [(0, dgV n)] = some (flatD [n]).toArray := by
  rw [hs]
  have e1 : ([(0, dgV n)] : List (Nat × Value)) = (([dgV n] : List Value).zipIdx 0).map fun x => (x.2, x.1) := by simp
  rw [e1, Great.fill_whole (by omega) [dgV n] _ (fun v hv => by
    simp only [List.mem_cons, List.not_mem_nil, or_false] at hv
    subst hv
    rw [dg_cells]; simpa using dgC_len hn) (by simp)]
  rfl
theorem wpList_build_digs1 {w : World} {ops : Array Oper} {rest : List Oper} {o : Oper} {a : Act} {Q : Exit → Act → World → Prop} (hg : o.guard = none) (x : Operand)
    (ho : o.op = .buildSlice 42 1 #[(0, x)]) (n : Dg) (hx : a.eval x = dgV n) (hn : DgOk n)
    (h : wpList Tryd.prog ops Q rest (a.put o.dst (.slice (some ⟨w.heap.size, 0, none⟩) 1 1)) (w.alloc (.cells (flatD [n]).toArray 25))) : wpList Tryd.prog ops Q (o :: rest) a w := by
  obtain ⟨i0, hi, hz, hs, _⟩ := info_dig
  refine wpList_buildSlice hg 42 25 1 _ ho _ i0 _ Tryd.underlying42 hi hz (by rw [hs]; omega) (by rw [hs]; omega) ?_ h
  have e1 : (#[(0, x)].map fun (i, x) => (i, a.eval x)).toList = [(0, dgV n)] := by simp [hx]
  rw [e1]; exact fill_dig1 hn hs
/-- a slice of nodes that the call made -/
def OwnD (w : World) (base : Nat) (v : Value) (ls : List Dg) : Prop := w.ownsRow base 25 32 v ls.length (flatD ls)
theorem OwnD.nil (w : World) (base : Nat) : OwnD w base (.slice none 0 0) [] := ⟨rfl, .inl ⟨rfl, rfl⟩⟩
theorem flatD_one (ls : List Dg) : ∀ u ∈ flatD ls, u.oneCell' = true := fun u hu => by
  obtain ⟨n, _, h⟩ := List.mem_flatMap.1 hu
  have := dgC_one n
  rw [Array.all_eq_true_iff_forall_mem] at this
  exact this u (by simpa using h)
theorem OwnD.kept {w w' : World} {base : Nat} {v : Value} {ls : List Dg} (h : OwnD w base v ls) (hk : ∀ g, v.ownBlock = some g → w'.heap[g]? = w.heap[g]?) : OwnD w' base v ls := by
  refine ⟨h.1, ?_⟩
  rcases h.2 with h0 | ⟨g, cap, cur, rfl, hb, hh, r⟩
  · exact .inl h0
  · exact .inr ⟨g, cap, cur, rfl, hb, (hk g rfl).trans hh, r⟩
theorem OwnD.block {w : World} {base : Nat} {v : Value} {ls : List Dg} (h : OwnD w base v ls) (g : Nat) (hg : v.ownBlock = some g) : base ≤ g ∧ g < w.heap.size ∧ ∃ cur, w.heap[g]? = some (.cells cur 25 (0, 0)) := by
  rcases h.2 with ⟨rfl, h0⟩ | ⟨g', cap, cur, rfl, hb, hh, r⟩
  · cases hg
  · have : g' = g := by simpa [Value.ownBlock] using hg
    subst this
    exact ⟨hb, (Array.getElem?_eq_some_iff.1 hh).1, cur, hh⟩
theorem OwnD.below {w w' : World} {base : Nat} {v : Value} {ls : List Dg} (h : OwnD w base v ls) (hb : Below w.heap.size w w') : OwnD w' base v ls := h.kept fun g hg => hb.block g (h.block g hg).2.1
theorem OwnD.form {w : World} {base : Nat} {v : Value} {ls : List Dg} (h : OwnD w base v ls) : ∃ A n c, v = .slice A n c := by
  rcases h.2 with ⟨rfl, h0⟩ | ⟨g, cap, cur, rfl, r⟩
  · exact ⟨_, _, _, rfl⟩
  · exact ⟨_, _, _, rfl⟩
/-- the slice, read -/
theorem OwnD.slice {w : World} {base : Nat} {v : Value} {ls : List Dg} (h : OwnD w base v ls) (ho : ∀ x ∈ ls, DgOk x) : ∃ A n c, v = .slice A n c ∧ InD w A n c ls ∧ (∀ x, A = some x → ∃ g, x = ⟨g, 0, none⟩ ∧ base ≤ g ∧ w.there g 0 (n * 32)) := by
  rcases h.2 with ⟨rfl, h0⟩ | ⟨g, cap, cur, rfl, hb, hh, hc, hm, hs, ht⟩
  · exact ⟨none, 0, 0, rfl, ⟨h0, Nat.le_refl _, fun _ => rfl, ho, fun h1 => by omega⟩, fun x hx => by cases hx⟩
  · refine ⟨_, _, cap, rfl, ⟨rfl, hc, (fun e => by cases e), ho, fun _ => ⟨g, 0, rfl, (Array.getElem?_eq_some_iff.1 hh).1, fun j u hj => ?_⟩⟩, fun x hx => by cases hx; exact ⟨g, rfl, hb, there_row hh (by rw [hs]; exact Nat.mul_le_mul_right 32 hc)⟩⟩
    have hj2 : j < ls.length * 32 := by rw [← flatD_length ls ho]; exact (List.getElem?_eq_some_iff.1 hj).1
    rw [Nat.zero_add, cell_of_row w g j cur _ _ hh]
    rw [← ht, List.getElem?_take_of_lt hj2] at hj
    simpa using hj
theorem append_dig_post {base : Nat} {w w' : World} {v v' : Value} {ls : List Dg} {n : Dg} (hown : OwnD w base v ls) (h1 : w'.ownsRow base 25 32 v' (ls.length + 1) (flatD ls ++ flatD [n])) (h2 : w.grownBy w' v.ownBlock) (hbase : base ≤ w.heap.size) : OwnD w' base v' (ls ++ [n]) := by
  unfold OwnD
  rw [flatD_append, List.length_append]; exact h1
theorem wpList_append_dig {w : World} {ops : Array Oper} {rest : List Oper} {o : Oper} {a : Act} {Q : Exit → Act → World → Prop} (hgd : o.guard = none) (s x : Operand)
    (ho : o.op = .call { callee := .builtin .append, args := #[s, x], argTypes := #[42, 42] })
    (base : Nat) (v : Value) (ls : List Dg) (n : Dg) (hs : a.eval s = v) (hown : Hid (OwnD w base v ls)) (hn : DgOk n) (g : Nat) (hx : a.eval x = .slice (some ⟨g, 0, none⟩) 1 1)
    (hr : Hid (w.heap[g]? = some (.cells (flatD [n]).toArray 25 (0, 0)))) (hlen : ls.length ≤ 100000) (hbase : base ≤ w.heap.size)
    (h : ∀ v' w', Hid (OwnD w' base v' (ls ++ [n])) → Hid (w.grownBy w' v.ownBlock) → wpList Tryd.prog ops Q rest (a.put o.dst v') w') : wpList Tryd.prog ops Q (o :: rest) a w := by
  obtain ⟨i0, hi, hz, hz1, hz2⟩ := info_dig
  refine wpList_append_own_at _ hgd s x _ ho base _ i0 _ 32 32 Tryd.underlying42 hi hz hz1 hz2 (by simp [Value.cells]) (by omega) v _ _ hs hown.out ⟨g, 0, none⟩ 1 1 (flatD [n]) hx (by rw [flatD_length _ (fun y hy => by simp at hy; subst hy; exact hn)]; rfl) (fun j u hu => by rw [add_row]; exact range_row hr.out j u hu) (flatD_one _) (by unfold maxLen; omega) (by omega) hbase ?_
  intro v' w' h1 h2 h3 h4
  have := append_dig_post hown.out h1 h2 hbase
  exact h v' w' (Lib.hid this) (Lib.hid h2)
def wdigs (g : Nat) (off : Nat) (n : Nat) (c : Nat) (i : Nat) (z : Nat) (F : Nat → Dg) : Nat → Value → World → Prop
  | 0, fv, _ => fv = Value.slice (some ⟨g, off, none⟩) n c
  | 1, fv, _ => fv = Value.int .i64 ((i : Nat))
  | 2, fv, _ => fv = Value.slice (some ⟨g, off, none⟩) n c
  | 3, fv, _ => fv = Value.int .i64 ((z : Nat))
  | 4, fv, _ => fv = Value.slice (some ⟨g, off, none⟩) n c
  | 5, fv, _ => fv = Value.int .i64 ((z : Nat))
  | 6, fv, _ => fv = Value.pointer (some ⟨g, off + z * 32, none⟩)
  | 7, fv, _ => fv = dgV (F z)
  | 8, fv, _ => fv = Value.slice (some ⟨g, off, none⟩) n c
  | 9, fv, _ => fv = Value.int .i64 ((i : Nat))
  | 10, fv, _ => fv = Value.pointer (some ⟨g, off + i * 32, none⟩)
  | 11, fv, _ => fv = dgV (F i)
  | 12, fv, _ => fv = Value.pointer (some ⟨g, off + i * 32, none⟩)
  | 13, fv, fw => True
  | 14, fv, _ => fv = Value.pointer (some ⟨g, off + z * 32, none⟩)
  | 15, fv, fw => Rw dgC 32 fw g off n (swF F i z true true)
  | _, _, _ => True
theorem wdigs_pure {g : Nat} {off : Nat} {n : Nat} {c : Nat} {i : Nat} {z : Nat} {F : Nat → Dg} {w w' : World} : ∀ j v, j ≠ 13 → j ≠ 15 → wdigs g off n c i z F j v w → wdigs g off n c i z F j v w'
  | 0, v, _, _, h => h
  | 1, v, _, _, h => h
  | 2, v, _, _, h => h
  | 3, v, _, _, h => h
  | 4, v, _, _, h => h
  | 5, v, _, _, h => h
  | 6, v, _, _, h => h
  | 7, v, _, _, h => h
  | 8, v, _, _, h => h
  | 9, v, _, _, h => h
  | 10, v, _, _, h => h
  | 11, v, _, _, h => h
  | 12, v, _, _, h => h
  | 13, v, hh, _, _ => absurd rfl hh
  | 14, v, _, _, h => h
  | 15, v, _, hh, _ => absurd rfl hh
  | n + 16, v, _, _, h => trivial

set_option maxHeartbeats 4000000 in
theorem rev_digs (f : Nat → Dg) (g off n c : Nat) (w : World) (hn : n ≤ 1000000) (hc : n ≤ c) (hok : Hid (∀ k, k < n → DgOk (f k))) (h : Hid (Rw dgC 32 w g off n f)) :
    Calls Tryd.prog 120 #[.slice (some ⟨g, off, none⟩) n c] w fun e w' => (∃ v, e = .returned v) ∧ Rw dgC 32 w' g off n (fun k => f (n - 1 - k)) ∧ w.grownBy w' (some g) := by
  have HLF : Hid (∀ k, k < n → (dgC (f k)).length = 32) := Lib.hid (fun k hk => dgC_len (hok.out k hk))
  go_enter Tryd.func120, Tryd.ntmps120
  go_wp2_with fail
  go_loopw [2, 3] (fun s t wr => ∃ i : Nat, 2 * i ≤ n + 1 ∧ s = .int .i64 (i : Nat) ∧ t = .int .i64 ((n : Int) - 1 - (i : Int)) ∧ Hid (Rw dgC 32 wr g off n (curF f n i)) ∧ Hid (w.grownBy wr (some g))) (fun s _ _ => n - (intOf s).toNat)
  case atStart => exact ⟨0, by omega, rfl, by simp, Lib.hid (h.out.congr (fun k hk => curF_zero f n k hk)), Lib.hid ⟨rfl, rfl, rfl, Nat.le_refl _, fun _ _ _ => rfl⟩⟩
  case round =>
    obtain ⟨i, hi2, rfl, rfl, HRi, HGi⟩ := hrel
    by_cases hlt : 2 * i + 1 < n
    · obtain ⟨j, hj⟩ : ∃ j, i + j + 1 = n := ⟨n - 1 - i, by omega⟩
      rw [show (n : Int) - 1 - (i : Int) = (j : Int) by omega]
      have HIJ : Hid (i < j) := Lib.hid (by omega)
      have HLI : Hid (i < n) := Lib.hid (by omega)
      have HLJ : Hid (j < n) := Lib.hid (by omega)
      have HJ := Lib.hid hj
      have d1 : decide ((i : Int) < (j : Int)) = true := decide_eq_true (by omega)
      have d2 : decide (i < j) = true := decide_eq_true HIJ.out
      have HCN := Lib.hid (fun k (hk : k < n) => curF_next f hj HIJ.out k hk)
      have HLS := Lib.hid (curF_len (i := i) HLF.out)
      have HOK : Hid (∀ k, k < n → DgOk (curF f n i k)) := Lib.hid (fun k hk => by
        unfold curF; split
        · exact hok.out _ (by omega)
        · exact hok.out _ hk)
      generalize curF f n i = F at *
      have hj62 : j ≤ 1000000 := by omega
      have hi62 : i ≤ 1000000 := by omega
      clear hj hlt hi2
      go_wp2_with fail
      generalize wr = W1 at *
      refine region_flow4 (by kernel_rfl) (by kernel_rfl) (fun i => Nat.beq i 15) (fun i => i) (by kernel_rfl) (fun fx => #[Value.slice (some ⟨g, off, none⟩) n c, undef, Value.int .i64 ((i : Nat)), Value.int .i64 ((j : Nat)), Value.slice (some ⟨g, off, none⟩) n c, Value.int .i64 ((n : Nat)), Value.int .i64 ((n : Int) - 1), Value.int .i64 ((i : Nat)), Value.int .i64 ((j : Nat)), Value.bool true, u10, u11, u12, u13, fx 0, fx 1, fx 2, fx 3, fx 4, fx 5, fx 6, fx 7, fx 8, fx 9, fx 10, fx 11, fx 12, fx 14]) (fun i => bif Nat.beq i 0 then u14 else bif Nat.beq i 1 then u15 else bif Nat.beq i 2 then u16 else bif Nat.beq i 3 then u17 else bif Nat.beq i 4 then u18 else bif Nat.beq i 5 then u19 else bif Nat.beq i 6 then u20 else bif Nat.beq i 7 then u21 else bif Nat.beq i 8 then u22 else bif Nat.beq i 9 then u23 else bif Nat.beq i 10 then u24 else bif Nat.beq i 11 then u25 else bif Nat.beq i 12 then u26 else bif Nat.beq i 14 then u27 else undef) (fun L fx w' => W1.grownBy w' (some g) ∧ Rw dgC 32 w' g off n (swF F i j (L 13) (L 15))) (fun fi fv _ fw => wdigs g off n c i j F fi fv fw) ⟨(show W1.grownBy W1.drew (some g) from ⟨rfl, rfl, rfl, Nat.le_refl _, fun _ _ _ => rfl⟩), HRi.out.congr (fun k _ => rfl)⟩ ?_ ?_
      · refine ⟨?_, ?_, ?_, ?_, ?_, ?_, ?_, ?_, ?_, ?_, ?_, ?_, ?_, ?_, ?_, ?_, trivial⟩
        all_goals intro L fx w' hC hi hcl hdn hd
        · go_wp2_with fail
          exact ⟨_, rfl, ⟨hC.1, hC.2⟩, rfl, fun _ _ _ _ _ h => h⟩
        · go_wp2_with fail
          exact ⟨_, rfl, ⟨hC.1, hC.2⟩, rfl, fun _ _ _ _ _ h => h⟩
        · go_wp2_with fail
          exact ⟨_, rfl, ⟨hC.1, hC.2⟩, rfl, fun _ _ _ _ _ h => h⟩
        · go_wp2_with fail
          exact ⟨_, rfl, ⟨hC.1, hC.2⟩, rfl, fun _ _ _ _ _ h => h⟩
        · go_wp2_with fail
          exact ⟨_, rfl, ⟨hC.1, hC.2⟩, rfl, fun _ _ _ _ _ h => h⟩
        · go_wp2_with fail
          exact ⟨_, rfl, ⟨hC.1, hC.2⟩, rfl, fun _ _ _ _ _ h => h⟩
        · have h4 : fx 4 = Value.slice (some ⟨g, off, none⟩) n c := hd.1 rfl
          have h5 : fx 5 = Value.int .i64 ((j : Nat)) := hd.2.1 rfl
          have hx1 := HLJ.out
          go_wp2_with fail
          exact ⟨_, by rw [← h4, ← h5]; rfl, ⟨hC.1, hC.2⟩, rfl, fun _ _ _ _ _ h => h⟩
        · have h6 : fx 6 = Value.pointer (some ⟨g, off + j * 32, none⟩) := hd.1 rfl
          have hn13 : L 13 = false := Bool.eq_false_iff.2 (fun h => by have := hcl 13 7 h (by kernel_rfl); rw [hi] at this; cases this)
          have hn15 : L 15 = false := Bool.eq_false_iff.2 (fun h => by have := hcl 15 7 h (by kernel_rfl); rw [hi] at this; cases this)
          have hr := (hC.2 j HLJ.out).1
          rw [hn13, hn15] at hr
          have HRX : Hid (w'.rangeAt g (off + j * 32) (dgC (F j))) := Lib.hid hr
          clear hr
          refine wpList_load_mid rfl 25 (.tmp 20) rfl g (off + j * 32) h6 (dgC (F j)) _ HRX.out Tryd.underlying25 rfl (dgC_infoL (HOK.out j HLJ.out)) ?_
          clear hd
          go_wp2_with fail
          exact ⟨_, by rw [← h6]; rfl, ⟨hC.1, hC.2⟩, rfl, fun _ _ _ _ _ h => h⟩
        · go_wp2_with fail
          exact ⟨_, rfl, ⟨hC.1, hC.2⟩, rfl, fun _ _ _ _ _ h => h⟩
        · go_wp2_with fail
          exact ⟨_, rfl, ⟨hC.1, hC.2⟩, rfl, fun _ _ _ _ _ h => h⟩
        · have h8 : fx 8 = Value.slice (some ⟨g, off, none⟩) n c := hd.1 rfl
          have h9 : fx 9 = Value.int .i64 ((i : Nat)) := hd.2.1 rfl
          have hx1 := HLI.out
          go_wp2_with fail
          exact ⟨_, by rw [← h8, ← h9]; rfl, ⟨hC.1, hC.2⟩, rfl, fun _ _ _ _ _ h => h⟩
        · have h10 : fx 10 = Value.pointer (some ⟨g, off + i * 32, none⟩) := hd.1 rfl
          have hn13 : L 13 = false := Bool.eq_false_iff.2 (fun h => by have := hcl 13 11 h (by kernel_rfl); rw [hi] at this; cases this)
          have hn15 : L 15 = false := Bool.eq_false_iff.2 (fun h => by have := hcl 15 11 h (by kernel_rfl); rw [hi] at this; cases this)
          have hr := (hC.2 i HLI.out).1
          rw [hn13, hn15] at hr
          have HRX : Hid (w'.rangeAt g (off + i * 32) (dgC (F i))) := Lib.hid hr
          clear hr
          refine wpList_load_mid rfl 25 (.tmp 24) rfl g (off + i * 32) h10 (dgC (F i)) _ HRX.out Tryd.underlying25 rfl (dgC_infoL (HOK.out i HLI.out)) ?_
          clear hd
          go_wp2_with fail
          exact ⟨_, by rw [← h10]; rfl, ⟨hC.1, hC.2⟩, rfl, fun _ _ _ _ _ h => h⟩
        · have h0 : fx 0 = Value.slice (some ⟨g, off, none⟩) n c := hd.1 rfl
          have h1 : fx 1 = Value.int .i64 ((i : Nat)) := hd.2.1 rfl
          have hx1 := HLI.out
          go_wp2_with fail
          exact ⟨_, by rw [← h0, ← h1]; rfl, ⟨hC.1, hC.2⟩, rfl, fun _ _ _ _ _ h => h⟩
        · have h12 : fx 12 = Value.pointer (some ⟨g, off + i * 32, none⟩) := hd.1 rfl
          have h7 : fx 7 = dgV (F j) := hd.2.1 rfl
          have hn15 : L 15 = false := Bool.eq_false_iff.2 (fun h => by have := hcl 15 13 h (by kernel_rfl); rw [hi] at this; cases this)
          have hr := hC.2
          rw [hi, hn15] at hr
          have HRW := Lib.hid hr
          clear hr
          have HNW := Lib.hid ((HRW.out.set (swF_len HLS.out HLI.out HLJ.out _ _) i HLI.out (F j) (HLS.out j HLJ.out)).congr (fun k _ => swF_one F i j k))
          have hg := grown_setCells hC.1 (off + i * 32) (dgC (F j))
          refine wpList_store_mid rfl 25 (.tmp 26) (.tmp 21) rfl g (off + i * 32) (dgC (F j)).toArray h12 h7 (by rw [show (dgC (F j)).toArray.size = 32 by simp [dgC_len (HOK.out j HLJ.out)]]; exact (HRW.out i HLI.out).2) (by rw [dgC_infoL (HOK.out j HLJ.out)]; simp) (dgC_one _) ?_
          clear hd
          go_wp2_with fail
          refine ⟨undef, by rw [← h12, ← h7]; rfl, ⟨hg, by
            rw [show updB L 13 13 = true from rfl, show updB L 13 15 = false from hn15]; exact HNW.out⟩, trivial, fun q v t hj _ h => by
            by_cases e : q = 13
            · subst e; trivial
            · by_cases e2 : q = 15
              · subst e2; rw [hn15] at hj; cases hj
              · exact wdigs_pure q v e e2 h⟩
        · have h2 : fx 2 = Value.slice (some ⟨g, off, none⟩) n c := hd.1 rfl
          have h3 : fx 3 = Value.int .i64 ((j : Nat)) := hd.2.1 rfl
          have hx1 := HLJ.out
          go_wp2_with fail
          exact ⟨_, by rw [← h2, ← h3]; rfl, ⟨hC.1, hC.2⟩, rfl, fun _ _ _ _ _ h => h⟩
        · have h14 : fx 14 = Value.pointer (some ⟨g, off + j * 32, none⟩) := hd.1 rfl
          have h11 : fx 11 = dgV (F i) := hd.2.1 rfl
          have hn13 : L 13 = true := hdn 13 (by kernel_rfl)
          have hr := hC.2
          rw [hn13, hi] at hr
          have HRW := Lib.hid hr
          clear hr
          have HNW := Lib.hid ((HRW.out.set (swF_len HLS.out HLI.out HLJ.out _ _) j HLJ.out (F i) (HLS.out i HLI.out)).congr (fun k _ => swF_two F HIJ.out k))
          have hg := grown_setCells hC.1 (off + j * 32) (dgC (F i))
          refine wpList_store_mid rfl 25 (.tmp 27) (.tmp 25) rfl g (off + j * 32) (dgC (F i)).toArray h14 h11 (by rw [show (dgC (F i)).toArray.size = 32 by simp [dgC_len (HOK.out i HLI.out)]]; exact (HRW.out j HLJ.out).2) (by rw [dgC_infoL (HOK.out i HLI.out)]; simp) (dgC_one _) ?_
          clear hd
          go_wp2_with fail
          refine ⟨undef, by rw [← h14, ← h11]; rfl, ⟨hg, by
            rw [show updB L 15 13 = true from hn13, show updB L 15 15 = true from rfl]; exact HNW.out⟩, HNW.out, fun q v t hj _ h => by
            by_cases e : q = 13
            · subst e; trivial
            · by_cases e2 : q = 15
              · subst e2; rw [hi] at hj; cases hj
              · exact wdigs_pure q v e e2 h⟩
      · intro L fx w' hC hS
        have H15 := Lib.hid (hS 15 (by decide) rfl)
        have HR9 := Lib.hid (H15.out.congr (fun k hk => HCN.out k hk))
        have HG9 := Lib.hid (only_trans HGi.out hC.1)
        have hw1 : IntKind.i64.wrap ((j : Int) - 1) = (n : Int) - 1 - ((i + 1 : Nat) : Int) := by have := HJ.out; rw [IntWalk.i64_in _ (by omega)]; omega
        clear hS hC H15
        go_wp2_with fail
        go_roundw
        case rel => exact ⟨i + 1, by have := HJ.out; have := HIJ.out; omega, by go_num, by go_num, HR9, HG9⟩
        case measure => first | (simp [intOf]; done) | (simp [intOf]; have := HLI.out; omega)
    · have d1 : decide ((i : Int) < (n : Int) - 1 - (i : Int)) = false := decide_eq_false (by omega)
      have HE := Lib.hid (HRi.out.congr (fun k hk => curF_end f (show n ≤ 2 * i + 1 by omega) k hk))
      go_wp2_with fail
      go_end0
      exact ⟨⟨_, rfl⟩, HE.out, HGi.out⟩
theorem flatD_range {w : World} {g off : Nat} : ∀ (ls : List Dg), (∀ x ∈ ls, DgOk x) → (∀ k, k < ls.length → w.rangeAt g (off + k * 32) (dgC (ls.getD k zeroD))) → w.rangeAt g off (flatD ls) := fun ls ho h j v hj => by
  have hl := flatD_length ls ho
  have hj2 : j < ls.length * 32 := by rw [← hl]; exact (List.getElem?_eq_some_iff.1 hj).1
  have hk : j / 32 < ls.length := by omega
  have hr := h (j / 32) hk (j % 32)
  have he : ls.getD (j / 32) zeroD = ls[j / 32] := by simp [List.getD_eq_getElem?_getD, hk]
  rw [he] at hr
  have hm : j % 32 < (dgC ls[j / 32]).length := by rw [dgC_len (ho _ (List.getElem_mem _))]; omega
  obtain ⟨v2, hv2⟩ : ∃ v2, (dgC ls[j / 32])[j % 32]? = some v2 := ⟨_, List.getElem?_eq_getElem hm⟩
  have h2 := flatD_get ls ho (j / 32) hk (j % 32) v2 hv2
  rw [show j / 32 * 32 + j % 32 = j by omega, hj] at h2
  cases h2
  have := hr v hv2
  rwa [show off + j / 32 * 32 + j % 32 = off + j by omega] at this
set_option maxHeartbeats 2000000 in
theorem revD_nil (c : Nat) (w : World) : Calls Tryd.prog 120 #[.slice none 0 c] w fun e w' => (∃ v, e = .returned v) ∧ w = w' := by
  go_enter Tryd.func120, Tryd.ntmps120
  go_wp2_with fail
  go_loopw [2, 3] (fun s t wr => s = .int .i64 0 ∧ t = .int .i64 (-1) ∧ w = wr) (fun _ _ _ => 0)
  case atStart => exact ⟨rfl, rfl, rfl⟩
  case round =>
    obtain ⟨rfl, rfl, rfl⟩ := hrel
    go_wp2_with fail
    go_end0
    exact ⟨⟨_, rfl⟩, rfl⟩
theorem revD_any (ls : List Dg) (A : Option Addr) (n c base : Nat) (w : World) (hn : n ≤ 1000000) (h : Hid (InD w A n c ls)) (ht : Hid (∀ x, A = some x → ∃ g, x = ⟨g, 0, none⟩ ∧ base ≤ g ∧ w.there g 0 (n * 32))) (hb : base ≤ w.heap.size) :
    Calls Tryd.prog 120 #[.slice A n c] w fun e w' => (∃ v, e = .returned v) ∧ InD w' A n c ls.reverse ∧ w.grownBy w' (Value.slice A n c).ownBlock := by
  rcases A with _ | a
  · have hc := h.out.none_ rfl
    have h0 : n = 0 := by have := h.out.cap; omega
    have hl : ls = [] := List.eq_nil_of_length_eq_zero (by rw [h.out.len]; exact h0)
    subst hl; subst h0
    exact (revD_nil c w).mono fun e w' hh => by
      obtain ⟨h1, rfl⟩ := hh
      exact ⟨h1, h.out, ⟨rfl, rfl, rfl, Nat.le_refl _, fun _ _ _ => rfl⟩⟩
  · obtain ⟨g, rfl, hbg, hth⟩ := ht.out a rfl
    by_cases h0 : n = 0
    · have hl : ls = [] := List.eq_nil_of_length_eq_zero (by rw [h.out.len]; exact h0)
      subst hl; subst h0
      refine (rev_digs (fun k => zeroD) g 0 0 c w (by omega) (Nat.zero_le _) (Lib.hid (fun k hk => by omega)) (Lib.hid (fun k hk => by omega))).mono ?_
      rintro e w' ⟨h1, h2, h3⟩
      exact ⟨h1, ⟨rfl, Nat.zero_le _, (fun e => by cases e), (fun x hx => by cases hx), (fun h0 => by simp at h0)⟩, h3⟩
    · obtain ⟨g', off', e, hg, hr⟩ := h.out.rd (by rw [h.out.len]; omega)
      cases e
      have hgd : ∀ k (hk : k < n), ls.getD k zeroD = ls[k]'(by rw [h.out.len]; exact hk) := fun k hk => by
        have : k < ls.length := by rw [h.out.len]; exact hk
        simp [List.getD_eq_getElem?_getD, this]
      refine (rev_digs (fun k => ls.getD k zeroD) g 0 n c w hn h.out.cap (Lib.hid (fun k hk => ?_)) (Lib.hid (fun k hk => ⟨?_, fun j hj => ?_⟩))).mono ?_
      · rw [hgd k hk]; exact h.out.ok _ (List.getElem_mem _)
      · show w.rangeAt g (0 + k * 32) (dgC (ls.getD k zeroD))
        rw [hgd k hk]; exact rangeD_one hr h.out.ok k (by rw [h.out.len]; exact hk)
      · have := hth (k * 32 + j) (by have := mul_gap (s := 32) hk; omega)
        rwa [← Nat.add_assoc] at this
      · rintro e w' ⟨h1, h2, h3⟩
        refine ⟨h1, ⟨by rw [List.length_reverse]; exact h.out.len, h.out.cap, (fun e => by cases e), fun x hx => h.out.ok x (List.mem_reverse.1 hx), fun _ => ⟨g, 0, rfl, Nat.lt_of_lt_of_le hg h3.size, ?_⟩⟩, h3⟩
        refine flatD_range _ (fun x hx => h.out.ok x (List.mem_reverse.1 hx)) fun k hk => ?_
        rw [List.length_reverse, h.out.len] at hk
        have hk2 : k < ls.reverse.length := by rw [List.length_reverse, h.out.len]; exact hk
        have : w'.rangeAt g (0 + k * 32) (dgC (ls.getD (n - 1 - k) zeroD)) := (h2 k hk).1
        rw [hgd (n - 1 - k) (by omega)] at this
        have e2 : ls.reverse.getD k zeroD = ls[n - 1 - k]'(by rw [h.out.len]; omega) := by
          rw [List.getD_eq_getElem?_getD, List.getElem?_eq_getElem hk2, Option.getD_some, List.getElem_reverse]
          congr 1
          rw [h.out.len]
        rw [e2]; exact this
end Go.Proofs.YtmfmgeapecapiaaDoor
