/- sizar/disclose: in, validLine, validClaim, the numbers of lines and claims, lines, claims. sizar/digest.Climb. Lines and claims: values, numbers, order. sizar/disclose: check of a list (lines). sizar/disclose: check of a list (claims). sizar/disclose.Check: what it asks. -/
import Derived.Test.YtmfmgeapecapiaaDoorCV6
import Derived.Test.YtmfmgeapecapiaaDoorCV0
import Derived.Test.YtmfmgeapecapiaaDoorCV5
namespace Go.Proofs.YtmfmgeapecapiaaDoor
open Go.RowKit SzSha SzTree
set_option linter.unusedVariables false
set_option maxRecDepth 100000
set_option maxHeartbeats 2000000 in
theorem in_any (x lo hi : Int) (w : World) : Calls Tryd.prog 46 #[.int .i64 x, .int .i64 lo, .int .i64 hi] w fun e w' => e = .returned (.bool (decide (lo ≤ x) && decide (x ≤ hi))) ∧ w = w' := by
  by_cases h : lo ≤ x
  · have d : decide (lo ≤ x) = true := decide_eq_true h
    have HE : Hid ((decide (lo ≤ x) && decide (x ≤ hi)) = decide (x ≤ hi)) := Lib.hid (by rw [d]; rfl)
    rw [HE.out]
    go_enter Tryd.func46, Tryd.ntmps46
    go_wp2_with fail
    go_ret
    exact ⟨rfl, rfl⟩
  · have d : decide (lo ≤ x) = false := decide_eq_false h
    have HE : Hid ((decide (lo ≤ x) && decide (x ≤ hi)) = false) := Lib.hid (by rw [d]; rfl)
    rw [HE.out]
    go_enter Tryd.func46, Tryd.ntmps46
    go_wp2_with fail
    go_ret
    exact ⟨rfl, rfl⟩
theorem and_dec {p q : Prop} [Decidable p] [Decidable q] (h : p ∧ q) : (decide p && decide q) = true := by simp [h]
theorem and_dec_no {p q : Prop} [Decidable p] [Decidable q] (h : ¬ (p ∧ q)) : (decide p && decide q) = false := by
  rw [← Bool.decide_and]; exact decide_eq_false h
/-- a valid claim -/
def kOk (p r : Int) : Prop := 0 ≤ p ∧ p ≤ 255 ∧ 0 ≤ r ∧ r ≤ 63
instance (p r : Int) : Decidable (kOk p r) := by unfold kOk; infer_instance
set_option maxHeartbeats 4000000 in
theorem vline_0 (c0 c1 c2 c3 c4 : Int) (w : World) (d0 : (decide (0 ≤ c0) && decide (c0 ≤ 4095)) = false) : Calls Tryd.prog 88 #[.agg #[.int .i64 c0, .int .i64 c1, .int .i64 c2, .int .i64 c3, .int .i64 c4]] w fun e w' => e = .returned (.bool false) ∧ Below w.heap.size w w' := by
  have HB := Lib.hid ((Below.refl _ w).alloc (Nat.le_refl _) (.cells #[.int .i64 c0, .int .i64 c1, .int .i64 c2, .int .i64 c3, .int .i64 c4] 41))
  have D0 := Lib.hid d0
  clear d0
  go_enter Tryd.func88, Tryd.ntmps88
  go_wp2_with fail
  refine (in_any _ _ _ _).mono ?_
  rintro e w0 ⟨rfl, rfl⟩
  rw [D0.out]
  go_wp2_with fail
  go_ret
  exact ⟨rfl, HB.out⟩
set_option maxHeartbeats 4000000 in
theorem vline_1 (c0 c1 c2 c3 c4 : Int) (w : World) (d0 : (decide (0 ≤ c0) && decide (c0 ≤ 4095)) = true) (d1 : (decide (0 ≤ c1) && decide (c1 ≤ 1023)) = false) : Calls Tryd.prog 88 #[.agg #[.int .i64 c0, .int .i64 c1, .int .i64 c2, .int .i64 c3, .int .i64 c4]] w fun e w' => e = .returned (.bool false) ∧ Below w.heap.size w w' := by
  have HB := Lib.hid ((Below.refl _ w).alloc (Nat.le_refl _) (.cells #[.int .i64 c0, .int .i64 c1, .int .i64 c2, .int .i64 c3, .int .i64 c4] 41))
  have D0 := Lib.hid d0
  have D1 := Lib.hid d1
  clear d0 d1
  go_enter Tryd.func88, Tryd.ntmps88
  go_wp2_with fail
  refine (in_any _ _ _ _).mono ?_
  rintro e w0 ⟨rfl, rfl⟩
  rw [D0.out]
  go_wp2_with fail
  refine (in_any _ _ _ _).mono ?_
  rintro e w1 ⟨rfl, rfl⟩
  rw [D1.out]
  go_wp2_with fail
  go_ret
  exact ⟨rfl, HB.out⟩
set_option maxHeartbeats 4000000 in
theorem vline_2 (c0 c1 c2 c3 c4 : Int) (w : World) (d0 : (decide (0 ≤ c0) && decide (c0 ≤ 4095)) = true) (d1 : (decide (0 ≤ c1) && decide (c1 ≤ 1023)) = true) (d2 : (decide (0 ≤ c2) && decide (c2 ≤ 12)) = false) : Calls Tryd.prog 88 #[.agg #[.int .i64 c0, .int .i64 c1, .int .i64 c2, .int .i64 c3, .int .i64 c4]] w fun e w' => e = .returned (.bool false) ∧ Below w.heap.size w w' := by
  have HB := Lib.hid ((Below.refl _ w).alloc (Nat.le_refl _) (.cells #[.int .i64 c0, .int .i64 c1, .int .i64 c2, .int .i64 c3, .int .i64 c4] 41))
  have D0 := Lib.hid d0
  have D1 := Lib.hid d1
  have D2 := Lib.hid d2
  clear d0 d1 d2
  go_enter Tryd.func88, Tryd.ntmps88
  go_wp2_with fail
  refine (in_any _ _ _ _).mono ?_
  rintro e w0 ⟨rfl, rfl⟩
  rw [D0.out]
  go_wp2_with fail
  refine (in_any _ _ _ _).mono ?_
  rintro e w1 ⟨rfl, rfl⟩
  rw [D1.out]
  go_wp2_with fail
  refine (in_any _ _ _ _).mono ?_
  rintro e w2 ⟨rfl, rfl⟩
  rw [D2.out]
  go_wp2_with fail
  go_ret
  exact ⟨rfl, HB.out⟩
set_option maxHeartbeats 4000000 in
theorem vline_3 (c0 c1 c2 c3 c4 : Int) (w : World) (d0 : (decide (0 ≤ c0) && decide (c0 ≤ 4095)) = true) (d1 : (decide (0 ≤ c1) && decide (c1 ≤ 1023)) = true) (d2 : (decide (0 ≤ c2) && decide (c2 ≤ 12)) = true) (d3 : (decide (0 ≤ c3) && decide (c3 ≤ 60)) = false) : Calls Tryd.prog 88 #[.agg #[.int .i64 c0, .int .i64 c1, .int .i64 c2, .int .i64 c3, .int .i64 c4]] w fun e w' => e = .returned (.bool false) ∧ Below w.heap.size w w' := by
  have HB := Lib.hid ((Below.refl _ w).alloc (Nat.le_refl _) (.cells #[.int .i64 c0, .int .i64 c1, .int .i64 c2, .int .i64 c3, .int .i64 c4] 41))
  have D0 := Lib.hid d0
  have D1 := Lib.hid d1
  have D2 := Lib.hid d2
  have D3 := Lib.hid d3
  clear d0 d1 d2 d3
  go_enter Tryd.func88, Tryd.ntmps88
  go_wp2_with fail
  refine (in_any _ _ _ _).mono ?_
  rintro e w0 ⟨rfl, rfl⟩
  rw [D0.out]
  go_wp2_with fail
  refine (in_any _ _ _ _).mono ?_
  rintro e w1 ⟨rfl, rfl⟩
  rw [D1.out]
  go_wp2_with fail
  refine (in_any _ _ _ _).mono ?_
  rintro e w2 ⟨rfl, rfl⟩
  rw [D2.out]
  go_wp2_with fail
  refine (in_any _ _ _ _).mono ?_
  rintro e w3 ⟨rfl, rfl⟩
  rw [D3.out]
  go_wp2_with fail
  go_ret
  exact ⟨rfl, HB.out⟩
set_option maxHeartbeats 4000000 in
theorem vline_4 (c0 c1 c2 c3 c4 : Int) (w : World) (d0 : (decide (0 ≤ c0) && decide (c0 ≤ 4095)) = true) (d1 : (decide (0 ≤ c1) && decide (c1 ≤ 1023)) = true) (d2 : (decide (0 ≤ c2) && decide (c2 ≤ 12)) = true) (d3 : (decide (0 ≤ c3) && decide (c3 ≤ 60)) = true) (d4 : (decide (0 ≤ c4) && decide (c4 ≤ 6)) = false) : Calls Tryd.prog 88 #[.agg #[.int .i64 c0, .int .i64 c1, .int .i64 c2, .int .i64 c3, .int .i64 c4]] w fun e w' => e = .returned (.bool false) ∧ Below w.heap.size w w' := by
  have HB := Lib.hid ((Below.refl _ w).alloc (Nat.le_refl _) (.cells #[.int .i64 c0, .int .i64 c1, .int .i64 c2, .int .i64 c3, .int .i64 c4] 41))
  have D0 := Lib.hid d0
  have D1 := Lib.hid d1
  have D2 := Lib.hid d2
  have D3 := Lib.hid d3
  have D4 := Lib.hid d4
  clear d0 d1 d2 d3 d4
  go_enter Tryd.func88, Tryd.ntmps88
  go_wp2_with fail
  refine (in_any _ _ _ _).mono ?_
  rintro e w0 ⟨rfl, rfl⟩
  rw [D0.out]
  go_wp2_with fail
  refine (in_any _ _ _ _).mono ?_
  rintro e w1 ⟨rfl, rfl⟩
  rw [D1.out]
  go_wp2_with fail
  refine (in_any _ _ _ _).mono ?_
  rintro e w2 ⟨rfl, rfl⟩
  rw [D2.out]
  go_wp2_with fail
  refine (in_any _ _ _ _).mono ?_
  rintro e w3 ⟨rfl, rfl⟩
  rw [D3.out]
  go_wp2_with fail
  refine (in_any _ _ _ _).mono ?_
  rintro e w4 ⟨rfl, rfl⟩
  rw [D4.out]
  go_wp2_with fail
  go_ret
  exact ⟨rfl, HB.out⟩
set_option maxHeartbeats 4000000 in
theorem vline_5 (c0 c1 c2 c3 c4 : Int) (w : World) (d0 : (decide (0 ≤ c0) && decide (c0 ≤ 4095)) = true) (d1 : (decide (0 ≤ c1) && decide (c1 ≤ 1023)) = true) (d2 : (decide (0 ≤ c2) && decide (c2 ≤ 12)) = true) (d3 : (decide (0 ≤ c3) && decide (c3 ≤ 60)) = true) (d4 : (decide (0 ≤ c4) && decide (c4 ≤ 6)) = true) : Calls Tryd.prog 88 #[.agg #[.int .i64 c0, .int .i64 c1, .int .i64 c2, .int .i64 c3, .int .i64 c4]] w fun e w' => e = .returned (.bool true) ∧ Below w.heap.size w w' := by
  have HB := Lib.hid ((Below.refl _ w).alloc (Nat.le_refl _) (.cells #[.int .i64 c0, .int .i64 c1, .int .i64 c2, .int .i64 c3, .int .i64 c4] 41))
  have D0 := Lib.hid d0
  have D1 := Lib.hid d1
  have D2 := Lib.hid d2
  have D3 := Lib.hid d3
  have D4 := Lib.hid d4
  clear d0 d1 d2 d3 d4
  go_enter Tryd.func88, Tryd.ntmps88
  go_wp2_with fail
  refine (in_any _ _ _ _).mono ?_
  rintro e w0 ⟨rfl, rfl⟩
  rw [D0.out]
  go_wp2_with fail
  refine (in_any _ _ _ _).mono ?_
  rintro e w1 ⟨rfl, rfl⟩
  rw [D1.out]
  go_wp2_with fail
  refine (in_any _ _ _ _).mono ?_
  rintro e w2 ⟨rfl, rfl⟩
  rw [D2.out]
  go_wp2_with fail
  refine (in_any _ _ _ _).mono ?_
  rintro e w3 ⟨rfl, rfl⟩
  rw [D3.out]
  go_wp2_with fail
  refine (in_any _ _ _ _).mono ?_
  rintro e w4 ⟨rfl, rfl⟩
  rw [D4.out]
  go_wp2_with fail
  go_ret
  exact ⟨rfl, HB.out⟩
theorem vline_any (c0 c1 c2 c3 c4 : Int) (w : World) : Calls Tryd.prog 88 #[.agg #[.int .i64 c0, .int .i64 c1, .int .i64 c2, .int .i64 c3, .int .i64 c4]] w fun e w' => e = .returned (.bool (decide (lOk c0 c1 c2 c3 c4))) ∧ Below w.heap.size w w' := by
  by_cases b0 : 0 ≤ c0 ∧ c0 ≤ 4095
  case neg =>
    rw [decide_eq_false (show ¬ (lOk c0 c1 c2 c3 c4) by unfold lOk; omega)]
    exact vline_0 c0 c1 c2 c3 c4  w (and_dec_no b0)
  by_cases b1 : 0 ≤ c1 ∧ c1 ≤ 1023
  case neg =>
    rw [decide_eq_false (show ¬ (lOk c0 c1 c2 c3 c4) by unfold lOk; omega)]
    exact vline_1 c0 c1 c2 c3 c4  w (and_dec b0) (and_dec_no b1)
  by_cases b2 : 0 ≤ c2 ∧ c2 ≤ 12
  case neg =>
    rw [decide_eq_false (show ¬ (lOk c0 c1 c2 c3 c4) by unfold lOk; omega)]
    exact vline_2 c0 c1 c2 c3 c4  w (and_dec b0) (and_dec b1) (and_dec_no b2)
  by_cases b3 : 0 ≤ c3 ∧ c3 ≤ 60
  case neg =>
    rw [decide_eq_false (show ¬ (lOk c0 c1 c2 c3 c4) by unfold lOk; omega)]
    exact vline_3 c0 c1 c2 c3 c4  w (and_dec b0) (and_dec b1) (and_dec b2) (and_dec_no b3)
  by_cases b4 : 0 ≤ c4 ∧ c4 ≤ 6
  case neg =>
    rw [decide_eq_false (show ¬ (lOk c0 c1 c2 c3 c4) by unfold lOk; omega)]
    exact vline_4 c0 c1 c2 c3 c4  w (and_dec b0) (and_dec b1) (and_dec b2) (and_dec b3) (and_dec_no b4)
  rw [decide_eq_true (show lOk c0 c1 c2 c3 c4 by unfold lOk; omega)]
  exact vline_5 c0 c1 c2 c3 c4  w (and_dec b0) (and_dec b1) (and_dec b2) (and_dec b3) (and_dec b4)
set_option maxHeartbeats 4000000 in
theorem vclaim_0 (p r : Int) (m : Bool) (w : World) (d0 : (decide (0 ≤ p) && decide (p ≤ 255)) = false) : Calls Tryd.prog 93 #[.agg #[.int .i64 p, .int .i64 r, .bool m]] w fun e w' => e = .returned (.bool false) ∧ Below w.heap.size w w' := by
  have HB := Lib.hid ((Below.refl _ w).alloc (Nat.le_refl _) (.cells #[.int .i64 p, .int .i64 r, .bool m] 49))
  have D0 := Lib.hid d0
  clear d0
  go_enter Tryd.func93, Tryd.ntmps93
  go_wp2_with fail
  refine (in_any _ _ _ _).mono ?_
  rintro e w0 ⟨rfl, rfl⟩
  rw [D0.out]
  go_wp2_with fail
  go_ret
  exact ⟨rfl, HB.out⟩
set_option maxHeartbeats 4000000 in
theorem vclaim_1 (p r : Int) (m : Bool) (w : World) (d0 : (decide (0 ≤ p) && decide (p ≤ 255)) = true) (d1 : (decide (0 ≤ r) && decide (r ≤ 63)) = false) : Calls Tryd.prog 93 #[.agg #[.int .i64 p, .int .i64 r, .bool m]] w fun e w' => e = .returned (.bool false) ∧ Below w.heap.size w w' := by
  have HB := Lib.hid ((Below.refl _ w).alloc (Nat.le_refl _) (.cells #[.int .i64 p, .int .i64 r, .bool m] 49))
  have D0 := Lib.hid d0
  have D1 := Lib.hid d1
  clear d0 d1
  go_enter Tryd.func93, Tryd.ntmps93
  go_wp2_with fail
  refine (in_any _ _ _ _).mono ?_
  rintro e w0 ⟨rfl, rfl⟩
  rw [D0.out]
  go_wp2_with fail
  refine (in_any _ _ _ _).mono ?_
  rintro e w1 ⟨rfl, rfl⟩
  rw [D1.out]
  go_wp2_with fail
  go_ret
  exact ⟨rfl, HB.out⟩
set_option maxHeartbeats 4000000 in
theorem vclaim_2 (p r : Int) (m : Bool) (w : World) (d0 : (decide (0 ≤ p) && decide (p ≤ 255)) = true) (d1 : (decide (0 ≤ r) && decide (r ≤ 63)) = true) : Calls Tryd.prog 93 #[.agg #[.int .i64 p, .int .i64 r, .bool m]] w fun e w' => e = .returned (.bool true) ∧ Below w.heap.size w w' := by
  have HB := Lib.hid ((Below.refl _ w).alloc (Nat.le_refl _) (.cells #[.int .i64 p, .int .i64 r, .bool m] 49))
  have D0 := Lib.hid d0
  have D1 := Lib.hid d1
  clear d0 d1
  go_enter Tryd.func93, Tryd.ntmps93
  go_wp2_with fail
  refine (in_any _ _ _ _).mono ?_
  rintro e w0 ⟨rfl, rfl⟩
  rw [D0.out]
  go_wp2_with fail
  refine (in_any _ _ _ _).mono ?_
  rintro e w1 ⟨rfl, rfl⟩
  rw [D1.out]
  go_wp2_with fail
  go_ret
  exact ⟨rfl, HB.out⟩
theorem vclaim_any (p r : Int) (m : Bool) (w : World) : Calls Tryd.prog 93 #[.agg #[.int .i64 p, .int .i64 r, .bool m]] w fun e w' => e = .returned (.bool (decide (kOk p r))) ∧ Below w.heap.size w w' := by
  by_cases b0 : 0 ≤ p ∧ p ≤ 255
  case neg =>
    rw [decide_eq_false (show ¬ (kOk p r) by unfold kOk; omega)]
    exact vclaim_0 p r  m  w (and_dec_no b0)
  by_cases b1 : 0 ≤ r ∧ r ≤ 63
  case neg =>
    rw [decide_eq_false (show ¬ (kOk p r) by unfold kOk; omega)]
    exact vclaim_1 p r  m  w (and_dec b0) (and_dec_no b1)
  rw [decide_eq_true (show kOk p r by unfold kOk; omega)]
  exact vclaim_2 p r  m  w (and_dec b0) (and_dec b1)
/-- the numbers of lines and of claims -/
def noL (c0 c1 : Int) : Int := wrap64 (wrap64 (4096 * c1) + c0)
def noK (p r : Int) : Int := wrap64 (wrap64 (64 * p) + r)
theorem noL_bd (c0 c1 : Int) : I64 (noL c0 c1) := by unfold I64 noL wrap64; omega
set_option maxHeartbeats 2000000 in
theorem noL_any (c0 c1 c2 c3 c4 : Int) (w : World) : Calls Tryd.prog 86 #[.agg #[.int .i64 c0, .int .i64 c1, .int .i64 c2, .int .i64 c3, .int .i64 c4]] w fun e w' => e = .returned (.int .i64 (noL c0 c1)) ∧ Below w.heap.size w w' := by
  have HB := Lib.hid ((Below.refl _ w).alloc (Nat.le_refl _) (.cells #[.int .i64 c0, .int .i64 c1, .int .i64 c2, .int .i64 c3, .int .i64 c4] 41))
  go_enter Tryd.func86, Tryd.ntmps86
  go_wp2_with fail
  go_ret
  exact ⟨by unfold noL; rfl, HB.out⟩
set_option maxHeartbeats 2000000 in
theorem noK_any (p r : Int) (m : Bool) (w : World) : Calls Tryd.prog 91 #[.agg #[.int .i64 p, .int .i64 r, .bool m]] w fun e w' => e = .returned (.int .i64 (noK p r)) ∧ Below w.heap.size w w' := by
  have HB := Lib.hid ((Below.refl _ w).alloc (Nat.le_refl _) (.cells #[.int .i64 p, .int .i64 r, .bool m] 49))
  go_enter Tryd.func91, Tryd.ntmps91
  go_wp2_with fail
  go_ret
  exact ⟨by unfold noK; rfl, HB.out⟩
def tabL : Array Value := #[.int .i64 1, .func (.func 88) #[] #[], .func (.func 86) #[] #[], .func (.func 87) #[] #[]]
def tabK : Array Value := #[.int .i64 2, .func (.func 93) #[] #[], .func (.func 91) #[] #[], .func (.func 92) #[] #[]]
set_option maxHeartbeats 2000000 in
theorem lines_any (w : World) : Calls Tryd.prog 47 #[] w fun e w' => e = .returned (.agg tabL) ∧ Below w.heap.size w w' := by
  go_enter Tryd.func47, Tryd.ntmps47
  go_wp2_with (refine wpList_store_row rfl 106 (.tmp 0) (.tmp 5) rfl w.heap.size tabL rfl rfl 106 _ (heap_alloc_new w _) (by kernel_rfl) rfl (by decide +kernel) ?_)
  refine bodyPost_ret (results_cell_row rfl _ _ w.heap.size 106 tabL (0, 0) _ rfl (laid_row w _ tabL 106).2.2 Tryd.underlying106 rfl (by kernel_rfl)) rfl ?_
  exact ⟨rfl, (laid_row w _ tabL 106).1⟩
set_option maxHeartbeats 2000000 in
theorem claims_any (w : World) : Calls Tryd.prog 49 #[] w fun e w' => e = .returned (.agg tabK) ∧ Below w.heap.size w w' := by
  go_enter Tryd.func49, Tryd.ntmps49
  go_wp2_with (refine wpList_store_row rfl 113 (.tmp 0) (.tmp 5) rfl w.heap.size tabK rfl rfl 113 _ (heap_alloc_new w _) (by kernel_rfl) rfl (by decide +kernel) ?_)
  refine bodyPost_ret (results_cell_row rfl _ _ w.heap.size 113 tabK (0, 0) _ rfl (laid_row w _ tabK 113).2.2 Tryd.underlying113 rfl (by kernel_rfl)) rfl ?_
  exact ⟨rfl, (laid_row w _ tabK 113).1⟩
end Go.Proofs.YtmfmgeapecapiaaDoor
namespace Go.Proofs.YtmfmgeapecapiaaDoor
open Go.RowKit SzSha SzTree
set_option linter.unusedVariables false
set_option maxRecDepth 100000
/-- Climb: the digest and the error -/
def dArg (i n : Int) (l : Nat) : Prop := n < 1 ∨ 1099511627776 < n ∨ i < 0 ∨ n ≤ i ∨ l ≠ (dirsD i.toNat n.toNat).length
instance (i n : Int) (l : Nat) : Decidable (dArg i n l) := by unfold dArg; infer_instance
end Go.Proofs.YtmfmgeapecapiaaDoor
namespace Go.Proofs.YtmfmgeapecapiaaDoor
open Go.RowKit SzSha SzTree
set_option linter.unusedVariables false
set_option maxRecDepth 100000
def lnV (x : Ln) : Value := .agg (lnC x).toArray
def clV (x : Cl) : Value := .agg (clC x).toArray
def vLn (x : Ln) : Bool := decide (lOk x.c0 x.c1 x.c2 x.c3 x.c4)
def vCl (x : Cl) : Bool := decide (kOk x.p x.r)
def nLn (x : Ln) : Int := noL x.c0 x.c1
def nCl (x : Cl) : Int := noK x.p x.r
theorem vline_x (x : Ln) (w : World) : Calls Tryd.prog 88 #[lnV x] w fun e w' => e = .returned (.bool (vLn x)) ∧ Below w.heap.size w w' := vline_any x.c0 x.c1 x.c2 x.c3 x.c4 w
theorem vclaim_x (x : Cl) (w : World) : Calls Tryd.prog 93 #[clV x] w fun e w' => e = .returned (.bool (vCl x)) ∧ Below w.heap.size w w' := vclaim_any x.p x.r x.m w
theorem nline_x (x : Ln) (w : World) : Calls Tryd.prog 86 #[lnV x] w fun e w' => e = .returned (.int .i64 (nLn x)) ∧ Below w.heap.size w w' := noL_any x.c0 x.c1 x.c2 x.c3 x.c4 w
theorem nclaim_x (x : Cl) (w : World) : Calls Tryd.prog 91 #[clV x] w fun e w' => e = .returned (.int .i64 (nCl x)) ∧ Below w.heap.size w w' := noK_any x.p x.r x.m w
/-- valid and in order -/
def chkE {α : Type} (v : α → Bool) (no : α → Int) : Int → List α → Bool
  | _, [] => true
  | z, x :: xs => (v x && decide (z < no x)) && chkE v no (no x) xs
theorem range_elem {α : Type} {cells : α → List Value} {k : Nat} {w : World} {g off : Nat} {ls : List α} (hl : ∀ x, (cells x).length = k) (hr : w.rangeAt g off (ls.flatMap cells)) (j : Nat) (hj : j < ls.length) : w.rangeAt g (off + j * k) (cells ls[j]) := fun i v hi => by
  have hi2 : i < k := by have := (List.getElem?_eq_some_iff.1 hi).1; rw [hl] at this; exact this
  have hfl : ∀ l : List α, (l.flatMap cells).length = l.length * k := fun l => by
    induction l with
    | nil => simp
    | cons x l ih => rw [List.flatMap_cons, List.length_append, hl, ih, List.length_cons, Nat.succ_mul]; omega
  rw [Nat.add_assoc]
  refine hr (j * k + i) v ?_
  have e1 : ls = ls.take j ++ (ls[j] :: ls.drop (j + 1)) := by rw [← List.drop_eq_getElem_cons hj, List.take_append_drop]
  have e3 : ((ls.take j).flatMap cells).length = j * k := by rw [hfl, List.length_take, show min j ls.length = j by omega]
  have e2 : ls.flatMap cells = (ls.take j).flatMap cells ++ (cells ls[j] ++ (ls.drop (j + 1)).flatMap cells) := by
    conv => lhs; rw [e1]
    rw [List.flatMap_append]; rfl
  rw [e2, List.getElem?_append_right (by omega), e3, Nat.add_sub_cancel_left, List.getElem?_append_left (by rw [hl]; exact hi2)]
  exact hi
theorem InLn.below {w w' : World} {A : Option Addr} {n c : Nat} {ls : List Ln} (h : InLn w A n c ls) (hb : Below w.heap.size w w') : InLn w' A n c ls :=
  ⟨h.len, h.cap, h.none_, h.ok, fun h0 => by
    obtain ⟨g, off, e, hg, hr⟩ := h.rd h0
    exact ⟨g, off, e, Nat.lt_of_lt_of_le hg hb.size, rangeAt_below hr hg hb⟩⟩
theorem InCl.below {w w' : World} {A : Option Addr} {n c : Nat} {ls : List Cl} (h : InCl w A n c ls) (hb : Below w.heap.size w w') : InCl w' A n c ls :=
  ⟨h.len, h.cap, h.none_, h.ok, fun h0 => by
    obtain ⟨g, off, e, hg, hr⟩ := h.rd h0
    exact ⟨g, off, e, Nat.lt_of_lt_of_le hg hb.size, rangeAt_below hr hg hb⟩⟩
/-- a world after another: all blocks but one as they were -/
theorem grown_of_below {w w' : World} {row : Option Nat} (hb : Below w.heap.size w w') : w.grownBy w' row := ⟨hb.os, hb.tape, hb.output, hb.size, fun i hi _ => hb.block i hi⟩
theorem grown_then {w w1 w2 : World} {row : Option Nat} (h : w.grownBy w1 row) (hb : Below w1.heap.size w1 w2) : w.grownBy w2 row := ⟨hb.os.trans h.os, hb.tape.trans h.tape, hb.output.trans h.output, Nat.le_trans h.size hb.size, fun i hi hne => (hb.block i (Nat.lt_of_lt_of_le hi h.size)).trans (h.block i hi hne)⟩
theorem grown_trans {w w1 w2 : World} {row : Option Nat} (h : w.grownBy w1 row) (h2 : w1.grownBy w2 row) : w.grownBy w2 row := ⟨h2.os.trans h.os, h2.tape.trans h.tape, h2.output.trans h.output, Nat.le_trans h.size h2.size, fun i hi hne => (h2.block i (Nat.lt_of_lt_of_le hi h.size) hne).trans (h.block i hi hne)⟩
theorem grown_set {w w1 : World} {b : Nat} (h : w.grownBy w1 (some b)) (v : Value) : w.grownBy (w1.setCell ⟨b, 0, none⟩ v) (some b) := only_setCell h (.inl rfl) v
theorem one_set {w : World} {b : Nat} {v v' : Value} {t : TypeId} (h : w.heap[b]? = some (.cells #[v] t (0, 0))) : (w.setCell ⟨b, 0, none⟩ v').heap[b]? = some (.cells #[v'] t (0, 0)) := by
  simp only [World.setCell, Array.getElem?_modify, if_true, h]; rfl
end Go.Proofs.YtmfmgeapecapiaaDoor
namespace Go.Proofs.YtmfmgeapecapiaaDoor
open Go.RowKit SzSha SzTree
set_option linter.unusedVariables false
set_option maxRecDepth 100000
theorem lnC_len (x : Ln) : (lnC x).length = 5 := rfl
theorem lnC_info (x : Ln) : (Tryd.prog.info? 41).map (·.size) = some (lnC x).toArray.size := by show _ = some 5; kernel_rfl
theorem lnC_infoL (x : Ln) : (Tryd.prog.info? 41).map (·.size) = some (lnC x).length := by show _ = some 5; kernel_rfl
def wCyL (bl : Nat) (x : Ln) (z : Int) : Nat → Value → World → Prop
  | 0, fv, _ => fv = Value.pointer (some ⟨bl, 1, none⟩)
  | 1, fv, _ => fv = Value.func (.func 88) #[] #[]
  | 2, fv, _ => fv = lnV x
  | 3, fv, _ => fv = Value.bool true
  | 4, fv, _ => fv = Value.bool false
  | 5, fv, _ => fv = Value.bool false
  | 6, fv, _ => fv = Value.pointer (some ⟨bl, 2, none⟩)
  | 7, fv, _ => fv = Value.func (.func 86) #[] #[]
  | 8, fv, _ => fv = lnV x
  | 9, fv, _ => fv = Value.int .i64 (nLn x)
  | 10, fv, _ => fv = Value.int .i64 z
  | 11, fv, _ => fv = Value.bool (decide (nLn x ≤ z))
  | 12, fv, _ => fv = Value.bool (decide (nLn x ≤ z))
  | 13, fv, _ => fv = Value.bool (decide (nLn x ≤ z))
  | _, _, _ => True
theorem wCyL_below {bl : Nat} {x : Ln} {z : Int} {w w' : World} (hb : Below w.heap.size w w') : ∀ j v, wCyL bl x z j v w → wCyL bl x z j v w'
  | 0, v, h => h
  | 1, v, h => h
  | 2, v, h => h
  | 3, v, h => h
  | 4, v, h => h
  | 5, v, h => h
  | 6, v, h => h
  | 7, v, h => h
  | 8, v, h => h
  | 9, v, h => h
  | 10, v, h => h
  | 11, v, h => h
  | 12, v, h => h
  | 13, v, h => h
  | n + 14, v, h => trivial
def wCnL (bl : Nat) (x : Ln) (z : Int) : Nat → Value → World → Prop
  | 0, fv, _ => fv = Value.pointer (some ⟨bl, 1, none⟩)
  | 1, fv, _ => fv = Value.func (.func 88) #[] #[]
  | 2, fv, _ => fv = lnV x
  | 3, fv, _ => fv = Value.bool false
  | 4, fv, _ => fv = Value.bool true
  | 5, fv, _ => fv = Value.bool true
  | 6, fv, _ => fv = undef
  | 7, fv, _ => fv = undef
  | 8, fv, _ => fv = undef
  | 9, fv, _ => fv = undef
  | 10, fv, _ => fv = undef
  | 11, fv, _ => fv = undef
  | 12, fv, _ => fv = Value.bool true
  | 13, fv, _ => fv = Value.bool true
  | _, _, _ => True
theorem wCnL_below {bl : Nat} {x : Ln} {z : Int} {w w' : World} (hb : Below w.heap.size w w') : ∀ j v, wCnL bl x z j v w → wCnL bl x z j v w'
  | 0, v, h => h
  | 1, v, h => h
  | 2, v, h => h
  | 3, v, h => h
  | 4, v, h => h
  | 5, v, h => h
  | 6, v, h => h
  | 7, v, h => h
  | 8, v, h => h
  | 9, v, h => h
  | 10, v, h => h
  | 11, v, h => h
  | 12, v, h => h
  | 13, v, h => h
  | n + 14, v, h => trivial
set_option maxHeartbeats 4000000 in
theorem chk1L_y (x : Ln) (z : Int) (bl bs : Nat) (w : World) (hl : Hid (w.heap[bl]? = some (.cells tabL 106 (0, 0)))) (hs : Hid (w.heap[bs]? = some (.cells #[.int .i64 z] 3 (0, 0)))) (hv : Hid (vLn x = true)) :
    Calls Tryd.prog 90 #[lnV x, .pointer (some ⟨bl, 0, none⟩), .pointer (some ⟨bs, 0, none⟩)] w fun e w' => e = .returned (.bool (!(vLn x && decide (z < nLn x)))) ∧ w.grownBy w' (some bs) ∧ w'.heap[bs]? = some (.cells #[.int .i64 (nLn x)] 3 (0, 0)) := by
  have HB0 := Lib.hid ((Below.refl _ w).alloc (Nat.le_refl _) (.cells (lnC x).toArray 41))
  have HX0 := Lib.hid (heap_alloc_new w (.cells (lnC x).toArray 41))
  have HL0 := Lib.hid (row_kept hl.out HB0.out)
  have HS0 := Lib.hid (row_kept hs.out HB0.out)
  have HBS : Hid (bs < w.heap.size) := Lib.hid (Array.getElem?_eq_some_iff.1 hs.out).1
  have HIX := Lib.hid (lnC_info x)
  have HLE : Hid ((!(vLn x && decide (z < nLn x))) = decide (nLn x ≤ z)) := Lib.hid (by rw [hv.out]; rw [Bool.true_and, ← decide_not]; congr 1; exact propext Int.not_lt)
  rw [show lnV x = .agg (lnC x).toArray from rfl]
  go_enter Tryd.func90, Tryd.ntmps90
  go_wp2_with fail
  generalize w.alloc (.cells (lnC x).toArray 41) = W1 at *
  refine region_flow3 (by kernel_rfl) (by kernel_rfl) (fun i => Nat.beq i 13) (fun i => i) (by kernel_rfl) (fun fx => #[Value.agg (lnC x).toArray, Value.pointer (some { block := bl, off := 0 }), Value.pointer (some { block := bs, off := 0 }), Value.pointer (some { block := w.heap.size, off := 0 }), Value.bool false, fx 13, fx 0, fx 1, fx 2, fx 3, fx 4, fx 5, fx 6, fx 7, fx 8, fx 9, fx 10, fx 11, fx 12, undef, undef, undef, undef, undef]) (fun _ => undef) (fun L fx w' => Below W1.heap.size W1 w') (fun fi fv _ fw => wCyL bl x z fi fv fw) (Below.refl _ _).drew ?_ ?_
  · refine ⟨?_, ?_, ?_, ?_, ?_, ?_, ?_, ?_, ?_, ?_, ?_, ?_, ?_, ?_, trivial⟩
    all_goals intro L fx w' hC hi hcl hdn hd
    · go_wp2_with fail
      exact ⟨_, rfl, hC, rfl, fun _ _ _ _ _ h => h⟩
    · have h0 : fx 0 = Value.pointer (some ⟨bl, 1, none⟩) := hd.1 rfl
      have hcc : w'.cell? ⟨bl, 1, none⟩ = some (Value.func (.func 88) #[] #[]) := by rw [cell_of_row _ _ _ _ _ _ (row_kept HL0.out hC)]; rfl
      go_wp2_with fail
      exact ⟨_, by simp only [upd, h0]; rfl, hC, rfl, fun _ _ _ _ _ h => h⟩
    · have hrow := row_kept HX0.out hC
      refine wpList_load_row rfl 41 (.tmp 3) rfl w.heap.size rfl 41 _ (0, 0) _ hrow Tryd.underlying41 rfl HIX.out ?_
      clear hd
      go_wp2_with fail
      exact ⟨_, rfl, hC, rfl, fun _ _ _ _ _ h => h⟩
    · have h1 : fx 1 = Value.func (.func 88) #[] #[] := hd.1 rfl
      have h2 : fx 2 = lnV x := hd.2.1 rfl
      go_wp2_with fail
      refine (vline_x x w').mono ?_
      rintro e w2 ⟨rfl, hq⟩
      rw [hv.out]
      go_wp2_with fail
      exact ⟨_, by simp only [upd, h1, h2]; rfl, hC.trans (hq.mono hC.size), rfl, fun j v t _ _ h => wCyL_below hq j v h⟩
    · have h3 : fx 3 = Value.bool true := hd.1 rfl
      go_wp2_with fail
      exact ⟨_, by simp only [upd, h3]; rfl, hC, rfl, fun _ _ _ _ _ h => h⟩
    · have h4 : fx 4 = Value.bool false := hd.1 rfl
      go_wp2_with fail
      exact ⟨_, by simp only [upd, h4]; rfl, hC, rfl, fun _ _ _ _ _ h => h⟩
    · have h5 : fx 5 = Value.bool false := hd.1 rfl
      go_wp2_with fail
      exact ⟨_, by simp only [upd, h5]; rfl, hC, rfl, fun _ _ _ _ _ h => h⟩
    · have h6 : fx 6 = Value.pointer (some ⟨bl, 2, none⟩) := hd.1 rfl
      have h5 : fx 5 = Value.bool false := hd.2.1 rfl
      have hcc : w'.cell? ⟨bl, 2, none⟩ = some (Value.func (.func 86) #[] #[]) := by rw [cell_of_row _ _ _ _ _ _ (row_kept HL0.out hC)]; rfl
      go_wp2_with fail
      exact ⟨_, by simp only [upd, h6, h5]; rfl, hC, rfl, fun _ _ _ _ _ h => h⟩
    · have h5 : fx 5 = Value.bool false := hd.1 rfl
      have hrow := row_kept HX0.out hC
      dsimp only
      rw [h5]
      refine wpList_unguard rfl ?_
      refine wpList_load_row rfl 41 (.tmp 3) rfl w.heap.size rfl 41 _ (0, 0) _ hrow Tryd.underlying41 rfl HIX.out ?_
      clear hd
      go_wp2_with fail
      exact ⟨_, by simp only [upd, h5]; rfl, hC, rfl, fun _ _ _ _ _ h => h⟩
    · have h7 : fx 7 = Value.func (.func 86) #[] #[] := hd.1 rfl
      have h8 : fx 8 = lnV x := hd.2.1 rfl
      have h5 : fx 5 = Value.bool false := hd.2.2.2.1 rfl
      go_wp2_with fail
      refine (nline_x x w').mono ?_
      rintro e w2 ⟨rfl, hq⟩
      go_wp2_with fail
      exact ⟨_, by simp only [upd, h7, h8, h5]; rfl, hC.trans (hq.mono hC.size), rfl, fun j v t _ _ h => wCyL_below hq j v h⟩
    · have h5 : fx 5 = Value.bool false := hd.1 rfl
      have hcc : w'.cell? ⟨bs, 0, none⟩ = some (.int .i64 z) := by rw [cell_of_row _ _ _ _ _ _ (row_kept HS0.out hC)]; rfl
      go_wp2_with fail
      exact ⟨_, by simp only [upd, h5]; rfl, hC, rfl, fun _ _ _ _ _ h => h⟩
    · have h9 : fx 9 = Value.int .i64 (nLn x) := hd.1 rfl
      have h10 : fx 10 = Value.int .i64 z := hd.2.1 rfl
      have h5 : fx 5 = Value.bool false := hd.2.2.1 rfl
      go_wp2_with fail
      exact ⟨_, by simp only [upd, h9, h10, h5]; rfl, hC, rfl, fun _ _ _ _ _ h => h⟩
    · have h5 : fx 5 = Value.bool false := hd.1 rfl
      have h11 : fx 11 = Value.bool (decide (nLn x ≤ z)) := hd.2.1 rfl
      go_wp2_with fail
      exact ⟨_, by simp only [upd, h5, h11]; rfl, hC, rfl, fun _ _ _ _ _ h => h⟩
    · have h12 : fx 12 = Value.bool (decide (nLn x ≤ z)) := hd.1 rfl
      go_wp2_with fail
      exact ⟨_, by simp only [upd, h12]; rfl, hC, rfl, fun _ _ _ _ _ h => h⟩
  · intro L fo w' hC hS
    have H13 := Lib.hid (hS 13 (by decide) rfl)
    have h13 : fo 13 = Value.bool (decide (nLn x ≤ z)) := H13.out
    rw [h13]
    have HBC := Lib.hid hC
    clear hS hC h13 H13
    have HX1 := Lib.hid (row_kept HX0.out HBC.out)
    have HS1 := Lib.hid (row_kept HS0.out HBC.out)
    have hcc : w'.cell? ⟨bl, 2, none⟩ = some (Value.func (.func 86) #[] #[]) := by rw [cell_of_row _ _ _ _ _ _ (row_kept HL0.out HBC.out)]; rfl
    go_wp2_with (refine wpList_load_row rfl 41 (.tmp 3) rfl w.heap.size rfl 41 _ (0, 0) _ HX1.out Tryd.underlying41 rfl HIX.out ?_)
    rw [show Value.agg (lnC x).toArray = lnV x from rfl]
    refine (nline_x x w').mono ?_
    rintro e w2 ⟨rfl, hq⟩
    have HS2 := Lib.hid (row_kept HS1.out hq)
    have HG2 : Hid (w.grownBy w2 (some bs)) := Lib.hid (grown_then (grown_then (grown_of_below HB0.out) HBC.out) hq)
    have hc2 : w2.cell? ⟨bs, 0, none⟩ = some (.int .i64 z) := by rw [cell_of_row _ _ _ _ _ _ HS2.out]; rfl
    have hf2 : w2.frozen? ⟨bs, 0, none⟩ = false := by simp [World.frozen?, HS2.out]
    clear hq hcc
    go_wp2_with fail
    go_ret
    exact ⟨by rw [HLE.out]; rfl, grown_set HG2.out _, one_set HS2.out⟩
set_option maxHeartbeats 4000000 in
theorem chk1L_n (x : Ln) (z : Int) (bl bs : Nat) (w : World) (hl : Hid (w.heap[bl]? = some (.cells tabL 106 (0, 0)))) (hs : Hid (w.heap[bs]? = some (.cells #[.int .i64 z] 3 (0, 0)))) (hv : Hid (vLn x = false)) :
    Calls Tryd.prog 90 #[lnV x, .pointer (some ⟨bl, 0, none⟩), .pointer (some ⟨bs, 0, none⟩)] w fun e w' => e = .returned (.bool (!(vLn x && decide (z < nLn x)))) ∧ w.grownBy w' (some bs) ∧ w'.heap[bs]? = some (.cells #[.int .i64 (nLn x)] 3 (0, 0)) := by
  have HB0 := Lib.hid ((Below.refl _ w).alloc (Nat.le_refl _) (.cells (lnC x).toArray 41))
  have HX0 := Lib.hid (heap_alloc_new w (.cells (lnC x).toArray 41))
  have HL0 := Lib.hid (row_kept hl.out HB0.out)
  have HS0 := Lib.hid (row_kept hs.out HB0.out)
  have HBS : Hid (bs < w.heap.size) := Lib.hid (Array.getElem?_eq_some_iff.1 hs.out).1
  have HIX := Lib.hid (lnC_info x)
  have HLE : Hid ((!(vLn x && decide (z < nLn x))) = true) := Lib.hid (by rw [hv.out]; rfl)
  rw [show lnV x = .agg (lnC x).toArray from rfl]
  go_enter Tryd.func90, Tryd.ntmps90
  go_wp2_with fail
  generalize w.alloc (.cells (lnC x).toArray 41) = W1 at *
  refine region_flow3 (by kernel_rfl) (by kernel_rfl) (fun i => Nat.beq i 13) (fun i => i) (by kernel_rfl) (fun fx => #[Value.agg (lnC x).toArray, Value.pointer (some { block := bl, off := 0 }), Value.pointer (some { block := bs, off := 0 }), Value.pointer (some { block := w.heap.size, off := 0 }), Value.bool false, fx 13, fx 0, fx 1, fx 2, fx 3, fx 4, fx 5, fx 6, fx 7, fx 8, fx 9, fx 10, fx 11, fx 12, undef, undef, undef, undef, undef]) (fun _ => undef) (fun L fx w' => Below W1.heap.size W1 w') (fun fi fv _ fw => wCnL bl x z fi fv fw) (Below.refl _ _).drew ?_ ?_
  · refine ⟨?_, ?_, ?_, ?_, ?_, ?_, ?_, ?_, ?_, ?_, ?_, ?_, ?_, ?_, trivial⟩
    all_goals intro L fx w' hC hi hcl hdn hd
    · go_wp2_with fail
      exact ⟨_, rfl, hC, rfl, fun _ _ _ _ _ h => h⟩
    · have h0 : fx 0 = Value.pointer (some ⟨bl, 1, none⟩) := hd.1 rfl
      have hcc : w'.cell? ⟨bl, 1, none⟩ = some (Value.func (.func 88) #[] #[]) := by rw [cell_of_row _ _ _ _ _ _ (row_kept HL0.out hC)]; rfl
      go_wp2_with fail
      exact ⟨_, by simp only [upd, h0]; rfl, hC, rfl, fun _ _ _ _ _ h => h⟩
    · have hrow := row_kept HX0.out hC
      refine wpList_load_row rfl 41 (.tmp 3) rfl w.heap.size rfl 41 _ (0, 0) _ hrow Tryd.underlying41 rfl HIX.out ?_
      clear hd
      go_wp2_with fail
      exact ⟨_, rfl, hC, rfl, fun _ _ _ _ _ h => h⟩
    · have h1 : fx 1 = Value.func (.func 88) #[] #[] := hd.1 rfl
      have h2 : fx 2 = lnV x := hd.2.1 rfl
      go_wp2_with fail
      refine (vline_x x w').mono ?_
      rintro e w2 ⟨rfl, hq⟩
      rw [hv.out]
      go_wp2_with fail
      exact ⟨_, by simp only [upd, h1, h2]; rfl, hC.trans (hq.mono hC.size), rfl, fun j v t _ _ h => wCnL_below hq j v h⟩
    · have h3 : fx 3 = Value.bool false := hd.1 rfl
      go_wp2_with fail
      exact ⟨_, by simp only [upd, h3]; rfl, hC, rfl, fun _ _ _ _ _ h => h⟩
    · have h4 : fx 4 = Value.bool true := hd.1 rfl
      go_wp2_with fail
      exact ⟨_, by simp only [upd, h4]; rfl, hC, rfl, fun _ _ _ _ _ h => h⟩
    · have h5 : fx 5 = Value.bool true := hd.1 rfl
      go_wp2_with fail
      exact ⟨_, by simp only [upd, h5]; rfl, hC, rfl, fun _ _ _ _ _ h => h⟩
    · have h6 : fx 6 = undef := hd.1 rfl
      have h5 : fx 5 = Value.bool true := hd.2.1 rfl
      go_wp2_with fail
      exact ⟨_, by simp only [upd, h6, h5]; rfl, hC, rfl, fun _ _ _ _ _ h => h⟩
    · have h5 : fx 5 = Value.bool true := hd.1 rfl
      go_wp2_with fail
      exact ⟨_, by simp only [upd, h5]; rfl, hC, rfl, fun _ _ _ _ _ h => h⟩
    · have h7 : fx 7 = undef := hd.1 rfl
      have h8 : fx 8 = undef := hd.2.1 rfl
      have h5 : fx 5 = Value.bool true := hd.2.2.2.1 rfl
      go_wp2_with fail
      exact ⟨_, by simp only [upd, h7, h8, h5]; rfl, hC, rfl, fun _ _ _ _ _ h => h⟩
    · have h5 : fx 5 = Value.bool true := hd.1 rfl
      go_wp2_with fail
      exact ⟨_, by simp only [upd, h5]; rfl, hC, rfl, fun _ _ _ _ _ h => h⟩
    · have h9 : fx 9 = undef := hd.1 rfl
      have h10 : fx 10 = undef := hd.2.1 rfl
      have h5 : fx 5 = Value.bool true := hd.2.2.1 rfl
      go_wp2_with fail
      exact ⟨_, by simp only [upd, h9, h10, h5]; rfl, hC, rfl, fun _ _ _ _ _ h => h⟩
    · have h5 : fx 5 = Value.bool true := hd.1 rfl
      have h11 : fx 11 = undef := hd.2.1 rfl
      go_wp2_with fail
      exact ⟨_, by simp only [upd, h5, h11]; rfl, hC, rfl, fun _ _ _ _ _ h => h⟩
    · have h12 : fx 12 = Value.bool true := hd.1 rfl
      go_wp2_with fail
      exact ⟨_, by simp only [upd, h12]; rfl, hC, rfl, fun _ _ _ _ _ h => h⟩
  · intro L fo w' hC hS
    have H13 := Lib.hid (hS 13 (by decide) rfl)
    have h13 : fo 13 = Value.bool true := H13.out
    rw [h13]
    have HBC := Lib.hid hC
    clear hS hC h13 H13
    have HX1 := Lib.hid (row_kept HX0.out HBC.out)
    have HS1 := Lib.hid (row_kept HS0.out HBC.out)
    have hcc : w'.cell? ⟨bl, 2, none⟩ = some (Value.func (.func 86) #[] #[]) := by rw [cell_of_row _ _ _ _ _ _ (row_kept HL0.out HBC.out)]; rfl
    go_wp2_with (refine wpList_load_row rfl 41 (.tmp 3) rfl w.heap.size rfl 41 _ (0, 0) _ HX1.out Tryd.underlying41 rfl HIX.out ?_)
    rw [show Value.agg (lnC x).toArray = lnV x from rfl]
    refine (nline_x x w').mono ?_
    rintro e w2 ⟨rfl, hq⟩
    have HS2 := Lib.hid (row_kept HS1.out hq)
    have HG2 : Hid (w.grownBy w2 (some bs)) := Lib.hid (grown_then (grown_then (grown_of_below HB0.out) HBC.out) hq)
    have hc2 : w2.cell? ⟨bs, 0, none⟩ = some (.int .i64 z) := by rw [cell_of_row _ _ _ _ _ _ HS2.out]; rfl
    have hf2 : w2.frozen? ⟨bs, 0, none⟩ = false := by simp [World.frozen?, HS2.out]
    clear hq hcc
    go_wp2_with fail
    go_ret
    exact ⟨by rw [HLE.out]; rfl, grown_set HG2.out _, one_set HS2.out⟩
theorem chk1L (x : Ln) (z : Int) (bl bs : Nat) (w : World) (hl : Hid (w.heap[bl]? = some (.cells tabL 106 (0, 0)))) (hs : Hid (w.heap[bs]? = some (.cells #[.int .i64 z] 3 (0, 0)))) :
    Calls Tryd.prog 90 #[lnV x, .pointer (some ⟨bl, 0, none⟩), .pointer (some ⟨bs, 0, none⟩)] w fun e w' => e = .returned (.bool (!(vLn x && decide (z < nLn x)))) ∧ w.grownBy w' (some bs) ∧ w'.heap[bs]? = some (.cells #[.int .i64 (nLn x)] 3 (0, 0)) := by
  by_cases h : vLn x = true
  · exact chk1L_y x z bl bs w hl hs (Lib.hid h)
  · exact chk1L_n x z bl bs w hl hs (Lib.hid (by simpa using h))
set_option maxHeartbeats 4000000 in
theorem indexL (ls : List Ln) (A : Option Addr) (n c : Nat) (z : Int) (bl bs M : Nat) (w : World) (hn : n ≤ 9223372036854775807) (hM : M ≤ bl) (hMs : M ≤ bs) (hne : bl ≠ bs) (hl : Hid (w.heap[bl]? = some (.cells tabL 106 (0, 0)))) (hs : Hid (w.heap[bs]? = some (.cells #[.int .i64 z] 3 (0, 0)))) (h : Hid (InLn w A n c ls)) (hbo : Hid (∀ g off, A = some ⟨g, off, none⟩ → 0 < ls.length → g < M)) :
    Calls Tryd.prog 118 #[.slice A n c, .func (.func 90) #[] #[.pointer (some ⟨bl, 0, none⟩), .pointer (some ⟨bs, 0, none⟩)]] w fun e w' => ∃ r : Int, e = .returned (.int .i64 r) ∧ decide (0 ≤ r) = !(chkE vLn nLn z ls) ∧ w.grownBy w' (some bs) := by
  have HN := Lib.hid (show ls.length = n from h.out.len)
  have HGW : Hid (w.grownBy w (some bs)) := Lib.hid ⟨rfl, rfl, rfl, Nat.le_refl _, fun _ _ _ => rfl⟩
  go_enter Tryd.func118, Tryd.ntmps118
  go_wp2_with fail
  go_loopw [8] (fun i wr => ∃ (j : Nat) (y : Int), j ≤ n ∧ i = .int .i64 (j : Nat) ∧ Hid (chkE vLn nLn z ls = chkE vLn nLn y (ls.drop j)) ∧ Hid (w.grownBy wr (some bs)) ∧ Hid (wr.heap[bs]? = some (.cells #[.int .i64 y] 3 (0, 0)))) (fun i _ => n - (intOf i).toNat)
  case atStart => exact ⟨0, z, by omega, rfl, Lib.hid rfl, HGW, hs⟩
  case round =>
    clear HGW hs
    obtain ⟨j, y, hj, rfl, HCH, HG, HS⟩ := hrel
    by_cases hlt : j < n
    · have d1 : decide ((j : Int) < (n : Int)) = true := decide_eq_true (by omega)
      have d2 : decide (j < n) = true := decide_eq_true hlt
      have hjl : j < ls.length := by rw [HN.out]; exact hlt
      obtain ⟨g, off, rfl, hg, hr⟩ := h.out.rd (by omega)
      obtain ⟨x, HX⟩ : ∃ x, Hid (ls[j] = x) := ⟨_, Lib.hid rfl⟩
      have HR : Hid (wr.rangeAt g (off + j * 5) (lnC x)) := Lib.hid (by
        rw [← HX.out]
        intro i v hi
        have h1 := range_elem lnC_len hr j hjl i v hi
        have hgM := hbo.out g off rfl (by omega)
        rw [← h1]
        exact World.cell?_of_block (HG.out.block g hg (fun e => by injection e with e; omega)))
      have HL : Hid (wr.heap[bl]? = some (.cells tabL 106 (0, 0))) := Lib.hid ((HG.out.block bl (Array.getElem?_eq_some_iff.1 hl.out).1 (fun e => by injection e with e; exact hne e)).trans hl.out)
      have HDR : Hid (ls.drop j = x :: ls.drop (j + 1)) := Lib.hid (by rw [List.drop_eq_getElem_cons hjl, HX.out])
      have HII := Lib.hid (lnC_infoL x)
      clear hr
      go_wp2_with (with_reducible refine wpList_load_mid rfl 41 (.tmp 14) rfl g (off + j * 5) rfl (lnC x) _ HR.out Tryd.underlying41 rfl HII.out ?_)
      rw [show Value.agg (lnC x).toArray = lnV x from rfl]
      refine (chk1L x y bl bs wr HL HS).mono ?_
      rintro e w2 ⟨rfl, hg2, hs2⟩
      have HG2 := Lib.hid (grown_trans HG.out hg2)
      have HS2 := Lib.hid hs2
      clear hg2 hs2
      by_cases hok : (vLn x && decide (y < nLn x)) = true
      · have HCN : Hid (chkE vLn nLn z ls = chkE vLn nLn (nLn x) (ls.drop (j + 1))) := Lib.hid (by rw [HCH.out, HDR.out]; rw [chkE, hok, Bool.true_and])
        rw [hok]
        clear hok
        go_wp2_with fail
        go_roundw
        case rel => exact ⟨j + 1, _, by omega, by go_num, HCN, HG2, HS2⟩
        case measure => simp [intOf]; omega
      · have hok' : (vLn x && decide (y < nLn x)) = false := by simpa using hok
        have HCN : Hid (chkE vLn nLn z ls = false) := Lib.hid (by rw [HCH.out, HDR.out]; rw [chkE, hok', Bool.false_and])
        rw [hok']
        clear hok hok'
        go_wp2_with fail
        go_ret
        exact ⟨_, rfl, by rw [HCN.out]; exact decide_eq_true (by omega), HG2.out⟩
    · have d1 : decide ((j : Int) < (n : Int)) = false := decide_eq_false (by omega)
      have d2 : decide (j < n) = false := decide_eq_false hlt
      have HCN : Hid (chkE vLn nLn z ls = true) := Lib.hid (by rw [HCH.out, List.drop_eq_nil_of_le (by rw [HN.out]; omega)]; rfl)
      go_wp2_with fail
      go_ret
      exact ⟨_, rfl, by rw [HCN.out]; rfl, HG.out⟩
set_option maxHeartbeats 4000000 in
theorem containsL (ls : List Ln) (A : Option Addr) (n c : Nat) (z : Int) (bl bs M : Nat) (w : World) (hn : n ≤ 9223372036854775807) (hM : M ≤ bl) (hMs : M ≤ bs) (hne : bl ≠ bs) (hl : Hid (w.heap[bl]? = some (.cells tabL 106 (0, 0)))) (hs : Hid (w.heap[bs]? = some (.cells #[.int .i64 z] 3 (0, 0)))) (h : Hid (InLn w A n c ls)) (hbo : Hid (∀ g off, A = some ⟨g, off, none⟩ → 0 < ls.length → g < M)) :
    Calls Tryd.prog 89 #[.slice A n c, .func (.func 90) #[] #[.pointer (some ⟨bl, 0, none⟩), .pointer (some ⟨bs, 0, none⟩)]] w fun e w' => e = .returned (.bool (!(chkE vLn nLn z ls))) ∧ w.grownBy w' (some bs) := by
  go_enter Tryd.func89, Tryd.ntmps89
  go_wp2_with fail
  refine (indexL ls A n c z bl bs M w hn hM hMs hne hl hs h hbo).mono ?_
  rintro e w2 ⟨r, rfl, hr, hg⟩
  have HR := Lib.hid hr
  have HG := Lib.hid hg
  clear hr hg
  go_wp2_with fail
  go_ret
  exact ⟨by rw [← HR.out]; rfl, HG.out⟩
set_option maxHeartbeats 4000000 in
theorem checkL (ls : List Ln) (A : Option Addr) (n c : Nat) (w : World) (hn : n ≤ 9223372036854775807) (h : Hid (InLn w A n c ls)) :
    Calls Tryd.prog 48 #[.agg tabL, .slice A n c] w fun e w' => e = .returned (.bool (chkE vLn nLn (-1) ls)) ∧ Below w.heap.size w w' := by
  have hb0 := ((Below.refl _ w).alloc (Nat.le_refl _) (.cells tabL 106)).alloc (by simp) (.cells #[.int .i64 (-1)] 3)
  have hr0 := (Below.heap_alloc (w.alloc (.cells tabL 106)) (.cells #[.int .i64 (-1)] 3) w.heap.size (by simp)).trans (heap_alloc_new w (.cells tabL 106))
  have hr1 := heap_alloc_new (w.alloc (.cells tabL 106)) (.cells #[.int .i64 (-1)] 3)
  rw [World.size_alloc] at hr1
  have HB0 := Lib.hid hb0
  have HL0 := Lib.hid hr0
  have HS0 := Lib.hid hr1
  have HI0 := Lib.hid (h.out.below hb0)
  have HBO : Hid (∀ g off, A = some ⟨g, off, none⟩ → 0 < ls.length → g < w.heap.size) := Lib.hid (fun g off e h0 => by
    obtain ⟨g', off', e', hg, _⟩ := h.out.rd h0
    rw [e] at e'; injection e' with e'; injection e' with e1 e2; omega)
  clear hb0 hr0 hr1
  go_enter Tryd.func48, Tryd.ntmps48
  go_wp2_with fail
  refine (containsL ls A n c (-1) w.heap.size (w.heap.size + 1) w.heap.size _ hn (Nat.le_refl _) (Nat.le_succ _) (by omega) HL0 HS0 HI0 HBO).mono ?_
  rintro e w2 ⟨rfl, hg⟩
  have HB2 : Hid (Below w.heap.size w w2) := Lib.hid (HB0.out.grown hg HB0.out.size (fun k hk => by injection hk with hk; omega))
  clear hg
  go_wp2_with fail
  go_ret
  exact ⟨by simp, HB2.out⟩
end Go.Proofs.YtmfmgeapecapiaaDoor
namespace Go.Proofs.YtmfmgeapecapiaaDoor
open Go.RowKit SzSha SzTree
set_option linter.unusedVariables false
set_option maxRecDepth 100000
theorem clC_len (x : Cl) : (clC x).length = 3 := rfl
theorem clC_info (x : Cl) : (Tryd.prog.info? 49).map (·.size) = some (clC x).toArray.size := by show _ = some 3; kernel_rfl
theorem clC_infoL (x : Cl) : (Tryd.prog.info? 49).map (·.size) = some (clC x).length := by show _ = some 3; kernel_rfl
def wCyK (bl : Nat) (x : Cl) (z : Int) : Nat → Value → World → Prop
  | 0, fv, _ => fv = Value.pointer (some ⟨bl, 1, none⟩)
  | 1, fv, _ => fv = Value.func (.func 93) #[] #[]
  | 2, fv, _ => fv = clV x
  | 3, fv, _ => fv = Value.bool true
  | 4, fv, _ => fv = Value.bool false
  | 5, fv, _ => fv = Value.bool false
  | 6, fv, _ => fv = Value.pointer (some ⟨bl, 2, none⟩)
  | 7, fv, _ => fv = Value.func (.func 91) #[] #[]
  | 8, fv, _ => fv = clV x
  | 9, fv, _ => fv = Value.int .i64 (nCl x)
  | 10, fv, _ => fv = Value.int .i64 z
  | 11, fv, _ => fv = Value.bool (decide (nCl x ≤ z))
  | 12, fv, _ => fv = Value.bool (decide (nCl x ≤ z))
  | 13, fv, _ => fv = Value.bool (decide (nCl x ≤ z))
  | _, _, _ => True
theorem wCyK_below {bl : Nat} {x : Cl} {z : Int} {w w' : World} (hb : Below w.heap.size w w') : ∀ j v, wCyK bl x z j v w → wCyK bl x z j v w'
  | 0, v, h => h
  | 1, v, h => h
  | 2, v, h => h
  | 3, v, h => h
  | 4, v, h => h
  | 5, v, h => h
  | 6, v, h => h
  | 7, v, h => h
  | 8, v, h => h
  | 9, v, h => h
  | 10, v, h => h
  | 11, v, h => h
  | 12, v, h => h
  | 13, v, h => h
  | n + 14, v, h => trivial
def wCnK (bl : Nat) (x : Cl) (z : Int) : Nat → Value → World → Prop
  | 0, fv, _ => fv = Value.pointer (some ⟨bl, 1, none⟩)
  | 1, fv, _ => fv = Value.func (.func 93) #[] #[]
  | 2, fv, _ => fv = clV x
  | 3, fv, _ => fv = Value.bool false
  | 4, fv, _ => fv = Value.bool true
  | 5, fv, _ => fv = Value.bool true
  | 6, fv, _ => fv = undef
  | 7, fv, _ => fv = undef
  | 8, fv, _ => fv = undef
  | 9, fv, _ => fv = undef
  | 10, fv, _ => fv = undef
  | 11, fv, _ => fv = undef
  | 12, fv, _ => fv = Value.bool true
  | 13, fv, _ => fv = Value.bool true
  | _, _, _ => True
theorem wCnK_below {bl : Nat} {x : Cl} {z : Int} {w w' : World} (hb : Below w.heap.size w w') : ∀ j v, wCnK bl x z j v w → wCnK bl x z j v w'
  | 0, v, h => h
  | 1, v, h => h
  | 2, v, h => h
  | 3, v, h => h
  | 4, v, h => h
  | 5, v, h => h
  | 6, v, h => h
  | 7, v, h => h
  | 8, v, h => h
  | 9, v, h => h
  | 10, v, h => h
  | 11, v, h => h
  | 12, v, h => h
  | 13, v, h => h
  | n + 14, v, h => trivial
set_option maxHeartbeats 4000000 in
theorem chk1K_y (x : Cl) (z : Int) (bl bs : Nat) (w : World) (hl : Hid (w.heap[bl]? = some (.cells tabK 113 (0, 0)))) (hs : Hid (w.heap[bs]? = some (.cells #[.int .i64 z] 3 (0, 0)))) (hv : Hid (vCl x = true)) :
    Calls Tryd.prog 95 #[clV x, .pointer (some ⟨bl, 0, none⟩), .pointer (some ⟨bs, 0, none⟩)] w fun e w' => e = .returned (.bool (!(vCl x && decide (z < nCl x)))) ∧ w.grownBy w' (some bs) ∧ w'.heap[bs]? = some (.cells #[.int .i64 (nCl x)] 3 (0, 0)) := by
  have HB0 := Lib.hid ((Below.refl _ w).alloc (Nat.le_refl _) (.cells (clC x).toArray 49))
  have HX0 := Lib.hid (heap_alloc_new w (.cells (clC x).toArray 49))
  have HL0 := Lib.hid (row_kept hl.out HB0.out)
  have HS0 := Lib.hid (row_kept hs.out HB0.out)
  have HBS : Hid (bs < w.heap.size) := Lib.hid (Array.getElem?_eq_some_iff.1 hs.out).1
  have HIX := Lib.hid (clC_info x)
  have HLE : Hid ((!(vCl x && decide (z < nCl x))) = decide (nCl x ≤ z)) := Lib.hid (by rw [hv.out]; rw [Bool.true_and, ← decide_not]; congr 1; exact propext Int.not_lt)
  rw [show clV x = .agg (clC x).toArray from rfl]
  go_enter Tryd.func95, Tryd.ntmps95
  go_wp2_with fail
  generalize w.alloc (.cells (clC x).toArray 49) = W1 at *
  refine region_flow3 (by kernel_rfl) (by kernel_rfl) (fun i => Nat.beq i 13) (fun i => i) (by kernel_rfl) (fun fx => #[Value.agg (clC x).toArray, Value.pointer (some { block := bl, off := 0 }), Value.pointer (some { block := bs, off := 0 }), Value.pointer (some { block := w.heap.size, off := 0 }), Value.bool false, fx 13, fx 0, fx 1, fx 2, fx 3, fx 4, fx 5, fx 6, fx 7, fx 8, fx 9, fx 10, fx 11, fx 12, undef, undef, undef, undef, undef]) (fun _ => undef) (fun L fx w' => Below W1.heap.size W1 w') (fun fi fv _ fw => wCyK bl x z fi fv fw) (Below.refl _ _).drew ?_ ?_
  · refine ⟨?_, ?_, ?_, ?_, ?_, ?_, ?_, ?_, ?_, ?_, ?_, ?_, ?_, ?_, trivial⟩
    all_goals intro L fx w' hC hi hcl hdn hd
    · go_wp2_with fail
      exact ⟨_, rfl, hC, rfl, fun _ _ _ _ _ h => h⟩
    · have h0 : fx 0 = Value.pointer (some ⟨bl, 1, none⟩) := hd.1 rfl
      have hcc : w'.cell? ⟨bl, 1, none⟩ = some (Value.func (.func 93) #[] #[]) := by rw [cell_of_row _ _ _ _ _ _ (row_kept HL0.out hC)]; rfl
      go_wp2_with fail
      exact ⟨_, by simp only [upd, h0]; rfl, hC, rfl, fun _ _ _ _ _ h => h⟩
    · have hrow := row_kept HX0.out hC
      refine wpList_load_row rfl 49 (.tmp 3) rfl w.heap.size rfl 49 _ (0, 0) _ hrow Tryd.underlying49 rfl HIX.out ?_
      clear hd
      go_wp2_with fail
      exact ⟨_, rfl, hC, rfl, fun _ _ _ _ _ h => h⟩
    · have h1 : fx 1 = Value.func (.func 93) #[] #[] := hd.1 rfl
      have h2 : fx 2 = clV x := hd.2.1 rfl
      go_wp2_with fail
      refine (vclaim_x x w').mono ?_
      rintro e w2 ⟨rfl, hq⟩
      rw [hv.out]
      go_wp2_with fail
      exact ⟨_, by simp only [upd, h1, h2]; rfl, hC.trans (hq.mono hC.size), rfl, fun j v t _ _ h => wCyK_below hq j v h⟩
    · have h3 : fx 3 = Value.bool true := hd.1 rfl
      go_wp2_with fail
      exact ⟨_, by simp only [upd, h3]; rfl, hC, rfl, fun _ _ _ _ _ h => h⟩
    · have h4 : fx 4 = Value.bool false := hd.1 rfl
      go_wp2_with fail
      exact ⟨_, by simp only [upd, h4]; rfl, hC, rfl, fun _ _ _ _ _ h => h⟩
    · have h5 : fx 5 = Value.bool false := hd.1 rfl
      go_wp2_with fail
      exact ⟨_, by simp only [upd, h5]; rfl, hC, rfl, fun _ _ _ _ _ h => h⟩
    · have h6 : fx 6 = Value.pointer (some ⟨bl, 2, none⟩) := hd.1 rfl
      have h5 : fx 5 = Value.bool false := hd.2.1 rfl
      have hcc : w'.cell? ⟨bl, 2, none⟩ = some (Value.func (.func 91) #[] #[]) := by rw [cell_of_row _ _ _ _ _ _ (row_kept HL0.out hC)]; rfl
      go_wp2_with fail
      exact ⟨_, by simp only [upd, h6, h5]; rfl, hC, rfl, fun _ _ _ _ _ h => h⟩
    · have h5 : fx 5 = Value.bool false := hd.1 rfl
      have hrow := row_kept HX0.out hC
      dsimp only
      rw [h5]
      refine wpList_unguard rfl ?_
      refine wpList_load_row rfl 49 (.tmp 3) rfl w.heap.size rfl 49 _ (0, 0) _ hrow Tryd.underlying49 rfl HIX.out ?_
      clear hd
      go_wp2_with fail
      exact ⟨_, by simp only [upd, h5]; rfl, hC, rfl, fun _ _ _ _ _ h => h⟩
    · have h7 : fx 7 = Value.func (.func 91) #[] #[] := hd.1 rfl
      have h8 : fx 8 = clV x := hd.2.1 rfl
      have h5 : fx 5 = Value.bool false := hd.2.2.2.1 rfl
      go_wp2_with fail
      refine (nclaim_x x w').mono ?_
      rintro e w2 ⟨rfl, hq⟩
      go_wp2_with fail
      exact ⟨_, by simp only [upd, h7, h8, h5]; rfl, hC.trans (hq.mono hC.size), rfl, fun j v t _ _ h => wCyK_below hq j v h⟩
    · have h5 : fx 5 = Value.bool false := hd.1 rfl
      have hcc : w'.cell? ⟨bs, 0, none⟩ = some (.int .i64 z) := by rw [cell_of_row _ _ _ _ _ _ (row_kept HS0.out hC)]; rfl
      go_wp2_with fail
      exact ⟨_, by simp only [upd, h5]; rfl, hC, rfl, fun _ _ _ _ _ h => h⟩
    · have h9 : fx 9 = Value.int .i64 (nCl x) := hd.1 rfl
      have h10 : fx 10 = Value.int .i64 z := hd.2.1 rfl
      have h5 : fx 5 = Value.bool false := hd.2.2.1 rfl
      go_wp2_with fail
      exact ⟨_, by simp only [upd, h9, h10, h5]; rfl, hC, rfl, fun _ _ _ _ _ h => h⟩
    · have h5 : fx 5 = Value.bool false := hd.1 rfl
      have h11 : fx 11 = Value.bool (decide (nCl x ≤ z)) := hd.2.1 rfl
      go_wp2_with fail
      exact ⟨_, by simp only [upd, h5, h11]; rfl, hC, rfl, fun _ _ _ _ _ h => h⟩
    · have h12 : fx 12 = Value.bool (decide (nCl x ≤ z)) := hd.1 rfl
      go_wp2_with fail
      exact ⟨_, by simp only [upd, h12]; rfl, hC, rfl, fun _ _ _ _ _ h => h⟩
  · intro L fo w' hC hS
    have H13 := Lib.hid (hS 13 (by decide) rfl)
    have h13 : fo 13 = Value.bool (decide (nCl x ≤ z)) := H13.out
    rw [h13]
    have HBC := Lib.hid hC
    clear hS hC h13 H13
    have HX1 := Lib.hid (row_kept HX0.out HBC.out)
    have HS1 := Lib.hid (row_kept HS0.out HBC.out)
    have hcc : w'.cell? ⟨bl, 2, none⟩ = some (Value.func (.func 91) #[] #[]) := by rw [cell_of_row _ _ _ _ _ _ (row_kept HL0.out HBC.out)]; rfl
    go_wp2_with (refine wpList_load_row rfl 49 (.tmp 3) rfl w.heap.size rfl 49 _ (0, 0) _ HX1.out Tryd.underlying49 rfl HIX.out ?_)
    rw [show Value.agg (clC x).toArray = clV x from rfl]
    refine (nclaim_x x w').mono ?_
    rintro e w2 ⟨rfl, hq⟩
    have HS2 := Lib.hid (row_kept HS1.out hq)
    have HG2 : Hid (w.grownBy w2 (some bs)) := Lib.hid (grown_then (grown_then (grown_of_below HB0.out) HBC.out) hq)
    have hc2 : w2.cell? ⟨bs, 0, none⟩ = some (.int .i64 z) := by rw [cell_of_row _ _ _ _ _ _ HS2.out]; rfl
    have hf2 : w2.frozen? ⟨bs, 0, none⟩ = false := by simp [World.frozen?, HS2.out]
    clear hq hcc
    go_wp2_with fail
    go_ret
    exact ⟨by rw [HLE.out]; rfl, grown_set HG2.out _, one_set HS2.out⟩
set_option maxHeartbeats 4000000 in
theorem chk1K_n (x : Cl) (z : Int) (bl bs : Nat) (w : World) (hl : Hid (w.heap[bl]? = some (.cells tabK 113 (0, 0)))) (hs : Hid (w.heap[bs]? = some (.cells #[.int .i64 z] 3 (0, 0)))) (hv : Hid (vCl x = false)) :
    Calls Tryd.prog 95 #[clV x, .pointer (some ⟨bl, 0, none⟩), .pointer (some ⟨bs, 0, none⟩)] w fun e w' => e = .returned (.bool (!(vCl x && decide (z < nCl x)))) ∧ w.grownBy w' (some bs) ∧ w'.heap[bs]? = some (.cells #[.int .i64 (nCl x)] 3 (0, 0)) := by
  have HB0 := Lib.hid ((Below.refl _ w).alloc (Nat.le_refl _) (.cells (clC x).toArray 49))
  have HX0 := Lib.hid (heap_alloc_new w (.cells (clC x).toArray 49))
  have HL0 := Lib.hid (row_kept hl.out HB0.out)
  have HS0 := Lib.hid (row_kept hs.out HB0.out)
  have HBS : Hid (bs < w.heap.size) := Lib.hid (Array.getElem?_eq_some_iff.1 hs.out).1
  have HIX := Lib.hid (clC_info x)
  have HLE : Hid ((!(vCl x && decide (z < nCl x))) = true) := Lib.hid (by rw [hv.out]; rfl)
  rw [show clV x = .agg (clC x).toArray from rfl]
  go_enter Tryd.func95, Tryd.ntmps95
  go_wp2_with fail
  generalize w.alloc (.cells (clC x).toArray 49) = W1 at *
  refine region_flow3 (by kernel_rfl) (by kernel_rfl) (fun i => Nat.beq i 13) (fun i => i) (by kernel_rfl) (fun fx => #[Value.agg (clC x).toArray, Value.pointer (some { block := bl, off := 0 }), Value.pointer (some { block := bs, off := 0 }), Value.pointer (some { block := w.heap.size, off := 0 }), Value.bool false, fx 13, fx 0, fx 1, fx 2, fx 3, fx 4, fx 5, fx 6, fx 7, fx 8, fx 9, fx 10, fx 11, fx 12, undef, undef, undef, undef, undef]) (fun _ => undef) (fun L fx w' => Below W1.heap.size W1 w') (fun fi fv _ fw => wCnK bl x z fi fv fw) (Below.refl _ _).drew ?_ ?_
  · refine ⟨?_, ?_, ?_, ?_, ?_, ?_, ?_, ?_, ?_, ?_, ?_, ?_, ?_, ?_, trivial⟩
    all_goals intro L fx w' hC hi hcl hdn hd
    · go_wp2_with fail
      exact ⟨_, rfl, hC, rfl, fun _ _ _ _ _ h => h⟩
    · have h0 : fx 0 = Value.pointer (some ⟨bl, 1, none⟩) := hd.1 rfl
      have hcc : w'.cell? ⟨bl, 1, none⟩ = some (Value.func (.func 93) #[] #[]) := by rw [cell_of_row _ _ _ _ _ _ (row_kept HL0.out hC)]; rfl
      go_wp2_with fail
      exact ⟨_, by simp only [upd, h0]; rfl, hC, rfl, fun _ _ _ _ _ h => h⟩
    · have hrow := row_kept HX0.out hC
      refine wpList_load_row rfl 49 (.tmp 3) rfl w.heap.size rfl 49 _ (0, 0) _ hrow Tryd.underlying49 rfl HIX.out ?_
      clear hd
      go_wp2_with fail
      exact ⟨_, rfl, hC, rfl, fun _ _ _ _ _ h => h⟩
    · have h1 : fx 1 = Value.func (.func 93) #[] #[] := hd.1 rfl
      have h2 : fx 2 = clV x := hd.2.1 rfl
      go_wp2_with fail
      refine (vclaim_x x w').mono ?_
      rintro e w2 ⟨rfl, hq⟩
      rw [hv.out]
      go_wp2_with fail
      exact ⟨_, by simp only [upd, h1, h2]; rfl, hC.trans (hq.mono hC.size), rfl, fun j v t _ _ h => wCnK_below hq j v h⟩
    · have h3 : fx 3 = Value.bool false := hd.1 rfl
      go_wp2_with fail
      exact ⟨_, by simp only [upd, h3]; rfl, hC, rfl, fun _ _ _ _ _ h => h⟩
    · have h4 : fx 4 = Value.bool true := hd.1 rfl
      go_wp2_with fail
      exact ⟨_, by simp only [upd, h4]; rfl, hC, rfl, fun _ _ _ _ _ h => h⟩
    · have h5 : fx 5 = Value.bool true := hd.1 rfl
      go_wp2_with fail
      exact ⟨_, by simp only [upd, h5]; rfl, hC, rfl, fun _ _ _ _ _ h => h⟩
    · have h6 : fx 6 = undef := hd.1 rfl
      have h5 : fx 5 = Value.bool true := hd.2.1 rfl
      go_wp2_with fail
      exact ⟨_, by simp only [upd, h6, h5]; rfl, hC, rfl, fun _ _ _ _ _ h => h⟩
    · have h5 : fx 5 = Value.bool true := hd.1 rfl
      go_wp2_with fail
      exact ⟨_, by simp only [upd, h5]; rfl, hC, rfl, fun _ _ _ _ _ h => h⟩
    · have h7 : fx 7 = undef := hd.1 rfl
      have h8 : fx 8 = undef := hd.2.1 rfl
      have h5 : fx 5 = Value.bool true := hd.2.2.2.1 rfl
      go_wp2_with fail
      exact ⟨_, by simp only [upd, h7, h8, h5]; rfl, hC, rfl, fun _ _ _ _ _ h => h⟩
    · have h5 : fx 5 = Value.bool true := hd.1 rfl
      go_wp2_with fail
      exact ⟨_, by simp only [upd, h5]; rfl, hC, rfl, fun _ _ _ _ _ h => h⟩
    · have h9 : fx 9 = undef := hd.1 rfl
      have h10 : fx 10 = undef := hd.2.1 rfl
      have h5 : fx 5 = Value.bool true := hd.2.2.1 rfl
      go_wp2_with fail
      exact ⟨_, by simp only [upd, h9, h10, h5]; rfl, hC, rfl, fun _ _ _ _ _ h => h⟩
    · have h5 : fx 5 = Value.bool true := hd.1 rfl
      have h11 : fx 11 = undef := hd.2.1 rfl
      go_wp2_with fail
      exact ⟨_, by simp only [upd, h5, h11]; rfl, hC, rfl, fun _ _ _ _ _ h => h⟩
    · have h12 : fx 12 = Value.bool true := hd.1 rfl
      go_wp2_with fail
      exact ⟨_, by simp only [upd, h12]; rfl, hC, rfl, fun _ _ _ _ _ h => h⟩
  · intro L fo w' hC hS
    have H13 := Lib.hid (hS 13 (by decide) rfl)
    have h13 : fo 13 = Value.bool true := H13.out
    rw [h13]
    have HBC := Lib.hid hC
    clear hS hC h13 H13
    have HX1 := Lib.hid (row_kept HX0.out HBC.out)
    have HS1 := Lib.hid (row_kept HS0.out HBC.out)
    have hcc : w'.cell? ⟨bl, 2, none⟩ = some (Value.func (.func 91) #[] #[]) := by rw [cell_of_row _ _ _ _ _ _ (row_kept HL0.out HBC.out)]; rfl
    go_wp2_with (refine wpList_load_row rfl 49 (.tmp 3) rfl w.heap.size rfl 49 _ (0, 0) _ HX1.out Tryd.underlying49 rfl HIX.out ?_)
    rw [show Value.agg (clC x).toArray = clV x from rfl]
    refine (nclaim_x x w').mono ?_
    rintro e w2 ⟨rfl, hq⟩
    have HS2 := Lib.hid (row_kept HS1.out hq)
    have HG2 : Hid (w.grownBy w2 (some bs)) := Lib.hid (grown_then (grown_then (grown_of_below HB0.out) HBC.out) hq)
    have hc2 : w2.cell? ⟨bs, 0, none⟩ = some (.int .i64 z) := by rw [cell_of_row _ _ _ _ _ _ HS2.out]; rfl
    have hf2 : w2.frozen? ⟨bs, 0, none⟩ = false := by simp [World.frozen?, HS2.out]
    clear hq hcc
    go_wp2_with fail
    go_ret
    exact ⟨by rw [HLE.out]; rfl, grown_set HG2.out _, one_set HS2.out⟩
theorem chk1K (x : Cl) (z : Int) (bl bs : Nat) (w : World) (hl : Hid (w.heap[bl]? = some (.cells tabK 113 (0, 0)))) (hs : Hid (w.heap[bs]? = some (.cells #[.int .i64 z] 3 (0, 0)))) :
    Calls Tryd.prog 95 #[clV x, .pointer (some ⟨bl, 0, none⟩), .pointer (some ⟨bs, 0, none⟩)] w fun e w' => e = .returned (.bool (!(vCl x && decide (z < nCl x)))) ∧ w.grownBy w' (some bs) ∧ w'.heap[bs]? = some (.cells #[.int .i64 (nCl x)] 3 (0, 0)) := by
  by_cases h : vCl x = true
  · exact chk1K_y x z bl bs w hl hs (Lib.hid h)
  · exact chk1K_n x z bl bs w hl hs (Lib.hid (by simpa using h))
set_option maxHeartbeats 4000000 in
theorem indexK (ls : List Cl) (A : Option Addr) (n c : Nat) (z : Int) (bl bs M : Nat) (w : World) (hn : n ≤ 9223372036854775807) (hM : M ≤ bl) (hMs : M ≤ bs) (hne : bl ≠ bs) (hl : Hid (w.heap[bl]? = some (.cells tabK 113 (0, 0)))) (hs : Hid (w.heap[bs]? = some (.cells #[.int .i64 z] 3 (0, 0)))) (h : Hid (InCl w A n c ls)) (hbo : Hid (∀ g off, A = some ⟨g, off, none⟩ → 0 < ls.length → g < M)) :
    Calls Tryd.prog 119 #[.slice A n c, .func (.func 95) #[] #[.pointer (some ⟨bl, 0, none⟩), .pointer (some ⟨bs, 0, none⟩)]] w fun e w' => ∃ r : Int, e = .returned (.int .i64 r) ∧ decide (0 ≤ r) = !(chkE vCl nCl z ls) ∧ w.grownBy w' (some bs) := by
  have HN := Lib.hid (show ls.length = n from h.out.len)
  have HGW : Hid (w.grownBy w (some bs)) := Lib.hid ⟨rfl, rfl, rfl, Nat.le_refl _, fun _ _ _ => rfl⟩
  go_enter Tryd.func119, Tryd.ntmps119
  go_wp2_with fail
  go_loopw [8] (fun i wr => ∃ (j : Nat) (y : Int), j ≤ n ∧ i = .int .i64 (j : Nat) ∧ Hid (chkE vCl nCl z ls = chkE vCl nCl y (ls.drop j)) ∧ Hid (w.grownBy wr (some bs)) ∧ Hid (wr.heap[bs]? = some (.cells #[.int .i64 y] 3 (0, 0)))) (fun i _ => n - (intOf i).toNat)
  case atStart => exact ⟨0, z, by omega, rfl, Lib.hid rfl, HGW, hs⟩
  case round =>
    clear HGW hs
    obtain ⟨j, y, hj, rfl, HCH, HG, HS⟩ := hrel
    by_cases hlt : j < n
    · have d1 : decide ((j : Int) < (n : Int)) = true := decide_eq_true (by omega)
      have d2 : decide (j < n) = true := decide_eq_true hlt
      have hjl : j < ls.length := by rw [HN.out]; exact hlt
      obtain ⟨g, off, rfl, hg, hr⟩ := h.out.rd (by omega)
      obtain ⟨x, HX⟩ : ∃ x, Hid (ls[j] = x) := ⟨_, Lib.hid rfl⟩
      have HR : Hid (wr.rangeAt g (off + j * 3) (clC x)) := Lib.hid (by
        rw [← HX.out]
        intro i v hi
        have h1 := range_elem clC_len hr j hjl i v hi
        have hgM := hbo.out g off rfl (by omega)
        rw [← h1]
        exact World.cell?_of_block (HG.out.block g hg (fun e => by injection e with e; omega)))
      have HL : Hid (wr.heap[bl]? = some (.cells tabK 113 (0, 0))) := Lib.hid ((HG.out.block bl (Array.getElem?_eq_some_iff.1 hl.out).1 (fun e => by injection e with e; exact hne e)).trans hl.out)
      have HDR : Hid (ls.drop j = x :: ls.drop (j + 1)) := Lib.hid (by rw [List.drop_eq_getElem_cons hjl, HX.out])
      have HII := Lib.hid (clC_infoL x)
      clear hr
      go_wp2_with (with_reducible refine wpList_load_mid rfl 49 (.tmp 14) rfl g (off + j * 3) rfl (clC x) _ HR.out Tryd.underlying49 rfl HII.out ?_)
      rw [show Value.agg (clC x).toArray = clV x from rfl]
      refine (chk1K x y bl bs wr HL HS).mono ?_
      rintro e w2 ⟨rfl, hg2, hs2⟩
      have HG2 := Lib.hid (grown_trans HG.out hg2)
      have HS2 := Lib.hid hs2
      clear hg2 hs2
      by_cases hok : (vCl x && decide (y < nCl x)) = true
      · have HCN : Hid (chkE vCl nCl z ls = chkE vCl nCl (nCl x) (ls.drop (j + 1))) := Lib.hid (by rw [HCH.out, HDR.out]; rw [chkE, hok, Bool.true_and])
        rw [hok]
        clear hok
        go_wp2_with fail
        go_roundw
        case rel => exact ⟨j + 1, _, by omega, by go_num, HCN, HG2, HS2⟩
        case measure => simp [intOf]; omega
      · have hok' : (vCl x && decide (y < nCl x)) = false := by simpa using hok
        have HCN : Hid (chkE vCl nCl z ls = false) := Lib.hid (by rw [HCH.out, HDR.out]; rw [chkE, hok', Bool.false_and])
        rw [hok']
        clear hok hok'
        go_wp2_with fail
        go_ret
        exact ⟨_, rfl, by rw [HCN.out]; exact decide_eq_true (by omega), HG2.out⟩
    · have d1 : decide ((j : Int) < (n : Int)) = false := decide_eq_false (by omega)
      have d2 : decide (j < n) = false := decide_eq_false hlt
      have HCN : Hid (chkE vCl nCl z ls = true) := Lib.hid (by rw [HCH.out, List.drop_eq_nil_of_le (by rw [HN.out]; omega)]; rfl)
      go_wp2_with fail
      go_ret
      exact ⟨_, rfl, by rw [HCN.out]; rfl, HG.out⟩
set_option maxHeartbeats 4000000 in
theorem containsK (ls : List Cl) (A : Option Addr) (n c : Nat) (z : Int) (bl bs M : Nat) (w : World) (hn : n ≤ 9223372036854775807) (hM : M ≤ bl) (hMs : M ≤ bs) (hne : bl ≠ bs) (hl : Hid (w.heap[bl]? = some (.cells tabK 113 (0, 0)))) (hs : Hid (w.heap[bs]? = some (.cells #[.int .i64 z] 3 (0, 0)))) (h : Hid (InCl w A n c ls)) (hbo : Hid (∀ g off, A = some ⟨g, off, none⟩ → 0 < ls.length → g < M)) :
    Calls Tryd.prog 94 #[.slice A n c, .func (.func 95) #[] #[.pointer (some ⟨bl, 0, none⟩), .pointer (some ⟨bs, 0, none⟩)]] w fun e w' => e = .returned (.bool (!(chkE vCl nCl z ls))) ∧ w.grownBy w' (some bs) := by
  go_enter Tryd.func94, Tryd.ntmps94
  go_wp2_with fail
  refine (indexK ls A n c z bl bs M w hn hM hMs hne hl hs h hbo).mono ?_
  rintro e w2 ⟨r, rfl, hr, hg⟩
  have HR := Lib.hid hr
  have HG := Lib.hid hg
  clear hr hg
  go_wp2_with fail
  go_ret
  exact ⟨by rw [← HR.out]; rfl, HG.out⟩
set_option maxHeartbeats 4000000 in
theorem checkK (ls : List Cl) (A : Option Addr) (n c : Nat) (w : World) (hn : n ≤ 9223372036854775807) (h : Hid (InCl w A n c ls)) :
    Calls Tryd.prog 50 #[.agg tabK, .slice A n c] w fun e w' => e = .returned (.bool (chkE vCl nCl (-1) ls)) ∧ Below w.heap.size w w' := by
  have hb0 := ((Below.refl _ w).alloc (Nat.le_refl _) (.cells tabK 113)).alloc (by simp) (.cells #[.int .i64 (-1)] 3)
  have hr0 := (Below.heap_alloc (w.alloc (.cells tabK 113)) (.cells #[.int .i64 (-1)] 3) w.heap.size (by simp)).trans (heap_alloc_new w (.cells tabK 113))
  have hr1 := heap_alloc_new (w.alloc (.cells tabK 113)) (.cells #[.int .i64 (-1)] 3)
  rw [World.size_alloc] at hr1
  have HB0 := Lib.hid hb0
  have HL0 := Lib.hid hr0
  have HS0 := Lib.hid hr1
  have HI0 := Lib.hid (h.out.below hb0)
  have HBO : Hid (∀ g off, A = some ⟨g, off, none⟩ → 0 < ls.length → g < w.heap.size) := Lib.hid (fun g off e h0 => by
    obtain ⟨g', off', e', hg, _⟩ := h.out.rd h0
    rw [e] at e'; injection e' with e'; injection e' with e1 e2; omega)
  clear hb0 hr0 hr1
  go_enter Tryd.func50, Tryd.ntmps50
  go_wp2_with fail
  refine (containsK ls A n c (-1) w.heap.size (w.heap.size + 1) w.heap.size _ hn (Nat.le_refl _) (Nat.le_succ _) (by omega) HL0 HS0 HI0 HBO).mono ?_
  rintro e w2 ⟨rfl, hg⟩
  have HB2 : Hid (Below w.heap.size w w2) := Lib.hid (HB0.out.grown hg HB0.out.size (fun k hk => by injection hk with hk; omega))
  clear hg
  go_wp2_with fail
  go_ret
  exact ⟨by simp, HB2.out⟩
end Go.Proofs.YtmfmgeapecapiaaDoor
namespace Go.Proofs.YtmfmgeapecapiaaDoor
open Go.RowKit SzSha SzTree
set_option linter.unusedVariables false
set_option maxRecDepth 100000
def inB (x lo hi : Int) : Bool := decide (lo ≤ x) && decide (x ≤ hi)
/-- a transcript is valid -/
def trG (t : Tr) : Bool := inB t.cam 0 6 && (inB t.stu 0 19999 && (inB t.ver 1 1048576 && (inB t.kno 1 16777216 && (decide (t.ln.length ≤ 4096) && (chkE vLn nLn (-1) t.ln && chkE vCl nCl (-1) t.cl)))))
def trE (t : Tr) : Int := if trG t then 0 else 420
theorem TrOk.below {w w' : World} {t : Tr} {p : TrP} (h : TrOk w t p) (hb : Below w.heap.size w w') : TrOk w' t p := ⟨h.b0, h.b1, h.b2, h.b3, h.ln.below hb, h.cl.below hb, h.len, h.bytes, h.mn, h.mc⟩
end Go.Proofs.YtmfmgeapecapiaaDoor
