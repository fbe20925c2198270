/- sizarref42: in, IsLine, IsClaim, LineNo, ClaimNo. sizarref42.Check, refused by one of the first tests. sizarref42.Check. -/
import Derived.Test.YtmfmgeapecapiaaGreatDoorCS4
import Derived.Test.YtmfmgeapecapiaaGreatDoorCS8
import Derived.Test.YtmfmgeapecapiaaGreatDoorCS6
import Derived.Test.YtmfmgeapecapiaaGreatDoorCS7
import Derived.Deep.MidRow
import Derived.Test.YtmfmgeapecapiaaGreatDoorCS3
set_option maxHeartbeats 16000001
namespace Go.Proofs.YtmfmgeapecapiaaGreatDoor
open Go.RowKit SzSha SzTree
set_option linter.unusedVariables false
set_option maxRecDepth 100000
theorem rin_any (x lo hi : Int) (w : World) : Calls Tryz.prog 55 #[.int .i64 x, .int .i64 lo, .int .i64 hi] w fun e w' => e = .returned (.bool (decide (lo ≤ x) && decide (x ≤ hi))) ∧ w = w' := by
 by_cases h : lo ≤ x
 ·have d : decide (lo ≤ x) = true := decide_eq_true h
  have HE : Hid ((decide (lo ≤ x) && decide (x ≤ hi)) = decide (x ≤ hi)) := Lib.hid (by rw [d]; rfl)
  rw [HE.out]
  go_enter Tryz.func55, Tryz.ntmps55
  go_wp2_with fail
  go_ret
  exact ⟨rfl, rfl⟩
 ·have d : decide (lo ≤ x) = false := decide_eq_false h
  have HE : Hid ((decide (lo ≤ x) && decide (x ≤ hi)) = false) := Lib.hid (by rw [d]; rfl)
  rw [HE.out]
  go_enter Tryz.func55, Tryz.ntmps55
  go_wp2_with fail
  go_ret
  exact ⟨rfl, rfl⟩
theorem rvline_0 (c0 c1 c2 c3 c4 : Int) (w : World) (d0 : (decide (0 ≤ c0) && decide (c0 ≤ 4095)) = false) : Calls Tryz.prog 56 #[.agg #[.int .i64 c0, .int .i64 c1, .int .i64 c2, .int .i64 c3, .int .i64 c4]] w fun e w' => e = .returned (.bool false) ∧ Below w.heap.size w w' := by
 have HB := Lib.hid ((Below.refl _ w).alloc (Nat.le_refl _) (.cells #[.int .i64 c0, .int .i64 c1, .int .i64 c2, .int .i64 c3, .int .i64 c4] 45))
 have D0 := Lib.hid d0
 clear d0
 go_enter Tryz.func56, Tryz.ntmps56
 go_wp2_with fail
 refine (rin_any _ _ _ _).mono ?_
 rintro e w0 ⟨rfl, rfl⟩
 rw [D0.out]
 go_wp2_with fail
 go_ret
 exact ⟨rfl, HB.out⟩
theorem rvline_1 (c0 c1 c2 c3 c4 : Int) (w : World) (d0 : (decide (0 ≤ c0) && decide (c0 ≤ 4095)) = true) (d1 : (decide (0 ≤ c1) && decide (c1 ≤ 1023)) = false) : Calls Tryz.prog 56 #[.agg #[.int .i64 c0, .int .i64 c1, .int .i64 c2, .int .i64 c3, .int .i64 c4]] w fun e w' => e = .returned (.bool false) ∧ Below w.heap.size w w' := by
 have HB := Lib.hid ((Below.refl _ w).alloc (Nat.le_refl _) (.cells #[.int .i64 c0, .int .i64 c1, .int .i64 c2, .int .i64 c3, .int .i64 c4] 45))
 have D0 := Lib.hid d0
 have D1 := Lib.hid d1
 clear d0 d1
 go_enter Tryz.func56, Tryz.ntmps56
 go_wp2_with fail
 refine (rin_any _ _ _ _).mono ?_
 rintro e w0 ⟨rfl, rfl⟩
 rw [D0.out]
 go_wp2_with fail
 refine (rin_any _ _ _ _).mono ?_
 rintro e w1 ⟨rfl, rfl⟩
 rw [D1.out]
 go_wp2_with fail
 go_ret
 exact ⟨rfl, HB.out⟩
theorem rvline_2 (c0 c1 c2 c3 c4 : Int) (w : World) (d0 : (decide (0 ≤ c0) && decide (c0 ≤ 4095)) = true) (d1 : (decide (0 ≤ c1) && decide (c1 ≤ 1023)) = true) (d2 : (decide (0 ≤ c2) && decide (c2 ≤ 12)) = false) : Calls Tryz.prog 56 #[.agg #[.int .i64 c0, .int .i64 c1, .int .i64 c2, .int .i64 c3, .int .i64 c4]] w fun e w' => e = .returned (.bool false) ∧ Below w.heap.size w w' := by
 have HB := Lib.hid ((Below.refl _ w).alloc (Nat.le_refl _) (.cells #[.int .i64 c0, .int .i64 c1, .int .i64 c2, .int .i64 c3, .int .i64 c4] 45))
 have D0 := Lib.hid d0
 have D1 := Lib.hid d1
 have D2 := Lib.hid d2
 clear d0 d1 d2
 go_enter Tryz.func56, Tryz.ntmps56
 go_wp2_with fail
 refine (rin_any _ _ _ _).mono ?_
 rintro e w0 ⟨rfl, rfl⟩
 rw [D0.out]
 go_wp2_with fail
 refine (rin_any _ _ _ _).mono ?_
 rintro e w1 ⟨rfl, rfl⟩
 rw [D1.out]
 go_wp2_with fail
 refine (rin_any _ _ _ _).mono ?_
 rintro e w2 ⟨rfl, rfl⟩
 rw [D2.out]
 go_wp2_with fail
 go_ret
 exact ⟨rfl, HB.out⟩
theorem rvline_3 (c0 c1 c2 c3 c4 : Int) (w : World) (d0 : (decide (0 ≤ c0) && decide (c0 ≤ 4095)) = true) (d1 : (decide (0 ≤ c1) && decide (c1 ≤ 1023)) = true) (d2 : (decide (0 ≤ c2) && decide (c2 ≤ 12)) = true) (d3 : (decide (0 ≤ c3) && decide (c3 ≤ 60)) = false) : Calls Tryz.prog 56 #[.agg #[.int .i64 c0, .int .i64 c1, .int .i64 c2, .int .i64 c3, .int .i64 c4]] w fun e w' => e = .returned (.bool false) ∧ Below w.heap.size w w' := by
 have HB := Lib.hid ((Below.refl _ w).alloc (Nat.le_refl _) (.cells #[.int .i64 c0, .int .i64 c1, .int .i64 c2, .int .i64 c3, .int .i64 c4] 45))
 have D0 := Lib.hid d0
 have D1 := Lib.hid d1
 have D2 := Lib.hid d2
 have D3 := Lib.hid d3
 clear d0 d1 d2 d3
 go_enter Tryz.func56, Tryz.ntmps56
 go_wp2_with fail
 refine (rin_any _ _ _ _).mono ?_
 rintro e w0 ⟨rfl, rfl⟩
 rw [D0.out]
 go_wp2_with fail
 refine (rin_any _ _ _ _).mono ?_
 rintro e w1 ⟨rfl, rfl⟩
 rw [D1.out]
 go_wp2_with fail
 refine (rin_any _ _ _ _).mono ?_
 rintro e w2 ⟨rfl, rfl⟩
 rw [D2.out]
 go_wp2_with fail
 refine (rin_any _ _ _ _).mono ?_
 rintro e w3 ⟨rfl, rfl⟩
 rw [D3.out]
 go_wp2_with fail
 go_ret
 exact ⟨rfl, HB.out⟩
theorem rvline_4 (c0 c1 c2 c3 c4 : Int) (w : World) (d0 : (decide (0 ≤ c0) && decide (c0 ≤ 4095)) = true) (d1 : (decide (0 ≤ c1) && decide (c1 ≤ 1023)) = true) (d2 : (decide (0 ≤ c2) && decide (c2 ≤ 12)) = true) (d3 : (decide (0 ≤ c3) && decide (c3 ≤ 60)) = true) (d4 : (decide (0 ≤ c4) && decide (c4 ≤ 6)) = false) : Calls Tryz.prog 56 #[.agg #[.int .i64 c0, .int .i64 c1, .int .i64 c2, .int .i64 c3, .int .i64 c4]] w fun e w' => e = .returned (.bool false) ∧ Below w.heap.size w w' := by
 have HB := Lib.hid ((Below.refl _ w).alloc (Nat.le_refl _) (.cells #[.int .i64 c0, .int .i64 c1, .int .i64 c2, .int .i64 c3, .int .i64 c4] 45))
 have D0 := Lib.hid d0
 have D1 := Lib.hid d1
 have D2 := Lib.hid d2
 have D3 := Lib.hid d3
 have D4 := Lib.hid d4
 clear d0 d1 d2 d3 d4
 go_enter Tryz.func56, Tryz.ntmps56
 go_wp2_with fail
 refine (rin_any _ _ _ _).mono ?_
 rintro e w0 ⟨rfl, rfl⟩
 rw [D0.out]
 go_wp2_with fail
 refine (rin_any _ _ _ _).mono ?_
 rintro e w1 ⟨rfl, rfl⟩
 rw [D1.out]
 go_wp2_with fail
 refine (rin_any _ _ _ _).mono ?_
 rintro e w2 ⟨rfl, rfl⟩
 rw [D2.out]
 go_wp2_with fail
 refine (rin_any _ _ _ _).mono ?_
 rintro e w3 ⟨rfl, rfl⟩
 rw [D3.out]
 go_wp2_with fail
 refine (rin_any _ _ _ _).mono ?_
 rintro e w4 ⟨rfl, rfl⟩
 rw [D4.out]
 go_wp2_with fail
 go_ret
 exact ⟨rfl, HB.out⟩
theorem rvline_5 (c0 c1 c2 c3 c4 : Int) (w : World) (d0 : (decide (0 ≤ c0) && decide (c0 ≤ 4095)) = true) (d1 : (decide (0 ≤ c1) && decide (c1 ≤ 1023)) = true) (d2 : (decide (0 ≤ c2) && decide (c2 ≤ 12)) = true) (d3 : (decide (0 ≤ c3) && decide (c3 ≤ 60)) = true) (d4 : (decide (0 ≤ c4) && decide (c4 ≤ 6)) = true) : Calls Tryz.prog 56 #[.agg #[.int .i64 c0, .int .i64 c1, .int .i64 c2, .int .i64 c3, .int .i64 c4]] w fun e w' => e = .returned (.bool true) ∧ Below w.heap.size w w' := by
 have HB := Lib.hid ((Below.refl _ w).alloc (Nat.le_refl _) (.cells #[.int .i64 c0, .int .i64 c1, .int .i64 c2, .int .i64 c3, .int .i64 c4] 45))
 have D0 := Lib.hid d0
 have D1 := Lib.hid d1
 have D2 := Lib.hid d2
 have D3 := Lib.hid d3
 have D4 := Lib.hid d4
 clear d0 d1 d2 d3 d4
 go_enter Tryz.func56, Tryz.ntmps56
 go_wp2_with fail
 refine (rin_any _ _ _ _).mono ?_
 rintro e w0 ⟨rfl, rfl⟩
 rw [D0.out]
 go_wp2_with fail
 refine (rin_any _ _ _ _).mono ?_
 rintro e w1 ⟨rfl, rfl⟩
 rw [D1.out]
 go_wp2_with fail
 refine (rin_any _ _ _ _).mono ?_
 rintro e w2 ⟨rfl, rfl⟩
 rw [D2.out]
 go_wp2_with fail
 refine (rin_any _ _ _ _).mono ?_
 rintro e w3 ⟨rfl, rfl⟩
 rw [D3.out]
 go_wp2_with fail
 refine (rin_any _ _ _ _).mono ?_
 rintro e w4 ⟨rfl, rfl⟩
 rw [D4.out]
 go_wp2_with fail
 go_ret
 exact ⟨rfl, HB.out⟩
theorem rvline_any (c0 c1 c2 c3 c4 : Int) (w : World) : Calls Tryz.prog 56 #[.agg #[.int .i64 c0, .int .i64 c1, .int .i64 c2, .int .i64 c3, .int .i64 c4]] w fun e w' => e = .returned (.bool (decide (lOk c0 c1 c2 c3 c4))) ∧ Below w.heap.size w w' := by
 by_cases b0 : 0 ≤ c0 ∧ c0 ≤ 4095
 case neg =>
  rw [decide_eq_false (show ¬ (lOk c0 c1 c2 c3 c4) by unfold lOk; omega)]
  exact rvline_0 c0 c1 c2 c3 c4  w (and_dec_no b0)
 by_cases b1 : 0 ≤ c1 ∧ c1 ≤ 1023
 case neg =>
  rw [decide_eq_false (show ¬ (lOk c0 c1 c2 c3 c4) by unfold lOk; omega)]
  exact rvline_1 c0 c1 c2 c3 c4  w (and_dec b0) (and_dec_no b1)
 by_cases b2 : 0 ≤ c2 ∧ c2 ≤ 12
 case neg =>
  rw [decide_eq_false (show ¬ (lOk c0 c1 c2 c3 c4) by unfold lOk; omega)]
  exact rvline_2 c0 c1 c2 c3 c4  w (and_dec b0) (and_dec b1) (and_dec_no b2)
 by_cases b3 : 0 ≤ c3 ∧ c3 ≤ 60
 case neg =>
  rw [decide_eq_false (show ¬ (lOk c0 c1 c2 c3 c4) by unfold lOk; omega)]
  exact rvline_3 c0 c1 c2 c3 c4  w (and_dec b0) (and_dec b1) (and_dec b2) (and_dec_no b3)
 by_cases b4 : 0 ≤ c4 ∧ c4 ≤ 6
 case neg =>
  rw [decide_eq_false (show ¬ (lOk c0 c1 c2 c3 c4) by unfold lOk; omega)]
  exact rvline_4 c0 c1 c2 c3 c4  w (and_dec b0) (and_dec b1) (and_dec b2) (and_dec b3) (and_dec_no b4)
 rw [decide_eq_true (show lOk c0 c1 c2 c3 c4 by unfold lOk; omega)]
 exact rvline_5 c0 c1 c2 c3 c4  w (and_dec b0) (and_dec b1) (and_dec b2) (and_dec b3) (and_dec b4)
theorem rvclaim_0 (p r : Int) (m : Bool) (w : World) (d0 : (decide (0 ≤ p) && decide (p ≤ 255)) = false) : Calls Tryz.prog 58 #[.agg #[.int .i64 p, .int .i64 r, .bool m]] w fun e w' => e = .returned (.bool false) ∧ Below w.heap.size w w' := by
 have HB := Lib.hid ((Below.refl _ w).alloc (Nat.le_refl _) (.cells #[.int .i64 p, .int .i64 r, .bool m] 56))
 have D0 := Lib.hid d0
 clear d0
 go_enter Tryz.func58, Tryz.ntmps58
 go_wp2_with fail
 refine (rin_any _ _ _ _).mono ?_
 rintro e w0 ⟨rfl, rfl⟩
 rw [D0.out]
 go_wp2_with fail
 go_ret
 exact ⟨rfl, HB.out⟩
theorem rvclaim_1 (p r : Int) (m : Bool) (w : World) (d0 : (decide (0 ≤ p) && decide (p ≤ 255)) = true) (d1 : (decide (0 ≤ r) && decide (r ≤ 63)) = false) : Calls Tryz.prog 58 #[.agg #[.int .i64 p, .int .i64 r, .bool m]] w fun e w' => e = .returned (.bool false) ∧ Below w.heap.size w w' := by
 have HB := Lib.hid ((Below.refl _ w).alloc (Nat.le_refl _) (.cells #[.int .i64 p, .int .i64 r, .bool m] 56))
 have D0 := Lib.hid d0
 have D1 := Lib.hid d1
 clear d0 d1
 go_enter Tryz.func58, Tryz.ntmps58
 go_wp2_with fail
 refine (rin_any _ _ _ _).mono ?_
 rintro e w0 ⟨rfl, rfl⟩
 rw [D0.out]
 go_wp2_with fail
 refine (rin_any _ _ _ _).mono ?_
 rintro e w1 ⟨rfl, rfl⟩
 rw [D1.out]
 go_wp2_with fail
 go_ret
 exact ⟨rfl, HB.out⟩
theorem rvclaim_2 (p r : Int) (m : Bool) (w : World) (d0 : (decide (0 ≤ p) && decide (p ≤ 255)) = true) (d1 : (decide (0 ≤ r) && decide (r ≤ 63)) = true) : Calls Tryz.prog 58 #[.agg #[.int .i64 p, .int .i64 r, .bool m]] w fun e w' => e = .returned (.bool true) ∧ Below w.heap.size w w' := by
 have HB := Lib.hid ((Below.refl _ w).alloc (Nat.le_refl _) (.cells #[.int .i64 p, .int .i64 r, .bool m] 56))
 have D0 := Lib.hid d0
 have D1 := Lib.hid d1
 clear d0 d1
 go_enter Tryz.func58, Tryz.ntmps58
 go_wp2_with fail
 refine (rin_any _ _ _ _).mono ?_
 rintro e w0 ⟨rfl, rfl⟩
 rw [D0.out]
 go_wp2_with fail
 refine (rin_any _ _ _ _).mono ?_
 rintro e w1 ⟨rfl, rfl⟩
 rw [D1.out]
 go_wp2_with fail
 go_ret
 exact ⟨rfl, HB.out⟩
theorem rvclaim_any (p r : Int) (m : Bool) (w : World) : Calls Tryz.prog 58 #[.agg #[.int .i64 p, .int .i64 r, .bool m]] w fun e w' => e = .returned (.bool (decide (kOk p r))) ∧ Below w.heap.size w w' := by
 by_cases b0 : 0 ≤ p ∧ p ≤ 255
 case neg =>
  rw [decide_eq_false (show ¬ (kOk p r) by unfold kOk; omega)]
  exact rvclaim_0 p r  m  w (and_dec_no b0)
 by_cases b1 : 0 ≤ r ∧ r ≤ 63
 case neg =>
  rw [decide_eq_false (show ¬ (kOk p r) by unfold kOk; omega)]
  exact rvclaim_1 p r  m  w (and_dec b0) (and_dec_no b1)
 rw [decide_eq_true (show kOk p r by unfold kOk; omega)]
 exact rvclaim_2 p r  m  w (and_dec b0) (and_dec b1)
theorem rnoL_any (c0 c1 c2 c3 c4 : Int) (w : World) : Calls Tryz.prog 57 #[.agg #[.int .i64 c0, .int .i64 c1, .int .i64 c2, .int .i64 c3, .int .i64 c4]] w fun e w' => e = .returned (.int .i64 (noL c0 c1)) ∧ Below w.heap.size w w' := by
 have HB := Lib.hid ((Below.refl _ w).alloc (Nat.le_refl _) (.cells #[.int .i64 c0, .int .i64 c1, .int .i64 c2, .int .i64 c3, .int .i64 c4] 45))
 go_enter Tryz.func57, Tryz.ntmps57
 go_wp2_with fail
 go_ret
 exact ⟨by unfold noL; rfl, HB.out⟩
theorem rnoK_any (p r : Int) (m : Bool) (w : World) : Calls Tryz.prog 59 #[.agg #[.int .i64 p, .int .i64 r, .bool m]] w fun e w' => e = .returned (.int .i64 (noK p r)) ∧ Below w.heap.size w w' := by
 have HB := Lib.hid ((Below.refl _ w).alloc (Nat.le_refl _) (.cells #[.int .i64 p, .int .i64 r, .bool m] 56))
 go_enter Tryz.func59, Tryz.ntmps59
 go_wp2_with fail
 go_ret
 exact ⟨by unfold noK; rfl, HB.out⟩
theorem rin_b (x lo hi : Int) (w : World) : Calls Tryz.prog 55 #[.int .i64 x, .int .i64 lo, .int .i64 hi] w fun e w' => e = .returned (.bool (inB x lo hi)) ∧ w = w' := rin_any x lo hi w
theorem rcheck_0 (t : Tr) (p : TrP) (w : World) (h : Hid (TrOk w t p))  (H0 : Hid ((inB t.cam 0 6) = false)) :
  Calls Tryz.prog 18 #[trV t p] w fun e w' => e = .returned (.int .i64 420) ∧ Below w.heap.size w w' := by
 have HIT : Hid ((Tryz.prog.info? 27).map (·.size) = some (trC t p).toArray.size) := Lib.hid (trV_info t p h.out.len)
 have hb0 := (Below.refl _ w).alloc (Nat.le_refl _) (.cells (trC t p).toArray 27)
 have ht0 := heap_alloc_new w (.cells (trC t p).toArray 27)
 obtain ⟨W1, HW1⟩ : ∃ V, Hid (w.alloc (.cells (trC t p).toArray 27) = V) := ⟨_, Lib.hid rfl⟩
 rw [HW1.out] at hb0 ht0
 have RT := Lib.hid ht0
 have HB0 := Lib.hid hb0
 have k0 : W1.cell? ⟨w.heap.size, 0, none⟩ = some (.int .i64 t.cam) := by rw [cell_of_row _ _ _ _ _ _ ht0]; rfl
 have k1 : W1.cell? ⟨w.heap.size, 1, none⟩ = some (.int .i64 t.stu) := by rw [cell_of_row _ _ _ _ _ _ ht0]; rfl
 have k2 : W1.cell? ⟨w.heap.size, 2, none⟩ = some (.int .i64 t.ver) := by rw [cell_of_row _ _ _ _ _ _ ht0]; rfl
 have k3 : W1.cell? ⟨w.heap.size, 3, none⟩ = some (.int .i64 t.kno) := by rw [cell_of_row _ _ _ _ _ _ ht0]; rfl
 have k4 : W1.cell? ⟨w.heap.size, 4, none⟩ = some (.slice p.A p.n p.c) := by rw [cell_of_row _ _ _ _ _ _ ht0]; rfl
 rw [show trV t p = .agg (trC t p).toArray from rfl]
 go_enter Tryz.func18, Tryz.ntmps18
 go_wp2_with (rw [HW1.out])
 refine (rin_b _ _ _ _).mono ?_
 rintro e W2 ⟨rfl, hw0⟩
 rw [← hw0]
 clear hw0
 rw [H0.out]
 go_wp2_with fail
 go_ret
 exact ⟨rfl, HB0.out⟩
theorem rcheck_1 (t : Tr) (p : TrP) (w : World) (h : Hid (TrOk w t p)) (H0 : Hid ((inB t.cam 0 6) = true)) (H1 : Hid ((inB t.stu 0 19999) = false)) :
  Calls Tryz.prog 18 #[trV t p] w fun e w' => e = .returned (.int .i64 420) ∧ Below w.heap.size w w' := by
 have HIT : Hid ((Tryz.prog.info? 27).map (·.size) = some (trC t p).toArray.size) := Lib.hid (trV_info t p h.out.len)
 have hb0 := (Below.refl _ w).alloc (Nat.le_refl _) (.cells (trC t p).toArray 27)
 have ht0 := heap_alloc_new w (.cells (trC t p).toArray 27)
 obtain ⟨W1, HW1⟩ : ∃ V, Hid (w.alloc (.cells (trC t p).toArray 27) = V) := ⟨_, Lib.hid rfl⟩
 rw [HW1.out] at hb0 ht0
 have RT := Lib.hid ht0
 have HB0 := Lib.hid hb0
 have k0 : W1.cell? ⟨w.heap.size, 0, none⟩ = some (.int .i64 t.cam) := by rw [cell_of_row _ _ _ _ _ _ ht0]; rfl
 have k1 : W1.cell? ⟨w.heap.size, 1, none⟩ = some (.int .i64 t.stu) := by rw [cell_of_row _ _ _ _ _ _ ht0]; rfl
 have k2 : W1.cell? ⟨w.heap.size, 2, none⟩ = some (.int .i64 t.ver) := by rw [cell_of_row _ _ _ _ _ _ ht0]; rfl
 have k3 : W1.cell? ⟨w.heap.size, 3, none⟩ = some (.int .i64 t.kno) := by rw [cell_of_row _ _ _ _ _ _ ht0]; rfl
 have k4 : W1.cell? ⟨w.heap.size, 4, none⟩ = some (.slice p.A p.n p.c) := by rw [cell_of_row _ _ _ _ _ _ ht0]; rfl
 rw [show trV t p = .agg (trC t p).toArray from rfl]
 go_enter Tryz.func18, Tryz.ntmps18
 go_wp2_with (rw [HW1.out])
 refine (rin_b _ _ _ _).mono ?_
 rintro e W2 ⟨rfl, hw0⟩
 rw [← hw0]
 clear hw0
 rw [H0.out]
 go_wp2_with fail
 refine (rin_b _ _ _ _).mono ?_
 rintro e W3 ⟨rfl, hw1⟩
 rw [← hw1]
 clear hw1
 rw [H1.out]
 go_wp2_with fail
 go_ret
 exact ⟨rfl, HB0.out⟩
theorem rcheck_2 (t : Tr) (p : TrP) (w : World) (h : Hid (TrOk w t p)) (H0 : Hid ((inB t.cam 0 6) = true)) (H1 : Hid ((inB t.stu 0 19999) = true)) (H2 : Hid ((inB t.ver 1 1048576) = false)) :
  Calls Tryz.prog 18 #[trV t p] w fun e w' => e = .returned (.int .i64 420) ∧ Below w.heap.size w w' := by
 have HIT : Hid ((Tryz.prog.info? 27).map (·.size) = some (trC t p).toArray.size) := Lib.hid (trV_info t p h.out.len)
 have hb0 := (Below.refl _ w).alloc (Nat.le_refl _) (.cells (trC t p).toArray 27)
 have ht0 := heap_alloc_new w (.cells (trC t p).toArray 27)
 obtain ⟨W1, HW1⟩ : ∃ V, Hid (w.alloc (.cells (trC t p).toArray 27) = V) := ⟨_, Lib.hid rfl⟩
 rw [HW1.out] at hb0 ht0
 have RT := Lib.hid ht0
 have HB0 := Lib.hid hb0
 have k0 : W1.cell? ⟨w.heap.size, 0, none⟩ = some (.int .i64 t.cam) := by rw [cell_of_row _ _ _ _ _ _ ht0]; rfl
 have k1 : W1.cell? ⟨w.heap.size, 1, none⟩ = some (.int .i64 t.stu) := by rw [cell_of_row _ _ _ _ _ _ ht0]; rfl
 have k2 : W1.cell? ⟨w.heap.size, 2, none⟩ = some (.int .i64 t.ver) := by rw [cell_of_row _ _ _ _ _ _ ht0]; rfl
 have k3 : W1.cell? ⟨w.heap.size, 3, none⟩ = some (.int .i64 t.kno) := by rw [cell_of_row _ _ _ _ _ _ ht0]; rfl
 have k4 : W1.cell? ⟨w.heap.size, 4, none⟩ = some (.slice p.A p.n p.c) := by rw [cell_of_row _ _ _ _ _ _ ht0]; rfl
 rw [show trV t p = .agg (trC t p).toArray from rfl]
 go_enter Tryz.func18, Tryz.ntmps18
 go_wp2_with (rw [HW1.out])
 refine (rin_b _ _ _ _).mono ?_
 rintro e W2 ⟨rfl, hw0⟩
 rw [← hw0]
 clear hw0
 rw [H0.out]
 go_wp2_with fail
 refine (rin_b _ _ _ _).mono ?_
 rintro e W3 ⟨rfl, hw1⟩
 rw [← hw1]
 clear hw1
 rw [H1.out]
 go_wp2_with fail
 refine (rin_b _ _ _ _).mono ?_
 rintro e W4 ⟨rfl, hw2⟩
 rw [← hw2]
 clear hw2
 rw [H2.out]
 go_wp2_with fail
 go_ret
 exact ⟨rfl, HB0.out⟩
theorem rcheck_3 (t : Tr) (p : TrP) (w : World) (h : Hid (TrOk w t p)) (H0 : Hid ((inB t.cam 0 6) = true)) (H1 : Hid ((inB t.stu 0 19999) = true)) (H2 : Hid ((inB t.ver 1 1048576) = true)) (H3 : Hid ((inB t.kno 1 16777216) = false)) :
  Calls Tryz.prog 18 #[trV t p] w fun e w' => e = .returned (.int .i64 420) ∧ Below w.heap.size w w' := by
 have HIT : Hid ((Tryz.prog.info? 27).map (·.size) = some (trC t p).toArray.size) := Lib.hid (trV_info t p h.out.len)
 have hb0 := (Below.refl _ w).alloc (Nat.le_refl _) (.cells (trC t p).toArray 27)
 have ht0 := heap_alloc_new w (.cells (trC t p).toArray 27)
 obtain ⟨W1, HW1⟩ : ∃ V, Hid (w.alloc (.cells (trC t p).toArray 27) = V) := ⟨_, Lib.hid rfl⟩
 rw [HW1.out] at hb0 ht0
 have RT := Lib.hid ht0
 have HB0 := Lib.hid hb0
 have k0 : W1.cell? ⟨w.heap.size, 0, none⟩ = some (.int .i64 t.cam) := by rw [cell_of_row _ _ _ _ _ _ ht0]; rfl
 have k1 : W1.cell? ⟨w.heap.size, 1, none⟩ = some (.int .i64 t.stu) := by rw [cell_of_row _ _ _ _ _ _ ht0]; rfl
 have k2 : W1.cell? ⟨w.heap.size, 2, none⟩ = some (.int .i64 t.ver) := by rw [cell_of_row _ _ _ _ _ _ ht0]; rfl
 have k3 : W1.cell? ⟨w.heap.size, 3, none⟩ = some (.int .i64 t.kno) := by rw [cell_of_row _ _ _ _ _ _ ht0]; rfl
 have k4 : W1.cell? ⟨w.heap.size, 4, none⟩ = some (.slice p.A p.n p.c) := by rw [cell_of_row _ _ _ _ _ _ ht0]; rfl
 rw [show trV t p = .agg (trC t p).toArray from rfl]
 go_enter Tryz.func18, Tryz.ntmps18
 go_wp2_with (rw [HW1.out])
 refine (rin_b _ _ _ _).mono ?_
 rintro e W2 ⟨rfl, hw0⟩
 rw [← hw0]
 clear hw0
 rw [H0.out]
 go_wp2_with fail
 refine (rin_b _ _ _ _).mono ?_
 rintro e W3 ⟨rfl, hw1⟩
 rw [← hw1]
 clear hw1
 rw [H1.out]
 go_wp2_with fail
 refine (rin_b _ _ _ _).mono ?_
 rintro e W4 ⟨rfl, hw2⟩
 rw [← hw2]
 clear hw2
 rw [H2.out]
 go_wp2_with fail
 refine (rin_b _ _ _ _).mono ?_
 rintro e W5 ⟨rfl, hw3⟩
 rw [← hw3]
 clear hw3
 rw [H3.out]
 go_wp2_with fail
 go_ret
 exact ⟨rfl, HB0.out⟩
theorem rcheck_4 (t : Tr) (p : TrP) (w : World) (h : Hid (TrOk w t p)) (H0 : Hid ((inB t.cam 0 6) = true)) (H1 : Hid ((inB t.stu 0 19999) = true)) (H2 : Hid ((inB t.ver 1 1048576) = true)) (H3 : Hid ((inB t.kno 1 16777216) = true)) (hl : ¬ p.n ≤ 4096) :
  Calls Tryz.prog 18 #[trV t p] w fun e w' => e = .returned (.int .i64 420) ∧ Below w.heap.size w w' := by
 have HIT : Hid ((Tryz.prog.info? 27).map (·.size) = some (trC t p).toArray.size) := Lib.hid (trV_info t p h.out.len)
 have hb0 := (Below.refl _ w).alloc (Nat.le_refl _) (.cells (trC t p).toArray 27)
 have ht0 := heap_alloc_new w (.cells (trC t p).toArray 27)
 obtain ⟨W1, HW1⟩ : ∃ V, Hid (w.alloc (.cells (trC t p).toArray 27) = V) := ⟨_, Lib.hid rfl⟩
 rw [HW1.out] at hb0 ht0
 have RT := Lib.hid ht0
 have HB0 := Lib.hid hb0
 have k0 : W1.cell? ⟨w.heap.size, 0, none⟩ = some (.int .i64 t.cam) := by rw [cell_of_row _ _ _ _ _ _ ht0]; rfl
 have k1 : W1.cell? ⟨w.heap.size, 1, none⟩ = some (.int .i64 t.stu) := by rw [cell_of_row _ _ _ _ _ _ ht0]; rfl
 have k2 : W1.cell? ⟨w.heap.size, 2, none⟩ = some (.int .i64 t.ver) := by rw [cell_of_row _ _ _ _ _ _ ht0]; rfl
 have k3 : W1.cell? ⟨w.heap.size, 3, none⟩ = some (.int .i64 t.kno) := by rw [cell_of_row _ _ _ _ _ _ ht0]; rfl
 have k4 : W1.cell? ⟨w.heap.size, 4, none⟩ = some (.slice p.A p.n p.c) := by rw [cell_of_row _ _ _ _ _ _ ht0]; rfl
 have d4 : decide ((4096 : Int) < (p.n : Int)) = true := decide_eq_true (by omega)
 have d4n : decide (4096 < p.n) = true := decide_eq_true (by omega)
 rw [show trV t p = .agg (trC t p).toArray from rfl]
 go_enter Tryz.func18, Tryz.ntmps18
 go_wp2_with (rw [HW1.out])
 refine (rin_b _ _ _ _).mono ?_
 rintro e W2 ⟨rfl, hw0⟩
 rw [← hw0]
 clear hw0
 rw [H0.out]
 go_wp2_with fail
 refine (rin_b _ _ _ _).mono ?_
 rintro e W3 ⟨rfl, hw1⟩
 rw [← hw1]
 clear hw1
 rw [H1.out]
 go_wp2_with fail
 refine (rin_b _ _ _ _).mono ?_
 rintro e W4 ⟨rfl, hw2⟩
 rw [← hw2]
 clear hw2
 rw [H2.out]
 go_wp2_with fail
 refine (rin_b _ _ _ _).mono ?_
 rintro e W5 ⟨rfl, hw3⟩
 rw [← hw3]
 clear hw3
 rw [H3.out]
 go_wp2_with fail
 go_ret
 exact ⟨rfl, HB0.out⟩
theorem chkE_step {α : Type} {v : α → Bool} {no : α → Int} {z : Int} {x : α} {xs : List α} (h1 : v x = true) (h2 : z < no x) : chkE v no z (x :: xs) = chkE v no (no x) xs := by
 show ((v x && decide (z < no x)) && chkE v no (no x) xs) = _
 rw [h1, decide_eq_true h2]; rfl
theorem chkE_badv {α : Type} {v : α → Bool} {no : α → Int} {z : Int} {x : α} {xs : List α} (h1 : v x = false) : chkE v no z (x :: xs) = false := by
 show ((v x && decide (z < no x)) && chkE v no (no x) xs) = _
 rw [h1]; rfl
theorem chkE_bado {α : Type} {v : α → Bool} {no : α → Int} {z : Int} {x : α} {xs : List α} (h2 : no x ≤ z) : chkE v no z (x :: xs) = false := by
 show ((v x && decide (z < no x)) && chkE v no (no x) xs) = _
 rw [decide_eq_false (by omega)]; simp
theorem nLn_pos {x : Ln} (h : vLn x = true) : -1 < nLn x := by
 have h2 := of_decide_eq_true h
 have e := noL_val h2
 unfold nLn; rw [e]; unfold lOk at h2; omega
theorem nCl_pos {x : Cl} (h : vCl x = true) : -1 < nCl x := by
 have h2 := of_decide_eq_true h
 have e := noK_val h2
 unfold nCl; rw [e]; unfold kOk at h2; omega
def wCkL (bt g off n c jn jp : Nat) (x y : Ln) (v z b : Bool) : Nat → Value → Prop
 | 0, fv => fv = .pointer (some ⟨bt, 4, none⟩)
 | 1, fv => fv = .slice (some ⟨g, off, none⟩) n c
 | 2, fv => fv = .int .i64 ((jn : Nat))
 | 3, fv => fv = .pointer (some ⟨g, off + jn * 5, none⟩)
 | 4, fv => fv = lnV x
 | 5, fv => fv = .bool v
 | 6, fv => fv = .bool (!v)
 | 7, fv => fv = .bool (!v)
 | 8, fv => fv = bif v then .int .i64 ((jn : Nat)) else undef
 | 9, fv => fv = bif v then .bool z else undef
 | 10, fv => fv = bif v then .bool z else undef
 | 11, fv => fv = bif v && z then .pointer (some ⟨bt, 4, none⟩) else undef
 | 12, fv => fv = bif v && z then .slice (some ⟨g, off, none⟩) n c else undef
 | 13, fv => fv = bif v && z then .int .i64 ((jn : Nat)) else undef
 | 14, fv => fv = bif v && z then .int .i64 ((jp : Nat)) else undef
 | 15, fv => fv = bif v && z then .pointer (some ⟨g, off + jp * 5, none⟩) else undef
 | 16, fv => fv = bif v && z then lnV y else undef
 | 17, fv => fv = bif v && z then .int .i64 (nLn y) else undef
 | 18, fv => fv = bif v && z then .pointer (some ⟨bt, 4, none⟩) else undef
 | 19, fv => fv = bif v && z then .slice (some ⟨g, off, none⟩) n c else undef
 | 20, fv => fv = bif v && z then .int .i64 ((jn : Nat)) else undef
 | 21, fv => fv = bif v && z then .pointer (some ⟨g, off + jn * 5, none⟩) else undef
 | 22, fv => fv = bif v && z then lnV x else undef
 | 23, fv => fv = bif v && z then .int .i64 (nLn x) else undef
 | 24, fv => fv = bif v && z then .bool b else undef
 | 25, fv => fv = bif v then .bool (z && b) else undef
 | 26, fv => fv = .bool (bif v then z && b else true)
 | _, _ => True
def wCkK (bt g off n c jn jp : Nat) (x y : Cl) (v z b : Bool) : Nat → Value → Prop
 | 0, fv => fv = .pointer (some ⟨bt, 5, none⟩)
 | 1, fv => fv = .slice (some ⟨g, off, none⟩) n c
 | 2, fv => fv = .int .i64 ((jn : Nat))
 | 3, fv => fv = .pointer (some ⟨g, off + jn * 3, none⟩)
 | 4, fv => fv = clV x
 | 5, fv => fv = .bool v
 | 6, fv => fv = .bool (!v)
 | 7, fv => fv = .bool (!v)
 | 8, fv => fv = bif v then .int .i64 ((jn : Nat)) else undef
 | 9, fv => fv = bif v then .bool z else undef
 | 10, fv => fv = bif v then .bool z else undef
 | 11, fv => fv = bif v && z then .pointer (some ⟨bt, 5, none⟩) else undef
 | 12, fv => fv = bif v && z then .slice (some ⟨g, off, none⟩) n c else undef
 | 13, fv => fv = bif v && z then .int .i64 ((jn : Nat)) else undef
 | 14, fv => fv = bif v && z then .int .i64 ((jp : Nat)) else undef
 | 15, fv => fv = bif v && z then .pointer (some ⟨g, off + jp * 3, none⟩) else undef
 | 16, fv => fv = bif v && z then clV y else undef
 | 17, fv => fv = bif v && z then .int .i64 (nCl y) else undef
 | 18, fv => fv = bif v && z then .pointer (some ⟨bt, 5, none⟩) else undef
 | 19, fv => fv = bif v && z then .slice (some ⟨g, off, none⟩) n c else undef
 | 20, fv => fv = bif v && z then .int .i64 ((jn : Nat)) else undef
 | 21, fv => fv = bif v && z then .pointer (some ⟨g, off + jn * 3, none⟩) else undef
 | 22, fv => fv = bif v && z then clV x else undef
 | 23, fv => fv = bif v && z then .int .i64 (nCl x) else undef
 | 24, fv => fv = bif v && z then .bool b else undef
 | 25, fv => fv = bif v then .bool (z && b) else undef
 | 26, fv => fv = .bool (bif v then z && b else true)
 | _, _ => True
theorem rcheck_in (t : Tr) (p : TrP) (w : World) (h : Hid (TrOk w t p)) (H0 : Hid ((inB t.cam 0 6) = true)) (H1 : Hid ((inB t.stu 0 19999) = true)) (H2 : Hid ((inB t.ver 1 1048576) = true)) (H3 : Hid ((inB t.kno 1 16777216) = true)) (hl : p.n ≤ 4096) :
  Calls Tryz.prog 18 #[trV t p] w fun e w' => e = .returned (.int .i64 (trE t)) ∧ Below w.heap.size w w' := by
 have HIT : Hid ((Tryz.prog.info? 27).map (·.size) = some (trC t p).toArray.size) := Lib.hid (trV_info t p h.out.len)
 have hb0 := (Below.refl _ w).alloc (Nat.le_refl _) (.cells (trC t p).toArray 27)
 have ht0 := heap_alloc_new w (.cells (trC t p).toArray 27)
 obtain ⟨W1, HW1⟩ : ∃ V, Hid (w.alloc (.cells (trC t p).toArray 27) = V) := ⟨_, Lib.hid rfl⟩
 rw [HW1.out] at hb0 ht0
 have RT := Lib.hid ht0
 have HB0 := Lib.hid hb0
 have k0 : W1.cell? ⟨w.heap.size, 0, none⟩ = some (.int .i64 t.cam) := by rw [cell_of_row _ _ _ _ _ _ ht0]; rfl
 have k1 : W1.cell? ⟨w.heap.size, 1, none⟩ = some (.int .i64 t.stu) := by rw [cell_of_row _ _ _ _ _ _ ht0]; rfl
 have k2 : W1.cell? ⟨w.heap.size, 2, none⟩ = some (.int .i64 t.ver) := by rw [cell_of_row _ _ _ _ _ _ ht0]; rfl
 have k3 : W1.cell? ⟨w.heap.size, 3, none⟩ = some (.int .i64 t.kno) := by rw [cell_of_row _ _ _ _ _ _ ht0]; rfl
 have k4 : W1.cell? ⟨w.heap.size, 4, none⟩ = some (.slice p.A p.n p.c) := by rw [cell_of_row _ _ _ _ _ _ ht0]; rfl
 have d4 : decide ((4096 : Int) < (p.n : Int)) = false := decide_eq_false (by omega)
 have d4n : decide (4096 < p.n) = false := decide_eq_false (by omega)
 have HTG : Hid (chkE vLn nLn (-1) t.ln = false → trG t = false) := Lib.hid (fun e => by unfold trG; rw [e]; simp)
 have HTY : Hid (chkE vLn nLn (-1) t.ln = true → chkE vCl nCl (-1) t.cl = true → trG t = true) := Lib.hid (fun e1 e2 => by
  unfold trG
  rw [H0.out, H1.out, H2.out, H3.out, e1, e2, decide_eq_true (by rw [h.out.ln.len]; exact hl)]; rfl)
 rw [show trV t p = .agg (trC t p).toArray from rfl]
 go_enter Tryz.func18, Tryz.ntmps18
 go_wp2_with (rw [HW1.out])
 refine (rin_b _ _ _ _).mono ?_
 rintro e W2 ⟨rfl, hw0⟩
 rw [← hw0]
 clear hw0
 rw [H0.out]
 go_wp2_with fail
 refine (rin_b _ _ _ _).mono ?_
 rintro e W3 ⟨rfl, hw1⟩
 rw [← hw1]
 clear hw1
 rw [H1.out]
 go_wp2_with fail
 refine (rin_b _ _ _ _).mono ?_
 rintro e W4 ⟨rfl, hw2⟩
 rw [← hw2]
 clear hw2
 rw [H2.out]
 go_wp2_with fail
 refine (rin_b _ _ _ _).mono ?_
 rintro e W5 ⟨rfl, hw3⟩
 rw [← hw3]
 clear hw3
 rw [H3.out]
 go_wp2_with fail
 clear k0 k1 k2 k3 k4 d4 d4n ht0 hb0
 go_loopw [3] (fun i wr => ∃ (j : Nat) (u : Int), j ≤ p.n ∧ i = .int .i64 (j : Nat) ∧ Hid (chkE vLn nLn (-1) t.ln = chkE vLn nLn u (t.ln.drop j)) ∧ Hid (j = 0 → u = -1) ∧ Hid (∀ jp, j = jp + 1 → ∃ y, t.ln[jp]? = some y ∧ u = nLn y) ∧ Hid (Below w.heap.size w wr) ∧ Hid (wr.heap[w.heap.size]? = some (.cells (trC t p).toArray 27 (0, 0)))) (fun i _ => p.n - (intOf i).toNat)
 case atStart => exact ⟨0, -1, by omega, rfl, Lib.hid rfl, Lib.hid (fun _ => rfl), Lib.hid (fun jp h => by cases h), HB0, RT⟩
 case round =>
  clear HB0 RT
  obtain ⟨j, u, hj, rfl, HCH, HZ0, HZP, HB, HTR⟩ := hrel
  have hcs : wr.cell? ⟨w.heap.size, 4, none⟩ = some (.slice p.A p.n p.c) := by rw [cell_of_row _ _ _ _ _ _ HTR.out]; rfl
  by_cases hlt : j < p.n
  ·have d1 : decide ((j : Int) < (p.n : Int)) = true := decide_eq_true (by omega)
   have d1n : decide (j < p.n) = true := decide_eq_true hlt
   have HLT := Lib.hid hlt
   have hin := h.out.ln.below HB.out
   have hjl : j < t.ln.length := by rw [hin.len]; exact hlt
   obtain ⟨g, off, ea, hg, hr⟩ := hin.rd (by omega)
   have HEA := Lib.hid ea
   obtain ⟨x, hx⟩ : ∃ x, t.ln[j] = x := ⟨_, rfl⟩
   have HX : Hid (t.ln[j]? = some x) := Lib.hid (by rw [List.getElem?_eq_getElem hjl, hx])
   have HRX := Lib.hid (range_elem lnC_len hr j hjl)
   rw [hx] at HRX
   have HII := Lib.hid (lnC_infoL x)
   have HGW := Lib.hid hg
   have HDR : Hid (t.ln.drop j = x :: t.ln.drop (j + 1)) := Lib.hid (by rw [List.drop_eq_getElem_cons hjl, hx])
   rw [HDR.out] at HCH
   have HTB : Hid (w.heap.size < wr.heap.size) := Lib.hid (Array.getElem?_eq_some_iff.1 HTR.out).1
   rw [ea] at hcs
   have HTC := Lib.hid hcs
   have HRA := Lib.hid hr
   have HJL := Lib.hid hjl
   clear hr hg hin ea hx hjl
   obtain ⟨v, HV⟩ : ∃ b, Hid (vLn x = b) := ⟨_, Lib.hid rfl⟩
   obtain ⟨jp, HJP⟩ : ∃ q : Nat, Hid (j - 1 = q) := ⟨_, Lib.hid rfl⟩
   obtain ⟨z, HZJ⟩ : ∃ b, Hid (decide ((0 : Int) < (j : Int)) = b) := ⟨_, Lib.hid rfl⟩
   obtain ⟨y, HY0⟩ : ∃ y, Hid (0 < j → t.ln[jp]? = some y ∧ u = nLn y) := by
    by_cases h0 : 0 < j
    ·obtain ⟨y, h1, h2⟩ := HZP.out jp (by have := HJP.out; omega)
     exact ⟨y, Lib.hid (fun _ => ⟨h1, h2⟩)⟩
    ·exact ⟨x, Lib.hid (fun e => absurd e h0)⟩
   have HPZ : Hid (z = true → 0 < j) := Lib.hid (fun e => by have h1 := HZJ.out; rw [e] at h1; have := of_decide_eq_true h1; omega)
   have HRY : Hid (z = true → wr.rangeAt g (off + jp * 5) (lnC y)) := Lib.hid (fun e => by
    have h0 := HPZ.out e
    have hq : jp < t.ln.length := by have := HJL.out; have := HJP.out; omega
    have h2 := range_elem lnC_len HRA.out jp hq
    have h3 := (HY0.out h0).1
    rw [List.getElem?_eq_getElem hq] at h3
    rwa [Option.some.inj h3] at h2)
   have HJQ : Hid (z = true → jp < p.n) := Lib.hid (fun e => by have := HLT.out; have := HJP.out; have := HPZ.out e; omega)
   have HJW : Hid (z = true → IntKind.i64.wrap ((j : Int) - 1) = (jp : Int)) := Lib.hid (fun e => by
    have h1 := HPZ.out e
    have h2 := h.out.mn
    have h3 := HLT.out
    have h4 := HJP.out
    rw [IntWalk.i64_in _ (by unfold maxLen at h2; omega)]; omega)
   have HIJ := Lib.hid (lnC_infoL y)
   obtain ⟨b, HBO⟩ : ∃ b, Hid (decide (nLn x ≤ nLn y) = b) := ⟨_, Lib.hid rfl⟩
   have HNO : Hid ((bif v then z && b else true) = true → trE t = 420) := Lib.hid (fun e => trE_no (HTG.out (HCH.out.trans (by
    cases v with
    | false => exact chkE_badv HV.out
    | true =>
     simp only [cond_true, Bool.and_eq_true] at e
     refine chkE_bado ?_
     rw [(HY0.out (HPZ.out e.1)).2]
     have h1 := HBO.out
     rw [e.2] at h1
     exact of_decide_eq_true h1))))
   have HZE : Hid ((bif v then z && b else true) = false → chkE vLn nLn (-1) t.ln = chkE vLn nLn (nLn x) (t.ln.drop (j + 1))) := Lib.hid (fun e => HCH.out.trans (by
    cases v with
    | false => cases e
    | true =>
     simp only [cond_true, Bool.and_eq_false_iff] at e
     refine chkE_step HV.out ?_
     cases z with
     | false =>
      have h1 := of_decide_eq_false HZJ.out
      rw [HZ0.out (by omega)]
      exact nLn_pos HV.out
     | true =>
      rw [(HY0.out (HPZ.out rfl)).2]
      have h1 := HBO.out
      rcases e with e | e
      ·cases e
      ·rw [e] at h1
       have := of_decide_eq_false h1
       omega))
   have HNX : Hid (∀ jp, j + 1 = jp + 1 → ∃ y, t.ln[jp]? = some y ∧ nLn x = nLn y) := Lib.hid (fun jp e => ⟨x, by
    have : jp = j := by omega
    subst this
    exact HX.out, rfl⟩)
   have HMB : Hid (p.n ≤ 9223372036854775807) := Lib.hid (by have := h.out.mn; unfold maxLen at this; omega)
   go_wp2_with fail
   refine region_flow3 (by kernel_rfl) (by kernel_rfl) (fun i => Nat.beq i 26) (fun i => i) (by kernel_rfl) (fun fx => #[.agg (trC t p).toArray, .pointer (some { block := w.heap.size, off := 0 }), u2, .int IntKind.i64 ↑j, undef, .pointer (some { block := w.heap.size, off := 0 }), .int IntKind.i64 t.cam, .bool true, .bool false, .bool false, .pointer (some { block := w.heap.size, off := 1 }), .int IntKind.i64 t.stu, .bool true, .bool false, .bool false, .bool false, .pointer (some { block := w.heap.size, off := 2 }), .int IntKind.i64 t.ver, .bool true, .bool false, .bool false, .bool false, .pointer (some { block := w.heap.size, off := 3 }), .int IntKind.i64 t.kno, .bool true, .bool false, .bool false, .bool false, .pointer (some { block := w.heap.size, off := 4 }), .slice p.A p.n p.c, .int IntKind.i64 ↑p.n, .bool false, .bool false, .int IntKind.i64 ↑j, .pointer (some { block := w.heap.size, off := 4 }), .slice (some { block := g, off := off }) p.n p.c, .int IntKind.i64 ↑p.n, .bool true, u38, u39, fx 0, fx 1, fx 2, fx 3, fx 4, fx 5, fx 6, fx 7, fx 8, fx 9, fx 10, fx 11, fx 12, fx 13, fx 14, fx 15, fx 16, fx 17, fx 18, fx 19, fx 20, fx 21, fx 22, fx 23, fx 24, fx 25, fx 26, undef, undef, undef, undef, undef, undef, undef, undef, undef, undef, undef, undef, undef, undef, undef, undef, undef, undef, undef, undef, undef, undef, undef, undef, undef, undef, undef, undef, undef, undef, undef, undef, undef, undef]) (fun i => bif Nat.beq i 0 then u40 else bif Nat.beq i 1 then u41 else bif Nat.beq i 2 then u42 else bif Nat.beq i 3 then u43 else bif Nat.beq i 4 then u44 else bif Nat.beq i 5 then u45 else bif Nat.beq i 6 then u46 else bif Nat.beq i 7 then u47 else bif Nat.beq i 8 then u48 else bif Nat.beq i 9 then u49 else bif Nat.beq i 10 then u50 else bif Nat.beq i 11 then u51 else bif Nat.beq i 12 then u52 else bif Nat.beq i 13 then u53 else bif Nat.beq i 14 then u54 else bif Nat.beq i 15 then u55 else bif Nat.beq i 16 then u56 else bif Nat.beq i 17 then u57 else bif Nat.beq i 18 then u58 else bif Nat.beq i 19 then u59 else bif Nat.beq i 20 then u60 else bif Nat.beq i 21 then u61 else bif Nat.beq i 22 then u62 else bif Nat.beq i 23 then u63 else bif Nat.beq i 24 then u64 else bif Nat.beq i 25 then u65 else bif Nat.beq i 26 then u66 else undef) (fun L fx w' => Below wr.heap.size wr w') (fun fi fv _ _ => wCkL w.heap.size g off p.n p.c j jp x y v z b fi fv) (Below.refl _ _).drew ?_ ?_
   ·refine ⟨?_, ?_, ?_, ?_, ?_, ?_, ?_, ?_, ?_, ?_, ?_, ?_, ?_, ?_, ?_, ?_, ?_, ?_, ?_, ?_, ?_, ?_, ?_, ?_, ?_, ?_, ?_, trivial⟩
    all_goals intro L fx w' hC hi hcl hdn hd
    ·clear hd
     go_wp2_with fail
     exact ⟨_, rfl, hC, rfl, kP⟩
    ·have h0 : fx 0 = .pointer (some ⟨w.heap.size, 4, none⟩) := hd.1 rfl
     clear hd
     have hcc := (hC.cell (p := ⟨w.heap.size, 4, none⟩) HTB.out).trans HTC.out
     go_wp2_with fail
     exact ⟨_, by simp only [upd, h0]; rfl, hC, rfl, kP⟩
    ·clear hd
     go_wp2_with fail
     exact ⟨_, rfl, hC, rfl, kP⟩
    ·have h1 : fx 1 = .slice (some ⟨g, off, none⟩) p.n p.c := hd.1 rfl
     have h2 : fx 2 = .int .i64 ((j : Nat)) := hd.2.1 rfl
     clear hd
     have hlt := HLT.out
     have hltn : decide (j < p.n) = true := decide_eq_true hlt
     go_wp2_with fail
     exact ⟨_, by simp only [upd, h1, h2]; rfl, hC, rfl, kP⟩
    ·have h3 : fx 3 = .pointer (some ⟨g, off + j * 5, none⟩) := hd.1 rfl
     clear hd
     have hrow := rangeAt_below HRX.out HGW.out hC
     refine wpList_load_mid rfl 45 (.tmp 43) rfl g (off + j * 5) h3 (lnC x) _ hrow Tryz.underlying45 rfl HII.out ?_
     rw [show Value.agg (lnC x).toArray = lnV x from rfl]
     go_wp2_with fail
     exact ⟨_, by simp only [upd, h3]; rfl, hC, rfl, kP⟩
    ·have h4 : fx 4 = lnV x := hd.1 rfl
     clear hd
     go_wp2_with fail
     refine (rvline_any x.c0 x.c1 x.c2 x.c3 x.c4 w').mono ?_
     rintro e w2 ⟨rfl, hq⟩
     rw [show decide (lOk x.c0 x.c1 x.c2 x.c3 x.c4) = vLn x from rfl, HV.out]
     go_wp2_with fail
     exact ⟨_, by simp only [upd, h4]; rfl, hC.trans (hq.mono hC.size), rfl, kP⟩
    ·have h5 : fx 5 = .bool v := hd.1 rfl
     clear hd
     go_wp2_with fail
     exact ⟨_, by simp only [upd, h5]; rfl, hC, rfl, kP⟩
    ·have h6 : fx 6 = .bool (!v) := hd.1 rfl
     clear hd
     go_wp2_with fail
     exact ⟨_, by simp only [upd, h6]; rfl, hC, rfl, kP⟩
    ·have h7 : fx 7 = .bool (!v) := hd.1 rfl
     clear hd
     cases v
     ·dsimp only [cond, and, not] at h7
      go_wp2_with fail
      exact ⟨_, by simp only [upd, h7]; rfl, hC, rfl, kP⟩
     ·dsimp only [cond, and, not] at h7
      dsimp only
      rw [h7]
      refine wpList_unguard rfl ?_
      go_wp2_with fail
      exact ⟨_, by simp only [upd, h7]; rfl, hC, rfl, kP⟩
    ·have h8 : fx 8 = bif v then .int .i64 ((j : Nat)) else undef := hd.1 rfl
     have h7 : fx 7 = .bool (!v) := hd.2.1 rfl
     clear hd
     cases v
     ·dsimp only [cond, and, not] at h8 h7
      go_wp2_with fail
      exact ⟨_, by simp only [upd, h8, h7]; rfl, hC, rfl, kP⟩
     ·dsimp only [cond, and, not] at h8 h7
      dsimp only
      rw [h7]
      refine wpList_unguard rfl ?_
      have hj0 := HZJ.out
      have hj0n : decide (0 < j) = z := by rw [← hj0]; simp
      go_wp2_with fail
      exact ⟨_, by simp only [upd, h8, h7]; rfl, hC, rfl, kP⟩
    ·have h9 : fx 9 = bif v then .bool z else undef := hd.1 rfl
     have h7 : fx 7 = .bool (!v) := hd.2.2.1 rfl
     clear hd
     cases v
     ·dsimp only [cond, and, not] at h9 h7
      go_wp2_with fail
      exact ⟨_, by simp only [upd, h9, h7]; rfl, hC, rfl, kP⟩
     ·dsimp only [cond, and, not] at h9 h7
      dsimp only
      rw [h7]
      refine wpList_unguard rfl ?_
      go_wp2_with fail
      exact ⟨_, by simp only [upd, h9, h7]; rfl, hC, rfl, kP⟩
    ·have h10 : fx 10 = bif v then .bool z else undef := hd.1 rfl
     clear hd
     cases v <;> cases z
     rotate_left 3
     ·dsimp only [cond, and, not] at h10
      dsimp only
      rw [h10]
      refine wpList_unguard rfl ?_
      go_wp2_with fail
      exact ⟨_, by simp only [upd, h10]; rfl, hC, rfl, kP⟩
     all_goals
      dsimp only [cond, and, not] at h10; dsimp only; rw [h10]; refine wpList_skip rfl ?_; go_wp2_with fail; exact ⟨_, by simp only [upd, h10]; rfl, hC, rfl, kP⟩
    ·have h11 : fx 11 = bif v && z then .pointer (some ⟨w.heap.size, 4, none⟩) else undef := hd.1 rfl
     have h10 : fx 10 = bif v then .bool z else undef := hd.2.1 rfl
     clear hd
     cases v <;> cases z
     rotate_left 3
     ·dsimp only [cond, and, not] at h11 h10
      dsimp only
      rw [h10]
      refine wpList_unguard rfl ?_
      have hcc := (hC.cell (p := ⟨w.heap.size, 4, none⟩) HTB.out).trans HTC.out
      go_wp2_with fail
      exact ⟨_, by simp only [upd, h11, h10]; rfl, hC, rfl, kP⟩
     all_goals
      dsimp only [cond, and, not] at h11 h10; dsimp only; rw [h10]; refine wpList_skip rfl ?_; go_wp2_with fail; exact ⟨_, by simp only [upd, h11, h10]; rfl, hC, rfl, kP⟩
    ·have h10 : fx 10 = bif v then .bool z else undef := hd.1 rfl
     clear hd
     cases v <;> cases z
     rotate_left 3
     ·dsimp only [cond, and, not] at h10
      dsimp only
      rw [h10]
      refine wpList_unguard rfl ?_
      go_wp2_with fail
      exact ⟨_, by simp only [upd, h10]; rfl, hC, rfl, kP⟩
     all_goals
      dsimp only [cond, and, not] at h10; dsimp only; rw [h10]; refine wpList_skip rfl ?_; go_wp2_with fail; exact ⟨_, by simp only [upd, h10]; rfl, hC, rfl, kP⟩
    ·have h13 : fx 13 = bif v && z then .int .i64 ((j : Nat)) else undef := hd.1 rfl
     have h10 : fx 10 = bif v then .bool z else undef := hd.2.1 rfl
     clear hd
     cases v <;> cases z
     rotate_left 3
     ·dsimp only [cond, and, not] at h13 h10
      dsimp only
      rw [h10]
      refine wpList_unguard rfl ?_
      have hjw := HJW.out rfl
      go_wp2_with fail
      exact ⟨_, by simp only [upd, h13, h10]; rfl, hC, rfl, kP⟩
     all_goals
      dsimp only [cond, and, not] at h13 h10; dsimp only; rw [h10]; refine wpList_skip rfl ?_; go_wp2_with fail; exact ⟨_, by simp only [upd, h13, h10]; rfl, hC, rfl, kP⟩
    ·have h12 : fx 12 = bif v && z then .slice (some ⟨g, off, none⟩) p.n p.c else undef := hd.1 rfl
     have h14 : fx 14 = bif v && z then .int .i64 ((jp : Nat)) else undef := hd.2.1 rfl
     have h10 : fx 10 = bif v then .bool z else undef := hd.2.2.1 rfl
     clear hd
     cases v <;> cases z
     rotate_left 3
     ·dsimp only [cond, and, not] at h12 h14 h10
      dsimp only
      rw [h10]
      refine wpList_unguard rfl ?_
      have hjq := HJQ.out rfl
      have hjqn : decide (jp < p.n) = true := decide_eq_true hjq
      go_wp2_with fail
      exact ⟨_, by simp only [upd, h12, h14, h10]; rfl, hC, rfl, kP⟩
     all_goals
      dsimp only [cond, and, not] at h12 h14 h10; dsimp only; rw [h10]; refine wpList_skip rfl ?_; go_wp2_with fail; exact ⟨_, by simp only [upd, h12, h14, h10]; rfl, hC, rfl, kP⟩
    ·have h15 : fx 15 = bif v && z then .pointer (some ⟨g, off + jp * 5, none⟩) else undef := hd.1 rfl
     have h10 : fx 10 = bif v then .bool z else undef := hd.2.1 rfl
     clear hd
     cases v <;> cases z
     rotate_left 3
     ·dsimp only [cond, and, not] at h15 h10
      dsimp only
      rw [h10]
      refine wpList_unguard rfl ?_
      have hrow := rangeAt_below (HRY.out rfl) HGW.out hC
      refine wpList_load_mid rfl 45 (.tmp 55) rfl g (off + jp * 5) h15 (lnC y) _ hrow Tryz.underlying45 rfl HIJ.out ?_
      rw [show Value.agg (lnC y).toArray = lnV y from rfl]
      go_wp2_with fail
      exact ⟨_, by simp only [upd, h15, h10]; rfl, hC, rfl, kP⟩
     all_goals
      dsimp only [cond, and, not] at h15 h10; dsimp only; rw [h10]; refine wpList_skip rfl ?_; go_wp2_with fail; exact ⟨_, by simp only [upd, h15, h10]; rfl, hC, rfl, kP⟩
    ·have h16 : fx 16 = bif v && z then lnV y else undef := hd.1 rfl
     have h10 : fx 10 = bif v then .bool z else undef := hd.2.2.1 rfl
     clear hd
     cases v <;> cases z
     rotate_left 3
     ·dsimp only [cond, and, not] at h16 h10
      dsimp only
      rw [h10]
      refine wpList_unguard rfl ?_
      go_wp2_with fail
      refine (rnoL_any y.c0 y.c1 y.c2 y.c3 y.c4 w').mono ?_
      rintro e w2 ⟨rfl, hq⟩
      rw [show noL y.c0 y.c1 = nLn y from rfl]
      go_wp2_with fail
      exact ⟨_, by simp only [upd, h16, h10]; rfl, hC.trans (hq.mono hC.size), rfl, kP⟩
     all_goals
      dsimp only [cond, and, not] at h16 h10; dsimp only; rw [h10]; refine wpList_skip rfl ?_; go_wp2_with fail; exact ⟨_, by simp only [upd, h16, h10]; rfl, hC, rfl, kP⟩
    ·have h10 : fx 10 = bif v then .bool z else undef := hd.1 rfl
     clear hd
     cases v <;> cases z
     rotate_left 3
     ·dsimp only [cond, and, not] at h10
      dsimp only
      rw [h10]
      refine wpList_unguard rfl ?_
      go_wp2_with fail
      exact ⟨_, by simp only [upd, h10]; rfl, hC, rfl, kP⟩
     all_goals
      dsimp only [cond, and, not] at h10; dsimp only; rw [h10]; refine wpList_skip rfl ?_; go_wp2_with fail; exact ⟨_, by simp only [upd, h10]; rfl, hC, rfl, kP⟩
    ·have h18 : fx 18 = bif v && z then .pointer (some ⟨w.heap.size, 4, none⟩) else undef := hd.1 rfl
     have h10 : fx 10 = bif v then .bool z else undef := hd.2.1 rfl
     clear hd
     cases v <;> cases z
     rotate_left 3
     ·dsimp only [cond, and, not] at h18 h10
      dsimp only
      rw [h10]
      refine wpList_unguard rfl ?_
      have hcc := (hC.cell (p := ⟨w.heap.size, 4, none⟩) HTB.out).trans HTC.out
      go_wp2_with fail
      exact ⟨_, by simp only [upd, h18, h10]; rfl, hC, rfl, kP⟩
     all_goals
      dsimp only [cond, and, not] at h18 h10; dsimp only; rw [h10]; refine wpList_skip rfl ?_; go_wp2_with fail; exact ⟨_, by simp only [upd, h18, h10]; rfl, hC, rfl, kP⟩
    ·have h10 : fx 10 = bif v then .bool z else undef := hd.1 rfl
     clear hd
     cases v <;> cases z
     rotate_left 3
     ·dsimp only [cond, and, not] at h10
      dsimp only
      rw [h10]
      refine wpList_unguard rfl ?_
      go_wp2_with fail
      exact ⟨_, by simp only [upd, h10]; rfl, hC, rfl, kP⟩
     all_goals
      dsimp only [cond, and, not] at h10; dsimp only; rw [h10]; refine wpList_skip rfl ?_; go_wp2_with fail; exact ⟨_, by simp only [upd, h10]; rfl, hC, rfl, kP⟩
    ·have h19 : fx 19 = bif v && z then .slice (some ⟨g, off, none⟩) p.n p.c else undef := hd.1 rfl
     have h20 : fx 20 = bif v && z then .int .i64 ((j : Nat)) else undef := hd.2.1 rfl
     have h10 : fx 10 = bif v then .bool z else undef := hd.2.2.1 rfl
     clear hd
     cases v <;> cases z
     rotate_left 3
     ·dsimp only [cond, and, not] at h19 h20 h10
      dsimp only
      rw [h10]
      refine wpList_unguard rfl ?_
      have hlt := HLT.out
      have hltn : decide (j < p.n) = true := decide_eq_true hlt
      go_wp2_with fail
      exact ⟨_, by simp only [upd, h19, h20, h10]; rfl, hC, rfl, kP⟩
     all_goals
      dsimp only [cond, and, not] at h19 h20 h10; dsimp only; rw [h10]; refine wpList_skip rfl ?_; go_wp2_with fail; exact ⟨_, by simp only [upd, h19, h20, h10]; rfl, hC, rfl, kP⟩
    ·have h21 : fx 21 = bif v && z then .pointer (some ⟨g, off + j * 5, none⟩) else undef := hd.1 rfl
     have h10 : fx 10 = bif v then .bool z else undef := hd.2.1 rfl
     clear hd
     cases v <;> cases z
     rotate_left 3
     ·dsimp only [cond, and, not] at h21 h10
      dsimp only
      rw [h10]
      refine wpList_unguard rfl ?_
      have hrow := rangeAt_below HRX.out HGW.out hC
      refine wpList_load_mid rfl 45 (.tmp 61) rfl g (off + j * 5) h21 (lnC x) _ hrow Tryz.underlying45 rfl HII.out ?_
      rw [show Value.agg (lnC x).toArray = lnV x from rfl]
      go_wp2_with fail
      exact ⟨_, by simp only [upd, h21, h10]; rfl, hC, rfl, kP⟩
     all_goals
      dsimp only [cond, and, not] at h21 h10; dsimp only; rw [h10]; refine wpList_skip rfl ?_; go_wp2_with fail; exact ⟨_, by simp only [upd, h21, h10]; rfl, hC, rfl, kP⟩
    ·have h22 : fx 22 = bif v && z then lnV x else undef := hd.1 rfl
     have h10 : fx 10 = bif v then .bool z else undef := hd.2.2.1 rfl
     clear hd
     cases v <;> cases z
     rotate_left 3
     ·dsimp only [cond, and, not] at h22 h10
      dsimp only
      rw [h10]
      refine wpList_unguard rfl ?_
      go_wp2_with fail
      refine (rnoL_any x.c0 x.c1 x.c2 x.c3 x.c4 w').mono ?_
      rintro e w2 ⟨rfl, hq⟩
      rw [show noL x.c0 x.c1 = nLn x from rfl]
      go_wp2_with fail
      exact ⟨_, by simp only [upd, h22, h10]; rfl, hC.trans (hq.mono hC.size), rfl, kP⟩
     all_goals
      dsimp only [cond, and, not] at h22 h10; dsimp only; rw [h10]; refine wpList_skip rfl ?_; go_wp2_with fail; exact ⟨_, by simp only [upd, h22, h10]; rfl, hC, rfl, kP⟩
    ·have h17 : fx 17 = bif v && z then .int .i64 (nLn y) else undef := hd.1 rfl
     have h23 : fx 23 = bif v && z then .int .i64 (nLn x) else undef := hd.2.1 rfl
     have h10 : fx 10 = bif v then .bool z else undef := hd.2.2.1 rfl
     clear hd
     cases v <;> cases z
     rotate_left 3
     ·dsimp only [cond, and, not] at h17 h23 h10
      dsimp only
      rw [h10]
      refine wpList_unguard rfl ?_
      have hbb := HBO.out
      go_wp2_with fail
      exact ⟨_, by simp only [upd, h17, h23, h10]; rfl, hC, rfl, kP⟩
     all_goals
      dsimp only [cond, and, not] at h17 h23 h10; dsimp only; rw [h10]; refine wpList_skip rfl ?_; go_wp2_with fail; exact ⟨_, by simp only [upd, h17, h23, h10]; rfl, hC, rfl, kP⟩
    ·have h10 : fx 10 = bif v then .bool z else undef := hd.1 rfl
     have h24 : fx 24 = bif v && z then .bool b else undef := hd.2.1 rfl
     have h7 : fx 7 = .bool (!v) := hd.2.2.1 rfl
     clear hd
     cases v
     ·dsimp only [cond, and, not] at h10 h24 h7
      go_wp2_with fail
      exact ⟨_, by simp only [upd, h10, h24, h7]; rfl, hC, rfl, kP⟩
     ·cases z
      all_goals
       dsimp only [cond, and, not] at h10 h24 h7; dsimp only; rw [h7]; refine wpList_unguard rfl ?_; go_wp2_with fail; exact ⟨_, by simp only [upd, h10, h24, h7]; rfl, hC, rfl, kP⟩
    ·have h7 : fx 7 = .bool (!v) := hd.1 rfl
     have h25 : fx 25 = bif v then .bool (z && b) else undef := hd.2.1 rfl
     clear hd
     cases v
     all_goals
      dsimp only [cond, not] at h25 h7; go_wp2_with fail; exact ⟨_, by simp only [upd, h7, h25]; rfl, hC, rfl, kP⟩
   ·intro L fo w' hC hS
    have H26 := Lib.hid (hS 26 (by decide) rfl)
    have h26 : fo 26 = .bool (bif v then z && b else true) := H26.out
    rw [h26]
    have HBC := Lib.hid (HB.out.trans (hC.mono HB.out.size))
    have HBW := Lib.hid hC
    clear hS hC h26 H26
    obtain ⟨rr, HRR⟩ : ∃ q, Hid ((bif v then z && b else true) = q) := ⟨_, Lib.hid rfl⟩
    rw [HRR.out] at HNO HZE
    rw [HRR.out]
    cases rr
    ·have hmb := HMB.out
     go_wp2_with fail
     go_roundw
     case rel => exact ⟨j + 1, _, by have := HLT.out; omega, by go_num, Lib.hid (HZE.out rfl), Lib.hid (fun e => by omega), HNX, HBC, Lib.hid (row_kept HTR.out HBW.out)⟩
     case measure => simp [intOf]; have := HLT.out; omega
    ·go_wp2_with fail
     go_ret
     exact ⟨by rw [HNO.out trivial]; rfl, HBC.out⟩
  ·have d1 : decide ((j : Int) < (p.n : Int)) = false := decide_eq_false (by omega)
   have d1n : decide (j < p.n) = false := decide_eq_false hlt
   have HCTL : Hid (chkE vLn nLn (-1) t.ln = true) := Lib.hid (by
    rw [HCH.out, List.drop_eq_nil_of_le (by rw [h.out.ln.len]; omega)]; rfl)
   have HTG : Hid (chkE vCl nCl (-1) t.cl = false → trG t = false) := Lib.hid (fun e => by unfold trG; rw [e]; simp)
   have HJC := Lib.hid hj
   go_wp2_with fail
   clear HCH HZ0 HZP hlt d1 d1n hj hcs HJC
   rename Nat => j1
   go_loopw [4] (fun i wr => ∃ (j : Nat) (u : Int), j ≤ p.n2 ∧ i = .int .i64 (j : Nat) ∧ Hid (chkE vCl nCl (-1) t.cl = chkE vCl nCl u (t.cl.drop j)) ∧ Hid (j = 0 → u = -1) ∧ Hid (∀ jp, j = jp + 1 → ∃ y, t.cl[jp]? = some y ∧ u = nCl y) ∧ Hid (Below w.heap.size w wr) ∧ Hid (wr.heap[w.heap.size]? = some (.cells (trC t p).toArray 27 (0, 0)))) (fun i _ => p.n2 - (intOf i).toNat)
   case atStart => exact ⟨0, -1, by omega, rfl, Lib.hid rfl, Lib.hid (fun _ => rfl), Lib.hid (fun jp h => by cases h), HB, HTR⟩
   case round =>
    clear HB HTR
    obtain ⟨j, u, hj, rfl, HCH, HZ0, HZP, HB, HTR⟩ := hrel
    have hcs : wr.cell? ⟨w.heap.size, 5, none⟩ = some (.slice p.A2 p.n2 p.c2) := by rw [cell_of_row _ _ _ _ _ _ HTR.out]; rfl
    by_cases hlt : j < p.n2
    ·have d1 : decide ((j : Int) < (p.n2 : Int)) = true := decide_eq_true (by omega)
     have d1n : decide (j < p.n2) = true := decide_eq_true hlt
     have HLT := Lib.hid hlt
     have hin := h.out.cl.below HB.out
     have hjl : j < t.cl.length := by rw [hin.len]; exact hlt
     obtain ⟨g, off, ea, hg, hr⟩ := hin.rd (by omega)
     have HEA := Lib.hid ea
     obtain ⟨x, hx⟩ : ∃ x, t.cl[j] = x := ⟨_, rfl⟩
     have HX : Hid (t.cl[j]? = some x) := Lib.hid (by rw [List.getElem?_eq_getElem hjl, hx])
     have HRX := Lib.hid (range_elem clC_len hr j hjl)
     rw [hx] at HRX
     have HII := Lib.hid (clC_infoL x)
     have HGW := Lib.hid hg
     have HDR : Hid (t.cl.drop j = x :: t.cl.drop (j + 1)) := Lib.hid (by rw [List.drop_eq_getElem_cons hjl, hx])
     rw [HDR.out] at HCH
     have HTB : Hid (w.heap.size < wr.heap.size) := Lib.hid (Array.getElem?_eq_some_iff.1 HTR.out).1
     rw [ea] at hcs
     have HTC := Lib.hid hcs
     have HRA := Lib.hid hr
     have HJL := Lib.hid hjl
     clear hr hg hin ea hx hjl
     obtain ⟨v, HV⟩ : ∃ b, Hid (vCl x = b) := ⟨_, Lib.hid rfl⟩
     obtain ⟨jp, HJP⟩ : ∃ q : Nat, Hid (j - 1 = q) := ⟨_, Lib.hid rfl⟩
     obtain ⟨z, HZJ⟩ : ∃ b, Hid (decide ((0 : Int) < (j : Int)) = b) := ⟨_, Lib.hid rfl⟩
     obtain ⟨y, HY0⟩ : ∃ y, Hid (0 < j → t.cl[jp]? = some y ∧ u = nCl y) := by
      by_cases h0 : 0 < j
      ·obtain ⟨y, h1, h2⟩ := HZP.out jp (by have := HJP.out; omega)
       exact ⟨y, Lib.hid (fun _ => ⟨h1, h2⟩)⟩
      ·exact ⟨x, Lib.hid (fun e => absurd e h0)⟩
     have HPZ : Hid (z = true → 0 < j) := Lib.hid (fun e => by have h1 := HZJ.out; rw [e] at h1; have := of_decide_eq_true h1; omega)
     have HRY : Hid (z = true → wr.rangeAt g (off + jp * 3) (clC y)) := Lib.hid (fun e => by
      have h0 := HPZ.out e
      have hq : jp < t.cl.length := by have := HJL.out; have := HJP.out; omega
      have h2 := range_elem clC_len HRA.out jp hq
      have h3 := (HY0.out h0).1
      rw [List.getElem?_eq_getElem hq] at h3
      rwa [Option.some.inj h3] at h2)
     have HJQ : Hid (z = true → jp < p.n2) := Lib.hid (fun e => by have := HLT.out; have := HJP.out; have := HPZ.out e; omega)
     have HJW : Hid (z = true → IntKind.i64.wrap ((j : Int) - 1) = (jp : Int)) := Lib.hid (fun e => by
      have h1 := HPZ.out e
      have h2 := h.out.mc
      have h3 := HLT.out
      have h4 := HJP.out
      rw [IntWalk.i64_in _ (by unfold maxLen at h2; omega)]; omega)
     have HIJ := Lib.hid (clC_infoL y)
     obtain ⟨b, HBO⟩ : ∃ b, Hid (decide (nCl x ≤ nCl y) = b) := ⟨_, Lib.hid rfl⟩
     have HNO : Hid ((bif v then z && b else true) = true → trE t = 420) := Lib.hid (fun e => trE_no (HTG.out (HCH.out.trans (by
      cases v with
      | false => exact chkE_badv HV.out
      | true =>
       simp only [cond_true, Bool.and_eq_true] at e
       refine chkE_bado ?_
       rw [(HY0.out (HPZ.out e.1)).2]
       have h1 := HBO.out
       rw [e.2] at h1
       exact of_decide_eq_true h1))))
     have HZE : Hid ((bif v then z && b else true) = false → chkE vCl nCl (-1) t.cl = chkE vCl nCl (nCl x) (t.cl.drop (j + 1))) := Lib.hid (fun e => HCH.out.trans (by
      cases v with
      | false => cases e
      | true =>
       simp only [cond_true, Bool.and_eq_false_iff] at e
       refine chkE_step HV.out ?_
       cases z with
       | false =>
        have h1 := of_decide_eq_false HZJ.out
        rw [HZ0.out (by omega)]
        exact nCl_pos HV.out
       | true =>
        rw [(HY0.out (HPZ.out rfl)).2]
        have h1 := HBO.out
        rcases e with e | e
        ·cases e
        ·rw [e] at h1
         have := of_decide_eq_false h1
         omega))
     have HNX : Hid (∀ jp, j + 1 = jp + 1 → ∃ y, t.cl[jp]? = some y ∧ nCl x = nCl y) := Lib.hid (fun jp e => ⟨x, by
      have : jp = j := by omega
      subst this
      exact HX.out, rfl⟩)
     have HMB : Hid (p.n2 ≤ 9223372036854775807) := Lib.hid (by have := h.out.mc; unfold maxLen at this; omega)
     go_wp2_with fail
     refine region_flow3 (by kernel_rfl) (by kernel_rfl) (fun i => Nat.beq i 26) (fun i => i) (by kernel_rfl) (fun fx => #[.agg (trC t p).toArray, .pointer (some { block := w.heap.size, off := 0 }), u2, .int IntKind.i64 ↑j1, .int IntKind.i64 ↑j, .pointer (some { block := w.heap.size, off := 0 }), .int IntKind.i64 t.cam, .bool true, .bool false, .bool false, .pointer (some { block := w.heap.size, off := 1 }), .int IntKind.i64 t.stu, .bool true, .bool false, .bool false, .bool false, .pointer (some { block := w.heap.size, off := 2 }), .int IntKind.i64 t.ver, .bool true, .bool false, .bool false, .bool false, .pointer (some { block := w.heap.size, off := 3 }), .int IntKind.i64 t.kno, .bool true, .bool false, .bool false, .bool false, .pointer (some { block := w.heap.size, off := 4 }), .slice p.A p.n p.c, .int IntKind.i64 ↑p.n, .bool false, .bool false, .int IntKind.i64 ↑j1, .pointer (some { block := w.heap.size, off := 4 }), .slice p.A p.n p.c, .int IntKind.i64 ↑p.n, .bool false, u38, u39, u40, u41, u42, u43, u44, u45, u46, u47, u48, u49, u50, u51, u52, u53, u54, u55, u56, u57, u58, u59, u60, u61, u62, u63, u64, u65, u66, .int IntKind.i64 ↑j, .pointer (some { block := w.heap.size, off := 5 }), .slice (some { block := g, off := off }) p.n2 p.c2, .int IntKind.i64 ↑p.n2, .bool true, u72, u73, fx 0, fx 1, fx 2, fx 3, fx 4, fx 5, fx 6, fx 7, fx 8, fx 9, fx 10, fx 11, fx 12, fx 13, fx 14, fx 15, fx 16, fx 17, fx 18, fx 19, fx 20, fx 21, fx 22, fx 23, fx 24, fx 25, fx 26]) (fun i => bif Nat.beq i 0 then u74 else bif Nat.beq i 1 then u75 else bif Nat.beq i 2 then u76 else bif Nat.beq i 3 then u77 else bif Nat.beq i 4 then u78 else bif Nat.beq i 5 then u79 else bif Nat.beq i 6 then u80 else bif Nat.beq i 7 then u81 else bif Nat.beq i 8 then u82 else bif Nat.beq i 9 then u83 else bif Nat.beq i 10 then u84 else bif Nat.beq i 11 then u85 else bif Nat.beq i 12 then u86 else bif Nat.beq i 13 then u87 else bif Nat.beq i 14 then u88 else bif Nat.beq i 15 then u89 else bif Nat.beq i 16 then u90 else bif Nat.beq i 17 then u91 else bif Nat.beq i 18 then u92 else bif Nat.beq i 19 then u93 else bif Nat.beq i 20 then u94 else bif Nat.beq i 21 then u95 else bif Nat.beq i 22 then u96 else bif Nat.beq i 23 then u97 else bif Nat.beq i 24 then u98 else bif Nat.beq i 25 then u99 else bif Nat.beq i 26 then u100 else undef) (fun L fx w' => Below wr.heap.size wr w') (fun fi fv _ _ => wCkK w.heap.size g off p.n2 p.c2 j jp x y v z b fi fv) (Below.refl _ _).drew ?_ ?_
     ·refine ⟨?_, ?_, ?_, ?_, ?_, ?_, ?_, ?_, ?_, ?_, ?_, ?_, ?_, ?_, ?_, ?_, ?_, ?_, ?_, ?_, ?_, ?_, ?_, ?_, ?_, ?_, ?_, trivial⟩
      all_goals intro L fx w' hC hi hcl hdn hd
      ·clear hd
       go_wp2_with fail
       exact ⟨_, rfl, hC, rfl, kP⟩
      ·have h0 : fx 0 = .pointer (some ⟨w.heap.size, 5, none⟩) := hd.1 rfl
       clear hd
       have hcc := (hC.cell (p := ⟨w.heap.size, 5, none⟩) HTB.out).trans HTC.out
       go_wp2_with fail
       exact ⟨_, by simp only [upd, h0]; rfl, hC, rfl, kP⟩
      ·clear hd
       go_wp2_with fail
       exact ⟨_, rfl, hC, rfl, kP⟩
      ·have h1 : fx 1 = .slice (some ⟨g, off, none⟩) p.n2 p.c2 := hd.1 rfl
       have h2 : fx 2 = .int .i64 ((j : Nat)) := hd.2.1 rfl
       clear hd
       have hlt := HLT.out
       have hltn : decide (j < p.n2) = true := decide_eq_true hlt
       go_wp2_with fail
       exact ⟨_, by simp only [upd, h1, h2]; rfl, hC, rfl, kP⟩
      ·have h3 : fx 3 = .pointer (some ⟨g, off + j * 3, none⟩) := hd.1 rfl
       clear hd
       have hrow := rangeAt_below HRX.out HGW.out hC
       refine wpList_load_mid rfl 56 (.tmp 77) rfl g (off + j * 3) h3 (clC x) _ hrow Tryz.underlying56 rfl HII.out ?_
       rw [show Value.agg (clC x).toArray = clV x from rfl]
       go_wp2_with fail
       exact ⟨_, by simp only [upd, h3]; rfl, hC, rfl, kP⟩
      ·have h4 : fx 4 = clV x := hd.1 rfl
       clear hd
       go_wp2_with fail
       refine (rvclaim_any x.p x.r x.m w').mono ?_
       rintro e w2 ⟨rfl, hq⟩
       rw [show decide (kOk x.p x.r) = vCl x from rfl, HV.out]
       go_wp2_with fail
       exact ⟨_, by simp only [upd, h4]; rfl, hC.trans (hq.mono hC.size), rfl, kP⟩
      ·have h5 : fx 5 = .bool v := hd.1 rfl
       clear hd
       go_wp2_with fail
       exact ⟨_, by simp only [upd, h5]; rfl, hC, rfl, kP⟩
      ·have h6 : fx 6 = .bool (!v) := hd.1 rfl
       clear hd
       go_wp2_with fail
       exact ⟨_, by simp only [upd, h6]; rfl, hC, rfl, kP⟩
      ·have h7 : fx 7 = .bool (!v) := hd.1 rfl
       clear hd
       cases v
       ·dsimp only [cond, and, not] at h7
        go_wp2_with fail
        exact ⟨_, by simp only [upd, h7]; rfl, hC, rfl, kP⟩
       ·dsimp only [cond, and, not] at h7
        dsimp only
        rw [h7]
        refine wpList_unguard rfl ?_
        go_wp2_with fail
        exact ⟨_, by simp only [upd, h7]; rfl, hC, rfl, kP⟩
      ·have h8 : fx 8 = bif v then .int .i64 ((j : Nat)) else undef := hd.1 rfl
       have h7 : fx 7 = .bool (!v) := hd.2.1 rfl
       clear hd
       cases v
       ·dsimp only [cond, and, not] at h8 h7
        go_wp2_with fail
        exact ⟨_, by simp only [upd, h8, h7]; rfl, hC, rfl, kP⟩
       ·dsimp only [cond, and, not] at h8 h7
        dsimp only
        rw [h7]
        refine wpList_unguard rfl ?_
        have hj0 := HZJ.out
        have hj0n : decide (0 < j) = z := by rw [← hj0]; simp
        go_wp2_with fail
        exact ⟨_, by simp only [upd, h8, h7]; rfl, hC, rfl, kP⟩
      ·have h9 : fx 9 = bif v then .bool z else undef := hd.1 rfl
       have h7 : fx 7 = .bool (!v) := hd.2.2.1 rfl
       clear hd
       cases v
       ·dsimp only [cond, and, not] at h9 h7
        go_wp2_with fail
        exact ⟨_, by simp only [upd, h9, h7]; rfl, hC, rfl, kP⟩
       ·dsimp only [cond, and, not] at h9 h7
        dsimp only
        rw [h7]
        refine wpList_unguard rfl ?_
        go_wp2_with fail
        exact ⟨_, by simp only [upd, h9, h7]; rfl, hC, rfl, kP⟩
      ·have h10 : fx 10 = bif v then .bool z else undef := hd.1 rfl
       clear hd
       cases v <;> cases z
       rotate_left 3
       ·dsimp only [cond, and, not] at h10
        dsimp only
        rw [h10]
        refine wpList_unguard rfl ?_
        go_wp2_with fail
        exact ⟨_, by simp only [upd, h10]; rfl, hC, rfl, kP⟩
       all_goals
        dsimp only [cond, and, not] at h10; dsimp only; rw [h10]; refine wpList_skip rfl ?_; go_wp2_with fail; exact ⟨_, by simp only [upd, h10]; rfl, hC, rfl, kP⟩
      ·have h11 : fx 11 = bif v && z then .pointer (some ⟨w.heap.size, 5, none⟩) else undef := hd.1 rfl
       have h10 : fx 10 = bif v then .bool z else undef := hd.2.1 rfl
       clear hd
       cases v <;> cases z
       rotate_left 3
       ·dsimp only [cond, and, not] at h11 h10
        dsimp only
        rw [h10]
        refine wpList_unguard rfl ?_
        have hcc := (hC.cell (p := ⟨w.heap.size, 5, none⟩) HTB.out).trans HTC.out
        go_wp2_with fail
        exact ⟨_, by simp only [upd, h11, h10]; rfl, hC, rfl, kP⟩
       all_goals
        dsimp only [cond, and, not] at h11 h10; dsimp only; rw [h10]; refine wpList_skip rfl ?_; go_wp2_with fail; exact ⟨_, by simp only [upd, h11, h10]; rfl, hC, rfl, kP⟩
      ·have h10 : fx 10 = bif v then .bool z else undef := hd.1 rfl
       clear hd
       cases v <;> cases z
       rotate_left 3
       ·dsimp only [cond, and, not] at h10
        dsimp only
        rw [h10]
        refine wpList_unguard rfl ?_
        go_wp2_with fail
        exact ⟨_, by simp only [upd, h10]; rfl, hC, rfl, kP⟩
       all_goals
        dsimp only [cond, and, not] at h10; dsimp only; rw [h10]; refine wpList_skip rfl ?_; go_wp2_with fail; exact ⟨_, by simp only [upd, h10]; rfl, hC, rfl, kP⟩
      ·have h13 : fx 13 = bif v && z then .int .i64 ((j : Nat)) else undef := hd.1 rfl
       have h10 : fx 10 = bif v then .bool z else undef := hd.2.1 rfl
       clear hd
       cases v <;> cases z
       rotate_left 3
       ·dsimp only [cond, and, not] at h13 h10
        dsimp only
        rw [h10]
        refine wpList_unguard rfl ?_
        have hjw := HJW.out rfl
        go_wp2_with fail
        exact ⟨_, by simp only [upd, h13, h10]; rfl, hC, rfl, kP⟩
       all_goals
        dsimp only [cond, and, not] at h13 h10; dsimp only; rw [h10]; refine wpList_skip rfl ?_; go_wp2_with fail; exact ⟨_, by simp only [upd, h13, h10]; rfl, hC, rfl, kP⟩
      ·have h12 : fx 12 = bif v && z then .slice (some ⟨g, off, none⟩) p.n2 p.c2 else undef := hd.1 rfl
       have h14 : fx 14 = bif v && z then .int .i64 ((jp : Nat)) else undef := hd.2.1 rfl
       have h10 : fx 10 = bif v then .bool z else undef := hd.2.2.1 rfl
       clear hd
       cases v <;> cases z
       rotate_left 3
       ·dsimp only [cond, and, not] at h12 h14 h10
        dsimp only
        rw [h10]
        refine wpList_unguard rfl ?_
        have hjq := HJQ.out rfl
        have hjqn : decide (jp < p.n2) = true := decide_eq_true hjq
        go_wp2_with fail
        exact ⟨_, by simp only [upd, h12, h14, h10]; rfl, hC, rfl, kP⟩
       all_goals
        dsimp only [cond, and, not] at h12 h14 h10; dsimp only; rw [h10]; refine wpList_skip rfl ?_; go_wp2_with fail; exact ⟨_, by simp only [upd, h12, h14, h10]; rfl, hC, rfl, kP⟩
      ·have h15 : fx 15 = bif v && z then .pointer (some ⟨g, off + jp * 3, none⟩) else undef := hd.1 rfl
       have h10 : fx 10 = bif v then .bool z else undef := hd.2.1 rfl
       clear hd
       cases v <;> cases z
       rotate_left 3
       ·dsimp only [cond, and, not] at h15 h10
        dsimp only
        rw [h10]
        refine wpList_unguard rfl ?_
        have hrow := rangeAt_below (HRY.out rfl) HGW.out hC
        refine wpList_load_mid rfl 56 (.tmp 89) rfl g (off + jp * 3) h15 (clC y) _ hrow Tryz.underlying56 rfl HIJ.out ?_
        rw [show Value.agg (clC y).toArray = clV y from rfl]
        go_wp2_with fail
        exact ⟨_, by simp only [upd, h15, h10]; rfl, hC, rfl, kP⟩
       all_goals
        dsimp only [cond, and, not] at h15 h10; dsimp only; rw [h10]; refine wpList_skip rfl ?_; go_wp2_with fail; exact ⟨_, by simp only [upd, h15, h10]; rfl, hC, rfl, kP⟩
      ·have h16 : fx 16 = bif v && z then clV y else undef := hd.1 rfl
       have h10 : fx 10 = bif v then .bool z else undef := hd.2.2.1 rfl
       clear hd
       cases v <;> cases z
       rotate_left 3
       ·dsimp only [cond, and, not] at h16 h10
        dsimp only
        rw [h10]
        refine wpList_unguard rfl ?_
        go_wp2_with fail
        refine (rnoK_any y.p y.r y.m w').mono ?_
        rintro e w2 ⟨rfl, hq⟩
        rw [show noK y.p y.r = nCl y from rfl]
        go_wp2_with fail
        exact ⟨_, by simp only [upd, h16, h10]; rfl, hC.trans (hq.mono hC.size), rfl, kP⟩
       all_goals
        dsimp only [cond, and, not] at h16 h10; dsimp only; rw [h10]; refine wpList_skip rfl ?_; go_wp2_with fail; exact ⟨_, by simp only [upd, h16, h10]; rfl, hC, rfl, kP⟩
      ·have h10 : fx 10 = bif v then .bool z else undef := hd.1 rfl
       clear hd
       cases v <;> cases z
       rotate_left 3
       ·dsimp only [cond, and, not] at h10
        dsimp only
        rw [h10]
        refine wpList_unguard rfl ?_
        go_wp2_with fail
        exact ⟨_, by simp only [upd, h10]; rfl, hC, rfl, kP⟩
       all_goals
        dsimp only [cond, and, not] at h10; dsimp only; rw [h10]; refine wpList_skip rfl ?_; go_wp2_with fail; exact ⟨_, by simp only [upd, h10]; rfl, hC, rfl, kP⟩
      ·have h18 : fx 18 = bif v && z then .pointer (some ⟨w.heap.size, 5, none⟩) else undef := hd.1 rfl
       have h10 : fx 10 = bif v then .bool z else undef := hd.2.1 rfl
       clear hd
       cases v <;> cases z
       rotate_left 3
       ·dsimp only [cond, and, not] at h18 h10
        dsimp only
        rw [h10]
        refine wpList_unguard rfl ?_
        have hcc := (hC.cell (p := ⟨w.heap.size, 5, none⟩) HTB.out).trans HTC.out
        go_wp2_with fail
        exact ⟨_, by simp only [upd, h18, h10]; rfl, hC, rfl, kP⟩
       all_goals
        dsimp only [cond, and, not] at h18 h10; dsimp only; rw [h10]; refine wpList_skip rfl ?_; go_wp2_with fail; exact ⟨_, by simp only [upd, h18, h10]; rfl, hC, rfl, kP⟩
      ·have h10 : fx 10 = bif v then .bool z else undef := hd.1 rfl
       clear hd
       cases v <;> cases z
       rotate_left 3
       ·dsimp only [cond, and, not] at h10
        dsimp only
        rw [h10]
        refine wpList_unguard rfl ?_
        go_wp2_with fail
        exact ⟨_, by simp only [upd, h10]; rfl, hC, rfl, kP⟩
       all_goals
        dsimp only [cond, and, not] at h10; dsimp only; rw [h10]; refine wpList_skip rfl ?_; go_wp2_with fail; exact ⟨_, by simp only [upd, h10]; rfl, hC, rfl, kP⟩
      ·have h19 : fx 19 = bif v && z then .slice (some ⟨g, off, none⟩) p.n2 p.c2 else undef := hd.1 rfl
       have h20 : fx 20 = bif v && z then .int .i64 ((j : Nat)) else undef := hd.2.1 rfl
       have h10 : fx 10 = bif v then .bool z else undef := hd.2.2.1 rfl
       clear hd
       cases v <;> cases z
       rotate_left 3
       ·dsimp only [cond, and, not] at h19 h20 h10
        dsimp only
        rw [h10]
        refine wpList_unguard rfl ?_
        have hlt := HLT.out
        have hltn : decide (j < p.n2) = true := decide_eq_true hlt
        go_wp2_with fail
        exact ⟨_, by simp only [upd, h19, h20, h10]; rfl, hC, rfl, kP⟩
       all_goals
        dsimp only [cond, and, not] at h19 h20 h10; dsimp only; rw [h10]; refine wpList_skip rfl ?_; go_wp2_with fail; exact ⟨_, by simp only [upd, h19, h20, h10]; rfl, hC, rfl, kP⟩
      ·have h21 : fx 21 = bif v && z then .pointer (some ⟨g, off + j * 3, none⟩) else undef := hd.1 rfl
       have h10 : fx 10 = bif v then .bool z else undef := hd.2.1 rfl
       clear hd
       cases v <;> cases z
       rotate_left 3
       ·dsimp only [cond, and, not] at h21 h10
        dsimp only
        rw [h10]
        refine wpList_unguard rfl ?_
        have hrow := rangeAt_below HRX.out HGW.out hC
        refine wpList_load_mid rfl 56 (.tmp 95) rfl g (off + j * 3) h21 (clC x) _ hrow Tryz.underlying56 rfl HII.out ?_
        rw [show Value.agg (clC x).toArray = clV x from rfl]
        go_wp2_with fail
        exact ⟨_, by simp only [upd, h21, h10]; rfl, hC, rfl, kP⟩
       all_goals
        dsimp only [cond, and, not] at h21 h10; dsimp only; rw [h10]; refine wpList_skip rfl ?_; go_wp2_with fail; exact ⟨_, by simp only [upd, h21, h10]; rfl, hC, rfl, kP⟩
      ·have h22 : fx 22 = bif v && z then clV x else undef := hd.1 rfl
       have h10 : fx 10 = bif v then .bool z else undef := hd.2.2.1 rfl
       clear hd
       cases v <;> cases z
       rotate_left 3
       ·dsimp only [cond, and, not] at h22 h10
        dsimp only
        rw [h10]
        refine wpList_unguard rfl ?_
        go_wp2_with fail
        refine (rnoK_any x.p x.r x.m w').mono ?_
        rintro e w2 ⟨rfl, hq⟩
        rw [show noK x.p x.r = nCl x from rfl]
        go_wp2_with fail
        exact ⟨_, by simp only [upd, h22, h10]; rfl, hC.trans (hq.mono hC.size), rfl, kP⟩
       all_goals
        dsimp only [cond, and, not] at h22 h10; dsimp only; rw [h10]; refine wpList_skip rfl ?_; go_wp2_with fail; exact ⟨_, by simp only [upd, h22, h10]; rfl, hC, rfl, kP⟩
      ·have h17 : fx 17 = bif v && z then .int .i64 (nCl y) else undef := hd.1 rfl
       have h23 : fx 23 = bif v && z then .int .i64 (nCl x) else undef := hd.2.1 rfl
       have h10 : fx 10 = bif v then .bool z else undef := hd.2.2.1 rfl
       clear hd
       cases v <;> cases z
       rotate_left 3
       ·dsimp only [cond, and, not] at h17 h23 h10
        dsimp only
        rw [h10]
        refine wpList_unguard rfl ?_
        have hbb := HBO.out
        go_wp2_with fail
        exact ⟨_, by simp only [upd, h17, h23, h10]; rfl, hC, rfl, kP⟩
       all_goals
        dsimp only [cond, and, not] at h17 h23 h10; dsimp only; rw [h10]; refine wpList_skip rfl ?_; go_wp2_with fail; exact ⟨_, by simp only [upd, h17, h23, h10]; rfl, hC, rfl, kP⟩
      ·have h10 : fx 10 = bif v then .bool z else undef := hd.1 rfl
       have h24 : fx 24 = bif v && z then .bool b else undef := hd.2.1 rfl
       have h7 : fx 7 = .bool (!v) := hd.2.2.1 rfl
       clear hd
       cases v
       ·dsimp only [cond, and, not] at h10 h24 h7
        go_wp2_with fail
        exact ⟨_, by simp only [upd, h10, h24, h7]; rfl, hC, rfl, kP⟩
       ·cases z
        all_goals
         dsimp only [cond, and, not] at h10 h24 h7; dsimp only; rw [h7]; refine wpList_unguard rfl ?_; go_wp2_with fail; exact ⟨_, by simp only [upd, h10, h24, h7]; rfl, hC, rfl, kP⟩
      ·have h7 : fx 7 = .bool (!v) := hd.1 rfl
       have h25 : fx 25 = bif v then .bool (z && b) else undef := hd.2.1 rfl
       clear hd
       cases v
       all_goals
        dsimp only [cond, not] at h25 h7; go_wp2_with fail; exact ⟨_, by simp only [upd, h7, h25]; rfl, hC, rfl, kP⟩
     ·intro L fo w' hC hS
      have H26 := Lib.hid (hS 26 (by decide) rfl)
      have h26 : fo 26 = .bool (bif v then z && b else true) := H26.out
      rw [h26]
      have HBC := Lib.hid (HB.out.trans (hC.mono HB.out.size))
      have HBW := Lib.hid hC
      clear hS hC h26 H26
      obtain ⟨rr, HRR⟩ : ∃ q, Hid ((bif v then z && b else true) = q) := ⟨_, Lib.hid rfl⟩
      rw [HRR.out] at HNO HZE
      rw [HRR.out]
      cases rr
      ·have hmb := HMB.out
       go_wp2_with fail
       go_roundw
       case rel => exact ⟨j + 1, _, by have := HLT.out; omega, by go_num, Lib.hid (HZE.out rfl), Lib.hid (fun e => by omega), HNX, HBC, Lib.hid (row_kept HTR.out HBW.out)⟩
       case measure => simp [intOf]; have := HLT.out; omega
      ·go_wp2_with fail
       go_ret
       exact ⟨by rw [HNO.out trivial]; rfl, HBC.out⟩
    ·have d1 : decide ((j : Int) < (p.n2 : Int)) = false := decide_eq_false (by omega)
     have d1n : decide (j < p.n2) = false := decide_eq_false hlt
     have HCTK : Hid (chkE vCl nCl (-1) t.cl = true) := Lib.hid (by
      rw [HCH.out, List.drop_eq_nil_of_le (by rw [h.out.cl.len]; omega)]; rfl)
     have HE : Hid (trE t = 0) := Lib.hid (trE_yes (HTY.out HCTL.out HCTK.out))
     go_wp2_with fail
     go_ret
     exact ⟨by rw [HE.out]; rfl, HB.out⟩
theorem rcheck42_any (t : Tr) (p : TrP) (w : World) (h : Hid (TrOk w t p)) :
  Calls Tryz.prog 18 #[trV t p] w fun e w' => e = .returned (.int .i64 (trE t)) ∧ Below w.heap.size w w' := by
 by_cases g0 : (inB t.cam 0 6) = true
 rotate_left
 ·have hf : (inB t.cam 0 6) = false := by rw [Bool.not_eq_true] at g0; exact g0
  rw [show trE t = 420 from by unfold trE trG; rw [hf]; rfl]
  exact rcheck_0 t p w h  (Lib.hid hf)
 by_cases g1 : (inB t.stu 0 19999) = true
 rotate_left
 ·have hf : (inB t.stu 0 19999) = false := by rw [Bool.not_eq_true] at g1; exact g1
  rw [show trE t = 420 from by unfold trE trG; rw [g0, hf]; rfl]
  exact rcheck_1 t p w h (Lib.hid g0) (Lib.hid hf)
 by_cases g2 : (inB t.ver 1 1048576) = true
 rotate_left
 ·have hf : (inB t.ver 1 1048576) = false := by rw [Bool.not_eq_true] at g2; exact g2
  rw [show trE t = 420 from by unfold trE trG; rw [g0, g1, hf]; rfl]
  exact rcheck_2 t p w h (Lib.hid g0) (Lib.hid g1) (Lib.hid hf)
 by_cases g3 : (inB t.kno 1 16777216) = true
 rotate_left
 ·have hf : (inB t.kno 1 16777216) = false := by rw [Bool.not_eq_true] at g3; exact g3
  rw [show trE t = 420 from by unfold trE trG; rw [g0, g1, g2, hf]; rfl]
  exact rcheck_3 t p w h (Lib.hid g0) (Lib.hid g1) (Lib.hid g2) (Lib.hid hf)
 by_cases g4 : p.n ≤ 4096
 ·exact rcheck_in t p w h (Lib.hid g0) (Lib.hid g1) (Lib.hid g2) (Lib.hid g3) g4
 ·rw [show trE t = 420 from by unfold trE trG; rw [g0, g1, g2, g3, decide_eq_false (by rw [h.out.ln.len]; exact g4)]; rfl]
  exact rcheck_4 t p w h (Lib.hid g0) (Lib.hid g1) (Lib.hid g2) (Lib.hid g3) g4
end Go.Proofs.YtmfmgeapecapiaaGreatDoor
