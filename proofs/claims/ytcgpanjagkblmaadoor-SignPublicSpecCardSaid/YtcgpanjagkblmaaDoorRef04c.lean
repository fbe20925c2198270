/- The reference of layer 4: Verify. -/
import Derived.Test.YtcgpanjagkblmaaDoorRef04b
namespace Go.Proofs.YtcgpanjagkblmaaDoor
open Go.RowKit SzSha SzGrp SzPow SzRef
set_option linter.unusedVariables false
set_option maxHeartbeats 4000000 in
set_option maxRecDepth 100000 in
theorem rv1 (p r s : Int) (A : Option Addr) (n c : Nat) (l : List Nat) (w : World) (hp : -9223372036854775808 ≤ p ∧ p ≤ 9223372036854775807) (hr : -9223372036854775808 ≤ r ∧ r ≤ 9223372036854775807) (hs : -9223372036854775808 ≤ s ∧ s ≤ 9223372036854775807) (h1 : isE p = false) :
    Calls Tryd.prog 20 #[.int .i64 p, .slice A n c, .agg #[.int .i64 r, .int .i64 s]] w fun e w' => e = .returned (.bool false) ∧ Below w.heap.size w w' := by
  have HE : Hid (ck p = 30) := Lib.hid (by unfold ck; rw [h1]; rfl)
  clear h1
  have PB := Lib.hid hp
  have RB := Lib.hid hr
  have SB := Lib.hid hs
  clear hp hr hs
  have H0 := Lib.hid (heap_alloc_new w (.cells #[.int .i64 r, .int .i64 s] 30))
  have HB0 := Lib.hid ((Below.refl _ w).alloc (Nat.le_refl _) (.cells #[.int .i64 r, .int .i64 s] 30))
  have c0 : (w.alloc (.cells #[.int .i64 r, .int .i64 s] 30)).cell? ⟨w.heap.size, 0, none⟩ = some (.int .i64 r) := by rw [cell_of_row _ _ _ _ _ _ H0.out]; rfl
  have c1 : (w.alloc (.cells #[.int .i64 r, .int .i64 s] 30)).cell? ⟨w.heap.size, 1, none⟩ = some (.int .i64 s) := by rw [cell_of_row _ _ _ _ _ _ H0.out]; rfl
  go_enter Tryd.func20, Tryd.ntmps20
  go_wp2_with fail
  refine (rcheck_any p _ PB.out.1 PB.out.2).mono ?_
  rintro e w1 ⟨rfl, rfl⟩
  rw [HE.out]
  go_wp2_with fail
  go_ret
  exact ⟨rfl, HB0.out⟩
set_option maxHeartbeats 4000000 in
set_option maxRecDepth 100000 in
theorem rv2 (p r s : Int) (A : Option Addr) (n c : Nat) (l : List Nat) (w : World) (hp : -9223372036854775808 ≤ p ∧ p ≤ 9223372036854775807) (hr : -9223372036854775808 ≤ r ∧ r ≤ 9223372036854775807) (hs : -9223372036854775808 ≤ s ∧ s ≤ 9223372036854775807) (h1 : isE p = true) (h2 : isE r = false) :
    Calls Tryd.prog 20 #[.int .i64 p, .slice A n c, .agg #[.int .i64 r, .int .i64 s]] w fun e w' => e = .returned (.bool false) ∧ Below w.heap.size w w' := by
  have HE : Hid (ck p = 0) := Lib.hid (ck_ok h1)
  have HE2 : Hid (ck r = 30) := Lib.hid (by unfold ck; rw [h2]; rfl)
  clear h1 h2
  have PB := Lib.hid hp
  have RB := Lib.hid hr
  have SB := Lib.hid hs
  clear hp hr hs
  have H0 := Lib.hid (heap_alloc_new w (.cells #[.int .i64 r, .int .i64 s] 30))
  have HB0 := Lib.hid ((Below.refl _ w).alloc (Nat.le_refl _) (.cells #[.int .i64 r, .int .i64 s] 30))
  have c0 : (w.alloc (.cells #[.int .i64 r, .int .i64 s] 30)).cell? ⟨w.heap.size, 0, none⟩ = some (.int .i64 r) := by rw [cell_of_row _ _ _ _ _ _ H0.out]; rfl
  have c1 : (w.alloc (.cells #[.int .i64 r, .int .i64 s] 30)).cell? ⟨w.heap.size, 1, none⟩ = some (.int .i64 s) := by rw [cell_of_row _ _ _ _ _ _ H0.out]; rfl
  go_enter Tryd.func20, Tryd.ntmps20
  go_wp2_with fail
  refine (rcheck_any p _ PB.out.1 PB.out.2).mono ?_
  rintro e w1 ⟨rfl, rfl⟩
  rw [HE.out]
  go_wp2_with fail
  refine (rcheck_any r _ RB.out.1 RB.out.2).mono ?_
  rintro e w1 ⟨rfl, rfl⟩
  rw [HE2.out]
  go_wp2_with fail
  go_ret
  exact ⟨rfl, HB0.out⟩
set_option maxHeartbeats 4000000 in
set_option maxRecDepth 100000 in
theorem rv3 (p r s : Int) (A : Option Addr) (n c : Nat) (l : List Nat) (w : World) (hp : -9223372036854775808 ≤ p ∧ p ≤ 9223372036854775807) (hr : -9223372036854775808 ≤ r ∧ r ≤ 9223372036854775807) (hs : -9223372036854775808 ≤ s ∧ s ≤ 9223372036854775807) (h1 : isE p = true) (h2 : isE r = true) (h3 : s < 0) :
    Calls Tryd.prog 20 #[.int .i64 p, .slice A n c, .agg #[.int .i64 r, .int .i64 s]] w fun e w' => e = .returned (.bool false) ∧ Below w.heap.size w w' := by
  have HE : Hid (ck p = 0) := Lib.hid (ck_ok h1)
  have HE2 : Hid (ck r = 0) := Lib.hid (ck_ok h2)
  have d1 : decide (s < 0) = true := decide_eq_true h3
  clear h1 h2 h3
  have PB := Lib.hid hp
  have RB := Lib.hid hr
  have SB := Lib.hid hs
  clear hp hr hs
  have H0 := Lib.hid (heap_alloc_new w (.cells #[.int .i64 r, .int .i64 s] 30))
  have HB0 := Lib.hid ((Below.refl _ w).alloc (Nat.le_refl _) (.cells #[.int .i64 r, .int .i64 s] 30))
  have c0 : (w.alloc (.cells #[.int .i64 r, .int .i64 s] 30)).cell? ⟨w.heap.size, 0, none⟩ = some (.int .i64 r) := by rw [cell_of_row _ _ _ _ _ _ H0.out]; rfl
  have c1 : (w.alloc (.cells #[.int .i64 r, .int .i64 s] 30)).cell? ⟨w.heap.size, 1, none⟩ = some (.int .i64 s) := by rw [cell_of_row _ _ _ _ _ _ H0.out]; rfl
  go_enter Tryd.func20, Tryd.ntmps20
  go_wp2_with fail
  refine (rcheck_any p _ PB.out.1 PB.out.2).mono ?_
  rintro e w1 ⟨rfl, rfl⟩
  rw [HE.out]
  go_wp2_with fail
  refine (rcheck_any r _ RB.out.1 RB.out.2).mono ?_
  rintro e w1 ⟨rfl, rfl⟩
  rw [HE2.out]
  go_wp2_with fail
  go_ret
  exact ⟨rfl, HB0.out⟩
set_option maxHeartbeats 4000000 in
set_option maxRecDepth 100000 in
theorem rv4 (p r s : Int) (A : Option Addr) (n c : Nat) (l : List Nat) (w : World) (hp : -9223372036854775808 ≤ p ∧ p ≤ 9223372036854775807) (hr : -9223372036854775808 ≤ r ∧ r ≤ 9223372036854775807) (hs : -9223372036854775808 ≤ s ∧ s ≤ 9223372036854775807) (h1 : isE p = true) (h2 : isE r = true) (h3 : 2305843009213688669 ≤ s) :
    Calls Tryd.prog 20 #[.int .i64 p, .slice A n c, .agg #[.int .i64 r, .int .i64 s]] w fun e w' => e = .returned (.bool false) ∧ Below w.heap.size w w' := by
  have HE : Hid (ck p = 0) := Lib.hid (ck_ok h1)
  have HE2 : Hid (ck r = 0) := Lib.hid (ck_ok h2)
  have d1 : decide (s < 0) = false := decide_eq_false (by omega)
  have d2 : decide (2305843009213688669 ≤ s) = true := decide_eq_true h3
  clear h1 h2 h3
  have PB := Lib.hid hp
  have RB := Lib.hid hr
  have SB := Lib.hid hs
  clear hp hr hs
  have H0 := Lib.hid (heap_alloc_new w (.cells #[.int .i64 r, .int .i64 s] 30))
  have HB0 := Lib.hid ((Below.refl _ w).alloc (Nat.le_refl _) (.cells #[.int .i64 r, .int .i64 s] 30))
  have c0 : (w.alloc (.cells #[.int .i64 r, .int .i64 s] 30)).cell? ⟨w.heap.size, 0, none⟩ = some (.int .i64 r) := by rw [cell_of_row _ _ _ _ _ _ H0.out]; rfl
  have c1 : (w.alloc (.cells #[.int .i64 r, .int .i64 s] 30)).cell? ⟨w.heap.size, 1, none⟩ = some (.int .i64 s) := by rw [cell_of_row _ _ _ _ _ _ H0.out]; rfl
  go_enter Tryd.func20, Tryd.ntmps20
  go_wp2_with fail
  refine (rcheck_any p _ PB.out.1 PB.out.2).mono ?_
  rintro e w1 ⟨rfl, rfl⟩
  rw [HE.out]
  go_wp2_with fail
  refine (rcheck_any r _ RB.out.1 RB.out.2).mono ?_
  rintro e w1 ⟨rfl, rfl⟩
  rw [HE2.out]
  go_wp2_with fail
  go_ret
  exact ⟨rfl, HB0.out⟩
set_option maxHeartbeats 4000000 in
set_option maxRecDepth 100000 in
theorem rv5 (p r s : Int) (A : Option Addr) (n c : Nat) (l : List Nat) (w : World) (hp : -9223372036854775808 ≤ p ∧ p ≤ 9223372036854775807) (hr : -9223372036854775808 ≤ r ∧ r ≤ 9223372036854775807) (hs : -9223372036854775808 ≤ s ∧ s ≤ 9223372036854775807) (hn : n ≤ 2147000000) (h1 : isE p = true) (h2 : isE r = true) (h3 : sc s = true) (h : Hid (In w A n c l)) :
    Calls Tryd.prog 20 #[.int .i64 p, .slice A n c, .agg #[.int .i64 r, .int .i64 s]] w fun e w' => e = .returned (.bool (vfy p l r s)) ∧ Below w.heap.size w w' := by
  have HE : Hid (ck p = 0) := Lib.hid (ck_ok h1)
  have HE2 : Hid (ck r = 0) := Lib.hid (ck_ok h2)
  have d1 : decide (s < 0) = false := decide_eq_false (by have := sc_bounds h3; omega)
  have d2 : decide (2305843009213688669 ≤ s) = false := decide_eq_false (by have := sc_bounds h3; omega)
  obtain ⟨q, HQ⟩ : ∃ q, Hid (chal p r l = q) := ⟨_, Lib.hid rfl⟩
  obtain ⟨y, HY⟩ : ∃ y, Hid (expV p q = y) := ⟨_, Lib.hid rfl⟩
  have YB : Hid (-9223372036854775808 ≤ y ∧ y ≤ 9223372036854775807) := Lib.hid (by rw [← HY.out]; exact expV_bd p q)
  obtain ⟨b, HBB⟩ : ∃ b, Hid ((expV 4 s == mulV r y) = b) := ⟨_, Lib.hid rfl⟩
  have RES2 : Hid (vfy p l r s = b) := Lib.hid (by unfold vfy; rw [h1, h2, h3, HQ.out, HY.out, HBB.out]; rfl)
  clear h1 h2 h3
  have PB := Lib.hid hp
  have RB := Lib.hid hr
  have SB := Lib.hid hs
  clear hp hr hs
  have H0 := Lib.hid (heap_alloc_new w (.cells #[.int .i64 r, .int .i64 s] 30))
  have HB0 := Lib.hid ((Below.refl _ w).alloc (Nat.le_refl _) (.cells #[.int .i64 r, .int .i64 s] 30))
  have c0 : (w.alloc (.cells #[.int .i64 r, .int .i64 s] 30)).cell? ⟨w.heap.size, 0, none⟩ = some (.int .i64 r) := by rw [cell_of_row _ _ _ _ _ _ H0.out]; rfl
  have c1 : (w.alloc (.cells #[.int .i64 r, .int .i64 s] 30)).cell? ⟨w.heap.size, 1, none⟩ = some (.int .i64 s) := by rw [cell_of_row _ _ _ _ _ _ H0.out]; rfl
  go_enter Tryd.func20, Tryd.ntmps20
  go_wp2_with fail
  refine (rcheck_any p _ PB.out.1 PB.out.2).mono ?_
  rintro e w1 ⟨rfl, rfl⟩
  rw [HE.out]
  go_wp2_with fail
  refine (rcheck_any r _ RB.out.1 RB.out.2).mono ?_
  rintro e w1 ⟨rfl, rfl⟩
  rw [HE2.out]
  go_wp2_with fail
  refine (rbase4_any s _).mono ?_
  rintro e w1 ⟨rfl, rfl⟩
  go_wp2_with fail
  refine (rchal_any p r A n c l _ hn (Lib.hid (h.out.below HB0.out))).mono ?_
  rintro e w2 ⟨rfl, hq⟩
  rw [HQ.out]
  have HB2 := Lib.hid (HB0.out.trans (hq.mono HB0.out.size))
  have H2 := Lib.hid ((hq.block w.heap.size (by simp)).trans H0.out)
  clear hq c0 c1 H0
  have c0 : w2.cell? ⟨w.heap.size, 0, none⟩ = some (.int .i64 r) := by rw [cell_of_row _ _ _ _ _ _ H2.out]; rfl
  go_wp2_with fail
  refine (rexp_any p q _ PB.out.1 PB.out.2).mono ?_
  rintro e w3 ⟨rfl, rfl⟩
  rw [HY.out]
  go_wp2_with fail
  refine (rmul_any r y _ RB.out.1 RB.out.2 YB.out.1 YB.out.2).mono ?_
  rintro e w3 ⟨rfl, rfl⟩
  go_wp2_with fail
  rw [HBB.out]
  go_ret
  exact ⟨by rw [RES2.out]; rfl, HB2.out⟩
theorem rVerify_any (p r s : Int) (A : Option Addr) (n c : Nat) (l : List Nat) (w : World) (hp : -9223372036854775808 ≤ p ∧ p ≤ 9223372036854775807) (hr : -9223372036854775808 ≤ r ∧ r ≤ 9223372036854775807) (hs : -9223372036854775808 ≤ s ∧ s ≤ 9223372036854775807) (hn : n ≤ 2147000000) (h : Hid (In w A n c l)) :
    Calls Tryd.prog 20 #[.int .i64 p, .slice A n c, .agg #[.int .i64 r, .int .i64 s]] w fun e w' => e = .returned (.bool (vfy p l r s)) ∧ Below w.heap.size w w' := by
  by_cases h1 : isE p = true
  · by_cases h2 : isE r = true
    · by_cases h3 : sc s = true
      · exact rv5 p r s A n c l w hp hr hs hn h1 h2 h3 h
      · have e : vfy p l r s = false := by unfold vfy; rw [show sc s = false by simpa using h3]; simp
        rw [e]
        by_cases h4 : s < 0
        · exact rv3 p r s A n c l w hp hr hs h1 h2 h4
        · have h5 : 2305843009213688669 ≤ s := by
            apply Classical.byContradiction
            intro h5
            exact h3 (sc_mid (by omega) (by omega))
          exact rv4 p r s A n c l w hp hr hs h1 h2 h5
    · have e : vfy p l r s = false := by unfold vfy; rw [show isE r = false by simpa using h2]; simp
      rw [e]
      exact rv2 p r s A n c l w hp hr hs h1 (by simpa using h2)
  · have e : vfy p l r s = false := by unfold vfy; rw [show isE p = false by simpa using h1]; simp
    rw [e]
    exact rv1 p r s A n c l w hp hr hs (by simpa using h1)
end Go.Proofs.YtcgpanjagkblmaaDoor
