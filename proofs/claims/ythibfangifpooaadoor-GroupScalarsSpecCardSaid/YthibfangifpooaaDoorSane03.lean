/- sizar/sizarlaw03.sane returns true; what was in memory stays. -/
import Derived.Test.YthibfangifpooaaDoorGroup
import Derived.Test.YthibfangifpooaaDoorSane03Math
namespace Go.Proofs.YthibfangifpooaaDoor
open Go.RowKit SzGrp SzPow
theorem is_yes (c : Int) (w : World) : Calls Tryd.prog 18 #[.int .i64 c, .int .i64 0, .int .i64 c] w fun e w' => e = .returned (.bool true) ∧ w = w' := by
  go_enter Tryd.func18, Tryd.ntmps18
  go_wp2
  go_ret
  exact ⟨rfl, rfl⟩
set_option maxRecDepth 100000 in
set_option maxHeartbeats 4000000 in
theorem sane_any (w : World) : Calls Tryd.prog 5 #[] w fun e w' => e = .returned (.bool true) ∧ Below w.heap.size w w' := by
  go_enter Tryd.func5, Tryd.ntmps5
  go_wp2_with fail
  refine (mul_any 4 4 _ (by omega) (by omega) (by omega) (by omega)).mono ?_
  rintro e w1 ⟨rfl, hb1⟩
  rw [m44.1, m44.2]
  go_wp2_with fail
  refine (base_any 3 _ (by omega) (by omega)).mono ?_
  rintro e w2 ⟨rfl, hb2⟩
  rw [b3.1, b3.2]
  replace hb2 := hb1.trans (hb2.mono hb1.size)
  go_wp2_with fail
  refine (exp_any 4 (-1) _ (by omega) (by omega) (by omega) (by omega)).mono ?_
  rintro e w3 ⟨rfl, hb3⟩
  rw [xn]
  replace hb3 := hb2.trans (hb3.mono hb2.size)
  go_wp2_with fail
  refine (exp_any 4 2305843009213688669 _ (by omega) (by omega) (by omega) (by omega)).mono ?_
  rintro e w4 ⟨rfl, hb4⟩
  rw [xq]
  replace hb4 := hb3.trans (hb4.mono hb3.size)
  go_wp2_with fail
  refine (inv_any 4 _ (by omega) (by omega)).mono ?_
  rintro e w5 ⟨rfl, hb5⟩
  rw [i4.1, i4.2]
  replace hb5 := hb4.trans (hb5.mono hb4.size)
  go_wp2_with fail
  refine (sum_any 2305843009213688668 2 _).mono ?_
  rintro e w6 ⟨rfl, hb6⟩
  rw [s1.1, s1.2]
  replace hb6 := hb5.trans (hb6.mono hb5.size)
  go_wp2_with fail
  refine (product_any 2305843009213688668 2305843009213688668 _).mono ?_
  rintro e w7 ⟨rfl, hb7⟩
  rw [p1.1, p1.2]
  replace hb7 := hb6.trans (hb7.mono hb6.size)
  go_wp2_with fail
  refine (sum_any 2305843009213688669 0 _).mono ?_
  rintro e w8 ⟨rfl, hb8⟩
  rw [s0]
  replace hb8 := hb7.trans (hb8.mono hb7.size)
  go_wp2_with fail
  go_loopw [53] (fun i wr => ∃ j : Nat, j ≤ 5 ∧ i = .int .i64 j ∧ Below (w8.heap.size + 1) (w8.alloc (.cells #[.int .i64 0, .int .i64 4611686018427377339, .int .i64 4611686018427377338, .int .i64 2, .int .i64 (-4)] 3)) wr) (fun i _ => 5 - (intOf i).toNat)
  case atStart => exact ⟨0, by omega, rfl, Below.refl _ _⟩
  case round =>
    obtain ⟨j, hj, rfl, hB⟩ := hrel
    have hj' : j = 0 ∨ j = 1 ∨ j = 2 ∨ j = 3 ∨ j = 4 ∨ j = 5 := by omega
    rcases hj' with rfl | rfl | rfl | rfl | rfl | rfl
    · have hcell : wr.cell? ⟨w8.heap.size, 0, none⟩ = some (.int .i64 0) := (hB.cell (p := ⟨w8.heap.size, 0, none⟩) (Nat.lt_succ_self _)).trans (by simp)
      go_wp2_with fail
      refine (check_any 0 _ (by omega) (by omega)).mono ?_
      rintro e w9 ⟨rfl, hb9⟩
      rw [c0]
      go_wp2_with fail
      go_roundw
      case rel => exact ⟨1, by omega, rfl, hB.trans (hb9.mono (Nat.le_trans (by simp) hB.size))⟩
      case measure => simp [intOf]
    · have hcell : wr.cell? ⟨w8.heap.size, 1, none⟩ = some (.int .i64 4611686018427377339) := (hB.cell (p := ⟨w8.heap.size, 1, none⟩) (Nat.lt_succ_self _)).trans (by simp)
      go_wp2_with fail
      refine (check_any 4611686018427377339 _ (by omega) (by omega)).mono ?_
      rintro e w9 ⟨rfl, hb9⟩
      rw [cp]
      go_wp2_with fail
      go_roundw
      case rel => exact ⟨2, by omega, rfl, hB.trans (hb9.mono (Nat.le_trans (by simp) hB.size))⟩
      case measure => simp [intOf]
    · have hcell : wr.cell? ⟨w8.heap.size, 2, none⟩ = some (.int .i64 4611686018427377338) := (hB.cell (p := ⟨w8.heap.size, 2, none⟩) (Nat.lt_succ_self _)).trans (by simp)
      go_wp2_with fail
      refine (check_any 4611686018427377338 _ (by omega) (by omega)).mono ?_
      rintro e w9 ⟨rfl, hb9⟩
      rw [cm]
      go_wp2_with fail
      go_roundw
      case rel => exact ⟨3, by omega, rfl, hB.trans (hb9.mono (Nat.le_trans (by simp) hB.size))⟩
      case measure => simp [intOf]
    · have hcell : wr.cell? ⟨w8.heap.size, 3, none⟩ = some (.int .i64 2) := (hB.cell (p := ⟨w8.heap.size, 3, none⟩) (Nat.lt_succ_self _)).trans (by simp)
      go_wp2_with fail
      refine (check_any 2 _ (by omega) (by omega)).mono ?_
      rintro e w9 ⟨rfl, hb9⟩
      rw [c2]
      go_wp2_with fail
      go_roundw
      case rel => exact ⟨4, by omega, rfl, hB.trans (hb9.mono (Nat.le_trans (by simp) hB.size))⟩
      case measure => simp [intOf]
    · have hcell : wr.cell? ⟨w8.heap.size, 4, none⟩ = some (.int .i64 (-4)) := (hB.cell (p := ⟨w8.heap.size, 4, none⟩) (Nat.lt_succ_self _)).trans (by simp)
      go_wp2_with fail
      refine (check_any (-4) _ (by omega) (by omega)).mono ?_
      rintro e w9 ⟨rfl, hb9⟩
      rw [cn]
      go_wp2_with fail
      go_roundw
      case rel => exact ⟨5, by omega, rfl, hB.trans (hb9.mono (Nat.le_trans (by simp) hB.size))⟩
      case measure => simp [intOf]
    · have hbw : Below w.heap.size w wr := (hb8.alloc hb8.size _).trans (hB.mono (Nat.le_trans hb8.size (by simp)))
      go_wp2_with (first | (go_at_call 18; refine (is_yes _ _).mono ?_; rintro e w' ⟨rfl, rfl⟩))
      refine (check_any 1 _ (by omega) (by omega)).mono ?_
      rintro e w9 ⟨rfl, hb9⟩
      rw [c1]
      replace hb9 := hbw.trans (hb9.mono hbw.size)
      go_wp2_with fail
      refine (check_any 4 _ (by omega) (by omega)).mono ?_
      rintro e w10 ⟨rfl, hb10⟩
      rw [c4]
      replace hb10 := hb9.trans (hb10.mono hb9.size)
      go_wp2_with fail
      refine (check_any 16 _ (by omega) (by omega)).mono ?_
      rintro e w11 ⟨rfl, hb11⟩
      rw [c16]
      replace hb11 := hb10.trans (hb11.mono hb10.size)
      go_wp2_with fail
      go_ret
      exact ⟨rfl, hb11⟩
end Go.Proofs.YthibfangifpooaaDoor
