/- sizar/group: Check, Mul, Exp, Inv, Base, Sum, Product: each returns what its plain function says; what was in memory stays. -/
import Derived.Test.YtcgpanjagkblmaaDoorPower
import Derived.Test.YtcgpanjagkblmaaDoorGroupMath
namespace Go.Proofs.YtcgpanjagkblmaaDoor
open Go.RowKit SzGrp SzPow
set_option maxRecDepth 100000 in
set_option maxHeartbeats 1000000 in
theorem check_any (a : Int) (w : World) (h1 : -9223372036854775808 ≤ a) (h2 : a ≤ 9223372036854775807) :
    Calls Tryd.prog 21 #[.int .i64 a] w fun e w' => e = .returned (.int .i64 (ck a)) ∧ Below w.heap.size w w' := by
  by_cases c1 : a < 1
  · have R := Lib.hid (ck_low c1)
    have d1 : decide (a < 1) = true := decide_eq_true c1
    go_enter Tryd.func21, Tryd.ntmps21
    go_wp2_with fail
    go_ret
    exact ⟨by rw [R.out]; rfl, Below.refl _ _⟩
  · have d1 : decide (a < 1) = false := decide_eq_false c1
    by_cases c2 : 4611686018427377339 ≤ a
    · have R := Lib.hid (ck_high c2)
      have d2 : decide (4611686018427377339 ≤ a) = true := decide_eq_true c2
      go_enter Tryd.func21, Tryd.ntmps21
      go_wp2_with fail
      go_ret
      exact ⟨by rw [R.out]; rfl, Below.refl _ _⟩
    · obtain ⟨n, rfl⟩ := Int.eq_ofNat_of_zero_le (show 0 ≤ a by omega)
      have d2 : decide (4611686018427377339 ≤ (n : Int)) = false := decide_eq_false c2
      have R := Lib.hid (ck_mid (n := n) (by omega) (by omega))
      by_cases c3 : powP n Q = 1
      · have e3 : ((powP n 2305843009213688669 : Nat) : Int) = 1 := by have := c3; rw [Q_eq] at this; omega
        have E3 := Lib.hid e3
        have C3 := Lib.hid c3
        clear e3 c3
        go_enter Tryd.func21, Tryd.ntmps21
        go_wp2_with fail
        refine (power_any n 2305843009213688669 _ (by omega) (by omega)).mono ?_
        rintro e w' ⟨rfl, hb⟩
        rw [E3.out]
        go_wp2_with fail
        go_ret
        exact ⟨by rw [R.out, if_pos C3.out]; rfl, hb⟩
      · have e3 : (((powP n 2305843009213688669 : Nat) : Int) != 1) = true := by have := c3; rw [Q_eq] at this; rw [bne_iff_ne]; omega
        have C3 := Lib.hid c3
        clear c3
        go_enter Tryd.func21, Tryd.ntmps21
        go_wp2_with fail
        refine (power_any n 2305843009213688669 _ (by omega) (by omega)).mono ?_
        rintro e w' ⟨rfl, hb⟩
        go_wp2_with fail
        go_ret
        exact ⟨by rw [R.out, if_neg C3.out]; rfl, hb⟩
theorem all_take_succ (zs : List Int) (j : Nat) (h : (zs.take j).all sc = true) (hj : j < zs.length) (hs : sc (zs.getD j 0) = true) : (zs.take (j + 1)).all sc = true := by
  rw [List.take_succ_eq_append_getElem hj, List.all_append, h]
  simp only [List.getD_eq_getElem?_getD, List.getElem?_eq_getElem hj, Option.getD_some] at hs
  simp [hs]
theorem all_not (zs : List Int) (j : Nat) (hj : j < zs.length) (hs : sc (zs.getD j 0) = false) : zs.all sc = false := by
  rw [List.all_eq_false]
  refine ⟨zs[j], List.getElem_mem hj, ?_⟩
  simp only [List.getD_eq_getElem?_getD, List.getElem?_eq_getElem hj, Option.getD_some] at hs
  simp [hs]
set_option maxRecDepth 100000 in
set_option maxHeartbeats 1000000 in
theorem scalars_any (zs : List Int) (b : Nat) (w : World) (hl : zs.length ≤ 1000) (hc : Hid (∀ i, i < zs.length → w.cell? ⟨b, i, none⟩ = some (.int .i64 (zs.getD i 0)))) :
    Calls Tryd.prog 47 #[.slice (some ⟨b, 0, none⟩) zs.length zs.length] w fun e w' => e = .returned (.bool (zs.all sc)) ∧ w = w' := by
  go_enter Tryd.func47, Tryd.ntmps47
  go_wp2_with fail
  go_loop [7] (fun i => ∃ j : Nat, j ≤ zs.length ∧ i = .int .i64 j ∧ Hid ((zs.take j).all sc = true)) (fun i => zs.length - (intOf i).toNat)
  case atStart => exact ⟨0, Nat.zero_le _, rfl, Lib.hid (by simp)⟩
  case round =>
    obtain ⟨j, hj, rfl, ha⟩ := hrel
    by_cases hlt : j < zs.length
    · have hcell := hc.out j hlt
      obtain ⟨z, Hz⟩ : ∃ z, Hid (zs.getD j 0 = z) := ⟨_, Lib.hid rfl⟩
      rw [Hz.out] at hcell
      by_cases c1 : z < 0
      · have d1 : decide (z < 0) = true := decide_eq_true c1
        have R := Lib.hid (all_not zs j hlt (by rw [Hz.out]; exact sc_low c1))
        go_wp2_with fail
        go_ret
        exact ⟨by rw [R.out]; rfl, rfl⟩
      · have d1 : decide (z < 0) = false := decide_eq_false c1
        by_cases c2 : 2305843009213688669 ≤ z
        · have d2 : decide (2305843009213688669 ≤ z) = true := decide_eq_true c2
          have R := Lib.hid (all_not zs j hlt (by rw [Hz.out]; exact sc_high c2))
          go_wp2_with fail
          go_ret
          exact ⟨by rw [R.out]; rfl, rfl⟩
        · have d2 : decide (2305843009213688669 ≤ z) = false := decide_eq_false c2
          have R := Lib.hid (all_take_succ zs j ha.out hlt (by rw [Hz.out]; exact sc_mid (by omega) (by omega)))
          go_wp2_with fail
          go_round
          case rel => exact ⟨j + 1, by omega, by go_num, R⟩
          case measure => simp [intOf]; omega
    · go_wp2_with fail
      go_ret
      exact ⟨by rw [← ha.out, List.take_of_length_le (by omega)]; rfl, rfl⟩
end Go.Proofs.YtcgpanjagkblmaaDoor
