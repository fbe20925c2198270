/- sizar/tree.half. -/
import Derived.Test.YtgcmbiegbclhmaaDoorCodec
import Derived.Test.YtgcmbiegbclhmaaDoorTreeMath2
import Derived.IntWalk
namespace Go.Proofs.YtgcmbiegbclhmaaDoor
open Go.RowKit SzSha SzTree
set_option linter.unusedVariables false
set_option maxRecDepth 100000
theorem half_step {f k n : Nat} (h : 2 * k < n) (hn : n ≤ 1000000) (hf : 18446744073709551616 ≤ k * 2 ^ f) : ∃ g, halfF f k n = halfF g (2 * k) n ∧ 18446744073709551616 ≤ (2 * k) * 2 ^ g := by
  cases f with
  | zero => simp at hf; omega
  | succ f => refine ⟨f, by conv => lhs; unfold halfF
                            rw [if_pos h], by rw [Nat.pow_succ] at hf; rw [show 2 * k * 2 ^ f = k * (2 ^ f * 2) by rw [Nat.mul_comm 2 k, Nat.mul_assoc, Nat.mul_comm 2]]; exact hf⟩
theorem half_end {f k n : Nat} (h : ¬ 2 * k < n) : halfF f k n = k := by
  cases f with
  | zero => rfl
  | succ f => unfold halfF; rw [if_neg h]
set_option maxHeartbeats 2000000 in
theorem half_any (n : Nat) (w : World) (hn : n ≤ 1000000) : Calls Tryd.prog 32 #[.int .i64 (n : Nat)] w fun e w' => e = .returned (.int .i64 (half n : Nat)) ∧ w = w' := by
  go_enter Tryd.func32, Tryd.ntmps32
  go_wp2_with fail
  go_loop [3] (fun v => ∃ k : Nat, v = .int .i64 (k : Nat) ∧ 1 ≤ k ∧ k ≤ 1000000 ∧ Hid (∃ f, halfF f k n = half n ∧ 18446744073709551616 ≤ k * 2 ^ f)) (fun v => n - (intOf v).toNat)
  case atStart => exact ⟨1, rfl, by omega, by omega, Lib.hid ⟨64, rfl, by decide⟩⟩
  case round =>
    obtain ⟨k, rfl, hk1, hk2, HF⟩ := hrel
    by_cases hlt : 2 * k < n
    · have d1 : decide (2 * (k : Int) < (n : Int)) = true := decide_eq_true (by omega)
      have HF2 : Hid (∃ f, halfF f (2 * k) n = half n ∧ 18446744073709551616 ≤ 2 * k * 2 ^ f) := Lib.hid (by
        obtain ⟨f, h1, h2⟩ := HF.out
        obtain ⟨g, h3, h4⟩ := half_step hlt hn h2
        exact ⟨g, by rw [← h3]; exact h1, h4⟩)
      go_wp2_with fail
      go_round
      case rel => exact ⟨2 * k, by go_num, by omega, by omega, HF2⟩
      case measure => simp [intOf]; omega
    · have d1 : decide (2 * (k : Int) < (n : Int)) = false := decide_eq_false (by omega)
      have HE : Hid (half n = k) := Lib.hid (by
        obtain ⟨f, h1, _⟩ := HF.out
        rw [← h1]; exact half_end hlt)
      go_wp2_with fail
      go_ret
      exact ⟨by rw [HE.out]; rfl, rfl⟩
end Go.Proofs.YtgcmbiegbclhmaaDoor
