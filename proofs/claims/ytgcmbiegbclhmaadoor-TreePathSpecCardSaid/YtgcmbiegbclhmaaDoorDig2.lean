/- sizar/digest: word, put: each does what its plain function says. -/
import Derived.Test.YtgcmbiegbclhmaaDoorDig1
import Derived.Test.YtgcmbiegbclhmaaDoorRowLaws
namespace Go.Proofs.YtgcmbiegbclhmaaDoor
open Go.RowKit SzSha
set_option linter.unusedVariables false
/-- the number of k bytes -/
def wordN (x : Nat → Nat) : Nat → Nat
  | 0 => 0
  | k + 1 => wordN x k * 256 + x k
theorem wordN_lt (x : Nat → Nat) (hx : ∀ i, i < 4 → x i < 256) : ∀ k, k ≤ 4 → wordN x k < 256 ^ k
  | 0, _ => by simp [wordN]
  | k + 1, h => by
    have h1 := wordN_lt x hx k (by omega)
    have h2 := hx k (by omega)
    rw [wordN, Nat.pow_succ]
    generalize 256 ^ k = z at *
    omega
theorem or_byte (n c : Nat) (hn : n < 16777216) (hc : c < 256) : bits .or .u32 ((n : Int) * 256) (c : Int) = ((n * 256 + c : Nat) : Int) := by
  have e : (n : Int) * 256 = ((n * 256 : Nat) : Int) := by omega
  rw [e, u32_or_nat _ _ (by omega) (by omega)]
  have := Nat.two_pow_add_eq_or_of_lt (i := 8) (b := c) (by omega) n
  rw [show (2 : Nat) ^ 8 * n = n * 256 by omega] at this
  rw [this]
set_option maxHeartbeats 400000 in
theorem word_any (g off n c : Nat) (x : Nat → Nat) (w : World) (hn : 4 ≤ n) (hc : n ≤ c) (hx : ∀ i, i < 4 → x i < 256) (h : Hid (∀ i, i < 4 → w.cell? ⟨g, off + i, none⟩ = some (.int .u8 (x i)))) :
    Calls Tryd.prog 69 #[.slice (some ⟨g, off, none⟩) n c] w fun e w' => e = .returned (.int .u32 (wordN x 4 : Nat)) ∧ w = w' := by
  have HX := Lib.hid hx
  clear hx
  have hc4 : 4 ≤ c := by omega
  go_enter Tryd.func69, Tryd.ntmps69
  go_wp2_with fail
  go_loop [2, 8] (fun a i => ∃ k : Nat, k ≤ 4 ∧ i = .int .i64 k ∧ a = .int .u32 (wordN x k : Nat)) (fun _ i => 4 - (intOf i).toNat)
  case atStart => exact ⟨0, by omega, rfl, rfl⟩
  case round =>
    obtain ⟨k, hk, rfl, rfl⟩ := hrel
    by_cases hlt : k < 4
    · have hcell := h.out k hlt
      have hw : wordN x k < 16777216 := Nat.lt_of_lt_of_le (wordN_lt x HX.out k hk) (Nat.pow_le_pow_right (n := 256) (i := k) (j := 3) (by omega) (by omega))
      have hb := HX.out k hlt
      have ho := Lib.hid (or_byte _ _ hw hb)
      go_wp2_with fail
      go_round
      case rel => exact ⟨k + 1, by omega, by go_num, by rw [ho.out]; rfl⟩
      case measure => simp [intOf]; omega
    · obtain rfl : k = 4 := by omega
      go_wp2_with fail
      go_ret
      exact ⟨rfl, rfl⟩
/-- what 'put' leaves in a row -/
def putF (off L n : Nat) (f : Nat → Value) (j : Nat) : Value := if off ≤ j ∧ j < off + L then .int .u8 ((n / 256 ^ (off + L - 1 - j) % 256 : Nat)) else f j
/-- the same behind k rounds: the last k places are written -/
def putK (off L n k : Nat) (f : Nat → Value) (j : Nat) : Value := if off + L - k ≤ j ∧ j < off + L then .int .u8 ((n / 256 ^ (off + L - 1 - j) % 256 : Nat)) else f j
theorem putK_succ (off L n k : Nat) (f : Nat → Value) (hk : k < L) : (fun j => if j = off + (L - 1 - k) then Value.int .u8 ((n / 256 ^ k % 256 : Nat)) else putK off L n k f j) = putK off L n (k + 1) f := by
  funext j
  unfold putK
  by_cases e : j = off + (L - 1 - k)
  · rw [if_pos e, if_pos (by omega), show off + L - 1 - j = k by omega]
  · rw [if_neg e]
    by_cases e2 : off + L - k ≤ j ∧ j < off + L
    · rw [if_pos e2, if_pos (by omega)]
    · rw [if_neg e2, if_neg (by omega)]
theorem byte_shift (n k : Nat) (hn : n ≤ 18446744073709551615) (hk : k < 8) : (n : Int) / 2 ^ (8 * k) % 256 = ((n / 256 ^ k % 256 : Nat) : Int) := by
  show ((n / 2 ^ (8 * k) % 256 : Nat) : Int) = _
  rw [Nat.pow_mul]
set_option maxHeartbeats 400000 in
theorem put_any (g off L c n T N : Nat) (f : Nat → Value) (w : World) (hL : L ≤ 8) (hLc : L ≤ c) (hN : off + L ≤ N) (hn : n ≤ 18446744073709551615) (h : Hid (w.rowIs g T N f)) :
    Calls Tryd.prog 57 #[.slice (some ⟨g, off, none⟩) L c, .int .u64 n] w fun e w' => (∃ v, e = .returned v) ∧ w'.rowIs g T N (putF off L n f) ∧ w.grownBy w' (some g) := by
  go_enter Tryd.func57, Tryd.ntmps57
  go_wp2_with fail
  go_loopw [7] (fun i wr => ∃ k : Nat, k ≤ L ∧ i = .int .i64 k ∧ Hid (wr.rowIs g T N (putK off L n k f)) ∧ Hid (w.grownBy wr (some g))) (fun i _ => L - (intOf i).toNat)
  case atStart => exact ⟨0, by omega, rfl, Lib.hid (h.out.congr fun i hi => by unfold putK; rw [if_neg (by omega)]), Lib.hid (World.grownBy.refl _ _)⟩
  case round =>
    obtain ⟨k, hk, rfl, hr, hg⟩ := hrel
    by_cases hlt : k < L
    · have hcell := hr.out.cell (i := off + (L - 1 - k)) (by omega)
      have hfr := hr.out.frozen (off + (L - 1 - k))
      go_wp2_with fail
      go_roundw
      case rel => exact ⟨k + 1, by omega, by go_num, Lib.hid (by rw [← putK_succ off L n k f hlt, ← byte_shift n k hn (by omega)]; exact hr.out.set _ _), Lib.hid (only_setCell hg.out (.inl rfl) _)⟩
      case measure => simp [intOf]; omega
    · obtain rfl : k = L := by omega
      go_wp2_with fail
      go_end0
      exact ⟨⟨_, rfl⟩, hr.out.congr fun i hi => by unfold putK putF; rw [show off + k - k = off by omega], hg.out⟩
end Go.Proofs.YtgcmbiegbclhmaaDoor
