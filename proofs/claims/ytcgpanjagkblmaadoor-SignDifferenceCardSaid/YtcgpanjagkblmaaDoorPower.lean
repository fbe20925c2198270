/- sizar/group.digits and sizar/group.power: the iterator yields the bits of a number, the most significant one first; the power is a ^ k modulo P; what was in memory stays. -/
import Derived.RangeFuncNested
import Derived.RangeFuncBound
import Derived.RangeFuncCalls
import Derived.RangeFuncLeaves
import Derived.RangeFuncFrom
import Derived.Shelf.Abstract
import Derived.Shelf.RegionOpen
import Derived.WalkKit
import Derived.OwnWalkIn
import Derived.TacticsInMore
import Derived.LoopNIn
import Derived.LoopIn
import Derived.Test.YtcgpanjagkblmaaDoorTimes
import Derived.Test.YtcgpanjagkblmaaDoorPowMath
namespace Go.Proofs.YtcgpanjagkblmaaDoor
open Go.RowKit Go.Shelf
attribute [local go_sem] Oper.semAt_some
theorem len64_any (k : Nat) (w : World) (h : k ≤ 18446744073709551615) :
    Calls Tryd.prog 66 #[.int .u64 k] w fun e w' => e = .returned (.int .i64 (Lib.bitLen k : Int)) ∧ w = w' :=
  (Tryd.bits_Len64 _ w (by omega) (by omega)).mono fun _ _ h => ⟨by simpa using h.1, h.2.symm⟩
def KpCell (b : Nat) (W W' : World) : Prop := W'.cell? ⟨b, 0, none⟩ = W.cell? ⟨b, 0, none⟩
set_option maxRecDepth 100000 in
set_option maxHeartbeats 2000000 in
theorem digits1_in (l Bn k : Nat) (hk : k ≤ 18446744073709551615) (J Jx : List Bool → World → Prop)
    (hY : ∀ pre x W, J pre W → pre.length < Lib.bitLen k → YieldAt Fence.wide 4 Tryd.prog l #[.bool x] W fun e W' =>
      (e = .returned (.bool true) ∧ J (pre ++ [x]) W' ∧ KpCell Bn W W') ∨ (e = .returned (.bool false) ∧ Jx (pre ++ [x]) W'))
    (W : World) (hBn : W.cell? ⟨Bn, 0, none⟩ = some (.int .u64 k)) (h0 : J [] W) :
    CallsIn Fence.wide 5 Tryd.prog 65 #[.func (.yield l) #[] #[], .pointer (some ⟨Bn, 0, none⟩)] W fun e W' => (∃ v, e = .returned v) ∧
      ((∃ ys, ys = SzPow.top k (Lib.bitLen k) (Lib.bitLen k) ∧ J ys W') ∨ (∃ pre, True ∧ Jx pre W')) := by
  have hL := SzPow.bitLen_le k (by omega)
  refine callsIn_of_wp Tryd.func65 rfl trivial ?_ rfl
  simp only [Tryd.ntmps65, List.size_toArray, List.length_cons, List.length_nil, Nat.reduceAdd, Nat.reduceSub, Array.replicate_succ, Array.replicate_zero, List.push_toArray, List.append_toArray, List.nil_append, List.cons_append]
  gi_wp2_with (refine ⟨trivial, ?_⟩; gi_at_call 66; refine (callsIn_wide.2 (len64_any _ _ hk)).mono ?_; rintro e w' ⟨rfl, rfl⟩)
  gi_loopw [3] (fun s wr => ∃ j : Nat, j ≤ Lib.bitLen k ∧ s = .int .i64 ((Lib.bitLen k : Int) - 1 - (j : Int)) ∧ wr.cell? ⟨Bn, 0, none⟩ = some (.int .u64 k) ∧ J (SzPow.top k (Lib.bitLen k) j) wr) (fun s _ => (intOf s + 1).toNat)
  case atStart => exact ⟨0, Nat.zero_le _, by simp, hBn, h0⟩
  case round =>
    obtain ⟨j, hj, rfl, hc, hJ⟩ := hrel
    by_cases hlt : j < Lib.bitLen k
    · obtain ⟨i, hi⟩ : ∃ i, Lib.bitLen k = j + 1 + i := ⟨Lib.bitLen k - 1 - j, by omega⟩
      have HI := Lib.hid hi
      rw [show (Lib.bitLen k : Int) - 1 - (j : Int) = (i : Int) by omega]
      clear hi
      have hi63 : i ≤ 63 := by have := HI.out; omega
      have hb := SzPow.bit_walk k i (by omega) hi63
      rw [show min i 64 = i by omega] at hb
      obtain ⟨fn, tmps, assign, body, hy, hR⟩ := hY _ (SzPow.bitAt k i) wr hJ (by rw [SzPow.top_length]; exact hlt)
      gi_wp2
      refine hR.mono ?_
      rintro e W3 (⟨rfl, hJ3, hk3⟩ | ⟨rfl, hJx3⟩)
      · have hc3 : W3.cell? ⟨Bn, 0, none⟩ = some (.int .u64 k) := hk3.trans hc
        clear hb
        gi_wp2
        go_roundw
        case rel => exact ⟨j + 1, by omega, by have := HI.out; go_num, hc3, by rw [SzPow.top, show Lib.bitLen k - 1 - j = i by have := HI.out; omega]; exact hJ3⟩
        case measure => first | (simp [intOf]; done) | (simp [intOf]; omega)
      · clear hb
        gi_wp2
        refine bodyPost_ret (results_none rfl _ _ _) rfl ?_
        exact ⟨⟨_, rfl⟩, .inr ⟨_, trivial, hJx3⟩⟩
    · obtain rfl : j = Lib.bitLen k := by omega
      rw [show (Lib.bitLen k : Int) - 1 - (Lib.bitLen k : Int) = -1 by omega]
      gi_wp2
      go_end0
      exact ⟨⟨_, rfl⟩, .inl ⟨_, rfl, hJ⟩⟩
theorem digits1_stops (Bn k : Nat) (hk : k ≤ 18446744073709551615) (w : World) (hB : Bn < w.heap.size) (hBn : w.cell? ⟨Bn, 0, none⟩ = some (.int .u64 k)) :
    SeqStopsK Fence.wide 5 Tryd.prog 65 #[.pointer (some ⟨Bn, 0, none⟩)] (fun x : Bool => #[.bool x]) (KpCell Bn) (fun xs => xs = SzPow.top k (Lib.bitLen k) (Lib.bitLen k)) (fun _ => True) (Lib.bitLen k) w :=
  fun l J Jx W hW _ _ hY h0 => digits1_in l Bn k hk J Jx hY W ((hW.cell (p := ⟨Bn, 0, none⟩) hB).trans hBn) h0
theorem digits_any (k : Nat) (w : World) :
    Calls Tryd.prog 59 #[.int .u64 k] w fun e w' => e = .returned (.func (.func 65) #[] #[.pointer (some ⟨w.heap.size, 0, none⟩)]) ∧ w.alloc (.cells #[.int .u64 k] 50) = w' := by
  go_enter Tryd.func59, Tryd.ntmps59
  go_wp2
  go_ret
  exact ⟨rfl, rfl⟩
theorem others_of_below {W W' : World} (h : Below W.heap.size W W') : KeepsOthers W W' := ⟨h.size, fun k _ hk _ => (h.block k (Array.getElem?_eq_some_iff.1 hk).1).trans hk⟩
set_option maxRecDepth 100000 in
set_option maxHeartbeats 2000000 in
theorem power_in (a k : Nat) (ha : a < 4611686018427377339) (hk : k ≤ 18446744073709551615) (w : World) :
    CallsIn Fence.wide 6 Tryd.prog 46 #[.int .u64 a, .int .u64 k] w fun e W' => e = .returned (.int .u64 ((a ^ k % SzPow.P : Nat) : Int)) ∧ Below w.heap.size w W' := by
  refine callsIn_of_wp_marks Tryd.func46 rfl trivial ?_ rfl
  simp only [Tryd.ntmps46, List.size_toArray, List.length_cons, List.length_nil, Nat.reduceAdd, Nat.reduceSub, Array.replicate_succ, Array.replicate_zero, List.push_toArray, List.append_toArray, List.nil_append, List.cons_append]
  gi_wp2_with (refine ⟨trivial, ?_⟩; gi_at_call 59; refine (callsIn_wide.2 (digits_any _ _)).mono ?_; rintro e w' ⟨rfl, rfl⟩)
  have c0 := Boxed.new w 50 (.int .u64 a)
  have c1 := Boxed.new (w.alloc (.cells #[.int .u64 a] 50)) 50 (.int .u64 1)
  have c2 := Boxed.new ((w.alloc (.cells #[.int .u64 a] 50)).alloc (.cells #[.int .u64 1] 50)) 50 (.int .u64 k)
  simp only [World.size_alloc] at c1 c2
  have hB0 : Below w.heap.size w (((w.alloc (.cells #[.int .u64 a] 50)).alloc (.cells #[.int .u64 1] 50)).alloc (.cells #[.int .u64 k] 50)) := (((Below.refl _ w).alloc (Nat.le_refl _) _).alloc (by simp) _).alloc (by simp; omega) _
  refine wpIn_rangeFunc_ownF rfl (by omega) (gf := 65) (lb := #[.pointer (some ⟨w.heap.size + 1 + 1, 0, none⟩)]) rfl trivial (enters_of Tryd.func65 (by kernel_rfl) rfl)
    (digits1_stops (w.heap.size + 1 + 1) k hk _ (by simp) c2.cell) (fun h h' => h'.trans h)
    (fun W l o o' hl h h1 h2 => (belowK_b (Nat.le_refl _) W l o o' hl h h1 h2).cell (p := ⟨w.heap.size + 1 + 1, 0, none⟩) (by simp)) (Below.refl _ _) (fun _ => rfl)
    (fun pre W => (Boxed W w.heap.size 50 (.int .u64 a) ∧ Boxed W (w.heap.size + 1) 50 (.int .u64 (SzPow.pw a pre : Nat)) ∧ Boxed W (w.heap.size + 1 + 1) 50 (.int .u64 k)) ∧ Below w.heap.size w W)
    (fun _ _ _ => False)
    (OwnFrom.and (OwnFrom.and (Own.from (boxed_own _ _ _) _) (OwnFrom.and (Own.from (boxed_own _ _ _) _) (Own.from (boxed_own _ _ _) _))) (ownFrom_below (Nat.le_refl _) (by simp; omega)))
    (fun _ _ _ _ _ hs _ _ => hs)
    ⟨⟨(c0.alloc _).alloc _, c1.alloc _, c2⟩, hB0⟩
    (fun x => { tmps := #[.int .u64 a, .int .u64 k, .pointer (some ⟨w.heap.size, 0, none⟩), undef, .int .u64 0, .pointer (some ⟨w.heap.size + 1, 0, none⟩), .bool x, .int .u64 k, .func (.func 65) #[] #[.pointer (some ⟨w.heap.size + 1 + 1, 0, none⟩)], .bool x, undef, undef, undef, undef, undef, undef, undef, undef], defers := [] }) ?assign ?body ?done ?stop
  case assign =>
    intro l x W K hK
    gi_wp2
    exact hK
  case body =>
    rintro l pre x W ⟨⟨b0, b1, b2⟩, hB⟩ _
    have hp := SzPow.pw_lt a pre
    rw [SzPow.P_eq] at hp
    have HST := Lib.hid (SzPow.pw_snoc a pre x)
    have hm := SzPow.mulP_lt (SzPow.pw a pre) (SzPow.pw a pre)
    have hc0 := b0.cell
    have hc1 := b1.cell
    have hl1 := b1.lt
    have hl0 : w.heap.size < W.heap.size := by omega
    cases x
    · gi_wp2_with (refine ⟨trivial, ?_⟩; gi_at_call 48; refine (CallsIn.inRound l (callsIn_wide.2 (times_any _ _ _ hp hp))).mono ?_; rintro e w1 ⟨rfl, hb1⟩; have hc1' := (hb1.cell (p := ⟨w.heap.size + 1, 0, none⟩) hl1).trans hc1; have hf1' := (hb1.frozen (p := ⟨w.heap.size + 1, 0, none⟩) hl1).trans b1.frozen)
      have q0 : Boxed w1 w.heap.size 50 (.int .u64 a) := (hb1.block _ hl0).trans b0
      have q1 : Boxed w1 (w.heap.size + 1) 50 (.int .u64 (SzPow.pw a pre : Nat)) := (hb1.block _ hl1).trans b1
      have q2 : Boxed w1 (w.heap.size + 1 + 1) 50 (.int .u64 k) := (hb1.block _ b2.lt).trans b2
      have q2' := q2.other (B' := w.heap.size + 1) (by omega) (.int .u64 (SzPow.mulP (SzPow.pw a pre) (SzPow.pw a pre) : Nat))
      exact ⟨(others_of_below hb1).trans (KeepsOthers.setCell _ _ _), q2'.cell.trans b2.cell.symm, ⟨q0.other (by omega) _, by rw [HST.out]; exact q1.set _, q2'⟩, (hB.trans (hb1.mono hB.size)).setCell (p := ⟨w.heap.size + 1, 0, none⟩) (by simp) _⟩
    · gi_wp2_with (refine ⟨trivial, ?_⟩; gi_at_call 48; refine (CallsIn.inRound l (callsIn_wide.2 (times_any _ _ _ hp hp))).mono ?_; clear hp; rintro e w1 ⟨rfl, hb1⟩; have hc1' := (hb1.cell (p := ⟨w.heap.size + 1, 0, none⟩) hl1).trans hc1; have hf1' := (hb1.frozen (p := ⟨w.heap.size + 1, 0, none⟩) hl1).trans b1.frozen; have hc0' := (hb1.cell (p := ⟨w.heap.size, 0, none⟩) hl0).trans hc0)
      refine ⟨trivial, ?_⟩
      refine (CallsIn.inRound l (callsIn_wide.2 (times_any _ _ _ hm ha))).mono ?_
      rintro e w2 ⟨rfl, hb2⟩
      have q0 : Boxed w1 w.heap.size 50 (.int .u64 a) := (hb1.block _ hl0).trans b0
      have q1 : Boxed w1 (w.heap.size + 1) 50 (.int .u64 (SzPow.pw a pre : Nat)) := (hb1.block _ hl1).trans b1
      have q2 : Boxed w1 (w.heap.size + 1 + 1) 50 (.int .u64 k) := (hb1.block _ b2.lt).trans b2
      have r0 := q0.other (B' := w.heap.size + 1) (by omega) (.int .u64 (SzPow.mulP (SzPow.pw a pre) (SzPow.pw a pre) : Nat))
      have r1 := q1.set (.int .u64 (SzPow.mulP (SzPow.pw a pre) (SzPow.pw a pre) : Nat))
      have r2 := q2.other (B' := w.heap.size + 1) (by omega) (.int .u64 (SzPow.mulP (SzPow.pw a pre) (SzPow.pw a pre) : Nat))
      have s0 : Boxed w2 w.heap.size 50 (.int .u64 a) := (hb2.block _ r0.lt).trans r0
      have s1 : Boxed w2 (w.heap.size + 1) 50 (.int .u64 (SzPow.mulP (SzPow.pw a pre) (SzPow.pw a pre) : Nat)) := (hb2.block _ r1.lt).trans r1
      have s2 : Boxed w2 (w.heap.size + 1 + 1) 50 (.int .u64 k) := (hb2.block _ r2.lt).trans r2
      have hs1 := s1.cell
      have hs1' := s1.frozen
      have hbb := (hB.trans (hb1.mono hB.size)).setCell (p := ⟨w.heap.size + 1, 0, none⟩) (by simp) (.int .u64 (SzPow.mulP (SzPow.pw a pre) (SzPow.pw a pre) : Nat))
      have hbc := hbb.trans (hb2.mono hbb.size)
      have HBC := Lib.hid hbc
      have HKO := Lib.hid (((others_of_below hb1).trans (KeepsOthers.setCell _ _ _)).trans (others_of_below hb2))
      clear hbb hbc hc1' hf1' hc0' hc0 hc1
      gi_wp2
      have q2' := s2.other (B' := w.heap.size + 1) (by omega) (.int .u64 (SzPow.mulP (SzPow.mulP (SzPow.pw a pre) (SzPow.pw a pre)) a : Nat))
      exact ⟨HKO.out.trans (KeepsOthers.setCell _ _ _), q2'.cell.trans b2.cell.symm, ⟨s0.other (by omega) _, by rw [HST.out]; exact s1.set _, q2'⟩, HBC.out.setCell (p := ⟨w.heap.size + 1, 0, none⟩) (by simp) _⟩
  case done =>
    rintro D ys W hD rfl ⟨⟨_, hc, _⟩, hB⟩ hK
    have hc' := hc.cell
    gi_wp2
    refine ⟨by simp, .inl ⟨_, _, rfl, run_takeDeferred hK, ?_⟩⟩
    exact ⟨_, results_tmp rfl _ _ _, by rw [← SzPow.pw_all a k (by omega)]; rfl, hB.trans (belowK_b (w := w) (Nat.le_refl _) W D _ _ (by simp at hD; omega) hK rfl rfl)⟩
  case stop =>
    rintro D c pre W _ _ h _
    exact h.elim
/-- sizar/group.power -/
theorem power_any (a k : Nat) (w : World) (ha : a < 4611686018427377339) (hk : k ≤ 18446744073709551615) :
    Calls Tryd.prog 46 #[.int .u64 a, .int .u64 k] w fun e W' => e = .returned (.int .u64 (SzPow.powP a k : Int)) ∧ Below w.heap.size w W' :=
  (callsIn_wide.1 (power_in a k ha hk w)).mono fun _ _ h => h
end Go.Proofs.YtcgpanjagkblmaaDoor
