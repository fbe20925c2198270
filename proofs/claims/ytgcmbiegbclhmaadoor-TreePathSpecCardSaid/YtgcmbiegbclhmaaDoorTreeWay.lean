/- sizar/tree.way: the iterator yields the parts beside the way to a leaf. -/
import Derived.RangeFuncNested
import Derived.RangeFuncBound
import Derived.RangeFuncCalls
import Derived.RangeFuncLeaves
import Derived.RangeFuncFrom
import Derived.Shelf.Abstract
import Derived.Shelf.RegionOpen
import Derived.WalkKit
import Derived.OwnWalkIn
import Derived.TacticsInMore
import Derived.LoopNIn
import Derived.LoopIn
import Derived.Deep.QuietTactic
import Derived.BigQuiet
import Derived.StillTailTactics
import Derived.Test.YtgcmbiegbclhmaaDoorTreeHalf
namespace Go.Proofs.YtgcmbiegbclhmaaDoor
open Go.RowKit Go.Shelf SzSha SzTree
set_option linter.unusedVariables false
attribute [local go_sem] Oper.semAt_some
/-- a part beside the way, inside n leaves -/
def SpT (n : Nat) := {x : Bool × Nat × Nat // x.2.1 < x.2.2 ∧ x.2.2 ≤ n}
def spV (x : Bool × Nat × Nat) : Value := .agg #[.int .i64 (x.2.1 : Nat), .int .i64 (x.2.2 : Nat)]
def spE (n : Nat) (x : SpT n) : Array Value := #[.bool x.1.1, spV x.1]
def KpCell (b : Nat) (W W' : World) : Prop := W'.cell? ⟨b, 0, none⟩ = W.cell? ⟨b, 0, none⟩
theorem others_of_below {W W' : World} (h : Below W.heap.size W W') : KeepsOthers W W' := ⟨h.size, fun k _ hk _ => (h.block k (Array.getElem?_eq_some_iff.1 hk).1).trans hk⟩
theorem wayF_pre (f i a b : Nat) (h : 2 ≤ b - a) (hf : b - a ≤ f) : ∃ g, b - a ≤ g + 1 ∧ wayF f i a b = if i < a + half (b - a) then (true, a + half (b - a), b) :: wayF g i a (a + half (b - a)) else (false, a, a + half (b - a)) :: wayF g i (a + half (b - a)) b :=
  ⟨f, by omega, wayF_step f i a b h hf⟩
set_option maxRecDepth 100000 in
set_option maxHeartbeats 2000000 in
theorem way1_in (l ba bn i n : Nat) (hn : n ≤ 4096) (hi : i < n) (J Jx : List (SpT n) → World → Prop) (W : World)
    (hJ : AbidesFrom W.heap.size J)
    (hY : ∀ pre x W, J pre W → pre.length < n → YieldAt Fence.wide 4 Tryd.prog l (spE n x) W fun e W' =>
      (e = .returned (.bool true) ∧ J (pre ++ [x]) W' ∧ KpCell ba W W') ∨ (e = .returned (.bool false) ∧ Jx (pre ++ [x]) W'))
    (hba : W.cell? ⟨ba, 0, none⟩ = some (.int .i64 (i : Nat))) (hbn : W.cell? ⟨bn, 0, none⟩ = some (.int .i64 (n : Nat))) (h0 : J [] W) :
    CallsIn Fence.wide 5 Tryd.prog 53 #[.func (.yield l) #[] #[], .pointer (some ⟨bn, 0, none⟩), .pointer (some ⟨ba, 0, none⟩)] W fun e W' => (∃ v, e = .returned v) ∧
      ((∃ ys, ys.map (·.1) = way i n ∧ J ys W') ∨ (∃ pre, True ∧ Jx pre W')) := by
  refine callsIn_of_wp Tryd.func53 rfl trivial ?_ rfl
  simp only [Tryd.ntmps53, List.size_toArray, List.length_cons, List.length_nil, Nat.reduceAdd, Nat.reduceSub, Array.replicate_succ, Array.replicate_zero, List.push_toArray, List.append_toArray, List.nil_append, List.cons_append]
  gi_wp2_with fail
  refine wpIn_wide.2 ?_
  have hbn' : W.drew.cell? ⟨bn, 0, none⟩ = some (.int .i64 (n : Nat)) := hbn
  refine wp_region_still_lit (by kernel_rfl) (by kernel_rfl) ?_
  repeat still_step
  refine wpStill_nil ?_
  change Exit.then _ _ _ _ W.drew
  clear hbn'
  have hba' : W.drew.cell? ⟨ba, 0, none⟩ = some (.int .i64 (i : Nat)) := hba
  have h0' : J [] W.drew := hJ _ _ _ none h0 ⟨rfl, rfl, rfl, Nat.le_refl _, fun _ _ _ => rfl⟩ (fun r e => by cases e)
  have HBD := Lib.hid ((Below.refl W.heap.size W).drew)
  generalize W.drew = W2 at *
  gi_wp2_with fail
  gi_loopw [4, 5] (fun s t wr => ∃ a b f pre, s = .int .i64 (a : Nat) ∧ t = .int .i64 (b : Nat) ∧ a < b ∧ b ≤ n ∧ Hid (b - a ≤ f) ∧ Hid (pre.map (·.1) ++ wayF f i a b = way i n) ∧ J pre wr ∧ wr.cell? ⟨ba, 0, none⟩ = some (.int .i64 (i : Nat))) (fun s t _ => (intOf t - intOf s).toNat)
  case atStart => exact ⟨0, n, n, [], rfl, rfl, by omega, by omega, Lib.hid (by omega), Lib.hid rfl, h0', hba'⟩
  case round =>
    clear hba' h0' HBD
    obtain ⟨a, b, f, pre, rfl, rfl, hab, hbn2, HF, HW, hJp, hc⟩ := hrel
    obtain ⟨m, HM⟩ : ∃ m, Hid (b - a = m) := ⟨_, Lib.hid rfl⟩
    have hw1 : IntKind.i64.wrap ((b : Int) - (a : Int)) = (m : Int) := by rw [IntWalk.i64_in _ (by omega)]; have := HM.out; omega
    by_cases hlt : 1 < m
    · have d1 : decide (1 < (m : Int)) = true := decide_eq_true (by omega)
      obtain ⟨h, HH⟩ : ∃ h, Hid (half m = h) := ⟨_, Lib.hid rfl⟩
      obtain ⟨k, HK⟩ : ∃ k, Hid (a + h = k) := ⟨_, Lib.hid rfl⟩
      have hm4 : m ≤ 4096 := by have := HM.out; omega
      have hhb := half_bd (n := m) (by omega)
      rw [HH.out] at hhb
      have hw2 : IntKind.i64.wrap ((a : Int) + (h : Int)) = (k : Int) := by have := HK.out; have := HM.out; rw [IntWalk.i64_in _ (by omega)]; omega
      have HST : Hid (wayF f i a b = if i < k then (true, k, b) :: wayF f i a k else (false, a, k) :: wayF f i k b) := Lib.hid (by
        have := HM.out
        have := HH.out
        have := HK.out
        have h2 := wayF_step f i a b (by omega) HF.out
        rw [HM.out, HH.out, HK.out] at h2; exact h2)
      have HLN : Hid (pre.length < n) := Lib.hid (by
        have h1 := congrArg List.length HW.out
        have h2 := wayF_length n i 0 n
        have h3 : 0 < (wayF f i a b).length := by rw [HST.out]; split <;> simp
        simp only [List.length_append, List.length_map, way] at h1
        omega)
      by_cases hr : i < k
      · skip
        have d2 : decide ((i : Int) < (k : Int)) = true := decide_eq_true (by omega)
        have hJ1 := hJ _ _ _ none hJp (World.grownBy_alloc wr (.cells #[.int .i64 (k : Nat), .int .i64 (b : Nat)] 68) none) (fun r e => by cases e)
        have hYx : YieldAt Fence.wide 4 Tryd.prog l #[.bool true, .agg #[.int .i64 (k : Nat), .int .i64 (b : Nat)]] (wr.alloc (.cells #[.int .i64 (k : Nat), .int .i64 (b : Nat)] 68)) _ := hY pre ⟨(true, k, b), by have := HM.out; have := HK.out; simp only; omega⟩ _ hJ1 HLN.out
        obtain ⟨fn, tmps, assign, body, hy, hR⟩ := hYx
        have HWN : Hid ((pre ++ [⟨(true, k, b), by have := HM.out; have := HK.out; simp only; omega⟩] : List (SpT n)).map (·.1) ++ wayF f i a k = way i n) := Lib.hid (by
          rw [← HW.out, HST.out, if_pos hr, List.map_append, List.append_assoc]; rfl)
        have HL2 := Lib.hid (show wr.heap.size ≤ (wr.alloc (.cells #[.int .i64 (k : Nat), .int .i64 (b : Nat)] 68)).heap.size by simp)
        have hc2 : (wr.alloc (.cells #[.int .i64 (k : Nat), .int .i64 (b : Nat)] 68)).cell? ⟨ba, 0, none⟩ = some (.int .i64 (i : Nat)) := (((Below.refl _ wr).alloc (Nat.le_refl _) _).cell (p := ⟨ba, 0, none⟩) (block_lt_of_cell hc)).trans hc
        clear hY hJ hJ1
        gi_wp2_with (refine ⟨trivial, ?_⟩; gi_at_call 32; refine (callsIn_wide.2 (half_any m _ (by omega))).mono ?_; rintro e w' ⟨rfl, rfl⟩; rw [HH.out])
        refine hR.mono ?_
        rintro e W3 (⟨rfl, hJ3, hk3⟩ | ⟨rfl, hJx3⟩)
        · have hc3 : W3.cell? ⟨ba, 0, none⟩ = some (.int .i64 (i : Nat)) := hk3.trans hc2
          have HF3 : Hid (k - a ≤ f) := Lib.hid (by have := HF.out; have := HM.out; have := HK.out; omega)
          clear hc hc2 hy hR
          gi_wp2_with fail
          go_roundw
          case rel => exact ⟨a, k, f, _, rfl, rfl, by have := HK.out; have := HM.out; omega, by have := HK.out; have := HM.out; omega, HF3, HWN, hJ3, hc3⟩
          case measure => first | (simp [intOf]; done) | (simp [intOf]; have := HK.out; have := HM.out; omega)
        · clear hy hR
          gi_wp2_with fail
          refine bodyPost_ret (results_none rfl _ _ _) rfl ?_
          exact ⟨⟨_, rfl⟩, .inr ⟨_, trivial, hJx3⟩⟩
      · skip
        have d2 : decide ((i : Int) < (k : Int)) = false := decide_eq_false (by omega)
        have hJ1 := hJ _ _ _ none hJp (World.grownBy_alloc wr (.cells #[.int .i64 (a : Nat), .int .i64 (k : Nat)] 68) none) (fun r e => by cases e)
        have hYx : YieldAt Fence.wide 4 Tryd.prog l #[.bool false, .agg #[.int .i64 (a : Nat), .int .i64 (k : Nat)]] (wr.alloc (.cells #[.int .i64 (a : Nat), .int .i64 (k : Nat)] 68)) _ := hY pre ⟨(false, a, k), by have := HM.out; have := HK.out; simp only; omega⟩ _ hJ1 HLN.out
        obtain ⟨fn, tmps, assign, body, hy, hR⟩ := hYx
        have HWN : Hid ((pre ++ [⟨(false, a, k), by have := HM.out; have := HK.out; simp only; omega⟩] : List (SpT n)).map (·.1) ++ wayF f i k b = way i n) := Lib.hid (by
          rw [← HW.out, HST.out, if_neg hr, List.map_append, List.append_assoc]; rfl)
        have HL2 := Lib.hid (show wr.heap.size ≤ (wr.alloc (.cells #[.int .i64 (a : Nat), .int .i64 (k : Nat)] 68)).heap.size by simp)
        have hc2 : (wr.alloc (.cells #[.int .i64 (a : Nat), .int .i64 (k : Nat)] 68)).cell? ⟨ba, 0, none⟩ = some (.int .i64 (i : Nat)) := (((Below.refl _ wr).alloc (Nat.le_refl _) _).cell (p := ⟨ba, 0, none⟩) (block_lt_of_cell hc)).trans hc
        clear hY hJ hJ1
        gi_wp2_with (refine ⟨trivial, ?_⟩; gi_at_call 32; refine (callsIn_wide.2 (half_any m _ (by omega))).mono ?_; rintro e w' ⟨rfl, rfl⟩; rw [HH.out])
        refine hR.mono ?_
        rintro e W3 (⟨rfl, hJ3, hk3⟩ | ⟨rfl, hJx3⟩)
        · have hc3 : W3.cell? ⟨ba, 0, none⟩ = some (.int .i64 (i : Nat)) := hk3.trans hc2
          have HF3 : Hid (b - k ≤ f) := Lib.hid (by have := HF.out; have := HM.out; have := HK.out; omega)
          clear hc hc2 hy hR
          gi_wp2_with fail
          go_roundw
          case rel => exact ⟨k, b, f, _, rfl, rfl, by have := HK.out; have := HM.out; omega, by have := HK.out; have := HM.out; omega, HF3, HWN, hJ3, hc3⟩
          case measure => first | (simp [intOf]; done) | (simp [intOf]; have := HK.out; have := HM.out; omega)
        · clear hy hR
          gi_wp2_with fail
          refine bodyPost_ret (results_none rfl _ _ _) rfl ?_
          exact ⟨⟨_, rfl⟩, .inr ⟨_, trivial, hJx3⟩⟩
    · have d1 : decide (1 < (m : Int)) = false := decide_eq_false (by omega)
      have HE : Hid (pre.map (·.1) = way i n) := Lib.hid (by rw [← HW.out, wayF_stop _ _ _ _ (by have := HM.out; omega), List.append_nil])
      gi_wp2_with fail
      go_end0
      exact ⟨⟨_, rfl⟩, .inl ⟨_, HE.out, hJp⟩⟩
theorem way_any (i n : Nat) (w : World) :
    Calls Tryd.prog 39 #[.int .i64 (i : Nat), .int .i64 (n : Nat)] w fun e w' => e = .returned (.func (.func 53) #[] #[.pointer (some ⟨w.heap.size + 1, 0, none⟩), .pointer (some ⟨w.heap.size, 0, none⟩)]) ∧ (w.alloc (.cells #[.int .i64 (i : Nat)] 3)).alloc (.cells #[.int .i64 (n : Nat)] 3) = w' := by
  go_enter Tryd.func39, Tryd.ntmps39
  go_wp2_with fail
  go_ret
  exact ⟨rfl, rfl⟩
theorem way1_stops (ba bn i n : Nat) (hn : n ≤ 4096) (hi : i < n) (w : World) (hA : ba < w.heap.size) (hB : bn < w.heap.size) (hba : w.cell? ⟨ba, 0, none⟩ = some (.int .i64 (i : Nat))) (hbn : w.cell? ⟨bn, 0, none⟩ = some (.int .i64 (n : Nat))) :
    SeqStopsK Fence.wide 5 Tryd.prog 53 #[.pointer (some ⟨bn, 0, none⟩), .pointer (some ⟨ba, 0, none⟩)] (spE n) (KpCell ba) (fun xs => xs.map (·.1) = way i n) (fun _ => True) n w :=
  fun l J Jx W hW hJ _ hY h0 => way1_in l ba bn i n hn hi J Jx W hJ hY ((hW.cell (p := ⟨ba, 0, none⟩) hA).trans hba) ((hW.cell (p := ⟨bn, 0, none⟩) hB).trans hbn) h0
end Go.Proofs.YtgcmbiegbclhmaaDoor
