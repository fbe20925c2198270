/- sizarref01: Formed, Depth, Check, numeral, unsigned, encode, Encode of lists of integers. sizarref41.ints: the encoding of a list of integers. sizarref41.Salt. sizarref41: Valid, Line, Half, Check. sizarref41.Leaf. -/
import Derived.Test.YtgcmbiegbclhmaaDoorCodec6
import Derived.Test.YtgcmbiegbclhmaaDoorRefA
import Derived.Test.YtgcmbiegbclhmaaDoorTreeHash
import Derived.Test.YtgcmbiegbclhmaaDoorFlow4
import Derived.Outline
import Derived.Test.YtgcmbiegbclhmaaDoorTreeSalt
import Derived.Test.YtgcmbiegbclhmaaDoorTreeRoot2
import Derived.Test.YtgcmbiegbclhmaaDoorTreeLeaf3
import Derived.Test.YtgcmbiegbclhmaaDoorTreeLawKit
namespace Go.Proofs.YtgcmbiegbclhmaaDoor
open Go.RowKit SzSha SzTree
set_option linter.unusedVariables false
set_option maxRecDepth 100000
theorem OwnB.one (w : World) (base x : Nat) (hb : base ≤ w.heap.size) : OwnB (w.alloc (.cells #[.int .u8 (x : Nat)] 5)) base (.slice (some ⟨w.heap.size, 0, none⟩) 1 1) [x] :=
  ⟨rfl, .inr ⟨w.heap.size, 1, #[.int .u8 (x : Nat)], rfl, hb, heap_alloc_new w _, Nat.le_refl _, by unfold maxLen; omega, rfl, rfl⟩⟩
set_option maxHeartbeats 2000000 in
theorem rformed_int (z : Int) (w : World) : Calls Tryd.prog 72 #[.agg #[.int .i64 1, .int .i64 z, .string ⟨#[]⟩, .slice none 0 0]] w fun e w' => e = .returned (.bool true) ∧ Below w.heap.size w w' := by
  go_enter Tryd.func72, Tryd.ntmps72
  go_wp2_with fail
  all_goals
    go_ret
    exact ⟨rfl, (Below.refl _ _).alloc (Nat.le_refl _) _⟩
set_option maxHeartbeats 2000000 in
theorem rdepth_int (z : Int) (w : World) : Calls Tryd.prog 73 #[.agg #[.int .i64 1, .int .i64 z, .string ⟨#[]⟩, .slice none 0 0]] w fun e w' => e = .returned (.int .i64 0) ∧ Below w.heap.size w w' := by
  go_enter Tryd.func73, Tryd.ntmps73
  go_wp2_with fail
  all_goals
    go_ret
    exact ⟨rfl, (Below.refl _ _).alloc (Nat.le_refl _) _⟩
/-- the row of a list of values -/
def vRow (A : Option Addr) (n c : Nat) : Obj := .cells #[.int .i64 3, .int .i64 0, .string ⟨#[]⟩, .slice A n c] 76
theorem vRow_at {w wr : World} {A : Option Addr} {n c : Nat} (h : Below (w.alloc (vRow A n c)).heap.size (w.alloc (vRow A n c)) wr) : wr.cell? ⟨w.heap.size, 0, none⟩ = some (.int .i64 3) ∧ wr.cell? ⟨w.heap.size, 1, none⟩ = some (.int .i64 0) ∧ wr.cell? ⟨w.heap.size, 2, none⟩ = some (.string ⟨#[]⟩) ∧ wr.cell? ⟨w.heap.size, 3, none⟩ = some (.slice A n c) := by
  have h0 := (h.block w.heap.size (by simp)).trans (heap_alloc_new w (.cells #[.int .i64 3, .int .i64 0, .string ⟨#[]⟩, .slice A n c] 76))
  refine ⟨?_, ?_, ?_, ?_⟩ <;> rw [cell_of_row _ _ _ _ _ _ h0] <;> rfl
set_option maxHeartbeats 2000000 in
theorem rformed_list (zs : List Int) (A : Option Addr) (c : Nat) (w : World) (hn : zs.length ≤ 1000) (hV : Hid (VRd w w.heap.size A zs)) :
    Calls Tryd.prog 72 #[.agg #[.int .i64 3, .int .i64 0, .string ⟨#[]⟩, .slice A zs.length c]] w fun e w' => e = .returned (.bool true) ∧ Below w.heap.size w w' := by
  obtain ⟨n, HN⟩ : ∃ n, Hid (zs.length = n) := ⟨_, Lib.hid rfl⟩
  rw [HN.out]
  have hn' : n ≤ 1000 := by rw [← HN.out]; exact hn
  clear hn
  have HB0 := Lib.hid ((Below.refl _ w).alloc (Nat.le_refl _) (vRow A n c))
  go_enter Tryd.func72, Tryd.ntmps72
  go_wp2_with fail
  go_loopw [3] (fun i wr => ∃ j : Nat, j ≤ n ∧ i = .int .i64 j ∧ Hid (Below (w.alloc (vRow A n c)).heap.size (w.alloc (vRow A n c)) wr)) (fun i _ => n - (intOf i).toNat)
  case atStart => exact ⟨0, by omega, rfl, Lib.hid (Below.refl _ _)⟩
  case round =>
    obtain ⟨j, hj, rfl, HB⟩ := hrel
    obtain ⟨k0, k1, k2, k3⟩ := vRow_at HB.out
    by_cases hlt : j < n
    · obtain ⟨g, rfl, hg, hv⟩ := (hV.out.below HB0.out).below HB.out (by rw [HN.out]; omega)
      have hv2 := hv j (by rw [HN.out]; exact hlt)
      obtain ⟨z, HZ⟩ : ∃ z, Hid (zs[j]'(by rw [HN.out]; exact hlt) = z) := ⟨_, Lib.hid rfl⟩
      rw [HZ.out, Nat.zero_add] at hv2
      obtain ⟨q0, q1, q2, q3⟩ := hv2
      clear hv
      have d1 : decide ((j : Int) < (n : Int)) = true := decide_eq_true (by omega)
      have d2 : decide (j < n) = true := decide_eq_true hlt
      go_wp2_with fail
      refine (rformed_int z _).mono ?_
      rintro e w2 ⟨rfl, hq⟩
      have HB2 := Lib.hid (HB.out.trans (hq.mono HB.out.size))
      clear hq q0 q1 q2 q3 k0 k1 k2 k3
      go_wp2_with fail
      go_roundw
      case rel => exact ⟨j + 1, by omega, by go_num, HB2⟩
      case measure => simp [intOf]; omega
    · have d1 : decide ((j : Int) < (n : Int)) = false := decide_eq_false (by omega)
      go_wp2_with fail
      go_ret
      exact ⟨rfl, HB0.out.trans (HB.out.mono HB0.out.size)⟩
set_option maxHeartbeats 2000000 in
theorem rdepth_list (zs : List Int) (A : Option Addr) (c : Nat) (w : World) (hn : zs.length ≤ 1000) (hV : Hid (VRd w w.heap.size A zs)) :
    Calls Tryd.prog 73 #[.agg #[.int .i64 3, .int .i64 0, .string ⟨#[]⟩, .slice A zs.length c]] w fun e w' => e = .returned (.int .i64 1) ∧ Below w.heap.size w w' := by
  obtain ⟨n, HN⟩ : ∃ n, Hid (zs.length = n) := ⟨_, Lib.hid rfl⟩
  rw [HN.out]
  have hn' : n ≤ 1000 := by rw [← HN.out]; exact hn
  clear hn
  have HB0 := Lib.hid ((Below.refl _ w).alloc (Nat.le_refl _) (vRow A n c))
  go_enter Tryd.func73, Tryd.ntmps73
  go_wp2_with fail
  go_loopw [3, 4] (fun d i wr => ∃ j : Nat, j ≤ n ∧ d = .int .i64 0 ∧ i = .int .i64 j ∧ Hid (Below (w.alloc (vRow A n c)).heap.size (w.alloc (vRow A n c)) wr)) (fun _ i _ => n - (intOf i).toNat)
  case atStart => exact ⟨0, by omega, rfl, rfl, Lib.hid (Below.refl _ _)⟩
  case round =>
    obtain ⟨j, hj, rfl, rfl, HB⟩ := hrel
    obtain ⟨k0, k1, k2, k3⟩ := vRow_at HB.out
    by_cases hlt : j < n
    · obtain ⟨g, rfl, hg, hv⟩ := (hV.out.below HB0.out).below HB.out (by rw [HN.out]; omega)
      have hv2 := hv j (by rw [HN.out]; exact hlt)
      obtain ⟨z, HZ⟩ : ∃ z, Hid (zs[j]'(by rw [HN.out]; exact hlt) = z) := ⟨_, Lib.hid rfl⟩
      rw [HZ.out, Nat.zero_add] at hv2
      obtain ⟨q0, q1, q2, q3⟩ := hv2
      clear hv
      have d1 : decide ((j : Int) < (n : Int)) = true := decide_eq_true (by omega)
      have d2 : decide (j < n) = true := decide_eq_true hlt
      go_wp2_with fail
      refine (rdepth_int z _).mono ?_
      rintro e w2 ⟨rfl, hq⟩
      have HB2 := Lib.hid (HB.out.trans (hq.mono HB.out.size))
      clear hq q0 q1 q2 q3 k0 k1 k2 k3
      go_wp2_with fail
      go_roundw
      case rel => exact ⟨j + 1, by omega, rfl, by go_num, HB2⟩
      case measure => simp [intOf]; omega
    · have d1 : decide ((j : Int) < (n : Int)) = false := decide_eq_false (by omega)
      go_wp2_with fail
      go_ret
      exact ⟨rfl, HB0.out.trans (HB.out.mono HB0.out.size)⟩
set_option maxHeartbeats 2000000 in
theorem rvcheck_list (zs : List Int) (A : Option Addr) (c : Nat) (w : World) (hn : zs.length ≤ 1000) (hV : Hid (VRd w w.heap.size A zs)) :
    Calls Tryd.prog 59 #[.agg #[.int .i64 3, .int .i64 0, .string ⟨#[]⟩, .slice A zs.length c]] w fun e w' => e = .returned (.int .i64 0) ∧ Below w.heap.size w w' := by
  have HB0 := Lib.hid ((Below.refl _ w).alloc (Nat.le_refl _) (vRow A zs.length c))
  have HV := Lib.hid (hV.out.below HB0.out)
  have hrow := (heap_alloc_new w (.cells #[.int .i64 3, .int .i64 0, .string ⟨#[]⟩, .slice A zs.length c] 76))
  have HRW := Lib.hid hrow
  clear hrow
  go_enter Tryd.func59, Tryd.ntmps59
  go_wp2_with fail
  refine (rformed_list zs A c _ hn HV).mono ?_
  rintro e w2 ⟨rfl, hq⟩
  have HB2 := Lib.hid (HB0.out.trans (hq.mono HB0.out.size))
  have HV2 := Lib.hid (HV.out.below hq)
  obtain ⟨k0, k1, k2, k3⟩ := vRow_at hq
  clear hq
  go_wp2_with fail
  refine (rdepth_list zs A c _ hn HV2).mono ?_
  rintro e w3 ⟨rfl, hq⟩
  have HB3 := Lib.hid (HB2.out.trans (hq.mono HB2.out.size))
  clear hq k0 k1 k2 k3
  go_wp2_with fail
  go_ret
  exact ⟨rfl, HB3.out⟩
set_option maxHeartbeats 2000000 in
theorem runsigned_any (z : Int) (w : World) (h1 : -9223372036854775808 ≤ z) (h2 : z ≤ 9223372036854775807) :
    Calls Tryd.prog 75 #[.int .i64 z] w fun e w' => e = .returned (.int .u64 (zig z : Nat)) ∧ w = w' := by
  by_cases h : 0 ≤ z
  · have d1 : decide ((0 : Int) ≤ z) = true := decide_eq_true h
    have hz : ((zig z : Nat) : Int) = 2 * z := by unfold zig; rw [if_pos h]; omega
    have e1 : IntKind.u64.wrap z = z := by rw [IntKind.wrap_u64]; omega
    have e2 : IntKind.u64.wrap (2 * z) = 2 * z := by rw [IntKind.wrap_u64]; omega
    go_enter Tryd.func75, Tryd.ntmps75
    go_wp2_with fail
    go_ret
    refine ⟨?_, rfl⟩
    rw [hz]
    first | rfl | (simp only [e1, e2]) | (rw [IntKind.wrap_u64, IntKind.wrap_u64]; congr 2; omega)
  · have d1 : decide ((0 : Int) ≤ z) = false := decide_eq_false h
    have hz : ((zig z : Nat) : Int) = 2 * (-(z + 1)) + 1 := by unfold zig; rw [if_neg h]; omega
    have e1 : IntKind.i64.wrap (z + 1) = z + 1 := IntWalk.i64_in _ (by omega)
    have e2 : IntKind.i64.wrap (-(z + 1)) = -(z + 1) := IntWalk.i64_in _ (by omega)
    have e3 : IntKind.u64.wrap (-(z + 1)) = -(z + 1) := by rw [IntKind.wrap_u64]; omega
    have e4 : IntKind.u64.wrap (2 * (-(z + 1))) = 2 * (-(z + 1)) := by rw [IntKind.wrap_u64]; omega
    have e5 : IntKind.u64.wrap (2 * (-(z + 1)) + 1) = 2 * (-(z + 1)) + 1 := by rw [IntKind.wrap_u64]; omega
    go_enter Tryd.func75, Tryd.ntmps75
    go_wp2_with fail
    go_ret
    exact ⟨rfl, rfl⟩
set_option maxHeartbeats 4000000 in
theorem rnumeral_fuel : ∀ (f u : Nat) (w : World), Hid (u < 128 ^ (f + 1)) → u < 18446744073709551616 → f ≤ 10 →
    Calls Tryd.prog 74 #[.int .u64 (u : Nat)] w fun e w' => ∃ v', e = .returned v' ∧ OwnB w' w.heap.size v' (numB f u) ∧ Below w.heap.size w w' := by
  intro f
  induction f with
  | zero =>
    intro u w hu hu64 _
    have hlt : u < 128 := by have := hu.out; simpa using this
    have HE : Hid (numB 0 u = [u]) := Lib.hid (by unfold numB; rw [Nat.mod_eq_of_lt hlt])
    have d1 : decide ((u : Int) < 128) = true := decide_eq_true (by omega)
    have hx : (u : Int) % 256 = (u : Int) := by omega
    rw [HE.out]
    go_enter Tryd.func74, Tryd.ntmps74
    go_wp2_with fail
    go_ret
    exact ⟨_, rfl, OwnB.one _ _ u (Nat.le_refl _), (Below.refl _ _).alloc (Nat.le_refl _) _⟩
  | succ f ih =>
    intro u w hu hu64 hf
    by_cases hlt : u < 128
    · have HE : Hid (numB (f + 1) u = [u]) := Lib.hid (by unfold numB; rw [if_pos hlt])
      have d1 : decide ((u : Int) < 128) = true := decide_eq_true (by omega)
      have hx : (u : Int) % 256 = (u : Int) := by omega
      rw [HE.out]
      go_enter Tryd.func74, Tryd.ntmps74
      go_wp2_with fail
      go_ret
      exact ⟨_, rfl, OwnB.one _ _ u (Nat.le_refl _), (Below.refl _ _).alloc (Nat.le_refl _) _⟩
    · obtain ⟨x, HX⟩ : ∃ x : Nat, Hid (u % 128 + 128 = x) := ⟨_, Lib.hid rfl⟩
      obtain ⟨y, HY⟩ : ∃ y : Nat, Hid (u / 128 = y) := ⟨_, Lib.hid rfl⟩
      have HE : Hid (numB (f + 1) u = [x] ++ numB f y) := Lib.hid (by rw [numB, if_neg hlt, HX.out, HY.out]; rfl)
      have d1 : decide ((u : Int) < 128) = false := decide_eq_false (by omega)
      have hm : (u : Int) % 128 + 128 = (x : Int) := by rw [← HX.out]; omega
      have hw : IntKind.u64.wrap ((u : Int) % 128 + 128) = (x : Int) := by rw [hm, IntKind.wrap_u64]; rw [← HX.out]; omega
      have hx : (x : Int) % 256 = (x : Int) := by rw [← HX.out]; omega
      have hy : (u : Int) / 128 = (y : Int) := by rw [← HY.out]; omega
      have HL : Hid ((numB f y).length ≤ 11) := Lib.hid (by have := numB_length f y; omega)
      have HUY : Hid (y < 128 ^ (f + 1)) := Lib.hid (by rw [← HY.out]; have := hu.out; rw [Nat.pow_succ] at this; exact Nat.div_lt_of_lt_mul (by rw [Nat.mul_comm]; exact this))
      have hy64 : y < 18446744073709551616 := by rw [← HY.out]; omega
      clear hu hu64 hlt
      rw [HE.out]
      have HO1 := Lib.hid (OwnB.one w w.heap.size x (Nat.le_refl _))
      have HB1 := Lib.hid ((Below.refl _ w).alloc (Nat.le_refl _) (.cells #[.int .u8 (x : Nat)] 5))
      go_enter Tryd.func74, Tryd.ntmps74
      go_wp2_with fail
      generalize w.alloc (.cells #[.int .u8 (x : Nat)] 5) = W1 at *
      refine (ih y _ HUY hy64 (by omega)).mono ?_
      rintro e w2 ⟨v2, rfl, ho2, hb2⟩
      obtain ⟨A2, n2, cc2, rfl, hn2, hc2, hA2, HR2⟩ := ho2.slice
      have HO2 := Lib.hid (HO1.out.below hb2)
      have HB2 := Lib.hid (HB1.out.trans (hb2.mono HB1.out.size))
      have HLL : Hid (([x] : List Nat).length + n2 ≤ 1099511627776) := Lib.hid (by rw [← hn2.out]; have := HL.out; simp; omega)
      have HSZ := Lib.hid HB2.out.size
      clear ho2 hb2
      go_wp2_with (at_builtin; refine wpList_append_bytes rfl (.tmp 12) (.tmp 15) rfl w.heap.size _ [x] (numB f y) rfl HO2 A2 n2 cc2 rfl hn2 hA2.out HR2 HLL.out HSZ.out ?_; intro v3 w3 HO3 HB3)
      go_ret
      exact ⟨_, rfl, HO3.out, HB2.out.trans HB3.out⟩
theorem rnumeral_any (u : Nat) (w : World) (hu : u < 18446744073709551616) :
    Calls Tryd.prog 74 #[.int .u64 (u : Nat)] w fun e w' => ∃ v', e = .returned v' ∧ OwnB w' w.heap.size v' (num u) ∧ Below w.heap.size w w' :=
  rnumeral_fuel 10 u w (Lib.hid (Nat.lt_of_lt_of_le hu (by decide))) hu (Nat.le_refl _)
set_option maxHeartbeats 4000000 in
theorem rencode_int (z : Int) (w : World) (h1 : -9223372036854775808 ≤ z) (h2 : z ≤ 9223372036854775807) :
    Calls Tryd.prog 60 #[.agg #[.int .i64 1, .int .i64 z, .string ⟨#[]⟩, .slice none 0 0]] w fun e w' => ∃ v', e = .returned v' ∧ OwnB w' w.heap.size v' (1 :: num (zig z)) ∧ Below w.heap.size w w' := by
  obtain ⟨u, HU⟩ : ∃ u, Hid (zig z = u) := ⟨_, Lib.hid rfl⟩
  have hu : u < 18446744073709551616 := by rw [← HU.out]; exact zig_lt h1 h2
  have HL : Hid ((num u).length ≤ 11) := Lib.hid (numB_length 10 u)
  have HB0 := Lib.hid ((Below.refl _ w).alloc (Nat.le_refl _) (.cells #[.int .i64 1, .int .i64 z, .string ⟨#[]⟩, .slice none 0 0] 76))
  have HB1 := Lib.hid (HB0.out.alloc HB0.out.size (.cells #[.int .u8 1] 5))
  have HO1 : Hid (OwnB ((w.alloc (.cells #[.int .i64 1, .int .i64 z, .string ⟨#[]⟩, .slice none 0 0] 76)).alloc (.cells #[.int .u8 1] 5)) w.heap.size (.slice (some ⟨w.heap.size + 1, 0, none⟩) 1 1) [1]) := Lib.hid (by have := OwnB.one (w.alloc (.cells #[.int .i64 1, .int .i64 z, .string ⟨#[]⟩, .slice none 0 0] 76)) w.heap.size 1 HB0.out.size; rw [World.size_alloc] at this; exact this)
  rw [HU.out]
  go_enter Tryd.func60, Tryd.ntmps60
  go_wp2_with fail
  refine (runsigned_any z _ h1 h2).mono ?_
  rintro e w2 ⟨rfl, rfl⟩
  rw [HU.out]
  go_wp2_with fail
  refine (rnumeral_any u _ hu).mono ?_
  rintro e w2 ⟨v2, rfl, ho2, hb2⟩
  obtain ⟨A2, n2, cc2, rfl, hn2, hc2, hA2, HR2⟩ := ho2.slice
  have HO2 := Lib.hid (HO1.out.below hb2)
  have HB2 := Lib.hid (HB1.out.trans (hb2.mono HB1.out.size))
  have HLL : Hid (([1] : List Nat).length + n2 ≤ 1099511627776) := Lib.hid (by rw [← hn2.out]; have := HL.out; simp; omega)
  have HSZ := Lib.hid HB2.out.size
  clear ho2 hb2
  go_wp2_with (at_builtin; refine wpList_append_bytes rfl (.tmp 9) (.tmp 13) rfl w.heap.size _ [1] (num u) rfl HO2 A2 n2 cc2 rfl hn2 hA2.out HR2 HLL.out HSZ.out ?_; intro v3 w3 HO3 HB3)
  go_ret
  exact ⟨_, rfl, HO3.out, HB2.out.trans HB3.out⟩
set_option maxHeartbeats 4000000 in
theorem rencode_list (zs : List Int) (A : Option Addr) (c : Nat) (w : World) (hz : Hid (∀ z ∈ zs, -9223372036854775808 ≤ z ∧ z ≤ 9223372036854775807)) (hn : zs.length ≤ 1000) (hV : Hid (VRd w w.heap.size A zs)) :
    Calls Tryd.prog 60 #[.agg #[.int .i64 3, .int .i64 0, .string ⟨#[]⟩, .slice A zs.length c]] w fun e w' => ∃ v', e = .returned v' ∧ OwnB w' w.heap.size v' (encI zs) ∧ Below w.heap.size w w' := by
  obtain ⟨n, HN⟩ : ∃ n, Hid (zs.length = n) := ⟨_, Lib.hid rfl⟩
  rw [HN.out]
  have hn' : n ≤ 1000 := by rw [← HN.out]; exact hn
  have hnu : n < 18446744073709551616 := by omega
  clear hn
  have HB0 := Lib.hid ((Below.refl _ w).alloc (Nat.le_refl _) (vRow A n c))
  have HB1 := Lib.hid (HB0.out.alloc HB0.out.size (.cells #[.int .u8 3] 5))
  have HK1 := Lib.hid ((Below.refl _ (w.alloc (vRow A n c))).alloc (Nat.le_refl _) (.cells #[.int .u8 3] 5))
  have HO1 : Hid (OwnB ((w.alloc (vRow A n c)).alloc (.cells #[.int .u8 3] 5)) (w.heap.size + 1) (.slice (some ⟨w.heap.size + 1, 0, none⟩) 1 1) [3]) := Lib.hid (by have := OwnB.one (w.alloc (vRow A n c)) (w.heap.size + 1) 3 (by simp); rw [World.size_alloc] at this; exact this)
  have HL : Hid ((num n).length ≤ 11) := Lib.hid (numB_length 10 n)
  have HWN : IntKind.u64.wrap ((n : Nat) : Int) = (n : Int) := by rw [IntKind.wrap_u64]; omega
  have HEC : Hid (encI zs = [3] ++ num n ++ zs.flatMap fun z => 1 :: num (zig z)) := Lib.hid (by unfold encI; rw [HN.out]; simp)
  go_enter Tryd.func60, Tryd.ntmps60
  go_wp2_with fail
  refine (rnumeral_any n _ hnu).mono ?_
  rintro e w2 ⟨v2, rfl, ho2, hb2⟩
  obtain ⟨A2, n2, cc2, rfl, hn2, hc2, hA2, HR2⟩ := ho2.slice
  have HO2 := Lib.hid (HO1.out.below hb2)
  have HK2 := Lib.hid (HK1.out.trans (hb2.mono HK1.out.size))
  have HLL : Hid (([3] : List Nat).length + n2 ≤ 1099511627776) := Lib.hid (by rw [← hn2.out]; have := HL.out; simp; omega)
  have HSZ : Hid (w.heap.size + 1 ≤ w2.heap.size) := Lib.hid (by have := HK2.out.size; simpa using this)
  clear ho2 hb2
  go_wp2_with (at_builtin; refine wpList_append_bytes rfl (.tmp 27) (.tmp 32) rfl (w.heap.size + 1) _ [3] (num n) rfl HO2 A2 n2 cc2 rfl hn2 hA2.out HR2 HLL.out HSZ.out ?_; intro v3 w3 HO3 HB3)
  have HK3 := Lib.hid (HK2.out.trans (HB3.out.mono (by simp)))
  go_loopw [3, 4] (fun o i wr => ∃ j : Nat, j ≤ n ∧ i = .int .i64 j ∧ Hid (OwnB wr (w.heap.size + 1) o ([3] ++ num n ++ (zs.take j).flatMap fun z => 1 :: num (zig z))) ∧ Hid (Below (w.alloc (vRow A n c)).heap.size (w.alloc (vRow A n c)) wr)) (fun _ i _ => n - (intOf i).toNat)
  case atStart => exact ⟨0, by omega, rfl, Lib.hid (by simpa using HO3.out), HK3⟩
  case round =>
    clear HO3 HB3 HO2 HK3 HK2 HLL HSZ HK1 HB1 HO1 HR2 hn2 hA2
    obtain ⟨j, hj, rfl, HO, HB⟩ := hrel
    obtain ⟨k0, k1, k2, k3⟩ := vRow_at HB.out
    have HBS : Hid (w.heap.size + 1 ≤ wr.heap.size) := Lib.hid (by have := HB.out.size; simpa using this)
    by_cases hlt : j < n
    · obtain ⟨g, rfl, hg, hv⟩ := (hV.out.below HB0.out).below HB.out (by rw [HN.out]; omega)
      have hv2 := hv j (by rw [HN.out]; exact hlt)
      obtain ⟨z, HZ⟩ : ∃ z, Hid (zs[j]'(by rw [HN.out]; exact hlt) = z) := ⟨_, Lib.hid rfl⟩
      have HZB := Lib.hid (hz.out z (by rw [← HZ.out]; exact List.getElem_mem _))
      have HTK : Hid (zs.take (j + 1) = zs.take j ++ [z]) := Lib.hid (by rw [List.take_succ_eq_append_getElem (by rw [HN.out]; exact hlt), HZ.out])
      rw [HZ.out, Nat.zero_add] at hv2
      obtain ⟨q0, q1, q2, q3⟩ := hv2
      clear hv
      have d1 : decide ((j : Int) < (n : Int)) = true := decide_eq_true (by omega)
      have d2 : decide (j < n) = true := decide_eq_true hlt
      go_wp2_with fail
      refine (rencode_int z _ HZB.out.1 HZB.out.2).mono ?_
      rintro e w4 ⟨v4, rfl, ho4, hb4⟩
      obtain ⟨A4, n4, cc4, rfl, hn4, hc4, hA4, HR4⟩ := ho4.slice
      have HO4 := Lib.hid (HO.out.below hb4)
      have HB4 := Lib.hid (HB.out.trans (hb4.mono HB.out.size))
      have HLL : Hid (([3] ++ num n ++ (zs.take j).flatMap fun z => 1 :: num (zig z)).length + n4 ≤ 1099511627776) := Lib.hid (by
        have e1 := flat_length (zs.take j)
        have e2 := numB_length 10 n
        have e3 := numB_length 10 (zig z)
        rw [List.length_take, HN.out] at e1
        rw [← hn4.out]
        simp only [List.length_append, List.length_cons, List.length_nil, num] at *
        omega)
      have HSZ := Lib.hid (Nat.le_trans HBS.out hb4.size)
      clear ho4 hb4 q0 q1 q2 q3 k0 k1 k2 k3
      go_wp2_with (at_builtin; refine wpList_append_bytes rfl (.tmp 41) (.tmp 47) rfl (w.heap.size + 1) _ _ (1 :: num (zig z)) rfl HO4 A4 n4 cc4 rfl hn4 hA4.out HR4 HLL.out HSZ.out ?_; intro v5 w5 HO5 HB5)
      have HB6 := Lib.hid (HB4.out.trans (HB5.out.mono (by simp)))
      go_roundw
      case rel => exact ⟨j + 1, by omega, by go_num, Lib.hid (by rw [HTK.out, List.flatMap_append, ← List.append_assoc]; simpa using HO5.out), HB6⟩
      case measure => simp [intOf]; omega
    · have d1 : decide ((j : Int) < (n : Int)) = false := decide_eq_false (by omega)
      have HT : Hid (zs.take j = zs) := Lib.hid (List.take_of_length_le (by rw [HN.out]; omega))
      rw [HT.out] at HO
      go_wp2_with fail
      go_ret
      exact ⟨_, rfl, by rw [HEC.out]; have := HO.out; exact ⟨this.1, this.2.imp id (fun ⟨g, cap, cur, e, hb, r⟩ => ⟨g, cap, cur, e, by omega, r⟩)⟩, HB0.out.trans (HB.out.mono HB0.out.size)⟩
set_option maxHeartbeats 4000000 in
theorem rEncode_list (zs : List Int) (A : Option Addr) (c : Nat) (w : World) (hz : Hid (∀ z ∈ zs, -9223372036854775808 ≤ z ∧ z ≤ 9223372036854775807)) (hn : zs.length ≤ 1000) (hV : Hid (VRd w w.heap.size A zs)) :
    Calls Tryd.prog 51 #[.agg #[.int .i64 3, .int .i64 0, .string ⟨#[]⟩, .slice A zs.length c]] w fun e w' => ∃ v', e = .returned (.tuple #[v', .int .i64 0]) ∧ OwnB w' w.heap.size v' (encI zs) ∧ Below w.heap.size w w' := by
  have HB0 := Lib.hid ((Below.refl _ w).alloc (Nat.le_refl _) (vRow A zs.length c))
  have HV := Lib.hid (hV.out.below HB0.out)
  have HRW := Lib.hid (vRow_at (w := w) (A := A) (n := zs.length) (c := c) (Below.refl _ _))
  have HROW := Lib.hid (heap_alloc_new w (.cells #[.int .i64 3, .int .i64 0, .string ⟨#[]⟩, .slice A zs.length c] 76))
  go_enter Tryd.func51, Tryd.ntmps51
  go_wp2_with fail
  refine (rvcheck_list zs A c _ hn HV).mono ?_
  rintro e w2 ⟨rfl, hq⟩
  have HB2 := Lib.hid (HB0.out.trans (hq.mono HB0.out.size))
  have HV2 := Lib.hid (HV.out.below hq)
  obtain ⟨k0, k1, k2, k3⟩ := vRow_at hq
  clear hq
  go_wp2_with fail
  refine (rencode_list zs A c _ hz hn HV2).mono ?_
  rintro e w3 ⟨v3, rfl, ho, hq⟩
  have HO := Lib.hid ho
  have HB3 := Lib.hid (HB2.out.trans (hq.mono HB2.out.size))
  have HBS := Lib.hid HB2.out.size
  clear ho hq k0 k1 k2 k3
  go_wp2_with fail
  go_ret2
  exact ⟨_, rfl, ⟨HO.out.1, HO.out.2.imp id (fun ⟨g, cap, cur, e, hb, r⟩ => ⟨g, cap, cur, e, Nat.le_trans HBS.out hb, r⟩)⟩, HB3.out⟩
end Go.Proofs.YtgcmbiegbclhmaaDoor
namespace Go.Proofs.YtgcmbiegbclhmaaDoor
open Go.RowKit SzSha SzTree
set_option linter.unusedVariables false
set_option maxRecDepth 100000
def wRi (base : Nat) (b : Nat) (g : Nat) (m : Nat) (gc : Nat) (jj : Nat) (vl : Value) (z : Int) (l2 : List Int) : Nat → Value → Value → World → Prop
  | 0, fv, _, _ => fv = Value.pointer (some ⟨b, 3, none⟩)
  | 1, fv, _, _ => fv = vl
  | 2, fv, _, _ => fv = Value.slice (some ⟨g, 0, none⟩) m gc
  | 3, fv, _, _ => fv = Value.int .i64 ((jj : Nat))
  | 4, fv, _, _ => fv = Value.pointer (some ⟨g, jj, none⟩)
  | 5, fv, _, _ => fv = Value.int .i64 z
  | 6, fv, _, _ => fv = Value.agg #[.int .i64 1, .int .i64 z, .string ⟨#[]⟩, .slice none 0 0]
  | 7, fv, fu, fw => ∃ q, fv = .slice (some ⟨q, 0, none⟩) 1 1 ∧ fw.heap[q]? = some (.cells #[.int .i64 1, .int .i64 z, .string ⟨#[]⟩, .slice none 0 0] 76 (0, 0))
  | 8, fv, fu, fw => OwnV fw base fv l2
  | 9, fv, _, _ => fv = Value.pointer (some ⟨b, 3, none⟩)
  | 10, fv, fu, fw => OwnV fw base fu l2 ∧ fw.heap[b]? = some (.cells #[.int .i64 3, .int .i64 0, .string ⟨#[]⟩, fu] 76 (0, 0))
  | _, _, _, _ => True
theorem wRi_below {base : Nat} {b : Nat} {g : Nat} {m : Nat} {gc : Nat} {jj : Nat} {vl : Value} {z : Int} {l2 : List Int} {w w' : World} (hb : Below w.heap.size w w') : ∀ j v u, wRi base b g m gc jj vl z l2 j v u w → wRi base b g m gc jj vl z l2 j v u w'
  | 0, v, u, h => h
  | 1, v, u, h => h
  | 2, v, u, h => h
  | 3, v, u, h => h
  | 4, v, u, h => h
  | 5, v, u, h => h
  | 6, v, u, h => h
  | 7, v, u, ⟨q, h1, h2⟩ => ⟨q, h1, (hb.block q (Array.getElem?_eq_some_iff.1 h2).1).trans h2⟩
  | 8, v, u, h => h.kept (fun k _ hk => hb.block k hk)
  | 9, v, u, h => h
  | 10, v, u, h => ⟨h.1.kept (fun k _ hk => hb.block k hk), (hb.block b (Array.getElem?_eq_some_iff.1 h.2).1).trans h.2⟩
  | n + 11, v, u, h => trivial
theorem wRi_pure {base : Nat} {b : Nat} {g : Nat} {m : Nat} {gc : Nat} {jj : Nat} {vl : Value} {z : Int} {l2 : List Int} {w w' : World} : ∀ j v u, j ≠ 7 → j ≠ 8 → j ≠ 10 → wRi base b g m gc jj vl z l2 j v u w → wRi base b g m gc jj vl z l2 j v u w'
  | 0, v, u, _, _, _, h => h
  | 1, v, u, _, _, _, h => h
  | 2, v, u, _, _, _, h => h
  | 3, v, u, _, _, _, h => h
  | 4, v, u, _, _, _, h => h
  | 5, v, u, _, _, _, h => h
  | 6, v, u, _, _, _, h => h
  | 7, v, u, hh, _, _, _ => absurd rfl hh
  | 8, v, u, _, hh, _, _ => absurd rfl hh
  | 9, v, u, _, _, _, h => h
  | 10, v, u, _, _, hh, _ => absurd rfl hh
  | n + 11, v, u, _, _, _, h => trivial
set_option maxHeartbeats 4000000 in
theorem rints_any (zs : List Int) (g m gc : Nat) (w : World) (hz : Hid (∀ z ∈ zs, -9223372036854775808 ≤ z ∧ z ≤ 9223372036854775807)) (hm : zs.length = m) (hzn : m ≤ 1000) (hzc : Hid (∀ i, i < m → w.cell? ⟨g, i, none⟩ = some (.int .i64 (zs.getD i 0)))) (hg : g < w.heap.size) :
    Calls Tryd.prog 37 #[.slice (some ⟨g, 0, none⟩) m gc] w fun e w' => ∃ v', e = .returned v' ∧ OwnB w' w.heap.size v' (encI zs) ∧ Below w.heap.size w w' := by
  have HM := Lib.hid hm
  clear hm
  have HB0 := Lib.hid ((Below.refl _ w).alloc (Nat.le_refl _) (.cells #[.int .i64 3, .int .i64 0, .string ⟨#[]⟩, .slice none 0 0] 76))
  have HV0 := Lib.hid (heap_alloc_new w (.cells #[.int .i64 3, .int .i64 0, .string ⟨#[]⟩, .slice none 0 0] 76))
  go_enter Tryd.func37, Tryd.ntmps37
  go_wp2_with fail
  go_loopw [4] (fun i wr => ∃ j : Nat, j ≤ m ∧ i = .int .i64 j ∧ ∃ vl, Hid (wr.heap[w.heap.size]? = some (.cells #[.int .i64 3, .int .i64 0, .string ⟨#[]⟩, vl] 76 (0, 0))) ∧ Hid (OwnV wr (w.heap.size + 1) vl (zs.take j)) ∧ Hid (Below w.heap.size w wr)) (fun i _ => m - (intOf i).toNat)
  case atStart => exact ⟨0, by omega, rfl, _, HV0, Lib.hid (OwnV.nil _ _), HB0⟩
  case round =>
    clear HV0 HB0
    obtain ⟨j, hj, rfl, vl, HV, HO, HB⟩ := hrel
    by_cases hlt : j < m
    · have d1 : decide ((j : Int) < (m : Int)) = true := decide_eq_true (by omega)
      have d2 : decide (j < m) = true := decide_eq_true hlt
      obtain ⟨z, HZ⟩ : ∃ z, Hid (zs.getD j 0 = z) := ⟨_, Lib.hid rfl⟩
      have hcell : wr.cell? ⟨g, j, none⟩ = some (.int .i64 z) := by rw [← HZ.out]; exact (HB.out.cell (p := ⟨g, j, none⟩) hg).trans (hzc.out j hlt)
      have HC := Lib.hid hcell
      have HSZ : Hid (w.heap.size + 1 ≤ wr.heap.size) := Lib.hid (Array.getElem?_eq_some_iff.1 HV.out).1
      have HGS : Hid (g < wr.heap.size) := Lib.hid (Nat.lt_of_lt_of_le hg HB.out.size)
      have HLN : Hid ((zs.take j).length ≤ 100000) := Lib.hid (by rw [List.length_take]; omega)
      have HNX : Hid (zs.take j ++ [z] = zs.take (j + 1)) := Lib.hid (by
        have h1 : j < zs.length := by rw [HM.out]; exact hlt
        rw [List.take_succ_eq_append_getElem h1, ← HZ.out]; simp [List.getD_eq_getElem?_getD, h1])
      clear hcell
      obtain ⟨A, n, c, rfl⟩ := ownV_form HO.out
      go_wp2_with fail
      refine region_flow3 (by kernel_rfl) (by kernel_rfl) (fun i => Nat.beq i 10) (fun i => bif Nat.beq i 10 then 8 else i) (by kernel_rfl) (fun fx => #[Value.slice (some { block := g, off := 0 }) m gc, undef, Value.slice none 0 0, Value.pointer (some { block := w.heap.size, off := 0 }), Value.int IntKind.i64 ↑j, undef, undef, Value.agg #[Value.int IntKind.i64 3, Value.int IntKind.i64 0, Value.string { data := #[] }, Value.slice none 0 0], Value.int IntKind.i64 ↑j, Value.slice (some { block := g, off := 0 }) m gc, Value.int IntKind.i64 ↑m, Value.bool true, u12, u13, fx 0, fx 1, fx 2, fx 3, fx 4, fx 5, fx 6, fx 7, fx 8, fx 9, undef, undef, undef, undef, undef, undef]) (fun i => bif Nat.beq i 0 then u14 else bif Nat.beq i 1 then u15 else bif Nat.beq i 2 then u16 else bif Nat.beq i 3 then u17 else bif Nat.beq i 4 then u18 else bif Nat.beq i 5 then u19 else bif Nat.beq i 6 then u20 else bif Nat.beq i 7 then u21 else bif Nat.beq i 8 then u22 else bif Nat.beq i 9 then u23 else undef) (fun L fx w' => Below w.heap.size w w' ∧ (L 10 = false → w'.heap[w.heap.size]? = some (.cells #[.int .i64 3, .int .i64 0, .string ⟨#[]⟩, .slice A n c] 76 (0, 0))) ∧ (L 8 = false → OwnV w' (w.heap.size + 1) (.slice A n c) (zs.take j))) (fun fi fv fu fw => wRi (w.heap.size + 1) w.heap.size g m gc j (.slice A n c) z (zs.take (j + 1)) fi fv fu fw) ⟨HB.out.trans ((Below.refl _ wr).drew.mono HB.out.size), fun _ => HV.out, fun _ => HO.out.kept (fun _ _ _ => rfl)⟩ ?_ ?_
      · refine ⟨?_, ?_, ?_, ?_, ?_, ?_, ?_, ?_, ?_, ?_, ?_, trivial⟩
        all_goals intro L fx w' hC hi hcl hdn hd
        · go_wp2_with fail
          exact ⟨_, rfl, ⟨hC.1, fun h => hC.2.1 h, fun h => hC.2.2 h⟩, rfl, fun _ _ _ _ _ h => h⟩
        · have h0 : fx 0 = Value.pointer (some ⟨w.heap.size, 3, none⟩) := hd.1 rfl
          have hN10 : L 10 = false := by cases h10 : L 10 with | false => rfl | true => (have h8 := hcl 10 8 h10 (by kernel_rfl); have h1' := hcl 8 1 h8 (by kernel_rfl); rw [hi] at h1'; cases h1')
          have hrow := hC.2.1 hN10
          have k3 : w'.cell? ⟨w.heap.size, 3, none⟩ = some (.slice A n c) := by rw [cell_of_row _ _ _ _ _ _ hrow]; rfl
          clear hrow
          go_wp2_with fail
          exact ⟨_, by show _ = Act.mk #[Value.slice (some { block := g, off := 0 }) m gc, undef, Value.slice none 0 0, Value.pointer (some { block := w.heap.size, off := 0 }), Value.int IntKind.i64 ↑j, undef, undef, Value.agg #[Value.int IntKind.i64 3, Value.int IntKind.i64 0, Value.string { data := #[] }, Value.slice none 0 0], Value.int IntKind.i64 ↑j, Value.slice (some { block := g, off := 0 }) m gc, Value.int IntKind.i64 ↑m, Value.bool true, u12, u13, fx 0, Value.slice A n c, fx 2, fx 3, fx 4, fx 5, fx 6, fx 7, fx 8, fx 9, undef, undef, undef, undef, undef, undef] []; rw [h0] <;> rfl, ⟨hC.1, fun h => hC.2.1 h, fun h => hC.2.2 h⟩, rfl, fun _ _ _ _ _ h => h⟩
        · go_wp2_with fail
          exact ⟨_, rfl, ⟨hC.1, fun h => hC.2.1 h, fun h => hC.2.2 h⟩, rfl, fun _ _ _ _ _ h => h⟩
        · go_wp2_with fail
          exact ⟨_, rfl, ⟨hC.1, fun h => hC.2.1 h, fun h => hC.2.2 h⟩, rfl, fun _ _ _ _ _ h => h⟩
        · have h2 : fx 2 = Value.slice (some ⟨g, 0, none⟩) m gc := hd.1 rfl
          have h3 : fx 3 = Value.int .i64 ((j : Nat)) := hd.2.1 rfl
          go_wp2_with fail
          exact ⟨_, by show _ = Act.mk #[Value.slice (some { block := g, off := 0 }) m gc, undef, Value.slice none 0 0, Value.pointer (some { block := w.heap.size, off := 0 }), Value.int IntKind.i64 ↑j, undef, undef, Value.agg #[Value.int IntKind.i64 3, Value.int IntKind.i64 0, Value.string { data := #[] }, Value.slice none 0 0], Value.int IntKind.i64 ↑j, Value.slice (some { block := g, off := 0 }) m gc, Value.int IntKind.i64 ↑m, Value.bool true, u12, u13, fx 0, fx 1, fx 2, fx 3, Value.pointer (some ⟨g, j, none⟩), fx 5, fx 6, fx 7, fx 8, fx 9, undef, undef, undef, undef, undef, undef] []; rw [h2, h3] <;> rfl, ⟨hC.1, fun h => hC.2.1 h, fun h => hC.2.2 h⟩, rfl, fun _ _ _ _ _ h => h⟩
        · have h4 : fx 4 = Value.pointer (some ⟨g, j, none⟩) := hd.1 rfl
          have hcc : w'.cell? ⟨g, j, none⟩ = some (.int .i64 z) := (hC.1.cell (p := ⟨g, j, none⟩) hg).trans (by rw [← HZ.out]; exact hzc.out j hlt)
          go_wp2_with fail
          exact ⟨_, by show _ = Act.mk #[Value.slice (some { block := g, off := 0 }) m gc, undef, Value.slice none 0 0, Value.pointer (some { block := w.heap.size, off := 0 }), Value.int IntKind.i64 ↑j, undef, undef, Value.agg #[Value.int IntKind.i64 3, Value.int IntKind.i64 0, Value.string { data := #[] }, Value.slice none 0 0], Value.int IntKind.i64 ↑j, Value.slice (some { block := g, off := 0 }) m gc, Value.int IntKind.i64 ↑m, Value.bool true, u12, u13, fx 0, fx 1, fx 2, fx 3, fx 4, Value.int .i64 z, fx 6, fx 7, fx 8, fx 9, undef, undef, undef, undef, undef, undef] []; rw [h4] <;> rfl, ⟨hC.1, fun h => hC.2.1 h, fun h => hC.2.2 h⟩, rfl, fun _ _ _ _ _ h => h⟩
        · have h5 : fx 5 = Value.int .i64 z := hd.1 rfl
          go_wp2_with fail
          exact ⟨_, by show _ = Act.mk #[Value.slice (some { block := g, off := 0 }) m gc, undef, Value.slice none 0 0, Value.pointer (some { block := w.heap.size, off := 0 }), Value.int IntKind.i64 ↑j, undef, undef, Value.agg #[Value.int IntKind.i64 3, Value.int IntKind.i64 0, Value.string { data := #[] }, Value.slice none 0 0], Value.int IntKind.i64 ↑j, Value.slice (some { block := g, off := 0 }) m gc, Value.int IntKind.i64 ↑m, Value.bool true, u12, u13, fx 0, fx 1, fx 2, fx 3, fx 4, fx 5, Value.agg #[.int .i64 1, .int .i64 z, .string ⟨#[]⟩, .slice none 0 0], fx 7, fx 8, fx 9, undef, undef, undef, undef, undef, undef] []; rw [h5] <;> rfl, ⟨hC.1, fun h => hC.2.1 h, fun h => hC.2.2 h⟩, rfl, fun _ _ _ _ _ h => h⟩
        · have h6 : fx 6 = Value.agg #[.int .i64 1, .int .i64 z, .string ⟨#[]⟩, .slice none 0 0] := hd.1 rfl
          go_wp2_with fail
          have hbb : Below w'.heap.size w' (w'.alloc (.cells #[.int .i64 1, .int .i64 z, .string ⟨#[]⟩, .slice none 0 0] 76)) := (Below.refl _ _).alloc (Nat.le_refl _) _
          exact ⟨_, by show _ = Act.mk #[Value.slice (some { block := g, off := 0 }) m gc, undef, Value.slice none 0 0, Value.pointer (some { block := w.heap.size, off := 0 }), Value.int IntKind.i64 ↑j, undef, undef, Value.agg #[Value.int IntKind.i64 3, Value.int IntKind.i64 0, Value.string { data := #[] }, Value.slice none 0 0], Value.int IntKind.i64 ↑j, Value.slice (some { block := g, off := 0 }) m gc, Value.int IntKind.i64 ↑m, Value.bool true, u12, u13, fx 0, fx 1, fx 2, fx 3, fx 4, fx 5, fx 6, Value.slice (some ⟨w'.heap.size, 0, none⟩) 1 1, fx 8, fx 9, undef, undef, undef, undef, undef, undef] []; rw [h6] <;> rfl, ⟨hC.1.trans (hbb.mono hC.1.size), fun h => (hbb.block _ (Array.getElem?_eq_some_iff.1 (hC.2.1 h)).1).trans (hC.2.1 h), fun h => (hC.2.2 h).kept (fun k _ hk => hbb.block k hk)⟩, ⟨_, rfl, heap_alloc_new _ _⟩, fun j v t _ _ h => wRi_below hbb j v t h⟩
        · have h1 : fx 1 = Value.slice A n c := hd.1 rfl
          have H7 := Lib.hid (hd.2.1 rfl)
          obtain ⟨q, h7, hq7⟩ := hd.2.1 rfl
          have hN10 : L 10 = false := by cases h10 : L 10 with | false => rfl | true => (have h8 := hcl 10 8 h10 (by kernel_rfl); rw [hi] at h8; cases h8)
          have HOv := Lib.hid (hC.2.2 hi)
          have HQ7 := Lib.hid hq7
          have HRB := Lib.hid (hC.2.1 hN10)
          have HS8 : Hid (w.heap.size + 1 ≤ w'.heap.size) := Lib.hid (Array.getElem?_eq_some_iff.1 HRB.out).1
          refine wpList_append_val rfl (.tmp 15) (.tmp 21) rfl (w.heap.size + 1) (.slice A n c) (zs.take j) z h1 HOv q h7 HQ7 HLN.out HS8.out ?_
          intro v2 w2 HO2 HB2
          rw [HNX.out] at HO2
          clear hd
          go_wp2_with fail
          refine ⟨v2, by show _ = Act.mk #[Value.slice (some { block := g, off := 0 }) m gc, undef, Value.slice none 0 0, Value.pointer (some { block := w.heap.size, off := 0 }), Value.int IntKind.i64 ↑j, undef, undef, Value.agg #[Value.int IntKind.i64 3, Value.int IntKind.i64 0, Value.string { data := #[] }, Value.slice none 0 0], Value.int IntKind.i64 ↑j, Value.slice (some { block := g, off := 0 }) m gc, Value.int IntKind.i64 ↑m, Value.bool true, u12, u13, fx 0, fx 1, fx 2, fx 3, fx 4, fx 5, fx 6, fx 7, v2, fx 9, undef, undef, undef, undef, undef, undef] []; rw [h1, h7] <;> rfl, ⟨hC.1.trans (HB2.out.mono (Nat.le_succ _)), fun h => (HB2.out.block _ (Nat.lt_succ_self _)).trans HRB.out, fun h => (updB_self h).elim⟩, HO2.out, fun j' v t hj hu h => ?_⟩
          refine wRi_pure j' v t ?_ ?_ ?_ h <;> intro e <;> subst e
          · refine absurd hu (not_needed (E := fun i => Nat.beq i 10) (j := 7) [8] (by kernel_rfl) (by kernel_rfl) ?_)
            intro m hm hne; simp at hm; omega
          · rw [hi] at hj; cases hj
          · rw [hN10] at hj; cases hj
        · go_wp2_with fail
          exact ⟨_, rfl, ⟨hC.1, fun h => hC.2.1 h, fun h => hC.2.2 h⟩, rfl, fun _ _ _ _ _ h => h⟩
        · have h9 : fx 9 = Value.pointer (some ⟨w.heap.size, 3, none⟩) := hd.1 rfl
          have H8 := Lib.hid (hd.2.1 rfl)
          have HO8 := Lib.hid (hd.2.1 rfl)
          have HRB := Lib.hid (hC.2.1 hi)
          obtain ⟨A', n', c', h8⟩ := ownV_form HO8.out
          obtain ⟨k3', f3'⟩ := row3 HRB.out
          go_wp2_with fail
          refine ⟨undef, by show _ = Act.mk #[Value.slice (some { block := g, off := 0 }) m gc, undef, Value.slice none 0 0, Value.pointer (some { block := w.heap.size, off := 0 }), Value.int IntKind.i64 ↑j, undef, undef, Value.agg #[Value.int IntKind.i64 3, Value.int IntKind.i64 0, Value.string { data := #[] }, Value.slice none 0 0], Value.int IntKind.i64 ↑j, Value.slice (some { block := g, off := 0 }) m gc, Value.int IntKind.i64 ↑m, Value.bool true, u12, u13, fx 0, fx 1, fx 2, fx 3, fx 4, fx 5, fx 6, fx 7, fx 8, fx 9, undef, undef, undef, undef, undef, undef] []; rw [h9, h8] <;> rfl, ⟨hC.1.setCell (p := ⟨w.heap.size, 3, none⟩) (Nat.le_refl _) _, fun h => (updB_self h).elim, fun h => by have h8' := hdn 8 (by kernel_rfl); have h : L 8 = false := h; rw [h] at h8'; cases h8'⟩, ⟨HO8.out.kept (fun k hk hk2 => Below.heap_setCell w' ⟨w.heap.size, 3, none⟩ _ k (by intro e; simp at e; omega)), ?_⟩, fun j' v t hj hu h => ?_⟩
          · show _ = some (Obj.cells #[_, _, _, fx 8] _ _); rw [h8]; exact set3 HRB.out
          · refine wRi_pure j' v t ?_ ?_ ?_ h <;> intro e <;> subst e
            · refine absurd hu (not_needed (E := fun i => Nat.beq i 10) (j := 7) [8] (by kernel_rfl) (by kernel_rfl) ?_)
              intro m hm hne; simp at hm; subst hm; exact hdn 8 (by kernel_rfl)
            · refine absurd hu (not_needed (E := fun i => Nat.beq i 10) (j := 8) [10] (by kernel_rfl) (by kernel_rfl) ?_)
              intro m hm hne; simp at hm; omega
            · rw [hi] at hj; cases hj
      · intro L fo w' hC hS
        have H10 := Lib.hid (hS 10 (by decide) rfl)
        have HBE := Lib.hid hC.1
        clear hS hC
        go_wp2_with fail
        go_roundw
        case rel => exact ⟨j + 1, by omega, by go_num, _, Lib.hid H10.out.2, Lib.hid H10.out.1, HBE⟩
        case measure => simp [intOf]; omega
    · have d1 : decide ((j : Int) < (m : Int)) = false := decide_eq_false (by omega)
      have HOm : Hid (OwnV wr (w.heap.size + 1) vl zs) := Lib.hid (by have := HO.out; rwa [List.take_of_length_le (by rw [HM.out]; omega)] at this)
      obtain ⟨Av, cv, rfl, hvr⟩ := HOm.out.slice
      have HVR := Lib.hid hvr
      have c0 : wr.cell? ⟨w.heap.size, 0, none⟩ = some (.int .i64 3) := by rw [cell_of_row _ _ _ _ _ _ HV.out]; rfl
      have c1 : wr.cell? ⟨w.heap.size, 1, none⟩ = some (.int .i64 0) := by rw [cell_of_row _ _ _ _ _ _ HV.out]; rfl
      have c2 : wr.cell? ⟨w.heap.size, 2, none⟩ = some (.string ⟨#[]⟩) := by rw [cell_of_row _ _ _ _ _ _ HV.out]; rfl
      have c3 : wr.cell? ⟨w.heap.size, 3, none⟩ = some (.slice Av zs.length cv) := by rw [cell_of_row _ _ _ _ _ _ HV.out]; rfl
      clear hvr
      go_wp2_with fail
      refine (rEncode_list zs Av cv _ hz (by rw [HM.out]; omega) HVR).mono ?_
      rintro e w2 ⟨v2, rfl, ho2, hb2⟩
      have HO2 := Lib.hid ho2
      have HB2 := Lib.hid (HB.out.trans (hb2.mono HB.out.size))
      have HBS := Lib.hid HB.out.size
      clear ho2 hb2 c0 c1 c2 c3
      go_wp2_with fail
      go_ret
      exact ⟨_, rfl, ⟨HO2.out.1, HO2.out.2.imp id (fun ⟨g, cap, cur, e, hb, r⟩ => ⟨g, cap, cur, e, Nat.le_trans HBS.out hb, r⟩)⟩, HB2.out⟩
end Go.Proofs.YtgcmbiegbclhmaaDoor
namespace Go.Proofs.YtgcmbiegbclhmaaDoor
open Go.RowKit SzSha SzTree
set_option linter.unusedVariables false
set_option maxRecDepth 100000
theorem own_empty2 (w : World) (base : Nat) (hb : base ≤ w.heap.size) : OwnB (w.alloc (.cells #[] 5)) base (.slice (some ⟨w.heap.size, 0, none⟩) 0 0) [] := OwnB.empty w base hb
theorem two_cells {w : World} {g t : Nat} {a b : Int} (h : w.heap[g]? = some (.cells #[.int .i64 a, .int .i64 b] t (0, 0))) (i : Nat) (hi : i < 2) : w.cell? ⟨g, i, none⟩ = some (.int .i64 (([a, b] : List Int).getD i 0)) := by
  have : i = 0 ∨ i = 1 := by omega
  rcases this with rfl | rfl <;> (rw [cell_of_row _ _ _ _ _ _ h]; rfl)
theorem bytes_app {l m : List Nat} (hl : Bytes l) (hm : Bytes m) : Bytes (l ++ m) := fun x hx => by
  rcases List.mem_append.1 hx with h | h
  · exact hl x h
  · exact hm x h
set_option maxHeartbeats 4000000 in
theorem rsalt_any (l : List Nat) (k z : Int) (w : World) (hl : Hid (l.length = 32)) (hb : Hid (Bytes l)) (hk1 : -9223372036854775808 ≤ k) (hk2 : k ≤ 9223372036854775807) (hz1 : -9223372036854775808 ≤ z) (hz2 : z ≤ 9223372036854775807) :
    Calls Tryd.prog 28 #[dgV l, .int .i64 k, .int .i64 z] w fun e w' => e = .returned (dgV (saltN l k z)) ∧ Below w.heap.size w w' := by
  have HZS : Hid (∀ y ∈ ([k, z] : List Int), -9223372036854775808 ≤ y ∧ y ≤ 9223372036854775807) := Lib.hid (fun y hy => by
    simp only [List.mem_cons, List.not_mem_nil, or_false] at hy
    rcases hy with rfl | rfl <;> omega)
  clear hk1 hk2 hz1 hz2
  obtain ⟨X, HX⟩ : ∃ X, Hid ((l.map fun x => Value.int .u8 (x : Nat)).toArray = X) := ⟨_, Lib.hid rfl⟩
  have e0 : dgV l = .agg X := by unfold dgV; rw [HX.out]
  rw [e0]
  clear e0
  obtain ⟨t1, t2, t3, t4, t5⟩ := two_rows2 w X #[.int .u8 0, .int .u8 0, .int .u8 0, .int .u8 0, .int .u8 0, .int .u8 0, .int .u8 0, .int .u8 0, .int .u8 0, .int .u8 0, .int .u8 0, .int .u8 0, .int .u8 0, .int .u8 0, .int .u8 0, .int .u8 0, .int .u8 0, .int .u8 0, .int .u8 0, .int .u8 0, .int .u8 0, .int .u8 0, .int .u8 0, .int .u8 0, .int .u8 0, .int .u8 0, .int .u8 0, .int .u8 0, .int .u8 0, .int .u8 0, .int .u8 0, .int .u8 0] 24 (.cells #[] 5)
  obtain ⟨W3, HW3⟩ : ∃ W3, Hid (((w.alloc (.cells X 24)).alloc (.cells #[.int .u8 0, .int .u8 0, .int .u8 0, .int .u8 0, .int .u8 0, .int .u8 0, .int .u8 0, .int .u8 0, .int .u8 0, .int .u8 0, .int .u8 0, .int .u8 0, .int .u8 0, .int .u8 0, .int .u8 0, .int .u8 0, .int .u8 0, .int .u8 0, .int .u8 0, .int .u8 0, .int .u8 0, .int .u8 0, .int .u8 0, .int .u8 0, .int .u8 0, .int .u8 0, .int .u8 0, .int .u8 0, .int .u8 0, .int .u8 0, .int .u8 0, .int .u8 0] 24)).alloc (.cells #[] 5) = W3) := ⟨_, Lib.hid rfl⟩
  have HO0 : Hid (OwnB (((w.alloc (.cells X 24)).alloc (.cells #[.int .u8 0, .int .u8 0, .int .u8 0, .int .u8 0, .int .u8 0, .int .u8 0, .int .u8 0, .int .u8 0, .int .u8 0, .int .u8 0, .int .u8 0, .int .u8 0, .int .u8 0, .int .u8 0, .int .u8 0, .int .u8 0, .int .u8 0, .int .u8 0, .int .u8 0, .int .u8 0, .int .u8 0, .int .u8 0, .int .u8 0, .int .u8 0, .int .u8 0, .int .u8 0, .int .u8 0, .int .u8 0, .int .u8 0, .int .u8 0, .int .u8 0, .int .u8 0] 24)).alloc (.cells #[] 5)) (w.heap.size + 1 + 1) (.slice (some ⟨w.heap.size + 1 + 1, 0, none⟩) 0 0) []) := Lib.hid (by have := OwnB.empty ((w.alloc (.cells X 24)).alloc (.cells #[.int .u8 0, .int .u8 0, .int .u8 0, .int .u8 0, .int .u8 0, .int .u8 0, .int .u8 0, .int .u8 0, .int .u8 0, .int .u8 0, .int .u8 0, .int .u8 0, .int .u8 0, .int .u8 0, .int .u8 0, .int .u8 0, .int .u8 0, .int .u8 0, .int .u8 0, .int .u8 0, .int .u8 0, .int .u8 0, .int .u8 0, .int .u8 0, .int .u8 0, .int .u8 0, .int .u8 0, .int .u8 0, .int .u8 0, .int .u8 0, .int .u8 0, .int .u8 0] 24)) (w.heap.size + 1 + 1) (by simp); simpa only [World.size_alloc] using this)
  have HRD : Hid (Rd (((w.alloc (.cells X 24)).alloc (.cells #[.int .u8 0, .int .u8 0, .int .u8 0, .int .u8 0, .int .u8 0, .int .u8 0, .int .u8 0, .int .u8 0, .int .u8 0, .int .u8 0, .int .u8 0, .int .u8 0, .int .u8 0, .int .u8 0, .int .u8 0, .int .u8 0, .int .u8 0, .int .u8 0, .int .u8 0, .int .u8 0, .int .u8 0, .int .u8 0, .int .u8 0, .int .u8 0, .int .u8 0, .int .u8 0, .int .u8 0, .int .u8 0, .int .u8 0, .int .u8 0, .int .u8 0, .int .u8 0] 24)).alloc (.cells #[] 5)) (((w.alloc (.cells X 24)).alloc (.cells #[.int .u8 0, .int .u8 0, .int .u8 0, .int .u8 0, .int .u8 0, .int .u8 0, .int .u8 0, .int .u8 0, .int .u8 0, .int .u8 0, .int .u8 0, .int .u8 0, .int .u8 0, .int .u8 0, .int .u8 0, .int .u8 0, .int .u8 0, .int .u8 0, .int .u8 0, .int .u8 0, .int .u8 0, .int .u8 0, .int .u8 0, .int .u8 0, .int .u8 0, .int .u8 0, .int .u8 0, .int .u8 0, .int .u8 0, .int .u8 0, .int .u8 0, .int .u8 0] 24)).alloc (.cells #[] 5)).heap.size (some ⟨w.heap.size, 0, none⟩) l) := Lib.hid (fun _ => ⟨_, 0, rfl, by rw [t5]; omega, bytesAt_arr (by rw [HX.out]; exact t2)⟩)
  rw [HW3.out] at t1 t2 t3 t4 t5 HO0 HRD
  have T1 := Lib.hid t1
  have T3 := Lib.hid t3
  have T5 := Lib.hid t5
  have HSZ : Hid (w.heap.size + 1 + 1 ≤ W3.heap.size) := Lib.hid (by rw [t5]; omega)
  have HL0 : Hid (([] : List Nat).length + 32 ≤ 1099511627776) := Lib.hid (by simp)
  clear t1 t2 t3 t4 t5
  go_enter Tryd.func28, Tryd.ntmps28
  go_wp2_with (at_builtin; rw [HW3.out]; refine wpList_append_bytes rfl (.tmp 8) (.tmp 9) rfl (w.heap.size + 1 + 1) _ [] l rfl HO0 (some ⟨w.heap.size, 0, none⟩) 32 32 rfl hl (fun h => by cases h) HRD HL0.out HSZ.out ?_; intro v1 W4 HO4 HB4)
  have hq := heap_alloc_new W4 (.cells #[.int .i64 k, .int .i64 z] 3)
  have hba := (Below.refl _ W4).alloc (Nat.le_refl _) (.cells #[.int .i64 k, .int .i64 z] 3)
  have HB5 := Lib.hid (HB4.out.trans (hba.mono (by have := HB4.out.size; have := HSZ.out; omega)))
  have HO5 := Lib.hid (HO4.out.below hba)
  have HCS : Hid (∀ i, i < 2 → (W4.alloc (.cells #[.int .i64 k, .int .i64 z] 3)).cell? ⟨W4.heap.size, i, none⟩ = some (.int .i64 (([k, z] : List Int).getD i 0))) := Lib.hid (fun i hi => two_cells hq i hi)
  clear hq hba
  refine (rints_any [k, z] W4.heap.size 2 2 _ HZS rfl (by omega) HCS (by simp)).mono ?_
  rintro e W6 ⟨v6, rfl, ho6, hq6⟩
  obtain ⟨A6, n6, c6, rfl, hn6, hc6, hA6, HR6⟩ := ho6.slice
  have HB6 := Lib.hid (HB5.out.trans (hq6.mono (by have := HB5.out.size; have := HSZ.out; omega)))
  have HO6 := Lib.hid (HO5.out.below hq6)
  have HEL : Hid (n6 ≤ 100) := Lib.hid (by rw [← hn6.out]; have := encI_length [k, z]; simp only [List.length_cons, List.length_nil] at this; omega)
  have HL6 : Hid (([] ++ l).length + n6 ≤ 1099511627776) := Lib.hid (by rw [List.nil_append, hl.out]; have := HEL.out; omega)
  have HS6 := Lib.hid (Nat.le_trans HSZ.out HB6.out.size)
  clear ho6 hq6
  go_wp2_with (at_builtin; refine wpList_append_bytes rfl (.tmp 11) (.tmp 15) rfl (w.heap.size + 1 + 1) _ ([] ++ l) (encI [k, z]) rfl HO6 A6 n6 c6 rfl hn6 hA6.out HR6 HL6.out HS6.out ?_; intro v7 W7 HO7 HB7)
  obtain ⟨A7, n7, c7, rfl, hn7, hc7, hA7, HR7⟩ := HO7.out.slice
  have HB8 := Lib.hid (HB6.out.trans HB7.out)
  have HB9 := Lib.hid (T1.out.trans (HB8.out.mono (by omega)))
  have HR9 := Lib.hid ((HB8.out.block (w.heap.size + 1) (by omega)).trans T3.out)
  refine (rtagged_any saltTag A7 n7 c7 _ _ (by decide) hn7 hc7 hA7.out (by rw [← hn7.out]; have := HL6.out; have := HEL.out; simp only [List.length_append, List.nil_append, hl.out, hn6.out]; omega) (Lib.hid (bytes_app (bytes_app (fun x hx => by cases hx) hb.out) (encI_bytes _))) HR7).mono ?_
  rintro e w2 ⟨rfl, hq⟩
  have HE : Hid (dgV (tagged (strL saltTag) ([] ++ l ++ encI [k, z])) = dgV (saltN l k z)) := Lib.hid (by rw [← salt_d, List.nil_append]; rfl)
  rw [HE.out]
  have HB2 := Lib.hid (HB9.out.trans (hq.mono HB9.out.size))
  have HR2 := Lib.hid ((hq.block (w.heap.size + 1) (Array.getElem?_eq_some_iff.1 HR9.out).1).trans HR9.out)
  obtain ⟨Y, HY⟩ : ∃ Y, Hid (((saltN l k z).map fun x => Value.int .u8 (x : Nat)).toArray = Y) := ⟨_, Lib.hid rfl⟩
  have HEX : Hid (dgV (saltN l k z) = .agg Y) := Lib.hid (by unfold dgV; rw [HY.out])
  have hYs : Hid (32 = Y.size) := Lib.hid (by rw [← HY.out]; simp [saltN_length])
  have hsz : Hid ((Tryd.prog.info? 24).map (·.size) = some Y.size) := Lib.hid (by rw [← HY.out]; exact size32 _ (saltN_length _ _ _))
  have hone : Hid (Y.all (·.oneCell') = true) := Lib.hid (by rw [← HY.out]; exact oneCells _)
  rw [HEX.out]
  clear hq
  go_wp2_with (refine wpList_store_row rfl 24 (.tmp 6) (.tmp 17) rfl (w.heap.size + 1) Y rfl rfl 24 _ HR2.out hsz.out hYs.out hone.out ?_)
  refine bodyPost_ret (results_cell_row rfl _ _ (w.heap.size + 1) 24 _ (0, 0) _ rfl (setRow_heap w2 (w.heap.size + 1) _ _ _ _ HR2.out) Tryd.underlying24 rfl hsz.out) rfl ?_
  exact ⟨by rw [HEX.out], below_setRow HB2.out (Nat.le_succ _) _⟩
end Go.Proofs.YtgcmbiegbclhmaaDoor
namespace Go.Proofs.YtgcmbiegbclhmaaDoor
open Go.RowKit SzSha SzTree
set_option linter.unusedVariables false
set_option maxRecDepth 100000
set_option maxHeartbeats 4000000 in
theorem rvalid_any (x : Nd) (w : World) (hx : NdOk x) : Calls Tryd.prog 36 #[ndV x] w fun e w' => e = .returned (.bool (vN x)) ∧ Below w.heap.size w w' := by
  have HB := Lib.hid ((Below.refl _ w).alloc (Nat.le_refl _) (.cells (ndC x).toArray 26))
  have HR := Lib.hid (heap_alloc_new w (.cells (ndC x).toArray 26))
  have hc := cell_c hx HR.out
  have hp := cell_p hx HR.out
  have hcb := hx.c
  rw [show ndV x = .agg (ndC x).toArray from rfl]
  go_enter Tryd.func36, Tryd.ntmps36
  by_cases b1 : 0 ≤ x.c
  · have d1 : decide (0 ≤ x.c) = true := decide_eq_true b1
    by_cases b2 : x.c ≤ 1073741824
    · have d2 : decide (x.c ≤ 1073741824) = true := decide_eq_true b2
      by_cases b3 : 0 ≤ x.p
      · have d3 : decide (0 ≤ x.p) = true := decide_eq_true b3
        have hw : IntKind.i64.wrap (12 * x.c) = 12 * x.c := IntWalk.i64_in _ (by omega)
        have HE : Hid (vN x = decide (x.p ≤ 12 * x.c)) := Lib.hid (by unfold vN; rw [d1, d2, d3]; rfl)
        go_wp2_with fail
        go_ret
        exact ⟨by rw [HE.out]; rfl, HB.out⟩
      · have d3 : decide (0 ≤ x.p) = false := decide_eq_false b3
        have HE : Hid (vN x = false) := Lib.hid (by unfold vN; rw [d1, d2, d3]; rfl)
        go_wp2_with fail
        go_ret
        exact ⟨by rw [HE.out]; rfl, HB.out⟩
    · have d2 : decide (x.c ≤ 1073741824) = false := decide_eq_false b2
      have HE : Hid (vN x = false) := Lib.hid (by unfold vN; rw [d1, d2]; rfl)
      go_wp2_with fail
      go_ret
      exact ⟨by rw [HE.out]; rfl, HB.out⟩
  · have d1 : decide (0 ≤ x.c) = false := decide_eq_false b1
    have HE : Hid (vN x = false) := Lib.hid (by unfold vN; rw [d1]; rfl)
    go_wp2_with fail
    go_ret
    exact ⟨by rw [HE.out]; rfl, HB.out⟩
set_option maxHeartbeats 4000000 in
theorem rline_0 (c0 c1 c2 c3 c4 : Int) (w : World) (d0 : decide (0 ≤ c0) = false) : Calls Tryd.prog 48 #[.agg #[.int .i64 c0, .int .i64 c1, .int .i64 c2, .int .i64 c3, .int .i64 c4]] w fun e w' => e = .returned (.bool false) ∧ Below w.heap.size w w' := by
  have HB := Lib.hid ((Below.refl _ w).alloc (Nat.le_refl _) (.cells #[.int .i64 c0, .int .i64 c1, .int .i64 c2, .int .i64 c3, .int .i64 c4] 49))
  go_enter Tryd.func48, Tryd.ntmps48
  go_wp2_with fail
  go_ret
  exact ⟨rfl, HB.out⟩
set_option maxHeartbeats 4000000 in
theorem rline_1 (c0 c1 c2 c3 c4 : Int) (w : World) (d0 : decide (0 ≤ c0) = true) (d1 : decide (c0 < 4096) = false) : Calls Tryd.prog 48 #[.agg #[.int .i64 c0, .int .i64 c1, .int .i64 c2, .int .i64 c3, .int .i64 c4]] w fun e w' => e = .returned (.bool false) ∧ Below w.heap.size w w' := by
  have HB := Lib.hid ((Below.refl _ w).alloc (Nat.le_refl _) (.cells #[.int .i64 c0, .int .i64 c1, .int .i64 c2, .int .i64 c3, .int .i64 c4] 49))
  go_enter Tryd.func48, Tryd.ntmps48
  go_wp2_with fail
  go_ret
  exact ⟨rfl, HB.out⟩
set_option maxHeartbeats 4000000 in
theorem rline_2 (c0 c1 c2 c3 c4 : Int) (w : World) (d0 : decide (0 ≤ c0) = true) (d1 : decide (c0 < 4096) = true) (d2 : decide (0 ≤ c1) = false) : Calls Tryd.prog 48 #[.agg #[.int .i64 c0, .int .i64 c1, .int .i64 c2, .int .i64 c3, .int .i64 c4]] w fun e w' => e = .returned (.bool false) ∧ Below w.heap.size w w' := by
  have HB := Lib.hid ((Below.refl _ w).alloc (Nat.le_refl _) (.cells #[.int .i64 c0, .int .i64 c1, .int .i64 c2, .int .i64 c3, .int .i64 c4] 49))
  go_enter Tryd.func48, Tryd.ntmps48
  go_wp2_with fail
  go_ret
  exact ⟨rfl, HB.out⟩
set_option maxHeartbeats 4000000 in
theorem rline_3 (c0 c1 c2 c3 c4 : Int) (w : World) (d0 : decide (0 ≤ c0) = true) (d1 : decide (c0 < 4096) = true) (d2 : decide (0 ≤ c1) = true) (d3 : decide (c1 < 1024) = false) : Calls Tryd.prog 48 #[.agg #[.int .i64 c0, .int .i64 c1, .int .i64 c2, .int .i64 c3, .int .i64 c4]] w fun e w' => e = .returned (.bool false) ∧ Below w.heap.size w w' := by
  have HB := Lib.hid ((Below.refl _ w).alloc (Nat.le_refl _) (.cells #[.int .i64 c0, .int .i64 c1, .int .i64 c2, .int .i64 c3, .int .i64 c4] 49))
  go_enter Tryd.func48, Tryd.ntmps48
  go_wp2_with fail
  go_ret
  exact ⟨rfl, HB.out⟩
set_option maxHeartbeats 4000000 in
theorem rline_4 (c0 c1 c2 c3 c4 : Int) (w : World) (d0 : decide (0 ≤ c0) = true) (d1 : decide (c0 < 4096) = true) (d2 : decide (0 ≤ c1) = true) (d3 : decide (c1 < 1024) = true) (d4 : decide (0 ≤ c2) = false) : Calls Tryd.prog 48 #[.agg #[.int .i64 c0, .int .i64 c1, .int .i64 c2, .int .i64 c3, .int .i64 c4]] w fun e w' => e = .returned (.bool false) ∧ Below w.heap.size w w' := by
  have HB := Lib.hid ((Below.refl _ w).alloc (Nat.le_refl _) (.cells #[.int .i64 c0, .int .i64 c1, .int .i64 c2, .int .i64 c3, .int .i64 c4] 49))
  go_enter Tryd.func48, Tryd.ntmps48
  go_wp2_with fail
  go_ret
  exact ⟨rfl, HB.out⟩
set_option maxHeartbeats 4000000 in
theorem rline_5 (c0 c1 c2 c3 c4 : Int) (w : World) (d0 : decide (0 ≤ c0) = true) (d1 : decide (c0 < 4096) = true) (d2 : decide (0 ≤ c1) = true) (d3 : decide (c1 < 1024) = true) (d4 : decide (0 ≤ c2) = true) (d5 : decide (c2 ≤ 12) = false) : Calls Tryd.prog 48 #[.agg #[.int .i64 c0, .int .i64 c1, .int .i64 c2, .int .i64 c3, .int .i64 c4]] w fun e w' => e = .returned (.bool false) ∧ Below w.heap.size w w' := by
  have HB := Lib.hid ((Below.refl _ w).alloc (Nat.le_refl _) (.cells #[.int .i64 c0, .int .i64 c1, .int .i64 c2, .int .i64 c3, .int .i64 c4] 49))
  go_enter Tryd.func48, Tryd.ntmps48
  go_wp2_with fail
  go_ret
  exact ⟨rfl, HB.out⟩
set_option maxHeartbeats 4000000 in
theorem rline_6 (c0 c1 c2 c3 c4 : Int) (w : World) (d0 : decide (0 ≤ c0) = true) (d1 : decide (c0 < 4096) = true) (d2 : decide (0 ≤ c1) = true) (d3 : decide (c1 < 1024) = true) (d4 : decide (0 ≤ c2) = true) (d5 : decide (c2 ≤ 12) = true) (d6 : decide (0 ≤ c3) = false) : Calls Tryd.prog 48 #[.agg #[.int .i64 c0, .int .i64 c1, .int .i64 c2, .int .i64 c3, .int .i64 c4]] w fun e w' => e = .returned (.bool false) ∧ Below w.heap.size w w' := by
  have HB := Lib.hid ((Below.refl _ w).alloc (Nat.le_refl _) (.cells #[.int .i64 c0, .int .i64 c1, .int .i64 c2, .int .i64 c3, .int .i64 c4] 49))
  go_enter Tryd.func48, Tryd.ntmps48
  go_wp2_with fail
  go_ret
  exact ⟨rfl, HB.out⟩
set_option maxHeartbeats 4000000 in
theorem rline_7 (c0 c1 c2 c3 c4 : Int) (w : World) (d0 : decide (0 ≤ c0) = true) (d1 : decide (c0 < 4096) = true) (d2 : decide (0 ≤ c1) = true) (d3 : decide (c1 < 1024) = true) (d4 : decide (0 ≤ c2) = true) (d5 : decide (c2 ≤ 12) = true) (d6 : decide (0 ≤ c3) = true) (d7 : decide (c3 ≤ 60) = false) : Calls Tryd.prog 48 #[.agg #[.int .i64 c0, .int .i64 c1, .int .i64 c2, .int .i64 c3, .int .i64 c4]] w fun e w' => e = .returned (.bool false) ∧ Below w.heap.size w w' := by
  have HB := Lib.hid ((Below.refl _ w).alloc (Nat.le_refl _) (.cells #[.int .i64 c0, .int .i64 c1, .int .i64 c2, .int .i64 c3, .int .i64 c4] 49))
  go_enter Tryd.func48, Tryd.ntmps48
  go_wp2_with fail
  go_ret
  exact ⟨rfl, HB.out⟩
set_option maxHeartbeats 4000000 in
theorem rline_8 (c0 c1 c2 c3 c4 : Int) (w : World) (d0 : decide (0 ≤ c0) = true) (d1 : decide (c0 < 4096) = true) (d2 : decide (0 ≤ c1) = true) (d3 : decide (c1 < 1024) = true) (d4 : decide (0 ≤ c2) = true) (d5 : decide (c2 ≤ 12) = true) (d6 : decide (0 ≤ c3) = true) (d7 : decide (c3 ≤ 60) = true) (d8 : decide (0 ≤ c4) = false) : Calls Tryd.prog 48 #[.agg #[.int .i64 c0, .int .i64 c1, .int .i64 c2, .int .i64 c3, .int .i64 c4]] w fun e w' => e = .returned (.bool false) ∧ Below w.heap.size w w' := by
  have HB := Lib.hid ((Below.refl _ w).alloc (Nat.le_refl _) (.cells #[.int .i64 c0, .int .i64 c1, .int .i64 c2, .int .i64 c3, .int .i64 c4] 49))
  go_enter Tryd.func48, Tryd.ntmps48
  go_wp2_with fail
  go_ret
  exact ⟨rfl, HB.out⟩
set_option maxHeartbeats 4000000 in
theorem rline_9 (c0 c1 c2 c3 c4 : Int) (w : World) (d0 : decide (0 ≤ c0) = true) (d1 : decide (c0 < 4096) = true) (d2 : decide (0 ≤ c1) = true) (d3 : decide (c1 < 1024) = true) (d4 : decide (0 ≤ c2) = true) (d5 : decide (c2 ≤ 12) = true) (d6 : decide (0 ≤ c3) = true) (d7 : decide (c3 ≤ 60) = true) (d8 : decide (0 ≤ c4) = true) (d9 : decide (c4 < 7) = false) : Calls Tryd.prog 48 #[.agg #[.int .i64 c0, .int .i64 c1, .int .i64 c2, .int .i64 c3, .int .i64 c4]] w fun e w' => e = .returned (.bool false) ∧ Below w.heap.size w w' := by
  have HB := Lib.hid ((Below.refl _ w).alloc (Nat.le_refl _) (.cells #[.int .i64 c0, .int .i64 c1, .int .i64 c2, .int .i64 c3, .int .i64 c4] 49))
  go_enter Tryd.func48, Tryd.ntmps48
  go_wp2_with fail
  go_ret
  exact ⟨rfl, HB.out⟩
set_option maxHeartbeats 4000000 in
theorem rline_10 (c0 c1 c2 c3 c4 : Int) (w : World) (d0 : decide (0 ≤ c0) = true) (d1 : decide (c0 < 4096) = true) (d2 : decide (0 ≤ c1) = true) (d3 : decide (c1 < 1024) = true) (d4 : decide (0 ≤ c2) = true) (d5 : decide (c2 ≤ 12) = true) (d6 : decide (0 ≤ c3) = true) (d7 : decide (c3 ≤ 60) = true) (d8 : decide (0 ≤ c4) = true) (d9 : decide (c4 < 7) = true) : Calls Tryd.prog 48 #[.agg #[.int .i64 c0, .int .i64 c1, .int .i64 c2, .int .i64 c3, .int .i64 c4]] w fun e w' => e = .returned (.bool true) ∧ Below w.heap.size w w' := by
  have HB := Lib.hid ((Below.refl _ w).alloc (Nat.le_refl _) (.cells #[.int .i64 c0, .int .i64 c1, .int .i64 c2, .int .i64 c3, .int .i64 c4] 49))
  go_enter Tryd.func48, Tryd.ntmps48
  go_wp2_with fail
  go_ret
  exact ⟨rfl, HB.out⟩
theorem rline_any (c0 c1 c2 c3 c4 : Int) (w : World) : Calls Tryd.prog 48 #[.agg #[.int .i64 c0, .int .i64 c1, .int .i64 c2, .int .i64 c3, .int .i64 c4]] w fun e w' => e = .returned (.bool (decide (lOk c0 c1 c2 c3 c4))) ∧ Below w.heap.size w w' := by
  by_cases b0 : 0 ≤ c0
  case neg =>
    rw [decide_eq_false (show ¬ lOk c0 c1 c2 c3 c4 by unfold lOk; omega)]
    exact rline_0 c0 c1 c2 c3 c4 w (decide_eq_false b0)
  by_cases b1 : c0 < 4096
  case neg =>
    rw [decide_eq_false (show ¬ lOk c0 c1 c2 c3 c4 by unfold lOk; omega)]
    exact rline_1 c0 c1 c2 c3 c4 w (decide_eq_true b0) (decide_eq_false b1)
  by_cases b2 : 0 ≤ c1
  case neg =>
    rw [decide_eq_false (show ¬ lOk c0 c1 c2 c3 c4 by unfold lOk; omega)]
    exact rline_2 c0 c1 c2 c3 c4 w (decide_eq_true b0) (decide_eq_true b1) (decide_eq_false b2)
  by_cases b3 : c1 < 1024
  case neg =>
    rw [decide_eq_false (show ¬ lOk c0 c1 c2 c3 c4 by unfold lOk; omega)]
    exact rline_3 c0 c1 c2 c3 c4 w (decide_eq_true b0) (decide_eq_true b1) (decide_eq_true b2) (decide_eq_false b3)
  by_cases b4 : 0 ≤ c2
  case neg =>
    rw [decide_eq_false (show ¬ lOk c0 c1 c2 c3 c4 by unfold lOk; omega)]
    exact rline_4 c0 c1 c2 c3 c4 w (decide_eq_true b0) (decide_eq_true b1) (decide_eq_true b2) (decide_eq_true b3) (decide_eq_false b4)
  by_cases b5 : c2 ≤ 12
  case neg =>
    rw [decide_eq_false (show ¬ lOk c0 c1 c2 c3 c4 by unfold lOk; omega)]
    exact rline_5 c0 c1 c2 c3 c4 w (decide_eq_true b0) (decide_eq_true b1) (decide_eq_true b2) (decide_eq_true b3) (decide_eq_true b4) (decide_eq_false b5)
  by_cases b6 : 0 ≤ c3
  case neg =>
    rw [decide_eq_false (show ¬ lOk c0 c1 c2 c3 c4 by unfold lOk; omega)]
    exact rline_6 c0 c1 c2 c3 c4 w (decide_eq_true b0) (decide_eq_true b1) (decide_eq_true b2) (decide_eq_true b3) (decide_eq_true b4) (decide_eq_true b5) (decide_eq_false b6)
  by_cases b7 : c3 ≤ 60
  case neg =>
    rw [decide_eq_false (show ¬ lOk c0 c1 c2 c3 c4 by unfold lOk; omega)]
    exact rline_7 c0 c1 c2 c3 c4 w (decide_eq_true b0) (decide_eq_true b1) (decide_eq_true b2) (decide_eq_true b3) (decide_eq_true b4) (decide_eq_true b5) (decide_eq_true b6) (decide_eq_false b7)
  by_cases b8 : 0 ≤ c4
  case neg =>
    rw [decide_eq_false (show ¬ lOk c0 c1 c2 c3 c4 by unfold lOk; omega)]
    exact rline_8 c0 c1 c2 c3 c4 w (decide_eq_true b0) (decide_eq_true b1) (decide_eq_true b2) (decide_eq_true b3) (decide_eq_true b4) (decide_eq_true b5) (decide_eq_true b6) (decide_eq_true b7) (decide_eq_false b8)
  by_cases b9 : c4 < 7
  case neg =>
    rw [decide_eq_false (show ¬ lOk c0 c1 c2 c3 c4 by unfold lOk; omega)]
    exact rline_9 c0 c1 c2 c3 c4 w (decide_eq_true b0) (decide_eq_true b1) (decide_eq_true b2) (decide_eq_true b3) (decide_eq_true b4) (decide_eq_true b5) (decide_eq_true b6) (decide_eq_true b7) (decide_eq_true b8) (decide_eq_false b9)
  rw [decide_eq_true (show lOk c0 c1 c2 c3 c4 by unfold lOk; omega)]
  exact rline_10 c0 c1 c2 c3 c4 w (decide_eq_true b0) (decide_eq_true b1) (decide_eq_true b2) (decide_eq_true b3) (decide_eq_true b4) (decide_eq_true b5) (decide_eq_true b6) (decide_eq_true b7) (decide_eq_true b8) (decide_eq_true b9)
set_option maxHeartbeats 2000000 in
theorem rhalf_any (n : Nat) (w : World) (hn : n ≤ 1000000) : Calls Tryd.prog 49 #[.int .i64 (n : Nat)] w fun e w' => e = .returned (.int .i64 (half n : Nat)) ∧ w = w' := by
  go_enter Tryd.func49, Tryd.ntmps49
  go_wp2_with fail
  go_loop [3] (fun v => ∃ k : Nat, v = .int .i64 (k : Nat) ∧ 1 ≤ k ∧ k ≤ 1000000 ∧ Hid (∃ f, halfF f k n = half n ∧ 18446744073709551616 ≤ k * 2 ^ f)) (fun v => n - (intOf v).toNat)
  case atStart => exact ⟨1, rfl, by omega, by omega, Lib.hid ⟨64, rfl, by decide⟩⟩
  case round =>
    obtain ⟨k, rfl, hk1, hk2, HF⟩ := hrel
    by_cases hlt : 2 * k < n
    · have d1 : decide (2 * (k : Int) < (n : Int)) = true := decide_eq_true (by omega)
      have HF2 : Hid (∃ f, halfF f (2 * k) n = half n ∧ 18446744073709551616 ≤ 2 * k * 2 ^ f) := Lib.hid (by
        obtain ⟨f, h1, h2⟩ := HF.out
        obtain ⟨g, h3, h4⟩ := half_step hlt hn h2
        exact ⟨g, by rw [← h3]; exact h1, h4⟩)
      go_wp2_with fail
      go_round
      case rel => exact ⟨2 * k, by go_num, by omega, by omega, HF2⟩
      case measure => simp [intOf]; omega
    · have d1 : decide (2 * (k : Int) < (n : Int)) = false := decide_eq_false (by omega)
      have HE : Hid (half n = k) := Lib.hid (by
        obtain ⟨f, h1, _⟩ := HF.out
        rw [← h1]; exact half_end hlt)
      go_wp2_with fail
      go_ret
      exact ⟨by rw [HE.out]; rfl, rfl⟩
set_option maxHeartbeats 4000000 in
theorem rcheck_any (ls : List Nd) (A : Option Addr) (n c : Nat) (w : World) (hn : n ≤ 9223372036854775807) (h : Hid (InN w A n c ls)) :
    Calls Tryd.prog 33 #[.slice A n c] w fun e w' => e = .returned (.int .i64 (rootE ls)) ∧ Below w.heap.size w w' := by
  have HN := Lib.hid (show ls.length = n from h.out.len)
  by_cases hbig : 4096 < n
  · have d0 : decide ((4096 : Int) < (n : Int)) = true := decide_eq_true (by omega)
    have HE : Hid (rootE ls = 410) := Lib.hid (rootR_no (by rw [HN.out]; omega)).2
    rw [HE.out]
    go_enter Tryd.func33, Tryd.ntmps33
    go_wp2_with fail
    go_ret
    exact ⟨rfl, Below.refl _ _⟩
  have d0 : decide ((4096 : Int) < (n : Int)) = false := decide_eq_false (by omega)
  go_enter Tryd.func33, Tryd.ntmps33
  go_wp2_with fail
  go_loopw [3, 4] (fun s i wr => ∃ j : Nat, j ≤ n ∧ i = .int .i64 j ∧ s = .int .i64 (sumC (ls.take j)) ∧ Hid ((ls.take j).all vN = true) ∧ Hid (Below w.heap.size w wr)) (fun _ i _ => n - (intOf i).toNat)
  case atStart => exact ⟨0, by omega, rfl, rfl, Lib.hid rfl, Lib.hid (Below.refl _ _)⟩
  case round =>
    obtain ⟨j, hj, rfl, rfl, HV, HB⟩ := hrel
    have hsm : 0 ≤ sumC (ls.take j) ∧ sumC (ls.take j) ≤ 1073741824 * (j : Int) := ⟨(sums_bd HV.out).1, by
      have := sumC_le (ls.take j) HV.out
      have h2 : ((ls.take j).length : Int) ≤ (j : Int) := by rw [List.length_take]; omega
      omega⟩
    by_cases hlt : j < n
    · have d1 : decide ((j : Int) < (n : Int)) = true := decide_eq_true (by omega)
      have d11 : decide (j < n) = true := decide_eq_true hlt
      have hjl : j < ls.length := by rw [h.out.len]; exact hlt
      obtain ⟨g, off, rfl, hg, hr⟩ := h.out.rd (by omega)
      obtain ⟨x, HX⟩ : ∃ x, Hid (ls[j] = x) := ⟨_, Lib.hid rfl⟩
      have HOK : Hid (NdOk x) := Lib.hid (by rw [← HX.out]; exact h.out.ok _ (List.getElem_mem _))
      have HR : Hid (wr.rangeAt g (off + j * 34) (ndC x)) := Lib.hid (by rw [← HX.out]; exact rangeAt_below (range_one hr h.out.ok j hjl) hg HB.out)
      have HG : Hid (g < wr.heap.size) := Lib.hid (Nat.lt_of_lt_of_le hg HB.out.size)
      have HNX : Hid (ls.take (j + 1) = ls.take j ++ [x]) := Lib.hid (by rw [List.take_succ_eq_append_getElem hjl, HX.out])
      have HXB := Lib.hid (show (x.c + x.c = x.c + x.c) from rfl)
      clear hr
      go_wp2_with (with_reducible refine wpList_load_mid rfl 26 (.tmp 16) rfl g (off + j * 34) rfl (ndC x) _ HR.out Tryd.underlying26 rfl (size34 HOK.out) ?_)
      rw [show Value.agg (ndC x).toArray = ndV x from rfl]
      refine (rvalid_any x wr HOK.out).mono ?_
      rintro e w2 ⟨rfl, hq⟩
      have HB2 := Lib.hid (HB.out.trans (hq.mono HB.out.size))
      have kc : w2.cell? ⟨g, off + j * 34 + 32, none⟩ = some (.int .i64 x.c) := rangeAt_below HR.out HG.out hq 32 _ (ndC_c HOK.out)
      clear hq
      by_cases hv : vN x = true
      · rw [hv]
        have hxb := vN_bd hv
        have hw2 : IntKind.i64.wrap (sumC (ls.take j) + x.c) = sumC (ls.take j) + x.c := IntWalk.i64_in _ (by omega)
        have HSUM : Hid (sumC (ls.take j) + x.c = sumC (ls.take (j + 1))) := Lib.hid (by rw [HNX.out, sumC_append]; simp [sumC])
        have HALL : Hid ((ls.take (j + 1)).all vN = true) := Lib.hid (by rw [HNX.out, List.all_append, HV.out]; simp [hv])
        clear hv hxb
        go_wp2_with fail
        go_roundw
        case rel => exact ⟨j + 1, by omega, by go_num, by rw [← HSUM.out], HALL, HB2⟩
        case measure => first | (simp [intOf]; done) | (simp [intOf]; omega)
      · have hv' : vN x = false := by simpa using hv
        rw [hv']
        have HE : Hid (rootE ls = 410) := Lib.hid (rootR_no (fun hh => by have := vL_bad hjl (by rw [HX.out]; exact hv'); rw [hh.2] at this; cases this)).2
        clear hv hv'
        go_wp2_with fail
        go_ret
        exact ⟨by rw [HE.out]; rfl, HB2.out⟩
    · have d1 : decide ((j : Int) < (n : Int)) = false := decide_eq_false (by omega)
      have HE : Hid (ls.take j = ls) := Lib.hid (List.take_of_length_le (by rw [h.out.len]; omega))
      have HV2 := Lib.hid HV.out
      rw [HE.out] at HV2 hsm ⊢
      by_cases hs : 1073741824 < sumC ls
      · have d2 : decide (1073741824 < sumC ls) = true := decide_eq_true hs
        have HE2 : Hid (rootE ls = 410) := Lib.hid (rootR_no (fun hh => by have := hh.2; unfold vL at this; simp only [Bool.and_eq_true, decide_eq_true_eq] at this; omega)).2
        go_wp2_with fail
        go_ret
        exact ⟨by rw [HE2.out]; rfl, HB.out⟩
      · have d2 : decide (1073741824 < sumC ls) = false := decide_eq_false hs
        have HE2 : Hid (rootE ls = 0) := Lib.hid (by
          have : ls.length ≤ 4096 ∧ vL ls = true := ⟨by rw [HN.out]; omega, by unfold vL; rw [HV2.out]; simp; omega⟩
          unfold rootE; exact if_pos this)
        go_wp2_with fail
        go_ret
        exact ⟨by rw [HE2.out]; rfl, HB.out⟩
end Go.Proofs.YtgcmbiegbclhmaaDoor
namespace Go.Proofs.YtgcmbiegbclhmaaDoor
open Go.RowKit SzSha SzTree
set_option linter.unusedVariables false
set_option maxRecDepth 100000
def wFr (W0 : World) (ba : Nat) (br : Nat) (A7 : Option Addr) (n7 : Nat) (c7 : Nat) (c0 : Int) (c1 : Int) (c2 : Int) (c3 : Int) (c4 : Int) (l : List Nat) : Nat → Value → World → Prop
  | 0, fv, _ => fv = Value.slice A7 n7 c7
  | 1, fv, _ => fv = dgV (leafN c0 c1 c2 c3 c4 l).d
  | 2, fv, _ => fv = Value.pointer (some ⟨ba, 3, none⟩)
  | 3, fv, _ => fv = Value.int .i64 (c3)
  | 4, fv, _ => fv = Value.pointer (some ⟨ba, 2, none⟩)
  | 5, fv, _ => fv = Value.int .i64 (c2)
  | 6, fv, _ => fv = Value.pointer (some ⟨ba, 3, none⟩)
  | 7, fv, _ => fv = Value.int .i64 (c3)
  | 8, fv, _ => fv = Value.int .i64 (c2 * c3)
  | 9, fv, _ => fv = ndV (leafN c0 c1 c2 c3 c4 l)
  | 10, fv, fw => fw.heap[br]? = some (.cells (ndC (leafN c0 c1 c2 c3 c4 l)).toArray 26 (0, 0)) ∧ Below W0.heap.size W0 fw
  | 11, fv, _ => fv = Value.int .i64 (0)
  | _, _, _ => True
theorem wFr_below {W0 : World} {ba : Nat} {br : Nat} {A7 : Option Addr} {n7 : Nat} {c7 : Nat} {c0 : Int} {c1 : Int} {c2 : Int} {c3 : Int} {c4 : Int} {l : List Nat} {w w' : World} (hb : Below w.heap.size w w') : ∀ j v, wFr W0 ba br A7 n7 c7 c0 c1 c2 c3 c4 l j v w → wFr W0 ba br A7 n7 c7 c0 c1 c2 c3 c4 l j v w'
  | 0, v, h => h
  | 1, v, h => h
  | 2, v, h => h
  | 3, v, h => h
  | 4, v, h => h
  | 5, v, h => h
  | 6, v, h => h
  | 7, v, h => h
  | 8, v, h => h
  | 9, v, h => h
  | 10, v, h => ⟨(hb.block br (Array.getElem?_eq_some_iff.1 h.1).1).trans h.1, h.2.trans (hb.mono h.2.size)⟩
  | 11, v, h => h
  | n + 12, v, h => trivial
theorem wFr_pure {W0 : World} {ba : Nat} {br : Nat} {A7 : Option Addr} {n7 : Nat} {c7 : Nat} {c0 : Int} {c1 : Int} {c2 : Int} {c3 : Int} {c4 : Int} {l : List Nat} {w w' : World} : ∀ j v, j ≠ 10 → wFr W0 ba br A7 n7 c7 c0 c1 c2 c3 c4 l j v w → wFr W0 ba br A7 n7 c7 c0 c1 c2 c3 c4 l j v w'
  | 0, v, _, h => h
  | 1, v, _, h => h
  | 2, v, _, h => h
  | 3, v, _, h => h
  | 4, v, _, h => h
  | 5, v, _, h => h
  | 6, v, _, h => h
  | 7, v, _, h => h
  | 8, v, _, h => h
  | 9, v, _, h => h
  | 10, v, hh, _ => absurd rfl hh
  | 11, v, _, h => h
  | n + 12, v, _, h => trivial
set_option maxHeartbeats 4000000 in
theorem rleaf_no (c0 c1 c2 c3 c4 : Int) (l : List Nat) (w : World) (hv : ¬ lOk c0 c1 c2 c3 c4) :
    Calls Tryd.prog 26 #[.agg #[.int .i64 c0, .int .i64 c1, .int .i64 c2, .int .i64 c3, .int .i64 c4], dgV l] w fun e w' => e = .returned (.tuple #[ndV zeroN, .int .i64 410]) ∧ Below w.heap.size w w' := by
  have HV : Hid (decide (lOk c0 c1 c2 c3 c4) = false) := Lib.hid (decide_eq_false hv)
  clear hv
  obtain ⟨X, HX⟩ : ∃ X, Hid ((l.map fun x => Value.int .u8 (x : Nat)).toArray = X) := ⟨_, Lib.hid rfl⟩
  have e0 : dgV l = .agg X := by unfold dgV; rw [HX.out]
  rw [e0]
  clear e0
  obtain ⟨t1, t2, t3, t4⟩ := three_rows3 w #[.int .i64 c0, .int .i64 c1, .int .i64 c2, .int .i64 c3, .int .i64 c4] X #[.int .u8 0, .int .u8 0, .int .u8 0, .int .u8 0, .int .u8 0, .int .u8 0, .int .u8 0, .int .u8 0, .int .u8 0, .int .u8 0, .int .u8 0, .int .u8 0, .int .u8 0, .int .u8 0, .int .u8 0, .int .u8 0, .int .u8 0, .int .u8 0, .int .u8 0, .int .u8 0, .int .u8 0, .int .u8 0, .int .u8 0, .int .u8 0, .int .u8 0, .int .u8 0, .int .u8 0, .int .u8 0, .int .u8 0, .int .u8 0, .int .u8 0, .int .u8 0, .int .i64 0, .int .i64 0] 49 24 26
  have HB1 := Lib.hid t1
  have HRL := Lib.hid t2
  have HRR := Lib.hid t4
  clear t1 t2 t3 t4
  have HSZ : Hid ((Tryd.prog.info? 26).map (·.size) = some (ndC zeroN).toArray.size) := Lib.hid (by rw [size34 zeroN_ok]; simp)
  go_enter Tryd.func26, Tryd.ntmps26
  go_wp2_with (refine wpList_load_row rfl 49 (.tmp 2) rfl w.heap.size rfl 49 _ (0, 0) _ HRL.out Tryd.underlying49 rfl (by kernel_rfl) ?_)
  refine (rline_any c0 c1 c2 c3 c4 _).mono ?_
  rintro e W1 ⟨rfl, hq⟩
  rw [HV.out]
  have HRR1 := Lib.hid ((hq.block _ (Array.getElem?_eq_some_iff.1 HRR.out).1).trans HRR.out)
  have HB2 := Lib.hid (HB1.out.trans (hq.mono HB1.out.size))
  clear hq
  rw [← zeroN_cells] at HRR1
  go_wp2_with (rw [← zeroN_cells]; refine wpList_store_row rfl 26 (.tmp 4) (.tmp 10) rfl (w.heap.size + 1 + 1) (ndC zeroN).toArray ?ha ?hb 26 (ndC zeroN).toArray HRR1.out HSZ.out rfl (ndC_one zeroN) ?_)
  all_goals first | rfl | skip
  have hr := setRow_heap W1 (w.heap.size + 1 + 1) _ (ndC zeroN).toArray _ _ HRR1.out
  have hl := run_loadVar_row (P := Tryd.prog) (W1.setRow (w.heap.size + 1 + 1) (ndC zeroN).toArray) (w.heap.size + 1 + 1) 26 26 (ndC zeroN).toArray (0, 0) _ hr Tryd.underlying26 rfl HSZ.out
  refine bodyPost_ret (v := .tuple #[ndV zeroN, .int .i64 410]) ?_ rfl ⟨rfl, below_setRow HB2.out (by omega) _⟩
  unfold ndV
  simp [results, Tryd.results26, asAddr, hl]
set_option maxHeartbeats 4000000 in
theorem rleaf_yes (c0 c1 c2 c3 c4 : Int) (l : List Nat) (w : World) (hv : lOk c0 c1 c2 c3 c4) (hl : Hid (l.length = 32)) (hb : Hid (Bytes l)) :
    Calls Tryd.prog 26 #[.agg #[.int .i64 c0, .int .i64 c1, .int .i64 c2, .int .i64 c3, .int .i64 c4], dgV l] w fun e w' => e = .returned (.tuple #[ndV (leafN c0 c1 c2 c3 c4 l), .int .i64 0]) ∧ Below w.heap.size w w' := by
  have HV : Hid (decide (lOk c0 c1 c2 c3 c4) = true) := Lib.hid (decide_eq_true hv)
  unfold lOk at hv
  have hm := mul_leaf (a := c2) (b := c3) (by omega) (by omega) (by omega) (by omega)
  have HJ : Hid (NdOk (leafN c0 c1 c2 c3 c4 l)) := Lib.hid ⟨tagged_length _ _, tagged_bytes _ _, by simp only [leafN]; omega, by simp only [leafN]; omega⟩
  have HW1 : Hid (IntKind.i64.wrap (c2 * c3) = c2 * c3) := Lib.hid (IntWalk.i64_in _ (by omega))
  have HZS : Hid (∀ z ∈ ([c0, c1, c2, c3, c4] : List Int), -9223372036854775808 ≤ z ∧ z ≤ 9223372036854775807) := Lib.hid (fun z hz => by
    simp only [List.mem_cons, List.not_mem_nil, or_false] at hz
    rcases hz with rfl | rfl | rfl | rfl | rfl <;> omega)
  have HS1 : Hid ((Tryd.prog.info? 26).map (·.size) = some (ndC (leafN c0 c1 c2 c3 c4 l)).toArray.size) := Lib.hid (by rw [size34 HJ.out]; simp)
  have HS2 : Hid (34 = (ndC (leafN c0 c1 c2 c3 c4 l)).toArray.size) := Lib.hid (by simp [ndC_length HJ.out])
  clear hv hm
  obtain ⟨X, HX⟩ : ∃ X, Hid ((l.map fun x => Value.int .u8 (x : Nat)).toArray = X) := ⟨_, Lib.hid rfl⟩
  have e0 : dgV l = .agg X := by unfold dgV; rw [HX.out]
  rw [e0]
  clear e0
  obtain ⟨t1, t2, t3, t4⟩ := three_rows3 w #[.int .i64 c0, .int .i64 c1, .int .i64 c2, .int .i64 c3, .int .i64 c4] X #[.int .u8 0, .int .u8 0, .int .u8 0, .int .u8 0, .int .u8 0, .int .u8 0, .int .u8 0, .int .u8 0, .int .u8 0, .int .u8 0, .int .u8 0, .int .u8 0, .int .u8 0, .int .u8 0, .int .u8 0, .int .u8 0, .int .u8 0, .int .u8 0, .int .u8 0, .int .u8 0, .int .u8 0, .int .u8 0, .int .u8 0, .int .u8 0, .int .u8 0, .int .u8 0, .int .u8 0, .int .u8 0, .int .u8 0, .int .u8 0, .int .u8 0, .int .u8 0, .int .i64 0, .int .i64 0] 49 24 26
  have HB1 := Lib.hid t1
  have HRL := Lib.hid t2
  have HRS := Lib.hid t3
  have HRR := Lib.hid t4
  clear t1 t2 t3 t4
  go_enter Tryd.func26, Tryd.ntmps26
  go_wp2_with (refine wpList_load_row rfl 49 (.tmp 2) rfl w.heap.size rfl 49 _ (0, 0) _ HRL.out Tryd.underlying49 rfl (by kernel_rfl) ?_)
  refine (rline_any c0 c1 c2 c3 c4 _).mono ?_
  rintro e W1 ⟨rfl, hq⟩
  rw [HV.out]
  have hrr := (hq.block _ (Array.getElem?_eq_some_iff.1 HRR.out).1).trans HRR.out
  have hrl := (hq.block _ (Array.getElem?_eq_some_iff.1 HRL.out).1).trans HRL.out
  have hrs := (hq.block _ (Array.getElem?_eq_some_iff.1 HRS.out).1).trans HRS.out
  have hsz1 : w.heap.size + 1 + 1 + 1 ≤ W1.heap.size := (Array.getElem?_eq_some_iff.1 hrr).1
  have hbn := (Below.refl _ W1).alloc (Nat.le_refl _) (.cells #[] 5)
  have HSZ : Hid (w.heap.size + 1 + 1 + 1 ≤ (W1.alloc (.cells #[] 5)).heap.size) := Lib.hid (Nat.le_trans hsz1 hbn.size)
  have hb2 := HB1.out.trans (hq.mono HB1.out.size)
  have HBN := Lib.hid (hb2.trans (hbn.mono hb2.size))
  have HRRn := Lib.hid (row_kept hrr hbn)
  have HRLn := Lib.hid (row_kept hrl hbn)
  have HRD : Hid (Rd (W1.alloc (.cells #[] 5)) (W1.alloc (.cells #[] 5)).heap.size (some ⟨w.heap.size + 1, 0, none⟩) l) := Lib.hid (fun _ => ⟨_, 0, rfl, by have := HSZ.out; omega, bytesAt_arr (by rw [HX.out]; exact row_kept hrs hbn)⟩)
  have HO0 := Lib.hid (OwnB.empty W1 (w.heap.size + 1 + 1 + 1) hsz1)
  have HL0 : Hid (([] : List Nat).length + 32 ≤ 1099511627776) := Lib.hid (by simp)
  clear hq hrr hrl hrs hsz1 hbn hb2
  go_wp2_with (at_builtin; refine wpList_append_bytes rfl (.tmp 11) (.tmp 12) rfl (w.heap.size + 1 + 1 + 1) _ [] l rfl HO0 (some ⟨w.heap.size + 1, 0, none⟩) 32 32 rfl hl (fun h => by cases h) HRD HL0.out HSZ.out ?_; intro v1 W4 HO4 HB4; have k0 := five_cells ((HB4.out.block _ (by omega)).trans HRLn.out) 0 (by omega); have k1 := five_cells ((HB4.out.block _ (by omega)).trans HRLn.out) 1 (by omega); have k2 := five_cells ((HB4.out.block _ (by omega)).trans HRLn.out) 2 (by omega); have k3 := five_cells ((HB4.out.block _ (by omega)).trans HRLn.out) 3 (by omega); have k4 := five_cells ((HB4.out.block _ (by omega)).trans HRLn.out) 4 (by omega))
  have HRL4 := Lib.hid ((HB4.out.block _ (by omega)).trans HRLn.out)
  have HRR4 := Lib.hid ((HB4.out.block _ (by omega)).trans HRRn.out)
  have HBT4 := Lib.hid (HBN.out.trans (HB4.out.mono (by omega)))
  have HSZ4 := Lib.hid (Nat.le_trans HSZ.out HB4.out.size)
  clear k0 k1 k2 k3 k4
  have hq := heap_alloc_new W4 (.cells #[.int .i64 c0, .int .i64 c1, .int .i64 c2, .int .i64 c3, .int .i64 c4] 3)
  have hba := (Below.refl _ W4).alloc (Nat.le_refl _) (.cells #[.int .i64 c0, .int .i64 c1, .int .i64 c2, .int .i64 c3, .int .i64 c4] 3)
  have HBT5 := Lib.hid (HBT4.out.trans (hba.mono HBT4.out.size))
  have HSZ5 := Lib.hid (Nat.le_trans HSZ4.out hba.size)
  have HO5 := Lib.hid (HO4.out.below hba)
  have HRL5 := Lib.hid (row_kept HRL4.out hba)
  have HRR5 := Lib.hid (row_kept HRR4.out hba)
  have HCS : Hid (∀ i, i < 5 → (W4.alloc (.cells #[.int .i64 c0, .int .i64 c1, .int .i64 c2, .int .i64 c3, .int .i64 c4] 3)).cell? ⟨W4.heap.size, i, none⟩ = some (.int .i64 (([c0, c1, c2, c3, c4] : List Int).getD i 0))) := Lib.hid (fun i hi => five_cells hq i hi)
  clear hq hba
  refine (rints_any ([c0, c1, c2, c3, c4] : List Int) W4.heap.size 5 5 _ HZS rfl (by omega) HCS (by simp)).mono ?_
  rintro e W6 ⟨v6, rfl, ho6, hq6⟩
  obtain ⟨A6, n6, c6, rfl, hn6, hc6, hA6, HR6⟩ := ho6.slice
  have HBT6 := Lib.hid (HBT5.out.trans (hq6.mono HBT5.out.size))
  have HSZ6 := Lib.hid (Nat.le_trans HSZ5.out hq6.size)
  have HO6 := Lib.hid (HO5.out.below hq6)
  have HRL6 := Lib.hid (row_kept HRL5.out hq6)
  have HRR6 := Lib.hid (row_kept HRR5.out hq6)
  have HEL : Hid (n6 ≤ 100) := Lib.hid (by rw [← hn6.out]; have := encI_length ([c0, c1, c2, c3, c4] : List Int); simp only [List.length_cons, List.length_nil] at this; omega)
  have HL6 : Hid (([] ++ l).length + n6 ≤ 1099511627776) := Lib.hid (by rw [List.nil_append, hl.out]; have := HEL.out; omega)
  clear ho6 hq6
  go_wp2_with (at_builtin; refine wpList_append_bytes rfl (.tmp 14) (.tmp 26) rfl (w.heap.size + 1 + 1 + 1) _ ([] ++ l) (encI ([c0, c1, c2, c3, c4] : List Int)) rfl HO6 A6 n6 c6 rfl hn6 hA6.out HR6 HL6.out HSZ6.out ?_; intro v7 W7 HO7 HB7)
  obtain ⟨A7, n7, c7, rfl, hn7, hc7, hA7, HR7⟩ := HO7.out.slice
  have HRL7 := Lib.hid ((HB7.out.block _ (by omega)).trans HRL6.out)
  have HRR7 := Lib.hid ((HB7.out.block _ (by omega)).trans HRR6.out)
  have HBT7 := Lib.hid (HBT6.out.trans (HB7.out.mono (by omega)))
  have HN7 : n7 ≤ 1000 := by rw [← hn7.out]; have := HEL.out; simp only [List.length_append, List.nil_append, hl.out, hn6.out]; omega
  have HBY : Hid (Bytes ([] ++ l ++ encI ([c0, c1, c2, c3, c4] : List Int))) := Lib.hid (bytes_app (bytes_app (fun x hx => by cases hx) hb.out) (encI_bytes _))
  have HLD : Hid (dgV (tagged (strL lineTag) ([] ++ l ++ encI ([c0, c1, c2, c3, c4] : List Int))) = dgV (leafN c0 c1 c2 c3 c4 l).d) := Lib.hid (by rw [← leaf_d, List.nil_append]; rfl)
  clear HRL HRS HRR HBN HRLn HRRn HRD HO0 HL0 HO4 HB4 HRL4 HRR4 HBT4 HSZ4 HBT5 HSZ5 HO5 HRL5 HRR5 HCS HBT6 HSZ6 HO6 HRL6 HRR6 HL6 HO7 HB7 HR6
  refine region_flow3 (by kernel_rfl) (by kernel_rfl) (fun i => Nat.beq i 10 || Nat.beq i 11) (fun i => i) (by kernel_rfl) (fun fx => #[Value.agg #[Value.int IntKind.i64 c0, Value.int IntKind.i64 c1, Value.int IntKind.i64 c2, Value.int IntKind.i64 c3, Value.int IntKind.i64 c4], Value.agg X, Value.pointer (some { block := w.heap.size, off := 0 }), Value.pointer (some { block := w.heap.size + 1, off := 0 }), Value.pointer (some { block := w.heap.size + 1 + 1, off := 0 }), fx 11, Value.slice A7 n7 c7, Value.agg #[Value.int IntKind.i64 c0, Value.int IntKind.i64 c1, Value.int IntKind.i64 c2, Value.int IntKind.i64 c3, Value.int IntKind.i64 c4], Value.bool true, Value.bool false, undef, Value.slice (some { block := W1.heap.size, off := 0 }) 0 0, Value.slice (some { block := w.heap.size + 1, off := 0 }) 32 32, v1, v1, Value.pointer (some { block := w.heap.size, off := 0 }), Value.int IntKind.i64 c0, Value.pointer (some { block := w.heap.size, off := 1 }), Value.int IntKind.i64 c1, Value.pointer (some { block := w.heap.size, off := 2 }), Value.int IntKind.i64 c2, Value.pointer (some { block := w.heap.size, off := 3 }), Value.int IntKind.i64 c3, Value.pointer (some { block := w.heap.size, off := 4 }), Value.int IntKind.i64 c4, Value.slice (some { block := W4.heap.size, off := 0 }) 5 5, Value.slice A6 n6 c6, Value.slice A7 n7 c7, fx 0, fx 1, fx 2, fx 3, fx 4, fx 5, fx 6, fx 7, fx 8, fx 9]) (fun i => bif Nat.beq i 11 then Value.int IntKind.i64 0 else undef) (fun L fx w' => (L 10 = false → Below W7.heap.size W7 w')) (fun fi fv _ fw => wFr w w.heap.size (w.heap.size + 1 + 1) A7 n7 c7 c0 c1 c2 c3 c4 l fi fv fw) (fun _ => (Below.refl _ _).drew) ?_ ?_
  · refine ⟨?_, ?_, ?_, ?_, ?_, ?_, ?_, ?_, ?_, ?_, ?_, ?_, trivial⟩
    all_goals intro L fx w' hC hi hcl hdn hd
    · have hnd : L 10 = false := Bool.eq_false_iff.2 (fun h => by have := (hcl 1 0 (hcl 9 1 (hcl 10 9 h (by kernel_rfl)) (by kernel_rfl)) (by kernel_rfl)); rw [hi] at this; cases this)
      go_wp2_with fail
      exact ⟨_, rfl, (fun _ => hC hnd), rfl, fun _ _ _ _ _ h => h⟩
    · have h0 : fx 0 = Value.slice A7 n7 c7 := hd.1 rfl
      have hnd : L 10 = false := Bool.eq_false_iff.2 (fun h => by have := (hcl 9 1 (hcl 10 9 h (by kernel_rfl)) (by kernel_rfl)); rw [hi] at this; cases this)
      have hb12 := hC hnd
      have HRk := Lib.hid ((HR7.out.below hb12 (Nat.le_refl _)).mono hb12.size)
      go_wp2_with fail
      refine (rtagged_any lineTag A7 n7 c7 _ w' (by decide) hn7 hc7 hA7.out (by omega) HBY HRk).mono ?_
      rintro e w2 ⟨rfl, hq⟩
      rw [HLD.out]
      go_wp2_with fail
      exact ⟨_, by show _ = Act.mk #[Value.agg #[Value.int IntKind.i64 c0, Value.int IntKind.i64 c1, Value.int IntKind.i64 c2, Value.int IntKind.i64 c3, Value.int IntKind.i64 c4], Value.agg X, Value.pointer (some { block := w.heap.size, off := 0 }), Value.pointer (some { block := w.heap.size + 1, off := 0 }), Value.pointer (some { block := w.heap.size + 1 + 1, off := 0 }), fx 11, Value.slice A7 n7 c7, Value.agg #[Value.int IntKind.i64 c0, Value.int IntKind.i64 c1, Value.int IntKind.i64 c2, Value.int IntKind.i64 c3, Value.int IntKind.i64 c4], Value.bool true, Value.bool false, undef, Value.slice (some { block := W1.heap.size, off := 0 }) 0 0, Value.slice (some { block := w.heap.size + 1, off := 0 }) 32 32, v1, v1, Value.pointer (some { block := w.heap.size, off := 0 }), Value.int IntKind.i64 c0, Value.pointer (some { block := w.heap.size, off := 1 }), Value.int IntKind.i64 c1, Value.pointer (some { block := w.heap.size, off := 2 }), Value.int IntKind.i64 c2, Value.pointer (some { block := w.heap.size, off := 3 }), Value.int IntKind.i64 c3, Value.pointer (some { block := w.heap.size, off := 4 }), Value.int IntKind.i64 c4, Value.slice (some { block := W4.heap.size, off := 0 }) 5 5, Value.slice A6 n6 c6, Value.slice A7 n7 c7, fx 0, dgV (leafN c0 c1 c2 c3 c4 l).d, fx 2, fx 3, fx 4, fx 5, fx 6, fx 7, fx 8, fx 9] []; rw [h0] <;> rfl, fun _ => hb12.trans (hq.mono hb12.size), rfl, fun j v t _ _ h => wFr_below hq j v h⟩
    · have hnd : L 10 = false := Bool.eq_false_iff.2 (fun h => by have := (hcl 3 2 (hcl 9 3 (hcl 10 9 h (by kernel_rfl)) (by kernel_rfl)) (by kernel_rfl)); rw [hi] at this; cases this)
      go_wp2_with fail
      exact ⟨_, rfl, (fun _ => hC hnd), rfl, fun _ _ _ _ _ h => h⟩
    · have h2 : fx 2 = Value.pointer (some ⟨w.heap.size, 3, none⟩) := hd.1 rfl
      have hnd : L 10 = false := Bool.eq_false_iff.2 (fun h => by have := (hcl 9 3 (hcl 10 9 h (by kernel_rfl)) (by kernel_rfl)); rw [hi] at this; cases this)
      have hc : w'.cell? ⟨w.heap.size, 3, none⟩ = some (.int .i64 c3) := five_cells (row_kept HRL7.out (hC hnd)) 3 (by omega)
      go_wp2_with fail
      exact ⟨_, by show _ = Act.mk #[Value.agg #[Value.int IntKind.i64 c0, Value.int IntKind.i64 c1, Value.int IntKind.i64 c2, Value.int IntKind.i64 c3, Value.int IntKind.i64 c4], Value.agg X, Value.pointer (some { block := w.heap.size, off := 0 }), Value.pointer (some { block := w.heap.size + 1, off := 0 }), Value.pointer (some { block := w.heap.size + 1 + 1, off := 0 }), fx 11, Value.slice A7 n7 c7, Value.agg #[Value.int IntKind.i64 c0, Value.int IntKind.i64 c1, Value.int IntKind.i64 c2, Value.int IntKind.i64 c3, Value.int IntKind.i64 c4], Value.bool true, Value.bool false, undef, Value.slice (some { block := W1.heap.size, off := 0 }) 0 0, Value.slice (some { block := w.heap.size + 1, off := 0 }) 32 32, v1, v1, Value.pointer (some { block := w.heap.size, off := 0 }), Value.int IntKind.i64 c0, Value.pointer (some { block := w.heap.size, off := 1 }), Value.int IntKind.i64 c1, Value.pointer (some { block := w.heap.size, off := 2 }), Value.int IntKind.i64 c2, Value.pointer (some { block := w.heap.size, off := 3 }), Value.int IntKind.i64 c3, Value.pointer (some { block := w.heap.size, off := 4 }), Value.int IntKind.i64 c4, Value.slice (some { block := W4.heap.size, off := 0 }) 5 5, Value.slice A6 n6 c6, Value.slice A7 n7 c7, fx 0, fx 1, fx 2, Value.int .i64 (c3), fx 4, fx 5, fx 6, fx 7, fx 8, fx 9] []; rw [h2] <;> rfl, (fun _ => hC hnd), rfl, fun _ _ _ _ _ h => h⟩
    · have hnd : L 10 = false := Bool.eq_false_iff.2 (fun h => by have := (hcl 5 4 (hcl 8 5 (hcl 9 8 (hcl 10 9 h (by kernel_rfl)) (by kernel_rfl)) (by kernel_rfl)) (by kernel_rfl)); rw [hi] at this; cases this)
      go_wp2_with fail
      exact ⟨_, rfl, (fun _ => hC hnd), rfl, fun _ _ _ _ _ h => h⟩
    · have h4 : fx 4 = Value.pointer (some ⟨w.heap.size, 2, none⟩) := hd.1 rfl
      have hnd : L 10 = false := Bool.eq_false_iff.2 (fun h => by have := (hcl 8 5 (hcl 9 8 (hcl 10 9 h (by kernel_rfl)) (by kernel_rfl)) (by kernel_rfl)); rw [hi] at this; cases this)
      have hc : w'.cell? ⟨w.heap.size, 2, none⟩ = some (.int .i64 c2) := five_cells (row_kept HRL7.out (hC hnd)) 2 (by omega)
      go_wp2_with fail
      exact ⟨_, by show _ = Act.mk #[Value.agg #[Value.int IntKind.i64 c0, Value.int IntKind.i64 c1, Value.int IntKind.i64 c2, Value.int IntKind.i64 c3, Value.int IntKind.i64 c4], Value.agg X, Value.pointer (some { block := w.heap.size, off := 0 }), Value.pointer (some { block := w.heap.size + 1, off := 0 }), Value.pointer (some { block := w.heap.size + 1 + 1, off := 0 }), fx 11, Value.slice A7 n7 c7, Value.agg #[Value.int IntKind.i64 c0, Value.int IntKind.i64 c1, Value.int IntKind.i64 c2, Value.int IntKind.i64 c3, Value.int IntKind.i64 c4], Value.bool true, Value.bool false, undef, Value.slice (some { block := W1.heap.size, off := 0 }) 0 0, Value.slice (some { block := w.heap.size + 1, off := 0 }) 32 32, v1, v1, Value.pointer (some { block := w.heap.size, off := 0 }), Value.int IntKind.i64 c0, Value.pointer (some { block := w.heap.size, off := 1 }), Value.int IntKind.i64 c1, Value.pointer (some { block := w.heap.size, off := 2 }), Value.int IntKind.i64 c2, Value.pointer (some { block := w.heap.size, off := 3 }), Value.int IntKind.i64 c3, Value.pointer (some { block := w.heap.size, off := 4 }), Value.int IntKind.i64 c4, Value.slice (some { block := W4.heap.size, off := 0 }) 5 5, Value.slice A6 n6 c6, Value.slice A7 n7 c7, fx 0, fx 1, fx 2, fx 3, fx 4, Value.int .i64 (c2), fx 6, fx 7, fx 8, fx 9] []; rw [h4] <;> rfl, (fun _ => hC hnd), rfl, fun _ _ _ _ _ h => h⟩
    · have hnd : L 10 = false := Bool.eq_false_iff.2 (fun h => by have := (hcl 7 6 (hcl 8 7 (hcl 9 8 (hcl 10 9 h (by kernel_rfl)) (by kernel_rfl)) (by kernel_rfl)) (by kernel_rfl)); rw [hi] at this; cases this)
      go_wp2_with fail
      exact ⟨_, rfl, (fun _ => hC hnd), rfl, fun _ _ _ _ _ h => h⟩
    · have h6 : fx 6 = Value.pointer (some ⟨w.heap.size, 3, none⟩) := hd.1 rfl
      have hnd : L 10 = false := Bool.eq_false_iff.2 (fun h => by have := (hcl 8 7 (hcl 9 8 (hcl 10 9 h (by kernel_rfl)) (by kernel_rfl)) (by kernel_rfl)); rw [hi] at this; cases this)
      have hc : w'.cell? ⟨w.heap.size, 3, none⟩ = some (.int .i64 c3) := five_cells (row_kept HRL7.out (hC hnd)) 3 (by omega)
      go_wp2_with fail
      exact ⟨_, by show _ = Act.mk #[Value.agg #[Value.int IntKind.i64 c0, Value.int IntKind.i64 c1, Value.int IntKind.i64 c2, Value.int IntKind.i64 c3, Value.int IntKind.i64 c4], Value.agg X, Value.pointer (some { block := w.heap.size, off := 0 }), Value.pointer (some { block := w.heap.size + 1, off := 0 }), Value.pointer (some { block := w.heap.size + 1 + 1, off := 0 }), fx 11, Value.slice A7 n7 c7, Value.agg #[Value.int IntKind.i64 c0, Value.int IntKind.i64 c1, Value.int IntKind.i64 c2, Value.int IntKind.i64 c3, Value.int IntKind.i64 c4], Value.bool true, Value.bool false, undef, Value.slice (some { block := W1.heap.size, off := 0 }) 0 0, Value.slice (some { block := w.heap.size + 1, off := 0 }) 32 32, v1, v1, Value.pointer (some { block := w.heap.size, off := 0 }), Value.int IntKind.i64 c0, Value.pointer (some { block := w.heap.size, off := 1 }), Value.int IntKind.i64 c1, Value.pointer (some { block := w.heap.size, off := 2 }), Value.int IntKind.i64 c2, Value.pointer (some { block := w.heap.size, off := 3 }), Value.int IntKind.i64 c3, Value.pointer (some { block := w.heap.size, off := 4 }), Value.int IntKind.i64 c4, Value.slice (some { block := W4.heap.size, off := 0 }) 5 5, Value.slice A6 n6 c6, Value.slice A7 n7 c7, fx 0, fx 1, fx 2, fx 3, fx 4, fx 5, fx 6, Value.int .i64 (c3), fx 8, fx 9] []; rw [h6] <;> rfl, (fun _ => hC hnd), rfl, fun _ _ _ _ _ h => h⟩
    · have h5 : fx 5 = Value.int .i64 (c2) := hd.1 rfl
      have h7 : fx 7 = Value.int .i64 (c3) := hd.2.1 rfl
      have hnd : L 10 = false := Bool.eq_false_iff.2 (fun h => by have := (hcl 9 8 (hcl 10 9 h (by kernel_rfl)) (by kernel_rfl)); rw [hi] at this; cases this)
      have hw : IntKind.i64.wrap (c2 * c3) = c2 * c3 := HW1.out
      go_wp2_with fail
      exact ⟨_, by show _ = Act.mk #[Value.agg #[Value.int IntKind.i64 c0, Value.int IntKind.i64 c1, Value.int IntKind.i64 c2, Value.int IntKind.i64 c3, Value.int IntKind.i64 c4], Value.agg X, Value.pointer (some { block := w.heap.size, off := 0 }), Value.pointer (some { block := w.heap.size + 1, off := 0 }), Value.pointer (some { block := w.heap.size + 1 + 1, off := 0 }), fx 11, Value.slice A7 n7 c7, Value.agg #[Value.int IntKind.i64 c0, Value.int IntKind.i64 c1, Value.int IntKind.i64 c2, Value.int IntKind.i64 c3, Value.int IntKind.i64 c4], Value.bool true, Value.bool false, undef, Value.slice (some { block := W1.heap.size, off := 0 }) 0 0, Value.slice (some { block := w.heap.size + 1, off := 0 }) 32 32, v1, v1, Value.pointer (some { block := w.heap.size, off := 0 }), Value.int IntKind.i64 c0, Value.pointer (some { block := w.heap.size, off := 1 }), Value.int IntKind.i64 c1, Value.pointer (some { block := w.heap.size, off := 2 }), Value.int IntKind.i64 c2, Value.pointer (some { block := w.heap.size, off := 3 }), Value.int IntKind.i64 c3, Value.pointer (some { block := w.heap.size, off := 4 }), Value.int IntKind.i64 c4, Value.slice (some { block := W4.heap.size, off := 0 }) 5 5, Value.slice A6 n6 c6, Value.slice A7 n7 c7, fx 0, fx 1, fx 2, fx 3, fx 4, fx 5, fx 6, fx 7, Value.int .i64 (c2 * c3), fx 9] []; rw [h5, h7] <;> rfl, (fun _ => hC hnd), rfl, fun _ _ _ _ _ h => h⟩
    · have h1 : fx 1 = dgV (leafN c0 c1 c2 c3 c4 l).d := hd.1 rfl
      have h3 : fx 3 = Value.int .i64 (c3) := hd.2.1 rfl
      have h8 : fx 8 = Value.int .i64 (c2 * c3) := hd.2.2.1 rfl
      have hnd : L 10 = false := Bool.eq_false_iff.2 (fun h => by have := (hcl 10 9 h (by kernel_rfl)); rw [hi] at this; cases this)
      refine wpList_build_node rfl (.tmp 29) (.tmp 31) (.tmp 36) rfl (leafN c0 c1 c2 c3 c4 l).d c3 (c2 * c3) HJ.out.len h1 h3 h8 ?_
      clear hd
      go_wp2_with fail
      exact ⟨_, by show _ = Act.mk #[Value.agg #[Value.int IntKind.i64 c0, Value.int IntKind.i64 c1, Value.int IntKind.i64 c2, Value.int IntKind.i64 c3, Value.int IntKind.i64 c4], Value.agg X, Value.pointer (some { block := w.heap.size, off := 0 }), Value.pointer (some { block := w.heap.size + 1, off := 0 }), Value.pointer (some { block := w.heap.size + 1 + 1, off := 0 }), fx 11, Value.slice A7 n7 c7, Value.agg #[Value.int IntKind.i64 c0, Value.int IntKind.i64 c1, Value.int IntKind.i64 c2, Value.int IntKind.i64 c3, Value.int IntKind.i64 c4], Value.bool true, Value.bool false, undef, Value.slice (some { block := W1.heap.size, off := 0 }) 0 0, Value.slice (some { block := w.heap.size + 1, off := 0 }) 32 32, v1, v1, Value.pointer (some { block := w.heap.size, off := 0 }), Value.int IntKind.i64 c0, Value.pointer (some { block := w.heap.size, off := 1 }), Value.int IntKind.i64 c1, Value.pointer (some { block := w.heap.size, off := 2 }), Value.int IntKind.i64 c2, Value.pointer (some { block := w.heap.size, off := 3 }), Value.int IntKind.i64 c3, Value.pointer (some { block := w.heap.size, off := 4 }), Value.int IntKind.i64 c4, Value.slice (some { block := W4.heap.size, off := 0 }) 5 5, Value.slice A6 n6 c6, Value.slice A7 n7 c7, fx 0, fx 1, fx 2, fx 3, fx 4, fx 5, fx 6, fx 7, fx 8, ndV (leafN c0 c1 c2 c3 c4 l)] []; rw [h1, h3, h8] <;> rfl, fun _ => hC hnd, rfl, fun _ _ _ _ _ h => h⟩
    · have h9 : fx 9 = ndV (leafN c0 c1 c2 c3 c4 l) := hd.1 rfl
      have hb21 := hC hi
      have hrow := row_kept HRR7.out hb21
      refine wpList_store_row rfl 26 (.tmp 4) (.tmp 37) rfl (w.heap.size + 1 + 1) (ndC (leafN c0 c1 c2 c3 c4 l)).toArray rfl h9 26 _ hrow HS1.out HS2.out (ndC_one _) ?_
      clear hd
      go_wp2_with fail
      refine ⟨undef, by rw [← h9]; rfl, fun h => (updB_self h).elim, ⟨setRow_heap _ _ _ _ _ _ hrow, below_setRow (HBT7.out.trans (hb21.mono HBT7.out.size)) (by omega) _⟩, fun j v t hj hu h => ?_⟩
      refine wFr_pure j v ?_ h
      intro e
      subst e
      rw [hi] at hj; cases hj
    · go_wp2_with fail
      exact ⟨_, rfl, fun h => hC h, rfl, fun _ _ _ _ _ h => h⟩
  · intro L fx w' hC hS
    have H10 := Lib.hid (hS 10 (by decide) rfl)
    have H11 := Lib.hid (hS 11 (by decide) rfl)
    have h11 : fx 11 = .int .i64 0 := H11.out
    rw [h11]
    clear hS h11 H11
    go_wp2_with fail
    have hl := run_loadVar_row (P := Tryd.prog) w' (w.heap.size + 1 + 1) 26 26 (ndC (leafN c0 c1 c2 c3 c4 l)).toArray (0, 0) _ H10.out.1 Tryd.underlying26 rfl HS1.out
    refine bodyPost_ret (v := .tuple #[ndV (leafN c0 c1 c2 c3 c4 l), .int .i64 0]) ?_ rfl ⟨rfl, H10.out.2⟩
    unfold ndV
    simp [results, Tryd.results26, asAddr, hl]
theorem rleaf_any (c0 c1 c2 c3 c4 : Int) (l : List Nat) (w : World) (hl : Hid (l.length = 32)) (hb : Hid (Bytes l)) :
    Calls Tryd.prog 26 #[.agg #[.int .i64 c0, .int .i64 c1, .int .i64 c2, .int .i64 c3, .int .i64 c4], dgV l] w fun e w' => e = .returned (.tuple #[ndV (leafR c0 c1 c2 c3 c4 l), .int .i64 (leafE c0 c1 c2 c3 c4)]) ∧ Below w.heap.size w w' := by
  by_cases h : lOk c0 c1 c2 c3 c4
  · unfold leafR leafE
    rw [if_pos h, if_pos h]
    exact rleaf_yes c0 c1 c2 c3 c4 l w h hl hb
  · unfold leafR leafE
    rw [if_neg h, if_neg h]
    exact rleaf_no c0 c1 c2 c3 c4 l w h
end Go.Proofs.YtgcmbiegbclhmaaDoor
