/- sizar/ratio.New of a number that is not negative, by a positive one. sizar/sums.Mean. Spans and ratios compared; sizarref43.SameSpans of equal lists. Plain facts for the sane of law 43. -/
import Derived.Test.YtmfmgeapecapiaaGreatDoorVS12
import Derived.Test.YtmfmgeapecapiaaGreatDoorVS11
import Derived.Test.YtmfmgeapecapiaaGreatDoorVS6
import Derived.Test.YtmfmgeapecapiaaGreatDoorVS2
set_option maxHeartbeats 64000001
open Go.Lib (hid)
namespace Go.Proofs.YtmfmgeapecapiaaGreatDoor
open Go.RowKit SzSha SzTree
set_option linter.unusedVariables false
set_option maxRecDepth 100000
/-- a fraction in lowest terms, and the error -/
def ratR (n d : Nat) : Int × Int × Int := if n / Nat.gcd d n ≤ 1073741824 ∧ d / Nat.gcd d n ≤ 1073741824 then ((n / Nat.gcd d n : Nat), (d / Nat.gcd d n : Nat), 0) else (0, 0, 2)
theorem row2_set {w : World} {b : Nat} {a c x y : Value} {t : TypeId} (h : w.heap[b]? = some (.cells #[a, c] t (0, 0))) : ((w.setCell ⟨b, 0, none⟩ x).setCell ⟨b, 1, none⟩ y).heap[b]? = some (.cells #[x, y] t (0, 0)) := by
 have e1 := setCell_eq_setRow w b 0 _ _ _ x h
 have h1 := setRow_heap w b _ (#[a, c].setIfInBounds 0 x) _ _ h
 rw [← e1] at h1
 have e2 := setCell_eq_setRow (w.setCell ⟨b, 0, none⟩ x) b 1 _ _ _ y h1
 have h2 := setRow_heap (w.setCell ⟨b, 0, none⟩ x) b _ ((#[a, c].setIfInBounds 0 x).setIfInBounds 1 y) _ _ h1
 rw [← e2] at h2
 exact h2
def sNw (n d g q r : Nat) : Nat → Value → World → Prop
 | 0, fv, _ => fv = .int .i64 (n : Nat)
 | 1, fv, _ => fv = .int .u64 (n : Nat)
 | 2, fv, _ => fv = .int .u64 (g : Nat)
 | 3, fv, _ => fv = .int .u64 (q : Nat)
 | 4, fv, _ => fv = .int .i64 (d : Nat)
 | 5, fv, _ => fv = .int .u64 (d : Nat)
 | 6, fv, _ => fv = .int .u64 (g : Nat)
 | 7, fv, _ => fv = .int .u64 (r : Nat)
 | 8, fv, _ => fv = .int .u64 (q : Nat)
 | 9, fv, _ => fv = .int .u64 (r : Nat)
 | _, _, _ => True
theorem new_yes (n d q r : Nat) (w : World) (hn : n ≤ 9223372036854775807) (hd2 : d ≤ 9223372036854775807) (h0 : 0 < d) (hq : Hid (n / Nat.gcd d n = q)) (hr : Hid (d / Nat.gcd d n = r)) (k0 : q ≤ 1073741824) (k1 : r ≤ 1073741824) :
  Calls Tryz.prog 87 #[.int .i64 (n : Nat), .int .i64 (d : Nat)] w fun e w' => e = .returned (.tuple #[.agg #[.int .i64 (q : Nat), .int .i64 (r : Nat)], .int .i64 0]) ∧ Below w.heap.size w w' := by
 obtain ⟨g, HG⟩ : ∃ g, Hid (Nat.gcd d n = g) := ⟨_, hid rfl⟩
 rw [HG.out] at hq hr
 have hg0 : 0 < g := by rw [← HG.out]; exact Nat.gcd_pos_of_pos_left _ h0
 have dz : decide ((d : Int) = 0) = false := dQ (by omega)
 have dz2 : ((d : Int) == 0) = false := by simp; omega
 have dg : ((g : Int) == 0) = false := by simp; omega
 have dg2 : decide ((g : Int) = 0) = false := dQ (by omega)
 have hqn : q ≤ n := by rw [← hq.out]; exact Nat.div_le_self _ _
 have hrd : r ≤ d := by rw [← hr.out]; exact Nat.div_le_self _ _
 have HQ1 : Hid (IntKind.u64.wrap ((n : Int) / (g : Int)) = ((q : Nat) : Int)) := hid (by rw [IntKind.wrap_u64, ← Int.natCast_ediv, hq.out]; omega)
 have HR1 : Hid (IntKind.u64.wrap ((d : Int) / (g : Int)) = ((r : Nat) : Int)) := hid (by rw [IntKind.wrap_u64, ← Int.natCast_ediv, hr.out]; omega)
 have e1 := HQ1.out
 have e2 := HR1.out
 have dn0 : decide ((n : Int) < 0) = false := dQ (by omega)
 have dd0 : decide ((d : Int) < 0) = false := dQ (by omega)
 have t0 : decide (1073741824 < (q : Int)) = false := dQ (by omega)
 have t1 : decide (1073741824 < (r : Int)) = false := dQ (by omega)
 have v0 : IntKind.i64.wrap (q : Int) = (q : Int) := IntWalk.i64_in _ (by omega)
 have v1 : IntKind.i64.wrap (r : Int) = (r : Int) := IntWalk.i64_in _ (by omega)
 obtain ⟨W1, HW1⟩ : ∃ V, Hid (w.alloc (.cells #[.int .i64 0, .int .i64 0] 74) = V) := ⟨_, hid rfl⟩
 have hb := (Below.refl _ w).alloc (Nat.le_refl _) (.cells #[.int .i64 0, .int .i64 0] 74)
 have hw := heap_alloc_new w (.cells #[.int .i64 0, .int .i64 0] 74)
 rw [HW1.out] at hb hw
 have HR := hid hw
 have HBW := hid hb
 clear hb hw
 go_enter Tryz.func87, Tryz.ntmps87
 go_wp2_with (rw [HW1.out])
 refine (common_any n d _ hn hd2).mono ?_
 rintro e w1 ⟨rfl, hb1⟩
 rw [HG.out]
 have HR2 := hid (row_kept HR.out hb1)
 have HBV := hid (HBW.out.trans (hb1.mono HBW.out.size))
 have HB0 := hid (Below.refl w1.heap.size w1).drew
 clear hb1 HR HBW
 go_wp2_with fail
 refine region_flow3 (by kernel_rfl) (by kernel_rfl) (fun i => Nat.beq i 8 || Nat.beq i 9) (fun i => i) (by kernel_rfl) (fun fx => #[.int .i64 (n : Nat), .int .i64 (d : Nat), undef, undef, .pointer (some ⟨w.heap.size, 0, none⟩), .int .i64 0, .int .u64 (g : Nat), fx 8, fx 9, .int .i64 (d : Nat), .bool false, undef, .int .i64 (n : Nat), .int .i64 (d : Nat), .int .u64 (g : Nat), fx 0, fx 1, fx 2, fx 3, fx 4, fx 5, fx 6, fx 7, undef, undef, undef, undef, undef, undef, undef, undef, undef, undef, undef, undef, undef, undef, undef, undef, undef, undef, undef, undef, undef, undef]) (fun _ => undef) (fun _ _ w' => Below w1.heap.size w1 w') (fun fi fv _ fw => sNw n d g q r fi fv fw) HB0.out ?_ ?_
 ·refine ⟨?_, ?_, ?_, ?_, ?_, ?_, ?_, ?_, ?_, ?_, trivial⟩
  all_goals intro L fx w' hC hi hcl hdn hd
  ·go_wp2_with fail
   exact ⟨_, rfl, hC, rfl, kP⟩
  ·have h0 : fx 0 = .int .i64 (n : Nat) := hd.1 rfl
   go_wp2_with fail
   refine (rsize_any n _ hn).mono ?_
   rintro e w2 ⟨rfl, rfl⟩
   go_wp2_with fail
   exact ⟨_, (by first | rfl | (show _ = Act.mk #[.int .i64 (n : Nat), .int .i64 (d : Nat), undef, undef, .pointer (some ⟨w.heap.size, 0, none⟩), .int .i64 0, .int .u64 (g : Nat), fx 8, fx 9, .int .i64 (d : Nat), .bool false, undef, .int .i64 (n : Nat), .int .i64 (d : Nat), .int .u64 (g : Nat), fx 0, Value.int .u64 (n : Nat), fx 2, fx 3, fx 4, fx 5, fx 6, fx 7, undef, undef, undef, undef, undef, undef, undef, undef, undef, undef, undef, undef, undef, undef, undef, undef, undef, undef, undef, undef, undef, undef] []; rw [h0])), hC, rfl, kP⟩
  ·go_wp2_with fail
   exact ⟨_, rfl, hC, rfl, kP⟩
  ·have h1 : fx 1 = .int .u64 (n : Nat) := hd.1 rfl
   have h2 : fx 2 = .int .u64 (g : Nat) := hd.2.1 rfl
   go_wp2_with fail
   exact ⟨_, (by first | rfl | (show _ = Act.mk #[.int .i64 (n : Nat), .int .i64 (d : Nat), undef, undef, .pointer (some ⟨w.heap.size, 0, none⟩), .int .i64 0, .int .u64 (g : Nat), fx 8, fx 9, .int .i64 (d : Nat), .bool false, undef, .int .i64 (n : Nat), .int .i64 (d : Nat), .int .u64 (g : Nat), fx 0, fx 1, fx 2, Value.int .u64 (q : Nat), fx 4, fx 5, fx 6, fx 7, undef, undef, undef, undef, undef, undef, undef, undef, undef, undef, undef, undef, undef, undef, undef, undef, undef, undef, undef, undef, undef, undef] []; rw [h1, h2])), hC, rfl, kP⟩
  ·go_wp2_with fail
   exact ⟨_, rfl, hC, rfl, kP⟩
  ·have h4 : fx 4 = .int .i64 (d : Nat) := hd.1 rfl
   go_wp2_with fail
   refine (rsize_any d _ hd2).mono ?_
   rintro e w2 ⟨rfl, rfl⟩
   go_wp2_with fail
   exact ⟨_, (by first | rfl | (show _ = Act.mk #[.int .i64 (n : Nat), .int .i64 (d : Nat), undef, undef, .pointer (some ⟨w.heap.size, 0, none⟩), .int .i64 0, .int .u64 (g : Nat), fx 8, fx 9, .int .i64 (d : Nat), .bool false, undef, .int .i64 (n : Nat), .int .i64 (d : Nat), .int .u64 (g : Nat), fx 0, fx 1, fx 2, fx 3, fx 4, Value.int .u64 (d : Nat), fx 6, fx 7, undef, undef, undef, undef, undef, undef, undef, undef, undef, undef, undef, undef, undef, undef, undef, undef, undef, undef, undef, undef, undef, undef] []; rw [h4])), hC, rfl, kP⟩
  ·go_wp2_with fail
   exact ⟨_, rfl, hC, rfl, kP⟩
  ·have h5 : fx 5 = .int .u64 (d : Nat) := hd.1 rfl
   have h6 : fx 6 = .int .u64 (g : Nat) := hd.2.1 rfl
   go_wp2_with fail
   exact ⟨_, (by first | rfl | (show _ = Act.mk #[.int .i64 (n : Nat), .int .i64 (d : Nat), undef, undef, .pointer (some ⟨w.heap.size, 0, none⟩), .int .i64 0, .int .u64 (g : Nat), fx 8, fx 9, .int .i64 (d : Nat), .bool false, undef, .int .i64 (n : Nat), .int .i64 (d : Nat), .int .u64 (g : Nat), fx 0, fx 1, fx 2, fx 3, fx 4, fx 5, fx 6, Value.int .u64 (r : Nat), undef, undef, undef, undef, undef, undef, undef, undef, undef, undef, undef, undef, undef, undef, undef, undef, undef, undef, undef, undef, undef, undef] []; rw [h5, h6])), hC, rfl, kP⟩
  ·have h3 : fx 3 = .int .u64 (q : Nat) := hd.1 rfl
   go_wp2_with fail
   exact ⟨_, (by first | rfl | (show _ = Act.mk #[.int .i64 (n : Nat), .int .i64 (d : Nat), undef, undef, .pointer (some ⟨w.heap.size, 0, none⟩), .int .i64 0, .int .u64 (g : Nat), Value.int .u64 (q : Nat), fx 9, .int .i64 (d : Nat), .bool false, undef, .int .i64 (n : Nat), .int .i64 (d : Nat), .int .u64 (g : Nat), fx 0, fx 1, fx 2, fx 3, fx 4, fx 5, fx 6, fx 7, undef, undef, undef, undef, undef, undef, undef, undef, undef, undef, undef, undef, undef, undef, undef, undef, undef, undef, undef, undef, undef, undef] []; rw [h3])), hC, (by first | rfl | exact h3), kP⟩
  ·have h7 : fx 7 = .int .u64 (r : Nat) := hd.1 rfl
   go_wp2_with fail
   exact ⟨_, (by first | rfl | (show _ = Act.mk #[.int .i64 (n : Nat), .int .i64 (d : Nat), undef, undef, .pointer (some ⟨w.heap.size, 0, none⟩), .int .i64 0, .int .u64 (g : Nat), fx 8, Value.int .u64 (r : Nat), .int .i64 (d : Nat), .bool false, undef, .int .i64 (n : Nat), .int .i64 (d : Nat), .int .u64 (g : Nat), fx 0, fx 1, fx 2, fx 3, fx 4, fx 5, fx 6, fx 7, undef, undef, undef, undef, undef, undef, undef, undef, undef, undef, undef, undef, undef, undef, undef, undef, undef, undef, undef, undef, undef, undef] []; rw [h7])), hC, (by first | rfl | exact h7), kP⟩
 ·intro L fx w' hC hS
  have H8 := hid (hS 8 (by decide) rfl)
  have H9 := hid (hS 9 (by decide) rfl)
  have h8 : fx 8 = .int .u64 (q : Nat) := H8.out
  have h9 : fx 9 = .int .u64 (r : Nat) := H9.out
  rw [h8, h9]
  have HR3 := hid (row_kept HR2.out hC)
  have HBX := hid (HBV.out.trans (hC.mono HBV.out.size))
  have c0 := cell_of_row _ _ 0 _ _ _ HR3.out
  have c1 := cell_of_row _ _ 1 _ _ _ HR3.out
  have f0 := frozen_of_row _ _ 0 _ _ HR3.out
  have f1 := frozen_of_row _ _ 1 _ _ HR3.out
  clear hS hC H8 H9 h8 h9 HBV HR2
  go_wp2_with fail
  have hs := row2_set (x := (.int .i64 (q : Nat))) (y := (.int .i64 (r : Nat))) HR3.out
  have hs := row2_set (x := (.int .i64 (q : Nat))) (y := (.int .i64 (r : Nat))) hs
  have hl := run_loadVar_row (P := Tryz.prog) _ w.heap.size 74 74 #[(.int .i64 (q : Nat)), (.int .i64 (r : Nat))] (0, 0) _ hs Tryz.underlying74 rfl (by show _ = some 2; kernel_rfl)
  refine bodyPost_ret (v := .tuple #[.agg #[(.int .i64 (q : Nat)), (.int .i64 (r : Nat))], .int .i64 0]) ?_ rfl ⟨rfl, ((((HBX.out.setCell (Nat.le_refl _) _).setCell (Nat.le_refl _) _).setCell (Nat.le_refl _) _).setCell (Nat.le_refl _) _)⟩
  simp [results, Tryz.results87, asAddr, hl]
theorem new_no1 (n d q r : Nat) (w : World) (hn : n ≤ 9223372036854775807) (hd2 : d ≤ 9223372036854775807) (h0 : 0 < d) (hq : Hid (n / Nat.gcd d n = q)) (hr : Hid (d / Nat.gcd d n = r)) (k0 : 1073741824 < q) :
  Calls Tryz.prog 87 #[.int .i64 (n : Nat), .int .i64 (d : Nat)] w fun e w' => e = .returned (.tuple #[.agg #[.int .i64 0, .int .i64 0], .int .i64 2]) ∧ Below w.heap.size w w' := by
 obtain ⟨g, HG⟩ : ∃ g, Hid (Nat.gcd d n = g) := ⟨_, hid rfl⟩
 rw [HG.out] at hq hr
 have hg0 : 0 < g := by rw [← HG.out]; exact Nat.gcd_pos_of_pos_left _ h0
 have dz : decide ((d : Int) = 0) = false := dQ (by omega)
 have dz2 : ((d : Int) == 0) = false := by simp; omega
 have dg : ((g : Int) == 0) = false := by simp; omega
 have dg2 : decide ((g : Int) = 0) = false := dQ (by omega)
 have hqn : q ≤ n := by rw [← hq.out]; exact Nat.div_le_self _ _
 have hrd : r ≤ d := by rw [← hr.out]; exact Nat.div_le_self _ _
 have HQ1 : Hid (IntKind.u64.wrap ((n : Int) / (g : Int)) = ((q : Nat) : Int)) := hid (by rw [IntKind.wrap_u64, ← Int.natCast_ediv, hq.out]; omega)
 have HR1 : Hid (IntKind.u64.wrap ((d : Int) / (g : Int)) = ((r : Nat) : Int)) := hid (by rw [IntKind.wrap_u64, ← Int.natCast_ediv, hr.out]; omega)
 have e1 := HQ1.out
 have e2 := HR1.out
 have dn0 : decide ((n : Int) < 0) = false := dQ (by omega)
 have dd0 : decide ((d : Int) < 0) = false := dQ (by omega)
 have t0 : decide (1073741824 < (q : Int)) = true := eQ (by omega)
 obtain ⟨W1, HW1⟩ : ∃ V, Hid (w.alloc (.cells #[.int .i64 0, .int .i64 0] 74) = V) := ⟨_, hid rfl⟩
 have hb := (Below.refl _ w).alloc (Nat.le_refl _) (.cells #[.int .i64 0, .int .i64 0] 74)
 have hw := heap_alloc_new w (.cells #[.int .i64 0, .int .i64 0] 74)
 rw [HW1.out] at hb hw
 have HR := hid hw
 have HBW := hid hb
 clear hb hw
 go_enter Tryz.func87, Tryz.ntmps87
 go_wp2_with (rw [HW1.out])
 refine (common_any n d _ hn hd2).mono ?_
 rintro e w1 ⟨rfl, hb1⟩
 rw [HG.out]
 have HR2 := hid (row_kept HR.out hb1)
 have HBV := hid (HBW.out.trans (hb1.mono HBW.out.size))
 have HB0 := hid (Below.refl w1.heap.size w1).drew
 clear hb1 HR HBW
 go_wp2_with fail
 refine region_flow3 (by kernel_rfl) (by kernel_rfl) (fun i => Nat.beq i 8 || Nat.beq i 9) (fun i => i) (by kernel_rfl) (fun fx => #[.int .i64 (n : Nat), .int .i64 (d : Nat), undef, undef, .pointer (some ⟨w.heap.size, 0, none⟩), .int .i64 0, .int .u64 (g : Nat), fx 8, fx 9, .int .i64 (d : Nat), .bool false, undef, .int .i64 (n : Nat), .int .i64 (d : Nat), .int .u64 (g : Nat), fx 0, fx 1, fx 2, fx 3, fx 4, fx 5, fx 6, fx 7, undef, undef, undef, undef, undef, undef, undef, undef, undef, undef, undef, undef, undef, undef, undef, undef, undef, undef, undef, undef, undef, undef]) (fun _ => undef) (fun _ _ w' => Below w1.heap.size w1 w') (fun fi fv _ fw => sNw n d g q r fi fv fw) HB0.out ?_ ?_
 ·refine ⟨?_, ?_, ?_, ?_, ?_, ?_, ?_, ?_, ?_, ?_, trivial⟩
  all_goals intro L fx w' hC hi hcl hdn hd
  ·go_wp2_with fail
   exact ⟨_, rfl, hC, rfl, kP⟩
  ·have h0 : fx 0 = .int .i64 (n : Nat) := hd.1 rfl
   go_wp2_with fail
   refine (rsize_any n _ hn).mono ?_
   rintro e w2 ⟨rfl, rfl⟩
   go_wp2_with fail
   exact ⟨_, (by first | rfl | (show _ = Act.mk #[.int .i64 (n : Nat), .int .i64 (d : Nat), undef, undef, .pointer (some ⟨w.heap.size, 0, none⟩), .int .i64 0, .int .u64 (g : Nat), fx 8, fx 9, .int .i64 (d : Nat), .bool false, undef, .int .i64 (n : Nat), .int .i64 (d : Nat), .int .u64 (g : Nat), fx 0, Value.int .u64 (n : Nat), fx 2, fx 3, fx 4, fx 5, fx 6, fx 7, undef, undef, undef, undef, undef, undef, undef, undef, undef, undef, undef, undef, undef, undef, undef, undef, undef, undef, undef, undef, undef, undef] []; rw [h0])), hC, rfl, kP⟩
  ·go_wp2_with fail
   exact ⟨_, rfl, hC, rfl, kP⟩
  ·have h1 : fx 1 = .int .u64 (n : Nat) := hd.1 rfl
   have h2 : fx 2 = .int .u64 (g : Nat) := hd.2.1 rfl
   go_wp2_with fail
   exact ⟨_, (by first | rfl | (show _ = Act.mk #[.int .i64 (n : Nat), .int .i64 (d : Nat), undef, undef, .pointer (some ⟨w.heap.size, 0, none⟩), .int .i64 0, .int .u64 (g : Nat), fx 8, fx 9, .int .i64 (d : Nat), .bool false, undef, .int .i64 (n : Nat), .int .i64 (d : Nat), .int .u64 (g : Nat), fx 0, fx 1, fx 2, Value.int .u64 (q : Nat), fx 4, fx 5, fx 6, fx 7, undef, undef, undef, undef, undef, undef, undef, undef, undef, undef, undef, undef, undef, undef, undef, undef, undef, undef, undef, undef, undef, undef] []; rw [h1, h2])), hC, rfl, kP⟩
  ·go_wp2_with fail
   exact ⟨_, rfl, hC, rfl, kP⟩
  ·have h4 : fx 4 = .int .i64 (d : Nat) := hd.1 rfl
   go_wp2_with fail
   refine (rsize_any d _ hd2).mono ?_
   rintro e w2 ⟨rfl, rfl⟩
   go_wp2_with fail
   exact ⟨_, (by first | rfl | (show _ = Act.mk #[.int .i64 (n : Nat), .int .i64 (d : Nat), undef, undef, .pointer (some ⟨w.heap.size, 0, none⟩), .int .i64 0, .int .u64 (g : Nat), fx 8, fx 9, .int .i64 (d : Nat), .bool false, undef, .int .i64 (n : Nat), .int .i64 (d : Nat), .int .u64 (g : Nat), fx 0, fx 1, fx 2, fx 3, fx 4, Value.int .u64 (d : Nat), fx 6, fx 7, undef, undef, undef, undef, undef, undef, undef, undef, undef, undef, undef, undef, undef, undef, undef, undef, undef, undef, undef, undef, undef, undef] []; rw [h4])), hC, rfl, kP⟩
  ·go_wp2_with fail
   exact ⟨_, rfl, hC, rfl, kP⟩
  ·have h5 : fx 5 = .int .u64 (d : Nat) := hd.1 rfl
   have h6 : fx 6 = .int .u64 (g : Nat) := hd.2.1 rfl
   go_wp2_with fail
   exact ⟨_, (by first | rfl | (show _ = Act.mk #[.int .i64 (n : Nat), .int .i64 (d : Nat), undef, undef, .pointer (some ⟨w.heap.size, 0, none⟩), .int .i64 0, .int .u64 (g : Nat), fx 8, fx 9, .int .i64 (d : Nat), .bool false, undef, .int .i64 (n : Nat), .int .i64 (d : Nat), .int .u64 (g : Nat), fx 0, fx 1, fx 2, fx 3, fx 4, fx 5, fx 6, Value.int .u64 (r : Nat), undef, undef, undef, undef, undef, undef, undef, undef, undef, undef, undef, undef, undef, undef, undef, undef, undef, undef, undef, undef, undef, undef] []; rw [h5, h6])), hC, rfl, kP⟩
  ·have h3 : fx 3 = .int .u64 (q : Nat) := hd.1 rfl
   go_wp2_with fail
   exact ⟨_, (by first | rfl | (show _ = Act.mk #[.int .i64 (n : Nat), .int .i64 (d : Nat), undef, undef, .pointer (some ⟨w.heap.size, 0, none⟩), .int .i64 0, .int .u64 (g : Nat), Value.int .u64 (q : Nat), fx 9, .int .i64 (d : Nat), .bool false, undef, .int .i64 (n : Nat), .int .i64 (d : Nat), .int .u64 (g : Nat), fx 0, fx 1, fx 2, fx 3, fx 4, fx 5, fx 6, fx 7, undef, undef, undef, undef, undef, undef, undef, undef, undef, undef, undef, undef, undef, undef, undef, undef, undef, undef, undef, undef, undef, undef] []; rw [h3])), hC, (by first | rfl | exact h3), kP⟩
  ·have h7 : fx 7 = .int .u64 (r : Nat) := hd.1 rfl
   go_wp2_with fail
   exact ⟨_, (by first | rfl | (show _ = Act.mk #[.int .i64 (n : Nat), .int .i64 (d : Nat), undef, undef, .pointer (some ⟨w.heap.size, 0, none⟩), .int .i64 0, .int .u64 (g : Nat), fx 8, Value.int .u64 (r : Nat), .int .i64 (d : Nat), .bool false, undef, .int .i64 (n : Nat), .int .i64 (d : Nat), .int .u64 (g : Nat), fx 0, fx 1, fx 2, fx 3, fx 4, fx 5, fx 6, fx 7, undef, undef, undef, undef, undef, undef, undef, undef, undef, undef, undef, undef, undef, undef, undef, undef, undef, undef, undef, undef, undef, undef] []; rw [h7])), hC, (by first | rfl | exact h7), kP⟩
 ·intro L fx w' hC hS
  have H8 := hid (hS 8 (by decide) rfl)
  have H9 := hid (hS 9 (by decide) rfl)
  have h8 : fx 8 = .int .u64 (q : Nat) := H8.out
  have h9 : fx 9 = .int .u64 (r : Nat) := H9.out
  rw [h8, h9]
  have HR3 := hid (row_kept HR2.out hC)
  have HBX := hid (HBV.out.trans (hC.mono HBV.out.size))
  have c0 := cell_of_row _ _ 0 _ _ _ HR3.out
  have c1 := cell_of_row _ _ 1 _ _ _ HR3.out
  have f0 := frozen_of_row _ _ 0 _ _ HR3.out
  have f1 := frozen_of_row _ _ 1 _ _ HR3.out
  clear hS hC H8 H9 h8 h9 HBV HR2
  go_wp2_with fail
  have hs := row2_set (x := (.int .i64 0)) (y := (.int .i64 0)) HR3.out
  have hl := run_loadVar_row (P := Tryz.prog) _ w.heap.size 74 74 #[(.int .i64 0), (.int .i64 0)] (0, 0) _ hs Tryz.underlying74 rfl (by show _ = some 2; kernel_rfl)
  refine bodyPost_ret (v := .tuple #[.agg #[(.int .i64 0), (.int .i64 0)], .int .i64 2]) ?_ rfl ⟨rfl, ((HBX.out.setCell (Nat.le_refl _) _).setCell (Nat.le_refl _) _)⟩
  simp [results, Tryz.results87, asAddr, hl]
theorem new_no2 (n d q r : Nat) (w : World) (hn : n ≤ 9223372036854775807) (hd2 : d ≤ 9223372036854775807) (h0 : 0 < d) (hq : Hid (n / Nat.gcd d n = q)) (hr : Hid (d / Nat.gcd d n = r)) (k0 : q ≤ 1073741824) (k1 : 1073741824 < r) :
  Calls Tryz.prog 87 #[.int .i64 (n : Nat), .int .i64 (d : Nat)] w fun e w' => e = .returned (.tuple #[.agg #[.int .i64 0, .int .i64 0], .int .i64 2]) ∧ Below w.heap.size w w' := by
 obtain ⟨g, HG⟩ : ∃ g, Hid (Nat.gcd d n = g) := ⟨_, hid rfl⟩
 rw [HG.out] at hq hr
 have hg0 : 0 < g := by rw [← HG.out]; exact Nat.gcd_pos_of_pos_left _ h0
 have dz : decide ((d : Int) = 0) = false := dQ (by omega)
 have dz2 : ((d : Int) == 0) = false := by simp; omega
 have dg : ((g : Int) == 0) = false := by simp; omega
 have dg2 : decide ((g : Int) = 0) = false := dQ (by omega)
 have hqn : q ≤ n := by rw [← hq.out]; exact Nat.div_le_self _ _
 have hrd : r ≤ d := by rw [← hr.out]; exact Nat.div_le_self _ _
 have HQ1 : Hid (IntKind.u64.wrap ((n : Int) / (g : Int)) = ((q : Nat) : Int)) := hid (by rw [IntKind.wrap_u64, ← Int.natCast_ediv, hq.out]; omega)
 have HR1 : Hid (IntKind.u64.wrap ((d : Int) / (g : Int)) = ((r : Nat) : Int)) := hid (by rw [IntKind.wrap_u64, ← Int.natCast_ediv, hr.out]; omega)
 have e1 := HQ1.out
 have e2 := HR1.out
 have dn0 : decide ((n : Int) < 0) = false := dQ (by omega)
 have dd0 : decide ((d : Int) < 0) = false := dQ (by omega)
 have t0 : decide (1073741824 < (q : Int)) = false := dQ (by omega)
 have t1 : decide (1073741824 < (r : Int)) = true := eQ (by omega)
 obtain ⟨W1, HW1⟩ : ∃ V, Hid (w.alloc (.cells #[.int .i64 0, .int .i64 0] 74) = V) := ⟨_, hid rfl⟩
 have hb := (Below.refl _ w).alloc (Nat.le_refl _) (.cells #[.int .i64 0, .int .i64 0] 74)
 have hw := heap_alloc_new w (.cells #[.int .i64 0, .int .i64 0] 74)
 rw [HW1.out] at hb hw
 have HR := hid hw
 have HBW := hid hb
 clear hb hw
 go_enter Tryz.func87, Tryz.ntmps87
 go_wp2_with (rw [HW1.out])
 refine (common_any n d _ hn hd2).mono ?_
 rintro e w1 ⟨rfl, hb1⟩
 rw [HG.out]
 have HR2 := hid (row_kept HR.out hb1)
 have HBV := hid (HBW.out.trans (hb1.mono HBW.out.size))
 have HB0 := hid (Below.refl w1.heap.size w1).drew
 clear hb1 HR HBW
 go_wp2_with fail
 refine region_flow3 (by kernel_rfl) (by kernel_rfl) (fun i => Nat.beq i 8 || Nat.beq i 9) (fun i => i) (by kernel_rfl) (fun fx => #[.int .i64 (n : Nat), .int .i64 (d : Nat), undef, undef, .pointer (some ⟨w.heap.size, 0, none⟩), .int .i64 0, .int .u64 (g : Nat), fx 8, fx 9, .int .i64 (d : Nat), .bool false, undef, .int .i64 (n : Nat), .int .i64 (d : Nat), .int .u64 (g : Nat), fx 0, fx 1, fx 2, fx 3, fx 4, fx 5, fx 6, fx 7, undef, undef, undef, undef, undef, undef, undef, undef, undef, undef, undef, undef, undef, undef, undef, undef, undef, undef, undef, undef, undef, undef]) (fun _ => undef) (fun _ _ w' => Below w1.heap.size w1 w') (fun fi fv _ fw => sNw n d g q r fi fv fw) HB0.out ?_ ?_
 ·refine ⟨?_, ?_, ?_, ?_, ?_, ?_, ?_, ?_, ?_, ?_, trivial⟩
  all_goals intro L fx w' hC hi hcl hdn hd
  ·go_wp2_with fail
   exact ⟨_, rfl, hC, rfl, kP⟩
  ·have h0 : fx 0 = .int .i64 (n : Nat) := hd.1 rfl
   go_wp2_with fail
   refine (rsize_any n _ hn).mono ?_
   rintro e w2 ⟨rfl, rfl⟩
   go_wp2_with fail
   exact ⟨_, (by first | rfl | (show _ = Act.mk #[.int .i64 (n : Nat), .int .i64 (d : Nat), undef, undef, .pointer (some ⟨w.heap.size, 0, none⟩), .int .i64 0, .int .u64 (g : Nat), fx 8, fx 9, .int .i64 (d : Nat), .bool false, undef, .int .i64 (n : Nat), .int .i64 (d : Nat), .int .u64 (g : Nat), fx 0, Value.int .u64 (n : Nat), fx 2, fx 3, fx 4, fx 5, fx 6, fx 7, undef, undef, undef, undef, undef, undef, undef, undef, undef, undef, undef, undef, undef, undef, undef, undef, undef, undef, undef, undef, undef, undef] []; rw [h0])), hC, rfl, kP⟩
  ·go_wp2_with fail
   exact ⟨_, rfl, hC, rfl, kP⟩
  ·have h1 : fx 1 = .int .u64 (n : Nat) := hd.1 rfl
   have h2 : fx 2 = .int .u64 (g : Nat) := hd.2.1 rfl
   go_wp2_with fail
   exact ⟨_, (by first | rfl | (show _ = Act.mk #[.int .i64 (n : Nat), .int .i64 (d : Nat), undef, undef, .pointer (some ⟨w.heap.size, 0, none⟩), .int .i64 0, .int .u64 (g : Nat), fx 8, fx 9, .int .i64 (d : Nat), .bool false, undef, .int .i64 (n : Nat), .int .i64 (d : Nat), .int .u64 (g : Nat), fx 0, fx 1, fx 2, Value.int .u64 (q : Nat), fx 4, fx 5, fx 6, fx 7, undef, undef, undef, undef, undef, undef, undef, undef, undef, undef, undef, undef, undef, undef, undef, undef, undef, undef, undef, undef, undef, undef] []; rw [h1, h2])), hC, rfl, kP⟩
  ·go_wp2_with fail
   exact ⟨_, rfl, hC, rfl, kP⟩
  ·have h4 : fx 4 = .int .i64 (d : Nat) := hd.1 rfl
   go_wp2_with fail
   refine (rsize_any d _ hd2).mono ?_
   rintro e w2 ⟨rfl, rfl⟩
   go_wp2_with fail
   exact ⟨_, (by first | rfl | (show _ = Act.mk #[.int .i64 (n : Nat), .int .i64 (d : Nat), undef, undef, .pointer (some ⟨w.heap.size, 0, none⟩), .int .i64 0, .int .u64 (g : Nat), fx 8, fx 9, .int .i64 (d : Nat), .bool false, undef, .int .i64 (n : Nat), .int .i64 (d : Nat), .int .u64 (g : Nat), fx 0, fx 1, fx 2, fx 3, fx 4, Value.int .u64 (d : Nat), fx 6, fx 7, undef, undef, undef, undef, undef, undef, undef, undef, undef, undef, undef, undef, undef, undef, undef, undef, undef, undef, undef, undef, undef, undef] []; rw [h4])), hC, rfl, kP⟩
  ·go_wp2_with fail
   exact ⟨_, rfl, hC, rfl, kP⟩
  ·have h5 : fx 5 = .int .u64 (d : Nat) := hd.1 rfl
   have h6 : fx 6 = .int .u64 (g : Nat) := hd.2.1 rfl
   go_wp2_with fail
   exact ⟨_, (by first | rfl | (show _ = Act.mk #[.int .i64 (n : Nat), .int .i64 (d : Nat), undef, undef, .pointer (some ⟨w.heap.size, 0, none⟩), .int .i64 0, .int .u64 (g : Nat), fx 8, fx 9, .int .i64 (d : Nat), .bool false, undef, .int .i64 (n : Nat), .int .i64 (d : Nat), .int .u64 (g : Nat), fx 0, fx 1, fx 2, fx 3, fx 4, fx 5, fx 6, Value.int .u64 (r : Nat), undef, undef, undef, undef, undef, undef, undef, undef, undef, undef, undef, undef, undef, undef, undef, undef, undef, undef, undef, undef, undef, undef] []; rw [h5, h6])), hC, rfl, kP⟩
  ·have h3 : fx 3 = .int .u64 (q : Nat) := hd.1 rfl
   go_wp2_with fail
   exact ⟨_, (by first | rfl | (show _ = Act.mk #[.int .i64 (n : Nat), .int .i64 (d : Nat), undef, undef, .pointer (some ⟨w.heap.size, 0, none⟩), .int .i64 0, .int .u64 (g : Nat), Value.int .u64 (q : Nat), fx 9, .int .i64 (d : Nat), .bool false, undef, .int .i64 (n : Nat), .int .i64 (d : Nat), .int .u64 (g : Nat), fx 0, fx 1, fx 2, fx 3, fx 4, fx 5, fx 6, fx 7, undef, undef, undef, undef, undef, undef, undef, undef, undef, undef, undef, undef, undef, undef, undef, undef, undef, undef, undef, undef, undef, undef] []; rw [h3])), hC, (by first | rfl | exact h3), kP⟩
  ·have h7 : fx 7 = .int .u64 (r : Nat) := hd.1 rfl
   go_wp2_with fail
   exact ⟨_, (by first | rfl | (show _ = Act.mk #[.int .i64 (n : Nat), .int .i64 (d : Nat), undef, undef, .pointer (some ⟨w.heap.size, 0, none⟩), .int .i64 0, .int .u64 (g : Nat), fx 8, Value.int .u64 (r : Nat), .int .i64 (d : Nat), .bool false, undef, .int .i64 (n : Nat), .int .i64 (d : Nat), .int .u64 (g : Nat), fx 0, fx 1, fx 2, fx 3, fx 4, fx 5, fx 6, fx 7, undef, undef, undef, undef, undef, undef, undef, undef, undef, undef, undef, undef, undef, undef, undef, undef, undef, undef, undef, undef, undef, undef] []; rw [h7])), hC, (by first | rfl | exact h7), kP⟩
 ·intro L fx w' hC hS
  have H8 := hid (hS 8 (by decide) rfl)
  have H9 := hid (hS 9 (by decide) rfl)
  have h8 : fx 8 = .int .u64 (q : Nat) := H8.out
  have h9 : fx 9 = .int .u64 (r : Nat) := H9.out
  rw [h8, h9]
  have HR3 := hid (row_kept HR2.out hC)
  have HBX := hid (HBV.out.trans (hC.mono HBV.out.size))
  have c0 := cell_of_row _ _ 0 _ _ _ HR3.out
  have c1 := cell_of_row _ _ 1 _ _ _ HR3.out
  have f0 := frozen_of_row _ _ 0 _ _ HR3.out
  have f1 := frozen_of_row _ _ 1 _ _ HR3.out
  clear hS hC H8 H9 h8 h9 HBV HR2
  go_wp2_with fail
  have hs := row2_set (x := (.int .i64 0)) (y := (.int .i64 0)) HR3.out
  have hl := run_loadVar_row (P := Tryz.prog) _ w.heap.size 74 74 #[(.int .i64 0), (.int .i64 0)] (0, 0) _ hs Tryz.underlying74 rfl (by show _ = some 2; kernel_rfl)
  refine bodyPost_ret (v := .tuple #[.agg #[(.int .i64 0), (.int .i64 0)], .int .i64 2]) ?_ rfl ⟨rfl, ((HBX.out.setCell (Nat.le_refl _) _).setCell (Nat.le_refl _) _)⟩
  simp [results, Tryz.results87, asAddr, hl]
theorem new_any (n d : Nat) (w : World) (hn : n ≤ 9223372036854775807) (hd2 : d ≤ 9223372036854775807) (h0 : 0 < d) :
  Calls Tryz.prog 87 #[.int .i64 (n : Nat), .int .i64 (d : Nat)] w fun e w' => e = .returned (.tuple #[.agg #[.int .i64 (ratR n d).1, .int .i64 (ratR n d).2.1], .int .i64 (ratR n d).2.2]) ∧ Below w.heap.size w w' := by
 obtain ⟨q, hq⟩ : ∃ q, n / Nat.gcd d n = q := ⟨_, rfl⟩
 obtain ⟨r, hr⟩ : ∃ r, d / Nat.gcd d n = r := ⟨_, rfl⟩
 unfold ratR
 rw [hq, hr]
 by_cases k0 : q ≤ 1073741824
 ·by_cases k1 : r ≤ 1073741824
  ·rw [if_pos ⟨k0, k1⟩]
   exact new_yes n d q r w hn hd2 h0 (hid hq) (hid hr) k0 k1
  ·rw [if_neg (fun h => k1 h.2)]
   exact new_no2 n d q r w hn hd2 h0 (hid hq) (hid hr) k0 (by omega)
 ·rw [if_neg (fun h => k0 h.1)]
  exact new_no1 n d q r w hn hd2 h0 (hid hq) (hid hr) (by omega)
/-- the sums inside are at most those of the node -/
theorem vj_le {f t : Nat} (hft : f < t) (lo hi : Nat) (h : lo < hi) : ∀ (ls : List Nd) (x : Nd) (r : List Nd) (c p : Int), vj f t lo hi ls = some (x, r, c, p) → vN x = true ∧ 0 ≤ c ∧ c ≤ x.c ∧ 0 ≤ p ∧ p ≤ x.p := by
 refine parts_ind hft (M := fun lo hi => ∀ (ls : List Nd) (x : Nd) (r : List Nd) (c p : Int), vj f t lo hi ls = some (x, r, c, p) → vN x = true ∧ 0 ≤ c ∧ c ≤ x.c ∧ 0 ≤ p ∧ p ≤ x.p) ?_ ?_ (hi - lo) lo hi h (Nat.le_refl _)
 ·intro lo hi hlt hc ls x r c p hv
  rw [vj_leaf hlt hc] at hv
  cases ls with
  | nil => cases hv
  | cons y ys =>
   rw [vj1_cons] at hv
   split at hv
   case isFalse => cases hv
   case isTrue hy =>
    simp only [Option.some.injEq, Prod.mk.injEq] at hv
    obtain ⟨rfl, rfl, rfl, rfl⟩ := hv
    have hb := vN_bd hy
    refine ⟨hy, ?_⟩
    split <;> omega
 ·intro lo hi hlt hc b1 b2 i1 i2 ls x r c p hv
  rw [vj_cut hlt hft hc] at hv
  unfold vjC at hv
  cases h1 : vj f t lo (lo + half (hi - lo)) ls with
  | none => rw [h1] at hv; cases hv
  | some q1 =>
   obtain ⟨a, r1, c1, p1⟩ := q1
   rw [h1] at hv
   dsimp only at hv
   cases h2 : vj f t (lo + half (hi - lo)) hi r1 with
   | none => rw [h2] at hv; cases hv
   | some q2 =>
    obtain ⟨b, r2, c2, p2⟩ := q2
    rw [h2] at hv
    dsimp only at hv
    split at hv
    case isFalse => cases hv
    case isTrue hvl =>
     simp only [Option.some.injEq, Prod.mk.injEq] at hv
     obtain ⟨rfl, rfl, rfl, rfl⟩ := hv
     have k1 := i1 _ _ _ _ _ h1
     have k2 := i2 _ _ _ _ _ h2
     have e : joinN a b = root [a, b] := rfl
     refine ⟨by rw [e]; exact vL_root (by simp) hvl, ?_⟩
     show 0 ≤ c1 + c2 ∧ c1 + c2 ≤ a.c + b.c ∧ 0 ≤ p1 + p2 ∧ p1 + p2 ≤ a.p + b.p
     omega
theorem vfS_bd (m : Int) (tree : Nd) (f t : Int) (ls : List Nd) : 0 ≤ (vfS m tree f t ls).1 ∧ (vfS m tree f t ls).1 ≤ 1073741824 ∧ 0 ≤ (vfS m tree f t ls).2.1 ∧ (vfS m tree f t ls).2.1 ≤ 12884901888 ∧ ((vfS m tree f t ls).2.2 = 0 → (vfS m tree f t ls).1 ≤ tree.c ∧ (vfS m tree f t ls).2.1 ≤ tree.p) ∧ ((vfS m tree f t ls).2.2 ≠ 0 → (vfS m tree f t ls).1 = 0 ∧ (vfS m tree f t ls).2.1 = 0) := by
 have bad : ∀ v : Int × Int × Int, v = (0, 0, 430) → 0 ≤ v.1 ∧ v.1 ≤ 1073741824 ∧ 0 ≤ v.2.1 ∧ v.2.1 ≤ 12884901888 ∧ (v.2.2 = 0 → v.1 ≤ tree.c ∧ v.2.1 ≤ tree.p) ∧ (v.2.2 ≠ 0 → v.1 = 0 ∧ v.2.1 = 0) := by
  rintro v rfl
  exact ⟨by decide, by decide, by decide, by decide, (fun h => by cases h), fun _ => ⟨rfl, rfl⟩⟩
 unfold vfS
 split
 case isFalse => exact bad _ rfl
 case isTrue hf =>
 obtain ⟨h0, h1, h2, h3⟩ := ftB_iff hf
 cases hv : vj f.toNat t.toNat 0 m.toNat ls with
 | none => exact bad _ rfl
 | some q =>
  obtain ⟨x, r, c, p⟩ := q
  cases r with
  | cons a b => exact bad _ rfl
  | nil =>
   dsimp only
   split
   case isFalse => exact bad _ rfl
   case isTrue hx =>
    have hk := vj_le (f := f.toNat) (t := t.toNat) (by omega) 0 m.toNat (by omega) _ _ _ _ _ hv
    have hb := vN_bd hk.1
    have e := (ndEq_iff _ _).1 hx
    subst e
    exact ⟨hk.2.1, by dsimp only; omega, hk.2.2.2.1, by dsimp only; omega, fun _ => ⟨hk.2.2.1, hk.2.2.2.2⟩, fun h => absurd rfl h⟩
/-- the average: numerator, denominator, error -/
def mnR (v : Int × Int × Int) : Int × Int × Int := if v.2.2 ≠ 0 then (0, 0, v.2.2) else if v.1 = 0 then (0, 1, 0) else ratR v.2.1.toNat v.1.toNat
theorem mean_no (r : Rt) (f t : Int) (A : Option Addr) (n cc : Nat) (ls : List Nd) (w : World) (hr : Hid (RtOk r)) (hin : Hid (InN w A n cc ls)) (hT : Hid (Tabs w)) (hl : ls.length ≤ 100000) (z : Int) (hz : z ≠ 0) (HV : Hid (vfS r.lin r.tree f t ls = (0, 0, z))) :
  Calls Tryz.prog 37 #[.agg (rtC r).toArray, .agg #[.int .i64 f, .int .i64 t, .slice A n cc]] w fun e w' => e = .returned (.tuple #[.agg #[.int .i64 0, .int .i64 0], .int .i64 z]) ∧ Below w.heap.size w w' := by
 have HRI := hid (rtC_info hr.out)
 obtain ⟨W1, HW1⟩ : ∃ V, Hid (((w.alloc (.cells (rtC r).toArray 43)).alloc (.cells #[.int .i64 f, .int .i64 t, .slice A n cc] 66)).alloc (.cells #[.int .i64 0, .int .i64 0] 74) = V) := ⟨_, hid rfl⟩
 have hb := (((Below.refl _ w).alloc (Nat.le_refl _) (.cells (rtC r).toArray 43)).alloc (by simp) (.cells #[.int .i64 f, .int .i64 t, .slice A n cc] 66)).alloc (by simp; omega) (.cells #[.int .i64 0, .int .i64 0] 74)
 have b1 := ((Below.refl _ (w.alloc (.cells (rtC r).toArray 43))).alloc (Nat.le_refl _) (.cells #[.int .i64 f, .int .i64 t, .slice A n cc] 66)).alloc (by simp) (.cells #[.int .i64 0, .int .i64 0] 74)
 have b2 := (Below.refl _ ((w.alloc (.cells (rtC r).toArray 43)).alloc (.cells #[.int .i64 f, .int .i64 t, .slice A n cc] 66))).alloc (Nat.le_refl _) (.cells #[.int .i64 0, .int .i64 0] 74)
 have r0 := row_kept (heap_alloc_new w (.cells (rtC r).toArray 43)) b1
 have r1 := row_kept (heap_alloc_new (w.alloc (.cells (rtC r).toArray 43)) (.cells #[.int .i64 f, .int .i64 t, .slice A n cc] 66)) b2
 have r2 := heap_alloc_new ((w.alloc (.cells (rtC r).toArray 43)).alloc (.cells #[.int .i64 f, .int .i64 t, .slice A n cc] 66)) (.cells #[.int .i64 0, .int .i64 0] 74)
 rw [World.size_alloc] at r1 r2
 rw [World.size_alloc] at r2
 rw [HW1.out] at hb r0 r1 r2
 have KI0 := hid (hin.out.below hb)
 have KT0 := hid (hT.out.below hb)
 have HB0 := hid hb
 have RR0 := hid r0
 have RP0 := hid r1
 have RZ0 := hid r2
 have p0 := cell_of_row _ _ 0 _ _ _ r1
 have p1 := cell_of_row _ _ 1 _ _ _ r1
 have p2 := cell_of_row _ _ 2 _ _ _ r1
 clear hb b1 b2 r0 r1 r2
 have dz : (z != 0) = true := by simp [hz]
 have dz2 : (z == 0) = false := by simp [hz]
 go_enter Tryz.func37, Tryz.ntmps37
 go_wp2_with (first | (rw [HW1.out]) | (refine wpList_load_row rfl 43 (.tmp 2) rfl (w.heap.size) rfl 43 _ (0, 0) _ RR0.out Tryz.underlying43 rfl HRI.out ?_))
 refine (verify43 r f t _ _ _ ls _ hr KI0 KT0 hl).mono ?_
 rintro e U1 ⟨rfl, hq⟩
 rw [HV.out]
 clear p0 p1 p2
 have HB2 := hid (HB0.out.trans (hq.mono HB0.out.size))
 have RR2 := hid (row_kept RR0.out hq)
 have RZ2 := hid (row_kept RZ0.out hq)
 have KI2 := hid (KI0.out.below hq)
 have KT2 := hid (KT0.out.below hq)
 clear hq HB0 RR0 RZ0 KI0 KT0
 have c0 := cell_of_row _ _ 0 _ _ _ RZ2.out
 have c1 := cell_of_row _ _ 1 _ _ _ RZ2.out
 have f0 := frozen_of_row _ _ 0 _ _ RZ2.out
 have f1 := frozen_of_row _ _ 1 _ _ RZ2.out
 go_wp2_with fail
 have hs := row2_set (x := .int .i64 0) (y := .int .i64 0) RZ2.out
 have hl2 := run_loadVar_row (P := Tryz.prog) _ (w.heap.size + 1 + 1) 74 74 #[.int .i64 0, .int .i64 0] (0, 0) _ hs Tryz.underlying74 rfl (by show _ = some 2; kernel_rfl)
 refine bodyPost_ret (v := .tuple #[.agg #[.int .i64 0, .int .i64 0], .int .i64 z]) ?_ rfl ⟨rfl, (HB2.out.setCell (by show w.heap.size ≤ w.heap.size + 1 + 1; omega) _).setCell (by show w.heap.size ≤ w.heap.size + 1 + 1; omega) _⟩
 simp [results, Tryz.results37, asAddr, hl2]
theorem mean_zero (r : Rt) (f t : Int) (A : Option Addr) (n cc : Nat) (ls : List Nd) (w : World) (hr : Hid (RtOk r)) (hin : Hid (InN w A n cc ls)) (hT : Hid (Tabs w)) (hl : ls.length ≤ 100000) (p : Int) (HV : Hid (vfS r.lin r.tree f t ls = (0, p, 0))) :
  Calls Tryz.prog 37 #[.agg (rtC r).toArray, .agg #[.int .i64 f, .int .i64 t, .slice A n cc]] w fun e w' => e = .returned (.tuple #[.agg #[.int .i64 0, .int .i64 1], .int .i64 0]) ∧ Below w.heap.size w w' := by
 have HRI := hid (rtC_info hr.out)
 obtain ⟨W1, HW1⟩ : ∃ V, Hid (((w.alloc (.cells (rtC r).toArray 43)).alloc (.cells #[.int .i64 f, .int .i64 t, .slice A n cc] 66)).alloc (.cells #[.int .i64 0, .int .i64 0] 74) = V) := ⟨_, hid rfl⟩
 have hb := (((Below.refl _ w).alloc (Nat.le_refl _) (.cells (rtC r).toArray 43)).alloc (by simp) (.cells #[.int .i64 f, .int .i64 t, .slice A n cc] 66)).alloc (by simp; omega) (.cells #[.int .i64 0, .int .i64 0] 74)
 have b1 := ((Below.refl _ (w.alloc (.cells (rtC r).toArray 43))).alloc (Nat.le_refl _) (.cells #[.int .i64 f, .int .i64 t, .slice A n cc] 66)).alloc (by simp) (.cells #[.int .i64 0, .int .i64 0] 74)
 have b2 := (Below.refl _ ((w.alloc (.cells (rtC r).toArray 43)).alloc (.cells #[.int .i64 f, .int .i64 t, .slice A n cc] 66))).alloc (Nat.le_refl _) (.cells #[.int .i64 0, .int .i64 0] 74)
 have r0 := row_kept (heap_alloc_new w (.cells (rtC r).toArray 43)) b1
 have r1 := row_kept (heap_alloc_new (w.alloc (.cells (rtC r).toArray 43)) (.cells #[.int .i64 f, .int .i64 t, .slice A n cc] 66)) b2
 have r2 := heap_alloc_new ((w.alloc (.cells (rtC r).toArray 43)).alloc (.cells #[.int .i64 f, .int .i64 t, .slice A n cc] 66)) (.cells #[.int .i64 0, .int .i64 0] 74)
 rw [World.size_alloc] at r1 r2
 rw [World.size_alloc] at r2
 rw [HW1.out] at hb r0 r1 r2
 have KI0 := hid (hin.out.below hb)
 have KT0 := hid (hT.out.below hb)
 have HB0 := hid hb
 have RR0 := hid r0
 have RP0 := hid r1
 have RZ0 := hid r2
 have p0 := cell_of_row _ _ 0 _ _ _ r1
 have p1 := cell_of_row _ _ 1 _ _ _ r1
 have p2 := cell_of_row _ _ 2 _ _ _ r1
 clear hb b1 b2 r0 r1 r2
 skip
 go_enter Tryz.func37, Tryz.ntmps37
 go_wp2_with (first | (rw [HW1.out]) | (refine wpList_load_row rfl 43 (.tmp 2) rfl (w.heap.size) rfl 43 _ (0, 0) _ RR0.out Tryz.underlying43 rfl HRI.out ?_))
 refine (verify43 r f t _ _ _ ls _ hr KI0 KT0 hl).mono ?_
 rintro e U1 ⟨rfl, hq⟩
 rw [HV.out]
 clear p0 p1 p2
 have HB2 := hid (HB0.out.trans (hq.mono HB0.out.size))
 have RR2 := hid (row_kept RR0.out hq)
 have RZ2 := hid (row_kept RZ0.out hq)
 have KI2 := hid (KI0.out.below hq)
 have KT2 := hid (KT0.out.below hq)
 clear hq HB0 RR0 RZ0 KI0 KT0
 have c0 := cell_of_row _ _ 0 _ _ _ RZ2.out
 have c1 := cell_of_row _ _ 1 _ _ _ RZ2.out
 have f0 := frozen_of_row _ _ 0 _ _ RZ2.out
 have f1 := frozen_of_row _ _ 1 _ _ RZ2.out
 go_wp2_with fail
 have hs := row2_set (x := .int .i64 0) (y := .int .i64 1) RZ2.out
 have hl2 := run_loadVar_row (P := Tryz.prog) _ (w.heap.size + 1 + 1) 74 74 #[.int .i64 0, .int .i64 1] (0, 0) _ hs Tryz.underlying74 rfl (by show _ = some 2; kernel_rfl)
 refine bodyPost_ret (v := .tuple #[.agg #[.int .i64 0, .int .i64 1], .int .i64 0]) ?_ rfl ⟨rfl, (HB2.out.setCell (by show w.heap.size ≤ w.heap.size + 1 + 1; omega) _).setCell (by show w.heap.size ≤ w.heap.size + 1 + 1; omega) _⟩
 simp [results, Tryz.results37, asAddr, hl2]
theorem mean_yes (r : Rt) (f t : Int) (A : Option Addr) (n cc : Nat) (ls : List Nd) (w : World) (hr : Hid (RtOk r)) (hin : Hid (InN w A n cc ls)) (hT : Hid (Tabs w)) (hl : ls.length ≤ 100000) (p d : Nat) (x y z3 : Int) (h0 : 0 < d) (hp : p ≤ 9223372036854775807) (hd2 : d ≤ 9223372036854775807) (HX : Hid (ratR p d = (x, y, z3))) (HV : Hid (vfS r.lin r.tree f t ls = (((d : Nat) : Int), ((p : Nat) : Int), 0))) :
  Calls Tryz.prog 37 #[.agg (rtC r).toArray, .agg #[.int .i64 f, .int .i64 t, .slice A n cc]] w fun e w' => e = .returned (.tuple #[.agg #[.int .i64 x, .int .i64 y], .int .i64 z3]) ∧ Below w.heap.size w w' := by
 have HRI := hid (rtC_info hr.out)
 obtain ⟨W1, HW1⟩ : ∃ V, Hid (((w.alloc (.cells (rtC r).toArray 43)).alloc (.cells #[.int .i64 f, .int .i64 t, .slice A n cc] 66)).alloc (.cells #[.int .i64 0, .int .i64 0] 74) = V) := ⟨_, hid rfl⟩
 have hb := (((Below.refl _ w).alloc (Nat.le_refl _) (.cells (rtC r).toArray 43)).alloc (by simp) (.cells #[.int .i64 f, .int .i64 t, .slice A n cc] 66)).alloc (by simp; omega) (.cells #[.int .i64 0, .int .i64 0] 74)
 have b1 := ((Below.refl _ (w.alloc (.cells (rtC r).toArray 43))).alloc (Nat.le_refl _) (.cells #[.int .i64 f, .int .i64 t, .slice A n cc] 66)).alloc (by simp) (.cells #[.int .i64 0, .int .i64 0] 74)
 have b2 := (Below.refl _ ((w.alloc (.cells (rtC r).toArray 43)).alloc (.cells #[.int .i64 f, .int .i64 t, .slice A n cc] 66))).alloc (Nat.le_refl _) (.cells #[.int .i64 0, .int .i64 0] 74)
 have r0 := row_kept (heap_alloc_new w (.cells (rtC r).toArray 43)) b1
 have r1 := row_kept (heap_alloc_new (w.alloc (.cells (rtC r).toArray 43)) (.cells #[.int .i64 f, .int .i64 t, .slice A n cc] 66)) b2
 have r2 := heap_alloc_new ((w.alloc (.cells (rtC r).toArray 43)).alloc (.cells #[.int .i64 f, .int .i64 t, .slice A n cc] 66)) (.cells #[.int .i64 0, .int .i64 0] 74)
 rw [World.size_alloc] at r1 r2
 rw [World.size_alloc] at r2
 rw [HW1.out] at hb r0 r1 r2
 have KI0 := hid (hin.out.below hb)
 have KT0 := hid (hT.out.below hb)
 have HB0 := hid hb
 have RR0 := hid r0
 have RP0 := hid r1
 have RZ0 := hid r2
 have p0 := cell_of_row _ _ 0 _ _ _ r1
 have p1 := cell_of_row _ _ 1 _ _ _ r1
 have p2 := cell_of_row _ _ 2 _ _ _ r1
 clear hb b1 b2 r0 r1 r2
 have dz : decide ((d : Int) = 0) = false := dQ (by omega)
 have dz2 : ((d : Int) == 0) = false := by simp; omega
 go_enter Tryz.func37, Tryz.ntmps37
 go_wp2_with (first | (rw [HW1.out]) | (refine wpList_load_row rfl 43 (.tmp 2) rfl (w.heap.size) rfl 43 _ (0, 0) _ RR0.out Tryz.underlying43 rfl HRI.out ?_))
 refine (verify43 r f t _ _ _ ls _ hr KI0 KT0 hl).mono ?_
 rintro e U1 ⟨rfl, hq⟩
 rw [HV.out]
 clear p0 p1 p2
 have HB2 := hid (HB0.out.trans (hq.mono HB0.out.size))
 have RR2 := hid (row_kept RR0.out hq)
 have RZ2 := hid (row_kept RZ0.out hq)
 have KI2 := hid (KI0.out.below hq)
 have KT2 := hid (KT0.out.below hq)
 clear hq HB0 RR0 RZ0 KI0 KT0
 have c0 := cell_of_row _ _ 0 _ _ _ RZ2.out
 have c1 := cell_of_row _ _ 1 _ _ _ RZ2.out
 have f0 := frozen_of_row _ _ 0 _ _ RZ2.out
 have f1 := frozen_of_row _ _ 1 _ _ RZ2.out
 go_wp2_with fail
 refine (new_any p d _ hp hd2 h0).mono ?_
 rintro e U3 ⟨rfl, hq⟩
 rw [HX.out]
 clear c0 c1 f0 f1
 have HB4 := hid (HB2.out.trans (hq.mono HB2.out.size))
 have RR4 := hid (row_kept RR2.out hq)
 have RZ4 := hid (row_kept RZ2.out hq)
 have KI4 := hid (KI2.out.below hq)
 have KT4 := hid (KT2.out.below hq)
 clear hq HB2 RR2 RZ2 KI2 KT2
 have c0 := cell_of_row _ _ 0 _ _ _ RZ4.out
 have c1 := cell_of_row _ _ 1 _ _ _ RZ4.out
 have f0 := frozen_of_row _ _ 0 _ _ RZ4.out
 have f1 := frozen_of_row _ _ 1 _ _ RZ4.out
 go_wp2_with fail
 have hs := row2_set (x := .int .i64 x) (y := .int .i64 y) RZ4.out
 have hl2 := run_loadVar_row (P := Tryz.prog) _ (w.heap.size + 1 + 1) 74 74 #[.int .i64 x, .int .i64 y] (0, 0) _ hs Tryz.underlying74 rfl (by show _ = some 2; kernel_rfl)
 refine bodyPost_ret (v := .tuple #[.agg #[.int .i64 x, .int .i64 y], .int .i64 z3]) ?_ rfl ⟨rfl, (HB4.out.setCell (by show w.heap.size ≤ w.heap.size + 1 + 1; omega) _).setCell (by show w.heap.size ≤ w.heap.size + 1 + 1; omega) _⟩
 simp [results, Tryz.results37, asAddr, hl2]
theorem mean43 (r : Rt) (f t : Int) (A : Option Addr) (n cc : Nat) (ls : List Nd) (w : World) (hr : Hid (RtOk r)) (hin : Hid (InN w A n cc ls)) (hT : Hid (Tabs w)) (hl : ls.length ≤ 100000) :
  Calls Tryz.prog 37 #[.agg (rtC r).toArray, .agg #[.int .i64 f, .int .i64 t, .slice A n cc]] w fun e w' => e = .returned (.tuple #[.agg #[.int .i64 (mnR (vfS r.lin r.tree f t ls)).1, .int .i64 (mnR (vfS r.lin r.tree f t ls)).2.1], .int .i64 (mnR (vfS r.lin r.tree f t ls)).2.2]) ∧ Below w.heap.size w w' := by
 have hb := vfS_bd r.lin r.tree f t ls
 obtain ⟨v, HV⟩ : ∃ v, vfS r.lin r.tree f t ls = v := ⟨_, rfl⟩
 obtain ⟨c, p, z⟩ := v
 rw [HV] at hb ⊢
 dsimp only at hb
 unfold mnR
 dsimp only
 by_cases hz : z = 0
 ·subst hz
  rw [if_neg (by simp)]
  by_cases hc : c = 0
  ·subst hc
   rw [if_pos rfl]
   exact mean_zero r f t A n cc ls w hr hin hT hl p (hid HV)
  ·rw [if_neg hc]
   obtain ⟨d, rfl⟩ : ∃ d : Nat, c = (d : Nat) := ⟨c.toNat, by omega⟩
   obtain ⟨k, rfl⟩ : ∃ k : Nat, p = (k : Nat) := ⟨p.toNat, by omega⟩
   rw [Int.toNat_natCast, Int.toNat_natCast]
   obtain ⟨x, hx⟩ : ∃ x, ratR k d = x := ⟨_, rfl⟩
   obtain ⟨x, y, e⟩ := x
   rw [hx]
   exact mean_yes r f t A n cc ls w hr hin hT hl k d x y e (by omega) (by omega) (by omega) (hid hx) (hid HV)
 ·rw [if_pos hz]
  obtain ⟨rfl, rfl⟩ := hb.2.2.2.2.2 hz
  exact mean_no r f t A n cc ls w hr hin hT hl z hz (hid HV)
structure Spn where
 a : Int
 b : Int
deriving DecidableEq
def spnC (x : Spn) : List Value := [.int .i64 x.a, .int .i64 x.b]
def spnV (x : Spn) : Value := .agg (spnC x).toArray
/-- equality -/
def spEq (a b : Spn) : Bool := a.a == b.a && (a.b == b.b)
theorem spEq_iff (a b : Spn) : spEq a b = true ↔ a = b := by
 cases a; cases b
 simp [spEq]
theorem sp_part0 (x : Spn) (w : World) : (part 3 (spnC x).toArray 0).run Tryz.prog w = .ok (.int .i64 x.a) w := by
 have hu := Tryz.underlying3
 simp [part, isAgg, run_underlying hu, spnC]
theorem sp_part1 (x : Spn) (w : World) : (part 3 (spnC x).toArray 1).run Tryz.prog w = .ok (.int .i64 x.b) w := by
 have hu := Tryz.underlying3
 simp [part, isAgg, run_underlying hu, spnC]
theorem equal_sp (a b : Spn) (w : World) : (Op.equalIn 10000 119 (spnV a) (spnV b)).run Tryz.prog w = .ok (spEq a b) w := by
 have hf : (Tryz.prog.fieldsOf 119).toList.map (fun f => (f.name != "_", f.type, f.offset)) = [(true, 3, 0), (true, 3, 1)] := by kernel_rfl
 have hS : Tryz.prog.underlying 119 = some (.struct (Tryz.prog.fieldsOf 119)) := by kernel_rfl
 have hp : Tryz.prog.stoodInHeld 119 = false := by kernel_rfl
 unfold spnV
 rw [show (10000 : Nat) = 9999 + 1 from rfl, run_equalIn_agg w 9999 _ _ _ hS hp]
 generalize (Tryz.prog.fieldsOf 119).toList = fs at hf
 obtain ⟨f0, f1, rfl⟩ : ∃ f0 f1, fs = [f0, f1] := by
  have hl := congrArg List.length hf
  simp only [List.length_map, List.length_cons, List.length_nil] at hl
  rcases fs with _ | ⟨f0, fs⟩
  ·simp at hl
  rcases fs with _ | ⟨f1, fs⟩
  ·simp at hl
  rcases fs with _ | ⟨f2, fs⟩
  ·exact ⟨f0, f1, rfl⟩
  ·simp at hl
 simp only [List.map_cons, List.map_nil, List.cons.injEq, Prod.mk.injEq, and_true, bne_iff_ne, ne_eq] at hf
 obtain ⟨⟨n0, t0, o0⟩, n1, t1, o1⟩ := hf
 have q0 := run_equalIn_int (P := Tryz.prog) w 9998 3 .i64 _ a.a b.a Tryz.underlying3
 have q1 := run_equalIn_int (P := Tryz.prog) w 9998 3 .i64 _ a.b b.b Tryz.underlying3
 simp only [Nat.reduceAdd] at q0 q1
 have e1 : (Op.eqFields 9999 (spnC a).toArray (spnC b).toArray [f1]).run Tryz.prog w = .ok (a.b == b.b) w := by
  simp only [Op.eqFields, n1, t1, o1, not_false_eq_true, ne_eq, if_true, Sem.run_bind, sp_part1, Result.andThen_ok, q1]
  cases a.b == b.b <;> rfl
 have e0 : (Op.eqFields 9999 (spnC a).toArray (spnC b).toArray [f0, f1]).run Tryz.prog w = .ok (a.a == b.a && (a.b == b.b)) w := by
  rw [Op.eqFields]
  simp only [n0, t0, o0, not_false_eq_true, ne_eq, if_true, Sem.run_bind, sp_part0, Result.andThen_ok, q0]
  cases a.a == b.a
  ·rfl
  ·exact e1
 exact e0
theorem neq_sp (a b : Spn) (w : World) : (binOp .neq 119 (spnV a) (spnV b)).run Tryz.prog w = .ok (.bool (!(spEq a b))) w := by
 have := equal_sp a b w
 unfold spnV at this ⊢
 rw [run_neq_struct, this]; rfl
theorem guard_sp (op : BinOp) (x y : Operand) (a b : Spn) (w : World) : (eqGuard op 119 x y (spnV a) (spnV b)).run Tryz.prog w = .ok () w := by
 unfold spnV
 exact run_eqGuard_agg w op _ x y _ _ (by kernel_rfl)
theorem wpList_neq_sp {w : World} {ops : Array Oper} {rest : List Oper} {o : Oper} {a : Act} {Q : Exit → Act → World → Prop} (hg : o.guard = none) (x y : Operand) (t : TypeId)
  (ho : o.op = .binOp .neq 119 x y t) (m n : Spn) (hx : a.eval x = spnV m) (hy : a.eval y = spnV n)
  (h : wpList Tryz.prog ops Q rest (a.put o.dst (.bool (!(spEq m n)))) w) : wpList Tryz.prog ops Q (o :: rest) a w :=
 wpList_plain hg fun _ hK => by
  unfold Oper.wp execOp
  simp only [ho, hx, hy, Sem.run_bind, guard_sp, neq_sp m n, Result.andThen_ok]
  exact hK _ _ h
theorem spEq_refl (a : Spn) : spEq a a = true := (spEq_iff a a).2 rfl
structure Rat2 where
 n : Int
 d : Int
deriving DecidableEq
def raC (x : Rat2) : List Value := [.int .i64 x.n, .int .i64 x.d]
def raV (x : Rat2) : Value := .agg (raC x).toArray
/-- equality -/
def raEq (a b : Rat2) : Bool := a.n == b.n && (a.d == b.d)
theorem raEq_iff (a b : Rat2) : raEq a b = true ↔ a = b := by
 cases a; cases b
 simp [raEq]
theorem ra_part0 (x : Rat2) (w : World) : (part 3 (raC x).toArray 0).run Tryz.prog w = .ok (.int .i64 x.n) w := by
 have hu := Tryz.underlying3
 simp [part, isAgg, run_underlying hu, raC]
theorem ra_part1 (x : Rat2) (w : World) : (part 3 (raC x).toArray 1).run Tryz.prog w = .ok (.int .i64 x.d) w := by
 have hu := Tryz.underlying3
 simp [part, isAgg, run_underlying hu, raC]
theorem equal_ra (a b : Rat2) (w : World) : (Op.equalIn 10000 74 (raV a) (raV b)).run Tryz.prog w = .ok (raEq a b) w := by
 have hf : (Tryz.prog.fieldsOf 74).toList.map (fun f => (f.name != "_", f.type, f.offset)) = [(true, 3, 0), (true, 3, 1)] := by kernel_rfl
 have hS : Tryz.prog.underlying 74 = some (.struct (Tryz.prog.fieldsOf 74)) := by kernel_rfl
 have hp : Tryz.prog.stoodInHeld 74 = false := by kernel_rfl
 unfold raV
 rw [show (10000 : Nat) = 9999 + 1 from rfl, run_equalIn_agg w 9999 _ _ _ hS hp]
 generalize (Tryz.prog.fieldsOf 74).toList = fs at hf
 obtain ⟨f0, f1, rfl⟩ : ∃ f0 f1, fs = [f0, f1] := by
  have hl := congrArg List.length hf
  simp only [List.length_map, List.length_cons, List.length_nil] at hl
  rcases fs with _ | ⟨f0, fs⟩
  ·simp at hl
  rcases fs with _ | ⟨f1, fs⟩
  ·simp at hl
  rcases fs with _ | ⟨f2, fs⟩
  ·exact ⟨f0, f1, rfl⟩
  ·simp at hl
 simp only [List.map_cons, List.map_nil, List.cons.injEq, Prod.mk.injEq, and_true, bne_iff_ne, ne_eq] at hf
 obtain ⟨⟨n0, t0, o0⟩, n1, t1, o1⟩ := hf
 have q0 := run_equalIn_int (P := Tryz.prog) w 9998 3 .i64 _ a.n b.n Tryz.underlying3
 have q1 := run_equalIn_int (P := Tryz.prog) w 9998 3 .i64 _ a.d b.d Tryz.underlying3
 simp only [Nat.reduceAdd] at q0 q1
 have e1 : (Op.eqFields 9999 (raC a).toArray (raC b).toArray [f1]).run Tryz.prog w = .ok (a.d == b.d) w := by
  simp only [Op.eqFields, n1, t1, o1, not_false_eq_true, ne_eq, if_true, Sem.run_bind, ra_part1, Result.andThen_ok, q1]
  cases a.d == b.d <;> rfl
 have e0 : (Op.eqFields 9999 (raC a).toArray (raC b).toArray [f0, f1]).run Tryz.prog w = .ok (a.n == b.n && (a.d == b.d)) w := by
  rw [Op.eqFields]
  simp only [n0, t0, o0, not_false_eq_true, ne_eq, if_true, Sem.run_bind, ra_part0, Result.andThen_ok, q0]
  cases a.n == b.n
  ·rfl
  ·exact e1
 exact e0
theorem eql_ra (a b : Rat2) (w : World) : (binOp .eql 74 (raV a) (raV b)).run Tryz.prog w = .ok (.bool ((raEq a b))) w := by
 have := equal_ra a b w
 unfold raV at this ⊢
 rw [run_eql_struct, this]; rfl
theorem guard_ra (op : BinOp) (x y : Operand) (a b : Rat2) (w : World) : (eqGuard op 74 x y (raV a) (raV b)).run Tryz.prog w = .ok () w := by
 unfold raV
 exact run_eqGuard_agg w op _ x y _ _ (by kernel_rfl)
theorem wpList_eql_ra {w : World} {ops : Array Oper} {rest : List Oper} {o : Oper} {a : Act} {Q : Exit → Act → World → Prop} (hg : o.guard = none) (x y : Operand) (t : TypeId)
  (ho : o.op = .binOp .eql 74 x y t) (m n : Rat2) (hx : a.eval x = raV m) (hy : a.eval y = raV n)
  (h : wpList Tryz.prog ops Q rest (a.put o.dst (.bool ((raEq m n)))) w) : wpList Tryz.prog ops Q (o :: rest) a w :=
 wpList_plain hg fun _ hK => by
  unfold Oper.wp execOp
  simp only [ho, hx, hy, Sem.run_bind, guard_ra, eql_ra m n, Result.andThen_ok]
  exact hK _ _ h
theorem raEq_refl (a : Rat2) : raEq a a = true := (raEq_iff a a).2 rfl
def ptS (x : Pt) : Spn := ⟨(x.lo : Nat), (x.hi : Nat)⟩
theorem sp_info (x : Spn) : (Tryz.prog.info? 119).map (·.size) = some (spnC x).length := by show _ = some 2; kernel_rfl
def sSS (x : Spn) (A B : Option Addr) (n c c2 j g o g2 o2 : Nat) : Nat → Value → World → Prop
 | 0, fv, _ => fv = .slice A n c
 | 1, fv, _ => fv = .int .i64 (j : Nat)
 | 2, fv, _ => fv = .pointer (some ⟨g, o, none⟩)
 | 3, fv, _ => fv = spnV x
 | 4, fv, _ => fv = .slice B n c2
 | 5, fv, _ => fv = .int .i64 (j : Nat)
 | 6, fv, _ => fv = .pointer (some ⟨g2, o2, none⟩)
 | 7, fv, _ => fv = spnV x
 | 8, fv, _ => fv = .bool false
 | _, _, _ => True
theorem samespans_yes (A B : Option Addr) (n c c2 : Nat) (ls ms : List Pt) (w : World) (h : Hid (InS w A n c ls)) (k : Hid (InS w B n c2 ms)) (he : Hid (ls.map ptS = ms.map ptS)) (hn : n ≤ 100000) :
  Calls Tryz.prog 71 #[.slice A n c, .slice B n c2] w fun e w' => e = .returned (.bool true) ∧ Below w.heap.size w w' := by
 have dn : ((n : Int) != (n : Int)) = false := by simp
 have HB0 := hid (Below.refl w.heap.size w)
 go_enter Tryz.func71, Tryz.ntmps71
 go_wp2_with fail
 go_loopw [5] (fun v wr => ∃ j : Nat, j ≤ n ∧ v = .int .i64 (j : Nat) ∧ Hid (Below w.heap.size w wr)) (fun v _ => n - (intOf v).toNat)
 case atStart => exact ⟨0, by omega, rfl, HB0⟩
 case round =>
  obtain ⟨j, hj, rfl, HBQ⟩ := hrel
  by_cases hlt : j < n
  ·have d1 : decide ((j : Int) < (n : Int)) = true := eQ (by omega)
   have d2 : decide (j < n) = true := eQ hlt
   have h1 := h.out.below HBQ.out
   have h2 := k.out.below HBQ.out
   have hjl : j < ls.length := by rw [h1.len]; exact hlt
   have hjm : j < ms.length := by rw [h2.len]; exact hlt
   obtain ⟨g, o, rfl, hg, hr⟩ := h1.rd (by omega)
   obtain ⟨g2, o2, rfl, hg2, hr2⟩ := h2.rd (by omega)
   obtain ⟨x, HX⟩ : ∃ x, Hid (ptS ls[j] = x) := ⟨_, hid rfl⟩
   have HY : Hid (ptS ms[j] = x) := hid (by
    have e1 : (ls.map ptS)[j]? = (ms.map ptS)[j]? := by rw [he.out]
    rw [List.getElem?_map, List.getElem?_map, List.getElem?_eq_getElem hjl, List.getElem?_eq_getElem hjm] at e1
    have e2 := Option.some.inj e1
    rw [← e2]; exact HX.out)
   have HR1 : Hid (wr.rangeAt g (o + j * 2) (spnC x)) := hid (by rw [← HX.out]; exact range_elem (k := 2) (cells := spC) (fun _ => rfl) hr j hjl)
   have HR2 : Hid (wr.rangeAt g2 (o2 + j * 2) (spnC x)) := hid (by rw [← HY.out]; exact range_elem (k := 2) (cells := spC) (fun _ => rfl) hr2 j hjm)
   have HII := hid (sp_info x)
   have HB1 := hid (Below.refl wr.heap.size wr).drew
   have HG1 := hid hg
   have HG2 := hid hg2
   have hjl2 := hid hjl
   clear hr hr2 HX HY h1 h2 hjl hjm hg hg2 HB0
   go_wp2_with fail
   refine region_flow3 (by kernel_rfl) (by kernel_rfl) (fun i => Nat.beq i 8) (fun i => i) (by kernel_rfl) (fun fx => #[.slice (some { block := g, off := o }) n c, .slice (some { block := g2, off := o2 }) n c2, undef, undef, u4, .int IntKind.i64 ↑j, .slice (some { block := g, off := o }) n c, .int IntKind.i64 ↑n, .slice (some { block := g2, off := o2 }) n c2, .int IntKind.i64 ↑n, .bool false, .int IntKind.i64 ↑j, .slice (some { block := g, off := o }) n c, .int IntKind.i64 ↑n, .bool true, u15, u16, fx 0, fx 1, fx 2, fx 3, fx 4, fx 5, fx 6, fx 7, fx 8]) (fun i => bif Nat.beq i 0 then u17 else bif Nat.beq i 1 then u18 else bif Nat.beq i 2 then u19 else bif Nat.beq i 3 then u20 else bif Nat.beq i 4 then u21 else bif Nat.beq i 5 then u22 else bif Nat.beq i 6 then u23 else bif Nat.beq i 7 then u24 else bif Nat.beq i 8 then u25 else undef) (fun _ _ w' => Below wr.heap.size wr w') (fun fi fv _ fw => sSS x (some ⟨g, o, none⟩) (some ⟨g2, o2, none⟩) n c c2 j g (o + j * 2) g2 (o2 + j * 2) fi fv fw) HB1.out ?_ ?_
   ·refine ⟨?_, ?_, ?_, ?_, ?_, ?_, ?_, ?_, ?_, trivial⟩
    all_goals intro L fx w' hC hi hcl hdn hd
    ·go_wp2_with fail
     exact ⟨_, rfl, hC, rfl, kP⟩
    ·go_wp2_with fail
     exact ⟨_, rfl, hC, rfl, kP⟩
    ·have h0 : fx 0 = .slice (some ⟨g, o, none⟩) n c := hd.1 rfl
     have h1 : fx 1 = .int .i64 (j : Nat) := hd.2.1 rfl
     go_wp2_with fail
     exact ⟨_, (by show _ = Act.mk #[Value.slice (some { block := g, off := o }) n c, Value.slice (some { block := g2, off := o2 }) n c2, undef, undef, u4, Value.int IntKind.i64 ↑j, Value.slice (some { block := g, off := o }) n c, Value.int IntKind.i64 ↑n, Value.slice (some { block := g2, off := o2 }) n c2, Value.int IntKind.i64 ↑n, Value.bool false, Value.int IntKind.i64 ↑j, Value.slice (some { block := g, off := o }) n c, Value.int IntKind.i64 ↑n, Value.bool true, u15, u16, fx 0, fx 1, Value.pointer (some ⟨g, o + j * 2, none⟩), fx 3, fx 4, fx 5, fx 6, fx 7, fx 8] []; rw [h0, h1] <;> rfl), hC, rfl, kP⟩
    ·have h2 : fx 2 = .pointer (some ⟨g, o + j * 2, none⟩) := hd.1 rfl
     have hr := rangeAt_below HR1.out HG1.out hC
     refine wpList_load_mid rfl 119 (.tmp 19) rfl (g) (o + j * 2) h2 (spnC x) _ hr Tryz.underlying119 rfl HII.out ?_
     clear hr hd
     go_wp2_with fail
     exact ⟨_, (by show _ = Act.mk #[Value.slice (some { block := g, off := o }) n c, Value.slice (some { block := g2, off := o2 }) n c2, undef, undef, u4, Value.int IntKind.i64 ↑j, Value.slice (some { block := g, off := o }) n c, Value.int IntKind.i64 ↑n, Value.slice (some { block := g2, off := o2 }) n c2, Value.int IntKind.i64 ↑n, Value.bool false, Value.int IntKind.i64 ↑j, Value.slice (some { block := g, off := o }) n c, Value.int IntKind.i64 ↑n, Value.bool true, u15, u16, fx 0, fx 1, fx 2, spnV x, fx 4, fx 5, fx 6, fx 7, fx 8] []; rw [h2] <;> rfl), hC, rfl, kP⟩
    ·go_wp2_with fail
     exact ⟨_, rfl, hC, rfl, kP⟩
    ·go_wp2_with fail
     exact ⟨_, rfl, hC, rfl, kP⟩
    ·have h4 : fx 4 = .slice (some ⟨g2, o2, none⟩) n c2 := hd.1 rfl
     have h5 : fx 5 = .int .i64 (j : Nat) := hd.2.1 rfl
     go_wp2_with fail
     exact ⟨_, (by show _ = Act.mk #[Value.slice (some { block := g, off := o }) n c, Value.slice (some { block := g2, off := o2 }) n c2, undef, undef, u4, Value.int IntKind.i64 ↑j, Value.slice (some { block := g, off := o }) n c, Value.int IntKind.i64 ↑n, Value.slice (some { block := g2, off := o2 }) n c2, Value.int IntKind.i64 ↑n, Value.bool false, Value.int IntKind.i64 ↑j, Value.slice (some { block := g, off := o }) n c, Value.int IntKind.i64 ↑n, Value.bool true, u15, u16, fx 0, fx 1, fx 2, fx 3, fx 4, fx 5, Value.pointer (some ⟨g2, o2 + j * 2, none⟩), fx 7, fx 8] []; rw [h4, h5] <;> rfl), hC, rfl, kP⟩
    ·have h6 : fx 6 = .pointer (some ⟨g2, o2 + j * 2, none⟩) := hd.1 rfl
     have hr := rangeAt_below HR2.out HG2.out hC
     refine wpList_load_mid rfl 119 (.tmp 23) rfl (g2) (o2 + j * 2) h6 (spnC x) _ hr Tryz.underlying119 rfl HII.out ?_
     clear hr hd
     go_wp2_with fail
     exact ⟨_, (by show _ = Act.mk #[Value.slice (some { block := g, off := o }) n c, Value.slice (some { block := g2, off := o2 }) n c2, undef, undef, u4, Value.int IntKind.i64 ↑j, Value.slice (some { block := g, off := o }) n c, Value.int IntKind.i64 ↑n, Value.slice (some { block := g2, off := o2 }) n c2, Value.int IntKind.i64 ↑n, Value.bool false, Value.int IntKind.i64 ↑j, Value.slice (some { block := g, off := o }) n c, Value.int IntKind.i64 ↑n, Value.bool true, u15, u16, fx 0, fx 1, fx 2, fx 3, fx 4, fx 5, fx 6, spnV x, fx 8] []; rw [h6] <;> rfl), hC, rfl, kP⟩
    ·have h3 : fx 3 = spnV x := hd.1 rfl
     have h7 : fx 7 = spnV x := hd.2.1 rfl
     refine wpList_neq_sp rfl (.tmp 20) (.tmp 24) _ rfl x x h3 h7 ?_
     rw [spEq_refl]
     clear hd
     go_wp2_with fail
     exact ⟨_, (by show _ = Act.mk #[Value.slice (some { block := g, off := o }) n c, Value.slice (some { block := g2, off := o2 }) n c2, undef, undef, u4, Value.int IntKind.i64 ↑j, Value.slice (some { block := g, off := o }) n c, Value.int IntKind.i64 ↑n, Value.slice (some { block := g2, off := o2 }) n c2, Value.int IntKind.i64 ↑n, Value.bool false, Value.int IntKind.i64 ↑j, Value.slice (some { block := g, off := o }) n c, Value.int IntKind.i64 ↑n, Value.bool true, u15, u16, fx 0, fx 1, fx 2, fx 3, fx 4, fx 5, fx 6, fx 7, Value.bool false] []; rw [h3, h7] <;> rfl), hC, rfl, kP⟩
   ·intro L fx w' hC hS
    have H8 := hid (hS 8 (by decide) rfl)
    have h8 : fx 8 = .bool false := H8.out
    rw [h8]
    have HBN := hid (HBQ.out.trans (hC.mono HBQ.out.size))
    clear hS hC H8 h8 HBQ HB1
    go_wp2_with fail
    go_roundw
    case rel => exact ⟨j + 1, by omega, by go_num, HBN⟩
    case measure => first | (simp [intOf]; done) | (simp [intOf]; omega)
  ·have d1 : decide ((j : Int) < (n : Int)) = false := dQ (by omega)
   have d2 : decide (j < n) = false := dQ hlt
   go_wp2_with fail
   go_ret
   exact ⟨rfl, HBQ.out⟩
theorem rootR_43 {t : Tr} (h : trG t = true) (hn : t.ln ≠ []) : rootR (nds43 t) = root (ndsT t) := by
 rw [nds43_yes h]
 obtain ⟨h1, h2, _⟩ := trG_parts h
 unfold rootR
 rw [if_pos ⟨by rw [List.length_map]; omega, vL_ndL h⟩, if_neg (by simp [hn])]
 rfl
theorem ndL_cp {x : Ln} (h : vLn x = true) (b : List Nat) : (ndL b x).c = x.c3 ∧ (ndL b x).p = x.c2 * x.c3 := by
 have hk : lOk x.c0 x.c1 x.c2 x.c3 x.c4 := of_decide_eq_true h
 have e : ndL b x = leafN x.c0 x.c1 x.c2 x.c3 x.c4 (saltN b 1 (nLn x)) := by unfold ndL leafR; exact if_pos hk
 rw [e]
 exact ⟨rfl, rfl⟩
theorem sh43_02 : shG sT 0 2 = true ∧ shE sT 0 2 = 0 ∧ (shN sT 0 2).length = 2 := by
 have e : shG sT 0 2 = true := by unfold shG; rw [sT_G]; decide
 refine ⟨e, ?_, ?_⟩
 ·unfold shE; rw [sT_G]; decide
 ·unfold shN; rw [e, if_pos rfl, List.length_map]; decide
theorem sh43_03 : shG sT 0 3 = true ∧ shE sT 0 3 = 0 ∧ shN sT 0 3 = [rootR (nds43 sT)] := by
 have e : shG sT 0 3 = true := by unfold shG; rw [sT_G]; decide
 refine ⟨e, ?_, ?_⟩
 ·unfold shE; rw [sT_G]; decide
 ·unfold shN
  rw [e, if_pos rfl, rootR_43 sT_G (by simp [sT]), show parts (0 : Int).toNat (3 : Int).toNat 0 sT.ln.length = [⟨0, 3, true⟩] by decide]
  show [root (seg (ndsT sT) 0 3)] = _
  rw [show (3 : Nat) = (ndsT sT).length from rfl, seg_all]
theorem vf43_02 : vfS 3 (rootR (nds43 sT)) 0 2 (shN sT 0 2) = (6, 42, 0) := by
 have h := vfS_shown (t := sT) sh43_02.1 (rootR_43 sT_G (by simp [sT]))
 have e1 : sumC (seg (ndsT sT) (0 : Int).toNat (2 : Int).toNat) = 6 := by
  show (ndL zeroD ⟨1, 0, 6, 4, 0⟩).c + ((ndL zeroD ⟨2, 0, 9, 2, 0⟩).c + 0) = 6
  rw [(ndL_cp (by kernel_rfl) _).1, (ndL_cp (by kernel_rfl) _).1]; rfl
 have e2 : sumP (seg (ndsT sT) (0 : Int).toNat (2 : Int).toNat) = 42 := by
  show (ndL zeroD ⟨1, 0, 6, 4, 0⟩).p + ((ndL zeroD ⟨2, 0, 9, 2, 0⟩).p + 0) = 42
  rw [(ndL_cp (by kernel_rfl) _).2, (ndL_cp (by kernel_rfl) _).2]; rfl
 rw [e1, e2] at h
 exact h
theorem mn43_02 : mnR (6, 42, 0) = (7, 1, 0) := by decide
def eT : Tr := ⟨0, 0, 1, 1, [], [], zeroD⟩
def peT3 : TrP := ⟨none, 0, 0, none, 0, 0⟩
theorem eT_G : trG eT = true := by kernel_rfl
theorem eT_ok (w : World) : TrOk w eT peT3 := by
 have iI : ∀ z : Int, -100 ≤ z → z ≤ 100 → I64 z := fun z h1 h2 => by unfold I64; omega
 exact ⟨iI _ (by decide) (by decide), iI _ (by decide) (by decide), iI _ (by decide) (by decide), iI _ (by decide) (by decide), ⟨rfl, Nat.le_refl _, fun _ => rfl, (fun x hx => by cases hx), fun h => absurd h (by decide)⟩, ⟨rfl, Nat.le_refl _, fun _ => rfl, (fun x hx => by cases hx), fun h => absurd h (by decide)⟩, zeroD_ok.len, zeroD_ok.bytes, Nat.zero_le _, Nat.zero_le _⟩
theorem sh43_e : shG eT 0 1 = false ∧ shE eT 0 1 = 430 := by
 refine ⟨?_, ?_⟩
 ·unfold shG; rw [eT_G]; decide
 ·unfold shE; rw [eT_G]; decide
theorem built_eT : Tryz.prog.built 27 [(2, .int .i64 1), (3, .int .i64 1)] = some (trC eT peT3).toArray := by kernel_rfl
theorem wpList_build_eT {w : World} {ops : Array Oper} {rest : List Oper} {o : Oper} {a : Act} {Q : Exit → Act → World → Prop} (hg : o.guard = none)
  (ho : o.op = .build 27 #[(2, .const (.int .i64 1)), (3, .const (.int .i64 1))])
  (h : wpList Tryz.prog ops Q rest (a.put o.dst (trV eT peT3)) w) : wpList Tryz.prog ops Q (o :: rest) a w := by
 have e1 : (#[(2, Operand.const (.int .i64 1)), (3, Operand.const (.int .i64 1))].map fun (i, x) => (i, a.eval x)).toList = [(2, .int .i64 1), (3, .int .i64 1)] := by
  have hc : ∀ v, a.eval (.const v) = v := fun _ => rfl
  simp [hc]
 refine wpList_build hg 27 _ ho (by rw [e1, built_eT]; rfl) ?_
 rw [e1, built_eT]
 exact h
theorem built_z43 : Tryz.prog.built 43 [] = some (rtC (rt43 0 zeroN)).toArray := by kernel_rfl
theorem wpList_build_z43 {w : World} {ops : Array Oper} {rest : List Oper} {o : Oper} {a : Act} {Q : Exit → Act → World → Prop} (hg : o.guard = none)
  (ho : o.op = .build 43 #[])
  (h : wpList Tryz.prog ops Q rest (a.put o.dst (.agg (rtC (rt43 0 zeroN)).toArray)) w) : wpList Tryz.prog ops Q (o :: rest) a w := by
 have e0 : ((#[] : Array (Nat × Operand)).map fun (i, x) => (i, a.eval x)).toList = [] := by simp
 refine wpList_build hg 43 _ ho (by rw [e0, built_z43]; rfl) ?_
 rw [e0, built_z43]; exact h
theorem vf43_z : vfS 0 zeroN 0 0 [] = (0, 0, 430) := by decide
theorem rt_tree {w : World} {g ty : Nat} {r : Rt} (h : w.heap[g]? = some (.cells (rtC r).toArray ty (0, 0))) : w.rangeAt g 6 (ndC r.tree) := by
 unfold rtC at h
 exact app_range h
theorem cov43_a : (parts 0 5 0 5).filter (·.ins) = [⟨0, 5, true⟩] := by decide
theorem cov43_b : (parts 2 6 0 6).filter (·.ins) = [⟨2, 4, true⟩, ⟨4, 6, true⟩] := by decide
end Go.Proofs.YtmfmgeapecapiaaGreatDoor
