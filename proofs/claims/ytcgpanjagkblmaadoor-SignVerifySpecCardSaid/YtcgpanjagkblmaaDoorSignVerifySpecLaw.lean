/- SignVerifySpec: for every number, message and signature the law returns true: Verify agrees with the reference. No conditions. -/
import Derived.Test.YtcgpanjagkblmaaDoorLawKit
import Derived.Test.YtcgpanjagkblmaaDoorSane04
import Derived.Lib.SmallJoins
import Derived.Test.YtcgpanjagkblmaaDoorRef04c
import Derived.Test.YtcgpanjagkblmaaDoorFlow
import Derived.Outline
import Derived.Test.YtcgpanjagkblmaaDoorCards
import Derived.Test.YtcgpanjagkblmaaDoorTie
namespace Go.Proofs.YtcgpanjagkblmaaDoor.signVerifySpec
open Go.ChangeShapes Go.WideShapes Go.ChangeAt Go.RowKit SzSha SzGrp
set_option linter.unusedVariables false
def vsA (p r s : Int) (V : Bool) (A : Option Addr) (n c : Nat) : Nat → Value → Prop
  | 0, fv => fv = Value.slice A n c
  | 1, fv => fv = Value.int .i64 (n)
  | 2, fv => fv = Value.bool false
  | 3, fv => fv = Value.bool false
  | 4, fv => fv = Value.int .i64 (p)
  | 5, fv => fv = Value.slice A n c
  | 6, fv => fv = Value.agg #[.int .i64 r, .int .i64 s]
  | 7, fv => fv = Value.bool V
  | 8, fv => fv = Value.int .i64 (p)
  | 9, fv => fv = Value.slice A n c
  | 10, fv => fv = Value.agg #[.int .i64 r, .int .i64 s]
  | 11, fv => fv = Value.bool V
  | 12, fv => fv = Value.bool true
  | 13, fv => fv = Value.bool true
  | 14, fv => fv = Value.bool true
  | _, _ => True
def vsB (p r s : Int) (V : Bool) (A : Option Addr) (n c : Nat) : Nat → Value → Prop
  | 0, fv => fv = Value.slice A n c
  | 1, fv => fv = Value.int .i64 (n)
  | 2, fv => fv = Value.bool true
  | 3, fv => fv = Value.bool true
  | 4, fv => fv = undef
  | 5, fv => fv = undef
  | 6, fv => fv = undef
  | 7, fv => fv = undef
  | 8, fv => fv = undef
  | 9, fv => fv = undef
  | 10, fv => fv = undef
  | 11, fv => fv = undef
  | 12, fv => fv = undef
  | 13, fv => fv = Value.bool true
  | 14, fv => fv = Value.bool true
  | _, _ => True
set_option maxRecDepth 100000 in
set_option maxHeartbeats 4000000 in
theorem go (p : Int) (A : Option Addr) (n c : Nat) (l : List Nat) (r s : Int) (w : World) (hp1 : -9223372036854775808 ≤ p) (hp2 : p ≤ 9223372036854775807) (hr1 : -9223372036854775808 ≤ r) (hr2 : r ≤ 9223372036854775807) (hs1 : -9223372036854775808 ≤ s) (hs2 : s ≤ 9223372036854775807) (hn : n ≤ 1000) (hT : Hid (Tabs w)) (hl : Hid (In w A n c l)) :
    Calls Tryd.prog 5 #[.int .i64 p, .slice A n c, .agg #[.int .i64 r, .int .i64 s]] w fun e w' => e = .returned (.bool true) ∧ Below w.heap.size w w' := by
  obtain ⟨V, HV⟩ : ∃ V, Hid (vfy p l r s = V) := ⟨_, Lib.hid rfl⟩
  have PB := Lib.hid (And.intro hp1 hp2)
  have RB := Lib.hid (And.intro hr1 hr2)
  have SB := Lib.hid (And.intro hs1 hs2)
  clear hp1 hp2 hr1 hr2 hs1 hs2
  have H0 := Lib.hid (heap_alloc_new w (.cells #[.int .i64 r, .int .i64 s] 30))
  have HB0 := Lib.hid ((Below.refl _ w).alloc (Nat.le_refl _) (.cells #[.int .i64 r, .int .i64 s] 30))
  have q2 : decide ((1000 : Int) < (n : Int)) = false := decide_eq_false (by omega)
  have q4 : decide (1000 < n) = false := decide_eq_false (by omega)
  go_enter Tryd.func5, Tryd.ntmps5
  go_wp2_with fail
  refine (sane_any _ (Lib.hid (hT.out.below HB0.out))).mono ?_
  rintro e w1 ⟨rfl, hq⟩
  have HB1 := Lib.hid (HB0.out.trans (hq.mono HB0.out.size))
  have H1 := Lib.hid ((hq.block w.heap.size (Array.getElem?_eq_some_iff.1 H0.out).1).trans H0.out)
  clear hq
  go_wp2_with fail
  have HC0 : Hid (w1.cell? ⟨w.heap.size, 0, none⟩ = some (.int .i64 r)) := Lib.hid (by rw [cell_of_row _ _ _ _ _ _ H1.out]; rfl)
  have HC1 : Hid (w1.cell? ⟨w.heap.size, 1, none⟩ = some (.int .i64 s)) := Lib.hid (by rw [cell_of_row _ _ _ _ _ _ H1.out]; rfl)
  have HD : Hid (Below w1.heap.size w1 w1.drew) := Lib.hid (Below.refl _ _).drew
  refine region_flow (by kernel_rfl) (by kernel_rfl) (fun i => i) (by kernel_rfl) (fun fx => #[Value.int IntKind.i64 p, Value.slice A n c, Value.agg #[Value.int IntKind.i64 r, Value.int IntKind.i64 s], undef, undef, Value.pointer (some { block := w.heap.size, off := 0 }), fx 14, Value.bool true, Value.bool false, fx 0, fx 1, fx 2, fx 3, fx 4, fx 5, fx 6, fx 7, fx 8, fx 9, fx 10, fx 11, fx 12, fx 13]) (fun i => bif Nat.beq i 14 then Value.bool false else undef) (fun w' => Below w1.heap.size w1 w') (fun fi fv _ _ => vsA p r s V A n c fi fv) HD.out ?_ ?_
  · refine ⟨?_, ?_, ?_, ?_, ?_, ?_, ?_, ?_, ?_, ?_, ?_, ?_, ?_, ?_, ?_, trivial⟩
    all_goals intro fx w' hC hd
    · go_wp2_with fail
      exact ⟨_, rfl, hC, rfl, fun _ _ _ _ h => h⟩
    · have h0 : fx 0 = Value.slice A n c := hd.1 rfl
      go_wp2_with fail
      exact ⟨_, by rw [← h0]; rfl, hC, rfl, fun _ _ _ _ h => h⟩
    · have h1 : fx 1 = Value.int .i64 (n) := hd.1 rfl
      go_wp2_with fail
      exact ⟨_, by rw [← h1]; rfl, hC, rfl, fun _ _ _ _ h => h⟩
    · have h2 : fx 2 = Value.bool false := hd.1 rfl
      go_wp2_with fail
      exact ⟨_, by rw [← h2]; rfl, hC, rfl, fun _ _ _ _ h => h⟩
    · have h3 : fx 3 = Value.bool false := hd.1 rfl
      go_wp2_with fail
      exact ⟨_, by rw [← h3]; rfl, hC, rfl, fun _ _ _ _ h => h⟩
    · have h3 : fx 3 = Value.bool false := hd.1 rfl
      go_wp2_with fail
      exact ⟨_, by rw [← h3]; rfl, hC, rfl, fun _ _ _ _ h => h⟩
    · have h3 : fx 3 = Value.bool false := hd.1 rfl
      have k0 : w'.cell? ⟨w.heap.size, 0, none⟩ = some (.int .i64 r) := (hC.cell (block_lt_of_cell HC0.out)).trans HC0.out
      have k1 : w'.cell? ⟨w.heap.size, 1, none⟩ = some (.int .i64 s) := (hC.cell (block_lt_of_cell HC1.out)).trans HC1.out
      go_wp2_with fail
      exact ⟨_, by rw [← h3]; rfl, hC, rfl, fun _ _ _ _ h => h⟩
    · have h4 : fx 4 = Value.int .i64 (p) := hd.1 rfl
      have h5 : fx 5 = Value.slice A n c := hd.2.1 rfl
      have h6 : fx 6 = Value.agg #[.int .i64 r, .int .i64 s] := hd.2.2.1 rfl
      have h3 : fx 3 = Value.bool false := hd.2.2.2.2.1 rfl
      go_wp2_with fail
      refine (Verify_any p r s A n c l _ PB.out RB.out SB.out (by omega) (Lib.hid (hT.out.below (HB1.out.trans (hC.mono HB1.out.size)))) (Lib.hid (hl.out.below (HB1.out.trans (hC.mono HB1.out.size))))).mono ?_
      rintro e w2 ⟨rfl, hq⟩
      rw [HV.out]
      go_wp2_with fail
      exact ⟨_, by rw [← h6, ← h4, ← h5, ← h3]; rfl, hC.trans (hq.mono hC.size), rfl, fun _ _ _ _ h => h⟩
    · have h3 : fx 3 = Value.bool false := hd.1 rfl
      go_wp2_with fail
      exact ⟨_, by rw [← h3]; rfl, hC, rfl, fun _ _ _ _ h => h⟩
    · have h3 : fx 3 = Value.bool false := hd.1 rfl
      go_wp2_with fail
      exact ⟨_, by rw [← h3]; rfl, hC, rfl, fun _ _ _ _ h => h⟩
    · have h3 : fx 3 = Value.bool false := hd.1 rfl
      have k0 : w'.cell? ⟨w.heap.size, 0, none⟩ = some (.int .i64 r) := (hC.cell (block_lt_of_cell HC0.out)).trans HC0.out
      have k1 : w'.cell? ⟨w.heap.size, 1, none⟩ = some (.int .i64 s) := (hC.cell (block_lt_of_cell HC1.out)).trans HC1.out
      go_wp2_with fail
      exact ⟨_, by rw [← h3]; rfl, hC, rfl, fun _ _ _ _ h => h⟩
    · have h8 : fx 8 = Value.int .i64 (p) := hd.1 rfl
      have h9 : fx 9 = Value.slice A n c := hd.2.1 rfl
      have h10 : fx 10 = Value.agg #[.int .i64 r, .int .i64 s] := hd.2.2.1 rfl
      have h3 : fx 3 = Value.bool false := hd.2.2.2.2.1 rfl
      go_wp2_with fail
      refine (rVerify_any p r s A n c l _ PB.out RB.out SB.out (by omega) (Lib.hid (hl.out.below (HB1.out.trans (hC.mono HB1.out.size))))).mono ?_
      rintro e w2 ⟨rfl, hq⟩
      rw [HV.out]
      go_wp2_with fail
      exact ⟨_, by rw [← h10, ← h8, ← h9, ← h3]; rfl, hC.trans (hq.mono hC.size), rfl, fun _ _ _ _ h => h⟩
    · have h7 : fx 7 = Value.bool V := hd.1 rfl
      have h11 : fx 11 = Value.bool V := hd.2.1 rfl
      have h3 : fx 3 = Value.bool false := hd.2.2.1 rfl
      go_wp2_with fail
      exact ⟨_, by show _ = Act.mk #[Value.int IntKind.i64 p, Value.slice A n c, Value.agg #[Value.int IntKind.i64 r, Value.int IntKind.i64 s], undef, undef, Value.pointer (some { block := w.heap.size, off := 0 }), fx 14, Value.bool true, Value.bool false, fx 0, fx 1, fx 2, fx 3, fx 4, fx 5, fx 6, fx 7, fx 8, fx 9, fx 10, fx 11, Value.bool true, fx 13] []; rw [h7, h11, h3], hC, rfl, fun _ _ _ _ h => h⟩
    · have h3 : fx 3 = Value.bool false := hd.1 rfl
      have h12 : fx 12 = Value.bool true := hd.2.1 rfl
      go_wp2_with fail
      exact ⟨_, by rw [← h3, ← h12]; rfl, hC, rfl, fun _ _ _ _ h => h⟩
    · have h13 : fx 13 = Value.bool true := hd.1 rfl
      go_wp2_with fail
      exact ⟨_, by rw [← h13]; rfl, hC, rfl, fun _ _ _ _ h => h⟩
  · intro fx w' hC hS
    have h0 : fx 0 = Value.slice A n c := hS 0 (by decide)
    have h1 : fx 1 = Value.int .i64 (n) := hS 1 (by decide)
    have h2 : fx 2 = Value.bool false := hS 2 (by decide)
    have h3 : fx 3 = Value.bool false := hS 3 (by decide)
    have h4 : fx 4 = Value.int .i64 (p) := hS 4 (by decide)
    have h5 : fx 5 = Value.slice A n c := hS 5 (by decide)
    have h6 : fx 6 = Value.agg #[.int .i64 r, .int .i64 s] := hS 6 (by decide)
    have h7 : fx 7 = Value.bool V := hS 7 (by decide)
    have h8 : fx 8 = Value.int .i64 (p) := hS 8 (by decide)
    have h9 : fx 9 = Value.slice A n c := hS 9 (by decide)
    have h10 : fx 10 = Value.agg #[.int .i64 r, .int .i64 s] := hS 10 (by decide)
    have h11 : fx 11 = Value.bool V := hS 11 (by decide)
    have h12 : fx 12 = Value.bool true := hS 12 (by decide)
    have h13 : fx 13 = Value.bool true := hS 13 (by decide)
    have h14 : fx 14 = Value.bool true := hS 14 (by decide)
    rw [h0, h1, h2, h3, h4, h5, h6, h7, h8, h9, h10, h11, h12, h13, h14]
    clear h0 h1 h2 h3 h4 h5 h6 h7 h8 h9 h10 h11 h12 h13 h14 hS
    have HB6 := Lib.hid (HB1.out.trans (hC.mono HB1.out.size))
    clear hC
    go_wp2_with fail
    go_ret
    exact ⟨rfl, HB6.out⟩
set_option maxRecDepth 100000 in
set_option maxHeartbeats 4000000 in
theorem big (p : Int) (A : Option Addr) (n c : Nat) (l : List Nat) (r s : Int) (w : World) (hp1 : -9223372036854775808 ≤ p) (hp2 : p ≤ 9223372036854775807) (hr1 : -9223372036854775808 ≤ r) (hr2 : r ≤ 9223372036854775807) (hs1 : -9223372036854775808 ≤ s) (hs2 : s ≤ 9223372036854775807) (hn : n ≤ 140737488351232) (h : 1000 < n) (hT : Hid (Tabs w)) (hl : Hid (In w A n c l)) :
    Calls Tryd.prog 5 #[.int .i64 p, .slice A n c, .agg #[.int .i64 r, .int .i64 s]] w fun e w' => e = .returned (.bool true) ∧ Below w.heap.size w w' := by
  obtain ⟨V, HV⟩ : ∃ V, Hid (vfy p l r s = V) := ⟨_, Lib.hid rfl⟩
  have PB := Lib.hid (And.intro hp1 hp2)
  have RB := Lib.hid (And.intro hr1 hr2)
  have SB := Lib.hid (And.intro hs1 hs2)
  clear hp1 hp2 hr1 hr2 hs1 hs2
  have H0 := Lib.hid (heap_alloc_new w (.cells #[.int .i64 r, .int .i64 s] 30))
  have HB0 := Lib.hid ((Below.refl _ w).alloc (Nat.le_refl _) (.cells #[.int .i64 r, .int .i64 s] 30))
  have q2 : decide ((1000 : Int) < (n : Int)) = true := decide_eq_true (by omega)
  have q4 : decide (1000 < n) = true := decide_eq_true (by omega)
  clear h
  go_enter Tryd.func5, Tryd.ntmps5
  go_wp2_with fail
  refine (sane_any _ (Lib.hid (hT.out.below HB0.out))).mono ?_
  rintro e w1 ⟨rfl, hq⟩
  have HB1 := Lib.hid (HB0.out.trans (hq.mono HB0.out.size))
  have H1 := Lib.hid ((hq.block w.heap.size (Array.getElem?_eq_some_iff.1 H0.out).1).trans H0.out)
  clear hq
  go_wp2_with fail
  have HC0 : Hid (w1.cell? ⟨w.heap.size, 0, none⟩ = some (.int .i64 r)) := Lib.hid (by rw [cell_of_row _ _ _ _ _ _ H1.out]; rfl)
  have HC1 : Hid (w1.cell? ⟨w.heap.size, 1, none⟩ = some (.int .i64 s)) := Lib.hid (by rw [cell_of_row _ _ _ _ _ _ H1.out]; rfl)
  have HD : Hid (Below w1.heap.size w1 w1.drew) := Lib.hid (Below.refl _ _).drew
  refine region_flow (by kernel_rfl) (by kernel_rfl) (fun i => i) (by kernel_rfl) (fun fx => #[Value.int IntKind.i64 p, Value.slice A n c, Value.agg #[Value.int IntKind.i64 r, Value.int IntKind.i64 s], undef, undef, Value.pointer (some { block := w.heap.size, off := 0 }), fx 14, Value.bool true, Value.bool false, fx 0, fx 1, fx 2, fx 3, fx 4, fx 5, fx 6, fx 7, fx 8, fx 9, fx 10, fx 11, fx 12, fx 13]) (fun i => bif Nat.beq i 14 then Value.bool false else undef) (fun w' => Below w1.heap.size w1 w') (fun fi fv _ _ => vsB p r s V A n c fi fv) HD.out ?_ ?_
  · refine ⟨?_, ?_, ?_, ?_, ?_, ?_, ?_, ?_, ?_, ?_, ?_, ?_, ?_, ?_, ?_, trivial⟩
    all_goals intro fx w' hC hd
    · go_wp2_with fail
      exact ⟨_, rfl, hC, rfl, fun _ _ _ _ h => h⟩
    · have h0 : fx 0 = Value.slice A n c := hd.1 rfl
      go_wp2_with fail
      exact ⟨_, by rw [← h0]; rfl, hC, rfl, fun _ _ _ _ h => h⟩
    · have h1 : fx 1 = Value.int .i64 (n) := hd.1 rfl
      go_wp2_with fail
      exact ⟨_, by rw [← h1]; rfl, hC, rfl, fun _ _ _ _ h => h⟩
    · have h2 : fx 2 = Value.bool true := hd.1 rfl
      go_wp2_with fail
      exact ⟨_, by rw [← h2]; rfl, hC, rfl, fun _ _ _ _ h => h⟩
    · have h3 : fx 3 = Value.bool true := hd.1 rfl
      go_wp2_with fail
      exact ⟨_, by rw [← h3]; rfl, hC, rfl, fun _ _ _ _ h => h⟩
    · have h3 : fx 3 = Value.bool true := hd.1 rfl
      go_wp2_with fail
      exact ⟨_, by rw [← h3]; rfl, hC, rfl, fun _ _ _ _ h => h⟩
    · have h3 : fx 3 = Value.bool true := hd.1 rfl
      go_wp2_with fail
      exact ⟨_, by rw [← h3]; rfl, hC, rfl, fun _ _ _ _ h => h⟩
    · have h4 : fx 4 = undef := hd.1 rfl
      have h5 : fx 5 = undef := hd.2.1 rfl
      have h6 : fx 6 = undef := hd.2.2.1 rfl
      have h3 : fx 3 = Value.bool true := hd.2.2.2.2.1 rfl
      go_wp2_with fail
      exact ⟨_, by show _ = Act.mk #[Value.int IntKind.i64 p, Value.slice A n c, Value.agg #[Value.int IntKind.i64 r, Value.int IntKind.i64 s], undef, undef, Value.pointer (some { block := w.heap.size, off := 0 }), fx 14, Value.bool true, Value.bool false, fx 0, fx 1, fx 2, fx 3, fx 4, fx 5, fx 6, undef, fx 8, fx 9, fx 10, fx 11, fx 12, fx 13] []; rw [h4, h5, h6, h3], hC, rfl, fun _ _ _ _ h => h⟩
    · have h3 : fx 3 = Value.bool true := hd.1 rfl
      go_wp2_with fail
      exact ⟨_, by rw [← h3]; rfl, hC, rfl, fun _ _ _ _ h => h⟩
    · have h3 : fx 3 = Value.bool true := hd.1 rfl
      go_wp2_with fail
      exact ⟨_, by rw [← h3]; rfl, hC, rfl, fun _ _ _ _ h => h⟩
    · have h3 : fx 3 = Value.bool true := hd.1 rfl
      go_wp2_with fail
      exact ⟨_, by rw [← h3]; rfl, hC, rfl, fun _ _ _ _ h => h⟩
    · have h8 : fx 8 = undef := hd.1 rfl
      have h9 : fx 9 = undef := hd.2.1 rfl
      have h10 : fx 10 = undef := hd.2.2.1 rfl
      have h3 : fx 3 = Value.bool true := hd.2.2.2.2.1 rfl
      go_wp2_with fail
      exact ⟨_, by show _ = Act.mk #[Value.int IntKind.i64 p, Value.slice A n c, Value.agg #[Value.int IntKind.i64 r, Value.int IntKind.i64 s], undef, undef, Value.pointer (some { block := w.heap.size, off := 0 }), fx 14, Value.bool true, Value.bool false, fx 0, fx 1, fx 2, fx 3, fx 4, fx 5, fx 6, fx 7, fx 8, fx 9, fx 10, undef, fx 12, fx 13] []; rw [h8, h9, h10, h3], hC, rfl, fun _ _ _ _ h => h⟩
    · have h7 : fx 7 = undef := hd.1 rfl
      have h11 : fx 11 = undef := hd.2.1 rfl
      have h3 : fx 3 = Value.bool true := hd.2.2.1 rfl
      go_wp2_with fail
      exact ⟨_, by show _ = Act.mk #[Value.int IntKind.i64 p, Value.slice A n c, Value.agg #[Value.int IntKind.i64 r, Value.int IntKind.i64 s], undef, undef, Value.pointer (some { block := w.heap.size, off := 0 }), fx 14, Value.bool true, Value.bool false, fx 0, fx 1, fx 2, fx 3, fx 4, fx 5, fx 6, fx 7, fx 8, fx 9, fx 10, fx 11, undef, fx 13] []; rw [h7, h11, h3], hC, rfl, fun _ _ _ _ h => h⟩
    · have h3 : fx 3 = Value.bool true := hd.1 rfl
      have h12 : fx 12 = undef := hd.2.1 rfl
      go_wp2_with fail
      exact ⟨_, by show _ = Act.mk #[Value.int IntKind.i64 p, Value.slice A n c, Value.agg #[Value.int IntKind.i64 r, Value.int IntKind.i64 s], undef, undef, Value.pointer (some { block := w.heap.size, off := 0 }), fx 14, Value.bool true, Value.bool false, fx 0, fx 1, fx 2, fx 3, fx 4, fx 5, fx 6, fx 7, fx 8, fx 9, fx 10, fx 11, fx 12, Value.bool true] []; rw [h3, h12], hC, rfl, fun _ _ _ _ h => h⟩
    · have h13 : fx 13 = Value.bool true := hd.1 rfl
      go_wp2_with fail
      exact ⟨_, by rw [← h13]; rfl, hC, rfl, fun _ _ _ _ h => h⟩
  · intro fx w' hC hS
    have h0 : fx 0 = Value.slice A n c := hS 0 (by decide)
    have h1 : fx 1 = Value.int .i64 (n) := hS 1 (by decide)
    have h2 : fx 2 = Value.bool true := hS 2 (by decide)
    have h3 : fx 3 = Value.bool true := hS 3 (by decide)
    have h4 : fx 4 = undef := hS 4 (by decide)
    have h5 : fx 5 = undef := hS 5 (by decide)
    have h6 : fx 6 = undef := hS 6 (by decide)
    have h7 : fx 7 = undef := hS 7 (by decide)
    have h8 : fx 8 = undef := hS 8 (by decide)
    have h9 : fx 9 = undef := hS 9 (by decide)
    have h10 : fx 10 = undef := hS 10 (by decide)
    have h11 : fx 11 = undef := hS 11 (by decide)
    have h12 : fx 12 = undef := hS 12 (by decide)
    have h13 : fx 13 = Value.bool true := hS 13 (by decide)
    have h14 : fx 14 = Value.bool true := hS 14 (by decide)
    rw [h0, h1, h2, h3, h4, h5, h6, h7, h8, h9, h10, h11, h12, h13, h14]
    clear h0 h1 h2 h3 h4 h5 h6 h7 h8 h9 h10 h11 h12 h13 h14 hS
    have HB6 := Lib.hid (HB1.out.trans (hC.mono HB1.out.size))
    clear hC
    go_wp2_with fail
    go_ret
    exact ⟨rfl, HB6.out⟩
theorem walk (w : World) (hT : Tabs w) (p : Int) (hp1 : -9223372036854775808 ≤ p) (hp2 : p ≤ 9223372036854775807) (A : Option Addr) (n c : Nat) (l : List Nat) (hl : In w A n c l) (a3 : n ≤ 140737488351232) (r : Int) (hr1 : -9223372036854775808 ≤ r) (hr2 : r ≤ 9223372036854775807) (s : Int) (hs1 : -9223372036854775808 ≤ s) (hs2 : s ≤ 9223372036854775807) :
    Calls Tryd.prog 5 #[.int .i64 p, .slice A n c, .agg #[.int .i64 r, .int .i64 s]] w fun e w' => e = .returned (.bool true) ∧ Below w.heap.size w w' := by
  by_cases h : 1000 < n
  · exact big p A n c l r s w hp1 hp2 hr1 hr2 hs1 hs2 a3 h (Lib.hid hT) (Lib.hid hl)
  · exact go p A n c l r s w hp1 hp2 hr1 hr2 hs1 hs2 (by omega) (Lib.hid hT) (Lib.hid hl)
set_option maxRecDepth 100000 in
theorem lifted (os : Os) (started : os.Started) (H : Type) (enc : TypeId × Value → H) :
    ReturnsInHanded {} Tryd.checked os 5 .any (fun w args => (Rows.signVerifySpecSpec.pre enc Tryd.prog Tryd.f5 [] false w args ∧ laidMetH Tryd.prog laidL w) ∧ sizedMet enc Tryd.prog Tryd.f5 (OpenSpec.ofChange Rows.signVerifySpecSpec) false w args)
      (Rows.signVerifySpecSpec.post enc Tryd.prog Tryd.f5 false true false false) := by
  refine returnsInHanded_of_change_and (C := Tryd.checked) (X := fun w _ => laidMetH Tryd.prog laidL w) (fun _ _ _ hh h => h.of_heap hh) own started (by kernel_rfl) Tryd.func5
    (ChangeSpec.witness_shaped (enc := enc) (C := Tryd.checked) (os := os) (X := fun w _ => laidMetH Tryd.prog laidL w) false (World.doorLaid Tryd.prog 400 os) #[.int .i64 0, .slice none 0 0, .agg #[.int .i64 0, .int .i64 0]] 8 rfl (World.shaped_of_RefB (by kernel_rfl) (by kernel_rfl)) (by kernel_rfl) (by kernel_rfl) (by kernel_rfl) (door_met os _)) ?_
  intro W base args ds gs before hval0 hW _ hsz0 hL _
  have hval : ∀ (j : Nat) t v, Tryd.f5.params[j]? = some t → args[j]? = some v → Value.okWide Tryd.prog W .any base t v := hval0
  have hW' := hW
  obtain ⟨p, q, hA0, hV, rfl, hfz, hnd⟩ := hW
  have hA : DataW.TrodAll enc Tryd.prog W 0 (fun _ => true) true Tryd.f5.params.toList args.toList ds p := hA0
  have hsz : (DataW.weightsEach Tryd.prog (Tryd.f5.params.toList ++ Rows.signVerifySpecSpec.plain.varTypes Tryd.prog) (ds ++ gs)).all (· ≤ reachBytes) = true := hsz0
  rw [Tryd.params5] at hA hval hsz
  obtain ⟨v0, vs0, d0, ds0, p0, q0, hargs, rfl, rfl, h0, r0⟩ := trodAll_cons hA
  obtain ⟨v1, vs1, d1, ds1, p1, q1, rfl, rfl, rfl, h1, r1⟩ := trodAll_cons r0
  obtain ⟨v2, vs2, d2, ds2, p2, q2, rfl, rfl, rfl, h2, r2⟩ := trodAll_cons r1
  obtain ⟨rfl, rfl, rfl⟩ := trodAll_nil r2
  obtain rfl : args = #[v0, v1, v2] := by cases args; simp_all
  obtain ⟨rfl, rfl⟩ := trodVars_none hV
  obtain ⟨a0, rfl, rfl, rfl, w0⟩ := open_int Tryd.underlying3 (hval 0 3 v0 rfl rfl) h0
  have b0 := bounds_i64 w0
  obtain ⟨A1, n1, c1, l1, rfl, e1, f1, g1, y1, x1, z1⟩ := arg_bytes (hval 1 22 v1 rfl rfl) h1
  have b1 : n1 ≤ 140737488351232 := by
    rcases z1 with ⟨rfl, hz⟩ | ⟨es, sp, rfl, hz⟩
    · omega
    · have := sized_slice hsz (j := 1) rfl rfl Tryd.underlying22; rw [bytes8] at this; simp only [reachBytes] at this; omega
  obtain ⟨k2, j2, y2, z2, m2, rfl, rfl, rfl, s2, t2⟩ := Go.Joins.open_agg2 Tryd.underlying30 (by kernel_rfl) (show Tryd.prog.cellsOf 30 = 2 by kernel_rfl) (hval 2 30 v2 rfl rfl) h2
  obtain ⟨a2, e2, rfl, w2⟩ := DataW.trod_int Tryd.underlying3 s2
  obtain ⟨c2, f2, rfl, x2⟩ := DataW.trod_int Tryd.underlying3 t2
  simp only [List.cons.injEq, and_true] at e2 f2
  subst e2 f2
  have b2 := bounds_i64 w2
  have g2 := bounds_i64 x2
  refine (walk W (tabs_of hL) a0 b0.1 b0.2 A1 n1 c1 l1 ⟨e1, f1, g1, y1, x1⟩ b1 a2 b2.1 b2.2 c2 g2.1 g2.2).mono fun e W' ⟨he, hg⟩ => ?_
  subst he
  exact ⟨_, rfl, law_post (by kernel_rfl) rfl rfl (fun _ => ⟨rfl, rfl, rfl⟩) hW' hg⟩
theorem over : Rows.signVerifySpecRow.holds Tryd.pinned (OpenSpec.ofChange Rows.signVerifySpecSpec) :=
  OpenClaim.holds_of_wide 5 Tryd.f5 rfl rfl rfl rfl rfl rfl rfl ⟨rfl, rfl, rfl, rfl, rfl⟩ rfl rfl rfl rfl rfl (by kernel_rfl) Tryd.func5 (by kernel_rfl)
    (of_decide_eq_true (by kernel_rfl)) (by unfold Func.isWrapper; first | (rw [if_pos (by decide +kernel)]; kernel_rfl) | (rw [if_neg (by decide +kernel)]; exact ⟨rfl, rfl⟩))
    (fun os started H enc _ => lifted os started H enc)
/-- THE STATEMENT: the card -/
theorem proved : Rows.SignVerifySpecCardSaid :=
  Claim7.holds_tied_plain_at .later [] [.data, .data] true Rows.signVerifySpecCard.stood.harness false
    over (fun _ h => by cases h) (by kernel_rfl) (fun _ h => by cases h) signVerifySpec_row_tie rfl ⟨rfl, rfl⟩ (by kernel_rfl) rfl
    (fun f fn hf hfn => by
      obtain rfl : f = 5 := Option.some.inj ((show Tryd.prog.funcNamed "sizar/sizarlaw04.SignVerifySpec" = some 5 by kernel_rfl).symm.trans hf) |>.symm
      obtain rfl : fn = Tryd.f5 := (Option.some.inj (Tryd.func5.symm.trans hfn)).symm
      exact ⟨by kernel_rfl, fun j t ht => stands_of (show Tryd.f5.params.all (fun t => !Tryd.prog.wantsStandIn t) = true by kernel_rfl) ht⟩)
    (by kernel_rfl)
#print axioms proved
end Go.Proofs.YtcgpanjagkblmaaDoor.signVerifySpec
