/- sizar/codec.Encode of a list of integers. What every law of a seat with laid tables needs: the tables' cells, the arguments opened, the row's last step. slices.Clone of bytes; sizar/tree.hash. Paths and climbs in trees of nodes: plain functions. sizar/tree: valid, half. Nodes laid in memory: struct literals and slice literals of nodes. -/
import Derived.Test.YtmfmgeapecapiaaDoorDB2
import Derived.Test.YtmfmgeapecapiaaDoorRows
import Derived.ReadAgain
import Derived.SizedLaws
import Derived.ProofKit
import Derived.OpenShut
import Derived.LaidMore
import Derived.LaidLaws
import Derived.Lib.LaidTab
import Derived.ChangeMaps5
import Derived.ChangeBears
import Derived.Stop.Joined
import Derived.Stop.BytesEq
import Derived.MakeChecks
import Derived.SevenTiedAt
import Derived.WalkSpells
import Derived.Lib.SliceRun
import Derived.Test.YtmfmgeapecapiaaDoorDB1
import Derived.Deep.MidRow
import Derived.IntWalk
import Derived.Great.BuildSlice
namespace Go.Proofs.YtmfmgeapecapiaaDoor
open Go.RowKit SzSha SzTree
set_option linter.unusedVariables false
set_option maxRecDepth 100000

def wE (N : Nat) (W1 : World) (b : Nat) (zs : List Int) (A : Option Addr) (n : Nat) (c : Nat) : Nat → Value → World → Prop
  | 0, fv, fw => ∃ q c2, fv = Value.pointer (some ⟨q, 0, none⟩) ∧ Wr fw q c2 ∧ N ≤ q ∧ N ≤ c2
  | 1, fv, _ => fv = Value.pointer (some ⟨b, 0, none⟩)
  | 2, fv, _ => fv = Value.int .i64 (3)
  | 3, fv, fw => ∃ q c2, fv = Value.pointer (some ⟨q, 0, none⟩) ∧ Wr fw q c2 ∧ N ≤ q ∧ N ≤ c2
  | 4, fv, fw => ∃ q c2, fv = Value.pointer (some ⟨q, 3, none⟩) ∧ Wr fw q c2 ∧ N ≤ q ∧ N ≤ c2
  | 5, fv, fw => ∃ q c2, fv = Value.pointer (some ⟨q, 3, none⟩) ∧ Wr fw q c2 ∧ N ≤ q ∧ N ≤ c2
  | 6, fv, fw => ∃ q c2, fv = Value.func (.func 126) #[] #[.pointer (some ⟨c2, 0, none⟩)] ∧ Wr fw q c2 ∧ N ≤ q ∧ N ≤ c2
  | 7, fv, _ => fv = Value.agg #[.int .i64 3, .int .i64 0, .string ⟨#[]⟩, .slice A n c]
  | 8, fv, fw => OwnB fw N fv (encI zs) ∧ Below N W1 fw
  | 9, fv, fw => OwnB fw N fv (encI zs) ∧ Below N W1 fw
  | 10, fv, _ => fv = Value.int .i64 (0)
  | _, _, _ => True
theorem wE_below {N : Nat} {W1 : World} {b : Nat} {zs : List Int} {A : Option Addr} {n : Nat} {c : Nat} {w w' : World} (hN : N ≤ W1.heap.size) (hb : Below w.heap.size w w') : ∀ j v, wE N W1 b zs A n c j v w → wE N W1 b zs A n c j v w'
  | 0, v, ⟨q, c2, h1, h2, h3⟩ => ⟨q, c2, h1, h2.below hb, h3⟩
  | 1, v, h => h
  | 2, v, h => h
  | 3, v, ⟨q, c2, h1, h2, h3⟩ => ⟨q, c2, h1, h2.below hb, h3⟩
  | 4, v, ⟨q, c2, h1, h2, h3⟩ => ⟨q, c2, h1, h2.below hb, h3⟩
  | 5, v, ⟨q, c2, h1, h2, h3⟩ => ⟨q, c2, h1, h2.below hb, h3⟩
  | 6, v, ⟨q, c2, h1, h2, h3⟩ => ⟨q, c2, h1, h2.below hb, h3⟩
  | 7, v, h => h
  | 8, v, h => ⟨h.1.below hb, h.2.trans (hb.mono (Nat.le_trans hN h.2.size))⟩
  | 9, v, h => ⟨h.1.below hb, h.2.trans (hb.mono (Nat.le_trans hN h.2.size))⟩
  | 10, v, h => h
  | n + 11, v, h => trivial
theorem wE_pure {N : Nat} {W1 : World} {b : Nat} {zs : List Int} {A : Option Addr} {n : Nat} {c : Nat} {w w' : World} : ∀ j v, j ≠ 0 → j ≠ 3 → j ≠ 4 → j ≠ 5 → j ≠ 6 → j ≠ 8 → j ≠ 9 → wE N W1 b zs A n c j v w → wE N W1 b zs A n c j v w'
  | 0, v, hh, _, _, _, _, _, _, _ => absurd rfl hh
  | 1, v, _, _, _, _, _, _, _, h => h
  | 2, v, _, _, _, _, _, _, _, h => h
  | 3, v, _, hh, _, _, _, _, _, _ => absurd rfl hh
  | 4, v, _, _, hh, _, _, _, _, _ => absurd rfl hh
  | 5, v, _, _, _, hh, _, _, _, _ => absurd rfl hh
  | 6, v, _, _, _, _, hh, _, _, _ => absurd rfl hh
  | 7, v, _, _, _, _, _, _, _, h => h
  | 8, v, _, _, _, _, _, hh, _, _ => absurd rfl hh
  | 9, v, _, _, _, _, _, _, hh, _ => absurd rfl hh
  | 10, v, _, _, _, _, _, _, _, h => h
  | n + 11, v, _, _, _, _, _, _, _, h => trivial

set_option maxHeartbeats 4000000 in
theorem encode_list (zs : List Int) (A : Option Addr) (c : Nat) (w : World) (hz : Hid (∀ z ∈ zs, -9223372036854775808 ≤ z ∧ z ≤ 9223372036854775807)) (hn : zs.length ≤ 1000) (hV : Hid (VRd w w.heap.size A zs)) :
    Calls Tryd.prog 56 #[.agg #[.int .i64 3, .int .i64 0, .string ⟨#[]⟩, .slice A zs.length c]] w fun e w' => ∃ v', e = .returned (.tuple #[v', .int .i64 0]) ∧ OwnB w' w.heap.size v' (encI zs) ∧ Below w.heap.size w w' := by
  obtain ⟨n, HN⟩ : ∃ n, Hid (zs.length = n) := ⟨_, Lib.hid rfl⟩
  rw [HN.out]
  have hn' : n ≤ 1000 := by rw [← HN.out]; exact hn
  have HB0 := Lib.hid ((Below.refl _ w).alloc (Nat.le_refl _) (.cells #[.int .i64 3, .int .i64 0, .string ⟨#[]⟩, .slice A n c] 124))
  have HX := heap_alloc_new w (.cells #[.int .i64 3, .int .i64 0, .string ⟨#[]⟩, .slice A n c] 124)
  have HX' := Lib.hid HX
  have HVA := Lib.hid (hV.out.below HB0.out)
  clear HX
  go_enter Tryd.func56, Tryd.ntmps56
  go_wp2_with fail
  have hck := vcheck_list zs A c (w.alloc (.cells #[.int .i64 3, .int .i64 0, .string ⟨#[]⟩, .slice A n c] 124)) hn HVA
  rw [HN.out] at hck
  refine hck.mono ?_
  rintro e W1 ⟨rfl, hq⟩
  have HB1 := Lib.hid (HB0.out.trans (hq.mono HB0.out.size))
  have HX1' := Lib.hid ((hq.block w.heap.size (by simp)).trans HX'.out)
  have hV1 := Lib.hid (hV.out.below HB1.out)
  have HX0 : Hid (W1.cell? ⟨w.heap.size, 0, none⟩ = some (.int .i64 3)) := Lib.hid (by rw [cell_of_row _ _ _ _ _ _ HX1'.out]; rfl)
  have HX1 : Hid (W1.cell? ⟨w.heap.size, 1, none⟩ = some (.int .i64 0)) := Lib.hid (by rw [cell_of_row _ _ _ _ _ _ HX1'.out]; rfl)
  have HX2 : Hid (W1.cell? ⟨w.heap.size, 2, none⟩ = some (.string ⟨#[]⟩)) := Lib.hid (by rw [cell_of_row _ _ _ _ _ _ HX1'.out]; rfl)
  have HX3 : Hid (W1.cell? ⟨w.heap.size, 3, none⟩ = some (.slice A n c)) := Lib.hid (by rw [cell_of_row _ _ _ _ _ _ HX1'.out]; rfl)
  have hN1 : Hid (w.heap.size ≤ W1.heap.size) := Lib.hid HB1.out.size
  obtain ⟨N, HNN⟩ : ∃ N, N = w.heap.size := ⟨_, rfl⟩
  clear hq hck HX1' HX' HVA HNN hn N
  go_wp2_with fail

  refine region_flow3 (by kernel_rfl) (by kernel_rfl) (fun i => Nat.beq i 9 || Nat.beq i 10) (fun i => i) (by kernel_rfl) (fun fx => #[Value.agg #[.int .i64 3, .int .i64 0, .string ⟨#[]⟩, .slice A n c], Value.pointer (some ⟨w.heap.size, 0, none⟩), fx 9, fx 10, Value.int .i64 (0), Value.agg #[.int .i64 3, .int .i64 0, .string ⟨#[]⟩, .slice A n c], Value.int .i64 (0), Value.int .i64 (0), Value.bool false, undef, fx 0, fx 1, fx 2, fx 3, fx 4, fx 5, fx 6, fx 7, fx 8]) (fun i => bif Nat.beq i 9 then Value.slice none 0 0 else bif Nat.beq i 10 then Value.int .i64 0 else undef) (fun L _ w' => (L 8 = false → Below W1.heap.size W1 w')) (fun fi fv _ fw => wE w.heap.size W1 w.heap.size zs A n c fi fv fw) (fun _ => (Below.refl _ _).drew) ?_ ?_
  · refine ⟨?_, ?_, ?_, ?_, ?_, ?_, ?_, ?_, ?_, ?_, ?_, trivial⟩
    all_goals intro L fx w' hC hi hcl hdn hd
    · have hnd : L 8 = false := Bool.eq_false_iff.2 (fun h => by have := (hcl 3 0 (hcl 4 3 (hcl 5 4 (hcl 6 5 (hcl 8 6 h (by kernel_rfl)) (by kernel_rfl)) (by kernel_rfl)) (by kernel_rfl)) (by kernel_rfl)); rw [hi] at this; cases this)
      go_wp2_with fail
      refine (newWriter_any _).mono ?_
      rintro e w2 ⟨rfl, hw2, hb2⟩
      have HW2 := Lib.hid hw2
      have HB2 := Lib.hid hb2
      clear hw2 hb2
      go_wp2_with fail
      have hs := (hC hnd).size
      exact ⟨_, rfl, fun _ => (hC hnd).trans (HB2.out.mono hs), ⟨_, _, rfl, HW2.out, Nat.le_trans hN1.out hs, Nat.le_trans (Nat.le_trans hN1.out hs) (Nat.le_succ _)⟩, fun j v t _ _ h => wE_below hN1.out HB2.out j v h⟩
    · have hnd : L 8 = false := Bool.eq_false_iff.2 (fun h => by have := (hcl 2 1 (hcl 4 2 (hcl 5 4 (hcl 6 5 (hcl 8 6 h (by kernel_rfl)) (by kernel_rfl)) (by kernel_rfl)) (by kernel_rfl)) (by kernel_rfl)); rw [hi] at this; cases this)
      go_wp2_with fail
      exact ⟨_, rfl, (fun _ => hC hnd), rfl, fun _ _ _ _ _ h => h⟩
    · have h1 : fx 1 = Value.pointer (some ⟨w.heap.size, 0, none⟩) := hd.1 rfl
      have hnd : L 8 = false := Bool.eq_false_iff.2 (fun h => by have := (hcl 4 2 (hcl 5 4 (hcl 6 5 (hcl 8 6 h (by kernel_rfl)) (by kernel_rfl)) (by kernel_rfl)) (by kernel_rfl)); rw [hi] at this; cases this)
      have hc := ((hC hnd).cell (block_lt_of_cell HX0.out)).trans HX0.out
      go_wp2_with fail
      exact ⟨_, by rw [← h1]; rfl, (fun _ => hC hnd), rfl, fun _ _ _ _ _ h => h⟩
    · have H0 := Lib.hid (hd.1 rfl)
      have hnd : L 8 = false := Bool.eq_false_iff.2 (fun h => by have := (hcl 4 3 (hcl 5 4 (hcl 6 5 (hcl 8 6 h (by kernel_rfl)) (by kernel_rfl)) (by kernel_rfl)) (by kernel_rfl)); rw [hi] at this; cases this)
      obtain ⟨q, c2, h0, hw, hq⟩ := H0.out
      have HWq := Lib.hid hw
      clear hw
      go_wp2_with fail
      exact ⟨_, by rw [← h0]; rfl, fun _ => hC hnd, ⟨q, c2, rfl, HWq.out, hq⟩, fun _ _ _ _ _ h => h⟩
    · have H3 := Lib.hid (hd.1 rfl)
      have h2 : fx 2 = Value.int .i64 (3) := hd.2.1 rfl
      have hnd : L 8 = false := Bool.eq_false_iff.2 (fun h => by have := (hcl 5 4 (hcl 6 5 (hcl 8 6 h (by kernel_rfl)) (by kernel_rfl)) (by kernel_rfl)); rw [hi] at this; cases this)
      obtain ⟨q, c2, h3, hw, hq⟩ := H3.out
      have HWq := Lib.hid hw
      clear hw
      go_wp2_with fail
      exact ⟨_, by rw [← h3, ← h2]; rfl, fun _ => hC hnd, ⟨q, c2, rfl, HWq.out, hq⟩, fun _ _ _ _ _ h => h⟩
    · have H4 := Lib.hid (hd.1 rfl)
      have hnd : L 8 = false := Bool.eq_false_iff.2 (fun h => by have := (hcl 6 5 (hcl 8 6 h (by kernel_rfl)) (by kernel_rfl)); rw [hi] at this; cases this)
      obtain ⟨q, c2, h4, hw, hq⟩ := H4.out
      have HWq := Lib.hid hw
      clear hw
      go_wp2_with fail
      exact ⟨_, by rw [← h4]; rfl, fun _ => hC hnd, ⟨q, c2, rfl, HWq.out, hq⟩, fun _ _ _ _ _ h => h⟩
    · have H5 := Lib.hid (hd.1 rfl)
      have hnd : L 8 = false := Bool.eq_false_iff.2 (fun h => by have := (hcl 8 6 h (by kernel_rfl)); rw [hi] at this; cases this)
      obtain ⟨q, c2, h5, hw, hq⟩ := H5.out
      have HWq := Lib.hid hw
      have hc3 := hw.c3
      clear hw
      go_wp2_with fail
      exact ⟨_, by rw [← h5]; rfl, fun _ => hC hnd, ⟨q, c2, rfl, HWq.out, hq⟩, fun _ _ _ _ _ h => h⟩
    · have hnd : L 8 = false := Bool.eq_false_iff.2 (fun h => by have := (hcl 8 7 h (by kernel_rfl)); rw [hi] at this; cases this)
      have hc0 := ((hC hnd).cell (block_lt_of_cell HX0.out)).trans HX0.out
      have hc1 := ((hC hnd).cell (block_lt_of_cell HX1.out)).trans HX1.out
      have hc2 := ((hC hnd).cell (block_lt_of_cell HX2.out)).trans HX2.out
      have hc3 := ((hC hnd).cell (block_lt_of_cell HX3.out)).trans HX3.out
      go_wp2_with fail
      exact ⟨_, rfl, (fun _ => hC hnd), rfl, fun _ _ _ _ _ h => h⟩
    · have H6 := Lib.hid (hd.1 rfl)
      have h7 : fx 7 = Value.agg #[.int .i64 3, .int .i64 0, .string ⟨#[]⟩, .slice A n c] := hd.2.1 rfl
      obtain ⟨q, c2, h6, hw, hq1, hq2⟩ := H6.out
      have HWq := Lib.hid hw
      have hb8 := hC hi
      clear hw
      have HV8 := Lib.hid (hV1.out.below hb8)
      go_wp2_with fail
      have HWL := write_list zs (.slice none 0 0) [] A c q c2 w.heap.size w' hz (by rw [HN.out]; exact hn') HV8 (Lib.hid (OwnB.nil _ _)) (by simp) (Nat.le_trans hN1.out hb8.size) HWq (Lib.hid (fun e => by cases e)) (Lib.hid (fun e => by cases e)) (Lib.hid (fun _ _ e => by cases e))
      rw [HN.out] at HWL
      refine HWL.mono ?_
      rintro e w2 ⟨v2, rfl, hO3, hG3⟩
      have HO3 := Lib.hid hO3
      have HG3 := Lib.hid hG3
      clear hO3 hG3 HWL
      go_wp2_with fail
      refine ⟨v2, by rw [← h7, ← h6]; rfl, fun h => (updB_self h).elim, ⟨by have := HO3.out; rwa [List.nil_append] at this, (hb8.mono hN1.out).trans (HG3.out.below (Nat.le_trans hN1.out hb8.size) (fun g e => by cases e))⟩, fun j v t hj hu h => ?_⟩
      refine wE_pure j v ?_ ?_ ?_ ?_ ?_ ?_ ?_ h <;> intro e <;> subst e
      · refine absurd hu (not_needed (E := fun i => Nat.beq i 9 || Nat.beq i 10) (j := 0) [3] ?_ ?_ ?_)
        · kernel_rfl
        · kernel_rfl
        · intro m hm hne; simp at hm; subst hm; exact hcl 4 3 (hcl 5 4 (hcl 6 5 (hdn 6 (by kernel_rfl)) (by kernel_rfl)) (by kernel_rfl)) (by kernel_rfl)
      · refine absurd hu (not_needed (E := fun i => Nat.beq i 9 || Nat.beq i 10) (j := 3) [4] ?_ ?_ ?_)
        · kernel_rfl
        · kernel_rfl
        · intro m hm hne; simp at hm; subst hm; exact hcl 5 4 (hcl 6 5 (hdn 6 (by kernel_rfl)) (by kernel_rfl)) (by kernel_rfl)
      · refine absurd hu (not_needed (E := fun i => Nat.beq i 9 || Nat.beq i 10) (j := 4) [5] ?_ ?_ ?_)
        · kernel_rfl
        · kernel_rfl
        · intro m hm hne; simp at hm; subst hm; exact hcl 6 5 (hdn 6 (by kernel_rfl)) (by kernel_rfl)
      · refine absurd hu (not_needed (E := fun i => Nat.beq i 9 || Nat.beq i 10) (j := 5) [6] ?_ ?_ ?_)
        · kernel_rfl
        · kernel_rfl
        · intro m hm hne; simp at hm; subst hm; exact hdn 6 (by kernel_rfl)
      · refine absurd hu (not_needed (E := fun i => Nat.beq i 9 || Nat.beq i 10) (j := 6) [8] ?_ ?_ ?_)
        · kernel_rfl
        · kernel_rfl
        · intro m hm hne; simp at hm; omega
      · rw [hi] at hj; cases hj
      · have := hcl 9 8 hj (by kernel_rfl); rw [hi] at this; cases this
    · have H8 := Lib.hid (hd.1 rfl)
      go_wp2_with fail
      exact ⟨fx 8, rfl, fun h => hC h, H8.out, fun _ _ _ _ _ h => h⟩
    · go_wp2_with fail
      exact ⟨_, rfl, fun h => hC h, rfl, fun _ _ _ _ _ h => h⟩
  · intro L fx w' hC hS
    have H9 := Lib.hid (hS 9 (by decide) rfl)
    have H10 := Lib.hid (hS 10 (by decide) rfl)

    have HG := Lib.hid (HB1.out.trans H9.out.2)
    clear hC hS
    have h10 : fx 10 = .int .i64 0 := H10.out
    rw [h10]
    clear h10 H10
    go_wp2_with fail
    go_ret2
    exact ⟨_, rfl, H9.out.1, HG.out⟩
end Go.Proofs.YtmfmgeapecapiaaDoor
namespace Go.Proofs.YtmfmgeapecapiaaDoor
open Go.ChangeShapes Go.WideShapes Go.ChangeAt Go.RowKit SzSha
set_option linter.unusedVariables false
set_option maxRecDepth 100000
theorem own : ownKnob Tryd.prog.godebug = none := by kernel_rfl
theorem laidOut : laidOutB Tryd.prog = true := by kernel_rfl
theorem mapsIn : mapsRowed Tryd.prog = true := by kernel_rfl
theorem slicesFull : ∀ t e, t < Tryd.prog.types.size → Tryd.prog.underlying t = some (.slice e) → 0 < Tryd.prog.cellsOf e := slices_full_of Tryd.prog (by kernel_rfl)
theorem gS : Tryd.prog.globalNamed "sizar/digest.start" = some 0 := by kernel_rfl
theorem gN : Tryd.prog.globalNamed "sizar/digest.numbers" = some 1 := by kernel_rfl
theorem tS : (Tryd.prog.globals[0]?).map (·.type) = some 178 := by kernel_rfl
theorem tN : (Tryd.prog.globals[1]?).map (·.type) = some 206 := by kernel_rfl
theorem cellsE : Tryd.prog.cellsOf 177 = 1 := by kernel_rfl
theorem cellsS : Tryd.prog.cellsOf 178 = 8 := by kernel_rfl
theorem cellsN : Tryd.prog.cellsOf 206 = 64 := by kernel_rfl
theorem cells8 : Tryd.prog.cellsOf 5 = 1 := by kernel_rfl
theorem bytes8 : Tryd.prog.bytesOf 5 = 1 := by kernel_rfl
/-- the tables as the rows list them -/
def laidL : List (String × DataW Unit) := [("sizar/digest.start", Rows.laid_sizar_digest_start), ("sizar/digest.numbers", Rows.laid_sizar_digest_numbers)]
theorem door_met (os : Os) (args : Array Value) : laidMetH Tryd.prog laidL ((World.doorLaid Tryd.prog 400 os).forCall (fun _ _ => 0) ⟨#[], args, []⟩).memory :=
  laidMetH_of_parts3 (fuel := 8) (laidMet_of_run' 8 (by kernel_rfl) (by kernel_rfl)) (by kernel_rfl) (by kernel_rfl)
theorem tabS : (Rows.laid_sizar_digest_start : DataW Unit) = Lib.tabData .u32 (hs.map fun x : Nat => (x : Int)) := by rfl
theorem tabN : (Rows.laid_sizar_digest_numbers : DataW Unit) = Lib.tabData .u32 (ks.map fun x : Nat => (x : Int)) := by rfl
theorem tabs_of {W : World} (h : laidMetH Tryd.prog laidL W) : Tabs W := by
  rw [MakeChecks.laidMetH_plain _ _ _ (by kernel_rfl)] at h
  obtain ⟨ps, ⟨g0, t0, cs0, f0, p0, q0, hg0, ht0, hv0, hd0, ⟨g1, t1, cs1, f1, p1, q1, hg1, ht1, hv1, hd1, _, _⟩, _⟩, _, _⟩ := h
  obtain rfl := Option.some.inj (gS.symm.trans hg0)
  obtain rfl := Option.some.inj (gN.symm.trans hg1)
  obtain rfl := Option.some.inj (tS.symm.trans ht0)
  obtain rfl := Option.some.inj (tN.symm.trans ht1)
  rw [tabS] at hd0
  rw [tabN] at hd1
  have e0 := Lib.cells_of_tab Tryd.underlying178 Tryd.underlying177 cellsE cellsS hd0
  have e1 := Lib.cells_of_tab Tryd.underlying206 Tryd.underlying177 cellsE cellsN hd1
  have c0 : ∀ t, t < 8 → W.cell? ⟨0, t, none⟩ = some (.int .u32 (hf t : Nat)) := fun t ht => by
    have := World.var?_cell gS hv0 t
    rw [this, ← Array.getElem?_toList, e0]
    have hl : t < hs.length := ht
    simp only [List.map_map, List.getElem?_map, List.getElem?_eq_getElem hl, Option.map_some, hf, List.getD_eq_getElem?_getD, Option.getD_some]; rfl
  have c1 : ∀ t, t < 64 → W.cell? ⟨1, t, none⟩ = some (.int .u32 (kf t : Nat)) := fun t ht => by
    have := World.var?_cell gN hv1 t
    rw [this, ← Array.getElem?_toList, e1]
    have hl : t < ks.length := ht
    simp only [List.map_map, List.getElem?_map, List.getElem?_eq_getElem hl, Option.map_some, kf, List.getD_eq_getElem?_getD, Option.getD_some]; rfl
  exact ⟨block_lt_of_cell (c0 0 (by omega)), block_lt_of_cell (c1 0 (by omega)), c0, c1⟩
theorem stands_of {ps : Array TypeId} (h : ps.all (fun t => !Tryd.prog.wantsStandIn t) = true) {j : Nat} {t : TypeId} (ht : ps[j]? = some t) : Tryd.prog.wantsStandIn t = false := by
  have := Array.all_eq_true_iff_forall_mem.1 h t (Array.mem_of_getElem? ht)
  simpa using this
/-- what a slice of bytes brings -/
structure In (w : World) (A : Option Addr) (n c : Nat) (l : List Nat) : Prop where
  len : l.length = n
  cap : n ≤ c
  none_ : A = none → c = 0
  bytes : Bytes l
  rd : Rd w w.heap.size A l
theorem In.below {w w' : World} {A : Option Addr} {n c : Nat} {l : List Nat} (h : In w A n c l) (hb : Below w.heap.size w w') : In w' A n c l :=
  ⟨h.len, h.cap, h.none_, h.bytes, (h.rd.below hb (Nat.le_refl _)).mono hb.size⟩
section
variable {H : Type} {enc : TypeId × Value → H}
theorem trodAll_carry {W W' : World} (hb : Below W.heap.size W W') : ∀ {ts : List TypeId} {vs : List Value} {ds : List (DataW H)} {ps : List MemPlace},
    DataW.TrodAll enc Tryd.prog W 0 (fun _ => true) true ts vs ds ps → DataW.TrodAll enc Tryd.prog W' 0 (fun _ => true) true ts vs ds ps
  | [], [], [], _, h => h
  | _ :: _, _ :: _, _ :: _, ps, h => by
    have hlt := DataW.TrodAll.lt h
    obtain ⟨p, q, ⟨n, h1⟩, h2, e⟩ := h
    refine ⟨p, q, ⟨n, DataW.trod_carry n _ _ _ h1 (fun x hx => ?_)⟩, trodAll_carry hb h2, e⟩
    have := hlt x (by rw [e]; exact List.mem_append_left _ hx)
    cases x with
    | cell b off => exact hb.cell (p := ⟨b, off, none⟩) this
    | map b => exact hb.block b this
/-- the last step of a law: true, and the arguments read as they did -/
theorem law_post {f : Func} {s : ChangeSpec} {W W' : World} {args : Array Value} {ds gs : List (DataW H)} {before : List MemPlace}
    (hts : f.params.toList.all (fun t => decide (t < Tryd.prog.types.size)) = true) (hvars : s.vars = []) (hrt : f.resultTypes = #[4])
    (hfn : gs = [] → (s.fn H ds).results = [.lit (.bool true)] ∧ (s.fn H ds).args = ds ∧ (s.fn H ds).vars = [])
    (hW : DataW.Whole enc Tryd.prog f.params.toList s.vars false W args.toList ds gs before) (hb : Below W.heap.size W W') :
    s.post enc Tryd.prog f false true false false W args (.bool true) W' := by
  have hW' := hW
  obtain ⟨p, q, hA, hV, rfl, hfz, hnd⟩ := hW
  rw [hvars] at hV
  obtain ⟨rfl, rfl⟩ := trodVars_none hV
  obtain ⟨e1, e2, e3⟩ := hfn rfl
  have hlt := DataW.TrodAll.lt hA
  have hA2 := DataW.TrodAll.respare (kids_rows laidOut mapsIn) (fun t e ht => slicesFull t e ht) (fun t ht => of_decide_eq_true (List.all_eq_true.1 hts t ht)) (trodAll_carry hb hA) (spare' := fun b => decide (b < W.heap.size)) (fun x hx => decide_eq_true (hlt x hx))
  refine ⟨ds, [], p ++ [], [], p, [], hW', ?_, ?_, ?_, World.keptBut_mono (fun x hx => ⟨hx, .inr (.inl (by simpa using hx))⟩) (hb.frame (· ∈ p ++ [])), fun h => by cases h⟩
  · rw [hrt, List.append_nil, e1]
    exact trodAll_cons_mk (shut_bool Tryd.underlying4 _) trodAll_mk0
  · rw [List.append_nil, e2]; exact hA2
  · rw [List.append_nil, e3, hvars]; rfl
/-- a slice of bytes that came in -/
theorem arg_bytes {W : World} {base : Nat} {v : Value} {d : DataW H} {p : List MemPlace} (hval : Value.okWide Tryd.prog W .any base 55 v) (h : DataW.Trod enc Tryd.prog W 0 (fun _ => true) true 55 v d p) :
    ∃ (A : Option Addr) (n c : Nat) (l : List Nat), v = .slice A n c ∧ l.length = n ∧ n ≤ c ∧ (A = none → c = 0) ∧ Bytes l ∧ Rd W W.heap.size A l ∧ (d = .nil ∧ n = 0 ∨ ∃ elems spare, d = .slice elems spare ∧ elems.length + spare.length = c) := by
  obtain ⟨a1, len, cap, rfl⟩ := okWide_slice Tryd.underlying55 hval
  obtain ⟨fuel, hf⟩ := h
  rcases open_ints Tryd.underlying55 Tryd.underlying5 cells8 hf with ⟨hcs, hx⟩ | ⟨a, len', cap', zs, hcs, _, hl, hm, hz, hx, hcell, hwz⟩
  · simp [Value.cells] at hcs
    obtain ⟨rfl, rfl, rfl⟩ := hcs
    simp only [Prod.mk.injEq] at hx
    exact ⟨none, 0, 0, [], rfl, rfl, Nat.le_refl _, fun _ => rfl, (fun x hx => by cases hx), fun h => absurd h (by simp), .inl ⟨hx.1, rfl⟩⟩
  · simp [Value.cells] at hcs
    obtain ⟨rfl, rfl, rfl⟩ := hcs
    simp only [Prod.mk.injEq] at hx
    simp only [if_true] at hz
    refine ⟨some a, len, cap, (zs.take len).map Int.toNat, rfl, by simp; omega, hl, (fun h => by cases h), ?_, ?_, .inr ⟨_, _, hx.1, by simp [lits]; omega⟩⟩
    · intro x hx
      simp only [List.mem_map] at hx
      obtain ⟨z, hz', rfl⟩ := hx
      have := hwz z (List.mem_of_mem_take hz')
      have := bounds_u8 this
      omega
    · intro hpos
      obtain ⟨ab, ao, spot⟩ := a
      have h0 : 0 < zs.length := by simp at hpos; omega
      have hspot : spot = none := by simpa [Addr.add] using World.cell?_spot (hcell 0 h0)
      subst hspot
      refine ⟨ab, ao, rfl, ?_, fun i hi => ?_⟩
      · have := hcell 0 h0
        exact block_lt_of_cell (a := (⟨ab, ao, none⟩ : Addr).add 0) this
      · have hi' : i < zs.length := by simp at hi; omega
        have := hcell i hi'
        rw [Addr.add_lit] at this
        rw [this]
        have hi2 : i < len := by simp at hi; omega
        have hb0 := bounds_u8 (hwz _ (List.getElem_mem hi'))
        simp only [List.getD_eq_getElem?_getD, List.getElem?_eq_getElem hi', Option.getD_some, List.getElem?_map, List.getElem?_take_of_lt hi2, Option.map_some]
        rw [Int.toNat_of_nonneg hb0.1]
end
end Go.Proofs.YtmfmgeapecapiaaDoor
namespace Go.Proofs.YtmfmgeapecapiaaDoor
open Go.RowKit SzSha SzTree
set_option linter.unusedVariables false
set_option maxRecDepth 100000
set_option maxHeartbeats 2000000 in
theorem clone_any (A : Option Addr) (n c : Nat) (l : List Nat) (w : World) (hn : n ≤ 1000000000) (h : Hid (In w A n c l)) :
    Calls Tryd.prog 105 #[.slice A n c] w fun e w' => ∃ v, e = .returned v ∧ OwnB w' w.heap.size v l ∧ Below w.heap.size w w' := by
  have kn0 := fun W => Lib.run_eql_slice_nil (P := Tryd.prog) W 55 5 A n c 0 0 Tryd.underlying55
  rcases A with _ | a
  · have h0 : n = 0 := by have := h.out.none_ rfl; have := h.out.cap; omega
    have hl : l = [] := List.eq_nil_of_length_eq_zero (by rw [h.out.len]; exact h0)
    have hc0 : c = 0 := h.out.none_ rfl
    subst hl
    subst h0
    subst hc0
    clear h hn
    go_enter Tryd.func105, Tryd.ntmps105
    go_wp2_with fail
    go_ret
    exact ⟨_, rfl, OwnB.nil _ _, Below.refl _ _⟩
  · have HO := Lib.hid (⟨rfl, .inr ⟨w.heap.size, 0, #[], rfl, Nat.le_refl _, heap_alloc_new w _, Nat.le_refl _, by simp [maxLen], rfl, rfl⟩⟩ : OwnB (w.alloc (.cells #[] 5)) w.heap.size (.slice (some ⟨w.heap.size, 0, none⟩) 0 0) [])
    have HB := Lib.hid ((Below.refl _ w).alloc (Nat.le_refl _) (.cells #[] 5))
    have HR := Lib.hid ((h.out.rd.below HB.out (Nat.le_refl _)).mono HB.out.size)
    have HLN := Lib.hid h.out.len
    have hlen : ([] : List Nat).length + n ≤ 1099511627776 := by simp; omega
    go_enter Tryd.func105, Tryd.ntmps105
    go_wp2_with (at_builtin; refine wpList_append_bytes rfl (.tmp 5) (.tmp 6) rfl w.heap.size _ [] l rfl HO (some a) n c rfl HLN (fun h => by cases h) HR hlen HB.out.size ?_; intro v2 w2 HO2 HB2)
    rw [List.nil_append] at HO2
    go_ret
    exact ⟨_, rfl, HO2.out, HB.out.trans HB2.out⟩
/-- the cells of integers of the codec -/
def vcells : List Int → List Value
  | [] => []
  | z :: zs => .int .i64 1 :: .int .i64 z :: .string ⟨#[]⟩ :: .slice none 0 0 :: vcells zs
theorem vcells_append : ∀ (a b : List Int), vcells (a ++ b) = vcells a ++ vcells b
  | [], b => rfl
  | z :: a, b => by simp only [List.cons_append, vcells, vcells_append a b]
theorem vcells_length : ∀ zs : List Int, (vcells zs).length = zs.length * 4
  | [] => rfl
  | z :: zs => by simp only [vcells, List.length_cons, vcells_length zs]; omega
theorem vcells_get : ∀ (zs : List Int) (i : Nat) (hi : i < zs.length), (vcells zs)[i * 4]? = some (.int .i64 1) ∧ (vcells zs)[i * 4 + 1]? = some (.int .i64 zs[i]) ∧ (vcells zs)[i * 4 + 2]? = some (.string ⟨#[]⟩) ∧ (vcells zs)[i * 4 + 3]? = some (.slice none 0 0)
  | [], i, hi => by simp at hi
  | z :: zs, 0, _ => by simp [vcells]
  | z :: zs, i + 1, hi => by
    have h := vcells_get zs i (by simpa using hi)
    rw [show (i + 1) * 4 = i * 4 + 4 by omega]
    simpa [vcells] using h
/-- a slice of values that the call made -/
def OwnV (w : World) (base : Nat) (v : Value) (zs : List Int) : Prop := w.ownsRow base 124 4 v zs.length (vcells zs)
theorem OwnV.nil (w : World) (base : Nat) : OwnV w base (.slice none 0 0) [] := ⟨rfl, .inl ⟨rfl, rfl⟩⟩
theorem OwnV.slice {w : World} {base : Nat} {v : Value} {zs : List Int} (h : OwnV w base v zs) : ∃ A c, v = .slice A zs.length c ∧ VRd w w.heap.size A zs := by
  rcases h.2 with ⟨rfl, h0⟩ | ⟨g, cap, cur, rfl, hb, hh, hc, hm, hs, ht⟩
  · exact ⟨none, 0, by rw [h0], fun h => by omega⟩
  · refine ⟨_, cap, rfl, fun _ => ⟨g, rfl, (Array.getElem?_eq_some_iff.1 hh).1, fun i hi => ?_⟩⟩
    have key : ∀ k, k < zs.length * 4 → w.cell? ⟨g, 0 + k, none⟩ = (vcells zs)[k]? := fun k hk => by
      rw [Nat.zero_add, cell_of_row w g k cur _ _ hh, ← ht, List.getElem?_take_of_lt hk]; simp
    have hv := vcells_get zs i hi
    refine ⟨?_, ?_, ?_, ?_⟩
    · rw [key _ (by omega)]; exact hv.1
    · rw [show 0 + i * 4 + 1 = 0 + (i * 4 + 1) by omega, key _ (by omega)]; exact hv.2.1
    · rw [show 0 + i * 4 + 2 = 0 + (i * 4 + 2) by omega, key _ (by omega)]; exact hv.2.2.1
    · rw [show 0 + i * 4 + 3 = 0 + (i * 4 + 3) by omega, key _ (by omega)]; exact hv.2.2.2
theorem OwnV.kept {w w' : World} {base : Nat} {v : Value} {zs : List Int} (h : OwnV w base v zs) (hk : ∀ g, base ≤ g → g < w.heap.size → w'.heap[g]? = w.heap[g]?) : OwnV w' base v zs := by
  refine ⟨h.1, ?_⟩
  rcases h.2 with h0 | ⟨g, cap, cur, rfl, hb, hh, r⟩
  · exact .inl h0
  · exact .inr ⟨g, cap, cur, rfl, hb, (hk g hb (Array.getElem?_eq_some_iff.1 hh).1).trans hh, r⟩
theorem info_val : ∃ i, Tryd.prog.info? 124 = some i ∧ i.zero = some (.agg #[.int .i64 0, .int .i64 0, .string ⟨#[]⟩, .slice none 0 0]) ∧ i.size = 4 ∧ i.bytes = 56 := by
  refine ⟨_, rfl, ?_, ?_, ?_⟩ <;> kernel_rfl
theorem wpList_append_val {w : World} {ops : Array Oper} {rest : List Oper} {o : Oper} {a : Act} {Q : Exit → Act → World → Prop} (hgd : o.guard = none) (s x : Operand)
    (ho : o.op = .call { callee := .builtin .append, args := #[s, x], argTypes := #[122, 122] })
    (base : Nat) (v : Value) (zs : List Int) (z : Int) (hs : a.eval s = v) (hown : Hid (OwnV w base v zs)) (g : Nat) (hx : a.eval x = .slice (some ⟨g, 0, none⟩) 1 1)
    (hr : Hid (w.heap[g]? = some (.cells #[.int .i64 1, .int .i64 z, .string ⟨#[]⟩, .slice none 0 0] 124 (0, 0)))) (hlen : zs.length ≤ 100000) (hbase : base ≤ w.heap.size)
    (h : ∀ v' w', Hid (OwnV w' base v' (zs ++ [z])) → Hid (Below base w w') → wpList Tryd.prog ops Q rest (a.put o.dst v') w') : wpList Tryd.prog ops Q (o :: rest) a w := by
  obtain ⟨i0, hi, hz0, hz1, hz2⟩ := info_val
  refine wpList_append_own_at _ hgd s x _ ho base _ i0 _ 4 56 Tryd.underlying122 hi hz0 hz1 hz2 (by simp [Value.cells]) (by omega) v _ _ hs hown.out ⟨g, 0, none⟩ 1 1 [.int .i64 1, .int .i64 z, .string ⟨#[]⟩, .slice none 0 0] hx rfl (fun j u hu => ?_) (fun u hu => ?_) (by unfold maxLen; omega) (by omega) hbase ?_
  · rw [add_row, cell_of_row _ _ _ _ _ _ hr.out, ← hu]; simp
  · simp only [List.mem_cons, List.not_mem_nil, or_false] at hu
    rcases hu with rfl | rfl | rfl | rfl <;> rfl
  · intro v' w' h1 h2 h3 h4
    refine h v' w' (Lib.hid ?_) (Lib.hid ((Below.refl base w).grown h2 hbase (fun k hk => ?_)))
    · unfold OwnV
      rw [vcells_append, List.length_append]; exact h1
    · rcases hown.out.2 with ⟨rfl, h0⟩ | ⟨g', cap, cur, rfl, hb, hh, r⟩
      · cases hk
      · have : g' = k := by simpa [Value.ownBlock] using hk
        omega
theorem ownV_form {w : World} {base : Nat} {v : Value} {zs : List Int} (h : OwnV w base v zs) : ∃ A n c, v = .slice A n c := by
  obtain ⟨A, c, e, _⟩ := h.slice
  exact ⟨A, _, c, e⟩
theorem row3 {w : World} {b : Nat} {v : Value} (h : w.heap[b]? = some (.cells #[.int .i64 3, .int .i64 0, .string ⟨#[]⟩, v] 124 (0, 0))) : w.cell? ⟨b, 3, none⟩ = some v ∧ w.frozen? ⟨b, 3, none⟩ = false :=
  ⟨by rw [cell_of_row _ _ _ _ _ _ h]; rfl, by simp [World.frozen?, h]⟩
theorem set3 {w : World} {b : Nat} {v v' : Value} (h : w.heap[b]? = some (.cells #[.int .i64 3, .int .i64 0, .string ⟨#[]⟩, v] 124 (0, 0))) : (w.setCell ⟨b, 3, none⟩ v').heap[b]? = some (.cells #[.int .i64 3, .int .i64 0, .string ⟨#[]⟩, v'] 124 (0, 0)) := by
  simp only [World.setCell, Array.getElem?_modify, if_true, h]; rfl
set_option maxHeartbeats 4000000 in
theorem thash_any (tag : ByteArray) (zs : List Int) (g m gc : Nat) (A : Option Addr) (n c : Nat) (l : List Nat) (w : World) (htag : tag.size ≤ 4294967296) (hz : Hid (∀ z ∈ zs, -9223372036854775808 ≤ z ∧ z ≤ 9223372036854775807)) (hm : zs.length = m) (hzn : m ≤ 1000) (hzc : Hid (∀ i, i < m → w.cell? ⟨g, i, none⟩ = some (.int .i64 (zs.getD i 0)))) (hg : g < w.heap.size) (hn : n ≤ 1000000) (hT : Hid (Tabs w)) (h : Hid (In w A n c l)) :
    Calls Tryd.prog 62 #[.string tag, .slice A n c, .slice (some ⟨g, 0, none⟩) m gc] w fun e w' => e = .returned (dgV (hashT (strL tag) l zs)) ∧ Below w.heap.size w w' := by
  have HM := Lib.hid hm
  clear hm
  have HB0 := Lib.hid (((Below.refl _ w).alloc (Nat.le_refl _) (.cells #[.int .u8 0, .int .u8 0, .int .u8 0, .int .u8 0, .int .u8 0, .int .u8 0, .int .u8 0, .int .u8 0, .int .u8 0, .int .u8 0, .int .u8 0, .int .u8 0, .int .u8 0, .int .u8 0, .int .u8 0, .int .u8 0, .int .u8 0, .int .u8 0, .int .u8 0, .int .u8 0, .int .u8 0, .int .u8 0, .int .u8 0, .int .u8 0, .int .u8 0, .int .u8 0, .int .u8 0, .int .u8 0, .int .u8 0, .int .u8 0, .int .u8 0, .int .u8 0] 25)).alloc (by simp) (.cells #[.int .i64 3, .int .i64 0, .string ⟨#[]⟩, .slice none 0 0] 124))
  have h1 := heap_alloc_new (w.alloc (.cells #[.int .u8 0, .int .u8 0, .int .u8 0, .int .u8 0, .int .u8 0, .int .u8 0, .int .u8 0, .int .u8 0, .int .u8 0, .int .u8 0, .int .u8 0, .int .u8 0, .int .u8 0, .int .u8 0, .int .u8 0, .int .u8 0, .int .u8 0, .int .u8 0, .int .u8 0, .int .u8 0, .int .u8 0, .int .u8 0, .int .u8 0, .int .u8 0, .int .u8 0, .int .u8 0, .int .u8 0, .int .u8 0, .int .u8 0, .int .u8 0, .int .u8 0, .int .u8 0] 25)) (.cells #[.int .i64 3, .int .i64 0, .string ⟨#[]⟩, .slice none 0 0] 124)
  have h2 := (Below.heap_alloc (w.alloc (.cells #[.int .u8 0, .int .u8 0, .int .u8 0, .int .u8 0, .int .u8 0, .int .u8 0, .int .u8 0, .int .u8 0, .int .u8 0, .int .u8 0, .int .u8 0, .int .u8 0, .int .u8 0, .int .u8 0, .int .u8 0, .int .u8 0, .int .u8 0, .int .u8 0, .int .u8 0, .int .u8 0, .int .u8 0, .int .u8 0, .int .u8 0, .int .u8 0, .int .u8 0, .int .u8 0, .int .u8 0, .int .u8 0, .int .u8 0, .int .u8 0, .int .u8 0, .int .u8 0] 25)) (.cells #[.int .i64 3, .int .i64 0, .string ⟨#[]⟩, .slice none 0 0] 124) w.heap.size (by simp)).trans (heap_alloc_new w _)
  rw [World.size_alloc] at h1
  have HV0 := Lib.hid h1
  have HD0 := Lib.hid h2
  clear h1 h2
  go_enter Tryd.func62, Tryd.ntmps62
  go_wp2_with fail
  go_loopw [15] (fun i wr => ∃ j : Nat, j ≤ m ∧ i = .int .i64 j ∧ ∃ vl, Hid (wr.heap[w.heap.size]? = some (.cells #[.int .u8 0, .int .u8 0, .int .u8 0, .int .u8 0, .int .u8 0, .int .u8 0, .int .u8 0, .int .u8 0, .int .u8 0, .int .u8 0, .int .u8 0, .int .u8 0, .int .u8 0, .int .u8 0, .int .u8 0, .int .u8 0, .int .u8 0, .int .u8 0, .int .u8 0, .int .u8 0, .int .u8 0, .int .u8 0, .int .u8 0, .int .u8 0, .int .u8 0, .int .u8 0, .int .u8 0, .int .u8 0, .int .u8 0, .int .u8 0, .int .u8 0, .int .u8 0] 25 (0, 0))) ∧ Hid (wr.heap[w.heap.size + 1]? = some (.cells #[.int .i64 3, .int .i64 0, .string ⟨#[]⟩, vl] 124 (0, 0))) ∧ Hid (OwnV wr (w.heap.size + 1 + 1) vl (zs.take j)) ∧ Hid (Below w.heap.size w wr)) (fun i _ => m - (intOf i).toNat)
  case atStart => exact ⟨0, by omega, rfl, _, HD0, HV0, Lib.hid (OwnV.nil _ _), HB0⟩
  case round =>
    clear HD0 HV0 HB0
    obtain ⟨j, hj, rfl, vl, HD, HV, HO, HB⟩ := hrel
    by_cases hlt : j < m
    · have d1 : decide ((j : Int) < (m : Int)) = true := decide_eq_true (by omega)
      obtain ⟨z, HZ⟩ : ∃ z, Hid (zs.getD j 0 = z) := ⟨_, Lib.hid rfl⟩
      have hcell : wr.cell? ⟨g, j, none⟩ = some (.int .i64 z) := by rw [← HZ.out]; exact (HB.out.cell (p := ⟨g, j, none⟩) hg).trans (hzc.out j hlt)
      have k3 : wr.cell? ⟨w.heap.size + 1, 3, none⟩ = some vl := by rw [cell_of_row _ _ _ _ _ _ HV.out]; rfl
      have HSZ : Hid (w.heap.size + 1 + 1 ≤ wr.heap.size) := Lib.hid (Array.getElem?_eq_some_iff.1 HV.out).1
      have HBA := Lib.hid ((Below.refl _ wr).alloc (Nat.le_refl _) (.cells #[.int .i64 1, .int .i64 z, .string ⟨#[]⟩, .slice none 0 0] 124))
      have HOA := Lib.hid (HO.out.kept (fun k _ hk => HBA.out.block k hk))
      have HVA := Lib.hid ((HBA.out.block _ HSZ.out).trans HV.out)
      have HRA := Lib.hid (heap_alloc_new wr (.cells #[.int .i64 1, .int .i64 z, .string ⟨#[]⟩, .slice none 0 0] 124))
      have HLN : Hid ((zs.take j).length ≤ 100000) := Lib.hid (by rw [List.length_take]; omega)
      have HSA := Lib.hid (Nat.le_trans HSZ.out HBA.out.size)
      have HNX : Hid (zs.take j ++ [z] = zs.take (j + 1)) := Lib.hid (by
        have h1 : j < zs.length := by rw [HM.out]; exact hlt
        rw [List.take_succ_eq_append_getElem h1, ← HZ.out]; simp [List.getD_eq_getElem?_getD, h1])
      go_wp2_with (at_builtin; refine wpList_append_val rfl (.tmp 20) (.tmp 23) rfl (w.heap.size + 1 + 1) vl (zs.take j) z ?ha HOA wr.heap.size ?hb ?hc HLN.out HSA.out ?_)
      case ha => rfl
      case hb => rfl
      case hc => exact HRA
      intro v2 w2 HO2 HB2
      obtain ⟨A', n', c', rfl⟩ := ownV_form HO2.out
      have HV2 := Lib.hid ((HB2.out.block (w.heap.size + 1) (Nat.lt_succ_self _)).trans HVA.out)
      obtain ⟨k3', f3'⟩ := row3 HV2.out
      go_wp2_with fail
      have HBB := Lib.hid (((HB.out.trans (HBA.out.mono HB.out.size)).trans (HB2.out.mono (by omega))).setCell (p := ⟨w.heap.size + 1, 3, none⟩) (Nat.le_succ _) (.slice A' n' c'))
      have HV3 := Lib.hid (set3 (v' := .slice A' n' c') HV2.out)
      have HD3 := Lib.hid ((Below.heap_setCell w2 ⟨w.heap.size + 1, 3, none⟩ (.slice A' n' c') w.heap.size (by simp)).trans ((HB2.out.block w.heap.size (by omega)).trans ((HBA.out.block _ (by have := HSZ.out; omega)).trans HD.out)))
      have HO3 := Lib.hid (HO2.out.kept (fun k hk hk2 => Below.heap_setCell w2 ⟨w.heap.size + 1, 3, none⟩ (.slice A' n' c') k (by intro e; simp at e; omega)))
      rw [HNX.out] at HO3
      clear k3' f3' k3 hcell
      go_roundw
      case rel => exact ⟨j + 1, by omega, by go_num, _, HD3, HV3, HO3, HBB⟩
      case measure => simp [intOf]; omega
    · have d1 : decide ((j : Int) < (m : Int)) = false := decide_eq_false (by omega)
      have HOm : Hid (OwnV wr (w.heap.size + 1 + 1) vl zs) := Lib.hid (by have := HO.out; rwa [List.take_of_length_le (by rw [HM.out]; omega)] at this)
      obtain ⟨Av, cv, rfl, hvr⟩ := HOm.out.slice
      have HVR := Lib.hid hvr
      have c0 : wr.cell? ⟨w.heap.size + 1, 0, none⟩ = some (.int .i64 3) := by rw [cell_of_row _ _ _ _ _ _ HV.out]; rfl
      have c1 : wr.cell? ⟨w.heap.size + 1, 1, none⟩ = some (.int .i64 0) := by rw [cell_of_row _ _ _ _ _ _ HV.out]; rfl
      have c2 : wr.cell? ⟨w.heap.size + 1, 2, none⟩ = some (.string ⟨#[]⟩) := by rw [cell_of_row _ _ _ _ _ _ HV.out]; rfl
      have c3 : wr.cell? ⟨w.heap.size + 1, 3, none⟩ = some (.slice Av zs.length cv) := by rw [cell_of_row _ _ _ _ _ _ HV.out]; rfl
      clear hvr
      go_wp2_with fail
      refine (encode_list zs Av cv _ hz (by rw [HM.out]; omega) HVR).mono ?_
      rintro e w2 ⟨v2, rfl, ho2, hb2⟩
      have HO2 := Lib.hid ho2
      have HB2 := Lib.hid (HB.out.trans (hb2.mono HB.out.size))
      have HD2 := Lib.hid ((hb2.block w.heap.size (Array.getElem?_eq_some_iff.1 HD.out).1).trans HD.out)
      clear ho2 hb2 c0 c1 c2 c3
      go_wp2_with fail
      refine (clone_any A n c l _ (by omega) (Lib.hid (h.out.below HB2.out))).mono ?_
      rintro e w3 ⟨v3, rfl, ho3, hb3⟩
      obtain ⟨A2, n2, cc2, rfl, hn2, hc2, hA2, HR2⟩ := (HO2.out.below hb3).slice
      have HO3 := Lib.hid ho3
      have HB3 := Lib.hid (HB2.out.trans (hb3.mono HB2.out.size))
      have HD3 := Lib.hid ((hb3.block w.heap.size (Array.getElem?_eq_some_iff.1 HD2.out).1).trans HD2.out)
      have HS3 : Hid (w2.heap.size ≤ w3.heap.size) := Lib.hid hb3.size
      have HEL : Hid (n2 ≤ 20000) := Lib.hid (by rw [← hn2.out]; have := encI_length zs; rw [HM.out] at this; omega)
      have HL3 : Hid (l.length + n2 ≤ 1099511627776) := Lib.hid (by have := h.out.len; have := HEL.out; omega)
      clear ho3 hb3
      go_wp2_with (at_builtin; refine wpList_append_bytes rfl (.tmp 34) (.tmp 35) rfl w2.heap.size _ l (encI zs) rfl HO3 A2 n2 cc2 rfl hn2 hA2.out HR2 HL3.out HS3.out ?_; intro v4 w4 HO4 HB4)
      obtain ⟨A6, n6, c6, rfl, hn6, hc6, hA6, HR6⟩ := HO4.out.slice
      have HB5 := Lib.hid (HB3.out.trans (HB4.out.mono HB2.out.size))
      have HD4 := Lib.hid ((HB4.out.block w.heap.size (Nat.lt_of_lt_of_le (Array.getElem?_eq_some_iff.1 HD2.out).1 (Nat.le_refl _))).trans HD3.out)
      refine (tagged_any tag A6 n6 c6 (l ++ encI zs) _ htag hn6 hc6 hA6.out (by rw [← hn6.out, List.length_append, h.out.len, hn2.out]; have := HEL.out; omega) (Lib.hid (fun x hx => by
        rcases List.mem_append.1 hx with h' | h'
        · exact h.out.bytes x h'
        · exact encI_bytes zs x h')) (Lib.hid (hT.out.below HB5.out)) HR6).mono ?_
      rintro e w5 ⟨rfl, hb5⟩
      have HB6 := Lib.hid (HB5.out.trans (hb5.mono HB5.out.size))
      have HD5 := Lib.hid ((hb5.block w.heap.size (Array.getElem?_eq_some_iff.1 HD4.out).1).trans HD4.out)
      have HE : Hid (dgV (tagged (strL tag) (l ++ encI zs)) = dgV (hashT (strL tag) l zs)) := Lib.hid rfl
      have HLH : Hid ((hashT (strL tag) l zs).length = 32) := Lib.hid (tagged_length _ _)
      rw [HE.out]
      obtain ⟨X, HX⟩ : ∃ X, Hid (((hashT (strL tag) l zs).map fun x => Value.int .u8 (x : Nat)).toArray = X) := ⟨_, Lib.hid rfl⟩
      have HEX : Hid (dgV (hashT (strL tag) l zs) = .agg X) := Lib.hid (by unfold dgV; rw [HX.out])
      have hXs : Hid (32 = X.size) := Lib.hid (by rw [← HX.out]; simp [HLH.out])
      have hsz : Hid ((Tryd.prog.info? 25).map (·.size) = some X.size) := Lib.hid (by rw [← HX.out]; exact size32 _ HLH.out)
      have hone : Hid (X.all (·.oneCell') = true) := Lib.hid (by rw [← HX.out]; exact oneCells _)
      rw [HEX.out]
      clear hb5
      go_wp2_with (refine wpList_store_row rfl 25 (.tmp 6) (.tmp 37) rfl w.heap.size X rfl rfl 25 _ HD5.out hsz.out hXs.out hone.out ?_)
      refine bodyPost_ret (results_cell_row rfl _ _ w.heap.size 25 _ (0, 0) _ rfl (setRow_heap w5 w.heap.size _ _ _ _ HD5.out) Tryd.underlying25 rfl hsz.out) rfl ?_
      exact ⟨by rw [HEX.out], below_setRow HB6.out (Nat.le_refl _) _⟩
end Go.Proofs.YtmfmgeapecapiaaDoor
namespace Go.Proofs.SzTree
open SzSha
set_option linter.unusedVariables false
/-- from the root downwards, the parts beside the way to a leaf: whether on the right side, from, to -/
def wayF : Nat → Nat → Nat → Nat → List (Bool × Nat × Nat)
  | 0, _, _, _ => []
  | f + 1, i, a, b => if b - a ≤ 1 then [] else if i < a + half (b - a) then (true, a + half (b - a), b) :: wayF f i a (a + half (b - a)) else (false, a, a + half (b - a)) :: wayF f i (a + half (b - a)) b
theorem wayF_stop (f i a b : Nat) (h : b - a ≤ 1) : wayF f i a b = [] := by
  cases f with
  | zero => rfl
  | succ f => unfold wayF; rw [if_pos h]
theorem wayF_fuel : ∀ f g i a b, b - a ≤ f + 1 → b - a ≤ g + 1 → wayF f i a b = wayF g i a b
  | 0, g, i, a, b, h, _ => by rw [wayF_stop _ _ _ _ (by omega), wayF_stop _ _ _ _ (by omega)]
  | f + 1, 0, i, a, b, _, h => by rw [wayF_stop _ _ _ _ (by omega), wayF_stop _ _ _ _ (by omega)]
  | f + 1, g + 1, i, a, b, h1, h2 => by
    unfold wayF
    by_cases h : b - a ≤ 1
    · rw [if_pos h, if_pos h]
    · have hb := half_bd (n := b - a) (by omega)
      rw [if_neg h, if_neg h, wayF_fuel f g i a _ (by omega) (by omega), wayF_fuel f g i _ b (by omega) (by omega)]
def way (i n : Nat) : List (Bool × Nat × Nat) := wayF n i 0 n
theorem wayF_step (f i a b : Nat) (h : 2 ≤ b - a) (hf : b - a ≤ f) : wayF f i a b = if i < a + half (b - a) then (true, a + half (b - a), b) :: wayF f i a (a + half (b - a)) else (false, a, a + half (b - a)) :: wayF f i (a + half (b - a)) b := by
  have hb := half_bd (n := b - a) h
  rw [wayF_fuel f (f + 1) i a b (by omega) (by omega)]
  conv => lhs; unfold wayF
  rw [if_neg (by omega)]
theorem wayF_length : ∀ f i a b, (wayF f i a b).length ≤ f
  | 0, _, _, _ => by simp [wayF]
  | f + 1, i, a, b => by
    unfold wayF; split
    · simp
    · split
      · have := wayF_length f i a (a + half (b - a)); simp; omega
      · have := wayF_length f i (a + half (b - a)) b; simp; omega
theorem wayF_bd : ∀ f i a b, a ≤ b → ∀ x ∈ wayF f i a b, a ≤ x.2.1 ∧ x.2.1 < x.2.2 ∧ x.2.2 ≤ b
  | 0, _, _, _, _, x, hx => by simp [wayF] at hx
  | f + 1, i, a, b, hab, x, hx => by
    unfold wayF at hx
    split at hx
    · cases hx
    · have hb := half_bd (n := b - a) (by omega)
      split at hx
      · rcases List.mem_cons.1 hx with rfl | h
        · simp only; omega
        · have := wayF_bd f i a _ (by omega) x h; omega
      · rcases List.mem_cons.1 hx with rfl | h
        · simp only; omega
        · have := wayF_bd f i _ b (by omega) x h; omega
def seg (l : List Nd) (a b : Nat) : List Nd := (l.take b).drop a
theorem seg_length (l : List Nd) (a b : Nat) (h : b ≤ l.length) : (seg l a b).length = b - a := by simp [seg]; omega
theorem seg_take (l : List Nd) (a k b : Nat) (h1 : a ≤ k) (h2 : k ≤ b) : (seg l a b).take (k - a) = seg l a k := by
  unfold seg
  rw [List.take_drop, List.take_take, show min (a + (k - a)) b = k by omega]
theorem seg_drop (l : List Nd) (a k b : Nat) (h1 : a ≤ k) (h2 : k ≤ b) : (seg l a b).drop (k - a) = seg l k b := by
  unfold seg
  rw [List.drop_drop, show a + (k - a) = k by omega]
theorem seg_app (l : List Nd) (a k b : Nat) (h1 : a ≤ k) (h2 : k ≤ b) : seg l a k ++ seg l k b = seg l a b := by
  rw [← seg_take l a k b h1 h2, ← seg_drop l a k b h1 h2, List.take_append_drop]
theorem seg_all (l : List Nd) : seg l 0 l.length = l := by simp [seg]
theorem seg_one (l : List Nd) (a : Nat) (h : a < l.length) : seg l a (a + 1) = [l[a]] := by
  unfold seg
  rw [List.take_succ_eq_append_getElem h, List.drop_append, List.drop_eq_nil_of_le (by simp; omega), List.length_take, show a - min a l.length = 0 by omega]; rfl
theorem vL_seg {l : List Nd} (h : vL l = true) (a b : Nat) (h1 : a ≤ b) (h2 : b ≤ l.length) : vL (seg l a b) = true := by
  have e : l = seg l 0 a ++ (seg l a b ++ seg l b l.length) := by
    rw [seg_app l a b _ h1 h2, seg_app l 0 a _ (by omega) (by omega), seg_all]
  rw [e] at h
  exact (vL_parts (vL_parts h).2).1
theorem root_seg (l : List Nd) (a b : Nat) (h : 2 ≤ b - a) (hb : b ≤ l.length) : root (seg l a b) = joinN (root (seg l a (a + half (b - a)))) (root (seg l (a + half (b - a)) b)) := by
  have hh := half_bd h
  rw [root_two (by rw [seg_length l a b hb]; exact h), seg_length l a b hb]
  have e1 := seg_take l a (a + half (b - a)) b (by omega) (by omega)
  have e2 := seg_drop l a (a + half (b - a)) b (by omega) (by omega)
  rw [show a + half (b - a) - a = half (b - a) by omega] at e1 e2
  rw [e1, e2]
/-- the path of a leaf -/
def pathN (l : List Nd) (i : Nat) : List Nd := ((way i l.length).map fun x => root (seg l x.2.1 x.2.2)).reverse
/-- a step upwards -/
def stepN (r : Bool) (p n : Nd) : Option Nd := if r then (if vL [n, p] then some (joinN n p) else none) else (if vL [p, n] then some (joinN p n) else none)
def climbF : List Bool → List Nd → Nd → Option Nd
  | r :: rs, p :: ps, n => (stepN r p n).bind (climbF rs ps)
  | _, _, n => some n
theorem climb_snoc : ∀ (rs : List Bool) (ps : List Nd) (r : Bool) (p n : Nd), rs.length = ps.length → climbF (rs ++ [r]) (ps ++ [p]) n = (climbF rs ps n).bind (stepN r p)
  | [], [], r, p, n, _ => by
    simp only [List.nil_append, climbF, Option.bind_some]
    cases stepN r p n <;> rfl
  | [], _ :: _, _, _, _, h => by simp at h
  | _ :: _, [], _, _, _, h => by simp at h
  | r' :: rs, p' :: ps, r, p, n, h => by
    simp only [List.cons_append, climbF]
    cases stepN r' p' n with
    | none => rfl
    | some x => exact climb_snoc rs ps r p x (by simpa using h)
/-- the sides of the way, from the leaf upwards -/
def sidesN (i n : Nat) : List Bool := ((way i n).map (·.1)).reverse
theorem vL_two {l r : List Nd} (h : vL (l ++ r) = true) (h1 : 1 ≤ l.length) (h2 : 1 ≤ r.length) : vL [root l, root r] = true := by
  have hp := vL_parts h
  have a := vL_root h1 hp.1
  have b := vL_root h2 hp.2
  have s1 := root_sums _ l rfl h1
  have s2 := root_sums _ r rfl h2
  simp only [vL, List.all_append, Bool.and_eq_true, decide_eq_true_eq, sumC_append] at h
  unfold vL
  rw [Bool.and_eq_true, decide_eq_true_eq]
  refine ⟨by simp [a, b], ?_⟩
  simp only [sumC, s1.1, s2.1]
  omega
theorem climb_seg (l : List Nd) (hv : vL l = true) : ∀ f i a b, a ≤ i → (hi : i < b) → (hb : b ≤ l.length) → b - a ≤ f →
    climbF ((wayF f i a b).map (·.1)).reverse ((wayF f i a b).map fun x => root (seg l x.2.1 x.2.2)).reverse (l[i]'(by omega)) = some (root (seg l a b)) := by
  intro f
  induction f with
  | zero => intro i a b h1 h2 h3 h4; omega
  | succ f ih =>
    intro i a b h1 h2 h3 h4
    by_cases h : b - a ≤ 1
    · rw [wayF_stop _ _ _ _ h]
      have hab : b = a + 1 := by omega
      have hia : i = a := by omega
      subst hab
      subst hia
      rw [seg_one l i (by omega)]
      rfl
    · have hh := half_bd (n := b - a) (by omega)
      have hv2 := vL_seg hv a b (by omega) h3
      rw [← seg_app l a (a + half (b - a)) b (by omega) (by omega)] at hv2
      have h2v := vL_two hv2 (by rw [seg_length _ _ _ (by omega)]; omega) (by rw [seg_length _ _ _ h3]; omega)
      unfold wayF
      rw [if_neg h]
      by_cases hk : i < a + half (b - a)
      · rw [if_pos hk]
        simp only [List.map_cons, List.reverse_cons]
        rw [climb_snoc _ _ _ _ _ (by simp), ih i a _ h1 hk (by omega) (by omega), Option.bind_some, stepN, if_pos rfl, if_pos h2v, ← root_seg l a b (by omega) h3]
      · rw [if_neg hk]
        simp only [List.map_cons, List.reverse_cons]
        rw [climb_snoc _ _ _ _ _ (by simp), ih i _ b (by omega) h2 h3 (by omega), Option.bind_some, stepN, if_neg (by simp), if_pos h2v, ← root_seg l a b (by omega) h3]
/-- paths lead to the root -/
theorem climb_path (l : List Nd) (hv : vL l = true) (i : Nat) (hi : i < l.length) : climbF (sidesN i l.length) (pathN l i) l[i] = some (root l) := by
  have := climb_seg l hv l.length i 0 l.length (by omega) hi (by omega) (by omega)
  rw [seg_all] at this
  exact this
theorem pathN_length (l : List Nd) (i : Nat) : (pathN l i).length = (sidesN i l.length).length := by simp [pathN, sidesN]
end Go.Proofs.SzTree
namespace Go.Proofs.YtmfmgeapecapiaaDoor
open Go.RowKit SzSha SzTree
set_option linter.unusedVariables false
set_option maxRecDepth 100000
/-- a node's cells -/
def ndC (n : Nd) : List Value := (n.d.map fun x => Value.int .u8 (x : Nat)) ++ [.int .i64 n.c, .int .i64 n.p]
def ndV (n : Nd) : Value := .agg (ndC n).toArray
/-- a node as it comes -/
structure NdOk (n : Nd) : Prop where
  len : n.d.length = 32
  bytes : Bytes n.d
  c : -9223372036854775808 ≤ n.c ∧ n.c ≤ 9223372036854775807
  p : -9223372036854775808 ≤ n.p ∧ n.p ≤ 9223372036854775807
theorem ndC_length {n : Nd} (h : NdOk n) : (ndC n).length = 34 := by simp [ndC, h.len]
theorem ndC_c {n : Nd} (h : NdOk n) : (ndC n)[32]? = some (.int .i64 n.c) := by
  unfold ndC; rw [List.getElem?_append_right (by simp [h.len])]; simp [h.len]
theorem ndC_p {n : Nd} (h : NdOk n) : (ndC n)[33]? = some (.int .i64 n.p) := by
  unfold ndC; rw [List.getElem?_append_right (by simp [h.len])]; simp [h.len]
theorem ndC_one (n : Nd) : (ndC n).toArray.all (·.oneCell') = true := by
  rw [Array.all_eq_true_iff_forall_mem]
  intro v hv
  simp only [ndC, List.mem_toArray, List.mem_append, List.mem_map, List.mem_cons, List.not_mem_nil, or_false] at hv
  rcases hv with ⟨x, _, rfl⟩ | rfl | rfl <;> rfl
theorem size34 {n : Nd} (h : NdOk n) : (Tryd.prog.info? 31).map (·.size) = some (ndC n).length := by
  rw [ndC_length h]; show _ = _; kernel_rfl
def flatN (ls : List Nd) : List Value := ls.flatMap ndC
theorem flatN_get : ∀ (ls : List Nd), (∀ n ∈ ls, NdOk n) → ∀ (i : Nat) (hi : i < ls.length) (j : Nat) (v : Value), (ndC ls[i])[j]? = some v → (flatN ls)[i * 34 + j]? = some v
  | [], _, i, hi, _, _, _ => by simp at hi
  | n :: ls, ho, 0, _, j, v, h => by
    have hj : j < (ndC n).length := (List.getElem?_eq_some_iff.1 h).1
    show ((n :: ls).flatMap ndC)[0 * 34 + j]? = _
    rw [List.flatMap_cons, Nat.zero_mul, Nat.zero_add, List.getElem?_append_left hj]
    exact h
  | n :: ls, ho, i + 1, hi, j, v, h => by
    have ih := flatN_get ls (fun m hm => ho m (List.mem_cons_of_mem _ hm)) i (by simpa using hi) j v h
    have hl := ndC_length (ho n (by simp))
    show ((n :: ls).flatMap ndC)[(i + 1) * 34 + j]? = _
    rw [List.flatMap_cons, List.getElem?_append_right (by omega), hl, show (i + 1) * 34 + j - 34 = i * 34 + j by omega]
    exact ih
/-- a slice of nodes that came in -/
structure InN (w : World) (A : Option Addr) (n c : Nat) (ls : List Nd) : Prop where
  len : ls.length = n
  cap : n ≤ c
  none_ : A = none → c = 0
  ok : ∀ x ∈ ls, NdOk x
  rd : 0 < ls.length → ∃ g off, A = some ⟨g, off, none⟩ ∧ g < w.heap.size ∧ w.rangeAt g off (flatN ls)
theorem rangeAt_below {w w' : World} {g off : Nat} {cs : List Value} (h : w.rangeAt g off cs) (hg : g < w.heap.size) (hb : Below w.heap.size w w') : w'.rangeAt g off cs := fun j v hj => (hb.cell (p := ⟨g, _, none⟩) hg).trans (h j v hj)
theorem InN.below {w w' : World} {A : Option Addr} {n c : Nat} {ls : List Nd} (h : InN w A n c ls) (hb : Below w.heap.size w w') : InN w' A n c ls :=
  ⟨h.len, h.cap, h.none_, h.ok, fun h0 => by
    obtain ⟨g, off, e, hg, hr⟩ := h.rd h0
    exact ⟨g, off, e, Nat.lt_of_lt_of_le hg hb.size, rangeAt_below hr hg hb⟩⟩
theorem range_one {w : World} {g off : Nat} {ls : List Nd} (h : w.rangeAt g off (flatN ls)) (ho : ∀ n ∈ ls, NdOk n) (i : Nat) (hi : i < ls.length) : w.rangeAt g (off + i * 34) (ndC ls[i]) := fun j v hj => by
  have := h (i * 34 + j) v (flatN_get ls ho i hi j v hj)
  rwa [← Nat.add_assoc] at this
theorem d2_not {c : Int} (h : c < 0) : decide (0 ≤ c) = false := decide_eq_false (by omega)
theorem vL_bad {ls : List Nd} {j : Nat} (hj : j < ls.length) (h : vN ls[j] = false) : vL ls = false := by
  have : ls.all vN = false := by
    rw [List.all_eq_false]
    exact ⟨ls[j], List.getElem_mem _, by rw [h]; simp⟩
  unfold vL; rw [this]; rfl
set_option maxHeartbeats 4000000 in
theorem valid_any (ls : List Nd) (A : Option Addr) (n c : Nat) (w : World) (hn : n ≤ 1000000) (h : Hid (InN w A n c ls)) :
    Calls Tryd.prog 107 #[.slice A n c] w fun e w' => e = .returned (.bool (vL ls)) ∧ Below w.heap.size w w' := by
  go_enter Tryd.func107, Tryd.ntmps107
  go_wp2_with fail
  go_loopw [3, 8] (fun s i wr => ∃ j : Nat, j ≤ n ∧ i = .int .i64 j ∧ s = .int .i64 (sumC (ls.take j)) ∧ Hid ((ls.take j).all vN = true) ∧ Hid (Below w.heap.size w wr)) (fun _ i _ => n - (intOf i).toNat)
  case atStart => exact ⟨0, by omega, rfl, rfl, Lib.hid rfl, Lib.hid (Below.refl _ _)⟩
  case round =>
    obtain ⟨j, hj, rfl, rfl, HV, HB⟩ := hrel
    have hsm : 0 ≤ sumC (ls.take j) ∧ sumC (ls.take j) ≤ 1073741824 * (j : Int) := ⟨(sums_bd HV.out).1, by
      have := sumC_le (ls.take j) HV.out
      have h2 : ((ls.take j).length : Int) ≤ (j : Int) := by rw [List.length_take]; omega
      omega⟩
    by_cases hlt : j < n
    · have d1 : decide ((j : Int) < (n : Int)) = true := decide_eq_true (by omega)
      have hjl : j < ls.length := by rw [h.out.len]; exact hlt
      obtain ⟨g, off, rfl, hg, hr⟩ := h.out.rd (by omega)
      obtain ⟨x, HX⟩ : ∃ x, Hid (ls[j] = x) := ⟨_, Lib.hid rfl⟩
      have HOK : Hid (NdOk x) := Lib.hid (by rw [← HX.out]; exact h.out.ok _ (List.getElem_mem _))
      have HR : Hid (wr.rangeAt g (off + j * 34) (ndC x)) := Lib.hid (by rw [← HX.out]; exact rangeAt_below (range_one hr h.out.ok j hjl) hg HB.out)
      have HNX : Hid (ls.take (j + 1) = ls.take j ++ [x]) := Lib.hid (by rw [List.take_succ_eq_append_getElem hjl, HX.out])
      clear hr
      obtain ⟨W2, HW2⟩ : ∃ W2, Hid ((wr.alloc (.cells #[.int .u8 0, .int .u8 0, .int .u8 0, .int .u8 0, .int .u8 0, .int .u8 0, .int .u8 0, .int .u8 0, .int .u8 0, .int .u8 0, .int .u8 0, .int .u8 0, .int .u8 0, .int .u8 0, .int .u8 0, .int .u8 0, .int .u8 0, .int .u8 0, .int .u8 0, .int .u8 0, .int .u8 0, .int .u8 0, .int .u8 0, .int .u8 0, .int .u8 0, .int .u8 0, .int .u8 0, .int .u8 0, .int .u8 0, .int .u8 0, .int .u8 0, .int .u8 0, .int .i64 0, .int .i64 0] 31)).setRow wr.heap.size (ndC x).toArray = W2) := ⟨_, Lib.hid rfl⟩
      have hlr := laid_row wr #[.int .u8 0, .int .u8 0, .int .u8 0, .int .u8 0, .int .u8 0, .int .u8 0, .int .u8 0, .int .u8 0, .int .u8 0, .int .u8 0, .int .u8 0, .int .u8 0, .int .u8 0, .int .u8 0, .int .u8 0, .int .u8 0, .int .u8 0, .int .u8 0, .int .u8 0, .int .u8 0, .int .u8 0, .int .u8 0, .int .u8 0, .int .u8 0, .int .u8 0, .int .u8 0, .int .u8 0, .int .u8 0, .int .u8 0, .int .u8 0, .int .u8 0, .int .u8 0, .int .i64 0, .int .i64 0] (ndC x).toArray 31
      rw [HW2.out] at hlr
      have HBB := Lib.hid (HB.out.trans (hlr.1.mono HB.out.size))
      have kc : W2.cell? ⟨wr.heap.size, 32, none⟩ = some (.int .i64 x.c) := by rw [cell_of_row _ _ _ _ _ _ hlr.2.2]; simpa using ndC_c HOK.out
      have kp : W2.cell? ⟨wr.heap.size, 33, none⟩ = some (.int .i64 x.p) := by rw [cell_of_row _ _ _ _ _ _ hlr.2.2]; simpa using ndC_p HOK.out
      have HS1 : Hid ((Tryd.prog.info? 31).map (·.size) = some (ndC x).toArray.size) := Lib.hid (by rw [size34 HOK.out]; simp)
      have HS2 : Hid (34 = (ndC x).toArray.size) := Lib.hid (by simp [ndC_length HOK.out])
      clear hlr
      by_cases b1 : x.c < 0
      · have d2 : decide (x.c < 0) = true := decide_eq_true b1
        have HE : Hid (vL ls = false) := Lib.hid (vL_bad hjl (by rw [HX.out]; unfold vN; rw [d2_not b1]; rfl))
        go_wp2_with (first | (with_reducible refine wpList_load_mid rfl 31 (.tmp 10) rfl g (off + j * 34) rfl (ndC x) _ HR.out Tryd.underlying31 rfl (size34 HOK.out) ?_) | (refine wpList_store_row rfl 31 (.tmp 5) (.tmp 11) rfl wr.heap.size (ndC x).toArray rfl rfl 31 _ (heap_alloc_new wr _) HS1.out HS2.out (ndC_one x) ?_; rw [HW2.out]))
        go_ret
        exact ⟨by rw [HE.out]; rfl, HBB.out⟩
      · by_cases b2 : 1073741824 < x.c
        · have d2 : decide (x.c < 0) = false := decide_eq_false b1
          have d3 : decide (1073741824 < x.c) = true := decide_eq_true b2
          have HE : Hid (vL ls = false) := Lib.hid (vL_bad hjl (by rw [HX.out]; unfold vN; rw [decide_eq_false (show ¬ x.c ≤ 1073741824 by omega)]; simp))
          go_wp2_with (first | (with_reducible refine wpList_load_mid rfl 31 (.tmp 10) rfl g (off + j * 34) rfl (ndC x) _ HR.out Tryd.underlying31 rfl (size34 HOK.out) ?_) | (refine wpList_store_row rfl 31 (.tmp 5) (.tmp 11) rfl wr.heap.size (ndC x).toArray rfl rfl 31 _ (heap_alloc_new wr _) HS1.out HS2.out (ndC_one x) ?_; rw [HW2.out]))
          go_ret
          exact ⟨by rw [HE.out]; rfl, HBB.out⟩
        · by_cases b3 : x.p < 0
          · have d2 : decide (x.c < 0) = false := decide_eq_false b1
            have d3 : decide (1073741824 < x.c) = false := decide_eq_false b2
            have d4 : decide (x.p < 0) = true := decide_eq_true b3
            have HE : Hid (vL ls = false) := Lib.hid (vL_bad hjl (by rw [HX.out]; unfold vN; rw [decide_eq_false (show ¬ 0 ≤ x.p by omega)]; simp))
            go_wp2_with (first | (with_reducible refine wpList_load_mid rfl 31 (.tmp 10) rfl g (off + j * 34) rfl (ndC x) _ HR.out Tryd.underlying31 rfl (size34 HOK.out) ?_) | (refine wpList_store_row rfl 31 (.tmp 5) (.tmp 11) rfl wr.heap.size (ndC x).toArray rfl rfl 31 _ (heap_alloc_new wr _) HS1.out HS2.out (ndC_one x) ?_; rw [HW2.out]))
            go_ret
            exact ⟨by rw [HE.out]; rfl, HBB.out⟩
          · have hw : IntKind.i64.wrap (12 * x.c) = 12 * x.c := IntWalk.i64_in _ (by omega)
            by_cases b4 : 12 * x.c < x.p
            · have d2 : decide (x.c < 0) = false := decide_eq_false b1
              have d3 : decide (1073741824 < x.c) = false := decide_eq_false b2
              have d4 : decide (x.p < 0) = false := decide_eq_false b3
              have d5 : decide (12 * x.c < x.p) = true := decide_eq_true b4
              have HE : Hid (vL ls = false) := Lib.hid (vL_bad hjl (by rw [HX.out]; unfold vN; rw [decide_eq_false (show ¬ x.p ≤ 12 * x.c by omega)]; simp))
              go_wp2_with (first | (with_reducible refine wpList_load_mid rfl 31 (.tmp 10) rfl g (off + j * 34) rfl (ndC x) _ HR.out Tryd.underlying31 rfl (size34 HOK.out) ?_) | (refine wpList_store_row rfl 31 (.tmp 5) (.tmp 11) rfl wr.heap.size (ndC x).toArray rfl rfl 31 _ (heap_alloc_new wr _) HS1.out HS2.out (ndC_one x) ?_; rw [HW2.out]))
              go_ret
              exact ⟨by rw [HE.out]; rfl, HBB.out⟩
            · have d2 : decide (x.c < 0) = false := decide_eq_false b1
              have d3 : decide (1073741824 < x.c) = false := decide_eq_false b2
              have d4 : decide (x.p < 0) = false := decide_eq_false b3
              have d5 : decide (12 * x.c < x.p) = false := decide_eq_false b4
              have hw2 : IntKind.i64.wrap (sumC (ls.take j) + x.c) = sumC (ls.take j) + x.c := IntWalk.i64_in _ (by omega)
              have HSUM : Hid (sumC (ls.take j) + x.c = sumC (ls.take (j + 1))) := Lib.hid (by rw [HNX.out, sumC_append]; simp [sumC])
              have HALL : Hid ((ls.take (j + 1)).all vN = true) := Lib.hid (by
                rw [HNX.out, List.all_append, HV.out]
                simp only [List.all_cons, List.all_nil, vN, Bool.and_true, Bool.true_and, Bool.and_eq_true, decide_eq_true_eq]; omega)
              clear b1 b2 b3 b4
              go_wp2_with (first | (with_reducible refine wpList_load_mid rfl 31 (.tmp 10) rfl g (off + j * 34) rfl (ndC x) _ HR.out Tryd.underlying31 rfl (size34 HOK.out) ?_) | (refine wpList_store_row rfl 31 (.tmp 5) (.tmp 11) rfl wr.heap.size (ndC x).toArray rfl rfl 31 _ (heap_alloc_new wr _) HS1.out HS2.out (ndC_one x) ?_; rw [HW2.out]))
              go_roundw
              case rel => exact ⟨j + 1, by omega, by go_num, by rw [← HSUM.out], HALL, HBB⟩
              case measure => first | (simp [intOf]; done) | (simp [intOf]; omega)
    · have d1 : decide ((j : Int) < (n : Int)) = false := decide_eq_false (by omega)
      have HE : Hid (vL ls = decide (sumC (ls.take j) ≤ 1073741824)) := Lib.hid (by
        have e : ls.take j = ls := List.take_of_length_le (by rw [h.out.len]; omega)
        have hv := HV.out
        rw [e] at hv ⊢
        unfold vL; rw [hv]; rfl)
      go_wp2_with fail
      go_ret
      exact ⟨by rw [HE.out]; rfl, HB.out⟩
end Go.Proofs.YtmfmgeapecapiaaDoor
namespace Go.Proofs.YtmfmgeapecapiaaDoor
open Go.RowKit SzSha SzTree
set_option linter.unusedVariables false
set_option maxRecDepth 100000
set_option maxHeartbeats 4000000 in
theorem built_node (d : List Nat) (h : d.length = 32) (c p : Int) : Tryd.prog.built 31 [(0, dgV d), (1, .int .i64 c), (2, .int .i64 p)] = some (ndC ⟨d, c, p⟩).toArray := by
  rcases d with _ | ⟨x0, d⟩
  · simp at h
  rcases d with _ | ⟨x1, d⟩
  · simp at h
  rcases d with _ | ⟨x2, d⟩
  · simp at h
  rcases d with _ | ⟨x3, d⟩
  · simp at h
  rcases d with _ | ⟨x4, d⟩
  · simp at h
  rcases d with _ | ⟨x5, d⟩
  · simp at h
  rcases d with _ | ⟨x6, d⟩
  · simp at h
  rcases d with _ | ⟨x7, d⟩
  · simp at h
  rcases d with _ | ⟨x8, d⟩
  · simp at h
  rcases d with _ | ⟨x9, d⟩
  · simp at h
  rcases d with _ | ⟨x10, d⟩
  · simp at h
  rcases d with _ | ⟨x11, d⟩
  · simp at h
  rcases d with _ | ⟨x12, d⟩
  · simp at h
  rcases d with _ | ⟨x13, d⟩
  · simp at h
  rcases d with _ | ⟨x14, d⟩
  · simp at h
  rcases d with _ | ⟨x15, d⟩
  · simp at h
  rcases d with _ | ⟨x16, d⟩
  · simp at h
  rcases d with _ | ⟨x17, d⟩
  · simp at h
  rcases d with _ | ⟨x18, d⟩
  · simp at h
  rcases d with _ | ⟨x19, d⟩
  · simp at h
  rcases d with _ | ⟨x20, d⟩
  · simp at h
  rcases d with _ | ⟨x21, d⟩
  · simp at h
  rcases d with _ | ⟨x22, d⟩
  · simp at h
  rcases d with _ | ⟨x23, d⟩
  · simp at h
  rcases d with _ | ⟨x24, d⟩
  · simp at h
  rcases d with _ | ⟨x25, d⟩
  · simp at h
  rcases d with _ | ⟨x26, d⟩
  · simp at h
  rcases d with _ | ⟨x27, d⟩
  · simp at h
  rcases d with _ | ⟨x28, d⟩
  · simp at h
  rcases d with _ | ⟨x29, d⟩
  · simp at h
  rcases d with _ | ⟨x30, d⟩
  · simp at h
  rcases d with _ | ⟨x31, d⟩
  · simp at h
  rcases d with _ | ⟨y, d⟩
  · clear h
    kernel_rfl
  · simp at h
theorem nd_cells (n : Nd) : (ndV n).cells = (ndC n).toArray := rfl
theorem wpList_build_nodes2 {w : World} {ops : Array Oper} {rest : List Oper} {o : Oper} {a : Act} {Q : Exit → Act → World → Prop} (hg : o.guard = none) (x y : Operand)
    (ho : o.op = .buildSlice 62 2 #[(0, x), (1, y)]) (n m : Nd) (hx : a.eval x = ndV n) (hy : a.eval y = ndV m) (hn : NdOk n) (hm : NdOk m)
    (h : wpList Tryd.prog ops Q rest (a.put o.dst (.slice (some ⟨w.heap.size, 0, none⟩) 2 2)) (w.alloc (.cells (flatN [n, m]).toArray 31))) : wpList Tryd.prog ops Q (o :: rest) a w := by
  obtain ⟨i0, hi, hz, hs⟩ : ∃ i, Tryd.prog.info? 31 = some i ∧ i.zero = some (.agg (Array.replicate 32 (.int .u8 0) ++ #[.int .i64 0, .int .i64 0])) ∧ i.size = 34 := by
    refine ⟨_, rfl, ?_, ?_⟩ <;> kernel_rfl
  refine wpList_buildSlice hg 62 31 2 _ ho _ i0 _ Tryd.underlying62 hi hz (by rw [hs]; omega) (by rw [hs]; omega) ?_ h
  rw [hs]
  have e1 : (#[(0, x), (1, y)].map fun (i, x) => (i, a.eval x)).toList = (([ndV n, ndV m] : List Value).zipIdx 0).map fun x => (x.2, x.1) := by simp [hx, hy]
  rw [e1, Great.fill_whole (by omega) [ndV n, ndV m] _ (fun v hv => by
    simp only [List.mem_cons, List.not_mem_nil, or_false] at hv
    rcases hv with rfl | rfl
    · rw [nd_cells]; simpa using ndC_length hn
    · rw [nd_cells]; simpa using ndC_length hm) (by simp)]
  rfl
end Go.Proofs.YtmfmgeapecapiaaDoor
