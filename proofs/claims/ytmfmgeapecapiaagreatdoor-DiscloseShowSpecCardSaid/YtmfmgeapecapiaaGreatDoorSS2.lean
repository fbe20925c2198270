/- sizar/codec: the writer of lists of integers. sizar/codec.Encode of a list of integers. What every law of a seat with laid tables needs: the tables' cells, the arguments opened, the row's last step. slices.Clone of bytes; sizar/tree.hash. Paths and climbs in trees of nodes: plain functions. sizar/tree: valid, half. Nodes laid in memory: struct literals and slice literals of nodes. sizar/tree.Join. sizar/tree.Salt. -/
import Derived.Test.YtmfmgeapecapiaaGreatDoorSS1
import Derived.Test.YtmfmgeapecapiaaGreatDoorRows
import Derived.ReadAgain
import Derived.SizedLaws
import Derived.ProofKit
import Derived.OpenShut
import Derived.LaidMore
import Derived.LaidLaws
import Derived.Lib.LaidTab
import Derived.ChangeMaps5
import Derived.ChangeBears
import Derived.Stop.Joined
import Derived.Stop.BytesEq
import Derived.MakeChecks
import Derived.SevenTiedAt
import Derived.WalkSpells
import Derived.Lib.SliceRun
import Derived.Deep.MidRow
import Derived.IntWalk
import Derived.Great.BuildSlice
import Derived.Lib.AppendZeros
set_option maxHeartbeats 64000001
open Go.Lib (hid)
namespace Go.Proofs.YtmfmgeapecapiaaGreatDoor
open Go.RowKit SzSha SzTree
set_option linter.unusedVariables false
set_option maxRecDepth 100000
def wL (base : Nat) (N : Nat) (b : Nat) (v0 : Value) (l : List Nat) (A : Option Addr) (n : Nat) (c : Nat) : Nat → Value → World → Prop
 | 0, fv, _ => fv = v0
 | 1, fv, fw => ∃ g, fv = .slice (some ⟨g, 0, none⟩) 1 1 ∧ Rd fw fw.heap.size (some ⟨g, 0, none⟩) [3]
 | 2, fv, fw => OwnB fw base fv (l ++ [3]) ∧ OwnG v0 N fv
 | 3, fv, _ => fv = .pointer (some ⟨b, 3, none⟩)
 | 4, fv, _ => fv = .slice A n c
 | 5, fv, _ => fv = .int .i64 (n)
 | 6, fv, _ => fv = .int .u64 (n : Nat)
 | 7, fv, fw => OwnB fw base fv (l ++ [3] ++ num n) ∧ OwnG v0 N fv
 | 8, fv, fw => OwnB fw base fv (l ++ [3] ++ num n) ∧ OwnG v0 N fv
 | _, _, _ => True
theorem wL_below {base : Nat} {N : Nat} {b : Nat} {v0 : Value} {l : List Nat} {A : Option Addr} {n : Nat} {c : Nat} {w w' : World} (hb : Below w.heap.size w w') : ∀ j v, wL base N b v0 l A n c j v w → wL base N b v0 l A n c j v w'
 | 0, v, h => h
 | 1, v, ⟨g, h1, h2⟩ => ⟨g, h1, (h2.below hb (Nat.le_refl _)).mono hb.size⟩
 | 2, v, h => ⟨h.1.below hb, h.2⟩
 | 3, v, h => h
 | 4, v, h => h
 | 5, v, h => h
 | 6, v, h => h
 | 7, v, h => ⟨h.1.below hb, h.2⟩
 | 8, v, h => ⟨h.1.below hb, h.2⟩
 | n + 9, v, h => trivial
theorem wL_pure {base : Nat} {N : Nat} {b : Nat} {v0 : Value} {l : List Nat} {A : Option Addr} {n : Nat} {c : Nat} {w w' : World} : ∀ j v, j ≠ 1 → j ≠ 2 → j ≠ 7 → j ≠ 8 → wL base N b v0 l A n c j v w → wL base N b v0 l A n c j v w'
 | 0, v, _, _, _, _, h => h
 | 1, v, hh, _, _, _, _ => absurd rfl hh
 | 2, v, _, hh, _, _, _ => absurd rfl hh
 | 3, v, _, _, _, _, h => h
 | 4, v, _, _, _, _, h => h
 | 5, v, _, _, _, _, h => h
 | 6, v, _, _, _, _, h => h
 | 7, v, _, _, hh, _, _ => absurd rfl hh
 | 8, v, _, _, _, hh, _ => absurd rfl hh
 | n + 9, v, _, _, _, _, h => trivial
def wM (base : Nat) (W2 : World) (wq : Nat) (xb : Nat) (vb : Value) (l : List Nat) (z : Int) : Nat → Value → World → Prop
 | 0, fv, _ => fv = .pointer (some ⟨wq, 0, none⟩)
 | 1, fv, _ => fv = .pointer (some ⟨xb, 0, none⟩)
 | 2, fv, _ => fv = .int .i64 (1)
 | 3, fv, _ => fv = .pointer (some ⟨wq, 0, none⟩)
 | 4, fv, _ => fv = .pointer (some ⟨wq, 1, none⟩)
 | 5, fv, _ => fv = .pointer (some ⟨wq, 1, none⟩)
 | 6, fv, _ => fv = .func (.func 157) #[] #[]
 | 7, fv, _ => fv = vb
 | 8, fv, _ => fv = .agg #[.int .i64 1, .int .i64 z, .string ⟨#[]⟩, .slice none 0 0]
 | 9, fv, fw => OwnB fw base fv (l ++ 1 :: num (zig z)) ∧ Grew vb fv W2 fw
 | 10, fv, fw => OwnB fw base fv (l ++ 1 :: num (zig z)) ∧ Grew vb fv W2 fw
 | _, _, _ => True
theorem wM_pure {base : Nat} {W2 : World} {wq : Nat} {xb : Nat} {vb : Value} {l : List Nat} {z : Int} {w w' : World} : ∀ j v, j ≠ 9 → j ≠ 10 → wM base W2 wq xb vb l z j v w → wM base W2 wq xb vb l z j v w'
 | 0, v, _, _, h => h
 | 1, v, _, _, h => h
 | 2, v, _, _, h => h
 | 3, v, _, _, h => h
 | 4, v, _, _, h => h
 | 5, v, _, _, h => h
 | 6, v, _, _, h => h
 | 7, v, _, _, h => h
 | 8, v, _, _, h => h
 | 9, v, hh, _, _ => absurd rfl hh
 | 10, v, _, hh, _ => absurd rfl hh
 | n + 11, v, _, _, h => trivial
theorem write_list (zs : List Int) (v0 : Value) (l : List Nat) (A : Option Addr) (c wq wc base : Nat) (w : World) (hz : Hid (∀ z ∈ zs, -9223372036854775808 ≤ z ∧ z ≤ 9223372036854775807)) (hn : zs.length ≤ 1000) (hV : Hid (VRd w w.heap.size A zs)) (hO : Hid (OwnB w base v0 l)) (hl : l.length ≤ 1000) (hb : base ≤ w.heap.size) (hW : Hid (Wr w wq wc))
  (hvq : Hid (v0.ownBlock ≠ some wq)) (hvc : Hid (v0.ownBlock ≠ some wc)) (hvA : Hid (∀ a, A = some a → v0.ownBlock ≠ some a.block)) :
  Calls Tryz.prog 161 #[v0, .agg #[.int .i64 3, .int .i64 0, .string ⟨#[]⟩, .slice A zs.length c], .pointer (some ⟨wc, 0, none⟩)] w fun e w' => ∃ v', e = .returned v' ∧ OwnB w' base v' (l ++ encI zs) ∧ Grew v0 v' w w' := by
 obtain ⟨n, HN⟩ : ∃ n, Hid (zs.length = n) := ⟨_, hid rfl⟩
 rw [HN.out]
 have hn' : n ≤ 1000 := by rw [← HN.out]; exact hn
 clear hn
 have HB0 := hid ((Below.refl _ w).alloc (Nat.le_refl _) (.cells #[.int .i64 3, .int .i64 0, .string ⟨#[]⟩, .slice A n c] 148))
 have HO1 := hid (hO.out.below HB0.out)
 have HC3 : Hid ((w.alloc (.cells #[.int .i64 3, .int .i64 0, .string ⟨#[]⟩, .slice A n c] 148)).cell? ⟨w.heap.size, 3, none⟩ = some (.slice A n c)) := hid (by rw [cell_of_row _ _ _ _ _ _ (heap_alloc_new w _)]; rfl)
 have HNE : Hid (some w.heap.size ≠ v0.ownBlock) := hid (fun e => by have := (hO.out.block _ e.symm).2; omega)
 have HWR : Hid (IntKind.u64.wrap (n : Int) = (n : Int)) := hid (by rw [IntKind.wrap_u64]; omega)
 go_enter Tryz.func161, Tryz.ntmps161
 go_wp2_with fail
 have HBS : Hid (base ≤ (w.alloc (.cells #[.int .i64 3, .int .i64 0, .string ⟨#[]⟩, .slice A n c] 148)).heap.size) := hid (Nat.le_trans hb HB0.out.size)
 have HZ1 : Hid (w.heap.size < (w.alloc (.cells #[.int .i64 3, .int .i64 0, .string ⟨#[]⟩, .slice A n c] 148)).heap.size) := hid (by simp)
 generalize w.alloc (.cells #[.int .i64 3, .int .i64 0, .string ⟨#[]⟩, .slice A n c] 148) = W1 at *
 refine region_flow3 (by kernel_rfl) (by kernel_rfl) (fun i => Nat.beq i 8) (fun i => i) (by kernel_rfl) (fun fx => #[fx 8, .agg #[.int .i64 3, .int .i64 0, .string ⟨#[]⟩, .slice A n c], .pointer (some ⟨wc, 0, none⟩), undef, .pointer (some ⟨w.heap.size, 0, none⟩), .slice none 0 0, undef, undef, fx 0, fx 1, fx 2, fx 3, fx 4, fx 5, fx 6, fx 7, undef, undef, undef, undef, undef, undef, undef, undef, undef, undef, undef, undef, undef, undef, undef, undef, undef, undef, undef]) (fun i => bif Nat.beq i 8 then v0 else undef) (fun L fx w' => W1.grownBy w' v0.ownBlock ∧ (L 2 = false → OwnB w' base v0 l) ∧ (L 8 = false → fx 8 = v0)) (fun fi fv _ fw => wL base W1.heap.size w.heap.size v0 l A n c fi fv fw) ⟨grown_drew v0 W1, fun _ => HO1.out.below (Below.refl _ _).drew, fun _ => rfl⟩ ?_ ?_
 ·refine ⟨?_, ?_, ?_, ?_, ?_, ?_, ?_, ?_, ?_, trivial⟩
  all_goals intro L fx w' hC hi hcl hdn hd
  ·have h8 : fx 8 = v0 := hC.2.2 (Bool.eq_false_iff.2 fun h => by have := hcl 7 2 (hcl 8 7 h (by kernel_rfl)) (by kernel_rfl); have := hcl 2 0 this (by kernel_rfl); rw [hi] at this; cases this)
   go_wp2_with fail
   exact ⟨_, by rw [← h8]; rfl, ⟨hC.1, fun h => hC.2.1 h, fun h => hC.2.2 h⟩, rfl, kP⟩
  ·go_wp2_with fail
   have hbb : Below w'.heap.size w' (w'.alloc (.cells #[.int .u8 3] 5)) := (Below.refl _ _).alloc (Nat.le_refl _) _
   exact ⟨_, rfl, ⟨grown_below hC.1 hbb, fun h => (hC.2.1 h).below hbb, fun h => hC.2.2 h⟩, ⟨_, rfl, one_rowU w' 3⟩, fun j v t _ _ h => wL_below hbb j v h⟩
  ·have h0 : fx 0 = v0 := hd.1 rfl
   have H1 := hid (hd.2.1 rfl)
   obtain ⟨g, h1, hR⟩ := H1.out
   have HOv := hid (hC.2.1 hi)
   have HR := hid hR
   have HSZ := hid (Nat.le_trans HBS.out hC.1.size)
   have hlen : l.length + 1 ≤ 1099511627776 := by omega
   refine wpList_append_grew rfl (.tmp 8) (.tmp 9) rfl base v0 l [3] h0 HOv (some ⟨g, 0, none⟩) 1 1 h1 (hid rfl) (fun h => by cases h) HR hlen HSZ.out ?_
   intro v2 w2 HO2 HG2
   clear hd
   go_wp2_with fail
   refine ⟨v2, by rw [← h0, ← h1]; rfl, ⟨grown_grew hC.1 (.inl rfl) HG2.out, fun h => (updB_self h).elim, fun h => hC.2.2 h⟩, ⟨HO2.out, OwnG.of_grew hC.1.size (.inl rfl) HG2.out⟩, fun j v t hj hu h => ?_⟩
   refine wL_pure j v ?_ ?_ ?_ ?_ h <;> intro e <;> subst e
   ·refine absurd hu (not_needed (E := fun i => Nat.beq i 8) (j := 1) [2] ?_ ?_ ?_)
    ·kernel_rfl
    ·kernel_rfl
    ·intro m hm hne; simp at hm; omega
   ·rw [hi] at hj; cases hj
   ·have := hcl 7 2 hj (by kernel_rfl); rw [hi] at this; cases this
   ·have := hcl 7 2 (hcl 8 7 hj (by kernel_rfl)) (by kernel_rfl); rw [hi] at this; cases this
  ·go_wp2_with fail
   exact ⟨_, rfl, ⟨hC.1, fun h => hC.2.1 h, fun h => hC.2.2 h⟩, rfl, kP⟩
  ·have h3 : fx 3 = .pointer (some ⟨w.heap.size, 3, none⟩) := hd.1 rfl
   have hc : w'.cell? ⟨w.heap.size, 3, none⟩ = some (.slice A n c) := hC.1.cell HC3.out HNE.out
   go_wp2_with fail
   exact ⟨_, by rw [← h3]; rfl, ⟨hC.1, fun h => hC.2.1 h, fun h => hC.2.2 h⟩, rfl, kP⟩
  ·have h4 : fx 4 = .slice A n c := hd.1 rfl
   go_wp2_with fail
   exact ⟨_, by rw [← h4]; rfl, ⟨hC.1, fun h => hC.2.1 h, fun h => hC.2.2 h⟩, rfl, kP⟩
  ·have h5 : fx 5 = .int .i64 (n) := hd.1 rfl
   have hw : IntKind.u64.wrap (n : Int) = (n : Int) := HWR.out
   go_wp2_with fail
   exact ⟨_, by rw [← h5]; rfl, ⟨hC.1, fun h => hC.2.1 h, fun h => hC.2.2 h⟩, rfl, kP⟩
  ·have H2 := hid (hd.1 rfl)
   have h6 : fx 6 = .int .u64 (n : Nat) := hd.2.1 rfl
   have HSZ := hid (Nat.le_trans HBS.out hC.1.size)
   go_wp2_with fail
   refine (numeral_any (fx 2) (l ++ [3]) n base _ (hid H2.out.1) (by simp; omega) (by omega) HSZ.out).mono ?_
   rintro e w2 ⟨v2, rfl, hO2, hG2⟩
   have HO2 := hid hO2
   have HG2 := hid hG2
   clear hO2 hG2
   go_wp2_with fail
   refine ⟨v2, by rw [← h6]; rfl, ⟨grown_grew hC.1 H2.out.2 HG2.out, (fun h => by have h2 : L 2 = false := h; have := hdn 2 (by kernel_rfl); rw [h2] at this; cases this), fun h => hC.2.2 h⟩, ⟨HO2.out, OwnG.of_grew hC.1.size H2.out.2 HG2.out⟩, fun j v t hj hu h => ?_⟩
   refine wL_pure j v ?_ ?_ ?_ ?_ h <;> intro e <;> subst e
   ·refine absurd hu (not_needed (E := fun i => Nat.beq i 8) (j := 1) [2] ?_ ?_ ?_)
    ·kernel_rfl
    ·kernel_rfl
    ·intro m hm hne; simp at hm; subst hm; exact hdn 2 (by kernel_rfl)
   ·refine absurd hu (not_needed (E := fun i => Nat.beq i 8) (j := 2) [7] ?_ ?_ ?_)
    ·kernel_rfl
    ·kernel_rfl
    ·intro m hm hne; simp at hm; omega
   ·rw [hi] at hj; cases hj
   ·have := hcl 8 7 hj (by kernel_rfl); rw [hi] at this; cases this
  ·have H7 := hid (hd.1 rfl)
   go_wp2_with fail
   exact ⟨fx 7, rfl, ⟨hC.1, fun h => hC.2.1 h, fun h => (updB_self h).elim⟩, H7.out, kP⟩
 ·intro L fo w' hC hS
  have H8 := hid (hS 8 (by decide) rfl)
  have HC3' := hid (hC.1.cell HC3.out HNE.out)
  have hc3 := HC3'.out
  have HG1 := hid (Grew.ahead HB0.out (grew_of hC.1 H8.out.2))
  clear hC hS HC3
  go_wp2_with fail
  clear hc3
  go_loopw [0, 19] (fun vb i wr => ∃ j : Nat, j ≤ n ∧ i = .int .i64 j ∧ Hid (OwnB wr base vb (l ++ [3] ++ num n ++ (zs.take j).flatMap fun z => 1 :: num (zig z))) ∧ Hid (Grew v0 vb w wr)) (fun _ i _ => n - (intOf i).toNat)
  case atStart => exact ⟨0, by omega, rfl, hid (by rw [List.take_zero, List.flatMap_nil, List.append_nil]; exact H8.out.1), HG1⟩
  case round =>
   clear H8 HG1 HC3' HBS HZ1 HWR HNE HO1 HB0
   obtain ⟨j, hj, rfl, hO2, HG⟩ := hrel
   by_cases hlt : j < n
   ·obtain ⟨g, rfl, hg, hv⟩ := hV.out (by rw [HN.out]; omega)
    have hgk : some g ≠ v0.ownBlock := fun e => hvA.out _ rfl e.symm
    have hv2 := hv j (by rw [HN.out]; exact hlt)
    obtain ⟨z, HZ⟩ : ∃ z, Hid (zs[j]'(by rw [HN.out]; exact hlt) = z) := ⟨_, hid rfl⟩
    rw [HZ.out, Nat.zero_add] at hv2
    obtain ⟨k0, k1, k2, k3⟩ := hv2
    replace k0 := HG.out.1.cell k0 hgk
    replace k1 := HG.out.1.cell k1 hgk
    replace k2 := HG.out.1.cell k2 hgk
    replace k3 := HG.out.1.cell k3 hgk
    have HWR := hid (show Wr wr wq wc from ⟨HG.out.1.cell hW.out.c1 (fun e => hvq.out e.symm), HG.out.1.cell hW.out.c3 (fun e => hvq.out e.symm), HG.out.1.cell hW.out.p (fun e => hvc.out e.symm)⟩)
    have d1 : decide ((j : Int) < (n : Int)) = true := eQ (by omega)
    have ZB : Hid (-9223372036854775808 ≤ z ∧ z ≤ 9223372036854775807) := hid (by rw [← HZ.out]; exact hz.out _ (List.getElem_mem _))
    have HLN : Hid ((l ++ [3] ++ num n ++ (zs.take j).flatMap fun z => 1 :: num (zig z)).length ≤ 1000000) := hid (by
     have h1 := flat_length (zs.take j)
     have h2 := numB_length 10 n
     have h3 : (zs.take j).length ≤ 1000 := by rw [List.length_take]; omega
     simp only [List.length_append, List.length_cons, List.length_nil, num] at *
     omega)
    have HNX : Hid ((l ++ [3] ++ num n ++ (zs.take j).flatMap fun z => 1 :: num (zig z)) ++ 1 :: num (zig z) = l ++ [3] ++ num n ++ (zs.take (j + 1)).flatMap fun z => 1 :: num (zig z)) := hid (by
     rw [List.take_succ_eq_append_getElem (by rw [HN.out]; exact hlt), List.flatMap_append, HZ.out]; simp)
    obtain ⟨l2, HL2⟩ : ∃ l2, Hid ((l ++ [3] ++ num n ++ (zs.take j).flatMap fun z => 1 :: num (zig z)) = l2) := ⟨_, hid rfl⟩
    rw [HL2.out] at hO2 HLN HNX
    have HVZ := hid hv
    clear hv
    go_wp2_with fail
    clear k0 k1 k2 k3
    have HB2 := hid ((Below.refl _ wr).alloc (Nat.le_refl _) (.cells #[.int .i64 1, .int .i64 z, .string ⟨#[]⟩, .slice none 0 0] 148))
    have HO2 := hid (hO2.out.below HB2.out)
    have HW2 := hid (HWR.out.below HB2.out)
    have HX := heap_alloc_new wr (.cells #[.int .i64 1, .int .i64 z, .string ⟨#[]⟩, .slice none 0 0] 148)
    have HX0 : Hid ((wr.alloc (.cells #[.int .i64 1, .int .i64 z, .string ⟨#[]⟩, .slice none 0 0] 148)).cell? ⟨wr.heap.size, 0, none⟩ = some (.int .i64 1)) := hid (by rw [cell_of_row _ _ _ _ _ _ HX]; rfl)
    have HX1 : Hid ((wr.alloc (.cells #[.int .i64 1, .int .i64 z, .string ⟨#[]⟩, .slice none 0 0] 148)).cell? ⟨wr.heap.size, 1, none⟩ = some (.int .i64 z)) := hid (by rw [cell_of_row _ _ _ _ _ _ HX]; rfl)
    have HX2 : Hid ((wr.alloc (.cells #[.int .i64 1, .int .i64 z, .string ⟨#[]⟩, .slice none 0 0] 148)).cell? ⟨wr.heap.size, 2, none⟩ = some (.string ⟨#[]⟩)) := hid (by rw [cell_of_row _ _ _ _ _ _ HX]; rfl)
    have HX3 : Hid ((wr.alloc (.cells #[.int .i64 1, .int .i64 z, .string ⟨#[]⟩, .slice none 0 0] 148)).cell? ⟨wr.heap.size, 3, none⟩ = some (.slice none 0 0)) := hid (by rw [cell_of_row _ _ _ _ _ _ HX]; rfl)
    have HBW : Hid (base ≤ (wr.alloc (.cells #[.int .i64 1, .int .i64 z, .string ⟨#[]⟩, .slice none 0 0] 148)).heap.size) := hid (Nat.le_trans (Nat.le_trans hb HG.out.1.size) HB2.out.size)
    clear HX
    generalize wr.alloc (.cells #[.int .i64 1, .int .i64 z, .string ⟨#[]⟩, .slice none 0 0] 148) = W2 at *
    refine region_flow3 (by kernel_rfl) (by kernel_rfl) (fun i => Nat.beq i 10) (fun i => i) (by kernel_rfl) (fun fx => #[fx 10, .agg #[.int IntKind.i64 3, .int IntKind.i64 0, .string { data := #[] }, .slice (some { block := g, off := 0 }) n c], .pointer (some { block := wc, off := 0 }), undef, .pointer (some { block := w.heap.size, off := 0 }), .slice none 0 0, undef, .pointer (some { block := wr.heap.size, off := 0 }), fo 0, fo 1, fo 2, fo 3, fo 4, fo 5, fo 6, fo 7, .pointer (some { block := w.heap.size, off := 3 }), .slice (some { block := g, off := 0 }) n c, .int IntKind.i64 ↑n, .int IntKind.i64 ↑j, .bool true, .pointer (some { block := g, off := j * 4 }), .agg #[.int IntKind.i64 1, .int IntKind.i64 z, .string { data := #[] }, .slice none 0 0], fx 0, fx 1, fx 2, fx 3, fx 4, fx 5, fx 6, fx 7, fx 8, fx 9, u33, undef]) (fun i => bif Nat.beq i 0 then u23 else bif Nat.beq i 1 then u24 else bif Nat.beq i 2 then u25 else bif Nat.beq i 3 then u26 else bif Nat.beq i 4 then u27 else bif Nat.beq i 5 then u28 else bif Nat.beq i 6 then u29 else bif Nat.beq i 7 then u30 else bif Nat.beq i 8 then u31 else bif Nat.beq i 9 then u32 else bif Nat.beq i 10 then u0 else undef) (fun L fx w' => (L 9 = false → Below W2.heap.size W2 w') ∧ (L 10 = false → fx 10 = u0)) (fun fi fv _ fw => wM base W2 wq wr.heap.size u0 l2 z fi fv fw) ⟨fun _ => (Below.refl _ _).drew, fun _ => rfl⟩ ?_ ?_
    ·refine ⟨?_, ?_, ?_, ?_, ?_, ?_, ?_, ?_, ?_, ?_, ?_, trivial⟩
     all_goals intro L fx w' hC hi hcl hdn hd
     ·have hnd : L 9 = false := nQ hi (fun h => (hcl 3 0 (hcl 4 3 (hcl 5 4 (hcl 6 5 (hcl 9 6 h (by kernel_rfl)) (by kernel_rfl)) (by kernel_rfl)) (by kernel_rfl)) (by kernel_rfl)))
      have hc := ((hC.1 hnd).cell (block_lt_of_cell HW2.out.p)).trans HW2.out.p
      go_wp2_with fail
      exact ⟨_, rfl, ⟨fun _ => hC.1 hnd, fun h => hC.2 h⟩, rfl, kP⟩
     ·have hnd : L 9 = false := nQ hi (fun h => (hcl 2 1 (hcl 4 2 (hcl 5 4 (hcl 6 5 (hcl 9 6 h (by kernel_rfl)) (by kernel_rfl)) (by kernel_rfl)) (by kernel_rfl)) (by kernel_rfl)))
      go_wp2_with fail
      exact ⟨_, rfl, ⟨fun _ => hC.1 hnd, fun h => hC.2 h⟩, rfl, kP⟩
     ·have h1 : fx 1 = .pointer (some ⟨wr.heap.size, 0, none⟩) := hd.1 rfl
      have hnd : L 9 = false := nQ hi (fun h => (hcl 4 2 (hcl 5 4 (hcl 6 5 (hcl 9 6 h (by kernel_rfl)) (by kernel_rfl)) (by kernel_rfl)) (by kernel_rfl)))
      have hc := ((hC.1 hnd).cell (block_lt_of_cell HX0.out)).trans HX0.out
      go_wp2_with fail
      exact ⟨_, by rw [← h1]; rfl, ⟨fun _ => hC.1 hnd, fun h => hC.2 h⟩, rfl, kP⟩
     ·have h0 : fx 0 = .pointer (some ⟨wq, 0, none⟩) := hd.1 rfl
      have hnd : L 9 = false := nQ hi (fun h => (hcl 4 3 (hcl 5 4 (hcl 6 5 (hcl 9 6 h (by kernel_rfl)) (by kernel_rfl)) (by kernel_rfl)) (by kernel_rfl)))
      go_wp2_with fail
      exact ⟨_, by rw [← h0]; rfl, ⟨fun _ => hC.1 hnd, fun h => hC.2 h⟩, rfl, kP⟩
     ·have h3 : fx 3 = .pointer (some ⟨wq, 0, none⟩) := hd.1 rfl
      have h2 : fx 2 = .int .i64 (1) := hd.2.1 rfl
      have hnd : L 9 = false := nQ hi (fun h => (hcl 5 4 (hcl 6 5 (hcl 9 6 h (by kernel_rfl)) (by kernel_rfl)) (by kernel_rfl)))
      go_wp2_with fail
      exact ⟨_, by rw [← h3, ← h2]; rfl, ⟨fun _ => hC.1 hnd, fun h => hC.2 h⟩, rfl, kP⟩
     ·have h4 : fx 4 = .pointer (some ⟨wq, 1, none⟩) := hd.1 rfl
      have hnd : L 9 = false := nQ hi (fun h => (hcl 6 5 (hcl 9 6 h (by kernel_rfl)) (by kernel_rfl)))
      go_wp2_with fail
      exact ⟨_, by rw [← h4]; rfl, ⟨fun _ => hC.1 hnd, fun h => hC.2 h⟩, rfl, kP⟩
     ·have h5 : fx 5 = .pointer (some ⟨wq, 1, none⟩) := hd.1 rfl
      have hnd : L 9 = false := nQ hi (fun h => (hcl 9 6 h (by kernel_rfl)))
      have hc := ((hC.1 hnd).cell (block_lt_of_cell HW2.out.c1)).trans HW2.out.c1
      go_wp2_with fail
      exact ⟨_, by rw [← h5]; rfl, ⟨fun _ => hC.1 hnd, fun h => hC.2 h⟩, rfl, kP⟩
     ·have hnd : L 9 = false := nQ hi (fun h => (hcl 9 7 h (by kernel_rfl)))
      have h10 : fx 10 = u0 := hC.2 (nQ hi (fun h => (hcl 9 7 (hcl 10 9 h (by kernel_rfl)) (by kernel_rfl))))
      go_wp2_with fail
      exact ⟨_, by rw [← h10]; rfl, ⟨fun _ => hC.1 hnd, fun h => hC.2 h⟩, rfl, kP⟩
     ·have hnd : L 9 = false := nQ hi (fun h => (hcl 9 8 h (by kernel_rfl)))
      have hc0 := ((hC.1 hnd).cell (block_lt_of_cell HX0.out)).trans HX0.out
      have hc1 := ((hC.1 hnd).cell (block_lt_of_cell HX1.out)).trans HX1.out
      have hc2 := ((hC.1 hnd).cell (block_lt_of_cell HX2.out)).trans HX2.out
      have hc3 := ((hC.1 hnd).cell (block_lt_of_cell HX3.out)).trans HX3.out
      go_wp2_with fail
      exact ⟨_, rfl, ⟨fun _ => hC.1 hnd, fun h => hC.2 h⟩, rfl, kP⟩
     ·have h6 : fx 6 = .func (.func 157) #[] #[] := hd.1 rfl
      have h7 : fx 7 = u0 := hd.2.1 rfl
      have h8 : fx 8 = .agg #[.int .i64 1, .int .i64 z, .string ⟨#[]⟩, .slice none 0 0] := hd.2.2.1 rfl
      have hb9 := hC.1 hi
      have HOv := hid (HO2.out.below hb9)
      go_wp2_with fail
      refine (write_int u0 l2 z base _ ZB.out.1 ZB.out.2 HOv HLN.out (Nat.le_trans HBW.out hb9.size)).mono ?_
      rintro e w2 ⟨v2, rfl, hO3, hG3⟩
      have HO3 := hid hO3
      have HG3 := hid hG3
      clear hO3 hG3
      go_wp2_with fail
      refine ⟨v2, by rw [← h8, ← h6, ← h7]; rfl, ⟨fun h => (updB_self h).elim, fun h => hC.2 h⟩, ⟨HO3.out, Grew.ahead hb9 HG3.out⟩, fun j v t hj hu h => ?_⟩
      refine wM_pure j v ?_ ?_ h <;> intro e <;> subst e
      ·rw [hi] at hj; cases hj
      ·have := hcl 10 9 hj (by kernel_rfl); rw [hi] at this; cases this
     ·have H9 := hid (hd.1 rfl)
      go_wp2_with fail
      exact ⟨fx 9, rfl, ⟨fun h => hC.1 h, fun h => (updB_self h).elim⟩, H9.out, kP⟩
    ·intro L fx w' hC hS
     have H10 := hid (hS 10 (by decide) rfl)
     have HO9 : Hid (OwnB w' base (fx 10) (l ++ [3] ++ num n ++ (zs.take (j + 1)).flatMap fun z => 1 :: num (zig z))) := hid (by rw [← HNX.out]; exact H10.out.1)
     have HG9 := hid (HG.out.trans (Grew.ahead HB2.out H10.out.2))
     clear hC hS H10
     go_wp2_with fail
     go_roundw
     case rel => exact ⟨j + 1, by omega, by go_num, HO9, HG9⟩
     case measure => simp [intOf]; omega
   ·have d1 : decide ((j : Int) < (n : Int)) = false := dQ (by omega)
    have HE : Hid (l ++ encI zs = l ++ [3] ++ num n ++ (zs.take j).flatMap fun z => 1 :: num (zig z)) := hid (by
     rw [List.take_of_length_le (by rw [HN.out]; omega)]; unfold encI; rw [HN.out]; simp)
    go_wp2_with fail
    go_ret
    exact ⟨_, rfl, by rw [HE.out]; exact hO2.out, HG.out⟩
def wE (N : Nat) (W1 : World) (b : Nat) (zs : List Int) (A : Option Addr) (n : Nat) (c : Nat) : Nat → Value → World → Prop
 | 0, fv, fw => ∃ q c2, fv = .pointer (some ⟨q, 0, none⟩) ∧ Wr fw q c2 ∧ N ≤ q ∧ N ≤ c2
 | 1, fv, _ => fv = .pointer (some ⟨b, 0, none⟩)
 | 2, fv, _ => fv = .int .i64 (3)
 | 3, fv, fw => ∃ q c2, fv = .pointer (some ⟨q, 0, none⟩) ∧ Wr fw q c2 ∧ N ≤ q ∧ N ≤ c2
 | 4, fv, fw => ∃ q c2, fv = .pointer (some ⟨q, 3, none⟩) ∧ Wr fw q c2 ∧ N ≤ q ∧ N ≤ c2
 | 5, fv, fw => ∃ q c2, fv = .pointer (some ⟨q, 3, none⟩) ∧ Wr fw q c2 ∧ N ≤ q ∧ N ≤ c2
 | 6, fv, fw => ∃ q c2, fv = .func (.func 161) #[] #[.pointer (some ⟨c2, 0, none⟩)] ∧ Wr fw q c2 ∧ N ≤ q ∧ N ≤ c2
 | 7, fv, _ => fv = .agg #[.int .i64 3, .int .i64 0, .string ⟨#[]⟩, .slice A n c]
 | 8, fv, fw => OwnB fw N fv (encI zs) ∧ Below N W1 fw
 | 9, fv, fw => OwnB fw N fv (encI zs) ∧ Below N W1 fw
 | 10, fv, _ => fv = .int .i64 (0)
 | _, _, _ => True
theorem wE_below {N : Nat} {W1 : World} {b : Nat} {zs : List Int} {A : Option Addr} {n : Nat} {c : Nat} {w w' : World} (hN : N ≤ W1.heap.size) (hb : Below w.heap.size w w') : ∀ j v, wE N W1 b zs A n c j v w → wE N W1 b zs A n c j v w'
 | 0, v, ⟨q, c2, h1, h2, h3⟩ => ⟨q, c2, h1, h2.below hb, h3⟩
 | 1, v, h => h
 | 2, v, h => h
 | 3, v, ⟨q, c2, h1, h2, h3⟩ => ⟨q, c2, h1, h2.below hb, h3⟩
 | 4, v, ⟨q, c2, h1, h2, h3⟩ => ⟨q, c2, h1, h2.below hb, h3⟩
 | 5, v, ⟨q, c2, h1, h2, h3⟩ => ⟨q, c2, h1, h2.below hb, h3⟩
 | 6, v, ⟨q, c2, h1, h2, h3⟩ => ⟨q, c2, h1, h2.below hb, h3⟩
 | 7, v, h => h
 | 8, v, h => ⟨h.1.below hb, h.2.trans (hb.mono (Nat.le_trans hN h.2.size))⟩
 | 9, v, h => ⟨h.1.below hb, h.2.trans (hb.mono (Nat.le_trans hN h.2.size))⟩
 | 10, v, h => h
 | n + 11, v, h => trivial
theorem wE_pure {N : Nat} {W1 : World} {b : Nat} {zs : List Int} {A : Option Addr} {n : Nat} {c : Nat} {w w' : World} : ∀ j v, j ≠ 0 → j ≠ 3 → j ≠ 4 → j ≠ 5 → j ≠ 6 → j ≠ 8 → j ≠ 9 → wE N W1 b zs A n c j v w → wE N W1 b zs A n c j v w'
 | 0, v, hh, _, _, _, _, _, _, _ => absurd rfl hh
 | 1, v, _, _, _, _, _, _, _, h => h
 | 2, v, _, _, _, _, _, _, _, h => h
 | 3, v, _, hh, _, _, _, _, _, _ => absurd rfl hh
 | 4, v, _, _, hh, _, _, _, _, _ => absurd rfl hh
 | 5, v, _, _, _, hh, _, _, _, _ => absurd rfl hh
 | 6, v, _, _, _, _, hh, _, _, _ => absurd rfl hh
 | 7, v, _, _, _, _, _, _, _, h => h
 | 8, v, _, _, _, _, _, hh, _, _ => absurd rfl hh
 | 9, v, _, _, _, _, _, _, hh, _ => absurd rfl hh
 | 10, v, _, _, _, _, _, _, _, h => h
 | n + 11, v, _, _, _, _, _, _, _, h => trivial
theorem encode_list (zs : List Int) (A : Option Addr) (c : Nat) (w : World) (hz : Hid (∀ z ∈ zs, -9223372036854775808 ≤ z ∧ z ≤ 9223372036854775807)) (hn : zs.length ≤ 1000) (hV : Hid (VRd w w.heap.size A zs)) :
  Calls Tryz.prog 106 #[.agg #[.int .i64 3, .int .i64 0, .string ⟨#[]⟩, .slice A zs.length c]] w fun e w' => ∃ v', e = .returned (.tuple #[v', .int .i64 0]) ∧ OwnB w' w.heap.size v' (encI zs) ∧ Below w.heap.size w w' := by
 obtain ⟨n, HN⟩ : ∃ n, Hid (zs.length = n) := ⟨_, hid rfl⟩
 rw [HN.out]
 have hn' : n ≤ 1000 := by rw [← HN.out]; exact hn
 have HB0 := hid ((Below.refl _ w).alloc (Nat.le_refl _) (.cells #[.int .i64 3, .int .i64 0, .string ⟨#[]⟩, .slice A n c] 148))
 have HX := heap_alloc_new w (.cells #[.int .i64 3, .int .i64 0, .string ⟨#[]⟩, .slice A n c] 148)
 have HX' := hid HX
 have HVA := hid (hV.out.below HB0.out)
 clear HX
 go_enter Tryz.func106, Tryz.ntmps106
 go_wp2_with fail
 have hck := vcheck_list zs A c (w.alloc (.cells #[.int .i64 3, .int .i64 0, .string ⟨#[]⟩, .slice A n c] 148)) hn HVA
 rw [HN.out] at hck
 refine hck.mono ?_
 rintro e W1 ⟨rfl, hq⟩
 have HB1 := hid (HB0.out.trans (hq.mono HB0.out.size))
 have HX1' := hid ((hq.block w.heap.size (by simp)).trans HX'.out)
 have hV1 := hid (hV.out.below HB1.out)
 have HX0 : Hid (W1.cell? ⟨w.heap.size, 0, none⟩ = some (.int .i64 3)) := hid (by rw [cell_of_row _ _ _ _ _ _ HX1'.out]; rfl)
 have HX1 : Hid (W1.cell? ⟨w.heap.size, 1, none⟩ = some (.int .i64 0)) := hid (by rw [cell_of_row _ _ _ _ _ _ HX1'.out]; rfl)
 have HX2 : Hid (W1.cell? ⟨w.heap.size, 2, none⟩ = some (.string ⟨#[]⟩)) := hid (by rw [cell_of_row _ _ _ _ _ _ HX1'.out]; rfl)
 have HX3 : Hid (W1.cell? ⟨w.heap.size, 3, none⟩ = some (.slice A n c)) := hid (by rw [cell_of_row _ _ _ _ _ _ HX1'.out]; rfl)
 have hN1 : Hid (w.heap.size ≤ W1.heap.size) := hid HB1.out.size
 obtain ⟨N, HNN⟩ : ∃ N, N = w.heap.size := ⟨_, rfl⟩
 clear hq hck HX1' HX' HVA HNN hn N
 go_wp2_with fail
 refine region_flow3 (by kernel_rfl) (by kernel_rfl) (fun i => Nat.beq i 9 || Nat.beq i 10) (fun i => i) (by kernel_rfl) (fun fx => #[.agg #[.int .i64 3, .int .i64 0, .string ⟨#[]⟩, .slice A n c], .pointer (some ⟨w.heap.size, 0, none⟩), fx 9, fx 10, .int .i64 (0), .agg #[.int .i64 3, .int .i64 0, .string ⟨#[]⟩, .slice A n c], .int .i64 (0), .int .i64 (0), .bool false, undef, fx 0, fx 1, fx 2, fx 3, fx 4, fx 5, fx 6, fx 7, fx 8]) (fun i => bif Nat.beq i 9 then Value.slice none 0 0 else bif Nat.beq i 10 then Value.int .i64 0 else undef) (fun L _ w' => (L 8 = false → Below W1.heap.size W1 w')) (fun fi fv _ fw => wE w.heap.size W1 w.heap.size zs A n c fi fv fw) (fun _ => (Below.refl _ _).drew) ?_ ?_
 ·refine ⟨?_, ?_, ?_, ?_, ?_, ?_, ?_, ?_, ?_, ?_, ?_, trivial⟩
  all_goals intro L fx w' hC hi hcl hdn hd
  ·have hnd : L 8 = false := nQ hi (fun h => (hcl 3 0 (hcl 4 3 (hcl 5 4 (hcl 6 5 (hcl 8 6 h (by kernel_rfl)) (by kernel_rfl)) (by kernel_rfl)) (by kernel_rfl)) (by kernel_rfl)))
   go_wp2_with fail
   refine (newWriter_any _).mono ?_
   rintro e w2 ⟨rfl, hw2, hb2⟩
   have HW2 := hid hw2
   have HB2 := hid hb2
   clear hw2 hb2
   go_wp2_with fail
   have hs := (hC hnd).size
   exact ⟨_, rfl, fun _ => (hC hnd).trans (HB2.out.mono hs), ⟨_, _, rfl, HW2.out, Nat.le_trans hN1.out hs, Nat.le_trans (Nat.le_trans hN1.out hs) (Nat.le_succ _)⟩, fun j v t _ _ h => wE_below hN1.out HB2.out j v h⟩
  ·have hnd : L 8 = false := nQ hi (fun h => (hcl 2 1 (hcl 4 2 (hcl 5 4 (hcl 6 5 (hcl 8 6 h (by kernel_rfl)) (by kernel_rfl)) (by kernel_rfl)) (by kernel_rfl)) (by kernel_rfl)))
   go_wp2_with fail
   exact ⟨_, rfl, (fun _ => hC hnd), rfl, kP⟩
  ·have h1 : fx 1 = .pointer (some ⟨w.heap.size, 0, none⟩) := hd.1 rfl
   have hnd : L 8 = false := nQ hi (fun h => (hcl 4 2 (hcl 5 4 (hcl 6 5 (hcl 8 6 h (by kernel_rfl)) (by kernel_rfl)) (by kernel_rfl)) (by kernel_rfl)))
   have hc := ((hC hnd).cell (block_lt_of_cell HX0.out)).trans HX0.out
   go_wp2_with fail
   exact ⟨_, by rw [← h1]; rfl, (fun _ => hC hnd), rfl, kP⟩
  ·have H0 := hid (hd.1 rfl)
   have hnd : L 8 = false := nQ hi (fun h => (hcl 4 3 (hcl 5 4 (hcl 6 5 (hcl 8 6 h (by kernel_rfl)) (by kernel_rfl)) (by kernel_rfl)) (by kernel_rfl)))
   obtain ⟨q, c2, h0, hw, hq⟩ := H0.out
   have HWq := hid hw
   clear hw
   go_wp2_with fail
   exact ⟨_, by rw [← h0]; rfl, fun _ => hC hnd, ⟨q, c2, rfl, HWq.out, hq⟩, kP⟩
  ·have H3 := hid (hd.1 rfl)
   have h2 : fx 2 = .int .i64 (3) := hd.2.1 rfl
   have hnd : L 8 = false := nQ hi (fun h => (hcl 5 4 (hcl 6 5 (hcl 8 6 h (by kernel_rfl)) (by kernel_rfl)) (by kernel_rfl)))
   obtain ⟨q, c2, h3, hw, hq⟩ := H3.out
   have HWq := hid hw
   clear hw
   go_wp2_with fail
   exact ⟨_, by rw [← h3, ← h2]; rfl, fun _ => hC hnd, ⟨q, c2, rfl, HWq.out, hq⟩, kP⟩
  ·have H4 := hid (hd.1 rfl)
   have hnd : L 8 = false := nQ hi (fun h => (hcl 6 5 (hcl 8 6 h (by kernel_rfl)) (by kernel_rfl)))
   obtain ⟨q, c2, h4, hw, hq⟩ := H4.out
   have HWq := hid hw
   clear hw
   go_wp2_with fail
   exact ⟨_, by rw [← h4]; rfl, fun _ => hC hnd, ⟨q, c2, rfl, HWq.out, hq⟩, kP⟩
  ·have H5 := hid (hd.1 rfl)
   have hnd : L 8 = false := nQ hi (fun h => (hcl 8 6 h (by kernel_rfl)))
   obtain ⟨q, c2, h5, hw, hq⟩ := H5.out
   have HWq := hid hw
   have hc3 := hw.c3
   clear hw
   go_wp2_with fail
   exact ⟨_, by rw [← h5]; rfl, fun _ => hC hnd, ⟨q, c2, rfl, HWq.out, hq⟩, kP⟩
  ·have hnd : L 8 = false := nQ hi (fun h => (hcl 8 7 h (by kernel_rfl)))
   have hc0 := ((hC hnd).cell (block_lt_of_cell HX0.out)).trans HX0.out
   have hc1 := ((hC hnd).cell (block_lt_of_cell HX1.out)).trans HX1.out
   have hc2 := ((hC hnd).cell (block_lt_of_cell HX2.out)).trans HX2.out
   have hc3 := ((hC hnd).cell (block_lt_of_cell HX3.out)).trans HX3.out
   go_wp2_with fail
   exact ⟨_, rfl, (fun _ => hC hnd), rfl, kP⟩
  ·have H6 := hid (hd.1 rfl)
   have h7 : fx 7 = .agg #[.int .i64 3, .int .i64 0, .string ⟨#[]⟩, .slice A n c] := hd.2.1 rfl
   obtain ⟨q, c2, h6, hw, hq1, hq2⟩ := H6.out
   have HWq := hid hw
   have hb8 := hC hi
   clear hw
   have HV8 := hid (hV1.out.below hb8)
   go_wp2_with fail
   have HWL := write_list zs (.slice none 0 0) [] A c q c2 w.heap.size w' hz (by rw [HN.out]; exact hn') HV8 (hid (OwnB.nil _ _)) (by simp) (Nat.le_trans hN1.out hb8.size) HWq (hid (fun e => by cases e)) (hid (fun e => by cases e)) (hid (fun _ _ e => by cases e))
   rw [HN.out] at HWL
   refine HWL.mono ?_
   rintro e w2 ⟨v2, rfl, hO3, hG3⟩
   have HO3 := hid hO3
   have HG3 := hid hG3
   clear hO3 hG3 HWL
   go_wp2_with fail
   refine ⟨v2, by rw [← h7, ← h6]; rfl, fun h => (updB_self h).elim, ⟨by have := HO3.out; rwa [List.nil_append] at this, (hb8.mono hN1.out).trans (HG3.out.below (Nat.le_trans hN1.out hb8.size) (fun g e => by cases e))⟩, fun j v t hj hu h => ?_⟩
   refine wE_pure j v ?_ ?_ ?_ ?_ ?_ ?_ ?_ h <;> intro e <;> subst e
   ·refine absurd hu (not_needed (E := fun i => Nat.beq i 9 || Nat.beq i 10) (j := 0) [3] ?_ ?_ ?_)
    ·kernel_rfl
    ·kernel_rfl
    ·intro m hm hne; simp at hm; subst hm; exact hcl 4 3 (hcl 5 4 (hcl 6 5 (hdn 6 (by kernel_rfl)) (by kernel_rfl)) (by kernel_rfl)) (by kernel_rfl)
   ·refine absurd hu (not_needed (E := fun i => Nat.beq i 9 || Nat.beq i 10) (j := 3) [4] ?_ ?_ ?_)
    ·kernel_rfl
    ·kernel_rfl
    ·intro m hm hne; simp at hm; subst hm; exact hcl 5 4 (hcl 6 5 (hdn 6 (by kernel_rfl)) (by kernel_rfl)) (by kernel_rfl)
   ·refine absurd hu (not_needed (E := fun i => Nat.beq i 9 || Nat.beq i 10) (j := 4) [5] ?_ ?_ ?_)
    ·kernel_rfl
    ·kernel_rfl
    ·intro m hm hne; simp at hm; subst hm; exact hcl 6 5 (hdn 6 (by kernel_rfl)) (by kernel_rfl)
   ·refine absurd hu (not_needed (E := fun i => Nat.beq i 9 || Nat.beq i 10) (j := 5) [6] ?_ ?_ ?_)
    ·kernel_rfl
    ·kernel_rfl
    ·intro m hm hne; simp at hm; subst hm; exact hdn 6 (by kernel_rfl)
   ·refine absurd hu (not_needed (E := fun i => Nat.beq i 9 || Nat.beq i 10) (j := 6) [8] ?_ ?_ ?_)
    ·kernel_rfl
    ·kernel_rfl
    ·intro m hm hne; simp at hm; omega
   ·rw [hi] at hj; cases hj
   ·have := hcl 9 8 hj (by kernel_rfl); rw [hi] at this; cases this
  ·have H8 := hid (hd.1 rfl)
   go_wp2_with fail
   exact ⟨fx 8, rfl, fun h => hC h, H8.out, kP⟩
  ·go_wp2_with fail
   exact ⟨_, rfl, fun h => hC h, rfl, kP⟩
 ·intro L fx w' hC hS
  have H9 := hid (hS 9 (by decide) rfl)
  have H10 := hid (hS 10 (by decide) rfl)
  have HG := hid (HB1.out.trans H9.out.2)
  clear hC hS
  have h10 : fx 10 = .int .i64 0 := H10.out
  rw [h10]
  clear h10 H10
  go_wp2_with fail
  go_ret2
  exact ⟨_, rfl, H9.out.1, HG.out⟩
open Go.ChangeShapes Go.WideShapes Go.ChangeAt
theorem own : ownKnob Tryz.prog.godebug = none := by kernel_rfl
theorem laidOut : laidOutB Tryz.prog = true := by kernel_rfl
theorem mapsIn : mapsRowed Tryz.prog = true := by kernel_rfl
theorem slicesFull : ∀ t e, t < Tryz.prog.types.size → Tryz.prog.underlying t = some (.slice e) → 0 < Tryz.prog.cellsOf e := slices_full_of Tryz.prog (by kernel_rfl)
theorem gS : Tryz.prog.globalNamed "sizar/digest.start" = some 0 := by kernel_rfl
theorem gN : Tryz.prog.globalNamed "sizar/digest.numbers" = some 1 := by kernel_rfl
theorem tS : (Tryz.prog.globals[0]?).map (·.type) = some 190 := by kernel_rfl
theorem tN : (Tryz.prog.globals[1]?).map (·.type) = some 205 := by kernel_rfl
theorem cellsE : Tryz.prog.cellsOf 188 = 1 := by kernel_rfl
theorem cellsS : Tryz.prog.cellsOf 190 = 8 := by kernel_rfl
theorem cellsN : Tryz.prog.cellsOf 205 = 64 := by kernel_rfl
theorem cells8 : Tryz.prog.cellsOf 5 = 1 := by kernel_rfl
/-- the tables as the rows list them -/
def laidL : List (String × DataW Unit) := [("sizar/digest.start", Rows.laid_sizar_digest_start), ("sizar/digest.numbers", Rows.laid_sizar_digest_numbers)]
theorem door_met (os : Os) (args : Array Value) : laidMetH Tryz.prog laidL ((World.doorLaid Tryz.prog 400 os).forCall (fun _ _ => 0) ⟨#[], args, []⟩).memory :=
 laidMetH_of_parts3 (fuel := 8) (laidMet_of_run' 8 (by kernel_rfl) (by kernel_rfl)) (by kernel_rfl) (by kernel_rfl)
theorem tabS : (Rows.laid_sizar_digest_start : DataW Unit) = Lib.tabData .u32 (hs.map fun x : Nat => (x : Int)) := by rfl
theorem tabN : (Rows.laid_sizar_digest_numbers : DataW Unit) = Lib.tabData .u32 (ks.map fun x : Nat => (x : Int)) := by rfl
theorem tabs_of {W : World} (h : laidMetH Tryz.prog laidL W) : Tabs W := by
 rw [MakeChecks.laidMetH_plain _ _ _ (by kernel_rfl)] at h
 obtain ⟨ps, ⟨g0, t0, cs0, f0, p0, q0, hg0, ht0, hv0, hd0, ⟨g1, t1, cs1, f1, p1, q1, hg1, ht1, hv1, hd1, _, _⟩, _⟩, _, _⟩ := h
 obtain rfl := Option.some.inj (gS.symm.trans hg0)
 obtain rfl := Option.some.inj (gN.symm.trans hg1)
 obtain rfl := Option.some.inj (tS.symm.trans ht0)
 obtain rfl := Option.some.inj (tN.symm.trans ht1)
 rw [tabS] at hd0
 rw [tabN] at hd1
 have e0 := Lib.cells_of_tab Tryz.underlying190 Tryz.underlying188 cellsE cellsS hd0
 have e1 := Lib.cells_of_tab Tryz.underlying205 Tryz.underlying188 cellsE cellsN hd1
 have c0 : ∀ t, t < 8 → W.cell? ⟨0, t, none⟩ = some (.int .u32 (hf t : Nat)) := fun t ht => by
  have := World.var?_cell gS hv0 t
  rw [this, ← Array.getElem?_toList, e0]
  have hl : t < hs.length := ht
  simp only [List.map_map, List.getElem?_map, List.getElem?_eq_getElem hl, Option.map_some, hf, List.getD_eq_getElem?_getD, Option.getD_some]; rfl
 have c1 : ∀ t, t < 64 → W.cell? ⟨1, t, none⟩ = some (.int .u32 (kf t : Nat)) := fun t ht => by
  have := World.var?_cell gN hv1 t
  rw [this, ← Array.getElem?_toList, e1]
  have hl : t < ks.length := ht
  simp only [List.map_map, List.getElem?_map, List.getElem?_eq_getElem hl, Option.map_some, kf, List.getD_eq_getElem?_getD, Option.getD_some]; rfl
 exact ⟨block_lt_of_cell (c0 0 (by omega)), block_lt_of_cell (c1 0 (by omega)), c0, c1⟩
theorem stands_of {ps : Array TypeId} (h : ps.all (fun t => !Tryz.prog.wantsStandIn t) = true) {j : Nat} {t : TypeId} (ht : ps[j]? = some t) : Tryz.prog.wantsStandIn t = false := by
 have := Array.all_eq_true_iff_forall_mem.1 h t (Array.mem_of_getElem? ht)
 simpa using this
/-- what a slice of bytes brings -/
structure In (w : World) (A : Option Addr) (n c : Nat) (l : List Nat) : Prop where
 len : l.length = n
 cap : n ≤ c
 none_ : A = none → c = 0
 bytes : Bytes l
 rd : Rd w w.heap.size A l
theorem In.below {w w' : World} {A : Option Addr} {n c : Nat} {l : List Nat} (h : In w A n c l) (hb : Below w.heap.size w w') : In w' A n c l :=
 ⟨h.len, h.cap, h.none_, h.bytes, (h.rd.below hb (Nat.le_refl _)).mono hb.size⟩
section
variable {H : Type} {enc : TypeId × Value → H}
theorem trodAll_carry {W W' : World} (hb : Below W.heap.size W W') : ∀ {ts : List TypeId} {vs : List Value} {ds : List (DataW H)} {ps : List MemPlace},
  DataW.TrodAll enc Tryz.prog W 0 (fun _ => true) true ts vs ds ps → DataW.TrodAll enc Tryz.prog W' 0 (fun _ => true) true ts vs ds ps
 | [], [], [], _, h => h
 | _ :: _, _ :: _, _ :: _, ps, h => by
  have hlt := DataW.TrodAll.lt h
  obtain ⟨p, q, ⟨n, h1⟩, h2, e⟩ := h
  refine ⟨p, q, ⟨n, DataW.trod_carry n _ _ _ h1 (fun x hx => ?_)⟩, trodAll_carry hb h2, e⟩
  have := hlt x (by rw [e]; exact List.mem_append_left _ hx)
  cases x with
  | cell b off => exact hb.cell (p := ⟨b, off, none⟩) this
  | map b => exact hb.block b this
/-- the last step of a law: true, and the arguments read as they did -/
theorem law_post {f : Func} {s : ChangeSpec} {W W' : World} {args : Array Value} {ds gs : List (DataW H)} {before : List MemPlace}
  (hts : f.params.toList.all (fun t => decide (t < Tryz.prog.types.size)) = true) (hvars : s.vars = []) (hrt : f.resultTypes = #[4])
  (hfn : gs = [] → (s.fn H ds).results = [.lit (.bool true)] ∧ (s.fn H ds).args = ds ∧ (s.fn H ds).vars = [])
  (hW : DataW.Whole enc Tryz.prog f.params.toList s.vars false W args.toList ds gs before) (hb : Below W.heap.size W W') :
  s.post enc Tryz.prog f false true false false W args (.bool true) W' := by
 have hW' := hW
 obtain ⟨p, q, hA, hV, rfl, hfz, hnd⟩ := hW
 rw [hvars] at hV
 obtain ⟨rfl, rfl⟩ := trodVars_none hV
 obtain ⟨e1, e2, e3⟩ := hfn rfl
 have hlt := DataW.TrodAll.lt hA
 have hA2 := DataW.TrodAll.respare (kids_rows laidOut mapsIn) (fun t e ht => slicesFull t e ht) (fun t ht => of_decide_eq_true (List.all_eq_true.1 hts t ht)) (trodAll_carry hb hA) (spare' := fun b => decide (b < W.heap.size)) (fun x hx => eQ (hlt x hx))
 refine ⟨ds, [], p ++ [], [], p, [], hW', ?_, ?_, ?_, World.keptBut_mono (fun x hx => ⟨hx, .inr (.inl (by simpa using hx))⟩) (hb.frame (· ∈ p ++ [])), fun h => by cases h⟩
 ·rw [hrt, List.append_nil, e1]
  exact trodAll_cons_mk (shut_bool Tryz.underlying4 _) trodAll_mk0
 ·rw [List.append_nil, e2]; exact hA2
 ·rw [List.append_nil, e3, hvars]; rfl
end
theorem clone_any (A : Option Addr) (n c : Nat) (l : List Nat) (w : World) (hn : n ≤ 1000000000) (h : Hid (In w A n c l)) :
  Calls Tryz.prog 135 #[.slice A n c] w fun e w' => ∃ v, e = .returned v ∧ OwnB w' w.heap.size v l ∧ Below w.heap.size w w' := by
 have kn0 := fun W => Lib.run_eql_slice_nil (P := Tryz.prog) W 143 5 A n c 0 0 Tryz.underlying143
 rcases A with _ | a
 ·have h0 : n = 0 := by have := h.out.none_ rfl; have := h.out.cap; omega
  have hl : l = [] := List.eq_nil_of_length_eq_zero (by rw [h.out.len]; exact h0)
  have hc0 : c = 0 := h.out.none_ rfl
  subst hl
  subst h0
  subst hc0
  clear h hn
  go_enter Tryz.func135, Tryz.ntmps135
  go_wp2_with fail
  go_ret
  exact ⟨_, rfl, OwnB.nil _ _, Below.refl _ _⟩
 ·have HO := hid (⟨rfl, .inr ⟨w.heap.size, 0, #[], rfl, Nat.le_refl _, heap_alloc_new w _, Nat.le_refl _, by simp [maxLen], rfl, rfl⟩⟩ : OwnB (w.alloc (.cells #[] 5)) w.heap.size (.slice (some ⟨w.heap.size, 0, none⟩) 0 0) [])
  have HB := hid ((Below.refl _ w).alloc (Nat.le_refl _) (.cells #[] 5))
  have HR := hid ((h.out.rd.below HB.out (Nat.le_refl _)).mono HB.out.size)
  have HLN := hid h.out.len
  have hlen : ([] : List Nat).length + n ≤ 1099511627776 := by simp; omega
  go_enter Tryz.func135, Tryz.ntmps135
  go_wp2_with (at_builtin; refine wpList_append_bytes rfl (.tmp 5) (.tmp 6) rfl w.heap.size _ [] l rfl HO (some a) n c rfl HLN (fun h => by cases h) HR hlen HB.out.size ?_; intro v2 w2 HO2 HB2)
  rw [List.nil_append] at HO2
  go_ret
  exact ⟨_, rfl, HO2.out, HB.out.trans HB2.out⟩
/-- the cells of integers of the codec -/
def vcells : List Int → List Value
 | [] => []
 | z :: zs => .int .i64 1 :: .int .i64 z :: .string ⟨#[]⟩ :: .slice none 0 0 :: vcells zs
theorem vcells_append : ∀ (a b : List Int), vcells (a ++ b) = vcells a ++ vcells b
 | [], b => rfl
 | z :: a, b => by simp only [List.cons_append, vcells, vcells_append a b]
theorem vcells_get : ∀ (zs : List Int) (i : Nat) (hi : i < zs.length), (vcells zs)[i * 4]? = some (.int .i64 1) ∧ (vcells zs)[i * 4 + 1]? = some (.int .i64 zs[i]) ∧ (vcells zs)[i * 4 + 2]? = some (.string ⟨#[]⟩) ∧ (vcells zs)[i * 4 + 3]? = some (.slice none 0 0)
 | [], i, hi => by simp at hi
 | z :: zs, 0, _ => by simp [vcells]
 | z :: zs, i + 1, hi => by
  have h := vcells_get zs i (by simpa using hi)
  rw [show (i + 1) * 4 = i * 4 + 4 by omega]
  simpa [vcells] using h
/-- a slice of values that the call made -/
def OwnV (w : World) (base : Nat) (v : Value) (zs : List Int) : Prop := w.ownsRow base 148 4 v zs.length (vcells zs)
theorem OwnV.nil (w : World) (base : Nat) : OwnV w base (.slice none 0 0) [] := ⟨rfl, .inl ⟨rfl, rfl⟩⟩
theorem OwnV.slice {w : World} {base : Nat} {v : Value} {zs : List Int} (h : OwnV w base v zs) : ∃ A c, v = .slice A zs.length c ∧ VRd w w.heap.size A zs := by
 rcases h.2 with ⟨rfl, h0⟩ | ⟨g, cap, cur, rfl, hb, hh, hc, hm, hs, ht⟩
 ·exact ⟨none, 0, by rw [h0], fun h => by omega⟩
 ·refine ⟨_, cap, rfl, fun _ => ⟨g, rfl, (Array.getElem?_eq_some_iff.1 hh).1, fun i hi => ?_⟩⟩
  have key : ∀ k, k < zs.length * 4 → w.cell? ⟨g, 0 + k, none⟩ = (vcells zs)[k]? := fun k hk => by
   rw [Nat.zero_add, cell_of_row w g k cur _ _ hh, ← ht, List.getElem?_take_of_lt hk]; simp
  have hv := vcells_get zs i hi
  refine ⟨?_, ?_, ?_, ?_⟩
  ·rw [key _ (by omega)]; exact hv.1
  ·rw [show 0 + i * 4 + 1 = 0 + (i * 4 + 1) by omega, key _ (by omega)]; exact hv.2.1
  ·rw [show 0 + i * 4 + 2 = 0 + (i * 4 + 2) by omega, key _ (by omega)]; exact hv.2.2.1
  ·rw [show 0 + i * 4 + 3 = 0 + (i * 4 + 3) by omega, key _ (by omega)]; exact hv.2.2.2
theorem OwnV.kept {w w' : World} {base : Nat} {v : Value} {zs : List Int} (h : OwnV w base v zs) (hk : ∀ g, base ≤ g → g < w.heap.size → w'.heap[g]? = w.heap[g]?) : OwnV w' base v zs := by
 refine ⟨h.1, ?_⟩
 rcases h.2 with h0 | ⟨g, cap, cur, rfl, hb, hh, r⟩
 ·exact .inl h0
 ·exact .inr ⟨g, cap, cur, rfl, hb, (hk g hb (Array.getElem?_eq_some_iff.1 hh).1).trans hh, r⟩
theorem info_val : ∃ i, Tryz.prog.info? 148 = some i ∧ i.zero = some (.agg #[.int .i64 0, .int .i64 0, .string ⟨#[]⟩, .slice none 0 0]) ∧ i.size = 4 ∧ i.bytes = 56 := by
 refine ⟨_, rfl, ?_, ?_, ?_⟩ <;> kernel_rfl
theorem wpList_append_val {w : World} {ops : Array Oper} {rest : List Oper} {o : Oper} {a : Act} {Q : Exit → Act → World → Prop} (hgd : o.guard = none) (s x : Operand)
  (ho : o.op = .call { callee := .builtin .append, args := #[s, x], argTypes := #[146, 146] })
  (base : Nat) (v : Value) (zs : List Int) (z : Int) (hs : a.eval s = v) (hown : Hid (OwnV w base v zs)) (g : Nat) (hx : a.eval x = .slice (some ⟨g, 0, none⟩) 1 1)
  (hr : Hid (w.heap[g]? = some (.cells #[.int .i64 1, .int .i64 z, .string ⟨#[]⟩, .slice none 0 0] 148 (0, 0)))) (hlen : zs.length ≤ 100000) (hbase : base ≤ w.heap.size)
  (h : ∀ v' w', Hid (OwnV w' base v' (zs ++ [z])) → Hid (Below base w w') → wpList Tryz.prog ops Q rest (a.put o.dst v') w') : wpList Tryz.prog ops Q (o :: rest) a w := by
 obtain ⟨i0, hi, hz0, hz1, hz2⟩ := info_val
 refine wpList_append_own_at _ hgd s x _ ho base _ i0 _ 4 56 Tryz.underlying146 hi hz0 hz1 hz2 (by simp [Value.cells]) (by omega) v _ _ hs hown.out ⟨g, 0, none⟩ 1 1 [.int .i64 1, .int .i64 z, .string ⟨#[]⟩, .slice none 0 0] hx rfl (fun j u hu => ?_) (fun u hu => ?_) (by unfold maxLen; omega) (by omega) hbase ?_
 ·rw [add_row, cell_of_row _ _ _ _ _ _ hr.out, ← hu]; simp
 ·simp only [List.mem_cons, List.not_mem_nil, or_false] at hu
  rcases hu with rfl | rfl | rfl | rfl <;> rfl
 ·intro v' w' h1 h2 h3 h4
  refine h v' w' (hid ?_) (hid ((Below.refl base w).grown h2 hbase (fun k hk => ?_)))
  ·unfold OwnV
   rw [vcells_append, List.length_append]; exact h1
  ·rcases hown.out.2 with ⟨rfl, h0⟩ | ⟨g', cap, cur, rfl, hb, hh, r⟩
   ·cases hk
   ·have : g' = k := by simpa [Value.ownBlock] using hk
    omega
theorem ownV_form {w : World} {base : Nat} {v : Value} {zs : List Int} (h : OwnV w base v zs) : ∃ A n c, v = .slice A n c := by
 obtain ⟨A, c, e, _⟩ := h.slice
 exact ⟨A, _, c, e⟩
theorem row3 {w : World} {b : Nat} {v : Value} (h : w.heap[b]? = some (.cells #[.int .i64 3, .int .i64 0, .string ⟨#[]⟩, v] 148 (0, 0))) : w.cell? ⟨b, 3, none⟩ = some v ∧ w.frozen? ⟨b, 3, none⟩ = false :=
 ⟨by rw [cell_of_row _ _ _ _ _ _ h]; rfl, by simp [World.frozen?, h]⟩
theorem set3 {w : World} {b : Nat} {v v' : Value} (h : w.heap[b]? = some (.cells #[.int .i64 3, .int .i64 0, .string ⟨#[]⟩, v] 148 (0, 0))) : (w.setCell ⟨b, 3, none⟩ v').heap[b]? = some (.cells #[.int .i64 3, .int .i64 0, .string ⟨#[]⟩, v'] 148 (0, 0)) := by
 simp only [World.setCell, Array.getElem?_modify, if_true, h]; rfl
theorem thash_any (tag : ByteArray) (zs : List Int) (g m gc : Nat) (A : Option Addr) (n c : Nat) (l : List Nat) (w : World) (htag : tag.size ≤ 4294967296) (hz : Hid (∀ z ∈ zs, -9223372036854775808 ≤ z ∧ z ≤ 9223372036854775807)) (hm : zs.length = m) (hzn : m ≤ 1000) (hzc : Hid (∀ i, i < m → w.cell? ⟨g, i, none⟩ = some (.int .i64 (zs.getD i 0)))) (hg : g < w.heap.size) (hn : n ≤ 1000000) (hT : Hid (Tabs w)) (h : Hid (In w A n c l)) :
  Calls Tryz.prog 93 #[.string tag, .slice A n c, .slice (some ⟨g, 0, none⟩) m gc] w fun e w' => e = .returned (dgV (hashT (strL tag) l zs)) ∧ Below w.heap.size w w' := by
 have HM := hid hm
 clear hm
 have HB0 := hid (((Below.refl _ w).alloc (Nat.le_refl _) (.cells #[.int .u8 0, .int .u8 0, .int .u8 0, .int .u8 0, .int .u8 0, .int .u8 0, .int .u8 0, .int .u8 0, .int .u8 0, .int .u8 0, .int .u8 0, .int .u8 0, .int .u8 0, .int .u8 0, .int .u8 0, .int .u8 0, .int .u8 0, .int .u8 0, .int .u8 0, .int .u8 0, .int .u8 0, .int .u8 0, .int .u8 0, .int .u8 0, .int .u8 0, .int .u8 0, .int .u8 0, .int .u8 0, .int .u8 0, .int .u8 0, .int .u8 0, .int .u8 0] 25)).alloc (by simp) (.cells #[.int .i64 3, .int .i64 0, .string ⟨#[]⟩, .slice none 0 0] 148))
 have h1 := heap_alloc_new (w.alloc (.cells #[.int .u8 0, .int .u8 0, .int .u8 0, .int .u8 0, .int .u8 0, .int .u8 0, .int .u8 0, .int .u8 0, .int .u8 0, .int .u8 0, .int .u8 0, .int .u8 0, .int .u8 0, .int .u8 0, .int .u8 0, .int .u8 0, .int .u8 0, .int .u8 0, .int .u8 0, .int .u8 0, .int .u8 0, .int .u8 0, .int .u8 0, .int .u8 0, .int .u8 0, .int .u8 0, .int .u8 0, .int .u8 0, .int .u8 0, .int .u8 0, .int .u8 0, .int .u8 0] 25)) (.cells #[.int .i64 3, .int .i64 0, .string ⟨#[]⟩, .slice none 0 0] 148)
 have h2 := (Below.heap_alloc (w.alloc (.cells #[.int .u8 0, .int .u8 0, .int .u8 0, .int .u8 0, .int .u8 0, .int .u8 0, .int .u8 0, .int .u8 0, .int .u8 0, .int .u8 0, .int .u8 0, .int .u8 0, .int .u8 0, .int .u8 0, .int .u8 0, .int .u8 0, .int .u8 0, .int .u8 0, .int .u8 0, .int .u8 0, .int .u8 0, .int .u8 0, .int .u8 0, .int .u8 0, .int .u8 0, .int .u8 0, .int .u8 0, .int .u8 0, .int .u8 0, .int .u8 0, .int .u8 0, .int .u8 0] 25)) (.cells #[.int .i64 3, .int .i64 0, .string ⟨#[]⟩, .slice none 0 0] 148) w.heap.size (by simp)).trans (heap_alloc_new w _)
 rw [World.size_alloc] at h1
 have HV0 := hid h1
 have HD0 := hid h2
 clear h1 h2
 go_enter Tryz.func93, Tryz.ntmps93
 go_wp2_with fail
 go_loopw [15] (fun i wr => ∃ j : Nat, j ≤ m ∧ i = .int .i64 j ∧ ∃ vl, Hid (wr.heap[w.heap.size]? = some (.cells #[.int .u8 0, .int .u8 0, .int .u8 0, .int .u8 0, .int .u8 0, .int .u8 0, .int .u8 0, .int .u8 0, .int .u8 0, .int .u8 0, .int .u8 0, .int .u8 0, .int .u8 0, .int .u8 0, .int .u8 0, .int .u8 0, .int .u8 0, .int .u8 0, .int .u8 0, .int .u8 0, .int .u8 0, .int .u8 0, .int .u8 0, .int .u8 0, .int .u8 0, .int .u8 0, .int .u8 0, .int .u8 0, .int .u8 0, .int .u8 0, .int .u8 0, .int .u8 0] 25 (0, 0))) ∧ Hid (wr.heap[w.heap.size + 1]? = some (.cells #[.int .i64 3, .int .i64 0, .string ⟨#[]⟩, vl] 148 (0, 0))) ∧ Hid (OwnV wr (w.heap.size + 1 + 1) vl (zs.take j)) ∧ Hid (Below w.heap.size w wr)) (fun i _ => m - (intOf i).toNat)
 case atStart => exact ⟨0, by omega, rfl, _, HD0, HV0, hid (OwnV.nil _ _), HB0⟩
 case round =>
  clear HD0 HV0 HB0
  obtain ⟨j, hj, rfl, vl, HD, HV, HO, HB⟩ := hrel
  by_cases hlt : j < m
  ·have d1 : decide ((j : Int) < (m : Int)) = true := eQ (by omega)
   obtain ⟨z, HZ⟩ : ∃ z, Hid (zs.getD j 0 = z) := ⟨_, hid rfl⟩
   have hcell : wr.cell? ⟨g, j, none⟩ = some (.int .i64 z) := by rw [← HZ.out]; exact (HB.out.cell (p := ⟨g, j, none⟩) hg).trans (hzc.out j hlt)
   have k3 : wr.cell? ⟨w.heap.size + 1, 3, none⟩ = some vl := by rw [cell_of_row _ _ _ _ _ _ HV.out]; rfl
   have HSZ : Hid (w.heap.size + 1 + 1 ≤ wr.heap.size) := hid (Array.getElem?_eq_some_iff.1 HV.out).1
   have HBA := hid ((Below.refl _ wr).alloc (Nat.le_refl _) (.cells #[.int .i64 1, .int .i64 z, .string ⟨#[]⟩, .slice none 0 0] 148))
   have HOA := hid (HO.out.kept (fun k _ hk => HBA.out.block k hk))
   have HVA := hid ((HBA.out.block _ HSZ.out).trans HV.out)
   have HRA := hid (heap_alloc_new wr (.cells #[.int .i64 1, .int .i64 z, .string ⟨#[]⟩, .slice none 0 0] 148))
   have HLN : Hid ((zs.take j).length ≤ 100000) := hid (by rw [List.length_take]; omega)
   have HSA := hid (Nat.le_trans HSZ.out HBA.out.size)
   have HNX : Hid (zs.take j ++ [z] = zs.take (j + 1)) := hid (by
    have h1 : j < zs.length := by rw [HM.out]; exact hlt
    rw [List.take_succ_eq_append_getElem h1, ← HZ.out]; simp [List.getD_eq_getElem?_getD, h1])
   go_wp2_with (at_builtin; refine wpList_append_val rfl (.tmp 20) (.tmp 23) rfl (w.heap.size + 1 + 1) vl (zs.take j) z ?ha HOA wr.heap.size ?hb ?hc HLN.out HSA.out ?_)
   case ha => rfl
   case hb => rfl
   case hc => exact HRA
   intro v2 w2 HO2 HB2
   obtain ⟨A', n', c', rfl⟩ := ownV_form HO2.out
   have HV2 := hid ((HB2.out.block (w.heap.size + 1) (Nat.lt_succ_self _)).trans HVA.out)
   obtain ⟨k3', f3'⟩ := row3 HV2.out
   go_wp2_with fail
   have HBB := hid (((HB.out.trans (HBA.out.mono HB.out.size)).trans (HB2.out.mono (by omega))).setCell (p := ⟨w.heap.size + 1, 3, none⟩) (Nat.le_succ _) (.slice A' n' c'))
   have HV3 := hid (set3 (v' := .slice A' n' c') HV2.out)
   have HD3 := hid ((Below.heap_setCell w2 ⟨w.heap.size + 1, 3, none⟩ (.slice A' n' c') w.heap.size (by simp)).trans ((HB2.out.block w.heap.size (by omega)).trans ((HBA.out.block _ (by have := HSZ.out; omega)).trans HD.out)))
   have HO3 := hid (HO2.out.kept (fun k hk hk2 => Below.heap_setCell w2 ⟨w.heap.size + 1, 3, none⟩ (.slice A' n' c') k (by intro e; simp at e; omega)))
   rw [HNX.out] at HO3
   clear k3' f3' k3 hcell
   go_roundw
   case rel => exact ⟨j + 1, by omega, by go_num, _, HD3, HV3, HO3, HBB⟩
   case measure => simp [intOf]; omega
  ·have d1 : decide ((j : Int) < (m : Int)) = false := dQ (by omega)
   have HOm : Hid (OwnV wr (w.heap.size + 1 + 1) vl zs) := hid (by have := HO.out; rwa [List.take_of_length_le (by rw [HM.out]; omega)] at this)
   obtain ⟨Av, cv, rfl, hvr⟩ := HOm.out.slice
   have HVR := hid hvr
   have c0 : wr.cell? ⟨w.heap.size + 1, 0, none⟩ = some (.int .i64 3) := by rw [cell_of_row _ _ _ _ _ _ HV.out]; rfl
   have c1 : wr.cell? ⟨w.heap.size + 1, 1, none⟩ = some (.int .i64 0) := by rw [cell_of_row _ _ _ _ _ _ HV.out]; rfl
   have c2 : wr.cell? ⟨w.heap.size + 1, 2, none⟩ = some (.string ⟨#[]⟩) := by rw [cell_of_row _ _ _ _ _ _ HV.out]; rfl
   have c3 : wr.cell? ⟨w.heap.size + 1, 3, none⟩ = some (.slice Av zs.length cv) := by rw [cell_of_row _ _ _ _ _ _ HV.out]; rfl
   clear hvr
   go_wp2_with fail
   refine (encode_list zs Av cv _ hz (by rw [HM.out]; omega) HVR).mono ?_
   rintro e w2 ⟨v2, rfl, ho2, hb2⟩
   have HO2 := hid ho2
   have HB2 := hid (HB.out.trans (hb2.mono HB.out.size))
   have HD2 := hid ((hb2.block w.heap.size (Array.getElem?_eq_some_iff.1 HD.out).1).trans HD.out)
   clear ho2 hb2 c0 c1 c2 c3
   go_wp2_with fail
   refine (clone_any A n c l _ (by omega) (hid (h.out.below HB2.out))).mono ?_
   rintro e w3 ⟨v3, rfl, ho3, hb3⟩
   obtain ⟨A2, n2, cc2, rfl, hn2, hc2, hA2, HR2⟩ := (HO2.out.below hb3).slice
   have HO3 := hid ho3
   have HB3 := hid (HB2.out.trans (hb3.mono HB2.out.size))
   have HD3 := hid ((hb3.block w.heap.size (Array.getElem?_eq_some_iff.1 HD2.out).1).trans HD2.out)
   have HS3 : Hid (w2.heap.size ≤ w3.heap.size) := hid hb3.size
   have HEL : Hid (n2 ≤ 20000) := hid (by rw [← hn2.out]; have := encI_length zs; rw [HM.out] at this; omega)
   have HL3 : Hid (l.length + n2 ≤ 1099511627776) := hid (by have := h.out.len; have := HEL.out; omega)
   clear ho3 hb3
   go_wp2_with (at_builtin; refine wpList_append_bytes rfl (.tmp 34) (.tmp 35) rfl w2.heap.size _ l (encI zs) rfl HO3 A2 n2 cc2 rfl hn2 hA2.out HR2 HL3.out HS3.out ?_; intro v4 w4 HO4 HB4)
   obtain ⟨A6, n6, c6, rfl, hn6, hc6, hA6, HR6⟩ := HO4.out.slice
   have HB5 := hid (HB3.out.trans (HB4.out.mono HB2.out.size))
   have HD4 := hid ((HB4.out.block w.heap.size (Nat.lt_of_lt_of_le (Array.getElem?_eq_some_iff.1 HD2.out).1 (Nat.le_refl _))).trans HD3.out)
   refine (tagged_any tag A6 n6 c6 (l ++ encI zs) _ htag hn6 hc6 hA6.out (by rw [← hn6.out, List.length_append, h.out.len, hn2.out]; have := HEL.out; omega) (hid (fun x hx => by
    rcases List.mem_append.1 hx with h' | h'
    ·exact h.out.bytes x h'
    ·exact encI_bytes zs x h')) (hid (hT.out.below HB5.out)) HR6).mono ?_
   rintro e w5 ⟨rfl, hb5⟩
   have HB6 := hid (HB5.out.trans (hb5.mono HB5.out.size))
   have HD5 := hid ((hb5.block w.heap.size (Array.getElem?_eq_some_iff.1 HD4.out).1).trans HD4.out)
   have HE : Hid (dgV (tagged (strL tag) (l ++ encI zs)) = dgV (hashT (strL tag) l zs)) := hid rfl
   have HLH : Hid ((hashT (strL tag) l zs).length = 32) := hid (tagged_length _ _)
   rw [HE.out]
   obtain ⟨X, HX⟩ : ∃ X, Hid (((hashT (strL tag) l zs).map fun x => Value.int .u8 (x : Nat)).toArray = X) := ⟨_, hid rfl⟩
   have HEX : Hid (dgV (hashT (strL tag) l zs) = .agg X) := hid (by unfold dgV; rw [HX.out])
   have hXs : Hid (32 = X.size) := hid (by rw [← HX.out]; simp [HLH.out])
   have hsz : Hid ((Tryz.prog.info? 25).map (·.size) = some X.size) := hid (by rw [← HX.out]; exact size32 _ HLH.out)
   have hone : Hid (X.all (·.oneCell') = true) := hid (by rw [← HX.out]; exact oneCells _)
   rw [HEX.out]
   clear hb5
   go_wp2_with (refine wpList_store_row rfl 25 (.tmp 6) (.tmp 37) rfl w.heap.size X rfl rfl 25 _ HD5.out hsz.out hXs.out hone.out ?_)
   refine bodyPost_ret (results_cell_row rfl _ _ w.heap.size 25 _ (0, 0) _ rfl (setRow_heap w5 w.heap.size _ _ _ _ HD5.out) Tryz.underlying25 rfl hsz.out) rfl ?_
   exact ⟨by rw [HEX.out], below_setRow HB6.out (Nat.le_refl _) _⟩
end Go.Proofs.YtmfmgeapecapiaaGreatDoor
namespace Go.Proofs.SzTree
open SzSha
set_option linter.unusedVariables false
/-- from the root downwards, the parts beside the way to a leaf: whether on the right side, from, to -/
def wayF : Nat → Nat → Nat → Nat → List (Bool × Nat × Nat)
 | 0, _, _, _ => []
 | f + 1, i, a, b => if b - a ≤ 1 then [] else if i < a + half (b - a) then (true, a + half (b - a), b) :: wayF f i a (a + half (b - a)) else (false, a, a + half (b - a)) :: wayF f i (a + half (b - a)) b
def way (i n : Nat) : List (Bool × Nat × Nat) := wayF n i 0 n
end Go.Proofs.SzTree
namespace Go.Proofs.YtmfmgeapecapiaaGreatDoor
open Go.RowKit SzSha SzTree
set_option linter.unusedVariables false
set_option maxRecDepth 100000
/-- a node's cells -/
def ndC (n : Nd) : List Value := (n.d.map fun x => Value.int .u8 (x : Nat)) ++ [.int .i64 n.c, .int .i64 n.p]
def ndV (n : Nd) : Value := .agg (ndC n).toArray
/-- a node as it comes -/
structure NdOk (n : Nd) : Prop where
 len : n.d.length = 32
 bytes : Bytes n.d
 c : -9223372036854775808 ≤ n.c ∧ n.c ≤ 9223372036854775807
 p : -9223372036854775808 ≤ n.p ∧ n.p ≤ 9223372036854775807
theorem ndC_length {n : Nd} (h : NdOk n) : (ndC n).length = 34 := by simp [ndC, h.len]
theorem ndC_c {n : Nd} (h : NdOk n) : (ndC n)[32]? = some (.int .i64 n.c) := by
 unfold ndC; rw [List.getElem?_append_right (by simp [h.len])]; simp [h.len]
theorem ndC_p {n : Nd} (h : NdOk n) : (ndC n)[33]? = some (.int .i64 n.p) := by
 unfold ndC; rw [List.getElem?_append_right (by simp [h.len])]; simp [h.len]
theorem ndC_one (n : Nd) : (ndC n).toArray.all (·.oneCell') = true := by
 rw [Array.all_eq_true_iff_forall_mem]
 intro v hv
 simp only [ndC, List.mem_toArray, List.mem_append, List.mem_map, List.mem_cons, List.not_mem_nil, or_false] at hv
 rcases hv with ⟨x, _, rfl⟩ | rfl | rfl <;> rfl
theorem size34 {n : Nd} (h : NdOk n) : (Tryz.prog.info? 39).map (·.size) = some (ndC n).length := by
 rw [ndC_length h]; show _ = _; kernel_rfl
def flatN (ls : List Nd) : List Value := ls.flatMap ndC
theorem flatN_get : ∀ (ls : List Nd), (∀ n ∈ ls, NdOk n) → ∀ (i : Nat) (hi : i < ls.length) (j : Nat) (v : Value), (ndC ls[i])[j]? = some v → (flatN ls)[i * 34 + j]? = some v
 | [], _, i, hi, _, _, _ => by simp at hi
 | n :: ls, ho, 0, _, j, v, h => by
  have hj : j < (ndC n).length := (List.getElem?_eq_some_iff.1 h).1
  show ((n :: ls).flatMap ndC)[0 * 34 + j]? = _
  rw [List.flatMap_cons, Nat.zero_mul, Nat.zero_add, List.getElem?_append_left hj]
  exact h
 | n :: ls, ho, i + 1, hi, j, v, h => by
  have ih := flatN_get ls (fun m hm => ho m (List.mem_cons_of_mem _ hm)) i (by simpa using hi) j v h
  have hl := ndC_length (ho n (by simp))
  show ((n :: ls).flatMap ndC)[(i + 1) * 34 + j]? = _
  rw [List.flatMap_cons, List.getElem?_append_right (by omega), hl, show (i + 1) * 34 + j - 34 = i * 34 + j by omega]
  exact ih
/-- a slice of nodes that came in -/
structure InN (w : World) (A : Option Addr) (n c : Nat) (ls : List Nd) : Prop where
 len : ls.length = n
 cap : n ≤ c
 none_ : A = none → c = 0
 ok : ∀ x ∈ ls, NdOk x
 rd : 0 < ls.length → ∃ g off, A = some ⟨g, off, none⟩ ∧ g < w.heap.size ∧ w.rangeAt g off (flatN ls)
theorem rangeAt_below {w w' : World} {g off : Nat} {cs : List Value} (h : w.rangeAt g off cs) (hg : g < w.heap.size) (hb : Below w.heap.size w w') : w'.rangeAt g off cs := fun j v hj => (hb.cell (p := ⟨g, _, none⟩) hg).trans (h j v hj)
theorem InN.below {w w' : World} {A : Option Addr} {n c : Nat} {ls : List Nd} (h : InN w A n c ls) (hb : Below w.heap.size w w') : InN w' A n c ls :=
 ⟨h.len, h.cap, h.none_, h.ok, fun h0 => by
  obtain ⟨g, off, e, hg, hr⟩ := h.rd h0
  exact ⟨g, off, e, Nat.lt_of_lt_of_le hg hb.size, rangeAt_below hr hg hb⟩⟩
theorem range_one {w : World} {g off : Nat} {ls : List Nd} (h : w.rangeAt g off (flatN ls)) (ho : ∀ n ∈ ls, NdOk n) (i : Nat) (hi : i < ls.length) : w.rangeAt g (off + i * 34) (ndC ls[i]) := fun j v hj => by
 have := h (i * 34 + j) v (flatN_get ls ho i hi j v hj)
 rwa [← Nat.add_assoc] at this
theorem built_node (d : List Nat) (h : d.length = 32) (c p : Int) : Tryz.prog.built 39 [(0, dgV d), (1, .int .i64 c), (2, .int .i64 p)] = some (ndC ⟨d, c, p⟩).toArray := by
 rcases d with _ | ⟨x0, d⟩
 ·simp at h
 rcases d with _ | ⟨x1, d⟩
 ·simp at h
 rcases d with _ | ⟨x2, d⟩
 ·simp at h
 rcases d with _ | ⟨x3, d⟩
 ·simp at h
 rcases d with _ | ⟨x4, d⟩
 ·simp at h
 rcases d with _ | ⟨x5, d⟩
 ·simp at h
 rcases d with _ | ⟨x6, d⟩
 ·simp at h
 rcases d with _ | ⟨x7, d⟩
 ·simp at h
 rcases d with _ | ⟨x8, d⟩
 ·simp at h
 rcases d with _ | ⟨x9, d⟩
 ·simp at h
 rcases d with _ | ⟨x10, d⟩
 ·simp at h
 rcases d with _ | ⟨x11, d⟩
 ·simp at h
 rcases d with _ | ⟨x12, d⟩
 ·simp at h
 rcases d with _ | ⟨x13, d⟩
 ·simp at h
 rcases d with _ | ⟨x14, d⟩
 ·simp at h
 rcases d with _ | ⟨x15, d⟩
 ·simp at h
 rcases d with _ | ⟨x16, d⟩
 ·simp at h
 rcases d with _ | ⟨x17, d⟩
 ·simp at h
 rcases d with _ | ⟨x18, d⟩
 ·simp at h
 rcases d with _ | ⟨x19, d⟩
 ·simp at h
 rcases d with _ | ⟨x20, d⟩
 ·simp at h
 rcases d with _ | ⟨x21, d⟩
 ·simp at h
 rcases d with _ | ⟨x22, d⟩
 ·simp at h
 rcases d with _ | ⟨x23, d⟩
 ·simp at h
 rcases d with _ | ⟨x24, d⟩
 ·simp at h
 rcases d with _ | ⟨x25, d⟩
 ·simp at h
 rcases d with _ | ⟨x26, d⟩
 ·simp at h
 rcases d with _ | ⟨x27, d⟩
 ·simp at h
 rcases d with _ | ⟨x28, d⟩
 ·simp at h
 rcases d with _ | ⟨x29, d⟩
 ·simp at h
 rcases d with _ | ⟨x30, d⟩
 ·simp at h
 rcases d with _ | ⟨x31, d⟩
 ·simp at h
 rcases d with _ | ⟨y, d⟩
 ·clear h
  kernel_rfl
 ·simp at h
theorem nd_cells (n : Nd) : (ndV n).cells = (ndC n).toArray := rfl
/-- append of bytes behind a slice without room -/
theorem wpList_append_full {w : World} {ops : Array Oper} {rest : List Oper} {o : Oper} {a : Act} {Q : Exit → Act → World → Prop} (hgd : o.guard = none) (s x : Operand)
  (ho : o.op = .call { callee := .builtin .append, args := #[s, x], argTypes := #[143, 143] })
  (g n gx m c : Nat) (l r : List Nat) (hs : a.eval s = .slice (some ⟨g, 0, none⟩) n n) (hx : a.eval x = .slice (some ⟨gx, 0, none⟩) m c) (hl : l.length = n) (hr : r.length = m)
  (hbl : Hid (BytesAt w g 0 l)) (hbr : Hid (BytesAt w gx 0 r)) (hm : 0 < m) (hlen : n + m ≤ 1000000)
  (h : ∀ v' w', Hid (OwnB w' w.heap.size v' (l ++ r)) → Hid (Below w.heap.size w w') → wpList Tryz.prog ops Q rest (a.put o.dst v') w') : wpList Tryz.prog ops Q (o :: rest) a w := by
 obtain ⟨i0, hi, hz0, hz1, hz2⟩ := info_parts info_u8
 have cells : ∀ (q : Nat) (z : List Nat), BytesAt w q 0 z → ∀ j v, (z.map fun x => Value.int .u8 (x : Nat))[j]? = some v → w.cell? ((⟨q, 0, none⟩ : Addr).add j) = some v := fun q z hz j v hv => by
  have hj : j < z.length := by have := (List.getElem?_eq_some_iff.1 hv).1; simpa using this
  have h1 := hz j hj
  rw [Nat.zero_add] at h1
  rw [add_row, Nat.zero_add, h1, ← hv, List.getElem?_map, List.getD_eq_getElem?_getD, List.getElem?_eq_getElem hj]; rfl
 have hrun := run_append_grow (P := Tryz.prog) w 143 o.type 5 i0 (.int .u8 0) Tryz.underlying143 hi hz0 ⟨g, 0, none⟩ n n (l.map fun x => Value.int .u8 (x : Nat)) (by rw [hz1]; simp [hl]) (cells g l hbl.out) ⟨gx, 0, none⟩ m c (r.map fun x => Value.int .u8 (x : Nat)) (by rw [hz1]; simp [hr]) (cells gx r hbr.out) (by omega) (by omega) (growslice_fits (by omega) (by rw [hz2]; omega))
 have hge := grownCap_ge w (n + m) n 5
 have hcm := grownCap_le_maxLen w (n + m) n 5 (by unfold maxLen; omega)
 refine Lib.wpList_append_run w hgd s x _ _ ho _ _ hs hx _ _ hrun ?_
 refine h _ _ (hid ⟨by simp, .inr ⟨w.heap.size, grownCap w (n + m) n 5, _, by rw [List.length_append, hl, hr], Nat.le_refl _, heap_alloc_new w.drew _, by rw [List.length_append, hl, hr]; exact hge, hcm, ?_, ?_⟩⟩) (hid ((Below.refl _ w).drew.alloc (Nat.le_refl _) _))
 ·simp only [Array.size_append, List.size_toArray, List.length_map, size_zeroCells, hl, hr]
  simp [Value.cells]
  omega
 ·rw [List.length_append, hl, hr, Nat.mul_one, List.map_append]
  simp only [Array.toList_append, List.append_assoc]
  rw [← List.append_assoc, List.take_left' (by simp [hl, hr])]
/-- a struct literal of a node -/
theorem wpList_build_node {w : World} {ops : Array Oper} {rest : List Oper} {o : Oper} {a : Act} {Q : Exit → Act → World → Prop} (hg : o.guard = none) (x y z : Operand)
  (ho : o.op = .build 39 #[(0, x), (1, y), (2, z)]) (d : List Nat) (c p : Int) (hd : d.length = 32) (hx : a.eval x = dgV d) (hy : a.eval y = .int .i64 c) (hz : a.eval z = .int .i64 p)
  (h : wpList Tryz.prog ops Q rest (a.put o.dst (ndV ⟨d, c, p⟩)) w) : wpList Tryz.prog ops Q (o :: rest) a w := by
 have e1 : (#[(0, x), (1, y), (2, z)].map fun (i, x) => (i, a.eval x)).toList = [(0, dgV d), (1, .int .i64 c), (2, .int .i64 p)] := by simp [hx, hy, hz]
 refine wpList_build hg 39 _ ho (by rw [e1, built_node d hd c p]; rfl) ?_
 rw [e1, built_node d hd c p]
 exact h
theorem range_row {w : World} {g t : Nat} {cs : List Value} (h : w.heap[g]? = some (.cells cs.toArray t (0, 0))) : w.rangeAt g 0 cs := fun j v hj => by
 rw [Nat.zero_add, cell_of_row w g j _ _ _ h]; simpa using hj
def saltTag : ByteArray := ⟨#[115, 97, 108, 116]⟩
def saltT : List Nat := [115, 97, 108, 116]
theorem saltTag_eq : strL saltTag = saltT := rfl
/-- the salt of a leaf -/
def saltN (l : List Nat) (k at_ : Int) : List Nat := hashT saltT l [k, at_]
theorem saltN_length (l : List Nat) (k at_ : Int) : (saltN l k at_).length = 32 := tagged_length _ _
theorem salt_d (l : List Nat) (k z : Int) : dgV (hashT (strL saltTag) l [k, z]) = dgV (saltN l k z) := by rw [saltTag_eq]; simp only [saltN]
theorem two_rows2 (w : World) (X Y : Array Value) (t : Nat) (o : Obj) : Below w.heap.size w (((w.alloc (.cells X t)).alloc (.cells Y t)).alloc o) ∧ (((w.alloc (.cells X t)).alloc (.cells Y t)).alloc o).heap[w.heap.size]? = some (.cells X t (0, 0)) ∧ (((w.alloc (.cells X t)).alloc (.cells Y t)).alloc o).heap[w.heap.size + 1]? = some (.cells Y t (0, 0)) ∧ (((w.alloc (.cells X t)).alloc (.cells Y t)).alloc o).heap[w.heap.size + 1 + 1]? = some o ∧ (((w.alloc (.cells X t)).alloc (.cells Y t)).alloc o).heap.size = w.heap.size + 1 + 1 + 1 := by
 have h1 := heap_alloc_new (w.alloc (.cells X t)) (.cells Y t)
 have h2 := heap_alloc_new ((w.alloc (.cells X t)).alloc (.cells Y t)) o
 simp only [World.size_alloc] at h1 h2
 exact ⟨(((Below.refl _ w).alloc (Nat.le_refl _) _).alloc (by simp) _).alloc (by simp; omega) _, by rw [Below.heap_alloc _ _ _ (by simp; omega), Below.heap_alloc _ _ _ (by simp)]; exact heap_alloc_new w _, by rw [Below.heap_alloc _ _ _ (by simp)]; exact h1, h2, by simp⟩
theorem salt_any (l : List Nat) (k z : Int) (w : World) (hl : Hid (l.length = 32)) (hb : Hid (Bytes l)) (hk1 : -9223372036854775808 ≤ k) (hk2 : k ≤ 9223372036854775807) (hz1 : -9223372036854775808 ≤ z) (hz2 : z ≤ 9223372036854775807) (hT : Hid (Tabs w)) :
  Calls Tryz.prog 97 #[dgV l, .int .i64 k, .int .i64 z] w fun e w' => e = .returned (dgV (saltN l k z)) ∧ Below w.heap.size w w' := by
 have HZS : Hid (∀ y ∈ ([k, z] : List Int), -9223372036854775808 ≤ y ∧ y ≤ 9223372036854775807) := hid (fun y hy => by
  simp only [List.mem_cons, List.not_mem_nil, or_false] at hy
  rcases hy with rfl | rfl <;> omega)
 clear hk1 hk2 hz1 hz2
 obtain ⟨X, HX⟩ : ∃ X, Hid ((l.map fun x => Value.int .u8 (x : Nat)).toArray = X) := ⟨_, hid rfl⟩
 have e0 : dgV l = .agg X := by unfold dgV; rw [HX.out]
 rw [e0]
 clear e0
 obtain ⟨t1, t2, t3, t4, t5⟩ := two_rows2 w X #[.int .u8 0, .int .u8 0, .int .u8 0, .int .u8 0, .int .u8 0, .int .u8 0, .int .u8 0, .int .u8 0, .int .u8 0, .int .u8 0, .int .u8 0, .int .u8 0, .int .u8 0, .int .u8 0, .int .u8 0, .int .u8 0, .int .u8 0, .int .u8 0, .int .u8 0, .int .u8 0, .int .u8 0, .int .u8 0, .int .u8 0, .int .u8 0, .int .u8 0, .int .u8 0, .int .u8 0, .int .u8 0, .int .u8 0, .int .u8 0, .int .u8 0, .int .u8 0] 25 (.cells #[.int .i64 k, .int .i64 z] 3)
 have T1 := hid t1
 have T3 := hid t3
 have T4 := hid t4
 have T5 := hid t5
 have HIN : Hid (In (((w.alloc (.cells X 25)).alloc (.cells #[.int .u8 0, .int .u8 0, .int .u8 0, .int .u8 0, .int .u8 0, .int .u8 0, .int .u8 0, .int .u8 0, .int .u8 0, .int .u8 0, .int .u8 0, .int .u8 0, .int .u8 0, .int .u8 0, .int .u8 0, .int .u8 0, .int .u8 0, .int .u8 0, .int .u8 0, .int .u8 0, .int .u8 0, .int .u8 0, .int .u8 0, .int .u8 0, .int .u8 0, .int .u8 0, .int .u8 0, .int .u8 0, .int .u8 0, .int .u8 0, .int .u8 0, .int .u8 0] 25)).alloc (.cells #[.int .i64 k, .int .i64 z] 3)) (some ⟨w.heap.size, 0, none⟩) 32 32 l) := hid ⟨hl.out, Nat.le_refl _, (fun h => by cases h), hb.out, fun _ => ⟨_, 0, rfl, by rw [t5]; omega, bytesAt_arr (by rw [HX.out]; exact t2)⟩⟩
 clear t1 t2 t3 t4 t5
 go_enter Tryz.func97, Tryz.ntmps97
 go_wp2_with fail
 refine (thash_any saltTag [k, z] (w.heap.size + 1 + 1) 2 2 _ 32 32 l _ (by decide) HZS rfl (by omega) (hid (fun i hi => ?_)) (by rw [T5.out]; omega) (by omega) (hid (hT.out.below T1.out)) HIN).mono ?_
 ·have : i = 0 ∨ i = 1 := by omega
  rcases this with rfl | rfl <;> (rw [cell_of_row _ _ _ _ _ _ T4.out]; rfl)
 rintro e w2 ⟨rfl, hq⟩
 rw [salt_d]
 have HB2 := hid (T1.out.trans (hq.mono T1.out.size))
 have HR2 := hid ((hq.block (w.heap.size + 1) (by rw [T5.out]; omega)).trans T3.out)
 obtain ⟨Y, HY⟩ : ∃ Y, Hid (((saltN l k z).map fun x => Value.int .u8 (x : Nat)).toArray = Y) := ⟨_, hid rfl⟩
 have HEX : Hid (dgV (saltN l k z) = .agg Y) := hid (by unfold dgV; rw [HY.out])
 have hYs : Hid (32 = Y.size) := hid (by rw [← HY.out]; simp [saltN_length])
 have hsz : Hid ((Tryz.prog.info? 25).map (·.size) = some Y.size) := hid (by rw [← HY.out]; exact size32 _ (saltN_length _ _ _))
 have hone : Hid (Y.all (·.oneCell') = true) := hid (by rw [← HY.out]; exact oneCells _)
 rw [HEX.out]
 clear hq
 go_wp2_with (refine wpList_store_row rfl 25 (.tmp 6) (.tmp 11) rfl (w.heap.size + 1) Y rfl rfl 25 _ HR2.out hsz.out hYs.out hone.out ?_)
 refine bodyPost_ret (results_cell_row rfl _ _ (w.heap.size + 1) 25 _ (0, 0) _ rfl (setRow_heap w2 (w.heap.size + 1) _ _ _ _ HR2.out) Tryz.underlying25 rfl hsz.out) rfl ?_
 exact ⟨by rw [HEX.out], below_setRow HB2.out (Nat.le_succ _) _⟩
end Go.Proofs.YtmfmgeapecapiaaGreatDoor
