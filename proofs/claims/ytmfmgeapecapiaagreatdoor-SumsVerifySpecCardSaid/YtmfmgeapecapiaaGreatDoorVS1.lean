/- sizar/digest: (*state).absorb adds a block to the state. sizar/digest.Sum returns the hash of the bytes; what was in memory stays. Rows of bytes that a call owns: append, slices.Grow of nil. sizar/codec: numeral, unsigned. A region that draws its order, walked once per operation: each operation's value meets a fact of its own, whatever came before it. One proof for all orders. region_flow2: a region that draws, walked once per operation; a fact is kept only while someone still needs it. -/
import Derived.Deep.QuietTactic
import Derived.BigQuiet
import Derived.StillTailTactics
import Derived.Deep.RegionLaw
import Derived.Test.YtmfmgeapecapiaaGreatDoorVS0
import Derived.Laws.Rows
import Derived.Laws.Tables
import Derived.Laws.MakeOwn
import Derived.Maps.AppendAt
import Derived.Laws.AppendOwnNone
import Derived.Lib.AppendZerosOnto
import Derived.Lib.Walk
import Derived.IntWalk
import Derived.StillTail
import Derived.Deep.Quiet
set_option maxHeartbeats 64000001
open Go.Lib (hid)
namespace Go.Proofs.YtmfmgeapecapiaaGreatDoor
open Go.RowKit SzSha
set_option linter.unusedVariables false
/-- the table K lies where the program reads it -/
def TabK (w : World) : Prop := ∀ t, t < 64 → w.cell? ⟨1, t, none⟩ = some (.int .u32 (kf t : Nat))
/-- a row of bytes -/
def BytesAt (w : World) (g off : Nat) (l : List Nat) : Prop := ∀ i, i < l.length → w.cell? ⟨g, off + i, none⟩ = some (.int .u8 (l.getD i 0 : Nat))
def schF (l : List Nat) (k j : Nat) : Value := .int .u32 ((if j < k then wt l j else 0 : Nat))
def stF (v : Nat → Nat) (j : Nat) : Value := .int .u32 (v j : Nat)
def blF (l : List Nat) (s : Nat → Nat) (k j : Nat) : Value := .int .u32 ((if j < k then block s l j else s j : Nat))
theorem wordN_word (l : List Nat) (k : Nat) : wordN (fun i => l.getD (4 * k + i) 0) 4 = word l k := by
 simp [wordN, word]
theorem xor3 (a b c : Nat) (ha : a < 4294967296) (hb : b < 4294967296) (hc : c < 4294967296) : bits .xor .u32 (bits .xor .u32 (a : Int) (b : Int)) (c : Int) = (((a ^^^ b) ^^^ c : Nat) : Int) := by
 rw [u32_xor_nat a b ha hb, u32_xor_nat _ c (SzSha.xor_lt ha hb) hc]
theorem sch_end (d x f y : Nat) (hx : x < 4294967296) (hy : y < 4294967296) : ((d : Int) + bits .xor .u32 (bits .xor .u32 (ror x 7 : Nat) (ror x 18 : Nat)) ((x : Int) / 8) + (f : Int) + bits .xor .u32 (bits .xor .u32 (ror y 17 : Nat) (ror y 19 : Nat)) ((y : Int) / 1024)) % 4294967296 = (add (add (add d (sg0 x)) f) (sg1 y) : Nat) := by
 have e1 := xor3 (ror x 7) (ror x 18) (x / 8) (ror_lt _ _ hx) (ror_lt _ _ hx) (div_lt _ hx)
 have e2 := xor3 (ror y 17) (ror y 19) (y / 1024) (ror_lt _ _ hy) (ror_lt _ _ hy) (div_lt _ hy)
 have c1 : ((x : Int) / 8) = ((x / 8 : Nat) : Int) := by omega
 have c2 : ((y : Int) / 1024) = ((y / 1024 : Nat) : Int) := by omega
 rw [c1, c2, e1, e2]
 show _ = ((add (add (add d (sg0 x)) f) (sg1 y) : Nat) : Int)
 change ((d : Int) + (sg0 x : Nat) + (f : Int) + (sg1 y : Nat)) % 4294967296 = _
 unfold add
 omega
theorem addI (a b : Nat) : ((a : Int) + (b : Int)) % 4294967296 = (add a b : Nat) := by unfold add; omega
theorem add_row (b o j : Nat) : (⟨b, o, none⟩ : Addr).add j = ⟨b, o + j, none⟩ := by
 unfold Addr.add
 split
 ·rename_i h; rw [h]; rfl
 ·rfl
theorem blF_set (l : List Nat) (s : Nat → Nat) (k : Nat) : (fun j => if j = k then Value.int .u32 (block s l k : Nat) else blF l s k j) = blF l s (k + 1) := by
 funext j
 unfold blF
 by_cases e : j = k
 ·rw [if_pos e, if_pos (by omega), e]
 ·rw [if_neg e]
  by_cases e2 : j < k
  ·rw [if_pos e2, if_pos (by omega)]
  ·rw [if_neg e2, if_neg (by omega)]
theorem rp_end (v : Nat → Nat) (k w : Nat) (h : Words v) :
  IntKind.u32.wrap (IntKind.u32.wrap (IntKind.u32.wrap (IntKind.u32.wrap ((v 7 : Int) + (rot3 (v 4) 6 11 25 : Nat)) + bits .xor .u32 (v 6 : Nat) (bits .and .u32 (v 4 : Nat) (bits .xor .u32 (v 5 : Nat) (v 6 : Nat)))) + (k : Int)) + (w : Int)) = (rp v k w : Nat) := by
 rw [u32_xor_nat _ _ (h 5 (by omega)) (h 6 (by omega)), u32_and_nat _ _ (h 4 (by omega)) (SzSha.xor_lt (h 5 (by omega)) (h 6 (by omega))), u32_xor_nat _ _ (h 6 (by omega)) (SzSha.and_lt (h 4 (by omega)))]
 change IntKind.u32.wrap (IntKind.u32.wrap (IntKind.u32.wrap (IntKind.u32.wrap ((v 7 : Int) + (rot3 (v 4) 6 11 25 : Nat)) + (ch (v 4) (v 5) (v 6) : Nat)) + (k : Int)) + (w : Int)) = _
 simp only [IntKind.wrap_u32', rp, add]
 omega
theorem rq_end (v : Nat → Nat) (h : Words v) :
  IntKind.u32.wrap ((rot3 (v 0) 2 13 22 : Nat) + bits .or .u32 (bits .and .u32 (v 0 : Nat) (v 1 : Nat)) (bits .and .u32 (v 2 : Nat) (bits .or .u32 (v 0 : Nat) (v 1 : Nat)))) = (rq v : Nat) := by
 rw [u32_and_nat _ _ (h 0 (by omega)) (h 1 (by omega)), u32_or_nat _ _ (h 0 (by omega)) (h 1 (by omega)), u32_and_nat _ _ (h 2 (by omega)) (SzSha.or_lt (h 0 (by omega)) (h 1 (by omega))), u32_or_nat _ _ (SzSha.and_lt (h 0 (by omega))) (SzSha.and_lt (h 2 (by omega)))]
 change IntKind.u32.wrap ((rot3 (v 0) 2 13 22 : Nat) + (maj (v 0) (v 1) (v 2) : Nat)) = _
 simp only [IntKind.wrap_u32', rq, add]
 omega
theorem rnd_row (v : Nat → Nat) (k w : Nat) (j : Nat) (hj : j < 8) :
  (if j = 0 then Value.int .u32 (add (rp v k w) (rq v) : Nat) else if j = 4 then Value.int .u32 (add (v 3) (rp v k w) : Nat) else overF 1 7 (stF v) (stF v) j) = stF (rnd v k w) j := by
 unfold stF rnd overF
 by_cases e0 : j = 0
 ·rw [if_pos e0, if_pos e0]
 ·rw [if_neg e0, if_neg e0]
  by_cases e4 : j = 4
  ·rw [if_pos e4, if_pos e4]
  ·rw [if_neg e4, if_neg e4, if_pos (by omega)]
theorem schF_set (l : List Nat) (k : Nat) : (fun j => if j = k then Value.int .u32 (wt l k : Nat) else schF l k j) = schF l (k + 1) := by
 funext j
 unfold schF
 by_cases e : j = k
 ·rw [if_pos e, if_pos (by omega), e]
 ·rw [if_neg e]
  by_cases e2 : j < k
  ·rw [if_pos e2, if_pos (by omega)]
  ·rw [if_neg e2, if_neg (by omega)]
set_option maxRecDepth 100000 in
theorem absorb_any (gs T gb off c : Nat) (s : Nat → Nat) (l : List Nat) (w : World) (hl : Hid (l.length = 64)) (hb : Hid (Bytes l)) (hs : Hid (Words s)) (hc : 64 ≤ c) (hgs : Hid (w.rowIs gs T 8 (stF s)))
  (hgb : gb < w.heap.size) (hne : gb ≠ gs) (hkk : 1 < w.heap.size) (hnk : 1 ≠ gs) (hK : Hid (TabK w)) (hL : Hid (BytesAt w gb off l)) :
  Calls Tryz.prog 149 #[.pointer (some ⟨gs, 0, none⟩), .slice (some ⟨gb, off, none⟩) 64 c] w fun e w' => (∃ v, e = .returned v) ∧ w'.rowIs gs T 8 (stF (block s l)) ∧ w.grownBy w' (some gs) := by
 have hgl := hgs.out.lt
 go_enter Tryz.func149, Tryz.ntmps149
 go_wp2_with fail
 go_loopw [14] (fun i wr => ∃ k : Nat, k ≤ 16 ∧ i = .int .i64 k ∧ Hid (wr.rowIs w.heap.size 205 64 (schF l k)) ∧ Hid (Below w.heap.size w wr)) (fun i _ => 16 - (intOf i).toNat)
 case atStart => exact ⟨0, by omega, rfl, hid (World.rowIs_alloc w _ _ _ (fun i hi => by
   have : ∀ j : Fin 64, (Array.replicate 64 (Value.int .u32 0))[j.val]? = some (schF l 0 j.val) := fun j => by simp [schF]
   exact this ⟨i, hi⟩)), hid ((Below.refl _ _).alloc (Nat.le_refl _) _)⟩
 case round =>
  obtain ⟨k, hk1, rfl, hr, hg⟩ := hrel
  by_cases hlt : k < 16
  ·have hcell := hr.out.cell (i := k) (by omega)
   have hfr := hr.out.frozen k
   have HX : Hid (∀ i, i < 4 → wr.cell? ⟨gb, off + 4 * k + i, none⟩ = some (.int .u8 (l.getD (4 * k + i) 0 : Nat))) := hid fun i hi => by
    rw [Nat.add_assoc]
    exact (hg.out.cell (p := ⟨gb, off + (4 * k + i), none⟩) hgb).trans (hL.out _ (by have := hl.out; omega))
   have hgg := hg.out.size
   go_wp2_with fail
   refine (word_any gb (off + 4 * k) (64 - 4 * k) (c - 4 * k) (fun i => l.getD (4 * k + i) 0) _ (by omega) (by omega) (fun i _ => hb.out.getD _) HX).mono ?_
   rintro e w1 ⟨rfl, rfl⟩
   rw [wordN_word, ← wt_low l k hlt]
   go_wp2_with fail
   go_roundw
   case rel => exact ⟨k + 1, by omega, by go_num, hid (by rw [← schF_set]; exact hr.out.set _ _), hid (hg.out.setCell (p := ⟨w.heap.size, k, none⟩) (Nat.le_refl _) _)⟩
   case measure => simp [intOf]; omega
  ·have hr16 : Hid (wr.rowIs w.heap.size 205 64 (schF l 16)) := by have := hr; rw [show k = 16 by omega] at this; exact this
   have d16 : decide ((k : Int) < 16) = false := dQ (by omega)
   go_wp2_with fail
   go_loopw [6] (fun i wr => ∃ k : Nat, 16 ≤ k ∧ k ≤ 64 ∧ i = .int .i64 k ∧ Hid (wr.rowIs w.heap.size 205 64 (schF l k)) ∧ Hid (Below w.heap.size w wr)) (fun i _ => 64 - (intOf i).toNat)
   case atStart => exact ⟨16, by omega, by omega, rfl, hr16, hg⟩
   case round =>
    clear hr hg hr16 hlt
    obtain ⟨k, hk0, hk, rfl, hr, hg⟩ := hrel
    by_cases hlt : k < 64
    ·obtain ⟨d, hd⟩ : ∃ d, d + 16 = k := ⟨k - 16, by omega⟩
     obtain ⟨a, ha⟩ : ∃ a, a + 15 = k := ⟨k - 15, by omega⟩
     obtain ⟨f, hf⟩ : ∃ f, f + 7 = k := ⟨k - 7, by omega⟩
     obtain ⟨b, hb2⟩ : ∃ b, b + 2 = k := ⟨k - 2, by omega⟩
     have hcell := hr.out.cell (i := k) (by omega)
     have hfr := hr.out.frozen k
     have c15 := hr.out.cell (i := a) (by omega)
     have c2 := hr.out.cell (i := b) (by omega)
     have c16 := hr.out.cell (i := d) (by omega)
     have c7 := hr.out.cell (i := f) (by omega)
     unfold schF at c15 c2 c16 c7
     rw [if_pos (by omega)] at c15 c2 c16 c7
     have a64 : (a : Int) < 64 := by omega
     have b64 : (b : Int) < 64 := by omega
     have d64 : (d : Int) < 64 := by omega
     have f64 : (f : Int) < 64 := by omega
     have k64 : (k : Int) < 64 := by omega
     have e15 : IntKind.i64.wrap ((k : Int) - 15) = (a : Int) := by rw [IntWalk.i64_in _ (by omega)]; omega
     have e2 : IntKind.i64.wrap ((k : Int) - 2) = (b : Int) := by rw [IntWalk.i64_in _ (by omega)]; omega
     have e16 : IntKind.i64.wrap ((k : Int) - 16) = (d : Int) := by rw [IntWalk.i64_in _ (by omega)]; omega
     have e7 : IntKind.i64.wrap ((k : Int) - 7) = (f : Int) := by rw [IntWalk.i64_in _ (by omega)]; omega
     have hW := hid (wt_high l k hk0 hlt)
     have HD := hid hd
     have HA := hid ha
     have HF := hid hf
     have HB := hid hb2
     clear hd ha hf hb2
     go_wp2_with fail
     refine wp_region_still_lit (by kernel_rfl) (by kernel_rfl) ?_
     repeat still_step
     refine wpStill_nil ?_
     change Exit.then _ _ _ _ wr.drew
     have hr2 : Hid (wr.drew.rowIs w.heap.size 205 64 (schF l k)) := hr
     have hg2 : Hid (Below w.heap.size w wr.drew) := hid hg.out.drew
     generalize wr.drew = w2 at *
     clear hr hg c15 c2 c16 c7 hcell hfr
     go_wp2_with fail
     refine wp_region_still_tail 29 (by kernel_rfl) (by kernel_rfl) ?_
     change wpStill _ _ w2.drew (fun a' => wpList _ _ _ _ a' w2.drew) _ _
     have hr3 : Hid (w2.drew.rowIs w.heap.size 205 64 (schF l k)) := hr2
     have hg3 : Hid (Below w.heap.size w w2.drew) := hid hg2.out.drew
     generalize w2.drew = w3 at *
     clear hr2 hg2
     have hcell := hr3.out.cell (i := k) (by omega)
     have hfr := hr3.out.frozen k
     have c16 := hr3.out.cell (i := d) (by omega)
     have c7 := hr3.out.cell (i := f) (by omega)
     unfold schF at c16 c7
     rw [if_pos (by have := HD.out; omega)] at c16
     rw [if_pos (by have := HF.out; omega)] at c7
     have la := wt_lt hb.out a (by omega)
     have lb := wt_lt hb.out b (by omega)
     have SE := hid (sch_end (wt l d) (wt l a) (wt l f) (wt l b) la lb)
     have EW : Hid (wt l k = add (add (add (wt l d) (sg0 (wt l a))) (wt l f)) (sg1 (wt l b))) := hid (by
      rw [hW.out, show k - 16 = d by have := HD.out; omega, show k - 15 = a by have := HA.out; omega, show k - 7 = f by have := HF.out; omega, show k - 2 = b by have := HB.out; omega])
     simp only [List.take_succ_cons, List.take_zero, List.drop_succ_cons, List.drop_zero]
     repeat still_step
     still_call ((rotl_any (wt l a) 7 _ la (by omega) (by omega)).mono fun _ _ h => ⟨h.1, h.2.symm⟩)
     repeat still_step
     still_call ((rotl_any (wt l a) 18 _ la (by omega) (by omega)).mono fun _ _ h => ⟨h.1, h.2.symm⟩)
     repeat still_step
     still_call ((rotl_any (wt l b) 17 _ lb (by omega) (by omega)).mono fun _ _ h => ⟨h.1, h.2.symm⟩)
     repeat still_step
     still_call ((rotl_any (wt l b) 19 _ lb (by omega) (by omega)).mono fun _ _ h => ⟨h.1, h.2.symm⟩)
     repeat still_step
     refine wpStill_nil ?_
     go_wp2_with fail
     go_roundw
     case rel =>
      rw [SE.out, ← EW.out]
      exact ⟨k + 1, by omega, by omega, by go_num, hid (by rw [← schF_set]; exact hr3.out.set _ _), hid (hg3.out.setCell (p := ⟨w.heap.size, k, none⟩) (Nat.le_refl _) _)⟩
     case measure => simp [intOf]; omega
    ·have hr64 : Hid (wr.rowIs w.heap.size 205 64 (schF l 64)) := by have := hr; rw [show k = 64 by omega] at this; exact this
     have hgs0 : ∀ i, i < 8 → wr.cell? ⟨gs, i, none⟩ = some (.int .u32 (s i : Nat)) := fun i hi => (hg.out.cell (p := ⟨gs, i, none⟩) hgl).trans (hgs.out.cell hi)
     have s0 := hgs0 0 (by omega)
     have s1 := hgs0 1 (by omega)
     have s2 := hgs0 2 (by omega)
     have s3 := hgs0 3 (by omega)
     have s4 := hgs0 4 (by omega)
     have s5 := hgs0 5 (by omega)
     have s6 := hgs0 6 (by omega)
     have s7 := hgs0 7 (by omega)
     clear hgs0
     have d64 : decide ((k : Int) < 64) = false := dQ (by omega)
     go_wp2_with fail
     obtain ⟨w1, hw1⟩ : ∃ w1 : World, w1 = wr := ⟨_, rfl⟩
     have hrv : Hid ((wr.alloc (.cells #[.int .u32 (s 0 : Nat), .int .u32 (s 1 : Nat), .int .u32 (s 2 : Nat), .int .u32 (s 3 : Nat), .int .u32 (s 4 : Nat), .int .u32 (s 5 : Nat), .int .u32 (s 6 : Nat), .int .u32 (s 7 : Nat)] 191)).rowIs wr.heap.size 191 8 (stF s)) := hid (World.rowIs_alloc _ _ _ _ (fun i hi => by
      have hi' : i < 8 := hi
      match i, hi' with
      | 0, _ => rfl
      | 1, _ => rfl
      | 2, _ => rfl
      | 3, _ => rfl
      | 4, _ => rfl
      | 5, _ => rfl
      | 6, _ => rfl
      | 7, _ => rfl))
     have hlt1 := hr64.out.lt
     have hg1 := hid (hg.out.alloc hg.out.size (.cells #[.int .u32 (s 0 : Nat), .int .u32 (s 1 : Nat), .int .u32 (s 2 : Nat), .int .u32 (s 3 : Nat), .int .u32 (s 4 : Nat), .int .u32 (s 5 : Nat), .int .u32 (s 6 : Nat), .int .u32 (s 7 : Nat)] 191))
     have hr1 := hid (hr64.out.alloc (.cells #[.int .u32 (s 0 : Nat), .int .u32 (s 1 : Nat), .int .u32 (s 2 : Nat), .int .u32 (s 3 : Nat), .int .u32 (s 4 : Nat), .int .u32 (s 5 : Nat), .int .u32 (s 6 : Nat), .int .u32 (s 7 : Nat)] 191))
     subst hw1
     clear hr64 hg hr s0 s1 s2 s3 s4 s5 s6 s7
     go_loopw [69] (fun i wr => ∃ k : Nat, k ≤ 64 ∧ i = .int .i64 k ∧ Hid (wr.rowIs w.heap.size 205 64 (schF l 64)) ∧ Hid (wr.rowIs w1.heap.size 191 8 (stF (rounds l s k))) ∧ Hid (Below w.heap.size w wr)) (fun i _ => 64 - (intOf i).toNat)
     case atStart => exact ⟨0, by omega, rfl, hr1, hrv, hg1⟩
     case round =>
      clear hr1 hrv hg1
      obtain ⟨k, hk, rfl, hr, hv, hg⟩ := hrel
      by_cases hlt : k < 64
      ·go_wp2_with fail
       refine wp_region_still_lit (by kernel_rfl) (by kernel_rfl) ?_
       change wpStill _ _ wr.drew (fun a' => Exit.then _ _ _ a' wr.drew) _ _
       have hr2 : Hid (wr.drew.rowIs w.heap.size 205 64 (schF l 64)) := hr
       have hv2 : Hid (wr.drew.rowIs w1.heap.size 191 8 (stF (rounds l s k))) := hv
       have hg2 : Hid (Below w.heap.size w wr.drew) := hid hg.out.drew
       generalize wr.drew = w2 at *
       clear hr hv hg
       have k64 : (k : Int) < 64 := by omega
       have v7 := hv2.out.cell (i := 7) (by omega)
       have v4 := hv2.out.cell (i := 4) (by omega)
       have v5 := hv2.out.cell (i := 5) (by omega)
       have v6 := hv2.out.cell (i := 6) (by omega)
       have wk := hr2.out.cell (i := k) (by omega)
       have nk := (hg2.out.cell (p := ⟨1, k, none⟩) hkk).trans (hK.out k hlt)
       unfold stF at v7 v4 v5 v6
       unfold schF at wk
       rw [if_pos hlt] at wk
       have hWd := rounds_words hs.out l k
       have l4 := hWd 4 (by omega)
       repeat still_step
       still_call ((rotated_any (rounds l s k 4) 6 11 25 _ l4 (by omega) (by omega) (by omega) (by omega) (by omega) (by omega)).mono fun _ _ h => ⟨h.1, h.2.symm⟩)
       repeat still_step
       refine wpStill_nil ?_
       rw [rp_end _ _ _ hWd]
       clear v7 v4 v5 v6 wk nk l4 k64
       go_wp2_with fail
       refine wp_region_still_lit (by kernel_rfl) (by kernel_rfl) ?_
       change wpStill _ _ w2.drew (fun a' => Exit.then _ _ _ a' w2.drew) _ _
       have hr3 : Hid (w2.drew.rowIs w.heap.size 205 64 (schF l 64)) := hr2
       have hv3 : Hid (w2.drew.rowIs w1.heap.size 191 8 (stF (rounds l s k))) := hv2
       have hg3 : Hid (Below w.heap.size w w2.drew) := hid hg2.out.drew
       generalize w2.drew = w3 at *
       clear hr2 hv2 hg2
       have v0 := hv3.out.cell (i := 0) (by omega)
       have v1 := hv3.out.cell (i := 1) (by omega)
       have v2 := hv3.out.cell (i := 2) (by omega)
       unfold stF at v0 v1 v2
       have l0 := hWd 0 (by omega)
       repeat still_step
       still_call ((rotated_any (rounds l s k 0) 2 13 22 _ l0 (by omega) (by omega) (by omega) (by omega) (by omega) (by omega)).mono fun _ _ h => ⟨h.1, h.2.symm⟩)
       repeat still_step
       refine wpStill_nil ?_
       rw [rq_end _ hWd]
       clear v0 v1 v2 l0
       go_wp2_with fail
       refine wp_region_still_tail 2 (by kernel_rfl) (by kernel_rfl) ?_
       change wpStill _ _ w3.drew (fun a' => wpList _ _ _ _ a' w3.drew) _ _
       have hr4 : Hid (w3.drew.rowIs w.heap.size 205 64 (schF l 64)) := hr3
       have hv4 : Hid (w3.drew.rowIs w1.heap.size 191 8 (stF (rounds l s k))) := hv3
       have hg4 : Hid (Below w.heap.size w w3.drew) := hid hg3.out.drew
       generalize w3.drew = w4 at *
       clear hr3 hv3 hg3
       simp only [List.take_succ_cons, List.take_zero, List.drop_succ_cons, List.drop_zero]
       repeat still_step
       refine wpStill_nil ?_
       refine wpList_copy_rowIs rfl (.tmp 116) (.tmp 117) 209 209 rfl 188 Tryz.underlying209 (by kernel_rfl) w1.heap.size 1 7 7 (some ⟨w1.heap.size, 0, none⟩) 7 8 rfl rfl 191 8 _ hv4 7 rfl (stF (rounds l s k)) (fun _ => ⟨_, rfl, fun j hj => ?_⟩) (by omega) (fun _ _ => rfl) ?_
       ·have := hv4.out.cell (i := j) (by omega)
        rw [add_row, Nat.zero_add]; exact this
       intro w5 hv5 ho5
       have hr5 : Hid (w5.rowIs w.heap.size 205 64 (schF l 64)) := hid (rowIs_only hr4.out ho5.out (by omega))
       have hg5 : Hid (Below w.heap.size w w5) := hid (below_of_only hg4.out ho5.out hg4.out.size (by omega))
       clear hr4 hv4 hg4 ho5
       have x4 : w5.cell? ⟨w1.heap.size, 4, none⟩ = some (.int .u32 (rounds l s k 3 : Nat)) := hv5.out.cell (i := 4) (by omega)
       have f4 := hv5.out.frozen 4
       have f0 := hv5.out.frozen 0
       have x0 := hv5.out.cell (i := 0) (by omega)
       go_wp2_with fail
       go_roundw
       case rel =>
        rw [addI, addI]
        exact ⟨k + 1, by omega, by go_num, hid ((hr5.out.setOther (a := ⟨w1.heap.size, 4, none⟩) (by show w.heap.size ≠ w1.heap.size; omega) _).setOther (a := ⟨w1.heap.size, 0, none⟩) (by show w.heap.size ≠ w1.heap.size; omega) _),
         hid (((hv5.out.set 4 _).set 0 _).congr fun j hj => rnd_row _ _ _ j hj), hid ((hg5.out.setCell (p := ⟨w1.heap.size, 4, none⟩) (by show w.heap.size ≤ w1.heap.size; omega) _).setCell (p := ⟨w1.heap.size, 0, none⟩) (by show w.heap.size ≤ w1.heap.size; omega) _)⟩
       case measure => simp [intOf]; omega
      ·have hv64 : Hid (wr.rowIs w1.heap.size 191 8 (stF (rounds l s 64))) := by have := hv; rw [show k = 64 by omega] at this; exact this
       have hs0 : Hid (wr.rowIs gs T 8 (blF l s 0)) := hid ((rowIs_below hgs.out hg.out hgl).congr fun j hj => by unfold blF stF; rw [if_neg (by omega)])
       have ho0 : Hid (w.grownBy wr (some gs)) := hid (only_of_below hg.out _)
       clear hr hv hg
       have dk : decide ((k : Int) < 64) = false := dQ (by omega)
       go_wp2_with fail
       go_loopw [129] (fun i wr => ∃ k : Nat, k ≤ 8 ∧ i = .int .i64 k ∧ Hid (wr.rowIs w1.heap.size 191 8 (stF (rounds l s 64))) ∧ Hid (wr.rowIs gs T 8 (blF l s k)) ∧ Hid (w.grownBy wr (some gs))) (fun i _ => 8 - (intOf i).toNat)
       case atStart => exact ⟨0, by omega, rfl, hv64, hs0, ho0⟩
       case round =>
        clear hv64 hs0 ho0
        obtain ⟨k, hk, rfl, hv, hs1, ho⟩ := hrel
        by_cases hlt : k < 8
        ·go_wp2_with fail
         refine wp_region_still_tail 11 (by kernel_rfl) (by kernel_rfl) ?_
         change wpStill _ _ wr.drew (fun a' => wpList _ _ _ _ a' wr.drew) _ _
         have hv2 : Hid (wr.drew.rowIs w1.heap.size 191 8 (stF (rounds l s 64))) := hv
         have hs2 : Hid (wr.drew.rowIs gs T 8 (blF l s k)) := hs1
         have ho2 : Hid (w.grownBy wr.drew (some gs)) := hid (drew_only ho.out)
         generalize wr.drew = w2 at *
         clear hv hs1 ho
         have k8 : (k : Int) < 8 := by omega
         have vk := hv2.out.cell (i := k) (by omega)
         have sk := hs2.out.cell (i := k) (by omega)
         have sf := hs2.out.frozen k
         unfold stF at vk
         unfold blF at sk
         rw [if_neg (by omega)] at sk
         simp only [List.take_succ_cons, List.take_zero, List.drop_succ_cons, List.drop_zero]
         repeat still_step
         refine wpStill_nil ?_
         go_wp2_with fail
         go_roundw
         case rel =>
          exact ⟨k + 1, by omega, by go_num, hid (hv2.out.setOther (a := ⟨gs, k, none⟩) (by show w1.heap.size ≠ gs; omega) _), hid (by rw [← blF_set]; exact hs2.out.set _ _), hid (only_setCell ho2.out (.inl rfl) _)⟩
         case measure => simp [intOf]; omega
        ·obtain rfl : k = 8 := by omega
         go_wp2_with fail
         go_end0
         exact ⟨⟨_, rfl⟩, hs1.out.congr fun j hj => by unfold blF stF; rw [if_pos hj], ho.out⟩
/-- both tables of the hash lie where the program reads them -/
def Tabs (w : World) : Prop := 0 < w.heap.size ∧ 1 < w.heap.size ∧ (∀ t, t < 8 → w.cell? ⟨0, t, none⟩ = some (.int .u32 (hf t : Nat))) ∧ TabK w
theorem Tabs.below {w w' : World} (h : Tabs w) (hb : Below w.heap.size w w') : Tabs w' :=
 ⟨Nat.lt_of_lt_of_le h.1 hb.size, Nat.lt_of_lt_of_le h.2.1 hb.size, fun t ht => (hb.cell (p := ⟨0, t, none⟩) h.1).trans (h.2.2.1 t ht), fun t ht => (hb.cell (p := ⟨1, t, none⟩) h.2.1).trans (h.2.2.2 t ht)⟩
/-- a slice of bytes reads as a list; it lies below block B -/
def Rd (w : World) (B : Nat) (A : Option Addr) (l : List Nat) : Prop := 0 < l.length → ∃ g off, A = some ⟨g, off, none⟩ ∧ g < B ∧ BytesAt w g off l
theorem Rd.below {w w' : World} {B B' : Nat} {A : Option Addr} {l : List Nat} (h : Rd w B A l) (hb : Below B' w w') (hB : B ≤ B') : Rd w' B A l := fun hl => by
 obtain ⟨g, off, e, hg, hc⟩ := h hl
 exact ⟨g, off, e, hg, fun i hi => (hb.cell (p := ⟨g, off + i, none⟩) (Nat.lt_of_lt_of_le hg hB)).trans (hc i hi)⟩
/-- the value of a digest -/
def dgV (l : List Nat) : Value := .agg (l.map fun x => Value.int .u8 (x : Nat)).toArray
def lenOf : Value → Nat
 | .slice _ n _ => n
 | _ => 0
def zeroF (_ : Nat) : Value := .int .u8 0
theorem Rd.cut {w : World} {B g off : Nat} {l : List Nat} (hg : g < B) (h : BytesAt w g off l) (k : Nat) : Rd w B (some ⟨g, off + k, none⟩) (l.drop k) := fun hl => by
 refine ⟨g, off + k, rfl, hg, fun i hi => ?_⟩
 rw [List.length_drop] at hi
 have := h (k + i) (by omega)
 rw [List.getD_eq_getElem?_getD, List.getElem?_drop, ← List.getD_eq_getElem?_getD, Nat.add_assoc]
 exact this
theorem BytesAt.take {w : World} {g off : Nat} {l : List Nat} (h : BytesAt w g off l) (k : Nat) : BytesAt w g off (l.take k) := fun i hi => by
 rw [List.length_take] at hi
 rw [List.getD_eq_getElem?_getD, List.getElem?_take_of_lt (by omega), ← List.getD_eq_getElem?_getD]
 exact h i (by omega)
theorem Rd.only {w w' : World} {B gs : Nat} {A : Option Addr} {l : List Nat} (h : Rd w B A l) (ho : w.grownBy w' (some gs)) (h1 : B ≤ w.heap.size) (h2 : B ≤ gs) : Rd w' B A l := fun hl => by
 obtain ⟨g, off, e, hg, hc⟩ := h hl
 exact ⟨g, off, e, hg, fun i hi => (cell_only (p := ⟨g, off + i, none⟩) ho (Nat.lt_of_lt_of_le hg h1) (by show g ≠ gs; omega)).trans (hc i hi)⟩
theorem bytes_take {l : List Nat} (h : Bytes l) (k : Nat) : Bytes (l.take k) := fun x hx => h x (List.mem_of_mem_take hx)
theorem bytes_drop {l : List Nat} (h : Bytes l) (k : Nat) : Bytes (l.drop k) := fun x hx => h x (List.mem_of_mem_drop hx)
theorem info_u8 : (Tryz.prog.info? 5).map (fun i => (i.zero, i.size, i.bytes)) = some (some (.int .u8 0), 1, 1) := by kernel_rfl
theorem make_bytes (n c : Nat) (hnc : n ≤ c) (hc : c ≤ 281474976710656) (W : World) : (Instr.makeSlice 143 (.int .i64 (n : Int)) (.int .i64 (c : Int))).run Tryz.prog W = .ok (.slice (some ⟨W.heap.size, 0, none⟩) n c) (W.alloc (.cells (madeCells #[.int .u8 0] c) 5)) := by
 obtain ⟨i0, hi, hz0, hz1, hz2⟩ := info_parts info_u8
 have h := run_make (P := Tryz.prog) W 143 5 i0 (.int .u8 0) Tryz.underlying143 hi hz0 .i64 .i64 (n : Int) (c : Int) (by omega) (by omega) (by rw [hz2]; omega) (by omega)
 rw [hz1, Nat.mul_one] at h
 exact h
/-- the row of the last blocks -/
def lastF (l : List Nat) (j : Nat) : Value := .int .u8 ((last l).getD j 0 : Nat)
theorem last_cells (l : List Nat) (k r L N8 : Nat) (hl : l.length = 64 * k + r) (hr : r < 64) (hL : L = if r > 55 then 128 else 64) (h8 : N8 = 8 * l.length) (j : Nat) (hj : j < L) :
  putF (L - 8) 8 N8 (fun j => if j = r then Value.int .u8 128 else overF 0 r (fun j => Value.int .u8 ((l.drop (64 * k)).getD j 0 : Nat)) (fun _ => Value.int .u8 0) j) j = lastF l j := by
 have hk : l.length / 64 = k := by omega
 have hd : (l.drop (64 * k)).length = r := by rw [List.length_drop]; omega
 have hz : zeros l.length = L - 9 - r := by unfold zeros; split at hL <;> omega
 have hL9 : r + 9 ≤ L := by split at hL <;> omega
 unfold lastF last tail putF overF
 rw [hk, List.getD_eq_getElem?_getD]
 by_cases c1 : j < r
 ·rw [if_neg (by omega)]
  show (if j = r then _ else _) = _
  rw [if_neg (by omega), if_pos (by omega), List.getElem?_append_left (by omega), Nat.sub_zero, ← List.getD_eq_getElem?_getD]
 ·rw [List.getElem?_append_right (by omega), hd]
  by_cases c2 : j = r
  ·rw [if_neg (by omega)]
   show (if j = r then _ else _) = _
   rw [if_pos c2, show j - r = 0 by omega]; rfl
  ·obtain ⟨i, hi⟩ : ∃ i, j - r = i + 1 := ⟨j - r - 1, by omega⟩
   rw [hi, List.getElem?_cons_succ]
   by_cases c3 : j < L - 8
   ·rw [if_neg (by omega)]
    show (if j = r then _ else _) = _
    rw [if_neg c2, if_neg (by omega), List.getElem?_append_left (by simp; omega), List.getElem?_replicate, if_pos (by omega)]; rfl
   ·rw [if_pos (by omega), List.getElem?_append_right (by simp; omega), List.length_replicate, hz]
    have hb : i - (L - 9 - r) < 8 := by omega
    simp only [be, List.getElem?_map, List.getElem?_range hb, Option.map_some, Option.getD_some]
    rw [h8, show L - 8 + 8 - 1 - j = 8 - 1 - (i - (L - 9 - r)) by omega]
theorem last_len (l : List Nat) (k r L : Nat) (hl : l.length = 64 * k + r) (hr : r < 64) (hL : L = if r > 55 then 128 else 64) : (last l).length = L := by
 rw [last_length, show l.length % 64 = r by omega]; exact hL.symm
theorem last_bytes {l : List Nat} (h : Bytes l) : Bytes (last l) := fun x hx => by
 rcases List.mem_append.1 hx with h' | h'
 ·exact h x (List.mem_of_mem_drop h')
 ·exact tail_bytes _ x h'
def outF (F : Nat → Nat) (k j : Nat) : Value := .int .u8 ((if j < 4 * k then out F j else 0 : Nat))
theorem outF_put (F : Nat → Nat) (k : Nat) : putF (4 * k) 4 (F k) (outF F k) = outF F (k + 1) := by
 funext j
 unfold putF outF
 by_cases c : 4 * k ≤ j ∧ j < 4 * k + 4
 ·rw [if_pos c, if_pos (by omega)]
  unfold out
  rw [show j / 4 = k by omega, show 4 * k + 4 - 1 - j = 3 - j % 4 by omega]
 ·rw [if_neg c]
  by_cases c2 : j < 4 * k
  ·rw [if_pos c2, if_pos (by omega)]
  ·rw [if_neg c2, if_neg (by omega)]
theorem oneCells (l : List Nat) : (l.map fun x => Value.int .u8 (x : Nat)).toArray.all (·.oneCell') = true := by
 simp; intros; rfl
theorem index8 (x0 x1 x2 x3 x4 x5 x6 x7 : Value) (w : World) (k : Nat) (hk : k < 8) :
  (Instr.index 191 (.agg #[x0, x1, x2, x3, x4, x5, x6, x7]) (.int .i64 (k : Int))).run Tryz.prog w = .ok ([x0, x1, x2, x3, x4, x5, x6, x7].getD k undef) w := by
 have h : k = 0 ∨ k = 1 ∨ k = 2 ∨ k = 3 ∨ k = 4 ∨ k = 5 ∨ k = 6 ∨ k = 7 := by omega
 rcases h with rfl | rfl | rfl | rfl | rfl | rfl | rfl | rfl <;> (show _ = _; kernel_rfl)
theorem slice4 (g t : Nat) (w : World) (ht : t < 8) : (Instr.sliceAt 25 (.pointer (some ⟨g, 0, none⟩)) (some (.int .i64 (4 * (t : Int)))) (some (.int .i64 (4 * (t : Int) + 4))) none).run Tryz.prog w = .ok (.slice (some ⟨g, 4 * t, none⟩) 4 (32 - 4 * t)) w := by
 have h : t = 0 ∨ t = 1 ∨ t = 2 ∨ t = 3 ∨ t = 4 ∨ t = 5 ∨ t = 6 ∨ t = 7 := by omega
 rcases h with rfl | rfl | rfl | rfl | rfl | rfl | rfl | rfl <;> (show _ = _; kernel_rfl)
theorem get8 (F : Nat → Nat) (k : Nat) (hk : k < 8) : [Value.int .u32 (F 0 : Nat), .int .u32 (F 1 : Nat), .int .u32 (F 2 : Nat), .int .u32 (F 3 : Nat), .int .u32 (F 4 : Nat), .int .u32 (F 5 : Nat), .int .u32 (F 6 : Nat), .int .u32 (F 7 : Nat)].getD k undef = .int .u32 (F k : Nat) := by
 match k, hk with
 | 0, _ => rfl
 | 1, _ => rfl
 | 2, _ => rfl
 | 3, _ => rfl
 | 4, _ => rfl
 | 5, _ => rfl
 | 6, _ => rfl
 | 7, _ => rfl
theorem rowIs_arr {w : World} {g t n : Nat} {f : Nat → Value} (h : w.rowIs g t n f) : w.heap[g]? = some (.cells ((List.range n).map f).toArray t (0, 0)) := by
 obtain ⟨c, hb, hn, hc⟩ := h
 have : c = ((List.range n).map f).toArray := by
  apply Array.ext_getElem?
  intro i
  by_cases hi : i < n
  ·rw [hc i hi]; simp [hi]
  ·rw [Array.getElem?_eq_none (by omega), Array.getElem?_eq_none (by simp; omega)]
 rw [hb, this]
theorem sha_arr (l : List Nat) : ((List.range 32).map (outF (fin l) 8)).toArray = ((sha l).map fun x => Value.int .u8 (x : Nat)).toArray := by
 unfold sha
 rw [List.map_map]
 congr 1
set_option maxRecDepth 100000 in
theorem dsum_any (A : Option Addr) (n c : Nat) (l : List Nat) (w : World) (hn : Hid (l.length = n)) (hc : n ≤ c) (hsz : n ≤ 4294967296) (hb : Hid (Bytes l)) (hT : Hid (Tabs w)) (hR : Hid (Rd w w.heap.size A l)) :
  Calls Tryz.prog 133 #[.slice A n c] w fun e w' => e = .returned (dgV (sha l)) ∧ Below w.heap.size w w' := by
 have s0 := hT.out.2.2.1 0 (by omega)
 have s1 := hT.out.2.2.1 1 (by omega)
 have s2 := hT.out.2.2.1 2 (by omega)
 have s3 := hT.out.2.2.1 3 (by omega)
 have s4 := hT.out.2.2.1 4 (by omega)
 have s5 := hT.out.2.2.1 5 (by omega)
 have s6 := hT.out.2.2.1 6 (by omega)
 have s7 := hT.out.2.2.1 7 (by omega)
 have t1 := hT.out.1
 have t2 := hT.out.2.1
 go_enter Tryz.func133, Tryz.ntmps133
 go_wp2_with fail
 clear s0 s1 s2 s3 s4 s5 s6 s7
 go_loopw [5] (fun v wr => ∃ (k r c' : Nat) (A' : Option Addr), Hid (n = 64 * k + r) ∧ r ≤ c' ∧ r ≤ n ∧ v = .slice A' r c' ∧ Hid (Rd wr w.heap.size A' (l.drop (64 * k))) ∧ Hid (wr.rowIs w.heap.size 25 32 zeroF) ∧ Hid (wr.rowIs (w.heap.size + 1) 191 8 (stF (blocks k hf l))) ∧ Hid (Below w.heap.size w wr)) (fun v _ => lenOf v)
 case atStart =>
  have hb0 := ((Below.refl w.heap.size w).alloc (Nat.le_refl _) (.cells (Array.replicate 32 (.int .u8 0)) 25)).alloc (by simp) (.cells #[.int .u32 (hf 0 : Nat), .int .u32 (hf 1 : Nat), .int .u32 (hf 2 : Nat), .int .u32 (hf 3 : Nat), .int .u32 (hf 4 : Nat), .int .u32 (hf 5 : Nat), .int .u32 (hf 6 : Nat), .int .u32 (hf 7 : Nat)] 191)
  refine ⟨0, n, c, A, hid (by omega), hc, Nat.le_refl _, rfl, hid ?_, hid ?_, hid ?_, hid hb0⟩
  ·exact Rd.below (by simpa using hR.out) hb0 (Nat.le_refl _)
  ·refine World.rowIs.alloc (World.rowIs_alloc w _ _ _ (fun i hi => ?_)) _
   have : ∀ j : Fin 32, (Array.replicate 32 (Value.int .u8 0))[j.val]? = some (zeroF j.val) := fun j => by simp [zeroF]
   exact this ⟨i, hi⟩
  ·have := World.rowIs_alloc (w.alloc (.cells (Array.replicate 32 (.int .u8 0)) 25)) #[.int .u32 (hf 0 : Nat), .int .u32 (hf 1 : Nat), .int .u32 (hf 2 : Nat), .int .u32 (hf 3 : Nat), .int .u32 (hf 4 : Nat), .int .u32 (hf 5 : Nat), .int .u32 (hf 6 : Nat), .int .u32 (hf 7 : Nat)] 191 (stF (blocks 0 hf l)) (fun i hi => by
    have hi' : i < 8 := hi
    match i, hi' with
    | 0, _ => rfl
    | 1, _ => rfl
    | 2, _ => rfl
    | 3, _ => rfl
    | 4, _ => rfl
    | 5, _ => rfl
    | 6, _ => rfl
    | 7, _ => rfl)
   simp only [World.size_alloc] at this
   exact this
 case round =>
  obtain ⟨k, r, c', A', hnr, hrc, hrn, rfl, hRd, hD, hS, hB⟩ := hrel
  have hT' : Hid (Tabs wr) := hid (hT.out.below hB.out)
  by_cases h64 : 64 ≤ r
  ·obtain ⟨g, off, rfl, hg, hBy⟩ := hRd.out (by rw [List.length_drop]; have := hnr.out; have := hn.out; omega)
   have HBy := hid hBy
   clear hBy
   have hSl := hS.out.lt
   have HL : Hid (((l.drop (64 * k)).take 64).length = 64) := hid (by rw [List.length_take, List.length_drop]; have := hnr.out; have := hn.out; omega)
   by_cases hc64 : c' = 64
   ·obtain rfl : r = 64 := by omega
    subst hc64
    go_wp2_with fail
    refine (absorb_any (w.heap.size + 1) 191 g off 64 (blocks k hf l) ((l.drop (64 * k)).take 64) _ HL (hid (bytes_take (bytes_drop hb.out _) _)) (hid (blocks_words _ _ hf_words)) (by omega) hS (by omega) (by omega) hT'.out.2.1 (by omega) (hid hT'.out.2.2.2) (hid (HBy.out.take 64))).mono ?_
    rintro e w1 ⟨⟨v, rfl⟩, hs1, ho1⟩
    have HS1 := hid hs1
    have HO1 := hid ho1
    clear hs1 ho1
    go_wp2_with fail
    go_roundw
    case rel =>
     refine ⟨k + 1, 0, 0, _, hid (by have := hnr.out; omega), by omega, by omega, rfl, hid ?_, hid (rowIs_only hD.out HO1.out (by omega)), hid ?_, hid (below_of_only hB.out HO1.out hB.out.size (by omega))⟩
     ·intro hl; rw [List.length_drop] at hl; have := hnr.out; have := hn.out; omega
     ·rw [blocks_snoc]; exact HS1.out
    case measure => simp [lenOf]
   ·have c64 : (c' == 64) = false := by simpa using hc64
    go_wp2_with fail
    refine (absorb_any (w.heap.size + 1) 191 g off c' (blocks k hf l) ((l.drop (64 * k)).take 64) _ HL (hid (bytes_take (bytes_drop hb.out _) _)) (hid (blocks_words _ _ hf_words)) (by omega) hS (by omega) (by omega) hT'.out.2.1 (by omega) (hid hT'.out.2.2.2) (hid (HBy.out.take 64))).mono ?_
    rintro e w1 ⟨⟨v, rfl⟩, hs1, ho1⟩
    have HS1 := hid hs1
    have HO1 := hid ho1
    clear hs1 ho1
    go_wp2_with fail
    go_roundw
    case rel =>
     refine ⟨k + 1, r - 64, c' - 64, _, hid (by have := hnr.out; omega), by omega, by omega, rfl, hid ?_, hid (rowIs_only hD.out HO1.out (by omega)), hid ?_, hid (below_of_only hB.out HO1.out hB.out.size (by omega))⟩
     ·have := (Rd.cut hg HBy.out 64).only HO1.out hB.out.size (by omega)
      rw [List.drop_drop] at this
      exact this
     ·rw [blocks_snoc]; exact HS1.out
    case measure => simp [lenOf]; omega
  ·have d64 : decide ((64 : Int) ≤ (r : Int)) = false := dQ (by omega)
   have hmk : (Instr.makeSlice 143 (.int .i64 64) (.int .i64 128)).run Tryz.prog wr = .ok (.slice (some ⟨wr.heap.size, 0, none⟩) 64 128) (wr.alloc (.cells (madeCells #[.int .u8 0] 128) 5)) := make_bytes 64 128 (by omega) (by omega) wr
   have HM := hid (World.rowIs_made wr (.int .u8 0) 128 5)
   have hRr : Hid (0 < r → ∃ ad, A' = some ad ∧ ∀ j, j < r → (wr.alloc (.cells (madeCells #[.int .u8 0] 128) 5)).cell? (ad.add j) = some (.int .u8 ((l.drop (64 * k)).getD j 0 : Nat))) := hid fun h0 => by
    have hlen : (l.drop (64 * k)).length = r := by rw [List.length_drop]; have := hnr.out; have := hn.out; omega
    obtain ⟨g, off, e, hg, hBy⟩ := hRd.out (by omega)
    refine ⟨_, e, fun j hj => ?_⟩
    rw [add_row]
    refine Eq.trans (World.cell?_alloc_lt wr _ _ (Nat.lt_of_lt_of_le hg hB.out.size)) (hBy j (by omega))
   have hm : r = Nat.min r 64 := by show r = min r 64; omega
   have HMm := hid hm
   clear hm
   obtain ⟨N8, H8, e8⟩ : ∃ N8 : Nat, Hid (N8 = 8 * n) ∧ (n : Int) * 8 = (N8 : Int) := ⟨8 * n, hid rfl, by omega⟩
   have hN8 : N8 ≤ 34359738368 := by have := H8.out; omega
   by_cases h55 : 55 < r
   ·have d55 : decide ((55 : Int) < (r : Int)) = true := eQ (by omega)
    have HLL : Hid (128 = if r > 55 then 128 else 64) := hid (by rw [if_pos h55])
    clear h55
    go_wp2_with ((with_reducible refine wpList_copy_rowIs rfl (.tmp 22) (.tmp 23) 143 143 rfl 5 Tryz.underlying143 (by kernel_rfl) wr.heap.size 0 64 128 A' r c' rfl rfl 5 128 _ HM r HMm.out (fun j => .int .u8 ((l.drop (64 * k)).getD j 0 : Nat)) hRr.out (by omega) (fun _ _ => rfl) ?_); intro w2 hv2 ho2; have hcr := hv2.out.cell (i := r) (by omega); have hfr := hv2.out.frozen r)
    refine (put_any wr.heap.size 120 8 8 N8 5 128 _ _ (by omega) (by omega) (by omega) (by omega) (hid (hv2.out.set r (.int .u8 128)))).mono ?_
    rintro e w3 ⟨⟨v, rfl⟩, hs3, ho3⟩
    have HE : Hid (∀ j, j < 128 → w3.cell? ⟨wr.heap.size, j, none⟩ = some (lastF l j)) := hid fun j hj => by
     rw [hs3.cell (i := j) (by omega), last_cells l k r 128 N8 (by rw [hn.out]; exact hnr.out) (by omega) HLL.out (by rw [hn.out]; exact H8.out) j hj]
    have hlt3 : wr.heap.size < w3.heap.size := hs3.lt
    have ho13 : (wr.alloc (.cells (madeCells #[.int .u8 0] 128) 5)).grownBy w3 (some wr.heap.size) := only_trans (only_setCell ho2.out (.inl rfl) _) ho3
    have hD3 : Hid (w3.rowIs w.heap.size 25 32 zeroF) := hid (rowIs_only (hD.out.alloc _) ho13 (by have := hD.out.lt; omega))
    have hS3 : Hid (w3.rowIs (w.heap.size + 1) 191 8 (stF (blocks k hf l))) := hid (rowIs_only (hS.out.alloc _) ho13 (by have := hS.out.lt; omega))
    have hB3 : Hid (Below w.heap.size w w3) := hid (below_of_only (hB.out.alloc hB.out.size _) ho13 (by simp; have := hB.out.size; omega) hB.out.size)
    have hSl := hS.out.lt
    clear hs3 ho3 ho13 hcr hfr hv2 ho2 hmk HM hRr HMm hRd hD hS hB
    go_wp2_with fail
    go_loopw [6] (fun v wq => ∃ (m r2 c2 off : Nat), Hid (128 = 64 * m + r2) ∧ Hid (0 < r2 → off = 64 * m) ∧ r2 ≤ c2 ∧ r2 ≤ 128 ∧ (64 ≤ r2 ∨ r2 = 0) ∧ v = .slice (some ⟨wr.heap.size, off, none⟩) r2 c2 ∧ Hid (∀ j, j < 128 → wq.cell? ⟨wr.heap.size, j, none⟩ = some (lastF l j)) ∧ wr.heap.size < wq.heap.size ∧ Hid (wq.rowIs w.heap.size 25 32 zeroF) ∧ Hid (wq.rowIs (w.heap.size + 1) 191 8 (stF (blocks m (blocks k hf l) (last l)))) ∧ Hid (Below w.heap.size w wq)) (fun v _ => lenOf v)
    case atStart => exact ⟨0, 128, 128, 0, hid (by omega), hid (fun _ => rfl), by omega, by omega, .inl (by omega), rfl, HE, hlt3, hD3, hS3, hB3⟩
    case round =>
     clear HE hlt3 hD3 hS3 hB3 hT'
     rename World => wq
     obtain ⟨m, r2, c2, off, hLm, hoff, hrc2, hrL, hr2, rfl, HE, hlt3, hD3, hS3, hB3⟩ := hrel
     have hT' : Hid (Tabs wq) := hid (hT.out.below hB3.out)
     rcases hr2 with h64' | rfl
     ·obtain rfl : off = 64 * m := hoff.out (by omega)
      have hll : Hid ((last l).length = 128) := hid (last_len l k r 128 (by rw [hn.out]; exact hnr.out) (by omega) HLL.out)
      have HL : Hid ((((last l).drop (64 * m)).take 64).length = 64) := hid (by rw [List.length_take, List.length_drop, hll.out]; have := hLm.out; omega)
      have HBy : Hid (BytesAt wq wr.heap.size (64 * m) (((last l).drop (64 * m)).take 64)) := hid fun i hi => by
       rw [HL.out] at hi
       rw [HE.out (64 * m + i) (by have := hLm.out; omega), lastF, List.getD_eq_getElem?_getD, List.getD_eq_getElem?_getD, List.getElem?_take_of_lt hi, List.getElem?_drop]
      by_cases hc64 : c2 = 64
      ·subst hc64
       obtain rfl : r2 = 64 := by omega
       go_wp2_with fail
       refine (absorb_any (w.heap.size + 1) 191 wr.heap.size (64 * m) 64 _ (((last l).drop (64 * m)).take 64) _ HL (hid (bytes_take (bytes_drop (last_bytes hb.out) _) _)) (hid (blocks_words _ _ (blocks_words _ _ hf_words))) (by omega) hS3 (by omega) (by omega) hT'.out.2.1 (by omega) (hid hT'.out.2.2.2) HBy).mono ?_
       rintro e w4 ⟨⟨v, rfl⟩, hs4, ho4⟩
       have HS4 := hid hs4
       have HO4 := hid ho4
       clear hs4 ho4
       go_wp2_with fail
       go_roundw
       case rel =>
        refine ⟨m + 1, 0, 0, _, hid (by have := hLm.out; omega), hid (fun h => absurd h (by omega)), by omega, by omega, .inr rfl, rfl, hid (fun j hj => (cell_only (p := ⟨wr.heap.size, j, none⟩) HO4.out hlt3 (by show wr.heap.size ≠ w.heap.size + 1; omega)).trans (HE.out j hj)), Nat.lt_of_lt_of_le hlt3 HO4.out.size, hid (rowIs_only hD3.out HO4.out (by omega)), hid (by rw [blocks_snoc]; exact HS4.out), hid (below_of_only hB3.out HO4.out hB3.out.size (by omega))⟩
       case measure => simp [lenOf]
      ·have c64 : (c2 == 64) = false := by simpa using hc64
       go_wp2_with fail
       refine (absorb_any (w.heap.size + 1) 191 wr.heap.size (64 * m) c2 _ (((last l).drop (64 * m)).take 64) _ HL (hid (bytes_take (bytes_drop (last_bytes hb.out) _) _)) (hid (blocks_words _ _ (blocks_words _ _ hf_words))) (by omega) hS3 (by omega) (by omega) hT'.out.2.1 (by omega) (hid hT'.out.2.2.2) HBy).mono ?_
       rintro e w4 ⟨⟨v, rfl⟩, hs4, ho4⟩
       have HS4 := hid hs4
       have HO4 := hid ho4
       clear hs4 ho4
       go_wp2_with fail
       go_roundw
       case rel =>
        refine ⟨m + 1, r2 - 64, c2 - 64, _, hid (by have := hLm.out; omega), hid (fun h => by omega), by omega, by omega, by have := hLm.out; omega, rfl, hid (fun j hj => (cell_only (p := ⟨wr.heap.size, j, none⟩) HO4.out hlt3 (by show wr.heap.size ≠ w.heap.size + 1; omega)).trans (HE.out j hj)), Nat.lt_of_lt_of_le hlt3 HO4.out.size, hid (rowIs_only hD3.out HO4.out (by omega)), hid (by rw [blocks_snoc]; exact HS4.out), hid (below_of_only hB3.out HO4.out hB3.out.size (by omega))⟩
       case measure => simp [lenOf]; omega
     ·have hfin : Hid (blocks m (blocks k hf l) (last l) = fin l) := hid (by
       rw [fin_eq, last_len l k r 128 (by rw [hn.out]; exact hnr.out) (by omega) HLL.out, hn.out, show n / 64 = k by have := hnr.out; omega, show 128 / 64 = m by have := hLm.out; omega])
      have hS4 : Hid (wq.rowIs (w.heap.size + 1) 191 8 (stF (fin l))) := hid (by rw [← hfin.out]; exact hS3.out)
      have e0 : wq.cell? ⟨w.heap.size + 1, 0, none⟩ = some (.int .u32 (fin l 0 : Nat)) := hS4.out.cell (by omega)
      have e1 : wq.cell? ⟨w.heap.size + 1, 1, none⟩ = some (.int .u32 (fin l 1 : Nat)) := hS4.out.cell (by omega)
      have e2 : wq.cell? ⟨w.heap.size + 1, 2, none⟩ = some (.int .u32 (fin l 2 : Nat)) := hS4.out.cell (by omega)
      have e3 : wq.cell? ⟨w.heap.size + 1, 3, none⟩ = some (.int .u32 (fin l 3 : Nat)) := hS4.out.cell (by omega)
      have e4 : wq.cell? ⟨w.heap.size + 1, 4, none⟩ = some (.int .u32 (fin l 4 : Nat)) := hS4.out.cell (by omega)
      have e5 : wq.cell? ⟨w.heap.size + 1, 5, none⟩ = some (.int .u32 (fin l 5 : Nat)) := hS4.out.cell (by omega)
      have e6 : wq.cell? ⟨w.heap.size + 1, 6, none⟩ = some (.int .u32 (fin l 6 : Nat)) := hS4.out.cell (by omega)
      have e7 : wq.cell? ⟨w.heap.size + 1, 7, none⟩ = some (.int .u32 (fin l 7 : Nat)) := hS4.out.cell (by omega)
      go_wp2_with fail
      clear e0 e1 e2 e3 e4 e5 e6 e7
      go_loopw [54] (fun i wz => ∃ t : Nat, t ≤ 8 ∧ i = .int .i64 t ∧ Hid (wz.rowIs w.heap.size 25 32 (outF (fin l) t)) ∧ Hid (Below w.heap.size w wz)) (fun i _ => 8 - (intOf i).toNat)
      case atStart => exact ⟨0, by omega, rfl, hid (hD3.out.congr fun j hj => by unfold zeroF outF; rw [if_neg (by omega)]; rfl), hB3⟩
      case round =>
       clear hS4 hS3 hD3 hB3 HE hT' hlt3
       rename World => wz
       obtain ⟨t, ht, rfl, hD3, hB3⟩ := hrel
       by_cases hlt : t < 8
       ·have hidx := index8 (.int .u32 (fin l 0 : Nat)) (.int .u32 (fin l 1 : Nat)) (.int .u32 (fin l 2 : Nat)) (.int .u32 (fin l 3 : Nat)) (.int .u32 (fin l 4 : Nat)) (.int .u32 (fin l 5 : Nat)) (.int .u32 (fin l 6 : Nat)) (.int .u32 (fin l 7 : Nat)) wz t hlt
        rw [get8 (fin l) t hlt] at hidx
        have hF := fin_words l t hlt
        have hsl := slice4 w.heap.size t wz hlt
        go_wp2_with fail
        refine (put_any w.heap.size (4 * t) 4 (32 - 4 * t) (fin l t) 25 32 _ _ (by omega) (by omega) (by omega) (by omega) hD3).mono ?_
        rintro e w5 ⟨⟨v, rfl⟩, hs5, ho5⟩
        rw [outF_put] at hs5
        have HS5 := hid hs5
        have HO5 := hid ho5
        clear hs5 ho5 hidx hsl
        go_wp2_with fail
        go_roundw
        case rel => exact ⟨t + 1, by omega, by go_num, HS5, hid (below_of_only hB3.out HO5.out hB3.out.size (Nat.le_refl _))⟩
        case measure => simp [intOf]; omega
       ·have hD8 : Hid (wz.heap[w.heap.size]? = some (.cells ((sha l).map fun x => Value.int .u8 (x : Nat)).toArray 25 (0, 0))) := hid (by
         have := rowIs_arr hD3.out
         rw [show t = 8 by omega, sha_arr] at this
         exact this)
        have dt : decide ((t : Int) < 8) = false := dQ (by omega)
        have hsz32 : (Tryz.prog.info? 25).map (·.size) = some ((sha l).map fun x => Value.int .u8 (x : Nat)).toArray.size := by
         have : ((sha l).map fun x => Value.int .u8 (x : Nat)).toArray.size = 32 := by simp [sha_length]
         rw [this]; show _ = _; kernel_rfl
        have HZ := hid hsz32
        clear hsz32
        go_wp2_with (first | ((with_reducible refine wpList_load_row rfl 25 (.tmp 2) rfl w.heap.size rfl 25 _ (0, 0) _ hD8.out Tryz.underlying25 rfl HZ.out ?_)) | ((with_reducible refine wpList_store_row rfl 25 (.tmp 2) (.tmp 68) rfl w.heap.size _ rfl rfl 25 _ hD8.out HZ.out rfl ?_ ?_)))
        all_goals first
         | exact oneCells _
         | (have hB' : Below w.heap.size w (wz.setRow w.heap.size ((sha l).map fun x => Value.int .u8 (x : Nat)).toArray) := below_setRow hB3.out (Nat.le_refl _) _
            refine bodyPost_ret (results_cell_row rfl _ _ w.heap.size 25 _ (0, 0) _ rfl (setRow_heap wz w.heap.size _ _ _ _ hD8.out) Tryz.underlying25 rfl HZ.out) rfl ?_
            exact ⟨rfl, hB'⟩)
   ·have d55 : decide ((55 : Int) < (r : Int)) = false := dQ (by omega)
    have HLL : Hid (64 = if r > 55 then 128 else 64) := hid (by rw [if_neg h55])
    clear h55
    go_wp2_with ((with_reducible refine wpList_copy_rowIs rfl (.tmp 22) (.tmp 23) 143 143 rfl 5 Tryz.underlying143 (by kernel_rfl) wr.heap.size 0 64 128 A' r c' rfl rfl 5 128 _ HM r HMm.out (fun j => .int .u8 ((l.drop (64 * k)).getD j 0 : Nat)) hRr.out (by omega) (fun _ _ => rfl) ?_); intro w2 hv2 ho2; have hcr := hv2.out.cell (i := r) (by omega); have hfr := hv2.out.frozen r)
    refine (put_any wr.heap.size 56 8 72 N8 5 128 _ _ (by omega) (by omega) (by omega) (by omega) (hid (hv2.out.set r (.int .u8 128)))).mono ?_
    rintro e w3 ⟨⟨v, rfl⟩, hs3, ho3⟩
    have HE : Hid (∀ j, j < 64 → w3.cell? ⟨wr.heap.size, j, none⟩ = some (lastF l j)) := hid fun j hj => by
     rw [hs3.cell (i := j) (by omega), last_cells l k r 64 N8 (by rw [hn.out]; exact hnr.out) (by omega) HLL.out (by rw [hn.out]; exact H8.out) j hj]
    have hlt3 : wr.heap.size < w3.heap.size := hs3.lt
    have ho13 : (wr.alloc (.cells (madeCells #[.int .u8 0] 128) 5)).grownBy w3 (some wr.heap.size) := only_trans (only_setCell ho2.out (.inl rfl) _) ho3
    have hD3 : Hid (w3.rowIs w.heap.size 25 32 zeroF) := hid (rowIs_only (hD.out.alloc _) ho13 (by have := hD.out.lt; omega))
    have hS3 : Hid (w3.rowIs (w.heap.size + 1) 191 8 (stF (blocks k hf l))) := hid (rowIs_only (hS.out.alloc _) ho13 (by have := hS.out.lt; omega))
    have hB3 : Hid (Below w.heap.size w w3) := hid (below_of_only (hB.out.alloc hB.out.size _) ho13 (by simp; have := hB.out.size; omega) hB.out.size)
    have hSl := hS.out.lt
    clear hs3 ho3 ho13 hcr hfr hv2 ho2 hmk HM hRr HMm hRd hD hS hB
    go_wp2_with fail
    go_loopw [6] (fun v wq => ∃ (m r2 c2 off : Nat), Hid (64 = 64 * m + r2) ∧ Hid (0 < r2 → off = 64 * m) ∧ r2 ≤ c2 ∧ r2 ≤ 64 ∧ (64 ≤ r2 ∨ r2 = 0) ∧ v = .slice (some ⟨wr.heap.size, off, none⟩) r2 c2 ∧ Hid (∀ j, j < 64 → wq.cell? ⟨wr.heap.size, j, none⟩ = some (lastF l j)) ∧ wr.heap.size < wq.heap.size ∧ Hid (wq.rowIs w.heap.size 25 32 zeroF) ∧ Hid (wq.rowIs (w.heap.size + 1) 191 8 (stF (blocks m (blocks k hf l) (last l)))) ∧ Hid (Below w.heap.size w wq)) (fun v _ => lenOf v)
    case atStart => exact ⟨0, 64, 128, 0, hid (by omega), hid (fun _ => rfl), by omega, by omega, .inl (by omega), rfl, HE, hlt3, hD3, hS3, hB3⟩
    case round =>
     clear HE hlt3 hD3 hS3 hB3 hT'
     rename World => wq
     obtain ⟨m, r2, c2, off, hLm, hoff, hrc2, hrL, hr2, rfl, HE, hlt3, hD3, hS3, hB3⟩ := hrel
     have hT' : Hid (Tabs wq) := hid (hT.out.below hB3.out)
     rcases hr2 with h64' | rfl
     ·obtain rfl : off = 64 * m := hoff.out (by omega)
      have hll : Hid ((last l).length = 64) := hid (last_len l k r 64 (by rw [hn.out]; exact hnr.out) (by omega) HLL.out)
      have HL : Hid ((((last l).drop (64 * m)).take 64).length = 64) := hid (by rw [List.length_take, List.length_drop, hll.out]; have := hLm.out; omega)
      have HBy : Hid (BytesAt wq wr.heap.size (64 * m) (((last l).drop (64 * m)).take 64)) := hid fun i hi => by
       rw [HL.out] at hi
       rw [HE.out (64 * m + i) (by have := hLm.out; omega), lastF, List.getD_eq_getElem?_getD, List.getD_eq_getElem?_getD, List.getElem?_take_of_lt hi, List.getElem?_drop]
      by_cases hc64 : c2 = 64
      ·subst hc64
       obtain rfl : r2 = 64 := by omega
       go_wp2_with fail
       refine (absorb_any (w.heap.size + 1) 191 wr.heap.size (64 * m) 64 _ (((last l).drop (64 * m)).take 64) _ HL (hid (bytes_take (bytes_drop (last_bytes hb.out) _) _)) (hid (blocks_words _ _ (blocks_words _ _ hf_words))) (by omega) hS3 (by omega) (by omega) hT'.out.2.1 (by omega) (hid hT'.out.2.2.2) HBy).mono ?_
       rintro e w4 ⟨⟨v, rfl⟩, hs4, ho4⟩
       have HS4 := hid hs4
       have HO4 := hid ho4
       clear hs4 ho4
       go_wp2_with fail
       go_roundw
       case rel =>
        refine ⟨m + 1, 0, 0, _, hid (by have := hLm.out; omega), hid (fun h => absurd h (by omega)), by omega, by omega, .inr rfl, rfl, hid (fun j hj => (cell_only (p := ⟨wr.heap.size, j, none⟩) HO4.out hlt3 (by show wr.heap.size ≠ w.heap.size + 1; omega)).trans (HE.out j hj)), Nat.lt_of_lt_of_le hlt3 HO4.out.size, hid (rowIs_only hD3.out HO4.out (by omega)), hid (by rw [blocks_snoc]; exact HS4.out), hid (below_of_only hB3.out HO4.out hB3.out.size (by omega))⟩
       case measure => simp [lenOf]
      ·have c64 : (c2 == 64) = false := by simpa using hc64
       obtain rfl : r2 = 64 := by omega
       go_wp2_with fail
       refine (absorb_any (w.heap.size + 1) 191 wr.heap.size (64 * m) c2 _ (((last l).drop (64 * m)).take 64) _ HL (hid (bytes_take (bytes_drop (last_bytes hb.out) _) _)) (hid (blocks_words _ _ (blocks_words _ _ hf_words))) (by omega) hS3 (by omega) (by omega) hT'.out.2.1 (by omega) (hid hT'.out.2.2.2) HBy).mono ?_
       rintro e w4 ⟨⟨v, rfl⟩, hs4, ho4⟩
       have HS4 := hid hs4
       have HO4 := hid ho4
       clear hs4 ho4
       go_wp2_with fail
       go_roundw
       case rel =>
        refine ⟨m + 1, 0, c2 - 64, _, hid (by have := hLm.out; omega), hid (fun h => by omega), by omega, by omega, (.inr rfl), rfl, hid (fun j hj => (cell_only (p := ⟨wr.heap.size, j, none⟩) HO4.out hlt3 (by show wr.heap.size ≠ w.heap.size + 1; omega)).trans (HE.out j hj)), Nat.lt_of_lt_of_le hlt3 HO4.out.size, hid (rowIs_only hD3.out HO4.out (by omega)), hid (by rw [blocks_snoc]; exact HS4.out), hid (below_of_only hB3.out HO4.out hB3.out.size (by omega))⟩
       case measure => simp [lenOf]
     ·have hfin : Hid (blocks m (blocks k hf l) (last l) = fin l) := hid (by
       rw [fin_eq, last_len l k r 64 (by rw [hn.out]; exact hnr.out) (by omega) HLL.out, hn.out, show n / 64 = k by have := hnr.out; omega, show 64 / 64 = m by have := hLm.out; omega])
      have hS4 : Hid (wq.rowIs (w.heap.size + 1) 191 8 (stF (fin l))) := hid (by rw [← hfin.out]; exact hS3.out)
      have e0 : wq.cell? ⟨w.heap.size + 1, 0, none⟩ = some (.int .u32 (fin l 0 : Nat)) := hS4.out.cell (by omega)
      have e1 : wq.cell? ⟨w.heap.size + 1, 1, none⟩ = some (.int .u32 (fin l 1 : Nat)) := hS4.out.cell (by omega)
      have e2 : wq.cell? ⟨w.heap.size + 1, 2, none⟩ = some (.int .u32 (fin l 2 : Nat)) := hS4.out.cell (by omega)
      have e3 : wq.cell? ⟨w.heap.size + 1, 3, none⟩ = some (.int .u32 (fin l 3 : Nat)) := hS4.out.cell (by omega)
      have e4 : wq.cell? ⟨w.heap.size + 1, 4, none⟩ = some (.int .u32 (fin l 4 : Nat)) := hS4.out.cell (by omega)
      have e5 : wq.cell? ⟨w.heap.size + 1, 5, none⟩ = some (.int .u32 (fin l 5 : Nat)) := hS4.out.cell (by omega)
      have e6 : wq.cell? ⟨w.heap.size + 1, 6, none⟩ = some (.int .u32 (fin l 6 : Nat)) := hS4.out.cell (by omega)
      have e7 : wq.cell? ⟨w.heap.size + 1, 7, none⟩ = some (.int .u32 (fin l 7 : Nat)) := hS4.out.cell (by omega)
      go_wp2_with fail
      clear e0 e1 e2 e3 e4 e5 e6 e7
      go_loopw [54] (fun i wz => ∃ t : Nat, t ≤ 8 ∧ i = .int .i64 t ∧ Hid (wz.rowIs w.heap.size 25 32 (outF (fin l) t)) ∧ Hid (Below w.heap.size w wz)) (fun i _ => 8 - (intOf i).toNat)
      case atStart => exact ⟨0, by omega, rfl, hid (hD3.out.congr fun j hj => by unfold zeroF outF; rw [if_neg (by omega)]; rfl), hB3⟩
      case round =>
       clear hS4 hS3 hD3 hB3 HE hT' hlt3
       rename World => wz
       obtain ⟨t, ht, rfl, hD3, hB3⟩ := hrel
       by_cases hlt : t < 8
       ·have hidx := index8 (.int .u32 (fin l 0 : Nat)) (.int .u32 (fin l 1 : Nat)) (.int .u32 (fin l 2 : Nat)) (.int .u32 (fin l 3 : Nat)) (.int .u32 (fin l 4 : Nat)) (.int .u32 (fin l 5 : Nat)) (.int .u32 (fin l 6 : Nat)) (.int .u32 (fin l 7 : Nat)) wz t hlt
        rw [get8 (fin l) t hlt] at hidx
        have hF := fin_words l t hlt
        have hsl := slice4 w.heap.size t wz hlt
        go_wp2_with fail
        refine (put_any w.heap.size (4 * t) 4 (32 - 4 * t) (fin l t) 25 32 _ _ (by omega) (by omega) (by omega) (by omega) hD3).mono ?_
        rintro e w5 ⟨⟨v, rfl⟩, hs5, ho5⟩
        rw [outF_put] at hs5
        have HS5 := hid hs5
        have HO5 := hid ho5
        clear hs5 ho5 hidx hsl
        go_wp2_with fail
        go_roundw
        case rel => exact ⟨t + 1, by omega, by go_num, HS5, hid (below_of_only hB3.out HO5.out hB3.out.size (Nat.le_refl _))⟩
        case measure => simp [intOf]; omega
       ·have hD8 : Hid (wz.heap[w.heap.size]? = some (.cells ((sha l).map fun x => Value.int .u8 (x : Nat)).toArray 25 (0, 0))) := hid (by
         have := rowIs_arr hD3.out
         rw [show t = 8 by omega, sha_arr] at this
         exact this)
        have dt : decide ((t : Int) < 8) = false := dQ (by omega)
        have hsz32 : (Tryz.prog.info? 25).map (·.size) = some ((sha l).map fun x => Value.int .u8 (x : Nat)).toArray.size := by
         have : ((sha l).map fun x => Value.int .u8 (x : Nat)).toArray.size = 32 := by simp [sha_length]
         rw [this]; show _ = _; kernel_rfl
        have HZ := hid hsz32
        clear hsz32
        go_wp2_with (first | ((with_reducible refine wpList_load_row rfl 25 (.tmp 2) rfl w.heap.size rfl 25 _ (0, 0) _ hD8.out Tryz.underlying25 rfl HZ.out ?_)) | ((with_reducible refine wpList_store_row rfl 25 (.tmp 2) (.tmp 68) rfl w.heap.size _ rfl rfl 25 _ hD8.out HZ.out rfl ?_ ?_)))
        all_goals first
         | exact oneCells _
         | (have hB' : Below w.heap.size w (wz.setRow w.heap.size ((sha l).map fun x => Value.int .u8 (x : Nat)).toArray) := below_setRow hB3.out (Nat.le_refl _) _
            refine bodyPost_ret (results_cell_row rfl _ _ w.heap.size 25 _ (0, 0) _ rfl (setRow_heap wz w.heap.size _ _ _ _ hD8.out) Tryz.underlying25 rfl HZ.out) rfl ?_
            exact ⟨rfl, hB'⟩)
/-- a slice that the call made holds these bytes -/
def OwnB (w : World) (base : Nat) (v : Value) (l : List Nat) : Prop := w.ownsRow base 5 1 v l.length (l.map fun x => Value.int .u8 (x : Nat))
theorem OwnB.nil (w : World) (base : Nat) : OwnB w base (.slice none 0 0) [] := ⟨rfl, .inl ⟨rfl, rfl⟩⟩
theorem OwnB.slice {w : World} {base : Nat} {v : Value} {l : List Nat} (h : OwnB w base v l) : ∃ A n c, v = .slice A n c ∧ Hid (l.length = n) ∧ n ≤ c ∧ Hid (A = none → c = 0) ∧ Hid (Rd w w.heap.size A l) := by
 rcases h.2 with ⟨rfl, h0⟩ | ⟨g, cap, cur, rfl, hb, hh, hc, hm, hs, ht⟩
 ·exact ⟨none, 0, 0, rfl, hid h0, by omega, hid fun _ => rfl, hid fun h => by omega⟩
 ·refine ⟨_, _, cap, rfl, hid rfl, hc, hid (fun h => by cases h), hid fun _ => ⟨g, 0, rfl, (Array.getElem?_eq_some_iff.1 hh).1, fun i hi => ?_⟩⟩
  rw [Nat.zero_add, cell_of_row w g i cur _ _ hh]
  have h1 : (cur.toList.take (l.length * 1))[i]? = cur[i]? := by rw [List.getElem?_take_of_lt (by omega)]; simp
  rw [← h1, ht, List.getElem?_map, List.getElem?_eq_getElem hi, List.getD_eq_getElem?_getD, List.getElem?_eq_getElem hi]
  rfl
theorem OwnB.kept {w w' : World} {base : Nat} {v : Value} {l : List Nat} (h : OwnB w base v l) (hk : ∀ g, v.ownBlock = some g → w'.heap[g]? = w.heap[g]?) : OwnB w' base v l := by
 refine ⟨h.1, ?_⟩
 rcases h.2 with h0 | ⟨g, cap, cur, rfl, hb, hh, r⟩
 ·exact .inl h0
 ·exact .inr ⟨g, cap, cur, rfl, hb, (hk g rfl).trans hh, r⟩
theorem OwnB.block {w : World} {base : Nat} {v : Value} {l : List Nat} (h : OwnB w base v l) (g : Nat) (hg : v.ownBlock = some g) : base ≤ g ∧ g < w.heap.size := by
 rcases h.2 with ⟨rfl, h0⟩ | ⟨g', cap, cur, rfl, hb, hh, r⟩
 ·cases hg
 ·have : g' = g := by simpa [Value.ownBlock] using hg
  subst this
  exact ⟨hb, (Array.getElem?_eq_some_iff.1 hh).1⟩
theorem OwnB.below {w w' : World} {base : Nat} {v : Value} {l : List Nat} (h : OwnB w base v l) (hb : Below w.heap.size w w') : OwnB w' base v l :=
 h.kept fun g hg => hb.block g (h.block g hg).2
set_option maxRecDepth 100000 in
/-- append of bytes to a slice that the call made -/
theorem wpList_append_bytes {w : World} {ops : Array Oper} {rest : List Oper} {o : Oper} {a : Act} {Q : Exit → Act → World → Prop} (hgd : o.guard = none) (s x : Operand)
  (ho : o.op = .call { callee := .builtin .append, args := #[s, x], argTypes := #[143, 143] })
  (base : Nat) (v : Value) (l r : List Nat) (hs : a.eval s = v) (hown : Hid (OwnB w base v l)) (A : Option Addr) (m c : Nat) (hx : a.eval x = .slice A m c) (hm : Hid (r.length = m)) (hn : A = none → c = 0)
  (hr : Hid (Rd w w.heap.size A r)) (hlen : l.length + m ≤ 1099511627776) (hbase : base ≤ w.heap.size)
  (h : ∀ v' w', Hid (OwnB w' base v' (l ++ r)) → Hid (Below base w w') → wpList Tryz.prog ops Q rest (a.put o.dst v') w') : wpList Tryz.prog ops Q (o :: rest) a w := by
 obtain ⟨i0, hi, hz0, hz1, hz2⟩ := info_parts info_u8
 obtain rfl := hm.out
 rcases A with _ | ad
 ·obtain rfl := hn rfl
  have h0 : r = [] := by
   apply Classical.byContradiction
   intro hne
   obtain ⟨g, off, e, _⟩ := hr.out (List.length_pos_iff.2 hne)
   cases e
  subst h0
  refine wpList_append_own_none hgd s x _ ho base _ i0 1 Tryz.underlying143 hi v _ _ hs hown.out hx ?_
  exact h v w (hid (by rw [List.append_nil]; exact hown.out)) (hid (Below.refl _ _))
 ·refine wpList_append_own_at _ hgd s x _ ho base _ i0 _ 1 1 Tryz.underlying143 hi hz0 hz1 hz2 rfl (by omega) v _ _ hs hown.out ad r.length c (r.map fun x => Value.int .u8 (x : Nat)) hx (by simp) (fun j u hu => ?_) (fun u hu => ?_) (by unfold maxLen; omega) (by omega) hbase ?_
  ·have hj : j < r.length := by have := (List.getElem?_eq_some_iff.1 hu).1; simpa using this
   obtain ⟨g, off, e, _, hc⟩ := hr.out (by omega)
   injection e with e
   subst e
   rw [add_row, hc j hj, ← hu, List.getElem?_map, List.getD_eq_getElem?_getD, List.getElem?_eq_getElem hj]
   rfl
  ·simp only [List.mem_map] at hu
   obtain ⟨x, _, rfl⟩ := hu
   rfl
  ·intro v' w' h1 h2 _ h3
   refine h v' w' (hid ?_) (hid ⟨h2.os, h2.tape, h2.output, h2.size, fun i hi => ?_⟩)
   ·unfold OwnB; rw [List.length_append, List.map_append]; exact h1
   ·refine h2.block i (Nat.lt_of_lt_of_le hi hbase) (fun e => ?_)
    have := (hown.out.block i e.symm).1
    omega
set_option maxRecDepth 100000 in
theorem grow_nil (n : Nat) (w : World) (hn : n ≤ 1099511627776) :
  Calls Tryz.prog 151 #[.slice none 0 0, .int .i64 n] w fun e w' => ∃ v, e = .returned v ∧ OwnB w' w.heap.size v [] ∧ Below w.heap.size w w' := by
 by_cases h0 : n = 0
 ·subst h0
  go_enter Tryz.func151, Tryz.ntmps151
  go_wp2_with fail
  go_ret
  exact ⟨_, rfl, OwnB.nil _ _, Below.refl _ _⟩
 ·obtain ⟨i0, hi, hz0, hz1, hz2⟩ := info_parts info_u8
  have hold : (Builtin.firstCells i0.size 0 (.slice none 0 0)).run Tryz.prog w.drew = .ok ([] : List Value).toArray w.drew := run_firstCells_none w.drew i0.size 0 0 0
  have hrz := Lib.run_append_grow_zeros (P := Tryz.prog) w 143 3 143 5 i0 (.int .u8 0) .i64 .i64 Tryz.underlying143 Tryz.underlying3 hi hz0 none 0 0 [] hold n (by omega) (by omega) (by omega) (by omega) (by rw [hz2]; omega) (growslice_fits (by omega) (by rw [hz2]; omega))
  have hG := grownCap_ge w (0 + n) 0 5
  have hG2 := grownCap_le_maxLen w (0 + n) 0 5 (by unfold maxLen; omega)
  generalize grownCap w (0 + n) 0 5 = G at *
  rw [Nat.zero_add] at hrz hG
  unfold maxLen at hG2
  have HR := hid hrz
  clear hrz hold
  have hn1 : 0 < n := by omega
  go_enter Tryz.func151, Tryz.ntmps151
  go_wp2_with (at_builtin; refine Lib.wpList_append_run _ rfl _ _ _ _ rfl _ _ rfl rfl _ _ HR.out ?_)
  go_ret
  refine ⟨_, rfl, ⟨rfl, .inr ⟨w.heap.size, G, _, rfl, Nat.le_refl _, heap_alloc_new w.drew _, by simp, by unfold maxLen; omega, ?_, by simp⟩⟩, ((Below.refl _ _).drew).alloc (Nat.le_refl _) _⟩
  simp [Builtin.zeroCells]
  omega
open SzTree
set_option maxRecDepth 100000
/-- a slice that the call made grew: its own block alone may have changed, or it lies in a new one -/
def Grew (v v' : Value) (w w' : World) : Prop := w.grownBy w' v.ownBlock ∧ (v'.ownBlock = v.ownBlock ∨ ∃ g, v'.ownBlock = some g ∧ w.heap.size ≤ g)
theorem Grew.refl (v : Value) (w : World) : Grew v v w w := ⟨⟨rfl, rfl, rfl, Nat.le_refl _, fun _ _ _ => rfl⟩, .inl rfl⟩
theorem Grew.trans {v v1 v2 : Value} {w w1 w2 : World} (h : Grew v v1 w w1) (k : Grew v1 v2 w1 w2) : Grew v v2 w w2 := by
 refine ⟨⟨k.1.os.trans h.1.os, k.1.tape.trans h.1.tape, k.1.output.trans h.1.output, Nat.le_trans h.1.size k.1.size, fun i hi hne => (k.1.block i (Nat.lt_of_lt_of_le hi h.1.size) (fun e => ?_)).trans (h.1.block i hi hne)⟩, ?_⟩
 ·rcases h.2 with e1 | ⟨g, e1, hg⟩
  ·exact hne (e.trans e1)
  ·rw [e1] at e
   injection e with e
   omega
 ·rcases k.2 with e1 | ⟨g, e1, hg⟩
  ·rcases h.2 with e2 | ⟨g, e2, hg⟩
   ·exact .inl (e1.trans e2)
   ·exact .inr ⟨g, e1.trans e2, hg⟩
  ·exact .inr ⟨g, e1, Nat.le_trans h.1.size hg⟩
theorem Grew.ahead {v v' : Value} {w w1 w2 : World} (hb : Below w.heap.size w w1) (k : Grew v v' w1 w2) : Grew v v' w w2 := by
 refine ⟨⟨k.1.os.trans hb.os, k.1.tape.trans hb.tape, k.1.output.trans hb.output, Nat.le_trans hb.size k.1.size, fun i hi hne => (k.1.block i (Nat.lt_of_lt_of_le hi hb.size) hne).trans (hb.block i hi)⟩, ?_⟩
 rcases k.2 with e1 | ⟨g, e1, hg⟩
 ·exact .inl e1
 ·exact .inr ⟨g, e1, Nat.le_trans hb.size hg⟩
theorem Grew.then {v v' : Value} {w w1 w2 : World} (k : Grew v v' w w1) (hb : Below w1.heap.size w1 w2) : Grew v v' w w2 :=
 ⟨⟨hb.os.trans k.1.os, hb.tape.trans k.1.tape, hb.output.trans k.1.output, Nat.le_trans k.1.size hb.size, fun i hi hne => (hb.block i (Nat.lt_of_lt_of_le hi k.1.size)).trans (k.1.block i hi hne)⟩, k.2⟩
theorem Grew.below {v v' : Value} {w w' : World} {base : Nat} (k : Grew v v' w w') (hb : base ≤ w.heap.size) (hv : ∀ g, v.ownBlock = some g → base ≤ g) : Below base w w' :=
 ⟨k.1.os, k.1.tape, k.1.output, k.1.size, fun i hi => k.1.block i (by omega) (fun e => by have := hv i e.symm; omega)⟩
theorem wpList_append_grew {w : World} {ops : Array Oper} {rest : List Oper} {o : Oper} {a : Act} {Q : Exit → Act → World → Prop} (hgd : o.guard = none) (s x : Operand)
  (ho : o.op = .call { callee := .builtin .append, args := #[s, x], argTypes := #[143, 143] })
  (base : Nat) (v : Value) (l r : List Nat) (hs : a.eval s = v) (hown : Hid (OwnB w base v l)) (A : Option Addr) (m c : Nat) (hx : a.eval x = .slice A m c) (hm : Hid (r.length = m)) (hn : A = none → c = 0)
  (hr : Hid (Rd w w.heap.size A r)) (hlen : l.length + m ≤ 1099511627776) (hbase : base ≤ w.heap.size)
  (h : ∀ v' w', Hid (OwnB w' base v' (l ++ r)) → Hid (Grew v v' w w') → wpList Tryz.prog ops Q rest (a.put o.dst v') w') : wpList Tryz.prog ops Q (o :: rest) a w := by
 obtain ⟨i0, hi, hz0, hz1, hz2⟩ := info_parts info_u8
 obtain rfl := hm.out
 rcases A with _ | ad
 ·obtain rfl := hn rfl
  have h0 : r = [] := by
   apply Classical.byContradiction
   intro hne
   obtain ⟨g, off, e, _⟩ := hr.out (List.length_pos_iff.2 hne)
   cases e
  subst h0
  refine wpList_append_own_none hgd s x _ ho base _ i0 1 Tryz.underlying143 hi v _ _ hs hown.out hx ?_
  exact h v w (hid (by rw [List.append_nil]; exact hown.out)) (hid (Grew.refl _ _))
 ·refine wpList_append_own_at _ hgd s x _ ho base _ i0 _ 1 1 Tryz.underlying143 hi hz0 hz1 hz2 rfl (by omega) v _ _ hs hown.out ad r.length c (r.map fun x => Value.int .u8 (x : Nat)) hx (by simp) (fun j u hu => ?_) (fun u hu => ?_) (by unfold maxLen; omega) (by omega) hbase ?_
  ·have hj : j < r.length := by have := (List.getElem?_eq_some_iff.1 hu).1; simpa using this
   obtain ⟨g, off, e, _, hc⟩ := hr.out (by omega)
   injection e with e
   subst e
   rw [add_row, hc j hj, ← hu, List.getElem?_map, List.getD_eq_getElem?_getD, List.getElem?_eq_getElem hj]
   rfl
  ·simp only [List.mem_map] at hu
   obtain ⟨x, _, rfl⟩ := hu
   rfl
  ·intro v' w' h1 h2 h3 h4
   refine h v' w' (hid ?_) (hid ⟨h2, ?_⟩)
   ·unfold OwnB
    rw [List.length_append, List.map_append]; exact h1
   ·rcases h4 with e | e
    ·exact .inl e
    ·exact .inr ⟨_, e, Nat.le_refl _⟩
theorem one_rowU (W : World) (x : Nat) : Rd (W.alloc (.cells #[.int .u8 (x : Nat)] 5)) (W.alloc (.cells #[.int .u8 (x : Nat)] 5)).heap.size (some ⟨W.heap.size, 0, none⟩) [x] := fun _ =>
 ⟨_, 0, rfl, by simp, fun i hi => by
  have : i = 0 := by simpa using hi
  subst this
  rw [Nat.add_zero, cell_of_row _ _ _ _ _ _ (heap_alloc_new W _)]; rfl⟩
theorem or128 (x : Nat) (h : x < 256) : bits .or .u8 (x : Int) 128 = ((x % 128 + 128 : Nat) : Int) := by
 have : ∀ y : Fin 256, bits .or .u8 ((y : Nat) : Int) 128 = (((y : Nat) % 128 + 128 : Nat) : Int) := by decide +kernel
 exact this ⟨x, h⟩
set_option maxRecDepth 100000 in
theorem numeral_any (v : Value) (l : List Nat) (u base : Nat) (w : World) (hO : Hid (OwnB w base v l)) (hl : l.length ≤ 1099511620000) (hu : u < 18446744073709551616) (hb : base ≤ w.heap.size) :
  Calls Tryz.prog 158 #[v, .int .u64 (u : Nat)] w fun e w' => ∃ v', e = .returned v' ∧ OwnB w' base v' (l ++ num u) ∧ Grew v v' w w' := by
 go_enter Tryz.func158, Tryz.ntmps158
 go_wp2_with fail
 go_loopw [0, 1] (fun v2 i wr => ∃ j k : Nat, j ≤ 10 ∧ i = .int .u64 (k : Nat) ∧ Hid (k = u / 128 ^ j ∧ ∀ t, t < j → 128 ≤ u / 128 ^ t) ∧ Hid (OwnB wr base v2 (l ++ numP j u)) ∧ Hid (Grew v v2 w wr)) (fun _ i _ => (intOf i).toNat)
 case atStart => exact ⟨0, u, by omega, rfl, hid ⟨by simp, fun t ht => by omega⟩, hid (by rw [numP, List.append_nil]; exact hO.out), hid (Grew.refl _ _)⟩
 case round =>
  clear hO
  obtain ⟨j, k, hj, rfl, HK, hO, hB⟩ := hrel
  by_cases hlt : 128 ≤ k
  ·have hj9 : j < 10 := by
    rcases Nat.lt_or_ge j 10 with h | h
    ·exact h
    ·exfalso
     have e : j = 10 := by omega
     have := HK.out.1
     rw [e, Nat.div_eq_of_lt (by omega)] at this
     omega
   have hkl : k < 18446744073709551616 := by have := HK.out.1; have := Nat.div_le_self u (128 ^ j); omega
   obtain ⟨x, HX⟩ : ∃ x : Nat, Hid (k % 256 = x) := ⟨_, hid rfl⟩
   have hx : (k : Int) % 256 = (x : Int) := by rw [← HX.out]; omega
   obtain ⟨y, HY⟩ : ∃ y : Nat, Hid (x % 128 + 128 = y) := ⟨_, hid rfl⟩
   have hy : bits .or .u8 (x : Int) 128 = (y : Int) := by rw [or128 x (by rw [← HX.out]; omega), HY.out]
   obtain ⟨m, HM⟩ : ∃ m : Nat, Hid (k / 128 = m) := ⟨_, hid rfl⟩
   have hm : (k : Int) / 128 = (m : Int) := by rw [← HM.out]; omega
   have d1 : decide ((128 : Int) ≤ (k : Int)) = true := eQ (by omega)
   have hlen : (l ++ numP j u).length + 1 ≤ 1099511627776 := by rw [List.length_append, numP_length]; omega
   have HB1 := hid (hB.out.then ((Below.refl _ _).alloc (Nat.le_refl _) (.cells #[.int .u8 (y : Nat)] 5)))
   have HO1 : Hid (OwnB (wr.alloc (.cells #[.int .u8 (y : Nat)] 5)) base _ (l ++ numP j u)) := hid (hO.out.below ((Below.refl _ _).alloc (Nat.le_refl _) _))
   have HS1 := hid (Nat.le_trans hb HB1.out.1.size)
   go_wp2_with (at_builtin; refine wpList_append_grew rfl (.tmp 9) (.tmp 13) rfl base _ _ [y] rfl HO1 (some ⟨wr.heap.size, 0, none⟩) 1 1 rfl (hid rfl) (fun h => by cases h) (hid (one_rowU wr y)) hlen HS1.out ?_; intro v2 w2 HO2 HB2)
   go_roundw
   case rel =>
    refine ⟨j + 1, m, by omega, rfl, hid ⟨by rw [← HM.out, HK.out.1, Nat.div_div_eq_div_mul, ← Nat.pow_succ], fun t ht => ?_⟩, hid ?_, hid (HB1.out.trans HB2.out)⟩
    ·rcases Nat.lt_or_ge t j with h | h
     ·exact HK.out.2 t h
     ·have e : t = j := by omega
      rw [e, ← HK.out.1]; exact hlt
    ·have e : u / 128 ^ j % 128 + 128 = y := by rw [← HK.out.1, ← HY.out, ← HX.out]; omega
     rw [numP_snoc, e, ← List.append_assoc]; exact HO2.out
   case measure => have := HM.out; simp [intOf]; omega
  ·have d1 : decide ((128 : Int) ≤ (k : Int)) = false := dQ (by omega)
   have hx : (k : Int) % 256 = (k : Int) := by omega
   have hkk : k < 256 := by omega
   have hlen : (l ++ numP j u).length + 1 ≤ 1099511627776 := by rw [List.length_append, numP_length]; omega
   have HB1 := hid (hB.out.then ((Below.refl _ _).alloc (Nat.le_refl _) (.cells #[.int .u8 (k : Nat)] 5)))
   have HO1 : Hid (OwnB (wr.alloc (.cells #[.int .u8 (k : Nat)] 5)) base _ (l ++ numP j u)) := hid (hO.out.below ((Below.refl _ _).alloc (Nat.le_refl _) _))
   have HS1 := hid (Nat.le_trans hb HB1.out.1.size)
   have HE : Hid (l ++ num u = l ++ numP j u ++ [k]) := hid (by
    rw [num, numB_stop 10 j u HK.out.2 (by rw [← HK.out.1]; omega) hj, ← HK.out.1, List.append_assoc])
   clear hlt
   go_wp2_with (at_builtin; refine wpList_append_grew rfl (.tmp 15) (.tmp 18) rfl base _ _ [k] rfl HO1 (some ⟨wr.heap.size, 0, none⟩) 1 1 rfl (hid rfl) (fun h => by cases h) (hid (one_rowU wr k)) hlen HS1.out ?_; intro v2 w2 HO2 HB2)
   go_ret
   exact ⟨_, rfl, by rw [HE.out]; exact HO2.out, HB1.out.trans HB2.out⟩
theorem xor0 (a : Int) (h0 : 0 ≤ a) (h : a < 18446744073709551616) : bits .xor .u64 a 0 = a := by
 show IntKind.u64.wrap ((BitVec.ofInt 64 a ^^^ BitVec.ofInt 64 0).toNat : Int) = _
 rw [show BitVec.ofInt 64 0 = 0#64 by decide, BitVec.xor_zero, BitVec.toNat_ofInt, IntKind.wrap_u64, show ((2 ^ 64 : Nat) : Int) = 18446744073709551616 from rfl]
 omega
theorem xorAll (a : Int) (h0 : 0 ≤ a) (h : a < 18446744073709551616) : bits .xor .u64 a 18446744073709551615 = 18446744073709551615 - a := by
 show IntKind.u64.wrap ((BitVec.ofInt 64 a ^^^ BitVec.ofInt 64 18446744073709551615).toNat : Int) = _
 rw [show BitVec.ofInt 64 18446744073709551615 = BitVec.allOnes 64 by decide, BitVec.xor_allOnes, BitVec.toNat_not, BitVec.toNat_ofInt, IntKind.wrap_u64, show ((2 ^ 64 : Nat) : Int) = 18446744073709551616 from rfl, show (2 : Nat) ^ 64 = 18446744073709551616 from rfl]
 omega
theorem zigE (z : Int) (h1 : -9223372036854775808 ≤ z) (h2 : z ≤ 9223372036854775807) : bits .xor .u64 (IntKind.u64.wrap (IntKind.u64.wrap z * 2)) (IntKind.u64.wrap (z / 9223372036854775808)) = (zig z : Nat) := by
 simp only [IntKind.wrap_u64]
 unfold zig
 by_cases h : 0 ≤ z
 ·rw [if_pos h, show z / 9223372036854775808 % 18446744073709551616 = 0 by omega, xor0 _ (by omega) (by omega)]
  omega
 ·rw [if_neg h, show z / 9223372036854775808 % 18446744073709551616 = 18446744073709551615 by omega, xorAll _ (by omega) (by omega)]
  omega
set_option maxRecDepth 100000 in
theorem unsigned_any (z : Int) (w : World) (h1 : -9223372036854775808 ≤ z) (h2 : z ≤ 9223372036854775807) :
  Calls Tryz.prog 159 #[.int .i64 z] w fun e w' => e = .returned (.int .u64 (zig z : Nat)) ∧ w = w' := by
 go_enter Tryz.func159, Tryz.ntmps159
 go_wp2_with fail
 go_ret
 exact ⟨by rw [← zigE z h1 h2]; rfl, rfl⟩
section
variable {P : Program} {ops : Array Oper}
def upd (x : Nat → Value) (i : Nat) (v : Value) : Nat → Value := fun j => bif Nat.beq j i then v else x j
theorem upd_same (x : Nat → Value) (i : Nat) (v : Value) : upd x i v i = v := by unfold upd; rw [show Nat.beq i i = true by simp]; rfl
theorem upd_ne (x : Nat → Value) (v : Value) {i j : Nat} (h : j ≠ i) : upd x i v j = x j := by
 unfold upd; rw [show Nat.beq j i = false by cases hb : Nat.beq j i; rfl; exact absurd (Nat.eq_of_beq_eq_true hb) h]; rfl
theorem wp_flow {o : Oper} {a : Act} {w : World} {K : Act → World → Prop} {Q Q' : Exit → Act → World → Prop} (hQ : ∀ e a w, e ≠ .normal → ¬ Q' e a w) (hK : ∀ a' w', Q' .normal a' w' → K a' w')
  (hh : o.wp P a w (wpList P ops Q' []) Q') : o.wp P a w K Q := by
 have hL : ¬ LetsOut Q' := fun ⟨a, w, h⟩ => hQ _ a w (by simp) h
 unfold Oper.wp at *
 generalize (execOp a.eval o).run P w = r at *
 cases r with
 | ok n w' =>
  cases n <;> simp only [Oper.upon] at hh ⊢ <;>
   first
    | exact hK _ _ hh
    | exact Calls.mono hh (fun e w'' he => by cases e <;> first | exact hK _ _ he | exact absurd he (hQ _ _ _ (by simp)) | exact absurd he hL)
    | exact Rows.mono hh (fun _ _ he => hK _ _ he)
 | halt x w' => cases x <;> simp only [Oper.upon] at hh ⊢ <;> exact absurd hh (hQ _ _ _ (by simp))
theorem wpOp_flow {i : Nat} {o : Oper} {a : Act} {w : World} {K : Act → World → Prop} {Q Q' : Exit → Act → World → Prop} (ho : ops[i]? = some o) (hQ : ∀ e a w, e ≠ .normal → ¬ Q' e a w) (hK : ∀ a' w', Q' .normal a' w' → K a' w')
  (h : wpList P ops Q' [o] a w) : wpOp P ops Q i K a w := by
 have hL : ¬ LetsOut Q' := fun ⟨a, w, h⟩ => hQ _ a w (by simp) h
 unfold wpList at h
 unfold wpOp
 simp only [ho]
 split at h
 ·rename_i hw
  rw [if_pos hw]
  rcases h with h | h
  ·exact .inl (wp_flow hQ hK h)
  ·exact absurd h.2 hL
 ·rename_i hw
  rw [if_neg hw]
  exact hK _ _ h
/-- each operation waits for earlier ones alone -/
def flowB (l : List Oper) : Bool := (List.range l.length).all fun i => (l[i]?.map fun o => o.after.all fun e => !Region.binds .any e || decide (e.on < i)).getD true
/-- what a fact is tied to, its operation waits for -/
def tiedB (k : Nat → Nat) (l : List Oper) : Bool := (List.range l.length).all fun i => Nat.beq (k i) i || (l[i]?.map fun o => o.after.any fun e => Region.binds .any e && Nat.beq e.on (k i)).getD true
def cnt (listed : Array Bool) (n : Nat) : Nat := (List.range n).countP fun i => !listed.getD i true
theorem countP_drop {p q : Nat → Bool} {i : Nat} : ∀ l : List Nat, l.Nodup → i ∈ l → p i = true → q i = false → (∀ j, j ≠ i → q j = p j) → l.countP q + 1 = l.countP p
 | [], _, h, _, _, _ => by cases h
 | a :: l, hn, hi, hp, hq, hj => by
  by_cases e : a = i
  ·subst e
   have hna : a ∉ l := (List.nodup_cons.1 hn).1
   have hl : l.countP q = l.countP p := List.countP_congr fun x hx => by rw [hj x (fun e => hna (e ▸ hx))]
   rw [List.countP_cons, List.countP_cons, hp, hq, hl]; simp
  ·have hm : i ∈ l := by rcases List.mem_cons.1 hi with h | h; exact absurd h.symm e; exact h
   have ih := countP_drop l (List.nodup_cons.1 hn).2 hm hp hq hj
   rw [List.countP_cons, List.countP_cons, hj a e]; omega
end
section
variable {P : Program} {ops : Array Oper}
def dataE (e : Edge) : Bool := match e.ground with
 | .data => true
 | .guard => true
 | _ => false
theorem dataE_binds {e : Edge} (h : dataE e = true) : Region.binds .any e = true := by
 unfold dataE at h; unfold Region.binds
 cases hg : e.ground <;> rw [hg] at h <;> first | rfl | cases h
def usesB (l : List Oper) (m j : Nat) : Bool := (l[m]?.map fun o => o.after.any fun e => dataE e && Nat.beq e.on j).getD false
end
end Go.Proofs.YtmfmgeapecapiaaGreatDoor
