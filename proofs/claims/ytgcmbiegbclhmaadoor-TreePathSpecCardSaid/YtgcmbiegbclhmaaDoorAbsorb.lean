/- sizar/digest: (*state).absorb adds a block to the state. -/
import Derived.Deep.QuietTactic
import Derived.BigQuiet
import Derived.StillTailTactics
import Derived.Deep.RegionLaw
import Derived.Test.YtgcmbiegbclhmaaDoorDig2
import Derived.Test.YtgcmbiegbclhmaaDoorRowLaws
namespace Go.Proofs.YtgcmbiegbclhmaaDoor
open Go.RowKit SzSha
set_option linter.unusedVariables false
/-- the table K lies where the program reads it -/
def TabK (w : World) : Prop := ∀ t, t < 64 → w.cell? ⟨1, t, none⟩ = some (.int .u32 (kf t : Nat))
/-- a row of bytes -/
def BytesAt (w : World) (g off : Nat) (l : List Nat) : Prop := ∀ i, i < l.length → w.cell? ⟨g, off + i, none⟩ = some (.int .u8 (l.getD i 0 : Nat))
def schF (l : List Nat) (k j : Nat) : Value := .int .u32 ((if j < k then wt l j else 0 : Nat))
def stF (v : Nat → Nat) (j : Nat) : Value := .int .u32 (v j : Nat)
def blF (l : List Nat) (s : Nat → Nat) (k j : Nat) : Value := .int .u32 ((if j < k then block s l j else s j : Nat))
theorem wordN_word (l : List Nat) (k : Nat) : wordN (fun i => l.getD (4 * k + i) 0) 4 = word l k := by
  simp [wordN, word]
theorem xor3 (a b c : Nat) (ha : a < 4294967296) (hb : b < 4294967296) (hc : c < 4294967296) : bits .xor .u32 (bits .xor .u32 (a : Int) (b : Int)) (c : Int) = (((a ^^^ b) ^^^ c : Nat) : Int) := by
  rw [u32_xor_nat a b ha hb, u32_xor_nat _ c (SzSha.xor_lt ha hb) hc]
theorem sch_end (d x f y : Nat) (hx : x < 4294967296) (hy : y < 4294967296) : ((d : Int) + bits .xor .u32 (bits .xor .u32 (ror x 7 : Nat) (ror x 18 : Nat)) ((x : Int) / 8) + (f : Int) + bits .xor .u32 (bits .xor .u32 (ror y 17 : Nat) (ror y 19 : Nat)) ((y : Int) / 1024)) % 4294967296 = (add (add (add d (sg0 x)) f) (sg1 y) : Nat) := by
  have e1 := xor3 (ror x 7) (ror x 18) (x / 8) (ror_lt _ _ hx) (ror_lt _ _ hx) (div_lt _ hx)
  have e2 := xor3 (ror y 17) (ror y 19) (y / 1024) (ror_lt _ _ hy) (ror_lt _ _ hy) (div_lt _ hy)
  have c1 : ((x : Int) / 8) = ((x / 8 : Nat) : Int) := by omega
  have c2 : ((y : Int) / 1024) = ((y / 1024 : Nat) : Int) := by omega
  rw [c1, c2, e1, e2]
  show _ = ((add (add (add d (sg0 x)) f) (sg1 y) : Nat) : Int)
  change ((d : Int) + (sg0 x : Nat) + (f : Int) + (sg1 y : Nat)) % 4294967296 = _
  unfold add
  omega
theorem addI (a b : Nat) : ((a : Int) + (b : Int)) % 4294967296 = (add a b : Nat) := by unfold add; omega
theorem add_row (b o j : Nat) : (⟨b, o, none⟩ : Addr).add j = ⟨b, o + j, none⟩ := by
  unfold Addr.add
  split
  · rename_i h; rw [h]; rfl
  · rfl
theorem blF_set (l : List Nat) (s : Nat → Nat) (k : Nat) : (fun j => if j = k then Value.int .u32 (block s l k : Nat) else blF l s k j) = blF l s (k + 1) := by
  funext j
  unfold blF
  by_cases e : j = k
  · rw [if_pos e, if_pos (by omega), e]
  · rw [if_neg e]
    by_cases e2 : j < k
    · rw [if_pos e2, if_pos (by omega)]
    · rw [if_neg e2, if_neg (by omega)]
theorem rp_end (v : Nat → Nat) (k w : Nat) (h : Words v) :
    IntKind.u32.wrap (IntKind.u32.wrap (IntKind.u32.wrap (IntKind.u32.wrap ((v 7 : Int) + (rot3 (v 4) 6 11 25 : Nat)) + bits .xor .u32 (v 6 : Nat) (bits .and .u32 (v 4 : Nat) (bits .xor .u32 (v 5 : Nat) (v 6 : Nat)))) + (k : Int)) + (w : Int)) = (rp v k w : Nat) := by
  rw [u32_xor_nat _ _ (h 5 (by omega)) (h 6 (by omega)), u32_and_nat _ _ (h 4 (by omega)) (SzSha.xor_lt (h 5 (by omega)) (h 6 (by omega))), u32_xor_nat _ _ (h 6 (by omega)) (SzSha.and_lt (h 4 (by omega)))]
  change IntKind.u32.wrap (IntKind.u32.wrap (IntKind.u32.wrap (IntKind.u32.wrap ((v 7 : Int) + (rot3 (v 4) 6 11 25 : Nat)) + (ch (v 4) (v 5) (v 6) : Nat)) + (k : Int)) + (w : Int)) = _
  simp only [IntKind.wrap_u32', rp, add]
  omega
theorem rq_end (v : Nat → Nat) (h : Words v) :
    IntKind.u32.wrap ((rot3 (v 0) 2 13 22 : Nat) + bits .or .u32 (bits .and .u32 (v 0 : Nat) (v 1 : Nat)) (bits .and .u32 (v 2 : Nat) (bits .or .u32 (v 0 : Nat) (v 1 : Nat)))) = (rq v : Nat) := by
  rw [u32_and_nat _ _ (h 0 (by omega)) (h 1 (by omega)), u32_or_nat _ _ (h 0 (by omega)) (h 1 (by omega)), u32_and_nat _ _ (h 2 (by omega)) (SzSha.or_lt (h 0 (by omega)) (h 1 (by omega))), u32_or_nat _ _ (SzSha.and_lt (h 0 (by omega))) (SzSha.and_lt (h 2 (by omega)))]
  change IntKind.u32.wrap ((rot3 (v 0) 2 13 22 : Nat) + (maj (v 0) (v 1) (v 2) : Nat)) = _
  simp only [IntKind.wrap_u32', rq, add]
  omega
theorem rnd_row (v : Nat → Nat) (k w : Nat) (j : Nat) (hj : j < 8) :
    (if j = 0 then Value.int .u32 (add (rp v k w) (rq v) : Nat) else if j = 4 then Value.int .u32 (add (v 3) (rp v k w) : Nat) else overF 1 7 (stF v) (stF v) j) = stF (rnd v k w) j := by
  unfold stF rnd overF
  by_cases e0 : j = 0
  · rw [if_pos e0, if_pos e0]
  · rw [if_neg e0, if_neg e0]
    by_cases e4 : j = 4
    · rw [if_pos e4, if_pos e4]
    · rw [if_neg e4, if_neg e4, if_pos (by omega)]
theorem schF_set (l : List Nat) (k : Nat) : (fun j => if j = k then Value.int .u32 (wt l k : Nat) else schF l k j) = schF l (k + 1) := by
  funext j
  unfold schF
  by_cases e : j = k
  · rw [if_pos e, if_pos (by omega), e]
  · rw [if_neg e]
    by_cases e2 : j < k
    · rw [if_pos e2, if_pos (by omega)]
    · rw [if_neg e2, if_neg (by omega)]
set_option maxRecDepth 100000 in
set_option maxHeartbeats 4000000 in
theorem absorb_any (gs T gb off c : Nat) (s : Nat → Nat) (l : List Nat) (w : World) (hl : Hid (l.length = 64)) (hb : Hid (Bytes l)) (hs : Hid (Words s)) (hc : 64 ≤ c) (hgs : Hid (w.rowIs gs T 8 (stF s)))
    (hgb : gb < w.heap.size) (hne : gb ≠ gs) (hkk : 1 < w.heap.size) (hnk : 1 ≠ gs) (hK : Hid (TabK w)) (hL : Hid (BytesAt w gb off l)) :
    Calls Tryd.prog 56 #[.pointer (some ⟨gs, 0, none⟩), .slice (some ⟨gb, off, none⟩) 64 c] w fun e w' => (∃ v, e = .returned v) ∧ w'.rowIs gs T 8 (stF (block s l)) ∧ w.grownBy w' (some gs) := by
  have hgl := hgs.out.lt
  go_enter Tryd.func56, Tryd.ntmps56
  go_wp2_with fail
  go_loopw [14] (fun i wr => ∃ k : Nat, k ≤ 16 ∧ i = .int .i64 k ∧ Hid (wr.rowIs w.heap.size 108 64 (schF l k)) ∧ Hid (Below w.heap.size w wr)) (fun i _ => 16 - (intOf i).toNat)
  case atStart => exact ⟨0, by omega, rfl, Lib.hid (World.rowIs_alloc w _ _ _ (fun i hi => by
      have : ∀ j : Fin 64, (Array.replicate 64 (Value.int .u32 0))[j.val]? = some (schF l 0 j.val) := fun j => by simp [schF]
      exact this ⟨i, hi⟩)), Lib.hid ((Below.refl _ _).alloc (Nat.le_refl _) _)⟩
  case round =>
    obtain ⟨k, hk1, rfl, hr, hg⟩ := hrel
    by_cases hlt : k < 16
    · have hcell := hr.out.cell (i := k) (by omega)
      have hfr := hr.out.frozen k
      have HX : Hid (∀ i, i < 4 → wr.cell? ⟨gb, off + 4 * k + i, none⟩ = some (.int .u8 (l.getD (4 * k + i) 0 : Nat))) := Lib.hid fun i hi => by
        rw [Nat.add_assoc]
        exact (hg.out.cell (p := ⟨gb, off + (4 * k + i), none⟩) hgb).trans (hL.out _ (by have := hl.out; omega))
      have hgg := hg.out.size
      go_wp2_with fail
      refine (word_any gb (off + 4 * k) (64 - 4 * k) (c - 4 * k) (fun i => l.getD (4 * k + i) 0) _ (by omega) (by omega) (fun i _ => hb.out.getD _) HX).mono ?_
      rintro e w1 ⟨rfl, rfl⟩
      rw [wordN_word, ← wt_low l k hlt]
      go_wp2_with fail
      go_roundw
      case rel => exact ⟨k + 1, by omega, by go_num, Lib.hid (by rw [← schF_set]; exact hr.out.set _ _), Lib.hid (hg.out.setCell (p := ⟨w.heap.size, k, none⟩) (Nat.le_refl _) _)⟩
      case measure => simp [intOf]; omega
    · have hr16 : Hid (wr.rowIs w.heap.size 108 64 (schF l 16)) := by have := hr; rw [show k = 16 by omega] at this; exact this
      have d16 : decide ((k : Int) < 16) = false := decide_eq_false (by omega)
      go_wp2_with fail
      go_loopw [6] (fun i wr => ∃ k : Nat, 16 ≤ k ∧ k ≤ 64 ∧ i = .int .i64 k ∧ Hid (wr.rowIs w.heap.size 108 64 (schF l k)) ∧ Hid (Below w.heap.size w wr)) (fun i _ => 64 - (intOf i).toNat)
      case atStart => exact ⟨16, by omega, by omega, rfl, hr16, hg⟩
      case round =>
        clear hr hg hr16 hlt
        obtain ⟨k, hk0, hk, rfl, hr, hg⟩ := hrel
        by_cases hlt : k < 64
        · obtain ⟨d, hd⟩ : ∃ d, d + 16 = k := ⟨k - 16, by omega⟩
          obtain ⟨a, ha⟩ : ∃ a, a + 15 = k := ⟨k - 15, by omega⟩
          obtain ⟨f, hf⟩ : ∃ f, f + 7 = k := ⟨k - 7, by omega⟩
          obtain ⟨b, hb2⟩ : ∃ b, b + 2 = k := ⟨k - 2, by omega⟩
          have hcell := hr.out.cell (i := k) (by omega)
          have hfr := hr.out.frozen k
          have c15 := hr.out.cell (i := a) (by omega)
          have c2 := hr.out.cell (i := b) (by omega)
          have c16 := hr.out.cell (i := d) (by omega)
          have c7 := hr.out.cell (i := f) (by omega)
          unfold schF at c15 c2 c16 c7
          rw [if_pos (by omega)] at c15 c2 c16 c7
          have a64 : (a : Int) < 64 := by omega
          have b64 : (b : Int) < 64 := by omega
          have d64 : (d : Int) < 64 := by omega
          have f64 : (f : Int) < 64 := by omega
          have k64 : (k : Int) < 64 := by omega
          have e15 : IntKind.i64.wrap ((k : Int) - 15) = (a : Int) := by rw [IntWalk.i64_in _ (by omega)]; omega
          have e2 : IntKind.i64.wrap ((k : Int) - 2) = (b : Int) := by rw [IntWalk.i64_in _ (by omega)]; omega
          have e16 : IntKind.i64.wrap ((k : Int) - 16) = (d : Int) := by rw [IntWalk.i64_in _ (by omega)]; omega
          have e7 : IntKind.i64.wrap ((k : Int) - 7) = (f : Int) := by rw [IntWalk.i64_in _ (by omega)]; omega
          have hW := Lib.hid (wt_high l k hk0 hlt)
          have HD := Lib.hid hd
          have HA := Lib.hid ha
          have HF := Lib.hid hf
          have HB := Lib.hid hb2
          clear hd ha hf hb2
          go_wp2_with fail
          refine wp_region_still_lit (by kernel_rfl) (by kernel_rfl) ?_
          repeat still_step
          refine wpStill_nil ?_
          change Exit.then _ _ _ _ wr.drew
          have hr2 : Hid (wr.drew.rowIs w.heap.size 108 64 (schF l k)) := hr
          have hg2 : Hid (Below w.heap.size w wr.drew) := Lib.hid hg.out.drew
          generalize wr.drew = w2 at *
          clear hr hg c15 c2 c16 c7 hcell hfr
          go_wp2_with fail
          refine wp_region_still_tail 29 (by kernel_rfl) (by kernel_rfl) ?_
          change wpStill _ _ w2.drew (fun a' => wpList _ _ _ _ a' w2.drew) _ _
          have hr3 : Hid (w2.drew.rowIs w.heap.size 108 64 (schF l k)) := hr2
          have hg3 : Hid (Below w.heap.size w w2.drew) := Lib.hid hg2.out.drew
          generalize w2.drew = w3 at *
          clear hr2 hg2
          have hcell := hr3.out.cell (i := k) (by omega)
          have hfr := hr3.out.frozen k
          have c16 := hr3.out.cell (i := d) (by omega)
          have c7 := hr3.out.cell (i := f) (by omega)
          unfold schF at c16 c7
          rw [if_pos (by have := HD.out; omega)] at c16
          rw [if_pos (by have := HF.out; omega)] at c7
          have la := wt_lt hb.out a (by omega)
          have lb := wt_lt hb.out b (by omega)
          have SE := Lib.hid (sch_end (wt l d) (wt l a) (wt l f) (wt l b) la lb)
          have EW : Hid (wt l k = add (add (add (wt l d) (sg0 (wt l a))) (wt l f)) (sg1 (wt l b))) := Lib.hid (by
            rw [hW.out, show k - 16 = d by have := HD.out; omega, show k - 15 = a by have := HA.out; omega, show k - 7 = f by have := HF.out; omega, show k - 2 = b by have := HB.out; omega])
          simp only [List.take_succ_cons, List.take_zero, List.drop_succ_cons, List.drop_zero]
          repeat still_step
          still_call ((rotl_any (wt l a) 7 _ la (by omega) (by omega)).mono fun _ _ h => ⟨h.1, h.2.symm⟩)
          repeat still_step
          still_call ((rotl_any (wt l a) 18 _ la (by omega) (by omega)).mono fun _ _ h => ⟨h.1, h.2.symm⟩)
          repeat still_step
          still_call ((rotl_any (wt l b) 17 _ lb (by omega) (by omega)).mono fun _ _ h => ⟨h.1, h.2.symm⟩)
          repeat still_step
          still_call ((rotl_any (wt l b) 19 _ lb (by omega) (by omega)).mono fun _ _ h => ⟨h.1, h.2.symm⟩)
          repeat still_step
          refine wpStill_nil ?_
          go_wp2_with fail
          go_roundw
          case rel =>
            rw [SE.out, ← EW.out]
            exact ⟨k + 1, by omega, by omega, by go_num, Lib.hid (by rw [← schF_set]; exact hr3.out.set _ _), Lib.hid (hg3.out.setCell (p := ⟨w.heap.size, k, none⟩) (Nat.le_refl _) _)⟩
          case measure => simp [intOf]; omega
        · have hr64 : Hid (wr.rowIs w.heap.size 108 64 (schF l 64)) := by have := hr; rw [show k = 64 by omega] at this; exact this
          have hgs0 : ∀ i, i < 8 → wr.cell? ⟨gs, i, none⟩ = some (.int .u32 (s i : Nat)) := fun i hi => (hg.out.cell (p := ⟨gs, i, none⟩) hgl).trans (hgs.out.cell hi)
          have s0 := hgs0 0 (by omega)
          have s1 := hgs0 1 (by omega)
          have s2 := hgs0 2 (by omega)
          have s3 := hgs0 3 (by omega)
          have s4 := hgs0 4 (by omega)
          have s5 := hgs0 5 (by omega)
          have s6 := hgs0 6 (by omega)
          have s7 := hgs0 7 (by omega)
          clear hgs0
          have d64 : decide ((k : Int) < 64) = false := decide_eq_false (by omega)
          go_wp2_with fail
          obtain ⟨w1, hw1⟩ : ∃ w1 : World, w1 = wr := ⟨_, rfl⟩
          have hrv : Hid ((wr.alloc (.cells #[.int .u32 (s 0 : Nat), .int .u32 (s 1 : Nat), .int .u32 (s 2 : Nat), .int .u32 (s 3 : Nat), .int .u32 (s 4 : Nat), .int .u32 (s 5 : Nat), .int .u32 (s 6 : Nat), .int .u32 (s 7 : Nat)] 93)).rowIs wr.heap.size 93 8 (stF s)) := Lib.hid (World.rowIs_alloc _ _ _ _ (fun i hi => by
            have hi' : i < 8 := hi
            match i, hi' with
            | 0, _ => rfl
            | 1, _ => rfl
            | 2, _ => rfl
            | 3, _ => rfl
            | 4, _ => rfl
            | 5, _ => rfl
            | 6, _ => rfl
            | 7, _ => rfl))
          have hlt1 := hr64.out.lt
          have hg1 := Lib.hid (hg.out.alloc hg.out.size (.cells #[.int .u32 (s 0 : Nat), .int .u32 (s 1 : Nat), .int .u32 (s 2 : Nat), .int .u32 (s 3 : Nat), .int .u32 (s 4 : Nat), .int .u32 (s 5 : Nat), .int .u32 (s 6 : Nat), .int .u32 (s 7 : Nat)] 93))
          have hr1 := Lib.hid (hr64.out.alloc (.cells #[.int .u32 (s 0 : Nat), .int .u32 (s 1 : Nat), .int .u32 (s 2 : Nat), .int .u32 (s 3 : Nat), .int .u32 (s 4 : Nat), .int .u32 (s 5 : Nat), .int .u32 (s 6 : Nat), .int .u32 (s 7 : Nat)] 93))
          subst hw1
          clear hr64 hg hr s0 s1 s2 s3 s4 s5 s6 s7
          go_loopw [69] (fun i wr => ∃ k : Nat, k ≤ 64 ∧ i = .int .i64 k ∧ Hid (wr.rowIs w.heap.size 108 64 (schF l 64)) ∧ Hid (wr.rowIs w1.heap.size 93 8 (stF (rounds l s k))) ∧ Hid (Below w.heap.size w wr)) (fun i _ => 64 - (intOf i).toNat)
          case atStart => exact ⟨0, by omega, rfl, hr1, hrv, hg1⟩
          case round =>
            clear hr1 hrv hg1
            obtain ⟨k, hk, rfl, hr, hv, hg⟩ := hrel
            by_cases hlt : k < 64
            · go_wp2_with fail
              refine wp_region_still_lit (by kernel_rfl) (by kernel_rfl) ?_
              change wpStill _ _ wr.drew (fun a' => Exit.then _ _ _ a' wr.drew) _ _
              have hr2 : Hid (wr.drew.rowIs w.heap.size 108 64 (schF l 64)) := hr
              have hv2 : Hid (wr.drew.rowIs w1.heap.size 93 8 (stF (rounds l s k))) := hv
              have hg2 : Hid (Below w.heap.size w wr.drew) := Lib.hid hg.out.drew
              generalize wr.drew = w2 at *
              clear hr hv hg
              have k64 : (k : Int) < 64 := by omega
              have v7 := hv2.out.cell (i := 7) (by omega)
              have v4 := hv2.out.cell (i := 4) (by omega)
              have v5 := hv2.out.cell (i := 5) (by omega)
              have v6 := hv2.out.cell (i := 6) (by omega)
              have wk := hr2.out.cell (i := k) (by omega)
              have nk := (hg2.out.cell (p := ⟨1, k, none⟩) hkk).trans (hK.out k hlt)
              unfold stF at v7 v4 v5 v6
              unfold schF at wk
              rw [if_pos hlt] at wk
              have hWd := rounds_words hs.out l k
              have l4 := hWd 4 (by omega)
              repeat still_step
              still_call ((rotated_any (rounds l s k 4) 6 11 25 _ l4 (by omega) (by omega) (by omega) (by omega) (by omega) (by omega)).mono fun _ _ h => ⟨h.1, h.2.symm⟩)
              repeat still_step
              refine wpStill_nil ?_
              rw [rp_end _ _ _ hWd]
              clear v7 v4 v5 v6 wk nk l4 k64
              go_wp2_with fail
              refine wp_region_still_lit (by kernel_rfl) (by kernel_rfl) ?_
              change wpStill _ _ w2.drew (fun a' => Exit.then _ _ _ a' w2.drew) _ _
              have hr3 : Hid (w2.drew.rowIs w.heap.size 108 64 (schF l 64)) := hr2
              have hv3 : Hid (w2.drew.rowIs w1.heap.size 93 8 (stF (rounds l s k))) := hv2
              have hg3 : Hid (Below w.heap.size w w2.drew) := Lib.hid hg2.out.drew
              generalize w2.drew = w3 at *
              clear hr2 hv2 hg2
              have v0 := hv3.out.cell (i := 0) (by omega)
              have v1 := hv3.out.cell (i := 1) (by omega)
              have v2 := hv3.out.cell (i := 2) (by omega)
              unfold stF at v0 v1 v2
              have l0 := hWd 0 (by omega)
              repeat still_step
              still_call ((rotated_any (rounds l s k 0) 2 13 22 _ l0 (by omega) (by omega) (by omega) (by omega) (by omega) (by omega)).mono fun _ _ h => ⟨h.1, h.2.symm⟩)
              repeat still_step
              refine wpStill_nil ?_
              rw [rq_end _ hWd]
              clear v0 v1 v2 l0
              go_wp2_with fail
              refine wp_region_still_tail 2 (by kernel_rfl) (by kernel_rfl) ?_
              change wpStill _ _ w3.drew (fun a' => wpList _ _ _ _ a' w3.drew) _ _
              have hr4 : Hid (w3.drew.rowIs w.heap.size 108 64 (schF l 64)) := hr3
              have hv4 : Hid (w3.drew.rowIs w1.heap.size 93 8 (stF (rounds l s k))) := hv3
              have hg4 : Hid (Below w.heap.size w w3.drew) := Lib.hid hg3.out.drew
              generalize w3.drew = w4 at *
              clear hr3 hv3 hg3
              simp only [List.take_succ_cons, List.take_zero, List.drop_succ_cons, List.drop_zero]
              repeat still_step
              refine wpStill_nil ?_
              refine wpList_copy_rowIs rfl (.tmp 116) (.tmp 117) 113 113 rfl 91 Tryd.underlying113 (by kernel_rfl) w1.heap.size 1 7 7 (some ⟨w1.heap.size, 0, none⟩) 7 8 rfl rfl 93 8 _ hv4 7 rfl (stF (rounds l s k)) (fun _ => ⟨_, rfl, fun j hj => ?_⟩) (by omega) (fun _ _ => rfl) ?_
              · have := hv4.out.cell (i := j) (by omega)
                rw [add_row, Nat.zero_add]; exact this
              intro w5 hv5 ho5
              have hr5 : Hid (w5.rowIs w.heap.size 108 64 (schF l 64)) := Lib.hid (rowIs_only hr4.out ho5.out (by omega))
              have hg5 : Hid (Below w.heap.size w w5) := Lib.hid (below_of_only hg4.out ho5.out hg4.out.size (by omega))
              clear hr4 hv4 hg4 ho5
              have x4 : w5.cell? ⟨w1.heap.size, 4, none⟩ = some (.int .u32 (rounds l s k 3 : Nat)) := hv5.out.cell (i := 4) (by omega)
              have f4 := hv5.out.frozen 4
              have f0 := hv5.out.frozen 0
              have x0 := hv5.out.cell (i := 0) (by omega)
              go_wp2_with fail
              go_roundw
              case rel =>
                rw [addI, addI]
                exact ⟨k + 1, by omega, by go_num, Lib.hid ((hr5.out.setOther (a := ⟨w1.heap.size, 4, none⟩) (by show w.heap.size ≠ w1.heap.size; omega) _).setOther (a := ⟨w1.heap.size, 0, none⟩) (by show w.heap.size ≠ w1.heap.size; omega) _),
                  Lib.hid (((hv5.out.set 4 _).set 0 _).congr fun j hj => rnd_row _ _ _ j hj), Lib.hid ((hg5.out.setCell (p := ⟨w1.heap.size, 4, none⟩) (by show w.heap.size ≤ w1.heap.size; omega) _).setCell (p := ⟨w1.heap.size, 0, none⟩) (by show w.heap.size ≤ w1.heap.size; omega) _)⟩
              case measure => simp [intOf]; omega
            · have hv64 : Hid (wr.rowIs w1.heap.size 93 8 (stF (rounds l s 64))) := by have := hv; rw [show k = 64 by omega] at this; exact this
              have hs0 : Hid (wr.rowIs gs T 8 (blF l s 0)) := Lib.hid ((rowIs_below hgs.out hg.out hgl).congr fun j hj => by unfold blF stF; rw [if_neg (by omega)])
              have ho0 : Hid (w.grownBy wr (some gs)) := Lib.hid (only_of_below hg.out _)
              clear hr hv hg
              have dk : decide ((k : Int) < 64) = false := decide_eq_false (by omega)
              go_wp2_with fail
              go_loopw [129] (fun i wr => ∃ k : Nat, k ≤ 8 ∧ i = .int .i64 k ∧ Hid (wr.rowIs w1.heap.size 93 8 (stF (rounds l s 64))) ∧ Hid (wr.rowIs gs T 8 (blF l s k)) ∧ Hid (w.grownBy wr (some gs))) (fun i _ => 8 - (intOf i).toNat)
              case atStart => exact ⟨0, by omega, rfl, hv64, hs0, ho0⟩
              case round =>
                clear hv64 hs0 ho0
                obtain ⟨k, hk, rfl, hv, hs1, ho⟩ := hrel
                by_cases hlt : k < 8
                · go_wp2_with fail
                  refine wp_region_still_tail 11 (by kernel_rfl) (by kernel_rfl) ?_
                  change wpStill _ _ wr.drew (fun a' => wpList _ _ _ _ a' wr.drew) _ _
                  have hv2 : Hid (wr.drew.rowIs w1.heap.size 93 8 (stF (rounds l s 64))) := hv
                  have hs2 : Hid (wr.drew.rowIs gs T 8 (blF l s k)) := hs1
                  have ho2 : Hid (w.grownBy wr.drew (some gs)) := Lib.hid (drew_only ho.out)
                  generalize wr.drew = w2 at *
                  clear hv hs1 ho
                  have k8 : (k : Int) < 8 := by omega
                  have vk := hv2.out.cell (i := k) (by omega)
                  have sk := hs2.out.cell (i := k) (by omega)
                  have sf := hs2.out.frozen k
                  unfold stF at vk
                  unfold blF at sk
                  rw [if_neg (by omega)] at sk
                  simp only [List.take_succ_cons, List.take_zero, List.drop_succ_cons, List.drop_zero]
                  repeat still_step
                  refine wpStill_nil ?_
                  go_wp2_with fail
                  go_roundw
                  case rel =>
                    exact ⟨k + 1, by omega, by go_num, Lib.hid (hv2.out.setOther (a := ⟨gs, k, none⟩) (by show w1.heap.size ≠ gs; omega) _), Lib.hid (by rw [← blF_set]; exact hs2.out.set _ _), Lib.hid (only_setCell ho2.out (.inl rfl) _)⟩
                  case measure => simp [intOf]; omega
                · obtain rfl : k = 8 := by omega
                  go_wp2_with fail
                  go_end0
                  exact ⟨⟨_, rfl⟩, hs1.out.congr fun j hj => by unfold blF stF; rw [if_pos hj], ho.out⟩
end Go.Proofs.YtgcmbiegbclhmaaDoor
