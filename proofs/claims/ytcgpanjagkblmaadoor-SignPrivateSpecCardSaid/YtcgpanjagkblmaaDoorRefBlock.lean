/- The reference of layer 2: block: the state after a block. -/
import Derived.Test.YtcgpanjagkblmaaDoorRef02a
import Derived.Test.YtcgpanjagkblmaaDoorQuietTail
namespace Go.Proofs.YtcgpanjagkblmaaDoor
open Go.RowKit SzSha
set_option linter.unusedVariables false
theorem rror_7 (x : Nat) (w : World) (hx : x < 4294967296) : Calls Tryd.prog 76 #[.int .u32 x, .int .i64 7] w fun e w' => e = .returned (.int .u32 (ror x 7 : Nat)) ∧ ∃ m, w' = w.drewN m :=
  (rror_any x 7 w hx (by omega) (by omega)).mono fun _ _ h => ⟨h.1, 1, h.2.symm⟩
theorem rror_18 (x : Nat) (w : World) (hx : x < 4294967296) : Calls Tryd.prog 76 #[.int .u32 x, .int .i64 18] w fun e w' => e = .returned (.int .u32 (ror x 18 : Nat)) ∧ ∃ m, w' = w.drewN m :=
  (rror_any x 18 w hx (by omega) (by omega)).mono fun _ _ h => ⟨h.1, 1, h.2.symm⟩
theorem rror_17 (x : Nat) (w : World) (hx : x < 4294967296) : Calls Tryd.prog 76 #[.int .u32 x, .int .i64 17] w fun e w' => e = .returned (.int .u32 (ror x 17 : Nat)) ∧ ∃ m, w' = w.drewN m :=
  (rror_any x 17 w hx (by omega) (by omega)).mono fun _ _ h => ⟨h.1, 1, h.2.symm⟩
theorem rror_19 (x : Nat) (w : World) (hx : x < 4294967296) : Calls Tryd.prog 76 #[.int .u32 x, .int .i64 19] w fun e w' => e = .returned (.int .u32 (ror x 19 : Nat)) ∧ ∃ m, w' = w.drewN m :=
  (rror_any x 19 w hx (by omega) (by omega)).mono fun _ _ h => ⟨h.1, 1, h.2.symm⟩
theorem rror_6 (x : Nat) (w : World) (hx : x < 4294967296) : Calls Tryd.prog 76 #[.int .u32 x, .int .i64 6] w fun e w' => e = .returned (.int .u32 (ror x 6 : Nat)) ∧ ∃ m, w' = w.drewN m :=
  (rror_any x 6 w hx (by omega) (by omega)).mono fun _ _ h => ⟨h.1, 1, h.2.symm⟩
theorem rror_11 (x : Nat) (w : World) (hx : x < 4294967296) : Calls Tryd.prog 76 #[.int .u32 x, .int .i64 11] w fun e w' => e = .returned (.int .u32 (ror x 11 : Nat)) ∧ ∃ m, w' = w.drewN m :=
  (rror_any x 11 w hx (by omega) (by omega)).mono fun _ _ h => ⟨h.1, 1, h.2.symm⟩
theorem rror_25 (x : Nat) (w : World) (hx : x < 4294967296) : Calls Tryd.prog 76 #[.int .u32 x, .int .i64 25] w fun e w' => e = .returned (.int .u32 (ror x 25 : Nat)) ∧ ∃ m, w' = w.drewN m :=
  (rror_any x 25 w hx (by omega) (by omega)).mono fun _ _ h => ⟨h.1, 1, h.2.symm⟩
theorem rror_2 (x : Nat) (w : World) (hx : x < 4294967296) : Calls Tryd.prog 76 #[.int .u32 x, .int .i64 2] w fun e w' => e = .returned (.int .u32 (ror x 2 : Nat)) ∧ ∃ m, w' = w.drewN m :=
  (rror_any x 2 w hx (by omega) (by omega)).mono fun _ _ h => ⟨h.1, 1, h.2.symm⟩
theorem rror_13 (x : Nat) (w : World) (hx : x < 4294967296) : Calls Tryd.prog 76 #[.int .u32 x, .int .i64 13] w fun e w' => e = .returned (.int .u32 (ror x 13 : Nat)) ∧ ∃ m, w' = w.drewN m :=
  (rror_any x 13 w hx (by omega) (by omega)).mono fun _ _ h => ⟨h.1, 1, h.2.symm⟩
theorem rror_22 (x : Nat) (w : World) (hx : x < 4294967296) : Calls Tryd.prog 76 #[.int .u32 x, .int .i64 22] w fun e w' => e = .returned (.int .u32 (ror x 22 : Nat)) ∧ ∃ m, w' = w.drewN m :=
  (rror_any x 22 w hx (by omega) (by omega)).mono fun _ _ h => ⟨h.1, 1, h.2.symm⟩
theorem rows_drewN {w : World} {b : Nat} {t : TypeId} {n : Nat} {f : Nat → Value} (h : w.rowIs b t n f) (k : Nat) : (w.drewN k).rowIs b t n f := h
theorem below_drewN {B : Nat} {a w : World} (h : Below B a w) (n : Nat) : Below B a (w.drewN n) := ⟨h.os, h.tape, h.output, h.size, h.block⟩
theorem row8 (W : World) (v : Nat → Nat) (t : TypeId) : (W.alloc (.cells #[.int .u32 (v 0 : Nat), .int .u32 (v 1 : Nat), .int .u32 (v 2 : Nat), .int .u32 (v 3 : Nat), .int .u32 (v 4 : Nat), .int .u32 (v 5 : Nat), .int .u32 (v 6 : Nat), .int .u32 (v 7 : Nat)] t)).rowIs W.heap.size t 8 (stF v) := World.rowIs_alloc W _ t _ (fun i hi => by
    have hi' : i < 8 := hi
    match i, hi' with
    | 0, _ => rfl
    | 1, _ => rfl
    | 2, _ => rfl
    | 3, _ => rfl
    | 4, _ => rfl
    | 5, _ => rfl
    | 6, _ => rfl
    | 7, _ => rfl)
theorem row64 (W : World) (l : List Nat) (t : TypeId) : (W.alloc (.cells #[.int .u32 0, .int .u32 0, .int .u32 0, .int .u32 0, .int .u32 0, .int .u32 0, .int .u32 0, .int .u32 0, .int .u32 0, .int .u32 0, .int .u32 0, .int .u32 0, .int .u32 0, .int .u32 0, .int .u32 0, .int .u32 0, .int .u32 0, .int .u32 0, .int .u32 0, .int .u32 0, .int .u32 0, .int .u32 0, .int .u32 0, .int .u32 0, .int .u32 0, .int .u32 0, .int .u32 0, .int .u32 0, .int .u32 0, .int .u32 0, .int .u32 0, .int .u32 0, .int .u32 0, .int .u32 0, .int .u32 0, .int .u32 0, .int .u32 0, .int .u32 0, .int .u32 0, .int .u32 0, .int .u32 0, .int .u32 0, .int .u32 0, .int .u32 0, .int .u32 0, .int .u32 0, .int .u32 0, .int .u32 0, .int .u32 0, .int .u32 0, .int .u32 0, .int .u32 0, .int .u32 0, .int .u32 0, .int .u32 0, .int .u32 0, .int .u32 0, .int .u32 0, .int .u32 0, .int .u32 0, .int .u32 0, .int .u32 0, .int .u32 0, .int .u32 0] t)).rowIs W.heap.size t 64 (schF l 0) := World.rowIs_alloc W _ t _ (fun i hi => by
    have : ∀ j : Fin 64, (Array.replicate 64 (Value.int .u32 0))[j.val]? = some (schF l 0 j.val) := fun j => by simp [schF]
    exact this ⟨i, hi⟩)
theorem row_same {w : World} {g t n : Nat} {f : Nat → Value} {c : Array Value} (h : w.rowIs g t n f) (hc : w.heap[g]? = some (.cells c t (0, 0))) : (w.setRow g c).rowIs g t n f := by
  obtain ⟨c', h1, h2, h3⟩ := h
  have : c' = c := by rw [h1] at hc; injection hc with hc; injection hc
  subst this
  exact ⟨c', setRow_heap w g _ _ _ _ h1, h2, h3⟩
theorem row_other {w : World} {g b t n : Nat} {f : Nat → Value} (c : Array Value) (h : w.rowIs b t n f) (hne : b ≠ g) : (w.setRow g c).rowIs b t n f := h.of_block (setRow_other w g b c hne)
/-- what holds in the reference's block -/
def BInv (w wr : World) (l : List Nat) (s : Nat → Nat) (k : Nat) : Prop :=
  wr.rowIs (w.heap.size + 1 + 1) 84 64 (schF l k) ∧ wr.rowIs w.heap.size 75 8 (stF s) ∧ wr.heap[w.heap.size + 1]? = some (.cells #[.int .u32 0, .int .u32 0, .int .u32 0, .int .u32 0, .int .u32 0, .int .u32 0, .int .u32 0, .int .u32 0] 75 (0, 0)) ∧ Below w.heap.size w wr
theorem BInv.drewN {w wr : World} {l : List Nat} {s : Nat → Nat} {k : Nat} (h : BInv w wr l s k) (n : Nat) : BInv w (wr.drewN n) l s k := ⟨h.1, h.2.1, h.2.2.1, below_drewN h.2.2.2 n⟩
theorem BInv.drew {w wr : World} {l : List Nat} {s : Nat → Nat} {k : Nat} (h : BInv w wr l s k) : BInv w wr.drew l s k := ⟨h.1, h.2.1, h.2.2.1, h.2.2.2.drew⟩
theorem BInv.set {w wr : World} {l : List Nat} {s : Nat → Nat} {k : Nat} (h : BInv w wr l s k) : BInv w (wr.setCell ⟨w.heap.size + 1 + 1, k, none⟩ (.int .u32 (wt l k : Nat))) l s (k + 1) :=
  ⟨by rw [← schF_set]; exact h.1.set _ _, h.2.1.setOther (a := ⟨w.heap.size + 1 + 1, k, none⟩) (by show w.heap.size ≠ w.heap.size + 1 + 1; omega) _,
    (Below.heap_setCell wr ⟨w.heap.size + 1 + 1, k, none⟩ _ (w.heap.size + 1) (by show w.heap.size + 1 ≠ w.heap.size + 1 + 1; omega)).trans h.2.2.1, h.2.2.2.setCell (p := ⟨w.heap.size + 1 + 1, k, none⟩) (by show w.heap.size ≤ w.heap.size + 1 + 1; omega) _⟩
theorem BInv.below {w wr w' : World} {l : List Nat} {s : Nat → Nat} {k : Nat} (h : BInv w wr l s k) (hb : Below wr.heap.size wr w') : BInv w w' l s k :=
  ⟨rowIs_below h.1 hb h.1.lt, rowIs_below h.2.1 hb h.2.1.lt, (hb.block _ (Array.getElem?_eq_some_iff.1 h.2.2.1).1).trans h.2.2.1, h.2.2.2.trans (hb.mono h.2.2.2.size)⟩
theorem ch_xor {e f g : Nat} (he : e < 4294967296) (hf : f < 4294967296) (hg : g < 4294967296) : (e &&& f) ^^^ ((4294967295 ^^^ e) &&& g) = ch e f g := by
  apply Nat.eq_of_testBit_eq
  intro i
  have hn : Nat.testBit 4294967295 i = decide (i < 32) := by
    have := Nat.testBit_two_pow_sub_one 32 i
    rw [show (2 : Nat) ^ 32 - 1 = 4294967295 by decide] at this
    exact this
  simp only [ch, Nat.testBit_xor, Nat.testBit_and, hn]
  by_cases hi : i < 32
  · simp only [hi, decide_true]
    cases e.testBit i <;> cases f.testBit i <;> cases g.testBit i <;> rfl
  · have h2 : g.testBit i = false := Nat.testBit_lt_two_pow (Nat.lt_of_lt_of_le hg (Nat.pow_le_pow_right (n := 2) (i := 32) (j := i) (by omega) (by omega)))
    have h3 : f.testBit i = false := Nat.testBit_lt_two_pow (Nat.lt_of_lt_of_le hf (Nat.pow_le_pow_right (n := 2) (i := 32) (j := i) (by omega) (by omega)))
    simp [h2, h3]
theorem rrp_end (v : Nat → Nat) (k w : Nat) (h : Words v) :
    (((v 7 : Int) + bits .xor .u32 (bits .xor .u32 (ror (v 4) 6 : Nat) (ror (v 4) 11 : Nat)) (ror (v 4) 25 : Nat) + bits .xor .u32 (bits .and .u32 (v 4 : Nat) (v 5 : Nat)) (bits .and .u32 (bits .xor .u32 (if IntKind.u32.signed = true then -1 else IntKind.u32.max) (v 4 : Nat)) (v 6 : Nat)) + (k : Int)) % 4294967296 + (w : Int)) % 4294967296 = (rp v k w : Nat) := by
  have e0 : (if IntKind.u32.signed = true then (-1 : Int) else IntKind.u32.max) = ((4294967295 : Nat) : Int) := by decide
  have h4 := h 4 (by omega)
  rw [e0, xor3 _ _ _ (ror_lt _ _ h4) (ror_lt _ _ h4) (ror_lt _ _ h4), u32_and_nat _ _ h4 (h 5 (by omega)), u32_xor_nat _ _ (by omega) h4, u32_and_nat _ _ (SzSha.xor_lt (by omega) h4) (h 6 (by omega)), u32_xor_nat _ _ (SzSha.and_lt h4) (SzSha.and_lt (SzSha.xor_lt (by omega) h4)), ch_xor h4 (h 5 (by omega)) (h 6 (by omega))]
  change (((v 7 : Int) + (rot3 (v 4) 6 11 25 : Nat) + (ch (v 4) (v 5) (v 6) : Nat) + (k : Int)) % 4294967296 + (w : Int)) % 4294967296 = _
  unfold rp add
  omega
theorem rrq_end (v : Nat → Nat) (h : Words v) :
    (bits .xor .u32 (bits .xor .u32 (ror (v 0) 2 : Nat) (ror (v 0) 13 : Nat)) (ror (v 0) 22 : Nat) + bits .xor .u32 (bits .xor .u32 (bits .and .u32 (v 0 : Nat) (v 1 : Nat)) (bits .and .u32 (v 0 : Nat) (v 2 : Nat))) (bits .and .u32 (v 1 : Nat) (v 2 : Nat))) % 4294967296 = (rq v : Nat) := by
  have h0 := h 0 (by omega)
  have h1 := h 1 (by omega)
  have h2 := h 2 (by omega)
  rw [xor3 _ _ _ (ror_lt _ _ h0) (ror_lt _ _ h0) (ror_lt _ _ h0), u32_and_nat _ _ h0 h1, u32_and_nat _ _ h0 h2, u32_and_nat _ _ h1 h2, xor3 _ _ _ (SzSha.and_lt h0) (SzSha.and_lt h0) (SzSha.and_lt h1), maj_eq]
  change ((rot3 (v 0) 2 13 22 : Nat) + (maj (v 0) (v 1) (v 2) : Nat) : Int) % 4294967296 = _
  unfold rq add
  omega
theorem one8 (a0 a1 a2 a3 a4 a5 a6 a7 : Int) : (#[Value.int .u32 a0, Value.int .u32 a1, Value.int .u32 a2, Value.int .u32 a3, Value.int .u32 a4, Value.int .u32 a5, Value.int .u32 a6, Value.int .u32 a7]).all (·.oneCell') = true := by simp [Value.oneCell']
theorem sz8 (a0 a1 a2 a3 a4 a5 a6 a7 : Int) : (Tryd.prog.info? 75).map (·.size) = some (#[Value.int .u32 a0, Value.int .u32 a1, Value.int .u32 a2, Value.int .u32 a3, Value.int .u32 a4, Value.int .u32 a5, Value.int .u32 a6, Value.int .u32 a7]).size := by kernel_rfl
def kF (j : Nat) : Value := .int .u32 (kf j : Nat)
theorem ks_row (W : World) (g : Nat) (h : W.heap[g]? = some (.cells ksV 84 (0, 0))) : W.rowIs g 84 64 kF :=
  ⟨ksV, h, rfl, fun i hi => by
    have hi' : i < ks.length := hi
    unfold ksV kF kf
    rw [List.getElem?_toArray, List.getElem?_map, List.getElem?_eq_getElem hi', List.getD_eq_getElem?_getD, List.getElem?_eq_getElem hi']; rfl⟩
set_option maxRecDepth 100000 in
set_option maxHeartbeats 4000000 in
theorem rblock_any (g off c : Nat) (s : Nat → Nat) (l : List Nat) (w : World) (hl : Hid (l.length = 64)) (hb : Hid (Bytes l)) (hs : Hid (Words s)) (hc : 64 ≤ c) (hg : g < w.heap.size) (hL : Hid (BytesAt w g off l)) :
    Calls Tryd.prog 71 #[.agg #[.int .u32 (s 0 : Nat), .int .u32 (s 1 : Nat), .int .u32 (s 2 : Nat), .int .u32 (s 3 : Nat), .int .u32 (s 4 : Nat), .int .u32 (s 5 : Nat), .int .u32 (s 6 : Nat), .int .u32 (s 7 : Nat)], .slice (some ⟨g, off, none⟩) 64 c] w fun e w' => e = .returned (.agg #[.int .u32 (block s l 0 : Nat), .int .u32 (block s l 1 : Nat), .int .u32 (block s l 2 : Nat), .int .u32 (block s l 3 : Nat), .int .u32 (block s l 4 : Nat), .int .u32 (block s l 5 : Nat), .int .u32 (block s l 6 : Nat), .int .u32 (block s l 7 : Nat)]) ∧ Below w.heap.size w w' := by
  have hsz2 : ((w.alloc (.cells #[.int .u32 (s 0 : Nat), .int .u32 (s 1 : Nat), .int .u32 (s 2 : Nat), .int .u32 (s 3 : Nat), .int .u32 (s 4 : Nat), .int .u32 (s 5 : Nat), .int .u32 (s 6 : Nat), .int .u32 (s 7 : Nat)] 75)).alloc (.cells #[.int .u32 0, .int .u32 0, .int .u32 0, .int .u32 0, .int .u32 0, .int .u32 0, .int .u32 0, .int .u32 0] 75)).heap.size = w.heap.size + 1 + 1 := by simp
  have hZ := heap_alloc_new ((w.alloc (.cells #[.int .u32 (s 0 : Nat), .int .u32 (s 1 : Nat), .int .u32 (s 2 : Nat), .int .u32 (s 3 : Nat), .int .u32 (s 4 : Nat), .int .u32 (s 5 : Nat), .int .u32 (s 6 : Nat), .int .u32 (s 7 : Nat)] 75)).alloc (.cells #[.int .u32 0, .int .u32 0, .int .u32 0, .int .u32 0, .int .u32 0, .int .u32 0, .int .u32 0, .int .u32 0] 75)) (.cells #[.int .u32 0, .int .u32 0, .int .u32 0, .int .u32 0, .int .u32 0, .int .u32 0, .int .u32 0, .int .u32 0, .int .u32 0, .int .u32 0, .int .u32 0, .int .u32 0, .int .u32 0, .int .u32 0, .int .u32 0, .int .u32 0, .int .u32 0, .int .u32 0, .int .u32 0, .int .u32 0, .int .u32 0, .int .u32 0, .int .u32 0, .int .u32 0, .int .u32 0, .int .u32 0, .int .u32 0, .int .u32 0, .int .u32 0, .int .u32 0, .int .u32 0, .int .u32 0, .int .u32 0, .int .u32 0, .int .u32 0, .int .u32 0, .int .u32 0, .int .u32 0, .int .u32 0, .int .u32 0, .int .u32 0, .int .u32 0, .int .u32 0, .int .u32 0, .int .u32 0, .int .u32 0, .int .u32 0, .int .u32 0, .int .u32 0, .int .u32 0, .int .u32 0, .int .u32 0, .int .u32 0, .int .u32 0, .int .u32 0, .int .u32 0, .int .u32 0, .int .u32 0, .int .u32 0, .int .u32 0, .int .u32 0, .int .u32 0, .int .u32 0, .int .u32 0] 84)
  have hrZ := row64 ((w.alloc (.cells #[.int .u32 (s 0 : Nat), .int .u32 (s 1 : Nat), .int .u32 (s 2 : Nat), .int .u32 (s 3 : Nat), .int .u32 (s 4 : Nat), .int .u32 (s 5 : Nat), .int .u32 (s 6 : Nat), .int .u32 (s 7 : Nat)] 75)).alloc (.cells #[.int .u32 0, .int .u32 0, .int .u32 0, .int .u32 0, .int .u32 0, .int .u32 0, .int .u32 0, .int .u32 0] 75)) l 84
  have hrs := (row8 w s 75).alloc (.cells #[.int .u32 0, .int .u32 0, .int .u32 0, .int .u32 0, .int .u32 0, .int .u32 0, .int .u32 0, .int .u32 0] 75) |>.alloc (.cells #[.int .u32 0, .int .u32 0, .int .u32 0, .int .u32 0, .int .u32 0, .int .u32 0, .int .u32 0, .int .u32 0, .int .u32 0, .int .u32 0, .int .u32 0, .int .u32 0, .int .u32 0, .int .u32 0, .int .u32 0, .int .u32 0, .int .u32 0, .int .u32 0, .int .u32 0, .int .u32 0, .int .u32 0, .int .u32 0, .int .u32 0, .int .u32 0, .int .u32 0, .int .u32 0, .int .u32 0, .int .u32 0, .int .u32 0, .int .u32 0, .int .u32 0, .int .u32 0, .int .u32 0, .int .u32 0, .int .u32 0, .int .u32 0, .int .u32 0, .int .u32 0, .int .u32 0, .int .u32 0, .int .u32 0, .int .u32 0, .int .u32 0, .int .u32 0, .int .u32 0, .int .u32 0, .int .u32 0, .int .u32 0, .int .u32 0, .int .u32 0, .int .u32 0, .int .u32 0, .int .u32 0, .int .u32 0, .int .u32 0, .int .u32 0, .int .u32 0, .int .u32 0, .int .u32 0, .int .u32 0, .int .u32 0, .int .u32 0, .int .u32 0, .int .u32 0] 84)
  have hB0 : Below w.heap.size w (((w.alloc (.cells #[.int .u32 (s 0 : Nat), .int .u32 (s 1 : Nat), .int .u32 (s 2 : Nat), .int .u32 (s 3 : Nat), .int .u32 (s 4 : Nat), .int .u32 (s 5 : Nat), .int .u32 (s 6 : Nat), .int .u32 (s 7 : Nat)] 75)).alloc (.cells #[.int .u32 0, .int .u32 0, .int .u32 0, .int .u32 0, .int .u32 0, .int .u32 0, .int .u32 0, .int .u32 0] 75)).alloc (.cells #[.int .u32 0, .int .u32 0, .int .u32 0, .int .u32 0, .int .u32 0, .int .u32 0, .int .u32 0, .int .u32 0, .int .u32 0, .int .u32 0, .int .u32 0, .int .u32 0, .int .u32 0, .int .u32 0, .int .u32 0, .int .u32 0, .int .u32 0, .int .u32 0, .int .u32 0, .int .u32 0, .int .u32 0, .int .u32 0, .int .u32 0, .int .u32 0, .int .u32 0, .int .u32 0, .int .u32 0, .int .u32 0, .int .u32 0, .int .u32 0, .int .u32 0, .int .u32 0, .int .u32 0, .int .u32 0, .int .u32 0, .int .u32 0, .int .u32 0, .int .u32 0, .int .u32 0, .int .u32 0, .int .u32 0, .int .u32 0, .int .u32 0, .int .u32 0, .int .u32 0, .int .u32 0, .int .u32 0, .int .u32 0, .int .u32 0, .int .u32 0, .int .u32 0, .int .u32 0, .int .u32 0, .int .u32 0, .int .u32 0, .int .u32 0, .int .u32 0, .int .u32 0, .int .u32 0, .int .u32 0, .int .u32 0, .int .u32 0, .int .u32 0, .int .u32 0] 84)) := (((Below.refl _ w).alloc (Nat.le_refl _) _).alloc (by simp) _).alloc (by simp; omega) _
  have hR0 : (((w.alloc (.cells #[.int .u32 (s 0 : Nat), .int .u32 (s 1 : Nat), .int .u32 (s 2 : Nat), .int .u32 (s 3 : Nat), .int .u32 (s 4 : Nat), .int .u32 (s 5 : Nat), .int .u32 (s 6 : Nat), .int .u32 (s 7 : Nat)] 75)).alloc (.cells #[.int .u32 0, .int .u32 0, .int .u32 0, .int .u32 0, .int .u32 0, .int .u32 0, .int .u32 0, .int .u32 0] 75)).alloc (.cells #[.int .u32 0, .int .u32 0, .int .u32 0, .int .u32 0, .int .u32 0, .int .u32 0, .int .u32 0, .int .u32 0, .int .u32 0, .int .u32 0, .int .u32 0, .int .u32 0, .int .u32 0, .int .u32 0, .int .u32 0, .int .u32 0, .int .u32 0, .int .u32 0, .int .u32 0, .int .u32 0, .int .u32 0, .int .u32 0, .int .u32 0, .int .u32 0, .int .u32 0, .int .u32 0, .int .u32 0, .int .u32 0, .int .u32 0, .int .u32 0, .int .u32 0, .int .u32 0, .int .u32 0, .int .u32 0, .int .u32 0, .int .u32 0, .int .u32 0, .int .u32 0, .int .u32 0, .int .u32 0, .int .u32 0, .int .u32 0, .int .u32 0, .int .u32 0, .int .u32 0, .int .u32 0, .int .u32 0, .int .u32 0, .int .u32 0, .int .u32 0, .int .u32 0, .int .u32 0, .int .u32 0, .int .u32 0, .int .u32 0, .int .u32 0, .int .u32 0, .int .u32 0, .int .u32 0, .int .u32 0, .int .u32 0, .int .u32 0, .int .u32 0, .int .u32 0] 84)).heap[w.heap.size + 1]? = some (.cells #[.int .u32 0, .int .u32 0, .int .u32 0, .int .u32 0, .int .u32 0, .int .u32 0, .int .u32 0, .int .u32 0] 75 (0, 0)) := by
    rw [Below.heap_alloc _ _ _ (by rw [hsz2]; omega)]
    have := heap_alloc_new (w.alloc (.cells #[.int .u32 (s 0 : Nat), .int .u32 (s 1 : Nat), .int .u32 (s 2 : Nat), .int .u32 (s 3 : Nat), .int .u32 (s 4 : Nat), .int .u32 (s 5 : Nat), .int .u32 (s 6 : Nat), .int .u32 (s 7 : Nat)] 75)) (.cells #[.int .u32 0, .int .u32 0, .int .u32 0, .int .u32 0, .int .u32 0, .int .u32 0, .int .u32 0, .int .u32 0] 75)
    rw [World.size_alloc] at this
    exact this
  rw [hsz2] at hZ hrZ
  have HZ := Lib.hid hZ
  have HRZ := Lib.hid hrZ
  have HRS := Lib.hid hrs
  have HB0 := Lib.hid hB0
  have HR0 := Lib.hid hR0
  clear hsz2 hZ hrZ hrs hB0 hR0
  go_enter Tryd.func71, Tryd.ntmps71
  go_wp2_with (refine wpList_store_row rfl 84 (.tmp 5) (.tmp 22) rfl (w.heap.size + 1 + 1) #[.int .u32 0, .int .u32 0, .int .u32 0, .int .u32 0, .int .u32 0, .int .u32 0, .int .u32 0, .int .u32 0, .int .u32 0, .int .u32 0, .int .u32 0, .int .u32 0, .int .u32 0, .int .u32 0, .int .u32 0, .int .u32 0, .int .u32 0, .int .u32 0, .int .u32 0, .int .u32 0, .int .u32 0, .int .u32 0, .int .u32 0, .int .u32 0, .int .u32 0, .int .u32 0, .int .u32 0, .int .u32 0, .int .u32 0, .int .u32 0, .int .u32 0, .int .u32 0, .int .u32 0, .int .u32 0, .int .u32 0, .int .u32 0, .int .u32 0, .int .u32 0, .int .u32 0, .int .u32 0, .int .u32 0, .int .u32 0, .int .u32 0, .int .u32 0, .int .u32 0, .int .u32 0, .int .u32 0, .int .u32 0, .int .u32 0, .int .u32 0, .int .u32 0, .int .u32 0, .int .u32 0, .int .u32 0, .int .u32 0, .int .u32 0, .int .u32 0, .int .u32 0, .int .u32 0, .int .u32 0, .int .u32 0, .int .u32 0, .int .u32 0, .int .u32 0] rfl rfl 84 _ HZ.out (by kernel_rfl) rfl (by decide +kernel) ?_)
  have HI : Hid (BInv w _ l s 0) := Lib.hid ⟨row_same HRZ.out HZ.out, row_other #[.int .u32 0, .int .u32 0, .int .u32 0, .int .u32 0, .int .u32 0, .int .u32 0, .int .u32 0, .int .u32 0, .int .u32 0, .int .u32 0, .int .u32 0, .int .u32 0, .int .u32 0, .int .u32 0, .int .u32 0, .int .u32 0, .int .u32 0, .int .u32 0, .int .u32 0, .int .u32 0, .int .u32 0, .int .u32 0, .int .u32 0, .int .u32 0, .int .u32 0, .int .u32 0, .int .u32 0, .int .u32 0, .int .u32 0, .int .u32 0, .int .u32 0, .int .u32 0, .int .u32 0, .int .u32 0, .int .u32 0, .int .u32 0, .int .u32 0, .int .u32 0, .int .u32 0, .int .u32 0, .int .u32 0, .int .u32 0, .int .u32 0, .int .u32 0, .int .u32 0, .int .u32 0, .int .u32 0, .int .u32 0, .int .u32 0, .int .u32 0, .int .u32 0, .int .u32 0, .int .u32 0, .int .u32 0, .int .u32 0, .int .u32 0, .int .u32 0, .int .u32 0, .int .u32 0, .int .u32 0, .int .u32 0, .int .u32 0, .int .u32 0, .int .u32 0] HRS.out (show w.heap.size ≠ w.heap.size + 1 + 1 by omega), (setRow_other _ (w.heap.size + 1 + 1) (w.heap.size + 1) #[.int .u32 0, .int .u32 0, .int .u32 0, .int .u32 0, .int .u32 0, .int .u32 0, .int .u32 0, .int .u32 0, .int .u32 0, .int .u32 0, .int .u32 0, .int .u32 0, .int .u32 0, .int .u32 0, .int .u32 0, .int .u32 0, .int .u32 0, .int .u32 0, .int .u32 0, .int .u32 0, .int .u32 0, .int .u32 0, .int .u32 0, .int .u32 0, .int .u32 0, .int .u32 0, .int .u32 0, .int .u32 0, .int .u32 0, .int .u32 0, .int .u32 0, .int .u32 0, .int .u32 0, .int .u32 0, .int .u32 0, .int .u32 0, .int .u32 0, .int .u32 0, .int .u32 0, .int .u32 0, .int .u32 0, .int .u32 0, .int .u32 0, .int .u32 0, .int .u32 0, .int .u32 0, .int .u32 0, .int .u32 0, .int .u32 0, .int .u32 0, .int .u32 0, .int .u32 0, .int .u32 0, .int .u32 0, .int .u32 0, .int .u32 0, .int .u32 0, .int .u32 0, .int .u32 0, .int .u32 0, .int .u32 0, .int .u32 0, .int .u32 0, .int .u32 0] (by omega)).trans HR0.out, below_setRow HB0.out (show w.heap.size ≤ w.heap.size + 1 + 1 by omega) #[.int .u32 0, .int .u32 0, .int .u32 0, .int .u32 0, .int .u32 0, .int .u32 0, .int .u32 0, .int .u32 0, .int .u32 0, .int .u32 0, .int .u32 0, .int .u32 0, .int .u32 0, .int .u32 0, .int .u32 0, .int .u32 0, .int .u32 0, .int .u32 0, .int .u32 0, .int .u32 0, .int .u32 0, .int .u32 0, .int .u32 0, .int .u32 0, .int .u32 0, .int .u32 0, .int .u32 0, .int .u32 0, .int .u32 0, .int .u32 0, .int .u32 0, .int .u32 0, .int .u32 0, .int .u32 0, .int .u32 0, .int .u32 0, .int .u32 0, .int .u32 0, .int .u32 0, .int .u32 0, .int .u32 0, .int .u32 0, .int .u32 0, .int .u32 0, .int .u32 0, .int .u32 0, .int .u32 0, .int .u32 0, .int .u32 0, .int .u32 0, .int .u32 0, .int .u32 0, .int .u32 0, .int .u32 0, .int .u32 0, .int .u32 0, .int .u32 0, .int .u32 0, .int .u32 0, .int .u32 0, .int .u32 0, .int .u32 0, .int .u32 0, .int .u32 0]⟩
  clear HZ HRZ HRS HB0 HR0
  go_loopw [6] (fun i wr => ∃ k : Nat, k ≤ 16 ∧ i = .int .i64 k ∧ Hid (BInv w wr l s k)) (fun i _ => 16 - (intOf i).toNat)
  case atStart => exact ⟨0, by omega, rfl, HI⟩
  case round =>
    clear HI
    obtain ⟨k, hk1, rfl, hI⟩ := hrel
    by_cases hlt : k < 16
    · have hcell := hI.out.1.cell (i := k) (by omega)
      have hfr := hI.out.1.frozen k
      have HX : Hid (∀ i, i < 4 → wr.cell? ⟨g, off + 4 * k + i, none⟩ = some (.int .u8 (l.getD (4 * k + i) 0 : Nat))) := Lib.hid fun i hi => by
        rw [Nat.add_assoc]
        exact (hI.out.2.2.2.cell (p := ⟨g, off + (4 * k + i), none⟩) hg).trans (hL.out _ (by have := hl.out; omega))
      obtain ⟨x0, X0⟩ : ∃ x, Hid (l.getD (4 * k) 0 = x) := ⟨_, Lib.hid rfl⟩
      obtain ⟨x1, X1⟩ : ∃ x, Hid (l.getD (4 * k + 1) 0 = x) := ⟨_, Lib.hid rfl⟩
      obtain ⟨x2, X2⟩ : ∃ x, Hid (l.getD (4 * k + 2) 0 = x) := ⟨_, Lib.hid rfl⟩
      obtain ⟨x3, X3⟩ : ∃ x, Hid (l.getD (4 * k + 3) 0 = x) := ⟨_, Lib.hid rfl⟩
      have HW : Hid ((((x0 * 256 + x1) * 256 + x2) * 256 + x3) = wt l k) := Lib.hid (by rw [wt_low l k hlt, word, X0.out, X1.out, X2.out, X3.out])
      go_wp2_with fail
      refine (rword_any g (off + 4 * k) (c - 4 * k) x0 x1 x2 x3 _ (by rw [← X0.out]; exact hb.out.getD _) (by rw [← X1.out]; exact hb.out.getD _) (by rw [← X2.out]; exact hb.out.getD _) (by rw [← X3.out]; exact hb.out.getD _) (by rw [← X0.out]; exact HX.out 0 (by omega)) (by rw [← X1.out]; exact HX.out 1 (by omega)) (by rw [← X2.out]; exact HX.out 2 (by omega)) (by rw [← X3.out]; exact HX.out 3 (by omega))).mono ?_
      rintro e w1 ⟨rfl, rfl⟩
      rw [HW.out]
      go_wp2_with fail
      go_roundw
      case rel => exact ⟨k + 1, by omega, by go_num, Lib.hid hI.out.drew.set⟩
      case measure => simp [intOf]; omega
    · have hI16 : Hid (BInv w wr l s 16) := by have := hI; rw [show k = 16 by omega] at this; exact this
      have d16 : decide ((k : Int) < 16) = false := decide_eq_false (by omega)
      clear hI
      go_wp2_with fail
      go_loopw [7] (fun i wr => ∃ k : Nat, 16 ≤ k ∧ k ≤ 64 ∧ i = .int .i64 k ∧ Hid (BInv w wr l s k)) (fun i _ => 64 - (intOf i).toNat)
      case atStart => exact ⟨16, by omega, by omega, rfl, hI16⟩
      case round =>
        clear hI16 hlt
        obtain ⟨k, hk0, hk, rfl, hI⟩ := hrel
        by_cases hlt : k < 64
        · obtain ⟨d, hd⟩ : ∃ d, d + 16 = k := ⟨k - 16, by omega⟩
          obtain ⟨a, ha⟩ : ∃ a, a + 15 = k := ⟨k - 15, by omega⟩
          obtain ⟨f, hf⟩ : ∃ f, f + 7 = k := ⟨k - 7, by omega⟩
          obtain ⟨b, hb2⟩ : ∃ b, b + 2 = k := ⟨k - 2, by omega⟩
          have hcell := hI.out.1.cell (i := k) (by omega)
          have hfr := hI.out.1.frozen k
          have c15 := hI.out.1.cell (i := a) (by omega)
          have c2 := hI.out.1.cell (i := b) (by omega)
          have c16 := hI.out.1.cell (i := d) (by omega)
          have c7 := hI.out.1.cell (i := f) (by omega)
          unfold schF at c15 c2 c16 c7
          rw [if_pos (by omega)] at c15 c2 c16 c7
          have a64 : (a : Int) < 64 := by omega
          have b64 : (b : Int) < 64 := by omega
          have d64 : (d : Int) < 64 := by omega
          have f64 : (f : Int) < 64 := by omega
          have k64 : (k : Int) < 64 := by omega
          have la := wt_lt hb.out a (by omega)
          have lb := wt_lt hb.out b (by omega)
          have EW : Hid (wt l k = add (add (add (wt l d) (sg0 (wt l a))) (wt l f)) (sg1 (wt l b))) := Lib.hid (by
            rw [wt_high l k hk0 hlt, show k - 16 = d by omega, show k - 15 = a by omega, show k - 7 = f by omega, show k - 2 = b by omega])
          have e15 : IntKind.i64.wrap ((k : Int) - 15) = (a : Int) := by rw [IntWalk.i64_in _ (by omega)]; omega
          have e2 : IntKind.i64.wrap ((k : Int) - 2) = (b : Int) := by rw [IntWalk.i64_in _ (by omega)]; omega
          have e16 : IntKind.i64.wrap ((k : Int) - 16) = (d : Int) := by rw [IntWalk.i64_in _ (by omega)]; omega
          have e7 : IntKind.i64.wrap ((k : Int) - 7) = (f : Int) := by rw [IntWalk.i64_in _ (by omega)]; omega
          have z15 : (k : Int) - 15 = (a : Int) := by omega
          have z2 : (k : Int) - 2 = (b : Int) := by omega
          have SE := Lib.hid (sch_end (wt l d) (wt l a) (wt l f) (wt l b) la lb)
          clear hd ha hf hb2
          go_wp2_with fail
          refine region_quiet_tail 29 (fun w' => ∃ n, w' = wr.drewN n) (by kernel_rfl) (by kernel_rfl) ⟨1, rfl⟩ ?_
          simp only [List.take_succ_cons, List.take_zero, List.drop_succ_cons, List.drop_zero]
          repeat (first | go_big_quiet_step (first | with_reducible exact Calls.quiet_of (rror_7 _ _ la) | with_reducible exact Calls.quiet_of (rror_18 _ _ la) | with_reducible exact Calls.quiet_of (rror_17 _ _ lb) | with_reducible exact Calls.quiet_of (rror_19 _ _ lb)) | quiet_step (first | with_reducible exact Calls.quiet_of (rror_7 _ _ la) | with_reducible exact Calls.quiet_of (rror_18 _ _ la) | with_reducible exact Calls.quiet_of (rror_17 _ _ lb) | with_reducible exact Calls.quiet_of (rror_19 _ _ lb)))
          refine wpQuiet_nil ?_
          rintro _ ⟨nq, rfl⟩
          go_wp2_with fail
          go_roundw
          case rel =>
            rw [SE.out, ← EW.out]
            exact ⟨k + 1, by omega, by omega, by go_num, Lib.hid (hI.out.drewN nq).set⟩
          case measure => simp [intOf]; omega
        · have hI64 : Hid (BInv w wr l s 64) := by have := hI; rw [show k = 64 by omega] at this; exact this
          have d64 : decide ((k : Int) < 64) = false := decide_eq_false (by omega)
          clear hI
          go_wp2_with fail
          refine (numbers_any _).mono ?_
          rintro e w1 ⟨rfl, hb1⟩
          have HI1 := Lib.hid (hI64.out.below hb1)
          clear hI64 hb1
          have hq := laid_row w1 #[.int .u32 0, .int .u32 0, .int .u32 0, .int .u32 0, .int .u32 0, .int .u32 0, .int .u32 0, .int .u32 0, .int .u32 0, .int .u32 0, .int .u32 0, .int .u32 0, .int .u32 0, .int .u32 0, .int .u32 0, .int .u32 0, .int .u32 0, .int .u32 0, .int .u32 0, .int .u32 0, .int .u32 0, .int .u32 0, .int .u32 0, .int .u32 0, .int .u32 0, .int .u32 0, .int .u32 0, .int .u32 0, .int .u32 0, .int .u32 0, .int .u32 0, .int .u32 0, .int .u32 0, .int .u32 0, .int .u32 0, .int .u32 0, .int .u32 0, .int .u32 0, .int .u32 0, .int .u32 0, .int .u32 0, .int .u32 0, .int .u32 0, .int .u32 0, .int .u32 0, .int .u32 0, .int .u32 0, .int .u32 0, .int .u32 0, .int .u32 0, .int .u32 0, .int .u32 0, .int .u32 0, .int .u32 0, .int .u32 0, .int .u32 0, .int .u32 0, .int .u32 0, .int .u32 0, .int .u32 0, .int .u32 0, .int .u32 0, .int .u32 0, .int .u32 0] ksV 84
          have HQ := Lib.hid hq
          clear hq
          go_wp2_with (refine wpList_store_row rfl 84 (.tmp 10) (.tmp 78) rfl w1.heap.size ksV rfl rfl 84 _ (heap_alloc_new w1 _) (by kernel_rfl) rfl (by decide +kernel) ?_)
          have HI2 := Lib.hid (HI1.out.below HQ.out.1)
          have HK2 := Lib.hid (ks_row _ _ HQ.out.2.2)
          have hlt1 : w.heap.size + 1 + 1 < w1.heap.size := HI1.out.1.lt
          clear HQ HI1
          generalize (w1.alloc (.cells #[.int .u32 0, .int .u32 0, .int .u32 0, .int .u32 0, .int .u32 0, .int .u32 0, .int .u32 0, .int .u32 0, .int .u32 0, .int .u32 0, .int .u32 0, .int .u32 0, .int .u32 0, .int .u32 0, .int .u32 0, .int .u32 0, .int .u32 0, .int .u32 0, .int .u32 0, .int .u32 0, .int .u32 0, .int .u32 0, .int .u32 0, .int .u32 0, .int .u32 0, .int .u32 0, .int .u32 0, .int .u32 0, .int .u32 0, .int .u32 0, .int .u32 0, .int .u32 0, .int .u32 0, .int .u32 0, .int .u32 0, .int .u32 0, .int .u32 0, .int .u32 0, .int .u32 0, .int .u32 0, .int .u32 0, .int .u32 0, .int .u32 0, .int .u32 0, .int .u32 0, .int .u32 0, .int .u32 0, .int .u32 0, .int .u32 0, .int .u32 0, .int .u32 0, .int .u32 0, .int .u32 0, .int .u32 0, .int .u32 0, .int .u32 0, .int .u32 0, .int .u32 0, .int .u32 0, .int .u32 0, .int .u32 0, .int .u32 0, .int .u32 0, .int .u32 0] 84)).setRow w1.heap.size ksV = w2 at *
          obtain ⟨gk, Hgk⟩ : ∃ gk, Hid (w1.heap.size = gk) := ⟨_, Lib.hid rfl⟩
          rw [Hgk.out] at HK2 hlt1
          rw [Hgk.out]
          refine wp_region_still_lit (by kernel_rfl) (by kernel_rfl) ?_
          change wpStill _ _ w2.drew (fun a' => Exit.then _ _ _ a' w2.drew) _ _
          have HI3 := Lib.hid HI2.out.drew
          have HK3 : Hid (w2.drew.rowIs gk 84 64 kF) := HK2
          generalize w2.drew = w3 at *
          clear HI2 HK2
          have s0 : w3.cell? ⟨w.heap.size, 0, none⟩ = some (.int .u32 (s 0 : Nat)) := HI3.out.2.1.cell (by omega)
          have s1 : w3.cell? ⟨w.heap.size, 1, none⟩ = some (.int .u32 (s 1 : Nat)) := HI3.out.2.1.cell (by omega)
          have s2 : w3.cell? ⟨w.heap.size, 2, none⟩ = some (.int .u32 (s 2 : Nat)) := HI3.out.2.1.cell (by omega)
          have s3 : w3.cell? ⟨w.heap.size, 3, none⟩ = some (.int .u32 (s 3 : Nat)) := HI3.out.2.1.cell (by omega)
          have s4 : w3.cell? ⟨w.heap.size, 4, none⟩ = some (.int .u32 (s 4 : Nat)) := HI3.out.2.1.cell (by omega)
          have s5 : w3.cell? ⟨w.heap.size, 5, none⟩ = some (.int .u32 (s 5 : Nat)) := HI3.out.2.1.cell (by omega)
          have s6 : w3.cell? ⟨w.heap.size, 6, none⟩ = some (.int .u32 (s 6 : Nat)) := HI3.out.2.1.cell (by omega)
          have s7 : w3.cell? ⟨w.heap.size, 7, none⟩ = some (.int .u32 (s 7 : Nat)) := HI3.out.2.1.cell (by omega)
          repeat still_step
          refine wpStill_nil ?_
          clear s0 s1 s2 s3 s4 s5 s6 s7
          go_wp2_with fail
          go_loopw [11, 12, 13, 14, 15, 16, 17, 18, 19] (fun x0 x1 x2 x3 x4 x5 x6 x7 i wz => ∃ k : Nat, k ≤ 64 ∧ i = .int .i64 k ∧ x0 = .int .u32 (rounds l s k 0 : Nat) ∧ x1 = .int .u32 (rounds l s k 1 : Nat) ∧ x2 = .int .u32 (rounds l s k 2 : Nat) ∧ x3 = .int .u32 (rounds l s k 3 : Nat) ∧ x4 = .int .u32 (rounds l s k 4 : Nat) ∧ x5 = .int .u32 (rounds l s k 5 : Nat) ∧ x6 = .int .u32 (rounds l s k 6 : Nat) ∧ x7 = .int .u32 (rounds l s k 7 : Nat) ∧ Hid (BInv w wz l s 64) ∧ Hid (wz.rowIs gk 84 64 kF)) (fun _ _ _ _ _ _ _ _ i _ => 64 - (intOf i).toNat)
          case atStart => exact ⟨0, by omega, rfl, rfl, rfl, rfl, rfl, rfl, rfl, rfl, rfl, HI3, HK3⟩
          case round =>
            clear HI3 HK3
            rename World => wz
            obtain ⟨k, hk, rfl, rfl, rfl, rfl, rfl, rfl, rfl, rfl, rfl, hI, hK⟩ := hrel
            by_cases hlt : k < 64
            · have hWd := Lib.hid (rounds_words hs.out l k)
              obtain ⟨v, HV⟩ : ∃ v : Nat → Nat, Hid (rounds l s k = v) := ⟨_, Lib.hid rfl⟩
              rw [HV.out] at hWd
              rw [HV.out]
              have l0 := hWd.out 0 (by omega)
              have l4 := hWd.out 4 (by omega)
              have k64 : (k : Int) < 64 := by omega
              have wk := hI.out.1.cell (i := k) (by omega)
              have nk := hK.out.cell (i := k) (by omega)
              unfold schF at wk
              unfold kF at nk
              rw [if_pos hlt] at wk
              go_wp2_with fail
              go_quiet ((first | with_reducible exact Calls.quiet_of (rror_6 _ _ l4) | with_reducible exact Calls.quiet_of (rror_11 _ _ l4) | with_reducible exact Calls.quiet_of (rror_25 _ _ l4)))
              rw [rrp_end v (kf k) (wt l k) hWd.out]
              have hI4 := Lib.hid (hI.out.drewN nq)
              have hK4 : Hid ((wz.drewN nq).rowIs gk 84 64 kF) := hK
              generalize wz.drewN nq = w4 at *
              clear hI hK wk nk k64 l4
              go_wp2_with fail
              refine (rror_2 (v 0) _ l0).mono ?_
              rintro e w' ⟨rfl, m4, rfl⟩
              go_wp2_with fail
              refine (rror_13 (v 0) _ l0).mono ?_
              rintro e w' ⟨rfl, m5, rfl⟩
              go_wp2_with fail
              refine (rror_22 (v 0) _ l0).mono ?_
              rintro e w' ⟨rfl, m6, rfl⟩
              have QE := Lib.hid (rrq_end v hWd.out)
              go_wp2_with fail
              go_roundw
              case rel =>
                rw [QE.out, addI, addI]
                exact ⟨k + 1, by omega, by go_num, by rw [rounds, HV.out]; rfl, by rw [rounds, HV.out]; rfl, by rw [rounds, HV.out]; rfl, by rw [rounds, HV.out]; rfl, by rw [rounds, HV.out]; rfl, by rw [rounds, HV.out]; rfl, by rw [rounds, HV.out]; rfl, by rw [rounds, HV.out]; rfl, Lib.hid (hI4.out.drewN _), hK4⟩
              case measure => simp [intOf]; omega
            · have dk : decide ((k : Int) < 64) = false := decide_eq_false (by omega)
              have E64 : Hid (rounds l s k = rounds l s 64) := Lib.hid (by rw [show k = 64 by omega])
              have s0 : wz.cell? ⟨w.heap.size, 0, none⟩ = some (.int .u32 (s 0 : Nat)) := hI.out.2.1.cell (by omega)
              have s1 : wz.cell? ⟨w.heap.size, 1, none⟩ = some (.int .u32 (s 1 : Nat)) := hI.out.2.1.cell (by omega)
              have s2 : wz.cell? ⟨w.heap.size, 2, none⟩ = some (.int .u32 (s 2 : Nat)) := hI.out.2.1.cell (by omega)
              have s3 : wz.cell? ⟨w.heap.size, 3, none⟩ = some (.int .u32 (s 3 : Nat)) := hI.out.2.1.cell (by omega)
              have s4 : wz.cell? ⟨w.heap.size, 4, none⟩ = some (.int .u32 (s 4 : Nat)) := hI.out.2.1.cell (by omega)
              have s5 : wz.cell? ⟨w.heap.size, 5, none⟩ = some (.int .u32 (s 5 : Nat)) := hI.out.2.1.cell (by omega)
              have s6 : wz.cell? ⟨w.heap.size, 6, none⟩ = some (.int .u32 (s 6 : Nat)) := hI.out.2.1.cell (by omega)
              have s7 : wz.cell? ⟨w.heap.size, 7, none⟩ = some (.int .u32 (s 7 : Nat)) := hI.out.2.1.cell (by omega)
              go_wp2_with (refine wpList_store_row rfl 75 (.tmp 4) (.tmp 190) rfl (w.heap.size + 1) #[.int .u32 (((s 0 : Nat) + (rounds l s k 0 : Nat) : Int) % 4294967296), .int .u32 (((s 1 : Nat) + (rounds l s k 1 : Nat) : Int) % 4294967296), .int .u32 (((s 2 : Nat) + (rounds l s k 2 : Nat) : Int) % 4294967296), .int .u32 (((s 3 : Nat) + (rounds l s k 3 : Nat) : Int) % 4294967296), .int .u32 (((s 4 : Nat) + (rounds l s k 4 : Nat) : Int) % 4294967296), .int .u32 (((s 5 : Nat) + (rounds l s k 5 : Nat) : Int) % 4294967296), .int .u32 (((s 6 : Nat) + (rounds l s k 6 : Nat) : Int) % 4294967296), .int .u32 (((s 7 : Nat) + (rounds l s k 7 : Nat) : Int) % 4294967296)] rfl rfl 75 _ hI.out.2.2.1 (sz8 _ _ _ _ _ _ _ _) rfl (one8 _ _ _ _ _ _ _ _) ?_)
              have hE : (#[.int .u32 (((s 0 : Nat) + (rounds l s k 0 : Nat) : Int) % 4294967296), .int .u32 (((s 1 : Nat) + (rounds l s k 1 : Nat) : Int) % 4294967296), .int .u32 (((s 2 : Nat) + (rounds l s k 2 : Nat) : Int) % 4294967296), .int .u32 (((s 3 : Nat) + (rounds l s k 3 : Nat) : Int) % 4294967296), .int .u32 (((s 4 : Nat) + (rounds l s k 4 : Nat) : Int) % 4294967296), .int .u32 (((s 5 : Nat) + (rounds l s k 5 : Nat) : Int) % 4294967296), .int .u32 (((s 6 : Nat) + (rounds l s k 6 : Nat) : Int) % 4294967296), .int .u32 (((s 7 : Nat) + (rounds l s k 7 : Nat) : Int) % 4294967296)] : Array Value) = #[.int .u32 (block s l 0 : Nat), .int .u32 (block s l 1 : Nat), .int .u32 (block s l 2 : Nat), .int .u32 (block s l 3 : Nat), .int .u32 (block s l 4 : Nat), .int .u32 (block s l 5 : Nat), .int .u32 (block s l 6 : Nat), .int .u32 (block s l 7 : Nat)] := by
                rw [addI, addI, addI, addI, addI, addI, addI, addI, E64.out]; rfl
              refine bodyPost_ret (results_cell_row rfl _ _ (w.heap.size + 1) 75 #[.int .u32 (((s 0 : Nat) + (rounds l s k 0 : Nat) : Int) % 4294967296), .int .u32 (((s 1 : Nat) + (rounds l s k 1 : Nat) : Int) % 4294967296), .int .u32 (((s 2 : Nat) + (rounds l s k 2 : Nat) : Int) % 4294967296), .int .u32 (((s 3 : Nat) + (rounds l s k 3 : Nat) : Int) % 4294967296), .int .u32 (((s 4 : Nat) + (rounds l s k 4 : Nat) : Int) % 4294967296), .int .u32 (((s 5 : Nat) + (rounds l s k 5 : Nat) : Int) % 4294967296), .int .u32 (((s 6 : Nat) + (rounds l s k 6 : Nat) : Int) % 4294967296), .int .u32 (((s 7 : Nat) + (rounds l s k 7 : Nat) : Int) % 4294967296)] (0, 0) _ rfl (setRow_heap wz (w.heap.size + 1) _ _ _ _ hI.out.2.2.1) Tryd.underlying75 rfl (sz8 _ _ _ _ _ _ _ _)) rfl ?_
              exact ⟨by rw [hE], below_setRow hI.out.2.2.2 (by omega) _⟩
end Go.Proofs.YtcgpanjagkblmaaDoor
