/- A region that draws its order: its head is quiet in a class of worlds, its tail comes in one forced order. The library has the two halves apart (a still head with a tail; a quiet region without one); here both in one. The reference of layer 2: block: the state after a block. The reference of layer 2: padded: the bytes with their end. sizarref01: Formed, Depth, Check, numeral, unsigned, encode, Encode of lists of integers. -/
import Derived.StillTail
import Derived.Deep.Quiet
import Derived.Deep.QuietTactic
import Derived.BigQuiet
import Derived.Test.YtmfmgeapecapiaaGreatDoorVS14
import Derived.Test.YtmfmgeapecapiaaGreatDoorVS2
set_option maxHeartbeats 64000001
open Go.Lib (hid)
namespace Go.Proofs.YtmfmgeapecapiaaGreatDoor
section
variable {P : Program} {ops : Array Oper} {md : Region.Mode} {C : World → Prop}
def anyHead (P : Program) (md : Region.Mode) (ops : Array Oper) (C : World → Prop) (n : Nat) (L : Array Bool → Act → Prop) : Nat → Array Bool → Act → Prop
 | 0, listed, a => L listed a
 | f + 1, listed, a => Region.ready md ops listed ≠ [] ∧ ∀ i ∈ Region.ready md ops listed, i < n ∧ qOp P ops C i (anyHead P md ops C n L f (listed.setIfInBounds i true)) a
theorem any_of_head {n g : Nat} {L : Array Bool → Act → Prop} {Q' : Exit → Act → World → Prop} (hL : ∀ listed a w, C w → L listed a → wpAny P md ops Q' g listed a w) :
  ∀ (f : Nat) (listed : Array Bool) (a : Act) (w : World), C w → anyHead P md ops C n L f listed a → wpAny P md ops Q' (f + g) listed a w
 | 0, listed, a, w, hw, h => by rw [Nat.zero_add]; exact hL _ _ _ hw h
 | f + 1, listed, a, w, hw, h => by
  rw [show f + 1 + g = (f + g) + 1 by omega]
  exact ⟨fun h0 => absurd h0 h.1, fun i hi => wpOp_of_qOp hw (fun a' w' hw' h' => any_of_head hL f _ a' w' hw' h') (h.2 i hi).2⟩
theorem head_first {n i : Nat} {oi : Oper} {v : Value} {L : Array Bool → Act → Prop} (hi : ops[i]? = some oi) (hsel : ∀ (j : Nat) (o : Oper) cs b, ops[j]? = some o → o.op ≠ .select cs b)
  (hs : Region.sinkB md ops n = true) (hc : Region.chainB md ops n = true) (hn : n < ops.size) (hin : i < n) (hdone : ∀ listed a, L listed a → ∀ j ∈ Region.ready md ops listed, n ≤ j) :
  ∀ (f : Nat) (listed : Array Bool) (a : Act), HeadInv md ops n listed →
   (∀ j oj, ops[j]? = some oj → j ≠ i → listed.getD j true = false → (∀ e ∈ oj.after, Region.binds md e = true → e.on ≠ i) → oi.apart ops oj = true) →
   i ∈ Region.ready md ops listed → YieldsIn P ops C oi v a → anyHead P md ops C n L f (listed.setIfInBounds i true) (a.put oi.dst v) → anyHead P md ops C n L (f + 1) listed a := by
 intro f
 induction f with
 | zero =>
  intro listed a inv _ hr hy H
  have hun := (mem_ready.1 hr).1
  refine ⟨fun h => (by rw [h] at hr; cases hr), fun j hj => ?_⟩
  have hjn : j < n := by
   rcases Nat.lt_or_ge j n with h | h
   ·exact h
   ·exact absurd hj (tail_waits hs hc hn inv _ i rfl hin hun j h)
  refine ⟨hjn, ?_⟩
  by_cases hji : j = i
  ·subst hji; exact hy.qOp hi H
  ·have := hdone _ _ H j (ready_mono hj hji)
   omega
 | succ f ih =>
  intro listed a inv hfree hr hy H
  have hun := (mem_ready.1 hr).1
  refine ⟨fun h => (by rw [h] at hr; cases hr), fun j hj => ?_⟩
  have hjn : j < n := by
   rcases Nat.lt_or_ge j n with h | h
   ·exact h
   ·exact absurd hj (tail_waits hs hc hn inv _ i rfl hin hun j h)
  refine ⟨hjn, ?_⟩
  by_cases hji : j = i
  ·subst hji; exact hy.qOp hi H
  ·have h1 := (H.2 j (ready_mono hj hji)).2
   obtain ⟨hjun, oj, hoj, hall⟩ := mem_ready.1 hj
   have hnot : ∀ e ∈ oj.after, Region.binds md e = true → e.on ≠ i := fun e he hb heq => by
    have h1 := hall e he hb
    rw [heq, getD_both hun] at h1
    cases h1
   have h2 := qOp_put hoj (hfree j oj hoj hji hjun hnot) (fun cs b => hsel i oi cs b hi) (fun cs b => hsel j oj cs b hoj) hy h1
   have hfree' : ∀ k ok, ops[k]? = some ok → k ≠ i → (listed.setIfInBounds j true).getD k true = false →
     (∀ e ∈ ok.after, Region.binds md e = true → e.on ≠ i) → oi.apart ops ok = true := fun k ok hk hki hun hno => by
    refine hfree k ok hk hki ?_ hno
    by_cases hjk : j = k
    ·subst hjk; exact hjun
    ·rw [getD_set_ne true hjk] at hun; exact hun
   refine qOp_mono (fun a' h3 => ih (listed.setIfInBounds j true) a' (inv.set hj hjn) hfree' (ready_mono hr (Ne.symm hji)) h3.1 ?_) h2
   rw [Array.setIfInBounds_comm _ _ hji]
   exact h3.2
theorem head_lex {n g : Nat} {Lq : Act → Prop} (hsel : Region.noSelect ops = true) (hs : Region.sinkB md ops n = true) (hc : Region.chainB md ops n = true) (hn : n < ops.size) :
  ∀ (l : List Oper) (k : Nat) (listed : Array Bool) (a : Act), (∀ j, j < l.length → l[j]? = ops[k + j]?) → k + l.length = n → HeadInv md ops n listed →
  Region.lexHead md ops g l.length k listed = true → wpQuiet P ops C Lq l a → anyHead P md ops C n (fun listed' a' => Region.seqB md ops g n listed' = true ∧ Lq a') l.length listed a
 | [], k, listed, a, _, hk, _, hB, h => by
  have : k = n := by simpa using hk
  subst this
  exact ⟨by simpa [Region.lexHead] using hB, h⟩
 | o :: l, k, listed, a, hl, hk, inv, hB, h => by
  have h0 : ops[k]? = some o := by simpa using (hl 0 (by simp)).symm
  simp only [List.length_cons, Region.lexHead, Bool.and_eq_true] at hB
  obtain ⟨⟨hr, hf⟩, hB'⟩ := hB
  have hkn : k < n := by simp only [List.length_cons] at hk; omega
  have hr' : k ∈ Region.ready md ops listed := by simpa using hr
  have hst : qOp P ops C k (wpQuiet P ops C Lq l) a := by unfold qOp; simp only [h0]; exact h
  obtain ⟨v, hy, hK⟩ := yieldsIn_of_qOp h0 hst
  exact head_first h0 (Region.noSelect_spec hsel) hs hc hn hkn (fun listed' a' hL => seqB_ready hL.1) l.length listed a inv (Region.free_spec h0 hf) hr' hy
   (head_lex hsel hs hc hn l (k + 1) _ _ (fun j hj => by have := hl (j + 1) (by simp; omega); simpa [Nat.add_assoc, Nat.add_comm 1 j] using this) (by simp only [List.length_cons] at hk; omega) (inv.set hr' hkn) hB' hK)
/-- the head is quiet in the class, the tail follows in every world of it -/
theorem region_quiet_tail {id : Nat} {Q : Exit → Act → World → Prop} {a : Act} {w : World} {l : List Oper} (n : Nat) (C : World → Prop) (hm : P.follows .mixedOrders = true) (hB : Region.lexTailB .any l.toArray n = true) (hC : C w.drew)
  (h : wpQuiet P l.toArray C (fun a' => ∀ w', C w' → wpList P l.toArray Q (l.drop n) a' w') (l.take n) a) : (Code.region id l.toArray true).wp P Q a w := by
 simp only [Region.lexTailB, Bool.and_eq_true, decide_eq_true_eq] at hB
 obtain ⟨⟨⟨⟨hsel, hn⟩, hs⟩, hc⟩, hlex⟩ := hB
 have hn' : n < l.length := by simpa using hn
 have htl : (l.take n).length = n := by simp; omega
 have hdl : (l.drop n).length = l.toArray.size - n := by simp
 have inv0 : HeadInv .any l.toArray n (Array.replicate l.toArray.size false) :=
  ⟨by simp, fun j oj _ hl => (by rw [getD_replicate_false] at hl; cases hl), fun t _ ht => getD_in (by simpa using ht) (getD_replicate_false _ _)⟩
 have H := head_lex (md := .any) (g := l.toArray.size - n) hsel hs hc hn (l.take n) 0 _ a (fun j hj => by
  have hj' : j < n := by rw [htl] at hj; exact hj
  simp [hj']) (by simpa using htl) inv0 (by rw [htl]; exact hlex) h
 refine wp_region_any hm ?_
 have := any_of_head (Q' := Q) (g := l.toArray.size - n) (fun listed a' w' hw' hL => by
  have := wpAny_of_seq (md := .any) (Q' := Q) (l.drop n) n listed a' w' (fun j => by simp [List.getElem?_drop]) (by rw [hdl]; exact hL.1) (hL.2 w' hw')
  rwa [hdl] at this) _ _ _ _ hC H
 rw [htl, show n + (l.toArray.size - n) = l.toArray.size by omega] at this
 exact this
end
open Go.RowKit SzSha
set_option linter.unusedVariables false
set_option maxRecDepth 100000
theorem rror_7 (x : Nat) (w : World) (hx : x < 4294967296) : Calls Tryz.prog 171 #[.int .u32 x, .int .i64 7] w fun e w' => e = .returned (.int .u32 (ror x 7 : Nat)) ∧ ∃ m, w' = w.drewN m :=
 (rror_any x 7 w hx (by omega) (by omega)).mono fun _ _ h => ⟨h.1, 1, h.2.symm⟩
theorem rror_18 (x : Nat) (w : World) (hx : x < 4294967296) : Calls Tryz.prog 171 #[.int .u32 x, .int .i64 18] w fun e w' => e = .returned (.int .u32 (ror x 18 : Nat)) ∧ ∃ m, w' = w.drewN m :=
 (rror_any x 18 w hx (by omega) (by omega)).mono fun _ _ h => ⟨h.1, 1, h.2.symm⟩
theorem rror_17 (x : Nat) (w : World) (hx : x < 4294967296) : Calls Tryz.prog 171 #[.int .u32 x, .int .i64 17] w fun e w' => e = .returned (.int .u32 (ror x 17 : Nat)) ∧ ∃ m, w' = w.drewN m :=
 (rror_any x 17 w hx (by omega) (by omega)).mono fun _ _ h => ⟨h.1, 1, h.2.symm⟩
theorem rror_19 (x : Nat) (w : World) (hx : x < 4294967296) : Calls Tryz.prog 171 #[.int .u32 x, .int .i64 19] w fun e w' => e = .returned (.int .u32 (ror x 19 : Nat)) ∧ ∃ m, w' = w.drewN m :=
 (rror_any x 19 w hx (by omega) (by omega)).mono fun _ _ h => ⟨h.1, 1, h.2.symm⟩
theorem rror_6 (x : Nat) (w : World) (hx : x < 4294967296) : Calls Tryz.prog 171 #[.int .u32 x, .int .i64 6] w fun e w' => e = .returned (.int .u32 (ror x 6 : Nat)) ∧ ∃ m, w' = w.drewN m :=
 (rror_any x 6 w hx (by omega) (by omega)).mono fun _ _ h => ⟨h.1, 1, h.2.symm⟩
theorem rror_11 (x : Nat) (w : World) (hx : x < 4294967296) : Calls Tryz.prog 171 #[.int .u32 x, .int .i64 11] w fun e w' => e = .returned (.int .u32 (ror x 11 : Nat)) ∧ ∃ m, w' = w.drewN m :=
 (rror_any x 11 w hx (by omega) (by omega)).mono fun _ _ h => ⟨h.1, 1, h.2.symm⟩
theorem rror_25 (x : Nat) (w : World) (hx : x < 4294967296) : Calls Tryz.prog 171 #[.int .u32 x, .int .i64 25] w fun e w' => e = .returned (.int .u32 (ror x 25 : Nat)) ∧ ∃ m, w' = w.drewN m :=
 (rror_any x 25 w hx (by omega) (by omega)).mono fun _ _ h => ⟨h.1, 1, h.2.symm⟩
theorem rror_2 (x : Nat) (w : World) (hx : x < 4294967296) : Calls Tryz.prog 171 #[.int .u32 x, .int .i64 2] w fun e w' => e = .returned (.int .u32 (ror x 2 : Nat)) ∧ ∃ m, w' = w.drewN m :=
 (rror_any x 2 w hx (by omega) (by omega)).mono fun _ _ h => ⟨h.1, 1, h.2.symm⟩
theorem rror_13 (x : Nat) (w : World) (hx : x < 4294967296) : Calls Tryz.prog 171 #[.int .u32 x, .int .i64 13] w fun e w' => e = .returned (.int .u32 (ror x 13 : Nat)) ∧ ∃ m, w' = w.drewN m :=
 (rror_any x 13 w hx (by omega) (by omega)).mono fun _ _ h => ⟨h.1, 1, h.2.symm⟩
theorem rror_22 (x : Nat) (w : World) (hx : x < 4294967296) : Calls Tryz.prog 171 #[.int .u32 x, .int .i64 22] w fun e w' => e = .returned (.int .u32 (ror x 22 : Nat)) ∧ ∃ m, w' = w.drewN m :=
 (rror_any x 22 w hx (by omega) (by omega)).mono fun _ _ h => ⟨h.1, 1, h.2.symm⟩
theorem below_drewN {B : Nat} {a w : World} (h : Below B a w) (n : Nat) : Below B a (w.drewN n) := ⟨h.os, h.tape, h.output, h.size, h.block⟩
theorem row8 (W : World) (v : Nat → Nat) (t : TypeId) : (W.alloc (.cells #[.int .u32 (v 0 : Nat), .int .u32 (v 1 : Nat), .int .u32 (v 2 : Nat), .int .u32 (v 3 : Nat), .int .u32 (v 4 : Nat), .int .u32 (v 5 : Nat), .int .u32 (v 6 : Nat), .int .u32 (v 7 : Nat)] t)).rowIs W.heap.size t 8 (stF v) := World.rowIs_alloc W _ t _ (fun i hi => by
  have hi' : i < 8 := hi
  match i, hi' with
  | 0, _ => rfl
  | 1, _ => rfl
  | 2, _ => rfl
  | 3, _ => rfl
  | 4, _ => rfl
  | 5, _ => rfl
  | 6, _ => rfl
  | 7, _ => rfl)
theorem row64 (W : World) (l : List Nat) (t : TypeId) : (W.alloc (.cells #[.int .u32 0, .int .u32 0, .int .u32 0, .int .u32 0, .int .u32 0, .int .u32 0, .int .u32 0, .int .u32 0, .int .u32 0, .int .u32 0, .int .u32 0, .int .u32 0, .int .u32 0, .int .u32 0, .int .u32 0, .int .u32 0, .int .u32 0, .int .u32 0, .int .u32 0, .int .u32 0, .int .u32 0, .int .u32 0, .int .u32 0, .int .u32 0, .int .u32 0, .int .u32 0, .int .u32 0, .int .u32 0, .int .u32 0, .int .u32 0, .int .u32 0, .int .u32 0, .int .u32 0, .int .u32 0, .int .u32 0, .int .u32 0, .int .u32 0, .int .u32 0, .int .u32 0, .int .u32 0, .int .u32 0, .int .u32 0, .int .u32 0, .int .u32 0, .int .u32 0, .int .u32 0, .int .u32 0, .int .u32 0, .int .u32 0, .int .u32 0, .int .u32 0, .int .u32 0, .int .u32 0, .int .u32 0, .int .u32 0, .int .u32 0, .int .u32 0, .int .u32 0, .int .u32 0, .int .u32 0, .int .u32 0, .int .u32 0, .int .u32 0, .int .u32 0] t)).rowIs W.heap.size t 64 (schF l 0) := World.rowIs_alloc W _ t _ (fun i hi => by
  have : ∀ j : Fin 64, (Array.replicate 64 (Value.int .u32 0))[j.val]? = some (schF l 0 j.val) := fun j => by simp [schF]
  exact this ⟨i, hi⟩)
theorem row_same {w : World} {g t n : Nat} {f : Nat → Value} {c : Array Value} (h : w.rowIs g t n f) (hc : w.heap[g]? = some (.cells c t (0, 0))) : (w.setRow g c).rowIs g t n f := by
 obtain ⟨c', h1, h2, h3⟩ := h
 have : c' = c := by rw [h1] at hc; injection hc with hc; injection hc
 subst this
 exact ⟨c', setRow_heap w g _ _ _ _ h1, h2, h3⟩
theorem row_other {w : World} {g b t n : Nat} {f : Nat → Value} (c : Array Value) (h : w.rowIs b t n f) (hne : b ≠ g) : (w.setRow g c).rowIs b t n f := h.of_block (setRow_other w g b c hne)
/-- what holds in the reference's block -/
def BInv (w wr : World) (l : List Nat) (s : Nat → Nat) (k : Nat) : Prop :=
 wr.rowIs (w.heap.size + 1 + 1) 205 64 (schF l k) ∧ wr.rowIs w.heap.size 190 8 (stF s) ∧ wr.heap[w.heap.size + 1]? = some (.cells #[.int .u32 0, .int .u32 0, .int .u32 0, .int .u32 0, .int .u32 0, .int .u32 0, .int .u32 0, .int .u32 0] 190 (0, 0)) ∧ Below w.heap.size w wr
theorem BInv.drewN {w wr : World} {l : List Nat} {s : Nat → Nat} {k : Nat} (h : BInv w wr l s k) (n : Nat) : BInv w (wr.drewN n) l s k := ⟨h.1, h.2.1, h.2.2.1, below_drewN h.2.2.2 n⟩
theorem BInv.drew {w wr : World} {l : List Nat} {s : Nat → Nat} {k : Nat} (h : BInv w wr l s k) : BInv w wr.drew l s k := ⟨h.1, h.2.1, h.2.2.1, h.2.2.2.drew⟩
theorem BInv.set {w wr : World} {l : List Nat} {s : Nat → Nat} {k : Nat} (h : BInv w wr l s k) : BInv w (wr.setCell ⟨w.heap.size + 1 + 1, k, none⟩ (.int .u32 (wt l k : Nat))) l s (k + 1) :=
 ⟨by rw [← schF_set]; exact h.1.set _ _, h.2.1.setOther (a := ⟨w.heap.size + 1 + 1, k, none⟩) (by show w.heap.size ≠ w.heap.size + 1 + 1; omega) _,
  (Below.heap_setCell wr ⟨w.heap.size + 1 + 1, k, none⟩ _ (w.heap.size + 1) (by show w.heap.size + 1 ≠ w.heap.size + 1 + 1; omega)).trans h.2.2.1, h.2.2.2.setCell (p := ⟨w.heap.size + 1 + 1, k, none⟩) (by show w.heap.size ≤ w.heap.size + 1 + 1; omega) _⟩
theorem BInv.below {w wr w' : World} {l : List Nat} {s : Nat → Nat} {k : Nat} (h : BInv w wr l s k) (hb : Below wr.heap.size wr w') : BInv w w' l s k :=
 ⟨rowIs_below h.1 hb h.1.lt, rowIs_below h.2.1 hb h.2.1.lt, (hb.block _ (Array.getElem?_eq_some_iff.1 h.2.2.1).1).trans h.2.2.1, h.2.2.2.trans (hb.mono h.2.2.2.size)⟩
theorem ch_xor {e f g : Nat} (he : e < 4294967296) (hf : f < 4294967296) (hg : g < 4294967296) : (e &&& f) ^^^ ((4294967295 ^^^ e) &&& g) = ch e f g := by
 apply Nat.eq_of_testBit_eq
 intro i
 have hn : Nat.testBit 4294967295 i = decide (i < 32) := by
  have := Nat.testBit_two_pow_sub_one 32 i
  rw [show (2 : Nat) ^ 32 - 1 = 4294967295 by decide] at this
  exact this
 simp only [ch, Nat.testBit_xor, Nat.testBit_and, hn]
 by_cases hi : i < 32
 ·simp only [hi, decide_true]
  cases e.testBit i <;> cases f.testBit i <;> cases g.testBit i <;> rfl
 ·have h2 : g.testBit i = false := Nat.testBit_lt_two_pow (Nat.lt_of_lt_of_le hg (Nat.pow_le_pow_right (n := 2) (i := 32) (j := i) (by omega) (by omega)))
  have h3 : f.testBit i = false := Nat.testBit_lt_two_pow (Nat.lt_of_lt_of_le hf (Nat.pow_le_pow_right (n := 2) (i := 32) (j := i) (by omega) (by omega)))
  simp [h2, h3]
theorem rrp_end (v : Nat → Nat) (k w : Nat) (h : Words v) :
  (((v 7 : Int) + bits .xor .u32 (bits .xor .u32 (ror (v 4) 6 : Nat) (ror (v 4) 11 : Nat)) (ror (v 4) 25 : Nat) + bits .xor .u32 (bits .and .u32 (v 4 : Nat) (v 5 : Nat)) (bits .and .u32 (bits .xor .u32 (if IntKind.u32.signed = true then -1 else IntKind.u32.max) (v 4 : Nat)) (v 6 : Nat)) + (k : Int)) % 4294967296 + (w : Int)) % 4294967296 = (rp v k w : Nat) := by
 have e0 : (if IntKind.u32.signed = true then (-1 : Int) else IntKind.u32.max) = ((4294967295 : Nat) : Int) := by decide
 have h4 := h 4 (by omega)
 rw [e0, xor3 _ _ _ (ror_lt _ _ h4) (ror_lt _ _ h4) (ror_lt _ _ h4), u32_and_nat _ _ h4 (h 5 (by omega)), u32_xor_nat _ _ (by omega) h4, u32_and_nat _ _ (SzSha.xor_lt (by omega) h4) (h 6 (by omega)), u32_xor_nat _ _ (SzSha.and_lt h4) (SzSha.and_lt (SzSha.xor_lt (by omega) h4)), ch_xor h4 (h 5 (by omega)) (h 6 (by omega))]
 change (((v 7 : Int) + (rot3 (v 4) 6 11 25 : Nat) + (ch (v 4) (v 5) (v 6) : Nat) + (k : Int)) % 4294967296 + (w : Int)) % 4294967296 = _
 unfold rp add
 omega
theorem rrq_end (v : Nat → Nat) (h : Words v) :
  (bits .xor .u32 (bits .xor .u32 (ror (v 0) 2 : Nat) (ror (v 0) 13 : Nat)) (ror (v 0) 22 : Nat) + bits .xor .u32 (bits .xor .u32 (bits .and .u32 (v 0 : Nat) (v 1 : Nat)) (bits .and .u32 (v 0 : Nat) (v 2 : Nat))) (bits .and .u32 (v 1 : Nat) (v 2 : Nat))) % 4294967296 = (rq v : Nat) := by
 have h0 := h 0 (by omega)
 have h1 := h 1 (by omega)
 have h2 := h 2 (by omega)
 rw [xor3 _ _ _ (ror_lt _ _ h0) (ror_lt _ _ h0) (ror_lt _ _ h0), u32_and_nat _ _ h0 h1, u32_and_nat _ _ h0 h2, u32_and_nat _ _ h1 h2, xor3 _ _ _ (SzSha.and_lt h0) (SzSha.and_lt h0) (SzSha.and_lt h1), maj_eq]
 change ((rot3 (v 0) 2 13 22 : Nat) + (maj (v 0) (v 1) (v 2) : Nat) : Int) % 4294967296 = _
 unfold rq add
 omega
theorem one8 (a0 a1 a2 a3 a4 a5 a6 a7 : Int) : (#[Value.int .u32 a0, Value.int .u32 a1, Value.int .u32 a2, Value.int .u32 a3, Value.int .u32 a4, Value.int .u32 a5, Value.int .u32 a6, Value.int .u32 a7]).all (·.oneCell') = true := by simp [Value.oneCell']
theorem sz8 (a0 a1 a2 a3 a4 a5 a6 a7 : Int) : (Tryz.prog.info? 190).map (·.size) = some (#[Value.int .u32 a0, Value.int .u32 a1, Value.int .u32 a2, Value.int .u32 a3, Value.int .u32 a4, Value.int .u32 a5, Value.int .u32 a6, Value.int .u32 a7]).size := by kernel_rfl
def kF (j : Nat) : Value := .int .u32 (kf j : Nat)
theorem ks_row (W : World) (g : Nat) (h : W.heap[g]? = some (.cells ksV 205 (0, 0))) : W.rowIs g 205 64 kF :=
 ⟨ksV, h, rfl, fun i hi => by
  have hi' : i < ks.length := hi
  unfold ksV kF kf
  rw [List.getElem?_toArray, List.getElem?_map, List.getElem?_eq_getElem hi', List.getD_eq_getElem?_getD, List.getElem?_eq_getElem hi']; rfl⟩
set_option maxRecDepth 100000 in
theorem rblock_any (g off c : Nat) (s : Nat → Nat) (l : List Nat) (w : World) (hl : Hid (l.length = 64)) (hb : Hid (Bytes l)) (hs : Hid (Words s)) (hc : 64 ≤ c) (hg : g < w.heap.size) (hL : Hid (BytesAt w g off l)) :
  Calls Tryz.prog 155 #[.agg #[.int .u32 (s 0 : Nat), .int .u32 (s 1 : Nat), .int .u32 (s 2 : Nat), .int .u32 (s 3 : Nat), .int .u32 (s 4 : Nat), .int .u32 (s 5 : Nat), .int .u32 (s 6 : Nat), .int .u32 (s 7 : Nat)], .slice (some ⟨g, off, none⟩) 64 c] w fun e w' => e = .returned (.agg #[.int .u32 (block s l 0 : Nat), .int .u32 (block s l 1 : Nat), .int .u32 (block s l 2 : Nat), .int .u32 (block s l 3 : Nat), .int .u32 (block s l 4 : Nat), .int .u32 (block s l 5 : Nat), .int .u32 (block s l 6 : Nat), .int .u32 (block s l 7 : Nat)]) ∧ Below w.heap.size w w' := by
 have hsz2 : ((w.alloc (.cells #[.int .u32 (s 0 : Nat), .int .u32 (s 1 : Nat), .int .u32 (s 2 : Nat), .int .u32 (s 3 : Nat), .int .u32 (s 4 : Nat), .int .u32 (s 5 : Nat), .int .u32 (s 6 : Nat), .int .u32 (s 7 : Nat)] 190)).alloc (.cells #[.int .u32 0, .int .u32 0, .int .u32 0, .int .u32 0, .int .u32 0, .int .u32 0, .int .u32 0, .int .u32 0] 190)).heap.size = w.heap.size + 1 + 1 := by simp
 have hZ := heap_alloc_new ((w.alloc (.cells #[.int .u32 (s 0 : Nat), .int .u32 (s 1 : Nat), .int .u32 (s 2 : Nat), .int .u32 (s 3 : Nat), .int .u32 (s 4 : Nat), .int .u32 (s 5 : Nat), .int .u32 (s 6 : Nat), .int .u32 (s 7 : Nat)] 190)).alloc (.cells #[.int .u32 0, .int .u32 0, .int .u32 0, .int .u32 0, .int .u32 0, .int .u32 0, .int .u32 0, .int .u32 0] 190)) (.cells #[.int .u32 0, .int .u32 0, .int .u32 0, .int .u32 0, .int .u32 0, .int .u32 0, .int .u32 0, .int .u32 0, .int .u32 0, .int .u32 0, .int .u32 0, .int .u32 0, .int .u32 0, .int .u32 0, .int .u32 0, .int .u32 0, .int .u32 0, .int .u32 0, .int .u32 0, .int .u32 0, .int .u32 0, .int .u32 0, .int .u32 0, .int .u32 0, .int .u32 0, .int .u32 0, .int .u32 0, .int .u32 0, .int .u32 0, .int .u32 0, .int .u32 0, .int .u32 0, .int .u32 0, .int .u32 0, .int .u32 0, .int .u32 0, .int .u32 0, .int .u32 0, .int .u32 0, .int .u32 0, .int .u32 0, .int .u32 0, .int .u32 0, .int .u32 0, .int .u32 0, .int .u32 0, .int .u32 0, .int .u32 0, .int .u32 0, .int .u32 0, .int .u32 0, .int .u32 0, .int .u32 0, .int .u32 0, .int .u32 0, .int .u32 0, .int .u32 0, .int .u32 0, .int .u32 0, .int .u32 0, .int .u32 0, .int .u32 0, .int .u32 0, .int .u32 0] 205)
 have hrZ := row64 ((w.alloc (.cells #[.int .u32 (s 0 : Nat), .int .u32 (s 1 : Nat), .int .u32 (s 2 : Nat), .int .u32 (s 3 : Nat), .int .u32 (s 4 : Nat), .int .u32 (s 5 : Nat), .int .u32 (s 6 : Nat), .int .u32 (s 7 : Nat)] 190)).alloc (.cells #[.int .u32 0, .int .u32 0, .int .u32 0, .int .u32 0, .int .u32 0, .int .u32 0, .int .u32 0, .int .u32 0] 190)) l 205
 have hrs := (row8 w s 190).alloc (.cells #[.int .u32 0, .int .u32 0, .int .u32 0, .int .u32 0, .int .u32 0, .int .u32 0, .int .u32 0, .int .u32 0] 190) |>.alloc (.cells #[.int .u32 0, .int .u32 0, .int .u32 0, .int .u32 0, .int .u32 0, .int .u32 0, .int .u32 0, .int .u32 0, .int .u32 0, .int .u32 0, .int .u32 0, .int .u32 0, .int .u32 0, .int .u32 0, .int .u32 0, .int .u32 0, .int .u32 0, .int .u32 0, .int .u32 0, .int .u32 0, .int .u32 0, .int .u32 0, .int .u32 0, .int .u32 0, .int .u32 0, .int .u32 0, .int .u32 0, .int .u32 0, .int .u32 0, .int .u32 0, .int .u32 0, .int .u32 0, .int .u32 0, .int .u32 0, .int .u32 0, .int .u32 0, .int .u32 0, .int .u32 0, .int .u32 0, .int .u32 0, .int .u32 0, .int .u32 0, .int .u32 0, .int .u32 0, .int .u32 0, .int .u32 0, .int .u32 0, .int .u32 0, .int .u32 0, .int .u32 0, .int .u32 0, .int .u32 0, .int .u32 0, .int .u32 0, .int .u32 0, .int .u32 0, .int .u32 0, .int .u32 0, .int .u32 0, .int .u32 0, .int .u32 0, .int .u32 0, .int .u32 0, .int .u32 0] 205)
 have hB0 : Below w.heap.size w (((w.alloc (.cells #[.int .u32 (s 0 : Nat), .int .u32 (s 1 : Nat), .int .u32 (s 2 : Nat), .int .u32 (s 3 : Nat), .int .u32 (s 4 : Nat), .int .u32 (s 5 : Nat), .int .u32 (s 6 : Nat), .int .u32 (s 7 : Nat)] 190)).alloc (.cells #[.int .u32 0, .int .u32 0, .int .u32 0, .int .u32 0, .int .u32 0, .int .u32 0, .int .u32 0, .int .u32 0] 190)).alloc (.cells #[.int .u32 0, .int .u32 0, .int .u32 0, .int .u32 0, .int .u32 0, .int .u32 0, .int .u32 0, .int .u32 0, .int .u32 0, .int .u32 0, .int .u32 0, .int .u32 0, .int .u32 0, .int .u32 0, .int .u32 0, .int .u32 0, .int .u32 0, .int .u32 0, .int .u32 0, .int .u32 0, .int .u32 0, .int .u32 0, .int .u32 0, .int .u32 0, .int .u32 0, .int .u32 0, .int .u32 0, .int .u32 0, .int .u32 0, .int .u32 0, .int .u32 0, .int .u32 0, .int .u32 0, .int .u32 0, .int .u32 0, .int .u32 0, .int .u32 0, .int .u32 0, .int .u32 0, .int .u32 0, .int .u32 0, .int .u32 0, .int .u32 0, .int .u32 0, .int .u32 0, .int .u32 0, .int .u32 0, .int .u32 0, .int .u32 0, .int .u32 0, .int .u32 0, .int .u32 0, .int .u32 0, .int .u32 0, .int .u32 0, .int .u32 0, .int .u32 0, .int .u32 0, .int .u32 0, .int .u32 0, .int .u32 0, .int .u32 0, .int .u32 0, .int .u32 0] 205)) := (((Below.refl _ w).alloc (Nat.le_refl _) _).alloc (by simp) _).alloc (by simp; omega) _
 have hR0 : (((w.alloc (.cells #[.int .u32 (s 0 : Nat), .int .u32 (s 1 : Nat), .int .u32 (s 2 : Nat), .int .u32 (s 3 : Nat), .int .u32 (s 4 : Nat), .int .u32 (s 5 : Nat), .int .u32 (s 6 : Nat), .int .u32 (s 7 : Nat)] 190)).alloc (.cells #[.int .u32 0, .int .u32 0, .int .u32 0, .int .u32 0, .int .u32 0, .int .u32 0, .int .u32 0, .int .u32 0] 190)).alloc (.cells #[.int .u32 0, .int .u32 0, .int .u32 0, .int .u32 0, .int .u32 0, .int .u32 0, .int .u32 0, .int .u32 0, .int .u32 0, .int .u32 0, .int .u32 0, .int .u32 0, .int .u32 0, .int .u32 0, .int .u32 0, .int .u32 0, .int .u32 0, .int .u32 0, .int .u32 0, .int .u32 0, .int .u32 0, .int .u32 0, .int .u32 0, .int .u32 0, .int .u32 0, .int .u32 0, .int .u32 0, .int .u32 0, .int .u32 0, .int .u32 0, .int .u32 0, .int .u32 0, .int .u32 0, .int .u32 0, .int .u32 0, .int .u32 0, .int .u32 0, .int .u32 0, .int .u32 0, .int .u32 0, .int .u32 0, .int .u32 0, .int .u32 0, .int .u32 0, .int .u32 0, .int .u32 0, .int .u32 0, .int .u32 0, .int .u32 0, .int .u32 0, .int .u32 0, .int .u32 0, .int .u32 0, .int .u32 0, .int .u32 0, .int .u32 0, .int .u32 0, .int .u32 0, .int .u32 0, .int .u32 0, .int .u32 0, .int .u32 0, .int .u32 0, .int .u32 0] 205)).heap[w.heap.size + 1]? = some (.cells #[.int .u32 0, .int .u32 0, .int .u32 0, .int .u32 0, .int .u32 0, .int .u32 0, .int .u32 0, .int .u32 0] 190 (0, 0)) := by
  rw [Below.heap_alloc _ _ _ (by rw [hsz2]; omega)]
  have := heap_alloc_new (w.alloc (.cells #[.int .u32 (s 0 : Nat), .int .u32 (s 1 : Nat), .int .u32 (s 2 : Nat), .int .u32 (s 3 : Nat), .int .u32 (s 4 : Nat), .int .u32 (s 5 : Nat), .int .u32 (s 6 : Nat), .int .u32 (s 7 : Nat)] 190)) (.cells #[.int .u32 0, .int .u32 0, .int .u32 0, .int .u32 0, .int .u32 0, .int .u32 0, .int .u32 0, .int .u32 0] 190)
  rw [World.size_alloc] at this
  exact this
 rw [hsz2] at hZ hrZ
 have HZ := hid hZ
 have HRZ := hid hrZ
 have HRS := hid hrs
 have HB0 := hid hB0
 have HR0 := hid hR0
 clear hsz2 hZ hrZ hrs hB0 hR0
 go_enter Tryz.func155, Tryz.ntmps155
 go_wp2_with (refine wpList_store_row rfl 205 (.tmp 5) (.tmp 22) rfl (w.heap.size + 1 + 1) #[.int .u32 0, .int .u32 0, .int .u32 0, .int .u32 0, .int .u32 0, .int .u32 0, .int .u32 0, .int .u32 0, .int .u32 0, .int .u32 0, .int .u32 0, .int .u32 0, .int .u32 0, .int .u32 0, .int .u32 0, .int .u32 0, .int .u32 0, .int .u32 0, .int .u32 0, .int .u32 0, .int .u32 0, .int .u32 0, .int .u32 0, .int .u32 0, .int .u32 0, .int .u32 0, .int .u32 0, .int .u32 0, .int .u32 0, .int .u32 0, .int .u32 0, .int .u32 0, .int .u32 0, .int .u32 0, .int .u32 0, .int .u32 0, .int .u32 0, .int .u32 0, .int .u32 0, .int .u32 0, .int .u32 0, .int .u32 0, .int .u32 0, .int .u32 0, .int .u32 0, .int .u32 0, .int .u32 0, .int .u32 0, .int .u32 0, .int .u32 0, .int .u32 0, .int .u32 0, .int .u32 0, .int .u32 0, .int .u32 0, .int .u32 0, .int .u32 0, .int .u32 0, .int .u32 0, .int .u32 0, .int .u32 0, .int .u32 0, .int .u32 0, .int .u32 0] rfl rfl 205 _ HZ.out (by kernel_rfl) rfl (by decide +kernel) ?_)
 have HI : Hid (BInv w _ l s 0) := hid ⟨row_same HRZ.out HZ.out, row_other #[.int .u32 0, .int .u32 0, .int .u32 0, .int .u32 0, .int .u32 0, .int .u32 0, .int .u32 0, .int .u32 0, .int .u32 0, .int .u32 0, .int .u32 0, .int .u32 0, .int .u32 0, .int .u32 0, .int .u32 0, .int .u32 0, .int .u32 0, .int .u32 0, .int .u32 0, .int .u32 0, .int .u32 0, .int .u32 0, .int .u32 0, .int .u32 0, .int .u32 0, .int .u32 0, .int .u32 0, .int .u32 0, .int .u32 0, .int .u32 0, .int .u32 0, .int .u32 0, .int .u32 0, .int .u32 0, .int .u32 0, .int .u32 0, .int .u32 0, .int .u32 0, .int .u32 0, .int .u32 0, .int .u32 0, .int .u32 0, .int .u32 0, .int .u32 0, .int .u32 0, .int .u32 0, .int .u32 0, .int .u32 0, .int .u32 0, .int .u32 0, .int .u32 0, .int .u32 0, .int .u32 0, .int .u32 0, .int .u32 0, .int .u32 0, .int .u32 0, .int .u32 0, .int .u32 0, .int .u32 0, .int .u32 0, .int .u32 0, .int .u32 0, .int .u32 0] HRS.out (show w.heap.size ≠ w.heap.size + 1 + 1 by omega), (setRow_other _ (w.heap.size + 1 + 1) (w.heap.size + 1) #[.int .u32 0, .int .u32 0, .int .u32 0, .int .u32 0, .int .u32 0, .int .u32 0, .int .u32 0, .int .u32 0, .int .u32 0, .int .u32 0, .int .u32 0, .int .u32 0, .int .u32 0, .int .u32 0, .int .u32 0, .int .u32 0, .int .u32 0, .int .u32 0, .int .u32 0, .int .u32 0, .int .u32 0, .int .u32 0, .int .u32 0, .int .u32 0, .int .u32 0, .int .u32 0, .int .u32 0, .int .u32 0, .int .u32 0, .int .u32 0, .int .u32 0, .int .u32 0, .int .u32 0, .int .u32 0, .int .u32 0, .int .u32 0, .int .u32 0, .int .u32 0, .int .u32 0, .int .u32 0, .int .u32 0, .int .u32 0, .int .u32 0, .int .u32 0, .int .u32 0, .int .u32 0, .int .u32 0, .int .u32 0, .int .u32 0, .int .u32 0, .int .u32 0, .int .u32 0, .int .u32 0, .int .u32 0, .int .u32 0, .int .u32 0, .int .u32 0, .int .u32 0, .int .u32 0, .int .u32 0, .int .u32 0, .int .u32 0, .int .u32 0, .int .u32 0] (by omega)).trans HR0.out, below_setRow HB0.out (show w.heap.size ≤ w.heap.size + 1 + 1 by omega) #[.int .u32 0, .int .u32 0, .int .u32 0, .int .u32 0, .int .u32 0, .int .u32 0, .int .u32 0, .int .u32 0, .int .u32 0, .int .u32 0, .int .u32 0, .int .u32 0, .int .u32 0, .int .u32 0, .int .u32 0, .int .u32 0, .int .u32 0, .int .u32 0, .int .u32 0, .int .u32 0, .int .u32 0, .int .u32 0, .int .u32 0, .int .u32 0, .int .u32 0, .int .u32 0, .int .u32 0, .int .u32 0, .int .u32 0, .int .u32 0, .int .u32 0, .int .u32 0, .int .u32 0, .int .u32 0, .int .u32 0, .int .u32 0, .int .u32 0, .int .u32 0, .int .u32 0, .int .u32 0, .int .u32 0, .int .u32 0, .int .u32 0, .int .u32 0, .int .u32 0, .int .u32 0, .int .u32 0, .int .u32 0, .int .u32 0, .int .u32 0, .int .u32 0, .int .u32 0, .int .u32 0, .int .u32 0, .int .u32 0, .int .u32 0, .int .u32 0, .int .u32 0, .int .u32 0, .int .u32 0, .int .u32 0, .int .u32 0, .int .u32 0, .int .u32 0]⟩
 clear HZ HRZ HRS HB0 HR0
 go_loopw [6] (fun i wr => ∃ k : Nat, k ≤ 16 ∧ i = .int .i64 k ∧ Hid (BInv w wr l s k)) (fun i _ => 16 - (intOf i).toNat)
 case atStart => exact ⟨0, by omega, rfl, HI⟩
 case round =>
  clear HI
  obtain ⟨k, hk1, rfl, hI⟩ := hrel
  by_cases hlt : k < 16
  ·have hcell := hI.out.1.cell (i := k) (by omega)
   have hfr := hI.out.1.frozen k
   have HX : Hid (∀ i, i < 4 → wr.cell? ⟨g, off + 4 * k + i, none⟩ = some (.int .u8 (l.getD (4 * k + i) 0 : Nat))) := hid fun i hi => by
    rw [Nat.add_assoc]
    exact (hI.out.2.2.2.cell (p := ⟨g, off + (4 * k + i), none⟩) hg).trans (hL.out _ (by have := hl.out; omega))
   obtain ⟨x0, X0⟩ : ∃ x, Hid (l.getD (4 * k) 0 = x) := ⟨_, hid rfl⟩
   obtain ⟨x1, X1⟩ : ∃ x, Hid (l.getD (4 * k + 1) 0 = x) := ⟨_, hid rfl⟩
   obtain ⟨x2, X2⟩ : ∃ x, Hid (l.getD (4 * k + 2) 0 = x) := ⟨_, hid rfl⟩
   obtain ⟨x3, X3⟩ : ∃ x, Hid (l.getD (4 * k + 3) 0 = x) := ⟨_, hid rfl⟩
   have HW : Hid ((((x0 * 256 + x1) * 256 + x2) * 256 + x3) = wt l k) := hid (by rw [wt_low l k hlt, word, X0.out, X1.out, X2.out, X3.out])
   go_wp2_with fail
   refine (rword_any g (off + 4 * k) (c - 4 * k) x0 x1 x2 x3 _ (by rw [← X0.out]; exact hb.out.getD _) (by rw [← X1.out]; exact hb.out.getD _) (by rw [← X2.out]; exact hb.out.getD _) (by rw [← X3.out]; exact hb.out.getD _) (by rw [← X0.out]; exact HX.out 0 (by omega)) (by rw [← X1.out]; exact HX.out 1 (by omega)) (by rw [← X2.out]; exact HX.out 2 (by omega)) (by rw [← X3.out]; exact HX.out 3 (by omega))).mono ?_
   rintro e w1 ⟨rfl, rfl⟩
   rw [HW.out]
   go_wp2_with fail
   go_roundw
   case rel => exact ⟨k + 1, by omega, by go_num, hid hI.out.drew.set⟩
   case measure => simp [intOf]; omega
  ·have hI16 : Hid (BInv w wr l s 16) := by have := hI; rw [show k = 16 by omega] at this; exact this
   have d16 : decide ((k : Int) < 16) = false := dQ (by omega)
   clear hI
   go_wp2_with fail
   go_loopw [7] (fun i wr => ∃ k : Nat, 16 ≤ k ∧ k ≤ 64 ∧ i = .int .i64 k ∧ Hid (BInv w wr l s k)) (fun i _ => 64 - (intOf i).toNat)
   case atStart => exact ⟨16, by omega, by omega, rfl, hI16⟩
   case round =>
    clear hI16 hlt
    obtain ⟨k, hk0, hk, rfl, hI⟩ := hrel
    by_cases hlt : k < 64
    ·obtain ⟨d, hd⟩ : ∃ d, d + 16 = k := ⟨k - 16, by omega⟩
     obtain ⟨a, ha⟩ : ∃ a, a + 15 = k := ⟨k - 15, by omega⟩
     obtain ⟨f, hf⟩ : ∃ f, f + 7 = k := ⟨k - 7, by omega⟩
     obtain ⟨b, hb2⟩ : ∃ b, b + 2 = k := ⟨k - 2, by omega⟩
     have hcell := hI.out.1.cell (i := k) (by omega)
     have hfr := hI.out.1.frozen k
     have c15 := hI.out.1.cell (i := a) (by omega)
     have c2 := hI.out.1.cell (i := b) (by omega)
     have c16 := hI.out.1.cell (i := d) (by omega)
     have c7 := hI.out.1.cell (i := f) (by omega)
     unfold schF at c15 c2 c16 c7
     rw [if_pos (by omega)] at c15 c2 c16 c7
     have a64 : (a : Int) < 64 := by omega
     have b64 : (b : Int) < 64 := by omega
     have d64 : (d : Int) < 64 := by omega
     have f64 : (f : Int) < 64 := by omega
     have k64 : (k : Int) < 64 := by omega
     have la := wt_lt hb.out a (by omega)
     have lb := wt_lt hb.out b (by omega)
     have EW : Hid (wt l k = add (add (add (wt l d) (sg0 (wt l a))) (wt l f)) (sg1 (wt l b))) := hid (by
      rw [wt_high l k hk0 hlt, show k - 16 = d by omega, show k - 15 = a by omega, show k - 7 = f by omega, show k - 2 = b by omega])
     have e15 : IntKind.i64.wrap ((k : Int) - 15) = (a : Int) := by rw [IntWalk.i64_in _ (by omega)]; omega
     have e2 : IntKind.i64.wrap ((k : Int) - 2) = (b : Int) := by rw [IntWalk.i64_in _ (by omega)]; omega
     have e16 : IntKind.i64.wrap ((k : Int) - 16) = (d : Int) := by rw [IntWalk.i64_in _ (by omega)]; omega
     have e7 : IntKind.i64.wrap ((k : Int) - 7) = (f : Int) := by rw [IntWalk.i64_in _ (by omega)]; omega
     have z15 : (k : Int) - 15 = (a : Int) := by omega
     have z2 : (k : Int) - 2 = (b : Int) := by omega
     have SE := hid (sch_end (wt l d) (wt l a) (wt l f) (wt l b) la lb)
     clear hd ha hf hb2
     go_wp2_with fail
     refine region_quiet_tail 29 (fun w' => ∃ n, w' = wr.drewN n) (by kernel_rfl) (by kernel_rfl) ⟨1, rfl⟩ ?_
     simp only [List.take_succ_cons, List.take_zero, List.drop_succ_cons, List.drop_zero]
     repeat (first | go_big_quiet_step (first | with_reducible exact Calls.quiet_of (rror_7 _ _ la) | with_reducible exact Calls.quiet_of (rror_18 _ _ la) | with_reducible exact Calls.quiet_of (rror_17 _ _ lb) | with_reducible exact Calls.quiet_of (rror_19 _ _ lb)) | quiet_step (first | with_reducible exact Calls.quiet_of (rror_7 _ _ la) | with_reducible exact Calls.quiet_of (rror_18 _ _ la) | with_reducible exact Calls.quiet_of (rror_17 _ _ lb) | with_reducible exact Calls.quiet_of (rror_19 _ _ lb)))
     refine wpQuiet_nil ?_
     rintro _ ⟨nq, rfl⟩
     go_wp2_with fail
     go_roundw
     case rel =>
      rw [SE.out, ← EW.out]
      exact ⟨k + 1, by omega, by omega, by go_num, hid (hI.out.drewN nq).set⟩
     case measure => simp [intOf]; omega
    ·have hI64 : Hid (BInv w wr l s 64) := by have := hI; rw [show k = 64 by omega] at this; exact this
     have d64 : decide ((k : Int) < 64) = false := dQ (by omega)
     clear hI
     go_wp2_with fail
     refine (numbers_any _).mono ?_
     rintro e w1 ⟨rfl, hb1⟩
     have HI1 := hid (hI64.out.below hb1)
     clear hI64 hb1
     have hq := laid_row w1 #[.int .u32 0, .int .u32 0, .int .u32 0, .int .u32 0, .int .u32 0, .int .u32 0, .int .u32 0, .int .u32 0, .int .u32 0, .int .u32 0, .int .u32 0, .int .u32 0, .int .u32 0, .int .u32 0, .int .u32 0, .int .u32 0, .int .u32 0, .int .u32 0, .int .u32 0, .int .u32 0, .int .u32 0, .int .u32 0, .int .u32 0, .int .u32 0, .int .u32 0, .int .u32 0, .int .u32 0, .int .u32 0, .int .u32 0, .int .u32 0, .int .u32 0, .int .u32 0, .int .u32 0, .int .u32 0, .int .u32 0, .int .u32 0, .int .u32 0, .int .u32 0, .int .u32 0, .int .u32 0, .int .u32 0, .int .u32 0, .int .u32 0, .int .u32 0, .int .u32 0, .int .u32 0, .int .u32 0, .int .u32 0, .int .u32 0, .int .u32 0, .int .u32 0, .int .u32 0, .int .u32 0, .int .u32 0, .int .u32 0, .int .u32 0, .int .u32 0, .int .u32 0, .int .u32 0, .int .u32 0, .int .u32 0, .int .u32 0, .int .u32 0, .int .u32 0] ksV 205
     have HQ := hid hq
     clear hq
     go_wp2_with (refine wpList_store_row rfl 205 (.tmp 10) (.tmp 78) rfl w1.heap.size ksV rfl rfl 205 _ (heap_alloc_new w1 _) (by kernel_rfl) rfl (by decide +kernel) ?_)
     have HI2 := hid (HI1.out.below HQ.out.1)
     have HK2 := hid (ks_row _ _ HQ.out.2.2)
     have hlt1 : w.heap.size + 1 + 1 < w1.heap.size := HI1.out.1.lt
     clear HQ HI1
     generalize (w1.alloc (.cells #[.int .u32 0, .int .u32 0, .int .u32 0, .int .u32 0, .int .u32 0, .int .u32 0, .int .u32 0, .int .u32 0, .int .u32 0, .int .u32 0, .int .u32 0, .int .u32 0, .int .u32 0, .int .u32 0, .int .u32 0, .int .u32 0, .int .u32 0, .int .u32 0, .int .u32 0, .int .u32 0, .int .u32 0, .int .u32 0, .int .u32 0, .int .u32 0, .int .u32 0, .int .u32 0, .int .u32 0, .int .u32 0, .int .u32 0, .int .u32 0, .int .u32 0, .int .u32 0, .int .u32 0, .int .u32 0, .int .u32 0, .int .u32 0, .int .u32 0, .int .u32 0, .int .u32 0, .int .u32 0, .int .u32 0, .int .u32 0, .int .u32 0, .int .u32 0, .int .u32 0, .int .u32 0, .int .u32 0, .int .u32 0, .int .u32 0, .int .u32 0, .int .u32 0, .int .u32 0, .int .u32 0, .int .u32 0, .int .u32 0, .int .u32 0, .int .u32 0, .int .u32 0, .int .u32 0, .int .u32 0, .int .u32 0, .int .u32 0, .int .u32 0, .int .u32 0] 205)).setRow w1.heap.size ksV = w2 at *
     obtain ⟨gk, Hgk⟩ : ∃ gk, Hid (w1.heap.size = gk) := ⟨_, hid rfl⟩
     rw [Hgk.out] at HK2 hlt1
     rw [Hgk.out]
     refine wp_region_still_lit (by kernel_rfl) (by kernel_rfl) ?_
     change wpStill _ _ w2.drew (fun a' => Exit.then _ _ _ a' w2.drew) _ _
     have HI3 := hid HI2.out.drew
     have HK3 : Hid (w2.drew.rowIs gk 205 64 kF) := HK2
     generalize w2.drew = w3 at *
     clear HI2 HK2
     have s0 : w3.cell? ⟨w.heap.size, 0, none⟩ = some (.int .u32 (s 0 : Nat)) := HI3.out.2.1.cell (by omega)
     have s1 : w3.cell? ⟨w.heap.size, 1, none⟩ = some (.int .u32 (s 1 : Nat)) := HI3.out.2.1.cell (by omega)
     have s2 : w3.cell? ⟨w.heap.size, 2, none⟩ = some (.int .u32 (s 2 : Nat)) := HI3.out.2.1.cell (by omega)
     have s3 : w3.cell? ⟨w.heap.size, 3, none⟩ = some (.int .u32 (s 3 : Nat)) := HI3.out.2.1.cell (by omega)
     have s4 : w3.cell? ⟨w.heap.size, 4, none⟩ = some (.int .u32 (s 4 : Nat)) := HI3.out.2.1.cell (by omega)
     have s5 : w3.cell? ⟨w.heap.size, 5, none⟩ = some (.int .u32 (s 5 : Nat)) := HI3.out.2.1.cell (by omega)
     have s6 : w3.cell? ⟨w.heap.size, 6, none⟩ = some (.int .u32 (s 6 : Nat)) := HI3.out.2.1.cell (by omega)
     have s7 : w3.cell? ⟨w.heap.size, 7, none⟩ = some (.int .u32 (s 7 : Nat)) := HI3.out.2.1.cell (by omega)
     repeat still_step
     refine wpStill_nil ?_
     clear s0 s1 s2 s3 s4 s5 s6 s7
     go_wp2_with fail
     go_loopw [11, 12, 13, 14, 15, 16, 17, 18, 19] (fun x0 x1 x2 x3 x4 x5 x6 x7 i wz => ∃ k : Nat, k ≤ 64 ∧ i = .int .i64 k ∧ x0 = .int .u32 (rounds l s k 0 : Nat) ∧ x1 = .int .u32 (rounds l s k 1 : Nat) ∧ x2 = .int .u32 (rounds l s k 2 : Nat) ∧ x3 = .int .u32 (rounds l s k 3 : Nat) ∧ x4 = .int .u32 (rounds l s k 4 : Nat) ∧ x5 = .int .u32 (rounds l s k 5 : Nat) ∧ x6 = .int .u32 (rounds l s k 6 : Nat) ∧ x7 = .int .u32 (rounds l s k 7 : Nat) ∧ Hid (BInv w wz l s 64) ∧ Hid (wz.rowIs gk 205 64 kF)) (fun _ _ _ _ _ _ _ _ i _ => 64 - (intOf i).toNat)
     case atStart => exact ⟨0, by omega, rfl, rfl, rfl, rfl, rfl, rfl, rfl, rfl, rfl, HI3, HK3⟩
     case round =>
      clear HI3 HK3
      rename World => wz
      obtain ⟨k, hk, rfl, rfl, rfl, rfl, rfl, rfl, rfl, rfl, rfl, hI, hK⟩ := hrel
      by_cases hlt : k < 64
      ·have hWd := hid (rounds_words hs.out l k)
       obtain ⟨v, HV⟩ : ∃ v : Nat → Nat, Hid (rounds l s k = v) := ⟨_, hid rfl⟩
       rw [HV.out] at hWd
       rw [HV.out]
       have l0 := hWd.out 0 (by omega)
       have l4 := hWd.out 4 (by omega)
       have k64 : (k : Int) < 64 := by omega
       have wk := hI.out.1.cell (i := k) (by omega)
       have nk := hK.out.cell (i := k) (by omega)
       unfold schF at wk
       unfold kF at nk
       rw [if_pos hlt] at wk
       go_wp2_with fail
       go_quiet ((first | with_reducible exact Calls.quiet_of (rror_6 _ _ l4) | with_reducible exact Calls.quiet_of (rror_11 _ _ l4) | with_reducible exact Calls.quiet_of (rror_25 _ _ l4)))
       rw [rrp_end v (kf k) (wt l k) hWd.out]
       have hI4 := hid (hI.out.drewN nq)
       have hK4 : Hid ((wz.drewN nq).rowIs gk 205 64 kF) := hK
       generalize wz.drewN nq = w4 at *
       clear hI hK wk nk k64 l4
       go_wp2_with fail
       refine (rror_2 (v 0) _ l0).mono ?_
       rintro e w' ⟨rfl, m4, rfl⟩
       go_wp2_with fail
       refine (rror_13 (v 0) _ l0).mono ?_
       rintro e w' ⟨rfl, m5, rfl⟩
       go_wp2_with fail
       refine (rror_22 (v 0) _ l0).mono ?_
       rintro e w' ⟨rfl, m6, rfl⟩
       have QE := hid (rrq_end v hWd.out)
       go_wp2_with fail
       go_roundw
       case rel =>
        rw [QE.out, addI, addI]
        exact ⟨k + 1, by omega, by go_num, by rw [rounds, HV.out]; rfl, by rw [rounds, HV.out]; rfl, by rw [rounds, HV.out]; rfl, by rw [rounds, HV.out]; rfl, by rw [rounds, HV.out]; rfl, by rw [rounds, HV.out]; rfl, by rw [rounds, HV.out]; rfl, by rw [rounds, HV.out]; rfl, hid (hI4.out.drewN _), hK4⟩
       case measure => simp [intOf]; omega
      ·have dk : decide ((k : Int) < 64) = false := dQ (by omega)
       have E64 : Hid (rounds l s k = rounds l s 64) := hid (by rw [show k = 64 by omega])
       have s0 : wz.cell? ⟨w.heap.size, 0, none⟩ = some (.int .u32 (s 0 : Nat)) := hI.out.2.1.cell (by omega)
       have s1 : wz.cell? ⟨w.heap.size, 1, none⟩ = some (.int .u32 (s 1 : Nat)) := hI.out.2.1.cell (by omega)
       have s2 : wz.cell? ⟨w.heap.size, 2, none⟩ = some (.int .u32 (s 2 : Nat)) := hI.out.2.1.cell (by omega)
       have s3 : wz.cell? ⟨w.heap.size, 3, none⟩ = some (.int .u32 (s 3 : Nat)) := hI.out.2.1.cell (by omega)
       have s4 : wz.cell? ⟨w.heap.size, 4, none⟩ = some (.int .u32 (s 4 : Nat)) := hI.out.2.1.cell (by omega)
       have s5 : wz.cell? ⟨w.heap.size, 5, none⟩ = some (.int .u32 (s 5 : Nat)) := hI.out.2.1.cell (by omega)
       have s6 : wz.cell? ⟨w.heap.size, 6, none⟩ = some (.int .u32 (s 6 : Nat)) := hI.out.2.1.cell (by omega)
       have s7 : wz.cell? ⟨w.heap.size, 7, none⟩ = some (.int .u32 (s 7 : Nat)) := hI.out.2.1.cell (by omega)
       go_wp2_with (refine wpList_store_row rfl 190 (.tmp 4) (.tmp 190) rfl (w.heap.size + 1) #[.int .u32 (((s 0 : Nat) + (rounds l s k 0 : Nat) : Int) % 4294967296), .int .u32 (((s 1 : Nat) + (rounds l s k 1 : Nat) : Int) % 4294967296), .int .u32 (((s 2 : Nat) + (rounds l s k 2 : Nat) : Int) % 4294967296), .int .u32 (((s 3 : Nat) + (rounds l s k 3 : Nat) : Int) % 4294967296), .int .u32 (((s 4 : Nat) + (rounds l s k 4 : Nat) : Int) % 4294967296), .int .u32 (((s 5 : Nat) + (rounds l s k 5 : Nat) : Int) % 4294967296), .int .u32 (((s 6 : Nat) + (rounds l s k 6 : Nat) : Int) % 4294967296), .int .u32 (((s 7 : Nat) + (rounds l s k 7 : Nat) : Int) % 4294967296)] rfl rfl 190 _ hI.out.2.2.1 (sz8 _ _ _ _ _ _ _ _) rfl (one8 _ _ _ _ _ _ _ _) ?_)
       have hE : (#[.int .u32 (((s 0 : Nat) + (rounds l s k 0 : Nat) : Int) % 4294967296), .int .u32 (((s 1 : Nat) + (rounds l s k 1 : Nat) : Int) % 4294967296), .int .u32 (((s 2 : Nat) + (rounds l s k 2 : Nat) : Int) % 4294967296), .int .u32 (((s 3 : Nat) + (rounds l s k 3 : Nat) : Int) % 4294967296), .int .u32 (((s 4 : Nat) + (rounds l s k 4 : Nat) : Int) % 4294967296), .int .u32 (((s 5 : Nat) + (rounds l s k 5 : Nat) : Int) % 4294967296), .int .u32 (((s 6 : Nat) + (rounds l s k 6 : Nat) : Int) % 4294967296), .int .u32 (((s 7 : Nat) + (rounds l s k 7 : Nat) : Int) % 4294967296)] : Array Value) = #[.int .u32 (block s l 0 : Nat), .int .u32 (block s l 1 : Nat), .int .u32 (block s l 2 : Nat), .int .u32 (block s l 3 : Nat), .int .u32 (block s l 4 : Nat), .int .u32 (block s l 5 : Nat), .int .u32 (block s l 6 : Nat), .int .u32 (block s l 7 : Nat)] := by
        rw [addI, addI, addI, addI, addI, addI, addI, addI, E64.out]; rfl
       refine bodyPost_ret (results_cell_row rfl _ _ (w.heap.size + 1) 190 #[.int .u32 (((s 0 : Nat) + (rounds l s k 0 : Nat) : Int) % 4294967296), .int .u32 (((s 1 : Nat) + (rounds l s k 1 : Nat) : Int) % 4294967296), .int .u32 (((s 2 : Nat) + (rounds l s k 2 : Nat) : Int) % 4294967296), .int .u32 (((s 3 : Nat) + (rounds l s k 3 : Nat) : Int) % 4294967296), .int .u32 (((s 4 : Nat) + (rounds l s k 4 : Nat) : Int) % 4294967296), .int .u32 (((s 5 : Nat) + (rounds l s k 5 : Nat) : Int) % 4294967296), .int .u32 (((s 6 : Nat) + (rounds l s k 6 : Nat) : Int) % 4294967296), .int .u32 (((s 7 : Nat) + (rounds l s k 7 : Nat) : Int) % 4294967296)] (0, 0) _ rfl (setRow_heap wz (w.heap.size + 1) _ _ _ _ hI.out.2.2.1) Tryz.underlying190 rfl (sz8 _ _ _ _ _ _ _ _)) rfl ?_
       exact ⟨by rw [hE], below_setRow hI.out.2.2.2 (by omega) _⟩
theorem OwnB.empty (w : World) (base : Nat) (hb : base ≤ w.heap.size) : OwnB (w.alloc (.cells #[] 5)) base (.slice (some ⟨w.heap.size, 0, none⟩) 0 0) [] :=
 ⟨rfl, .inr ⟨w.heap.size, 0, #[], rfl, hb, heap_alloc_new w _, Nat.le_refl _, by simp, rfl, rfl⟩⟩
theorem one_rd (W : World) (x : Nat) : Rd (W.alloc (.cells #[.int .u8 (x : Nat)] 5)) (W.alloc (.cells #[.int .u8 (x : Nat)] 5)).heap.size (some ⟨W.heap.size, 0, none⟩) [x] := fun _ =>
 ⟨_, 0, rfl, by simp, fun i hi => by
  have : i = 0 := by simpa using hi
  subst this
  rw [Nat.add_zero, cell_of_row _ _ _ _ _ _ (heap_alloc_new W _)]; rfl⟩
theorem OwnB.alloc {w : World} {base : Nat} {v : Value} {l : List Nat} (h : OwnB w base v l) (o : Obj) : OwnB (w.alloc o) base v l := h.below ((Below.refl _ _).alloc (Nat.le_refl _) _)
theorem be_take (n j : Nat) (h : j < 8) : (be n 8).take (j + 1) = (be n 8).take j ++ [n / 256 ^ (7 - j) % 256] := by
 rw [List.take_succ_eq_append_getElem (by rw [be_length]; exact h)]
 congr 2
 simp [be]
theorem zeros_iff (n j : Nat) (h : j ≤ zeros n) : (n + 1 + j) % 64 = 56 ↔ j = zeros n := by unfold zeros at *; omega
theorem byte_be (n j : Nat) (h : j < 8) : ((n : Nat) : Int) / 2 ^ (8 * (7 - j)) % 256 = ((n / 256 ^ (7 - j) % 256 : Nat) : Int) := by
 show ((n / 2 ^ (8 * (7 - j)) % 256 : Nat) : Int) = _
 rw [Nat.pow_mul]
set_option maxRecDepth 100000 in
theorem padded_any (A : Option Addr) (n c : Nat) (l : List Nat) (w : World) (hn : Hid (l.length = n)) (hc : n ≤ c) (hA : A = none → c = 0) (hsz : n ≤ 4294967296) (hR : Hid (Rd w w.heap.size A l)) :
  Calls Tryz.prog 154 #[.slice A n c] w fun e w' => ∃ v, e = .returned v ∧ OwnB w' w.heap.size v (padded l) ∧ Below w.heap.size w w' := by
 have HA := hid hA
 clear hA
 have hb0 : Below w.heap.size w (w.alloc (.cells #[] 5)) := (Below.refl _ _).alloc (Nat.le_refl _) _
 have HB0 := hid hb0
 have HO0 := hid (OwnB.empty w w.heap.size (Nat.le_refl _))
 have HR0 : Hid (Rd (w.alloc (.cells #[] 5)) (w.alloc (.cells #[] 5)).heap.size A l) := hid ((hR.out.below hb0 (Nat.le_refl _)).mono (by simp))
 clear hb0
 obtain ⟨N8, H8, e8⟩ : ∃ N8 : Nat, Hid (N8 = 8 * n) ∧ (n : Int) * 8 = (N8 : Int) := ⟨8 * n, hid rfl, by omega⟩
 have hN8 : N8 ≤ 34359738368 := by have := H8.out; omega
 go_enter Tryz.func154, Tryz.ntmps154
 go_wp2_with (first
  | (at_builtin; refine wpList_append_bytes rfl (.tmp 6) (.tmp 7) rfl w.heap.size _ [] l rfl HO0 A n c rfl hn HA.out HR0 (by simp; omega) HB0.out.size ?_; intro v1 w1 HO1 HB1; have HB2 := hid (HB0.out.trans HB1.out); have HO2 := hid (HO1.out.alloc (.cells #[.int .u8 128] 5)); have HB3 := hid (HB2.out.alloc HB2.out.size (.cells #[.int .u8 128] 5)); have HR1 := hid (one_rd w1 128))
  | (at_builtin; refine wpList_append_bytes rfl (.tmp 8) (.tmp 9) rfl w.heap.size _ ([] ++ l) [128] rfl HO2 (some ⟨w1.heap.size, 0, none⟩) 1 1 rfl (hid rfl) (fun h => by cases h) HR1 (by simp [hn.out]; omega) HB3.out.size ?_; intro v2 w2 HO3 HB4))
 have HB5 := hid (HB3.out.trans HB4.out)
 have HO4 : Hid (OwnB w2 w.heap.size v2 (l ++ 128 :: List.replicate 0 0)) := hid (by have := HO3.out; simpa using this)
 clear HO0 HB0 HR0 HO1 HB1 HB2 HO2 HB3 HR1 HO3 HB4
 go_loopw [3] (fun v wr => ∃ j : Nat, j ≤ zeros n ∧ Hid (OwnB wr w.heap.size v (l ++ 128 :: List.replicate j 0)) ∧ Hid (Below w.heap.size w wr)) (fun v _ => n + 1 + zeros n - lenOf v)
 case atStart => exact ⟨0, by omega, HO4, HB5⟩
 case round =>
  clear HO4 HB5
  obtain ⟨j, hj, hO, hB⟩ := hrel
  obtain ⟨A1, m1, c1, rfl, hm1, hc1, hA1, HR1⟩ := hO.out.slice
  have hmj : m1 = n + 1 + j := by rw [← hm1.out]; simp [hn.out]; omega
  have hz63 : zeros n < 64 := Nat.mod_lt _ (by omega)
  have hmb : m1 ≤ 4294967400 := by omega
  by_cases he : j = zeros n
  ·have t1 : (((m1 : Int) % 64) != 56) = false := by
    have := (zeros_iff n j hj).2 he
    simp only [bne_eq_false_iff_eq]; omega
   have HO5 : Hid (OwnB wr w.heap.size (.slice A1 m1 c1) ((l ++ 128 :: List.replicate (zeros n) 0) ++ (be N8 8).take 0)) := hid (by rw [List.take_zero, List.append_nil, ← he]; exact hO.out)
   have HMJ := hid hmj
   clear hmj he
   go_wp2_with fail
   go_loopw [3, 5] (fun v i wr => ∃ t : Nat, t ≤ 8 ∧ i = .int .i64 (7 - (t : Int)) ∧ Hid (OwnB wr w.heap.size v ((l ++ 128 :: List.replicate (zeros n) 0) ++ (be N8 8).take t)) ∧ Hid (Below w.heap.size w wr)) (fun _ i _ => (intOf i + 1).toNat)
   case atStart => exact ⟨0, by omega, rfl, HO5, hB⟩
   case round =>
    clear HO5 hB hO HR1
    rename World => wr
    obtain ⟨t, ht, rfl, hO, hB⟩ := hrel
    by_cases hl8 : t < 8
    ·obtain ⟨sh, hsh⟩ : ∃ sh : Nat, (7 : Int) - (t : Int) = (sh : Int) := ⟨7 - t, by omega⟩
     have HSH := hid hsh
     rw [hsh]
     have hs7 : sh ≤ 7 := by omega
     have hsn : sh = 7 - t := by omega
     obtain ⟨x, HX⟩ : ∃ x : Nat, Hid (N8 / 256 ^ (7 - t) % 256 = x) := ⟨_, hid rfl⟩
     have hx : (N8 : Int) / 2 ^ (8 * sh) % 256 = (x : Int) := by rw [hsn, byte_be N8 t hl8, HX.out]
     have hlen : ((l ++ 128 :: List.replicate (zeros n) 0) ++ (be N8 8).take t).length + 1 ≤ 1099511627776 := by
      simp [hn.out, be_length]; omega
     have HB1 := hid (hB.out.alloc hB.out.size (.cells #[.int .u8 (x : Nat)] 5))
     have HO1 := hid (hO.out.alloc (.cells #[.int .u8 (x : Nat)] 5))
     clear hsh hsn
     go_wp2_with (at_builtin; refine wpList_append_bytes rfl (.tmp 26) (.tmp 32) rfl w.heap.size _ _ [x] rfl HO1 (some ⟨wr.heap.size, 0, none⟩) 1 1 rfl (hid rfl) (fun h => by cases h) (hid (one_rd wr x)) hlen HB1.out.size ?_; intro v2 w2 HO2 HB2)
     go_roundw
     case rel =>
      refine ⟨t + 1, by omega, by have := HSH.out; go_num, hid ?_, hid (HB1.out.trans HB2.out)⟩
      rw [be_take N8 t hl8, HX.out, ← List.append_assoc]; exact HO2.out
     case measure => have := HSH.out; simp [intOf]
    ·have hO8 : Hid (OwnB wr w.heap.size _ (padded l)) := hid (by
      have := hO.out
      have e8 : (be N8 8).take 8 = be N8 8 := List.take_of_length_le (by rw [be_length]; omega)
      rw [show t = 8 by omega, e8, H8.out] at this
      unfold padded tail
      rw [hn.out]
      simpa using this)
     have ht8 : (7 : Int) - (t : Int) = -1 := by omega
     rw [ht8]
     go_wp2_with fail
     go_ret
     exact ⟨_, rfl, hO8.out, hB.out⟩
  ·have t1 : (((m1 : Int) % 64) != 56) = true := by
    have : ¬ (n + 1 + j) % 64 = 56 := fun h => he ((zeros_iff n j hj).1 h)
    simp only [bne_iff_ne]; omega
   have HB1 := hid (hB.out.alloc hB.out.size (.cells #[.int .u8 0] 5))
   have HO1 := hid (hO.out.alloc (.cells #[.int .u8 0] 5))
   have hlen : (l ++ 128 :: List.replicate j 0).length + 1 ≤ 1099511627776 := by rw [hm1.out]; omega
   have HMJ := hid hmj
   have hm2 : m1 < n + 1 + zeros n := by omega
   clear hmj
   go_wp2_with (at_builtin; refine wpList_append_bytes rfl (.tmp 15) (.tmp 16) rfl w.heap.size _ _ [0] rfl HO1 (some ⟨wr.heap.size, 0, none⟩) 1 1 rfl (hid rfl) (fun h => by cases h) (hid (one_rd wr 0)) hlen HB1.out.size ?_; intro v2 w2 HO2 HB2)
   have HO3 : Hid (OwnB w2 w.heap.size v2 (l ++ 128 :: List.replicate (j + 1) 0)) := hid (by
    have := HO2.out
    rw [List.append_assoc, List.cons_append, ← List.replicate_succ'] at this
    exact this)
   have hlv : Hid (lenOf v2 = n + 1 + (j + 1)) := hid (by
    obtain ⟨A3, n3, c3, rfl, hn3, _⟩ := HO3.out.slice
    show n3 = _
    rw [← hn3.out]; simp [hn.out]; omega)
   go_roundw
   case rel => exact ⟨j + 1, by omega, HO3, hid (HB1.out.trans HB2.out)⟩
   case measure => show n + 1 + zeros n - lenOf v2 < n + 1 + zeros n - m1; rw [hlv.out]; have := HMJ.out; omega
open SzTree
theorem OwnB.one (w : World) (base x : Nat) (hb : base ≤ w.heap.size) : OwnB (w.alloc (.cells #[.int .u8 (x : Nat)] 5)) base (.slice (some ⟨w.heap.size, 0, none⟩) 1 1) [x] :=
 ⟨rfl, .inr ⟨w.heap.size, 1, #[.int .u8 (x : Nat)], rfl, hb, heap_alloc_new w _, Nat.le_refl _, by unfold maxLen; omega, rfl, rfl⟩⟩
theorem rformed_int (z : Int) (w : World) : Calls Tryz.prog 166 #[.agg #[.int .i64 1, .int .i64 z, .string ⟨#[]⟩, .slice none 0 0]] w fun e w' => e = .returned (.bool true) ∧ Below w.heap.size w w' := by
 go_enter Tryz.func166, Tryz.ntmps166
 go_wp2_with fail
 all_goals
  go_ret
  exact ⟨rfl, (Below.refl _ _).alloc (Nat.le_refl _) _⟩
theorem rdepth_int (z : Int) (w : World) : Calls Tryz.prog 167 #[.agg #[.int .i64 1, .int .i64 z, .string ⟨#[]⟩, .slice none 0 0]] w fun e w' => e = .returned (.int .i64 0) ∧ Below w.heap.size w w' := by
 go_enter Tryz.func167, Tryz.ntmps167
 go_wp2_with fail
 all_goals
  go_ret
  exact ⟨rfl, (Below.refl _ _).alloc (Nat.le_refl _) _⟩
/-- the row of a list of values -/
def vRow (A : Option Addr) (n c : Nat) : Obj := .cells #[.int .i64 3, .int .i64 0, .string ⟨#[]⟩, .slice A n c] 148
theorem vRow_at {w wr : World} {A : Option Addr} {n c : Nat} (h : Below (w.alloc (vRow A n c)).heap.size (w.alloc (vRow A n c)) wr) : wr.cell? ⟨w.heap.size, 0, none⟩ = some (.int .i64 3) ∧ wr.cell? ⟨w.heap.size, 1, none⟩ = some (.int .i64 0) ∧ wr.cell? ⟨w.heap.size, 2, none⟩ = some (.string ⟨#[]⟩) ∧ wr.cell? ⟨w.heap.size, 3, none⟩ = some (.slice A n c) := by
 have h0 := (h.block w.heap.size (by simp)).trans (heap_alloc_new w (.cells #[.int .i64 3, .int .i64 0, .string ⟨#[]⟩, .slice A n c] 148))
 refine ⟨?_, ?_, ?_, ?_⟩ <;> rw [cell_of_row _ _ _ _ _ _ h0] <;> rfl
theorem rformed_list (zs : List Int) (A : Option Addr) (c : Nat) (w : World) (hn : zs.length ≤ 1000) (hV : Hid (VRd w w.heap.size A zs)) :
  Calls Tryz.prog 166 #[.agg #[.int .i64 3, .int .i64 0, .string ⟨#[]⟩, .slice A zs.length c]] w fun e w' => e = .returned (.bool true) ∧ Below w.heap.size w w' := by
 obtain ⟨n, HN⟩ : ∃ n, Hid (zs.length = n) := ⟨_, hid rfl⟩
 rw [HN.out]
 have hn' : n ≤ 1000 := by rw [← HN.out]; exact hn
 clear hn
 have HB0 := hid ((Below.refl _ w).alloc (Nat.le_refl _) (vRow A n c))
 go_enter Tryz.func166, Tryz.ntmps166
 go_wp2_with fail
 go_loopw [3] (fun i wr => ∃ j : Nat, j ≤ n ∧ i = .int .i64 j ∧ Hid (Below (w.alloc (vRow A n c)).heap.size (w.alloc (vRow A n c)) wr)) (fun i _ => n - (intOf i).toNat)
 case atStart => exact ⟨0, by omega, rfl, hid (Below.refl _ _)⟩
 case round =>
  obtain ⟨j, hj, rfl, HB⟩ := hrel
  obtain ⟨k0, k1, k2, k3⟩ := vRow_at HB.out
  by_cases hlt : j < n
  ·obtain ⟨g, rfl, hg, hv⟩ := (hV.out.below HB0.out).below HB.out (by rw [HN.out]; omega)
   have hv2 := hv j (by rw [HN.out]; exact hlt)
   obtain ⟨z, HZ⟩ : ∃ z, Hid (zs[j]'(by rw [HN.out]; exact hlt) = z) := ⟨_, hid rfl⟩
   rw [HZ.out, Nat.zero_add] at hv2
   obtain ⟨q0, q1, q2, q3⟩ := hv2
   clear hv
   have d1 : decide ((j : Int) < (n : Int)) = true := eQ (by omega)
   have d2 : decide (j < n) = true := eQ hlt
   go_wp2_with fail
   refine (rformed_int z _).mono ?_
   rintro e w2 ⟨rfl, hq⟩
   have HB2 := hid (HB.out.trans (hq.mono HB.out.size))
   clear hq q0 q1 q2 q3 k0 k1 k2 k3
   go_wp2_with fail
   go_roundw
   case rel => exact ⟨j + 1, by omega, by go_num, HB2⟩
   case measure => simp [intOf]; omega
  ·have d1 : decide ((j : Int) < (n : Int)) = false := dQ (by omega)
   go_wp2_with fail
   go_ret
   exact ⟨rfl, HB0.out.trans (HB.out.mono HB0.out.size)⟩
theorem rdepth_list (zs : List Int) (A : Option Addr) (c : Nat) (w : World) (hn : zs.length ≤ 1000) (hV : Hid (VRd w w.heap.size A zs)) :
  Calls Tryz.prog 167 #[.agg #[.int .i64 3, .int .i64 0, .string ⟨#[]⟩, .slice A zs.length c]] w fun e w' => e = .returned (.int .i64 1) ∧ Below w.heap.size w w' := by
 obtain ⟨n, HN⟩ : ∃ n, Hid (zs.length = n) := ⟨_, hid rfl⟩
 rw [HN.out]
 have hn' : n ≤ 1000 := by rw [← HN.out]; exact hn
 clear hn
 have HB0 := hid ((Below.refl _ w).alloc (Nat.le_refl _) (vRow A n c))
 go_enter Tryz.func167, Tryz.ntmps167
 go_wp2_with fail
 go_loopw [3, 4] (fun d i wr => ∃ j : Nat, j ≤ n ∧ d = .int .i64 0 ∧ i = .int .i64 j ∧ Hid (Below (w.alloc (vRow A n c)).heap.size (w.alloc (vRow A n c)) wr)) (fun _ i _ => n - (intOf i).toNat)
 case atStart => exact ⟨0, by omega, rfl, rfl, hid (Below.refl _ _)⟩
 case round =>
  obtain ⟨j, hj, rfl, rfl, HB⟩ := hrel
  obtain ⟨k0, k1, k2, k3⟩ := vRow_at HB.out
  by_cases hlt : j < n
  ·obtain ⟨g, rfl, hg, hv⟩ := (hV.out.below HB0.out).below HB.out (by rw [HN.out]; omega)
   have hv2 := hv j (by rw [HN.out]; exact hlt)
   obtain ⟨z, HZ⟩ : ∃ z, Hid (zs[j]'(by rw [HN.out]; exact hlt) = z) := ⟨_, hid rfl⟩
   rw [HZ.out, Nat.zero_add] at hv2
   obtain ⟨q0, q1, q2, q3⟩ := hv2
   clear hv
   have d1 : decide ((j : Int) < (n : Int)) = true := eQ (by omega)
   have d2 : decide (j < n) = true := eQ hlt
   go_wp2_with fail
   refine (rdepth_int z _).mono ?_
   rintro e w2 ⟨rfl, hq⟩
   have HB2 := hid (HB.out.trans (hq.mono HB.out.size))
   clear hq q0 q1 q2 q3 k0 k1 k2 k3
   go_wp2_with fail
   go_roundw
   case rel => exact ⟨j + 1, by omega, rfl, by go_num, HB2⟩
   case measure => simp [intOf]; omega
  ·have d1 : decide ((j : Int) < (n : Int)) = false := dQ (by omega)
   go_wp2_with fail
   go_ret
   exact ⟨rfl, HB0.out.trans (HB.out.mono HB0.out.size)⟩
theorem rvcheck_list (zs : List Int) (A : Option Addr) (c : Nat) (w : World) (hn : zs.length ≤ 1000) (hV : Hid (VRd w w.heap.size A zs)) :
  Calls Tryz.prog 152 #[.agg #[.int .i64 3, .int .i64 0, .string ⟨#[]⟩, .slice A zs.length c]] w fun e w' => e = .returned (.int .i64 0) ∧ Below w.heap.size w w' := by
 have HB0 := hid ((Below.refl _ w).alloc (Nat.le_refl _) (vRow A zs.length c))
 have HV := hid (hV.out.below HB0.out)
 have hrow := (heap_alloc_new w (.cells #[.int .i64 3, .int .i64 0, .string ⟨#[]⟩, .slice A zs.length c] 148))
 have HRW := hid hrow
 clear hrow
 go_enter Tryz.func152, Tryz.ntmps152
 go_wp2_with fail
 refine (rformed_list zs A c _ hn HV).mono ?_
 rintro e w2 ⟨rfl, hq⟩
 have HB2 := hid (HB0.out.trans (hq.mono HB0.out.size))
 have HV2 := hid (HV.out.below hq)
 obtain ⟨k0, k1, k2, k3⟩ := vRow_at hq
 clear hq
 go_wp2_with fail
 refine (rdepth_list zs A c _ hn HV2).mono ?_
 rintro e w3 ⟨rfl, hq⟩
 have HB3 := hid (HB2.out.trans (hq.mono HB2.out.size))
 clear hq k0 k1 k2 k3
 go_wp2_with fail
 go_ret
 exact ⟨rfl, HB3.out⟩
theorem runsigned_any (z : Int) (w : World) (h1 : -9223372036854775808 ≤ z) (h2 : z ≤ 9223372036854775807) :
  Calls Tryz.prog 169 #[.int .i64 z] w fun e w' => e = .returned (.int .u64 (zig z : Nat)) ∧ w = w' := by
 by_cases h : 0 ≤ z
 ·have d1 : decide ((0 : Int) ≤ z) = true := eQ h
  have hz : ((zig z : Nat) : Int) = 2 * z := by unfold zig; rw [if_pos h]; omega
  have e1 : IntKind.u64.wrap z = z := by rw [IntKind.wrap_u64]; omega
  have e2 : IntKind.u64.wrap (2 * z) = 2 * z := by rw [IntKind.wrap_u64]; omega
  go_enter Tryz.func169, Tryz.ntmps169
  go_wp2_with fail
  go_ret
  refine ⟨?_, rfl⟩
  rw [hz]
  first | rfl | (simp only [e1, e2]) | (rw [IntKind.wrap_u64, IntKind.wrap_u64]; congr 2; omega)
 ·have d1 : decide ((0 : Int) ≤ z) = false := dQ h
  have hz : ((zig z : Nat) : Int) = 2 * (-(z + 1)) + 1 := by unfold zig; rw [if_neg h]; omega
  have e1 : IntKind.i64.wrap (z + 1) = z + 1 := IntWalk.i64_in _ (by omega)
  have e2 : IntKind.i64.wrap (-(z + 1)) = -(z + 1) := IntWalk.i64_in _ (by omega)
  have e3 : IntKind.u64.wrap (-(z + 1)) = -(z + 1) := by rw [IntKind.wrap_u64]; omega
  have e4 : IntKind.u64.wrap (2 * (-(z + 1))) = 2 * (-(z + 1)) := by rw [IntKind.wrap_u64]; omega
  have e5 : IntKind.u64.wrap (2 * (-(z + 1)) + 1) = 2 * (-(z + 1)) + 1 := by rw [IntKind.wrap_u64]; omega
  go_enter Tryz.func169, Tryz.ntmps169
  go_wp2_with fail
  go_ret
  exact ⟨rfl, rfl⟩
theorem rnumeral_fuel : ∀ (f u : Nat) (w : World), Hid (u < 128 ^ (f + 1)) → u < 18446744073709551616 → f ≤ 10 →
  Calls Tryz.prog 168 #[.int .u64 (u : Nat)] w fun e w' => ∃ v', e = .returned v' ∧ OwnB w' w.heap.size v' (numB f u) ∧ Below w.heap.size w w' := by
 intro f
 induction f with
 | zero =>
  intro u w hu hu64 _
  have hlt : u < 128 := by have := hu.out; simpa using this
  have HE : Hid (numB 0 u = [u]) := hid (by unfold numB; rw [Nat.mod_eq_of_lt hlt])
  have d1 : decide ((u : Int) < 128) = true := eQ (by omega)
  have hx : (u : Int) % 256 = (u : Int) := by omega
  rw [HE.out]
  go_enter Tryz.func168, Tryz.ntmps168
  go_wp2_with fail
  go_ret
  exact ⟨_, rfl, OwnB.one _ _ u (Nat.le_refl _), (Below.refl _ _).alloc (Nat.le_refl _) _⟩
 | succ f ih =>
  intro u w hu hu64 hf
  by_cases hlt : u < 128
  ·have HE : Hid (numB (f + 1) u = [u]) := hid (by unfold numB; rw [if_pos hlt])
   have d1 : decide ((u : Int) < 128) = true := eQ (by omega)
   have hx : (u : Int) % 256 = (u : Int) := by omega
   rw [HE.out]
   go_enter Tryz.func168, Tryz.ntmps168
   go_wp2_with fail
   go_ret
   exact ⟨_, rfl, OwnB.one _ _ u (Nat.le_refl _), (Below.refl _ _).alloc (Nat.le_refl _) _⟩
  ·obtain ⟨x, HX⟩ : ∃ x : Nat, Hid (u % 128 + 128 = x) := ⟨_, hid rfl⟩
   obtain ⟨y, HY⟩ : ∃ y : Nat, Hid (u / 128 = y) := ⟨_, hid rfl⟩
   have HE : Hid (numB (f + 1) u = [x] ++ numB f y) := hid (by rw [numB, if_neg hlt, HX.out, HY.out]; rfl)
   have d1 : decide ((u : Int) < 128) = false := dQ (by omega)
   have hm : (u : Int) % 128 + 128 = (x : Int) := by rw [← HX.out]; omega
   have hw : IntKind.u64.wrap ((u : Int) % 128 + 128) = (x : Int) := by rw [hm, IntKind.wrap_u64]; rw [← HX.out]; omega
   have hx : (x : Int) % 256 = (x : Int) := by rw [← HX.out]; omega
   have hy : (u : Int) / 128 = (y : Int) := by rw [← HY.out]; omega
   have HL : Hid ((numB f y).length ≤ 11) := hid (by have := numB_length f y; omega)
   have HUY : Hid (y < 128 ^ (f + 1)) := hid (by rw [← HY.out]; have := hu.out; rw [Nat.pow_succ] at this; exact Nat.div_lt_of_lt_mul (by rw [Nat.mul_comm]; exact this))
   have hy64 : y < 18446744073709551616 := by rw [← HY.out]; omega
   clear hu hu64 hlt
   rw [HE.out]
   have HO1 := hid (OwnB.one w w.heap.size x (Nat.le_refl _))
   have HB1 := hid ((Below.refl _ w).alloc (Nat.le_refl _) (.cells #[.int .u8 (x : Nat)] 5))
   go_enter Tryz.func168, Tryz.ntmps168
   go_wp2_with fail
   generalize w.alloc (.cells #[.int .u8 (x : Nat)] 5) = W1 at *
   refine (ih y _ HUY hy64 (by omega)).mono ?_
   rintro e w2 ⟨v2, rfl, ho2, hb2⟩
   obtain ⟨A2, n2, cc2, rfl, hn2, hc2, hA2, HR2⟩ := ho2.slice
   have HO2 := hid (HO1.out.below hb2)
   have HB2 := hid (HB1.out.trans (hb2.mono HB1.out.size))
   have HLL : Hid (([x] : List Nat).length + n2 ≤ 1099511627776) := hid (by rw [← hn2.out]; have := HL.out; simp; omega)
   have HSZ := hid HB2.out.size
   clear ho2 hb2
   go_wp2_with (at_builtin; refine wpList_append_bytes rfl (.tmp 12) (.tmp 15) rfl w.heap.size _ [x] (numB f y) rfl HO2 A2 n2 cc2 rfl hn2 hA2.out HR2 HLL.out HSZ.out ?_; intro v3 w3 HO3 HB3)
   go_ret
   exact ⟨_, rfl, HO3.out, HB2.out.trans HB3.out⟩
theorem rnumeral_any (u : Nat) (w : World) (hu : u < 18446744073709551616) :
  Calls Tryz.prog 168 #[.int .u64 (u : Nat)] w fun e w' => ∃ v', e = .returned v' ∧ OwnB w' w.heap.size v' (num u) ∧ Below w.heap.size w w' :=
 rnumeral_fuel 10 u w (hid (Nat.lt_of_lt_of_le hu (by decide))) hu (Nat.le_refl _)
theorem rencode_int (z : Int) (w : World) (h1 : -9223372036854775808 ≤ z) (h2 : z ≤ 9223372036854775807) :
  Calls Tryz.prog 153 #[.agg #[.int .i64 1, .int .i64 z, .string ⟨#[]⟩, .slice none 0 0]] w fun e w' => ∃ v', e = .returned v' ∧ OwnB w' w.heap.size v' (1 :: num (zig z)) ∧ Below w.heap.size w w' := by
 obtain ⟨u, HU⟩ : ∃ u, Hid (zig z = u) := ⟨_, hid rfl⟩
 have hu : u < 18446744073709551616 := by rw [← HU.out]; exact zig_lt h1 h2
 have HL : Hid ((num u).length ≤ 11) := hid (numB_length 10 u)
 have HB0 := hid ((Below.refl _ w).alloc (Nat.le_refl _) (.cells #[.int .i64 1, .int .i64 z, .string ⟨#[]⟩, .slice none 0 0] 148))
 have HB1 := hid (HB0.out.alloc HB0.out.size (.cells #[.int .u8 1] 5))
 have HO1 : Hid (OwnB ((w.alloc (.cells #[.int .i64 1, .int .i64 z, .string ⟨#[]⟩, .slice none 0 0] 148)).alloc (.cells #[.int .u8 1] 5)) w.heap.size (.slice (some ⟨w.heap.size + 1, 0, none⟩) 1 1) [1]) := hid (by have := OwnB.one (w.alloc (.cells #[.int .i64 1, .int .i64 z, .string ⟨#[]⟩, .slice none 0 0] 148)) w.heap.size 1 HB0.out.size; rw [World.size_alloc] at this; exact this)
 rw [HU.out]
 go_enter Tryz.func153, Tryz.ntmps153
 go_wp2_with fail
 refine (runsigned_any z _ h1 h2).mono ?_
 rintro e w2 ⟨rfl, rfl⟩
 rw [HU.out]
 go_wp2_with fail
 refine (rnumeral_any u _ hu).mono ?_
 rintro e w2 ⟨v2, rfl, ho2, hb2⟩
 obtain ⟨A2, n2, cc2, rfl, hn2, hc2, hA2, HR2⟩ := ho2.slice
 have HO2 := hid (HO1.out.below hb2)
 have HB2 := hid (HB1.out.trans (hb2.mono HB1.out.size))
 have HLL : Hid (([1] : List Nat).length + n2 ≤ 1099511627776) := hid (by rw [← hn2.out]; have := HL.out; simp; omega)
 have HSZ := hid HB2.out.size
 clear ho2 hb2
 go_wp2_with (at_builtin; refine wpList_append_bytes rfl (.tmp 9) (.tmp 13) rfl w.heap.size _ [1] (num u) rfl HO2 A2 n2 cc2 rfl hn2 hA2.out HR2 HLL.out HSZ.out ?_; intro v3 w3 HO3 HB3)
 go_ret
 exact ⟨_, rfl, HO3.out, HB2.out.trans HB3.out⟩
theorem rencode_list (zs : List Int) (A : Option Addr) (c : Nat) (w : World) (hz : Hid (∀ z ∈ zs, -9223372036854775808 ≤ z ∧ z ≤ 9223372036854775807)) (hn : zs.length ≤ 1000) (hV : Hid (VRd w w.heap.size A zs)) :
  Calls Tryz.prog 153 #[.agg #[.int .i64 3, .int .i64 0, .string ⟨#[]⟩, .slice A zs.length c]] w fun e w' => ∃ v', e = .returned v' ∧ OwnB w' w.heap.size v' (encI zs) ∧ Below w.heap.size w w' := by
 obtain ⟨n, HN⟩ : ∃ n, Hid (zs.length = n) := ⟨_, hid rfl⟩
 rw [HN.out]
 have hn' : n ≤ 1000 := by rw [← HN.out]; exact hn
 have hnu : n < 18446744073709551616 := by omega
 clear hn
 have HB0 := hid ((Below.refl _ w).alloc (Nat.le_refl _) (vRow A n c))
 have HB1 := hid (HB0.out.alloc HB0.out.size (.cells #[.int .u8 3] 5))
 have HK1 := hid ((Below.refl _ (w.alloc (vRow A n c))).alloc (Nat.le_refl _) (.cells #[.int .u8 3] 5))
 have HO1 : Hid (OwnB ((w.alloc (vRow A n c)).alloc (.cells #[.int .u8 3] 5)) (w.heap.size + 1) (.slice (some ⟨w.heap.size + 1, 0, none⟩) 1 1) [3]) := hid (by have := OwnB.one (w.alloc (vRow A n c)) (w.heap.size + 1) 3 (by simp); rw [World.size_alloc] at this; exact this)
 have HL : Hid ((num n).length ≤ 11) := hid (numB_length 10 n)
 have HWN : IntKind.u64.wrap ((n : Nat) : Int) = (n : Int) := by rw [IntKind.wrap_u64]; omega
 have HEC : Hid (encI zs = [3] ++ num n ++ zs.flatMap fun z => 1 :: num (zig z)) := hid (by unfold encI; rw [HN.out]; simp)
 go_enter Tryz.func153, Tryz.ntmps153
 go_wp2_with fail
 refine (rnumeral_any n _ hnu).mono ?_
 rintro e w2 ⟨v2, rfl, ho2, hb2⟩
 obtain ⟨A2, n2, cc2, rfl, hn2, hc2, hA2, HR2⟩ := ho2.slice
 have HO2 := hid (HO1.out.below hb2)
 have HK2 := hid (HK1.out.trans (hb2.mono HK1.out.size))
 have HLL : Hid (([3] : List Nat).length + n2 ≤ 1099511627776) := hid (by rw [← hn2.out]; have := HL.out; simp; omega)
 have HSZ : Hid (w.heap.size + 1 ≤ w2.heap.size) := hid (by have := HK2.out.size; simpa using this)
 clear ho2 hb2
 go_wp2_with (at_builtin; refine wpList_append_bytes rfl (.tmp 27) (.tmp 32) rfl (w.heap.size + 1) _ [3] (num n) rfl HO2 A2 n2 cc2 rfl hn2 hA2.out HR2 HLL.out HSZ.out ?_; intro v3 w3 HO3 HB3)
 have HK3 := hid (HK2.out.trans (HB3.out.mono (by simp)))
 go_loopw [3, 4] (fun o i wr => ∃ j : Nat, j ≤ n ∧ i = .int .i64 j ∧ Hid (OwnB wr (w.heap.size + 1) o ([3] ++ num n ++ (zs.take j).flatMap fun z => 1 :: num (zig z))) ∧ Hid (Below (w.alloc (vRow A n c)).heap.size (w.alloc (vRow A n c)) wr)) (fun _ i _ => n - (intOf i).toNat)
 case atStart => exact ⟨0, by omega, rfl, hid (by simpa using HO3.out), HK3⟩
 case round =>
  clear HO3 HB3 HO2 HK3 HK2 HLL HSZ HK1 HB1 HO1 HR2 hn2 hA2
  obtain ⟨j, hj, rfl, HO, HB⟩ := hrel
  obtain ⟨k0, k1, k2, k3⟩ := vRow_at HB.out
  have HBS : Hid (w.heap.size + 1 ≤ wr.heap.size) := hid (by have := HB.out.size; simpa using this)
  by_cases hlt : j < n
  ·obtain ⟨g, rfl, hg, hv⟩ := (hV.out.below HB0.out).below HB.out (by rw [HN.out]; omega)
   have hv2 := hv j (by rw [HN.out]; exact hlt)
   obtain ⟨z, HZ⟩ : ∃ z, Hid (zs[j]'(by rw [HN.out]; exact hlt) = z) := ⟨_, hid rfl⟩
   have HZB := hid (hz.out z (by rw [← HZ.out]; exact List.getElem_mem _))
   have HTK : Hid (zs.take (j + 1) = zs.take j ++ [z]) := hid (by rw [List.take_succ_eq_append_getElem (by rw [HN.out]; exact hlt), HZ.out])
   rw [HZ.out, Nat.zero_add] at hv2
   obtain ⟨q0, q1, q2, q3⟩ := hv2
   clear hv
   have d1 : decide ((j : Int) < (n : Int)) = true := eQ (by omega)
   have d2 : decide (j < n) = true := eQ hlt
   go_wp2_with fail
   refine (rencode_int z _ HZB.out.1 HZB.out.2).mono ?_
   rintro e w4 ⟨v4, rfl, ho4, hb4⟩
   obtain ⟨A4, n4, cc4, rfl, hn4, hc4, hA4, HR4⟩ := ho4.slice
   have HO4 := hid (HO.out.below hb4)
   have HB4 := hid (HB.out.trans (hb4.mono HB.out.size))
   have HLL : Hid (([3] ++ num n ++ (zs.take j).flatMap fun z => 1 :: num (zig z)).length + n4 ≤ 1099511627776) := hid (by
    have e1 := flat_length (zs.take j)
    have e2 := numB_length 10 n
    have e3 := numB_length 10 (zig z)
    rw [List.length_take, HN.out] at e1
    rw [← hn4.out]
    simp only [List.length_append, List.length_cons, List.length_nil, num] at *
    omega)
   have HSZ := hid (Nat.le_trans HBS.out hb4.size)
   clear ho4 hb4 q0 q1 q2 q3 k0 k1 k2 k3
   go_wp2_with (at_builtin; refine wpList_append_bytes rfl (.tmp 41) (.tmp 47) rfl (w.heap.size + 1) _ _ (1 :: num (zig z)) rfl HO4 A4 n4 cc4 rfl hn4 hA4.out HR4 HLL.out HSZ.out ?_; intro v5 w5 HO5 HB5)
   have HB6 := hid (HB4.out.trans (HB5.out.mono (by simp)))
   go_roundw
   case rel => exact ⟨j + 1, by omega, by go_num, hid (by rw [HTK.out, List.flatMap_append, ← List.append_assoc]; simpa using HO5.out), HB6⟩
   case measure => simp [intOf]; omega
  ·have d1 : decide ((j : Int) < (n : Int)) = false := dQ (by omega)
   have HT : Hid (zs.take j = zs) := hid (List.take_of_length_le (by rw [HN.out]; omega))
   rw [HT.out] at HO
   go_wp2_with fail
   go_ret
   exact ⟨_, rfl, by rw [HEC.out]; have := HO.out; exact ⟨this.1, this.2.imp id (fun ⟨g, cap, cur, e, hb, r⟩ => ⟨g, cap, cur, e, by omega, r⟩)⟩, HB0.out.trans (HB.out.mono HB0.out.size)⟩
theorem rEncode_list (zs : List Int) (A : Option Addr) (c : Nat) (w : World) (hz : Hid (∀ z ∈ zs, -9223372036854775808 ≤ z ∧ z ≤ 9223372036854775807)) (hn : zs.length ≤ 1000) (hV : Hid (VRd w w.heap.size A zs)) :
  Calls Tryz.prog 136 #[.agg #[.int .i64 3, .int .i64 0, .string ⟨#[]⟩, .slice A zs.length c]] w fun e w' => ∃ v', e = .returned (.tuple #[v', .int .i64 0]) ∧ OwnB w' w.heap.size v' (encI zs) ∧ Below w.heap.size w w' := by
 have HB0 := hid ((Below.refl _ w).alloc (Nat.le_refl _) (vRow A zs.length c))
 have HV := hid (hV.out.below HB0.out)
 have HRW := hid (vRow_at (w := w) (A := A) (n := zs.length) (c := c) (Below.refl _ _))
 have HROW := hid (heap_alloc_new w (.cells #[.int .i64 3, .int .i64 0, .string ⟨#[]⟩, .slice A zs.length c] 148))
 go_enter Tryz.func136, Tryz.ntmps136
 go_wp2_with fail
 refine (rvcheck_list zs A c _ hn HV).mono ?_
 rintro e w2 ⟨rfl, hq⟩
 have HB2 := hid (HB0.out.trans (hq.mono HB0.out.size))
 have HV2 := hid (HV.out.below hq)
 obtain ⟨k0, k1, k2, k3⟩ := vRow_at hq
 clear hq
 go_wp2_with fail
 refine (rencode_list zs A c _ hz hn HV2).mono ?_
 rintro e w3 ⟨v3, rfl, ho, hq⟩
 have HO := hid ho
 have HB3 := hid (HB2.out.trans (hq.mono HB2.out.size))
 have HBS := hid HB2.out.size
 clear ho hq k0 k1 k2 k3
 go_wp2_with fail
 go_ret2
 exact ⟨_, rfl, ⟨HO.out.1, HO.out.2.imp id (fun ⟨g, cap, cur, e, hb, r⟩ => ⟨g, cap, cur, e, Nat.le_trans HBS.out hb, r⟩)⟩, HB3.out⟩
end Go.Proofs.YtmfmgeapecapiaaGreatDoor
