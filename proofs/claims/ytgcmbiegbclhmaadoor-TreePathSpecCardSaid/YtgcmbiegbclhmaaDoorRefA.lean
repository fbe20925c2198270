/- A region that draws its order: its head is quiet in a class of worlds, its tail comes in one forced order. The library has the two halves apart (a still head with a tail; a quiet region without one); here both in one. The reference of layer 2: ror, word, numbers: each returns what its plain function says. The reference of layer 2: block: the state after a block. The reference of layer 2: padded: the bytes with their end. The reference of layer 2: Sum and Tagged are the same plain functions. The reference of layer 2: Tagged. -/
import Derived.StillTail
import Derived.Deep.Quiet
import Derived.Deep.QuietTactic
import Derived.BigQuiet
import Derived.StillTailTactics
import Derived.Test.YtgcmbiegbclhmaaDoorTagged
namespace Go.Proofs.YtgcmbiegbclhmaaDoor
section
variable {P : Program} {ops : Array Oper} {md : Region.Mode} {C : World → Prop}
def anyHead (P : Program) (md : Region.Mode) (ops : Array Oper) (C : World → Prop) (n : Nat) (L : Array Bool → Act → Prop) : Nat → Array Bool → Act → Prop
  | 0, listed, a => L listed a
  | f + 1, listed, a => Region.ready md ops listed ≠ [] ∧ ∀ i ∈ Region.ready md ops listed, i < n ∧ qOp P ops C i (anyHead P md ops C n L f (listed.setIfInBounds i true)) a
theorem any_of_head {n g : Nat} {L : Array Bool → Act → Prop} {Q' : Exit → Act → World → Prop} (hL : ∀ listed a w, C w → L listed a → wpAny P md ops Q' g listed a w) :
    ∀ (f : Nat) (listed : Array Bool) (a : Act) (w : World), C w → anyHead P md ops C n L f listed a → wpAny P md ops Q' (f + g) listed a w
  | 0, listed, a, w, hw, h => by rw [Nat.zero_add]; exact hL _ _ _ hw h
  | f + 1, listed, a, w, hw, h => by
    rw [show f + 1 + g = (f + g) + 1 by omega]
    exact ⟨fun h0 => absurd h0 h.1, fun i hi => wpOp_of_qOp hw (fun a' w' hw' h' => any_of_head hL f _ a' w' hw' h') (h.2 i hi).2⟩
theorem head_first {n i : Nat} {oi : Oper} {v : Value} {L : Array Bool → Act → Prop} (hi : ops[i]? = some oi) (hsel : ∀ (j : Nat) (o : Oper) cs b, ops[j]? = some o → o.op ≠ .select cs b)
    (hs : Region.sinkB md ops n = true) (hc : Region.chainB md ops n = true) (hn : n < ops.size) (hin : i < n) (hdone : ∀ listed a, L listed a → ∀ j ∈ Region.ready md ops listed, n ≤ j) :
    ∀ (f : Nat) (listed : Array Bool) (a : Act), HeadInv md ops n listed →
      (∀ j oj, ops[j]? = some oj → j ≠ i → listed.getD j true = false → (∀ e ∈ oj.after, Region.binds md e = true → e.on ≠ i) → oi.apart ops oj = true) →
      i ∈ Region.ready md ops listed → YieldsIn P ops C oi v a → anyHead P md ops C n L f (listed.setIfInBounds i true) (a.put oi.dst v) → anyHead P md ops C n L (f + 1) listed a := by
  intro f
  induction f with
  | zero =>
    intro listed a inv _ hr hy H
    have hun := (mem_ready.1 hr).1
    refine ⟨fun h => (by rw [h] at hr; cases hr), fun j hj => ?_⟩
    have hjn : j < n := by
      rcases Nat.lt_or_ge j n with h | h
      · exact h
      · exact absurd hj (tail_waits hs hc hn inv _ i rfl hin hun j h)
    refine ⟨hjn, ?_⟩
    by_cases hji : j = i
    · subst hji; exact hy.qOp hi H
    · have := hdone _ _ H j (ready_mono hj hji)
      omega
  | succ f ih =>
    intro listed a inv hfree hr hy H
    have hun := (mem_ready.1 hr).1
    refine ⟨fun h => (by rw [h] at hr; cases hr), fun j hj => ?_⟩
    have hjn : j < n := by
      rcases Nat.lt_or_ge j n with h | h
      · exact h
      · exact absurd hj (tail_waits hs hc hn inv _ i rfl hin hun j h)
    refine ⟨hjn, ?_⟩
    by_cases hji : j = i
    · subst hji; exact hy.qOp hi H
    · have h1 := (H.2 j (ready_mono hj hji)).2
      obtain ⟨hjun, oj, hoj, hall⟩ := mem_ready.1 hj
      have hnot : ∀ e ∈ oj.after, Region.binds md e = true → e.on ≠ i := fun e he hb heq => by
        have h1 := hall e he hb
        rw [heq, getD_both hun] at h1
        cases h1
      have h2 := qOp_put hoj (hfree j oj hoj hji hjun hnot) (fun cs b => hsel i oi cs b hi) (fun cs b => hsel j oj cs b hoj) hy h1
      have hfree' : ∀ k ok, ops[k]? = some ok → k ≠ i → (listed.setIfInBounds j true).getD k true = false →
          (∀ e ∈ ok.after, Region.binds md e = true → e.on ≠ i) → oi.apart ops ok = true := fun k ok hk hki hun hno => by
        refine hfree k ok hk hki ?_ hno
        by_cases hjk : j = k
        · subst hjk; exact hjun
        · rw [getD_set_ne true hjk] at hun; exact hun
      refine qOp_mono (fun a' h3 => ih (listed.setIfInBounds j true) a' (inv.set hj hjn) hfree' (ready_mono hr (Ne.symm hji)) h3.1 ?_) h2
      rw [Array.setIfInBounds_comm _ _ hji]
      exact h3.2
theorem head_lex {n g : Nat} {Lq : Act → Prop} (hsel : Region.noSelect ops = true) (hs : Region.sinkB md ops n = true) (hc : Region.chainB md ops n = true) (hn : n < ops.size) :
    ∀ (l : List Oper) (k : Nat) (listed : Array Bool) (a : Act), (∀ j, j < l.length → l[j]? = ops[k + j]?) → k + l.length = n → HeadInv md ops n listed →
    Region.lexHead md ops g l.length k listed = true → wpQuiet P ops C Lq l a → anyHead P md ops C n (fun listed' a' => Region.seqB md ops g n listed' = true ∧ Lq a') l.length listed a
  | [], k, listed, a, _, hk, _, hB, h => by
    have : k = n := by simpa using hk
    subst this
    exact ⟨by simpa [Region.lexHead] using hB, h⟩
  | o :: l, k, listed, a, hl, hk, inv, hB, h => by
    have h0 : ops[k]? = some o := by simpa using (hl 0 (by simp)).symm
    simp only [List.length_cons, Region.lexHead, Bool.and_eq_true] at hB
    obtain ⟨⟨hr, hf⟩, hB'⟩ := hB
    have hkn : k < n := by simp only [List.length_cons] at hk; omega
    have hr' : k ∈ Region.ready md ops listed := by simpa using hr
    have hst : qOp P ops C k (wpQuiet P ops C Lq l) a := by unfold qOp; simp only [h0]; exact h
    obtain ⟨v, hy, hK⟩ := yieldsIn_of_qOp h0 hst
    exact head_first h0 (Region.noSelect_spec hsel) hs hc hn hkn (fun listed' a' hL => seqB_ready hL.1) l.length listed a inv (Region.free_spec h0 hf) hr' hy
      (head_lex hsel hs hc hn l (k + 1) _ _ (fun j hj => by have := hl (j + 1) (by simp; omega); simpa [Nat.add_assoc, Nat.add_comm 1 j] using this) (by simp only [List.length_cons] at hk; omega) (inv.set hr' hkn) hB' hK)
/-- the head is quiet in the class, the tail follows in every world of it -/
theorem region_quiet_tail {id : Nat} {Q : Exit → Act → World → Prop} {a : Act} {w : World} {l : List Oper} (n : Nat) (C : World → Prop) (hm : P.follows .mixedOrders = true) (hB : Region.lexTailB .any l.toArray n = true) (hC : C w.drew)
    (h : wpQuiet P l.toArray C (fun a' => ∀ w', C w' → wpList P l.toArray Q (l.drop n) a' w') (l.take n) a) : (Code.region id l.toArray true).wp P Q a w := by
  simp only [Region.lexTailB, Bool.and_eq_true, decide_eq_true_eq] at hB
  obtain ⟨⟨⟨⟨hsel, hn⟩, hs⟩, hc⟩, hlex⟩ := hB
  have hn' : n < l.length := by simpa using hn
  have htl : (l.take n).length = n := by simp; omega
  have hdl : (l.drop n).length = l.toArray.size - n := by simp
  have inv0 : HeadInv .any l.toArray n (Array.replicate l.toArray.size false) :=
    ⟨by simp, fun j oj _ hl => (by rw [getD_replicate_false] at hl; cases hl), fun t _ ht => getD_in (by simpa using ht) (getD_replicate_false _ _)⟩
  have H := head_lex (md := .any) (g := l.toArray.size - n) hsel hs hc hn (l.take n) 0 _ a (fun j hj => by
    have hj' : j < n := by rw [htl] at hj; exact hj
    simp [hj']) (by simpa using htl) inv0 (by rw [htl]; exact hlex) h
  refine wp_region_any hm ?_
  have := any_of_head (Q' := Q) (g := l.toArray.size - n) (fun listed a' w' hw' hL => by
    have := wpAny_of_seq (md := .any) (Q' := Q) (l.drop n) n listed a' w' (fun j => by simp [List.getElem?_drop]) (by rw [hdl]; exact hL.1) (hL.2 w' hw')
    rwa [hdl] at this) _ _ _ _ hC H
  rw [htl, show n + (l.toArray.size - n) = l.toArray.size by omega] at this
  exact this
end
end Go.Proofs.YtgcmbiegbclhmaaDoor
namespace Go.Proofs.YtgcmbiegbclhmaaDoor
open Go.RowKit SzSha
set_option linter.unusedVariables false
set_option maxRecDepth 100000
theorem rror_bits (x n : Nat) (hx : x < 4294967296) (h1 : 1 ≤ n) (h2 : n ≤ 31) : bits .or .u32 ((x : Int) / 2 ^ n) (IntKind.u32.wrap ((x : Int) * 2 ^ (32 - n))) = (ror x n : Nat) := by
  have e1 : IntKind.u32.wrap ((x : Int) * 2 ^ (32 - n)) = ((x * 2 ^ (32 - n) % 4294967296 : Nat) : Int) := by rw [IntKind.wrap_u32']; rfl
  have e2 : ((x : Int) / 2 ^ n) = ((x / 2 ^ n : Nat) : Int) := rfl
  rw [e1, e2, u32_or_nat _ _ (div_lt _ hx) (Nat.mod_lt _ (by decide))]; rfl
set_option maxHeartbeats 400000 in
theorem rror_any (x n : Nat) (w : World) (hx : x < 4294967296) (h1 : 1 ≤ n) (h2 : n ≤ 31) :
    Calls Tryd.prog 77 #[.int .u32 x, .int .i64 n] w fun e w' => e = .returned (.int .u32 (ror x n : Nat)) ∧ w.drew = w' := by
  obtain ⟨m, hm⟩ : ∃ m, n + m = 32 := ⟨32 - n, by omega⟩
  have hm1 : m ≤ 31 := by omega
  have e32 : IntKind.i64.wrap (32 - (n : Int)) = (m : Int) := by rw [IntWalk.i64_in _ (by omega)]; omega
  have R := Lib.hid (rror_bits x n hx h1 h2)
  have HM := Lib.hid hm
  clear hm
  go_enter Tryd.func77, Tryd.ntmps77
  go_wp2_with fail
  refine wp_region_still_lit (by kernel_rfl) (by kernel_rfl) ?_
  repeat still_step
  refine wpStill_nil ?_
  change Exit.then _ _ _ _ w.drew
  go_wp2_with fail
  go_ret
  refine ⟨?_, rfl⟩
  rw [← R.out, show 32 - n = m by have := HM.out; omega]; rfl
theorem or_low (a b k : Nat) (hb : b < 2 ^ k) : a * 2 ^ k ||| b = a * 2 ^ k + b := by
  rw [Nat.mul_comm, ← Nat.two_pow_add_eq_or_of_lt hb]
theorem rword_bits (a b c d : Nat) (ha : a < 256) (hb : b < 256) (hc : c < 256) (hd : d < 256) :
    bits .or .u32 (bits .or .u32 (bits .or .u32 (IntKind.u32.wrap ((a : Int) * 16777216)) (IntKind.u32.wrap ((b : Int) * 65536))) (IntKind.u32.wrap ((c : Int) * 256))) (d : Int) = ((((a * 256 + b) * 256 + c) * 256 + d : Nat) : Int) := by
  have e1 : IntKind.u32.wrap ((a : Int) * 16777216) = ((a * 16777216 : Nat) : Int) := by rw [IntKind.wrap_u32']; omega
  have e2 : IntKind.u32.wrap ((b : Int) * 65536) = ((b * 65536 : Nat) : Int) := by rw [IntKind.wrap_u32']; omega
  have e3 : IntKind.u32.wrap ((c : Int) * 256) = ((c * 256 : Nat) : Int) := by rw [IntKind.wrap_u32']; omega
  rw [e1, e2, e3, u32_or_nat _ _ (by omega) (by omega)]
  have o1 : a * 16777216 ||| b * 65536 = a * 16777216 + b * 65536 := or_low a (b * 65536) 24 (by omega)
  rw [o1, u32_or_nat _ _ (by omega) (by omega)]
  have o2 : (a * 16777216 + b * 65536) ||| c * 256 = a * 16777216 + b * 65536 + c * 256 := by
    have := or_low (a * 256 + b) (c * 256) 16 (by omega)
    rw [show (a * 256 + b) * 2 ^ 16 = a * 16777216 + b * 65536 by omega] at this
    exact this
  rw [o2, u32_or_nat _ _ (by omega) (by omega)]
  have o3 : (a * 16777216 + b * 65536 + c * 256) ||| d = a * 16777216 + b * 65536 + c * 256 + d := by
    have := or_low ((a * 256 + b) * 256 + c) d 8 (by omega)
    rw [show ((a * 256 + b) * 256 + c) * 2 ^ 8 = a * 16777216 + b * 65536 + c * 256 by omega] at this
    exact this
  rw [o3]
  exact congrArg Nat.cast (show a * 16777216 + b * 65536 + c * 256 + d = ((a * 256 + b) * 256 + c) * 256 + d by omega)
set_option maxHeartbeats 400000 in
theorem rword_any (g off c : Nat) (x0 x1 x2 x3 : Nat) (w : World) (h0 : x0 < 256) (h1 : x1 < 256) (h2 : x2 < 256) (h3 : x3 < 256)
    (c0 : w.cell? ⟨g, off, none⟩ = some (.int .u8 x0)) (c1 : w.cell? ⟨g, off + 1, none⟩ = some (.int .u8 x1)) (c2 : w.cell? ⟨g, off + 2, none⟩ = some (.int .u8 x2)) (c3 : w.cell? ⟨g, off + 3, none⟩ = some (.int .u8 x3)) :
    Calls Tryd.prog 76 #[.slice (some ⟨g, off, none⟩) 4 c] w fun e w' => e = .returned (.int .u32 (((x0 * 256 + x1) * 256 + x2) * 256 + x3 : Nat)) ∧ w.drew = w' := by
  have R := Lib.hid (rword_bits x0 x1 x2 x3 h0 h1 h2 h3)
  have u0 : IntKind.u32.wrap (x0 : Int) = x0 := by rw [IntKind.wrap_u32']; omega
  have u1 : IntKind.u32.wrap (x1 : Int) = x1 := by rw [IntKind.wrap_u32']; omega
  have u2 : IntKind.u32.wrap (x2 : Int) = x2 := by rw [IntKind.wrap_u32']; omega
  have u3 : IntKind.u32.wrap (x3 : Int) = x3 := by rw [IntKind.wrap_u32']; omega
  go_enter Tryd.func76, Tryd.ntmps76
  go_wp2_with fail
  refine wp_region_still_lit (by kernel_rfl) (by kernel_rfl) ?_
  change wpStill _ _ w.drew (fun a' => Exit.then _ _ _ a' w.drew) _ _
  have c0' : w.drew.cell? ⟨g, off, none⟩ = some (.int .u8 x0) := c0
  have c1' : w.drew.cell? ⟨g, off + 1, none⟩ = some (.int .u8 x1) := c1
  have c2' : w.drew.cell? ⟨g, off + 2, none⟩ = some (.int .u8 x2) := c2
  have c3' : w.drew.cell? ⟨g, off + 3, none⟩ = some (.int .u8 x3) := c3
  generalize hw : w.drew = w1 at *
  have HW := Lib.hid hw
  clear hw c0 c1 c2 c3
  repeat still_step
  refine wpStill_nil ?_
  go_wp2_with fail
  go_ret
  refine ⟨?_, HW.out⟩
  rw [← R.out]; rfl
/-- the table K as a value -/
def ksV : Array Value := (ks.map fun x => Value.int .u32 (x : Nat)).toArray
set_option maxRecDepth 100000 in
set_option maxHeartbeats 1000000 in
theorem numbers_any (w : World) : Calls Tryd.prog 78 #[] w fun e w' => e = .returned (.agg ksV) ∧ Below w.heap.size w w' := by
  go_enter Tryd.func78, Tryd.ntmps78
  go_wp2_with (refine wpList_store_row rfl 108 (.tmp 0) (.tmp 1) rfl w.heap.size ksV rfl rfl 108 _ (heap_alloc_new w _) (by kernel_rfl) rfl (by decide +kernel) ?_)
  refine bodyPost_ret (results_cell_row rfl _ _ w.heap.size 108 ksV (0, 0) _ rfl (laid_row w _ ksV 108).2.2 Tryd.underlying108 rfl (by kernel_rfl)) rfl ?_
  exact ⟨rfl, (laid_row w _ ksV 108).1⟩
end Go.Proofs.YtgcmbiegbclhmaaDoor
namespace Go.Proofs.YtgcmbiegbclhmaaDoor
open Go.RowKit SzSha
set_option linter.unusedVariables false
set_option maxRecDepth 100000
theorem rror_7 (x : Nat) (w : World) (hx : x < 4294967296) : Calls Tryd.prog 77 #[.int .u32 x, .int .i64 7] w fun e w' => e = .returned (.int .u32 (ror x 7 : Nat)) ∧ ∃ m, w' = w.drewN m :=
  (rror_any x 7 w hx (by omega) (by omega)).mono fun _ _ h => ⟨h.1, 1, h.2.symm⟩
theorem rror_18 (x : Nat) (w : World) (hx : x < 4294967296) : Calls Tryd.prog 77 #[.int .u32 x, .int .i64 18] w fun e w' => e = .returned (.int .u32 (ror x 18 : Nat)) ∧ ∃ m, w' = w.drewN m :=
  (rror_any x 18 w hx (by omega) (by omega)).mono fun _ _ h => ⟨h.1, 1, h.2.symm⟩
theorem rror_17 (x : Nat) (w : World) (hx : x < 4294967296) : Calls Tryd.prog 77 #[.int .u32 x, .int .i64 17] w fun e w' => e = .returned (.int .u32 (ror x 17 : Nat)) ∧ ∃ m, w' = w.drewN m :=
  (rror_any x 17 w hx (by omega) (by omega)).mono fun _ _ h => ⟨h.1, 1, h.2.symm⟩
theorem rror_19 (x : Nat) (w : World) (hx : x < 4294967296) : Calls Tryd.prog 77 #[.int .u32 x, .int .i64 19] w fun e w' => e = .returned (.int .u32 (ror x 19 : Nat)) ∧ ∃ m, w' = w.drewN m :=
  (rror_any x 19 w hx (by omega) (by omega)).mono fun _ _ h => ⟨h.1, 1, h.2.symm⟩
theorem rror_6 (x : Nat) (w : World) (hx : x < 4294967296) : Calls Tryd.prog 77 #[.int .u32 x, .int .i64 6] w fun e w' => e = .returned (.int .u32 (ror x 6 : Nat)) ∧ ∃ m, w' = w.drewN m :=
  (rror_any x 6 w hx (by omega) (by omega)).mono fun _ _ h => ⟨h.1, 1, h.2.symm⟩
theorem rror_11 (x : Nat) (w : World) (hx : x < 4294967296) : Calls Tryd.prog 77 #[.int .u32 x, .int .i64 11] w fun e w' => e = .returned (.int .u32 (ror x 11 : Nat)) ∧ ∃ m, w' = w.drewN m :=
  (rror_any x 11 w hx (by omega) (by omega)).mono fun _ _ h => ⟨h.1, 1, h.2.symm⟩
theorem rror_25 (x : Nat) (w : World) (hx : x < 4294967296) : Calls Tryd.prog 77 #[.int .u32 x, .int .i64 25] w fun e w' => e = .returned (.int .u32 (ror x 25 : Nat)) ∧ ∃ m, w' = w.drewN m :=
  (rror_any x 25 w hx (by omega) (by omega)).mono fun _ _ h => ⟨h.1, 1, h.2.symm⟩
theorem rror_2 (x : Nat) (w : World) (hx : x < 4294967296) : Calls Tryd.prog 77 #[.int .u32 x, .int .i64 2] w fun e w' => e = .returned (.int .u32 (ror x 2 : Nat)) ∧ ∃ m, w' = w.drewN m :=
  (rror_any x 2 w hx (by omega) (by omega)).mono fun _ _ h => ⟨h.1, 1, h.2.symm⟩
theorem rror_13 (x : Nat) (w : World) (hx : x < 4294967296) : Calls Tryd.prog 77 #[.int .u32 x, .int .i64 13] w fun e w' => e = .returned (.int .u32 (ror x 13 : Nat)) ∧ ∃ m, w' = w.drewN m :=
  (rror_any x 13 w hx (by omega) (by omega)).mono fun _ _ h => ⟨h.1, 1, h.2.symm⟩
theorem rror_22 (x : Nat) (w : World) (hx : x < 4294967296) : Calls Tryd.prog 77 #[.int .u32 x, .int .i64 22] w fun e w' => e = .returned (.int .u32 (ror x 22 : Nat)) ∧ ∃ m, w' = w.drewN m :=
  (rror_any x 22 w hx (by omega) (by omega)).mono fun _ _ h => ⟨h.1, 1, h.2.symm⟩
theorem rows_drewN {w : World} {b : Nat} {t : TypeId} {n : Nat} {f : Nat → Value} (h : w.rowIs b t n f) (k : Nat) : (w.drewN k).rowIs b t n f := h
theorem below_drewN {B : Nat} {a w : World} (h : Below B a w) (n : Nat) : Below B a (w.drewN n) := ⟨h.os, h.tape, h.output, h.size, h.block⟩
theorem row8 (W : World) (v : Nat → Nat) (t : TypeId) : (W.alloc (.cells #[.int .u32 (v 0 : Nat), .int .u32 (v 1 : Nat), .int .u32 (v 2 : Nat), .int .u32 (v 3 : Nat), .int .u32 (v 4 : Nat), .int .u32 (v 5 : Nat), .int .u32 (v 6 : Nat), .int .u32 (v 7 : Nat)] t)).rowIs W.heap.size t 8 (stF v) := World.rowIs_alloc W _ t _ (fun i hi => by
    have hi' : i < 8 := hi
    match i, hi' with
    | 0, _ => rfl
    | 1, _ => rfl
    | 2, _ => rfl
    | 3, _ => rfl
    | 4, _ => rfl
    | 5, _ => rfl
    | 6, _ => rfl
    | 7, _ => rfl)
theorem row64 (W : World) (l : List Nat) (t : TypeId) : (W.alloc (.cells #[.int .u32 0, .int .u32 0, .int .u32 0, .int .u32 0, .int .u32 0, .int .u32 0, .int .u32 0, .int .u32 0, .int .u32 0, .int .u32 0, .int .u32 0, .int .u32 0, .int .u32 0, .int .u32 0, .int .u32 0, .int .u32 0, .int .u32 0, .int .u32 0, .int .u32 0, .int .u32 0, .int .u32 0, .int .u32 0, .int .u32 0, .int .u32 0, .int .u32 0, .int .u32 0, .int .u32 0, .int .u32 0, .int .u32 0, .int .u32 0, .int .u32 0, .int .u32 0, .int .u32 0, .int .u32 0, .int .u32 0, .int .u32 0, .int .u32 0, .int .u32 0, .int .u32 0, .int .u32 0, .int .u32 0, .int .u32 0, .int .u32 0, .int .u32 0, .int .u32 0, .int .u32 0, .int .u32 0, .int .u32 0, .int .u32 0, .int .u32 0, .int .u32 0, .int .u32 0, .int .u32 0, .int .u32 0, .int .u32 0, .int .u32 0, .int .u32 0, .int .u32 0, .int .u32 0, .int .u32 0, .int .u32 0, .int .u32 0, .int .u32 0, .int .u32 0] t)).rowIs W.heap.size t 64 (schF l 0) := World.rowIs_alloc W _ t _ (fun i hi => by
    have : ∀ j : Fin 64, (Array.replicate 64 (Value.int .u32 0))[j.val]? = some (schF l 0 j.val) := fun j => by simp [schF]
    exact this ⟨i, hi⟩)
theorem row_same {w : World} {g t n : Nat} {f : Nat → Value} {c : Array Value} (h : w.rowIs g t n f) (hc : w.heap[g]? = some (.cells c t (0, 0))) : (w.setRow g c).rowIs g t n f := by
  obtain ⟨c', h1, h2, h3⟩ := h
  have : c' = c := by rw [h1] at hc; injection hc with hc; injection hc
  subst this
  exact ⟨c', setRow_heap w g _ _ _ _ h1, h2, h3⟩
theorem row_other {w : World} {g b t n : Nat} {f : Nat → Value} (c : Array Value) (h : w.rowIs b t n f) (hne : b ≠ g) : (w.setRow g c).rowIs b t n f := h.of_block (setRow_other w g b c hne)
/-- what holds in the reference's block -/
def BInv (w wr : World) (l : List Nat) (s : Nat → Nat) (k : Nat) : Prop :=
  wr.rowIs (w.heap.size + 1 + 1) 108 64 (schF l k) ∧ wr.rowIs w.heap.size 92 8 (stF s) ∧ wr.heap[w.heap.size + 1]? = some (.cells #[.int .u32 0, .int .u32 0, .int .u32 0, .int .u32 0, .int .u32 0, .int .u32 0, .int .u32 0, .int .u32 0] 92 (0, 0)) ∧ Below w.heap.size w wr
theorem BInv.drewN {w wr : World} {l : List Nat} {s : Nat → Nat} {k : Nat} (h : BInv w wr l s k) (n : Nat) : BInv w (wr.drewN n) l s k := ⟨h.1, h.2.1, h.2.2.1, below_drewN h.2.2.2 n⟩
theorem BInv.drew {w wr : World} {l : List Nat} {s : Nat → Nat} {k : Nat} (h : BInv w wr l s k) : BInv w wr.drew l s k := ⟨h.1, h.2.1, h.2.2.1, h.2.2.2.drew⟩
theorem BInv.set {w wr : World} {l : List Nat} {s : Nat → Nat} {k : Nat} (h : BInv w wr l s k) : BInv w (wr.setCell ⟨w.heap.size + 1 + 1, k, none⟩ (.int .u32 (wt l k : Nat))) l s (k + 1) :=
  ⟨by rw [← schF_set]; exact h.1.set _ _, h.2.1.setOther (a := ⟨w.heap.size + 1 + 1, k, none⟩) (by show w.heap.size ≠ w.heap.size + 1 + 1; omega) _,
    (Below.heap_setCell wr ⟨w.heap.size + 1 + 1, k, none⟩ _ (w.heap.size + 1) (by show w.heap.size + 1 ≠ w.heap.size + 1 + 1; omega)).trans h.2.2.1, h.2.2.2.setCell (p := ⟨w.heap.size + 1 + 1, k, none⟩) (by show w.heap.size ≤ w.heap.size + 1 + 1; omega) _⟩
theorem BInv.below {w wr w' : World} {l : List Nat} {s : Nat → Nat} {k : Nat} (h : BInv w wr l s k) (hb : Below wr.heap.size wr w') : BInv w w' l s k :=
  ⟨rowIs_below h.1 hb h.1.lt, rowIs_below h.2.1 hb h.2.1.lt, (hb.block _ (Array.getElem?_eq_some_iff.1 h.2.2.1).1).trans h.2.2.1, h.2.2.2.trans (hb.mono h.2.2.2.size)⟩
theorem ch_xor {e f g : Nat} (he : e < 4294967296) (hf : f < 4294967296) (hg : g < 4294967296) : (e &&& f) ^^^ ((4294967295 ^^^ e) &&& g) = ch e f g := by
  apply Nat.eq_of_testBit_eq
  intro i
  have hn : Nat.testBit 4294967295 i = decide (i < 32) := by
    have := Nat.testBit_two_pow_sub_one 32 i
    rw [show (2 : Nat) ^ 32 - 1 = 4294967295 by decide] at this
    exact this
  simp only [ch, Nat.testBit_xor, Nat.testBit_and, hn]
  by_cases hi : i < 32
  · simp only [hi, decide_true]
    cases e.testBit i <;> cases f.testBit i <;> cases g.testBit i <;> rfl
  · have h2 : g.testBit i = false := Nat.testBit_lt_two_pow (Nat.lt_of_lt_of_le hg (Nat.pow_le_pow_right (n := 2) (i := 32) (j := i) (by omega) (by omega)))
    have h3 : f.testBit i = false := Nat.testBit_lt_two_pow (Nat.lt_of_lt_of_le hf (Nat.pow_le_pow_right (n := 2) (i := 32) (j := i) (by omega) (by omega)))
    simp [h2, h3]
theorem rrp_end (v : Nat → Nat) (k w : Nat) (h : Words v) :
    (((v 7 : Int) + bits .xor .u32 (bits .xor .u32 (ror (v 4) 6 : Nat) (ror (v 4) 11 : Nat)) (ror (v 4) 25 : Nat) + bits .xor .u32 (bits .and .u32 (v 4 : Nat) (v 5 : Nat)) (bits .and .u32 (bits .xor .u32 (if IntKind.u32.signed = true then -1 else IntKind.u32.max) (v 4 : Nat)) (v 6 : Nat)) + (k : Int)) % 4294967296 + (w : Int)) % 4294967296 = (rp v k w : Nat) := by
  have e0 : (if IntKind.u32.signed = true then (-1 : Int) else IntKind.u32.max) = ((4294967295 : Nat) : Int) := by decide
  have h4 := h 4 (by omega)
  rw [e0, xor3 _ _ _ (ror_lt _ _ h4) (ror_lt _ _ h4) (ror_lt _ _ h4), u32_and_nat _ _ h4 (h 5 (by omega)), u32_xor_nat _ _ (by omega) h4, u32_and_nat _ _ (SzSha.xor_lt (by omega) h4) (h 6 (by omega)), u32_xor_nat _ _ (SzSha.and_lt h4) (SzSha.and_lt (SzSha.xor_lt (by omega) h4)), ch_xor h4 (h 5 (by omega)) (h 6 (by omega))]
  change (((v 7 : Int) + (rot3 (v 4) 6 11 25 : Nat) + (ch (v 4) (v 5) (v 6) : Nat) + (k : Int)) % 4294967296 + (w : Int)) % 4294967296 = _
  unfold rp add
  omega
theorem rrq_end (v : Nat → Nat) (h : Words v) :
    (bits .xor .u32 (bits .xor .u32 (ror (v 0) 2 : Nat) (ror (v 0) 13 : Nat)) (ror (v 0) 22 : Nat) + bits .xor .u32 (bits .xor .u32 (bits .and .u32 (v 0 : Nat) (v 1 : Nat)) (bits .and .u32 (v 0 : Nat) (v 2 : Nat))) (bits .and .u32 (v 1 : Nat) (v 2 : Nat))) % 4294967296 = (rq v : Nat) := by
  have h0 := h 0 (by omega)
  have h1 := h 1 (by omega)
  have h2 := h 2 (by omega)
  rw [xor3 _ _ _ (ror_lt _ _ h0) (ror_lt _ _ h0) (ror_lt _ _ h0), u32_and_nat _ _ h0 h1, u32_and_nat _ _ h0 h2, u32_and_nat _ _ h1 h2, xor3 _ _ _ (SzSha.and_lt h0) (SzSha.and_lt h0) (SzSha.and_lt h1), maj_eq]
  change ((rot3 (v 0) 2 13 22 : Nat) + (maj (v 0) (v 1) (v 2) : Nat) : Int) % 4294967296 = _
  unfold rq add
  omega
theorem one8 (a0 a1 a2 a3 a4 a5 a6 a7 : Int) : (#[Value.int .u32 a0, Value.int .u32 a1, Value.int .u32 a2, Value.int .u32 a3, Value.int .u32 a4, Value.int .u32 a5, Value.int .u32 a6, Value.int .u32 a7]).all (·.oneCell') = true := by simp [Value.oneCell']
theorem sz8 (a0 a1 a2 a3 a4 a5 a6 a7 : Int) : (Tryd.prog.info? 92).map (·.size) = some (#[Value.int .u32 a0, Value.int .u32 a1, Value.int .u32 a2, Value.int .u32 a3, Value.int .u32 a4, Value.int .u32 a5, Value.int .u32 a6, Value.int .u32 a7]).size := by kernel_rfl
def kF (j : Nat) : Value := .int .u32 (kf j : Nat)
theorem ks_row (W : World) (g : Nat) (h : W.heap[g]? = some (.cells ksV 108 (0, 0))) : W.rowIs g 108 64 kF :=
  ⟨ksV, h, rfl, fun i hi => by
    have hi' : i < ks.length := hi
    unfold ksV kF kf
    rw [List.getElem?_toArray, List.getElem?_map, List.getElem?_eq_getElem hi', List.getD_eq_getElem?_getD, List.getElem?_eq_getElem hi']; rfl⟩
set_option maxRecDepth 100000 in
set_option maxHeartbeats 4000000 in
theorem rblock_any (g off c : Nat) (s : Nat → Nat) (l : List Nat) (w : World) (hl : Hid (l.length = 64)) (hb : Hid (Bytes l)) (hs : Hid (Words s)) (hc : 64 ≤ c) (hg : g < w.heap.size) (hL : Hid (BytesAt w g off l)) :
    Calls Tryd.prog 62 #[.agg #[.int .u32 (s 0 : Nat), .int .u32 (s 1 : Nat), .int .u32 (s 2 : Nat), .int .u32 (s 3 : Nat), .int .u32 (s 4 : Nat), .int .u32 (s 5 : Nat), .int .u32 (s 6 : Nat), .int .u32 (s 7 : Nat)], .slice (some ⟨g, off, none⟩) 64 c] w fun e w' => e = .returned (.agg #[.int .u32 (block s l 0 : Nat), .int .u32 (block s l 1 : Nat), .int .u32 (block s l 2 : Nat), .int .u32 (block s l 3 : Nat), .int .u32 (block s l 4 : Nat), .int .u32 (block s l 5 : Nat), .int .u32 (block s l 6 : Nat), .int .u32 (block s l 7 : Nat)]) ∧ Below w.heap.size w w' := by
  have hsz2 : ((w.alloc (.cells #[.int .u32 (s 0 : Nat), .int .u32 (s 1 : Nat), .int .u32 (s 2 : Nat), .int .u32 (s 3 : Nat), .int .u32 (s 4 : Nat), .int .u32 (s 5 : Nat), .int .u32 (s 6 : Nat), .int .u32 (s 7 : Nat)] 92)).alloc (.cells #[.int .u32 0, .int .u32 0, .int .u32 0, .int .u32 0, .int .u32 0, .int .u32 0, .int .u32 0, .int .u32 0] 92)).heap.size = w.heap.size + 1 + 1 := by simp
  have hZ := heap_alloc_new ((w.alloc (.cells #[.int .u32 (s 0 : Nat), .int .u32 (s 1 : Nat), .int .u32 (s 2 : Nat), .int .u32 (s 3 : Nat), .int .u32 (s 4 : Nat), .int .u32 (s 5 : Nat), .int .u32 (s 6 : Nat), .int .u32 (s 7 : Nat)] 92)).alloc (.cells #[.int .u32 0, .int .u32 0, .int .u32 0, .int .u32 0, .int .u32 0, .int .u32 0, .int .u32 0, .int .u32 0] 92)) (.cells #[.int .u32 0, .int .u32 0, .int .u32 0, .int .u32 0, .int .u32 0, .int .u32 0, .int .u32 0, .int .u32 0, .int .u32 0, .int .u32 0, .int .u32 0, .int .u32 0, .int .u32 0, .int .u32 0, .int .u32 0, .int .u32 0, .int .u32 0, .int .u32 0, .int .u32 0, .int .u32 0, .int .u32 0, .int .u32 0, .int .u32 0, .int .u32 0, .int .u32 0, .int .u32 0, .int .u32 0, .int .u32 0, .int .u32 0, .int .u32 0, .int .u32 0, .int .u32 0, .int .u32 0, .int .u32 0, .int .u32 0, .int .u32 0, .int .u32 0, .int .u32 0, .int .u32 0, .int .u32 0, .int .u32 0, .int .u32 0, .int .u32 0, .int .u32 0, .int .u32 0, .int .u32 0, .int .u32 0, .int .u32 0, .int .u32 0, .int .u32 0, .int .u32 0, .int .u32 0, .int .u32 0, .int .u32 0, .int .u32 0, .int .u32 0, .int .u32 0, .int .u32 0, .int .u32 0, .int .u32 0, .int .u32 0, .int .u32 0, .int .u32 0, .int .u32 0] 108)
  have hrZ := row64 ((w.alloc (.cells #[.int .u32 (s 0 : Nat), .int .u32 (s 1 : Nat), .int .u32 (s 2 : Nat), .int .u32 (s 3 : Nat), .int .u32 (s 4 : Nat), .int .u32 (s 5 : Nat), .int .u32 (s 6 : Nat), .int .u32 (s 7 : Nat)] 92)).alloc (.cells #[.int .u32 0, .int .u32 0, .int .u32 0, .int .u32 0, .int .u32 0, .int .u32 0, .int .u32 0, .int .u32 0] 92)) l 108
  have hrs := (row8 w s 92).alloc (.cells #[.int .u32 0, .int .u32 0, .int .u32 0, .int .u32 0, .int .u32 0, .int .u32 0, .int .u32 0, .int .u32 0] 92) |>.alloc (.cells #[.int .u32 0, .int .u32 0, .int .u32 0, .int .u32 0, .int .u32 0, .int .u32 0, .int .u32 0, .int .u32 0, .int .u32 0, .int .u32 0, .int .u32 0, .int .u32 0, .int .u32 0, .int .u32 0, .int .u32 0, .int .u32 0, .int .u32 0, .int .u32 0, .int .u32 0, .int .u32 0, .int .u32 0, .int .u32 0, .int .u32 0, .int .u32 0, .int .u32 0, .int .u32 0, .int .u32 0, .int .u32 0, .int .u32 0, .int .u32 0, .int .u32 0, .int .u32 0, .int .u32 0, .int .u32 0, .int .u32 0, .int .u32 0, .int .u32 0, .int .u32 0, .int .u32 0, .int .u32 0, .int .u32 0, .int .u32 0, .int .u32 0, .int .u32 0, .int .u32 0, .int .u32 0, .int .u32 0, .int .u32 0, .int .u32 0, .int .u32 0, .int .u32 0, .int .u32 0, .int .u32 0, .int .u32 0, .int .u32 0, .int .u32 0, .int .u32 0, .int .u32 0, .int .u32 0, .int .u32 0, .int .u32 0, .int .u32 0, .int .u32 0, .int .u32 0] 108)
  have hB0 : Below w.heap.size w (((w.alloc (.cells #[.int .u32 (s 0 : Nat), .int .u32 (s 1 : Nat), .int .u32 (s 2 : Nat), .int .u32 (s 3 : Nat), .int .u32 (s 4 : Nat), .int .u32 (s 5 : Nat), .int .u32 (s 6 : Nat), .int .u32 (s 7 : Nat)] 92)).alloc (.cells #[.int .u32 0, .int .u32 0, .int .u32 0, .int .u32 0, .int .u32 0, .int .u32 0, .int .u32 0, .int .u32 0] 92)).alloc (.cells #[.int .u32 0, .int .u32 0, .int .u32 0, .int .u32 0, .int .u32 0, .int .u32 0, .int .u32 0, .int .u32 0, .int .u32 0, .int .u32 0, .int .u32 0, .int .u32 0, .int .u32 0, .int .u32 0, .int .u32 0, .int .u32 0, .int .u32 0, .int .u32 0, .int .u32 0, .int .u32 0, .int .u32 0, .int .u32 0, .int .u32 0, .int .u32 0, .int .u32 0, .int .u32 0, .int .u32 0, .int .u32 0, .int .u32 0, .int .u32 0, .int .u32 0, .int .u32 0, .int .u32 0, .int .u32 0, .int .u32 0, .int .u32 0, .int .u32 0, .int .u32 0, .int .u32 0, .int .u32 0, .int .u32 0, .int .u32 0, .int .u32 0, .int .u32 0, .int .u32 0, .int .u32 0, .int .u32 0, .int .u32 0, .int .u32 0, .int .u32 0, .int .u32 0, .int .u32 0, .int .u32 0, .int .u32 0, .int .u32 0, .int .u32 0, .int .u32 0, .int .u32 0, .int .u32 0, .int .u32 0, .int .u32 0, .int .u32 0, .int .u32 0, .int .u32 0] 108)) := (((Below.refl _ w).alloc (Nat.le_refl _) _).alloc (by simp) _).alloc (by simp; omega) _
  have hR0 : (((w.alloc (.cells #[.int .u32 (s 0 : Nat), .int .u32 (s 1 : Nat), .int .u32 (s 2 : Nat), .int .u32 (s 3 : Nat), .int .u32 (s 4 : Nat), .int .u32 (s 5 : Nat), .int .u32 (s 6 : Nat), .int .u32 (s 7 : Nat)] 92)).alloc (.cells #[.int .u32 0, .int .u32 0, .int .u32 0, .int .u32 0, .int .u32 0, .int .u32 0, .int .u32 0, .int .u32 0] 92)).alloc (.cells #[.int .u32 0, .int .u32 0, .int .u32 0, .int .u32 0, .int .u32 0, .int .u32 0, .int .u32 0, .int .u32 0, .int .u32 0, .int .u32 0, .int .u32 0, .int .u32 0, .int .u32 0, .int .u32 0, .int .u32 0, .int .u32 0, .int .u32 0, .int .u32 0, .int .u32 0, .int .u32 0, .int .u32 0, .int .u32 0, .int .u32 0, .int .u32 0, .int .u32 0, .int .u32 0, .int .u32 0, .int .u32 0, .int .u32 0, .int .u32 0, .int .u32 0, .int .u32 0, .int .u32 0, .int .u32 0, .int .u32 0, .int .u32 0, .int .u32 0, .int .u32 0, .int .u32 0, .int .u32 0, .int .u32 0, .int .u32 0, .int .u32 0, .int .u32 0, .int .u32 0, .int .u32 0, .int .u32 0, .int .u32 0, .int .u32 0, .int .u32 0, .int .u32 0, .int .u32 0, .int .u32 0, .int .u32 0, .int .u32 0, .int .u32 0, .int .u32 0, .int .u32 0, .int .u32 0, .int .u32 0, .int .u32 0, .int .u32 0, .int .u32 0, .int .u32 0] 108)).heap[w.heap.size + 1]? = some (.cells #[.int .u32 0, .int .u32 0, .int .u32 0, .int .u32 0, .int .u32 0, .int .u32 0, .int .u32 0, .int .u32 0] 92 (0, 0)) := by
    rw [Below.heap_alloc _ _ _ (by rw [hsz2]; omega)]
    have := heap_alloc_new (w.alloc (.cells #[.int .u32 (s 0 : Nat), .int .u32 (s 1 : Nat), .int .u32 (s 2 : Nat), .int .u32 (s 3 : Nat), .int .u32 (s 4 : Nat), .int .u32 (s 5 : Nat), .int .u32 (s 6 : Nat), .int .u32 (s 7 : Nat)] 92)) (.cells #[.int .u32 0, .int .u32 0, .int .u32 0, .int .u32 0, .int .u32 0, .int .u32 0, .int .u32 0, .int .u32 0] 92)
    rw [World.size_alloc] at this
    exact this
  rw [hsz2] at hZ hrZ
  have HZ := Lib.hid hZ
  have HRZ := Lib.hid hrZ
  have HRS := Lib.hid hrs
  have HB0 := Lib.hid hB0
  have HR0 := Lib.hid hR0
  clear hsz2 hZ hrZ hrs hB0 hR0
  go_enter Tryd.func62, Tryd.ntmps62
  go_wp2_with (refine wpList_store_row rfl 108 (.tmp 5) (.tmp 22) rfl (w.heap.size + 1 + 1) #[.int .u32 0, .int .u32 0, .int .u32 0, .int .u32 0, .int .u32 0, .int .u32 0, .int .u32 0, .int .u32 0, .int .u32 0, .int .u32 0, .int .u32 0, .int .u32 0, .int .u32 0, .int .u32 0, .int .u32 0, .int .u32 0, .int .u32 0, .int .u32 0, .int .u32 0, .int .u32 0, .int .u32 0, .int .u32 0, .int .u32 0, .int .u32 0, .int .u32 0, .int .u32 0, .int .u32 0, .int .u32 0, .int .u32 0, .int .u32 0, .int .u32 0, .int .u32 0, .int .u32 0, .int .u32 0, .int .u32 0, .int .u32 0, .int .u32 0, .int .u32 0, .int .u32 0, .int .u32 0, .int .u32 0, .int .u32 0, .int .u32 0, .int .u32 0, .int .u32 0, .int .u32 0, .int .u32 0, .int .u32 0, .int .u32 0, .int .u32 0, .int .u32 0, .int .u32 0, .int .u32 0, .int .u32 0, .int .u32 0, .int .u32 0, .int .u32 0, .int .u32 0, .int .u32 0, .int .u32 0, .int .u32 0, .int .u32 0, .int .u32 0, .int .u32 0] rfl rfl 108 _ HZ.out (by kernel_rfl) rfl (by decide +kernel) ?_)
  have HI : Hid (BInv w _ l s 0) := Lib.hid ⟨row_same HRZ.out HZ.out, row_other #[.int .u32 0, .int .u32 0, .int .u32 0, .int .u32 0, .int .u32 0, .int .u32 0, .int .u32 0, .int .u32 0, .int .u32 0, .int .u32 0, .int .u32 0, .int .u32 0, .int .u32 0, .int .u32 0, .int .u32 0, .int .u32 0, .int .u32 0, .int .u32 0, .int .u32 0, .int .u32 0, .int .u32 0, .int .u32 0, .int .u32 0, .int .u32 0, .int .u32 0, .int .u32 0, .int .u32 0, .int .u32 0, .int .u32 0, .int .u32 0, .int .u32 0, .int .u32 0, .int .u32 0, .int .u32 0, .int .u32 0, .int .u32 0, .int .u32 0, .int .u32 0, .int .u32 0, .int .u32 0, .int .u32 0, .int .u32 0, .int .u32 0, .int .u32 0, .int .u32 0, .int .u32 0, .int .u32 0, .int .u32 0, .int .u32 0, .int .u32 0, .int .u32 0, .int .u32 0, .int .u32 0, .int .u32 0, .int .u32 0, .int .u32 0, .int .u32 0, .int .u32 0, .int .u32 0, .int .u32 0, .int .u32 0, .int .u32 0, .int .u32 0, .int .u32 0] HRS.out (show w.heap.size ≠ w.heap.size + 1 + 1 by omega), (setRow_other _ (w.heap.size + 1 + 1) (w.heap.size + 1) #[.int .u32 0, .int .u32 0, .int .u32 0, .int .u32 0, .int .u32 0, .int .u32 0, .int .u32 0, .int .u32 0, .int .u32 0, .int .u32 0, .int .u32 0, .int .u32 0, .int .u32 0, .int .u32 0, .int .u32 0, .int .u32 0, .int .u32 0, .int .u32 0, .int .u32 0, .int .u32 0, .int .u32 0, .int .u32 0, .int .u32 0, .int .u32 0, .int .u32 0, .int .u32 0, .int .u32 0, .int .u32 0, .int .u32 0, .int .u32 0, .int .u32 0, .int .u32 0, .int .u32 0, .int .u32 0, .int .u32 0, .int .u32 0, .int .u32 0, .int .u32 0, .int .u32 0, .int .u32 0, .int .u32 0, .int .u32 0, .int .u32 0, .int .u32 0, .int .u32 0, .int .u32 0, .int .u32 0, .int .u32 0, .int .u32 0, .int .u32 0, .int .u32 0, .int .u32 0, .int .u32 0, .int .u32 0, .int .u32 0, .int .u32 0, .int .u32 0, .int .u32 0, .int .u32 0, .int .u32 0, .int .u32 0, .int .u32 0, .int .u32 0, .int .u32 0] (by omega)).trans HR0.out, below_setRow HB0.out (show w.heap.size ≤ w.heap.size + 1 + 1 by omega) #[.int .u32 0, .int .u32 0, .int .u32 0, .int .u32 0, .int .u32 0, .int .u32 0, .int .u32 0, .int .u32 0, .int .u32 0, .int .u32 0, .int .u32 0, .int .u32 0, .int .u32 0, .int .u32 0, .int .u32 0, .int .u32 0, .int .u32 0, .int .u32 0, .int .u32 0, .int .u32 0, .int .u32 0, .int .u32 0, .int .u32 0, .int .u32 0, .int .u32 0, .int .u32 0, .int .u32 0, .int .u32 0, .int .u32 0, .int .u32 0, .int .u32 0, .int .u32 0, .int .u32 0, .int .u32 0, .int .u32 0, .int .u32 0, .int .u32 0, .int .u32 0, .int .u32 0, .int .u32 0, .int .u32 0, .int .u32 0, .int .u32 0, .int .u32 0, .int .u32 0, .int .u32 0, .int .u32 0, .int .u32 0, .int .u32 0, .int .u32 0, .int .u32 0, .int .u32 0, .int .u32 0, .int .u32 0, .int .u32 0, .int .u32 0, .int .u32 0, .int .u32 0, .int .u32 0, .int .u32 0, .int .u32 0, .int .u32 0, .int .u32 0, .int .u32 0]⟩
  clear HZ HRZ HRS HB0 HR0
  go_loopw [6] (fun i wr => ∃ k : Nat, k ≤ 16 ∧ i = .int .i64 k ∧ Hid (BInv w wr l s k)) (fun i _ => 16 - (intOf i).toNat)
  case atStart => exact ⟨0, by omega, rfl, HI⟩
  case round =>
    clear HI
    obtain ⟨k, hk1, rfl, hI⟩ := hrel
    by_cases hlt : k < 16
    · have hcell := hI.out.1.cell (i := k) (by omega)
      have hfr := hI.out.1.frozen k
      have HX : Hid (∀ i, i < 4 → wr.cell? ⟨g, off + 4 * k + i, none⟩ = some (.int .u8 (l.getD (4 * k + i) 0 : Nat))) := Lib.hid fun i hi => by
        rw [Nat.add_assoc]
        exact (hI.out.2.2.2.cell (p := ⟨g, off + (4 * k + i), none⟩) hg).trans (hL.out _ (by have := hl.out; omega))
      obtain ⟨x0, X0⟩ : ∃ x, Hid (l.getD (4 * k) 0 = x) := ⟨_, Lib.hid rfl⟩
      obtain ⟨x1, X1⟩ : ∃ x, Hid (l.getD (4 * k + 1) 0 = x) := ⟨_, Lib.hid rfl⟩
      obtain ⟨x2, X2⟩ : ∃ x, Hid (l.getD (4 * k + 2) 0 = x) := ⟨_, Lib.hid rfl⟩
      obtain ⟨x3, X3⟩ : ∃ x, Hid (l.getD (4 * k + 3) 0 = x) := ⟨_, Lib.hid rfl⟩
      have HW : Hid ((((x0 * 256 + x1) * 256 + x2) * 256 + x3) = wt l k) := Lib.hid (by rw [wt_low l k hlt, word, X0.out, X1.out, X2.out, X3.out])
      go_wp2_with fail
      refine (rword_any g (off + 4 * k) (c - 4 * k) x0 x1 x2 x3 _ (by rw [← X0.out]; exact hb.out.getD _) (by rw [← X1.out]; exact hb.out.getD _) (by rw [← X2.out]; exact hb.out.getD _) (by rw [← X3.out]; exact hb.out.getD _) (by rw [← X0.out]; exact HX.out 0 (by omega)) (by rw [← X1.out]; exact HX.out 1 (by omega)) (by rw [← X2.out]; exact HX.out 2 (by omega)) (by rw [← X3.out]; exact HX.out 3 (by omega))).mono ?_
      rintro e w1 ⟨rfl, rfl⟩
      rw [HW.out]
      go_wp2_with fail
      go_roundw
      case rel => exact ⟨k + 1, by omega, by go_num, Lib.hid hI.out.drew.set⟩
      case measure => simp [intOf]; omega
    · have hI16 : Hid (BInv w wr l s 16) := by have := hI; rw [show k = 16 by omega] at this; exact this
      have d16 : decide ((k : Int) < 16) = false := decide_eq_false (by omega)
      clear hI
      go_wp2_with fail
      go_loopw [7] (fun i wr => ∃ k : Nat, 16 ≤ k ∧ k ≤ 64 ∧ i = .int .i64 k ∧ Hid (BInv w wr l s k)) (fun i _ => 64 - (intOf i).toNat)
      case atStart => exact ⟨16, by omega, by omega, rfl, hI16⟩
      case round =>
        clear hI16 hlt
        obtain ⟨k, hk0, hk, rfl, hI⟩ := hrel
        by_cases hlt : k < 64
        · obtain ⟨d, hd⟩ : ∃ d, d + 16 = k := ⟨k - 16, by omega⟩
          obtain ⟨a, ha⟩ : ∃ a, a + 15 = k := ⟨k - 15, by omega⟩
          obtain ⟨f, hf⟩ : ∃ f, f + 7 = k := ⟨k - 7, by omega⟩
          obtain ⟨b, hb2⟩ : ∃ b, b + 2 = k := ⟨k - 2, by omega⟩
          have hcell := hI.out.1.cell (i := k) (by omega)
          have hfr := hI.out.1.frozen k
          have c15 := hI.out.1.cell (i := a) (by omega)
          have c2 := hI.out.1.cell (i := b) (by omega)
          have c16 := hI.out.1.cell (i := d) (by omega)
          have c7 := hI.out.1.cell (i := f) (by omega)
          unfold schF at c15 c2 c16 c7
          rw [if_pos (by omega)] at c15 c2 c16 c7
          have a64 : (a : Int) < 64 := by omega
          have b64 : (b : Int) < 64 := by omega
          have d64 : (d : Int) < 64 := by omega
          have f64 : (f : Int) < 64 := by omega
          have k64 : (k : Int) < 64 := by omega
          have la := wt_lt hb.out a (by omega)
          have lb := wt_lt hb.out b (by omega)
          have EW : Hid (wt l k = add (add (add (wt l d) (sg0 (wt l a))) (wt l f)) (sg1 (wt l b))) := Lib.hid (by
            rw [wt_high l k hk0 hlt, show k - 16 = d by omega, show k - 15 = a by omega, show k - 7 = f by omega, show k - 2 = b by omega])
          have e15 : IntKind.i64.wrap ((k : Int) - 15) = (a : Int) := by rw [IntWalk.i64_in _ (by omega)]; omega
          have e2 : IntKind.i64.wrap ((k : Int) - 2) = (b : Int) := by rw [IntWalk.i64_in _ (by omega)]; omega
          have e16 : IntKind.i64.wrap ((k : Int) - 16) = (d : Int) := by rw [IntWalk.i64_in _ (by omega)]; omega
          have e7 : IntKind.i64.wrap ((k : Int) - 7) = (f : Int) := by rw [IntWalk.i64_in _ (by omega)]; omega
          have z15 : (k : Int) - 15 = (a : Int) := by omega
          have z2 : (k : Int) - 2 = (b : Int) := by omega
          have SE := Lib.hid (sch_end (wt l d) (wt l a) (wt l f) (wt l b) la lb)
          clear hd ha hf hb2
          go_wp2_with fail
          refine region_quiet_tail 29 (fun w' => ∃ n, w' = wr.drewN n) (by kernel_rfl) (by kernel_rfl) ⟨1, rfl⟩ ?_
          simp only [List.take_succ_cons, List.take_zero, List.drop_succ_cons, List.drop_zero]
          repeat (first | go_big_quiet_step (first | with_reducible exact Calls.quiet_of (rror_7 _ _ la) | with_reducible exact Calls.quiet_of (rror_18 _ _ la) | with_reducible exact Calls.quiet_of (rror_17 _ _ lb) | with_reducible exact Calls.quiet_of (rror_19 _ _ lb)) | quiet_step (first | with_reducible exact Calls.quiet_of (rror_7 _ _ la) | with_reducible exact Calls.quiet_of (rror_18 _ _ la) | with_reducible exact Calls.quiet_of (rror_17 _ _ lb) | with_reducible exact Calls.quiet_of (rror_19 _ _ lb)))
          refine wpQuiet_nil ?_
          rintro _ ⟨nq, rfl⟩
          go_wp2_with fail
          go_roundw
          case rel =>
            rw [SE.out, ← EW.out]
            exact ⟨k + 1, by omega, by omega, by go_num, Lib.hid (hI.out.drewN nq).set⟩
          case measure => simp [intOf]; omega
        · have hI64 : Hid (BInv w wr l s 64) := by have := hI; rw [show k = 64 by omega] at this; exact this
          have d64 : decide ((k : Int) < 64) = false := decide_eq_false (by omega)
          clear hI
          go_wp2_with fail
          refine (numbers_any _).mono ?_
          rintro e w1 ⟨rfl, hb1⟩
          have HI1 := Lib.hid (hI64.out.below hb1)
          clear hI64 hb1
          have hq := laid_row w1 #[.int .u32 0, .int .u32 0, .int .u32 0, .int .u32 0, .int .u32 0, .int .u32 0, .int .u32 0, .int .u32 0, .int .u32 0, .int .u32 0, .int .u32 0, .int .u32 0, .int .u32 0, .int .u32 0, .int .u32 0, .int .u32 0, .int .u32 0, .int .u32 0, .int .u32 0, .int .u32 0, .int .u32 0, .int .u32 0, .int .u32 0, .int .u32 0, .int .u32 0, .int .u32 0, .int .u32 0, .int .u32 0, .int .u32 0, .int .u32 0, .int .u32 0, .int .u32 0, .int .u32 0, .int .u32 0, .int .u32 0, .int .u32 0, .int .u32 0, .int .u32 0, .int .u32 0, .int .u32 0, .int .u32 0, .int .u32 0, .int .u32 0, .int .u32 0, .int .u32 0, .int .u32 0, .int .u32 0, .int .u32 0, .int .u32 0, .int .u32 0, .int .u32 0, .int .u32 0, .int .u32 0, .int .u32 0, .int .u32 0, .int .u32 0, .int .u32 0, .int .u32 0, .int .u32 0, .int .u32 0, .int .u32 0, .int .u32 0, .int .u32 0, .int .u32 0] ksV 108
          have HQ := Lib.hid hq
          clear hq
          go_wp2_with (refine wpList_store_row rfl 108 (.tmp 10) (.tmp 78) rfl w1.heap.size ksV rfl rfl 108 _ (heap_alloc_new w1 _) (by kernel_rfl) rfl (by decide +kernel) ?_)
          have HI2 := Lib.hid (HI1.out.below HQ.out.1)
          have HK2 := Lib.hid (ks_row _ _ HQ.out.2.2)
          have hlt1 : w.heap.size + 1 + 1 < w1.heap.size := HI1.out.1.lt
          clear HQ HI1
          generalize (w1.alloc (.cells #[.int .u32 0, .int .u32 0, .int .u32 0, .int .u32 0, .int .u32 0, .int .u32 0, .int .u32 0, .int .u32 0, .int .u32 0, .int .u32 0, .int .u32 0, .int .u32 0, .int .u32 0, .int .u32 0, .int .u32 0, .int .u32 0, .int .u32 0, .int .u32 0, .int .u32 0, .int .u32 0, .int .u32 0, .int .u32 0, .int .u32 0, .int .u32 0, .int .u32 0, .int .u32 0, .int .u32 0, .int .u32 0, .int .u32 0, .int .u32 0, .int .u32 0, .int .u32 0, .int .u32 0, .int .u32 0, .int .u32 0, .int .u32 0, .int .u32 0, .int .u32 0, .int .u32 0, .int .u32 0, .int .u32 0, .int .u32 0, .int .u32 0, .int .u32 0, .int .u32 0, .int .u32 0, .int .u32 0, .int .u32 0, .int .u32 0, .int .u32 0, .int .u32 0, .int .u32 0, .int .u32 0, .int .u32 0, .int .u32 0, .int .u32 0, .int .u32 0, .int .u32 0, .int .u32 0, .int .u32 0, .int .u32 0, .int .u32 0, .int .u32 0, .int .u32 0] 108)).setRow w1.heap.size ksV = w2 at *
          obtain ⟨gk, Hgk⟩ : ∃ gk, Hid (w1.heap.size = gk) := ⟨_, Lib.hid rfl⟩
          rw [Hgk.out] at HK2 hlt1
          rw [Hgk.out]
          refine wp_region_still_lit (by kernel_rfl) (by kernel_rfl) ?_
          change wpStill _ _ w2.drew (fun a' => Exit.then _ _ _ a' w2.drew) _ _
          have HI3 := Lib.hid HI2.out.drew
          have HK3 : Hid (w2.drew.rowIs gk 108 64 kF) := HK2
          generalize w2.drew = w3 at *
          clear HI2 HK2
          have s0 : w3.cell? ⟨w.heap.size, 0, none⟩ = some (.int .u32 (s 0 : Nat)) := HI3.out.2.1.cell (by omega)
          have s1 : w3.cell? ⟨w.heap.size, 1, none⟩ = some (.int .u32 (s 1 : Nat)) := HI3.out.2.1.cell (by omega)
          have s2 : w3.cell? ⟨w.heap.size, 2, none⟩ = some (.int .u32 (s 2 : Nat)) := HI3.out.2.1.cell (by omega)
          have s3 : w3.cell? ⟨w.heap.size, 3, none⟩ = some (.int .u32 (s 3 : Nat)) := HI3.out.2.1.cell (by omega)
          have s4 : w3.cell? ⟨w.heap.size, 4, none⟩ = some (.int .u32 (s 4 : Nat)) := HI3.out.2.1.cell (by omega)
          have s5 : w3.cell? ⟨w.heap.size, 5, none⟩ = some (.int .u32 (s 5 : Nat)) := HI3.out.2.1.cell (by omega)
          have s6 : w3.cell? ⟨w.heap.size, 6, none⟩ = some (.int .u32 (s 6 : Nat)) := HI3.out.2.1.cell (by omega)
          have s7 : w3.cell? ⟨w.heap.size, 7, none⟩ = some (.int .u32 (s 7 : Nat)) := HI3.out.2.1.cell (by omega)
          repeat still_step
          refine wpStill_nil ?_
          clear s0 s1 s2 s3 s4 s5 s6 s7
          go_wp2_with fail
          go_loopw [11, 12, 13, 14, 15, 16, 17, 18, 19] (fun x0 x1 x2 x3 x4 x5 x6 x7 i wz => ∃ k : Nat, k ≤ 64 ∧ i = .int .i64 k ∧ x0 = .int .u32 (rounds l s k 0 : Nat) ∧ x1 = .int .u32 (rounds l s k 1 : Nat) ∧ x2 = .int .u32 (rounds l s k 2 : Nat) ∧ x3 = .int .u32 (rounds l s k 3 : Nat) ∧ x4 = .int .u32 (rounds l s k 4 : Nat) ∧ x5 = .int .u32 (rounds l s k 5 : Nat) ∧ x6 = .int .u32 (rounds l s k 6 : Nat) ∧ x7 = .int .u32 (rounds l s k 7 : Nat) ∧ Hid (BInv w wz l s 64) ∧ Hid (wz.rowIs gk 108 64 kF)) (fun _ _ _ _ _ _ _ _ i _ => 64 - (intOf i).toNat)
          case atStart => exact ⟨0, by omega, rfl, rfl, rfl, rfl, rfl, rfl, rfl, rfl, rfl, HI3, HK3⟩
          case round =>
            clear HI3 HK3
            rename World => wz
            obtain ⟨k, hk, rfl, rfl, rfl, rfl, rfl, rfl, rfl, rfl, rfl, hI, hK⟩ := hrel
            by_cases hlt : k < 64
            · have hWd := Lib.hid (rounds_words hs.out l k)
              obtain ⟨v, HV⟩ : ∃ v : Nat → Nat, Hid (rounds l s k = v) := ⟨_, Lib.hid rfl⟩
              rw [HV.out] at hWd
              rw [HV.out]
              have l0 := hWd.out 0 (by omega)
              have l4 := hWd.out 4 (by omega)
              have k64 : (k : Int) < 64 := by omega
              have wk := hI.out.1.cell (i := k) (by omega)
              have nk := hK.out.cell (i := k) (by omega)
              unfold schF at wk
              unfold kF at nk
              rw [if_pos hlt] at wk
              go_wp2_with fail
              go_quiet ((first | with_reducible exact Calls.quiet_of (rror_6 _ _ l4) | with_reducible exact Calls.quiet_of (rror_11 _ _ l4) | with_reducible exact Calls.quiet_of (rror_25 _ _ l4)))
              rw [rrp_end v (kf k) (wt l k) hWd.out]
              have hI4 := Lib.hid (hI.out.drewN nq)
              have hK4 : Hid ((wz.drewN nq).rowIs gk 108 64 kF) := hK
              generalize wz.drewN nq = w4 at *
              clear hI hK wk nk k64 l4
              go_wp2_with fail
              refine (rror_2 (v 0) _ l0).mono ?_
              rintro e w' ⟨rfl, m4, rfl⟩
              go_wp2_with fail
              refine (rror_13 (v 0) _ l0).mono ?_
              rintro e w' ⟨rfl, m5, rfl⟩
              go_wp2_with fail
              refine (rror_22 (v 0) _ l0).mono ?_
              rintro e w' ⟨rfl, m6, rfl⟩
              have QE := Lib.hid (rrq_end v hWd.out)
              go_wp2_with fail
              go_roundw
              case rel =>
                rw [QE.out, addI, addI]
                exact ⟨k + 1, by omega, by go_num, by rw [rounds, HV.out]; rfl, by rw [rounds, HV.out]; rfl, by rw [rounds, HV.out]; rfl, by rw [rounds, HV.out]; rfl, by rw [rounds, HV.out]; rfl, by rw [rounds, HV.out]; rfl, by rw [rounds, HV.out]; rfl, by rw [rounds, HV.out]; rfl, Lib.hid (hI4.out.drewN _), hK4⟩
              case measure => simp [intOf]; omega
            · have dk : decide ((k : Int) < 64) = false := decide_eq_false (by omega)
              have E64 : Hid (rounds l s k = rounds l s 64) := Lib.hid (by rw [show k = 64 by omega])
              have s0 : wz.cell? ⟨w.heap.size, 0, none⟩ = some (.int .u32 (s 0 : Nat)) := hI.out.2.1.cell (by omega)
              have s1 : wz.cell? ⟨w.heap.size, 1, none⟩ = some (.int .u32 (s 1 : Nat)) := hI.out.2.1.cell (by omega)
              have s2 : wz.cell? ⟨w.heap.size, 2, none⟩ = some (.int .u32 (s 2 : Nat)) := hI.out.2.1.cell (by omega)
              have s3 : wz.cell? ⟨w.heap.size, 3, none⟩ = some (.int .u32 (s 3 : Nat)) := hI.out.2.1.cell (by omega)
              have s4 : wz.cell? ⟨w.heap.size, 4, none⟩ = some (.int .u32 (s 4 : Nat)) := hI.out.2.1.cell (by omega)
              have s5 : wz.cell? ⟨w.heap.size, 5, none⟩ = some (.int .u32 (s 5 : Nat)) := hI.out.2.1.cell (by omega)
              have s6 : wz.cell? ⟨w.heap.size, 6, none⟩ = some (.int .u32 (s 6 : Nat)) := hI.out.2.1.cell (by omega)
              have s7 : wz.cell? ⟨w.heap.size, 7, none⟩ = some (.int .u32 (s 7 : Nat)) := hI.out.2.1.cell (by omega)
              go_wp2_with (refine wpList_store_row rfl 92 (.tmp 4) (.tmp 190) rfl (w.heap.size + 1) #[.int .u32 (((s 0 : Nat) + (rounds l s k 0 : Nat) : Int) % 4294967296), .int .u32 (((s 1 : Nat) + (rounds l s k 1 : Nat) : Int) % 4294967296), .int .u32 (((s 2 : Nat) + (rounds l s k 2 : Nat) : Int) % 4294967296), .int .u32 (((s 3 : Nat) + (rounds l s k 3 : Nat) : Int) % 4294967296), .int .u32 (((s 4 : Nat) + (rounds l s k 4 : Nat) : Int) % 4294967296), .int .u32 (((s 5 : Nat) + (rounds l s k 5 : Nat) : Int) % 4294967296), .int .u32 (((s 6 : Nat) + (rounds l s k 6 : Nat) : Int) % 4294967296), .int .u32 (((s 7 : Nat) + (rounds l s k 7 : Nat) : Int) % 4294967296)] rfl rfl 92 _ hI.out.2.2.1 (sz8 _ _ _ _ _ _ _ _) rfl (one8 _ _ _ _ _ _ _ _) ?_)
              have hE : (#[.int .u32 (((s 0 : Nat) + (rounds l s k 0 : Nat) : Int) % 4294967296), .int .u32 (((s 1 : Nat) + (rounds l s k 1 : Nat) : Int) % 4294967296), .int .u32 (((s 2 : Nat) + (rounds l s k 2 : Nat) : Int) % 4294967296), .int .u32 (((s 3 : Nat) + (rounds l s k 3 : Nat) : Int) % 4294967296), .int .u32 (((s 4 : Nat) + (rounds l s k 4 : Nat) : Int) % 4294967296), .int .u32 (((s 5 : Nat) + (rounds l s k 5 : Nat) : Int) % 4294967296), .int .u32 (((s 6 : Nat) + (rounds l s k 6 : Nat) : Int) % 4294967296), .int .u32 (((s 7 : Nat) + (rounds l s k 7 : Nat) : Int) % 4294967296)] : Array Value) = #[.int .u32 (block s l 0 : Nat), .int .u32 (block s l 1 : Nat), .int .u32 (block s l 2 : Nat), .int .u32 (block s l 3 : Nat), .int .u32 (block s l 4 : Nat), .int .u32 (block s l 5 : Nat), .int .u32 (block s l 6 : Nat), .int .u32 (block s l 7 : Nat)] := by
                rw [addI, addI, addI, addI, addI, addI, addI, addI, E64.out]; rfl
              refine bodyPost_ret (results_cell_row rfl _ _ (w.heap.size + 1) 92 #[.int .u32 (((s 0 : Nat) + (rounds l s k 0 : Nat) : Int) % 4294967296), .int .u32 (((s 1 : Nat) + (rounds l s k 1 : Nat) : Int) % 4294967296), .int .u32 (((s 2 : Nat) + (rounds l s k 2 : Nat) : Int) % 4294967296), .int .u32 (((s 3 : Nat) + (rounds l s k 3 : Nat) : Int) % 4294967296), .int .u32 (((s 4 : Nat) + (rounds l s k 4 : Nat) : Int) % 4294967296), .int .u32 (((s 5 : Nat) + (rounds l s k 5 : Nat) : Int) % 4294967296), .int .u32 (((s 6 : Nat) + (rounds l s k 6 : Nat) : Int) % 4294967296), .int .u32 (((s 7 : Nat) + (rounds l s k 7 : Nat) : Int) % 4294967296)] (0, 0) _ rfl (setRow_heap wz (w.heap.size + 1) _ _ _ _ hI.out.2.2.1) Tryd.underlying92 rfl (sz8 _ _ _ _ _ _ _ _)) rfl ?_
              exact ⟨by rw [hE], below_setRow hI.out.2.2.2 (by omega) _⟩
end Go.Proofs.YtgcmbiegbclhmaaDoor
namespace Go.Proofs.YtgcmbiegbclhmaaDoor
open Go.RowKit SzSha
set_option linter.unusedVariables false
set_option maxRecDepth 100000
theorem OwnB.empty (w : World) (base : Nat) (hb : base ≤ w.heap.size) : OwnB (w.alloc (.cells #[] 5)) base (.slice (some ⟨w.heap.size, 0, none⟩) 0 0) [] :=
  ⟨rfl, .inr ⟨w.heap.size, 0, #[], rfl, hb, heap_alloc_new w _, Nat.le_refl _, by simp, rfl, rfl⟩⟩
theorem one_rd (W : World) (x : Nat) : Rd (W.alloc (.cells #[.int .u8 (x : Nat)] 5)) (W.alloc (.cells #[.int .u8 (x : Nat)] 5)).heap.size (some ⟨W.heap.size, 0, none⟩) [x] := fun _ =>
  ⟨_, 0, rfl, by simp, fun i hi => by
    have : i = 0 := by simpa using hi
    subst this
    rw [Nat.add_zero, cell_of_row _ _ _ _ _ _ (heap_alloc_new W _)]; rfl⟩
theorem OwnB.alloc {w : World} {base : Nat} {v : Value} {l : List Nat} (h : OwnB w base v l) (o : Obj) : OwnB (w.alloc o) base v l := h.below ((Below.refl _ _).alloc (Nat.le_refl _) _)
theorem be_take (n j : Nat) (h : j < 8) : (be n 8).take (j + 1) = (be n 8).take j ++ [n / 256 ^ (7 - j) % 256] := by
  rw [List.take_succ_eq_append_getElem (by rw [be_length]; exact h)]
  congr 2
  simp [be]
theorem zeros_iff (n j : Nat) (h : j ≤ zeros n) : (n + 1 + j) % 64 = 56 ↔ j = zeros n := by unfold zeros at *; omega
theorem byte_be (n j : Nat) (h : j < 8) : ((n : Nat) : Int) / 2 ^ (8 * (7 - j)) % 256 = ((n / 256 ^ (7 - j) % 256 : Nat) : Int) := by
  show ((n / 2 ^ (8 * (7 - j)) % 256 : Nat) : Int) = _
  rw [Nat.pow_mul]
set_option maxHeartbeats 2000000 in
set_option maxRecDepth 100000 in
theorem padded_any (A : Option Addr) (n c : Nat) (l : List Nat) (w : World) (hn : Hid (l.length = n)) (hc : n ≤ c) (hA : A = none → c = 0) (hsz : n ≤ 4294967296) (hR : Hid (Rd w w.heap.size A l)) :
    Calls Tryd.prog 61 #[.slice A n c] w fun e w' => ∃ v, e = .returned v ∧ OwnB w' w.heap.size v (padded l) ∧ Below w.heap.size w w' := by
  have HA := Lib.hid hA
  clear hA
  have hb0 : Below w.heap.size w (w.alloc (.cells #[] 5)) := (Below.refl _ _).alloc (Nat.le_refl _) _
  have HB0 := Lib.hid hb0
  have HO0 := Lib.hid (OwnB.empty w w.heap.size (Nat.le_refl _))
  have HR0 : Hid (Rd (w.alloc (.cells #[] 5)) (w.alloc (.cells #[] 5)).heap.size A l) := Lib.hid ((hR.out.below hb0 (Nat.le_refl _)).mono (by simp))
  clear hb0
  obtain ⟨N8, H8, e8⟩ : ∃ N8 : Nat, Hid (N8 = 8 * n) ∧ (n : Int) * 8 = (N8 : Int) := ⟨8 * n, Lib.hid rfl, by omega⟩
  have hN8 : N8 ≤ 34359738368 := by have := H8.out; omega
  go_enter Tryd.func61, Tryd.ntmps61
  go_wp2_with (first
    | (at_builtin; refine wpList_append_bytes rfl (.tmp 6) (.tmp 7) rfl w.heap.size _ [] l rfl HO0 A n c rfl hn HA.out HR0 (by simp; omega) HB0.out.size ?_; intro v1 w1 HO1 HB1; have HB2 := Lib.hid (HB0.out.trans HB1.out); have HO2 := Lib.hid (HO1.out.alloc (.cells #[.int .u8 128] 5)); have HB3 := Lib.hid (HB2.out.alloc HB2.out.size (.cells #[.int .u8 128] 5)); have HR1 := Lib.hid (one_rd w1 128))
    | (at_builtin; refine wpList_append_bytes rfl (.tmp 8) (.tmp 9) rfl w.heap.size _ ([] ++ l) [128] rfl HO2 (some ⟨w1.heap.size, 0, none⟩) 1 1 rfl (Lib.hid rfl) (fun h => by cases h) HR1 (by simp [hn.out]; omega) HB3.out.size ?_; intro v2 w2 HO3 HB4))
  have HB5 := Lib.hid (HB3.out.trans HB4.out)
  have HO4 : Hid (OwnB w2 w.heap.size v2 (l ++ 128 :: List.replicate 0 0)) := Lib.hid (by have := HO3.out; simpa using this)
  clear HO0 HB0 HR0 HO1 HB1 HB2 HO2 HB3 HR1 HO3 HB4
  go_loopw [3] (fun v wr => ∃ j : Nat, j ≤ zeros n ∧ Hid (OwnB wr w.heap.size v (l ++ 128 :: List.replicate j 0)) ∧ Hid (Below w.heap.size w wr)) (fun v _ => n + 1 + zeros n - lenOf v)
  case atStart => exact ⟨0, by omega, HO4, HB5⟩
  case round =>
    clear HO4 HB5
    obtain ⟨j, hj, hO, hB⟩ := hrel
    obtain ⟨A1, m1, c1, rfl, hm1, hc1, hA1, HR1⟩ := hO.out.slice
    have hmj : m1 = n + 1 + j := by rw [← hm1.out]; simp [hn.out]; omega
    have hz63 : zeros n < 64 := Nat.mod_lt _ (by omega)
    have hmb : m1 ≤ 4294967400 := by omega
    by_cases he : j = zeros n
    · have t1 : (((m1 : Int) % 64) != 56) = false := by
        have := (zeros_iff n j hj).2 he
        simp only [bne_eq_false_iff_eq]; omega
      have HO5 : Hid (OwnB wr w.heap.size (.slice A1 m1 c1) ((l ++ 128 :: List.replicate (zeros n) 0) ++ (be N8 8).take 0)) := Lib.hid (by rw [List.take_zero, List.append_nil, ← he]; exact hO.out)
      have HMJ := Lib.hid hmj
      clear hmj he
      go_wp2_with fail
      go_loopw [3, 5] (fun v i wr => ∃ t : Nat, t ≤ 8 ∧ i = .int .i64 (7 - (t : Int)) ∧ Hid (OwnB wr w.heap.size v ((l ++ 128 :: List.replicate (zeros n) 0) ++ (be N8 8).take t)) ∧ Hid (Below w.heap.size w wr)) (fun _ i _ => (intOf i + 1).toNat)
      case atStart => exact ⟨0, by omega, rfl, HO5, hB⟩
      case round =>
        clear HO5 hB hO HR1
        rename World => wr
        obtain ⟨t, ht, rfl, hO, hB⟩ := hrel
        by_cases hl8 : t < 8
        · obtain ⟨sh, hsh⟩ : ∃ sh : Nat, (7 : Int) - (t : Int) = (sh : Int) := ⟨7 - t, by omega⟩
          have HSH := Lib.hid hsh
          rw [hsh]
          have hs7 : sh ≤ 7 := by omega
          have hsn : sh = 7 - t := by omega
          obtain ⟨x, HX⟩ : ∃ x : Nat, Hid (N8 / 256 ^ (7 - t) % 256 = x) := ⟨_, Lib.hid rfl⟩
          have hx : (N8 : Int) / 2 ^ (8 * sh) % 256 = (x : Int) := by rw [hsn, byte_be N8 t hl8, HX.out]
          have hlen : ((l ++ 128 :: List.replicate (zeros n) 0) ++ (be N8 8).take t).length + 1 ≤ 1099511627776 := by
            simp [hn.out, be_length]; omega
          have HB1 := Lib.hid (hB.out.alloc hB.out.size (.cells #[.int .u8 (x : Nat)] 5))
          have HO1 := Lib.hid (hO.out.alloc (.cells #[.int .u8 (x : Nat)] 5))
          clear hsh hsn
          go_wp2_with (at_builtin; refine wpList_append_bytes rfl (.tmp 26) (.tmp 32) rfl w.heap.size _ _ [x] rfl HO1 (some ⟨wr.heap.size, 0, none⟩) 1 1 rfl (Lib.hid rfl) (fun h => by cases h) (Lib.hid (one_rd wr x)) hlen HB1.out.size ?_; intro v2 w2 HO2 HB2)
          go_roundw
          case rel =>
            refine ⟨t + 1, by omega, by have := HSH.out; go_num, Lib.hid ?_, Lib.hid (HB1.out.trans HB2.out)⟩
            rw [be_take N8 t hl8, HX.out, ← List.append_assoc]; exact HO2.out
          case measure => have := HSH.out; simp [intOf]
        · have hO8 : Hid (OwnB wr w.heap.size _ (padded l)) := Lib.hid (by
            have := hO.out
            have e8 : (be N8 8).take 8 = be N8 8 := List.take_of_length_le (by rw [be_length]; omega)
            rw [show t = 8 by omega, e8, H8.out] at this
            unfold padded tail
            rw [hn.out]
            simpa using this)
          have ht8 : (7 : Int) - (t : Int) = -1 := by omega
          rw [ht8]
          go_wp2_with fail
          go_ret
          exact ⟨_, rfl, hO8.out, hB.out⟩
    · have t1 : (((m1 : Int) % 64) != 56) = true := by
        have : ¬ (n + 1 + j) % 64 = 56 := fun h => he ((zeros_iff n j hj).1 h)
        simp only [bne_iff_ne]; omega
      have HB1 := Lib.hid (hB.out.alloc hB.out.size (.cells #[.int .u8 0] 5))
      have HO1 := Lib.hid (hO.out.alloc (.cells #[.int .u8 0] 5))
      have hlen : (l ++ 128 :: List.replicate j 0).length + 1 ≤ 1099511627776 := by rw [hm1.out]; omega
      have HMJ := Lib.hid hmj
      have hm2 : m1 < n + 1 + zeros n := by omega
      clear hmj
      go_wp2_with (at_builtin; refine wpList_append_bytes rfl (.tmp 15) (.tmp 16) rfl w.heap.size _ _ [0] rfl HO1 (some ⟨wr.heap.size, 0, none⟩) 1 1 rfl (Lib.hid rfl) (fun h => by cases h) (Lib.hid (one_rd wr 0)) hlen HB1.out.size ?_; intro v2 w2 HO2 HB2)
      have HO3 : Hid (OwnB w2 w.heap.size v2 (l ++ 128 :: List.replicate (j + 1) 0)) := Lib.hid (by
        have := HO2.out
        rw [List.append_assoc, List.cons_append, ← List.replicate_succ'] at this
        exact this)
      have hlv : Hid (lenOf v2 = n + 1 + (j + 1)) := Lib.hid (by
        obtain ⟨A3, n3, c3, rfl, hn3, _⟩ := HO3.out.slice
        show n3 = _
        rw [← hn3.out]; simp [hn.out]; omega)
      go_roundw
      case rel => exact ⟨j + 1, by omega, HO3, Lib.hid (HB1.out.trans HB2.out)⟩
      case measure => show n + 1 + zeros n - lenOf v2 < n + 1 + zeros n - m1; rw [hlv.out]; have := HMJ.out; omega
end Go.Proofs.YtgcmbiegbclhmaaDoor
namespace Go.Proofs.YtgcmbiegbclhmaaDoor
open Go.RowKit SzSha
set_option linter.unusedVariables false
set_option maxRecDepth 100000
theorem OwnB.at {w : World} {base : Nat} {v : Value} {l : List Nat} (h : OwnB w base v l) (hl : 0 < l.length) : ∃ g c, v = .slice (some ⟨g, 0, none⟩) l.length c ∧ l.length ≤ c ∧ base ≤ g ∧ g < w.heap.size ∧ BytesAt w g 0 l := by
  rcases h.2 with ⟨rfl, h0⟩ | ⟨g, cap, cur, rfl, hb, hh, hc, hm, hs, ht⟩
  · omega
  · refine ⟨g, cap, rfl, hc, hb, (Array.getElem?_eq_some_iff.1 hh).1, fun i hi => ?_⟩
    rw [Nat.zero_add, cell_of_row w g i cur _ _ hh]
    have h1 : (cur.toList.take (l.length * 1))[i]? = cur[i]? := by rw [List.getElem?_take_of_lt (by omega)]; simp
    rw [← h1, ht, List.getElem?_map, List.getElem?_eq_getElem hi, List.getD_eq_getElem?_getD, List.getElem?_eq_getElem hi]
    rfl
def outG (F : Nat → Nat) (k j : Nat) : Value := .int .u8 ((if j < k then out F j else 0 : Nat))
theorem outG_set (F : Nat → Nat) (k : Nat) : (fun j => if j = k then Value.int .u8 (out F k : Nat) else outG F k j) = outG F (k + 1) := by
  funext j
  unfold outG
  by_cases e : j = k
  · rw [if_pos e, if_pos (by omega), e]
  · rw [if_neg e]
    by_cases e2 : j < k
    · rw [if_pos e2, if_pos (by omega)]
    · rw [if_neg e2, if_neg (by omega)]
theorem outG_arr (l : List Nat) : ((List.range 32).map (outG (fin l) 32)).toArray = ((sha l).map fun x => Value.int .u8 (x : Nat)).toArray := by
  unfold sha
  rw [List.map_map]
  congr 1
theorem out_walk (x i r : Nat) (hr : r < 4) : ((x : Nat) : Int) / 2 ^ (24 - 8 * r) % 256 = ((x / 256 ^ (3 - r) % 256 : Nat) : Int) := by
  show ((x / 2 ^ (24 - 8 * r) % 256 : Nat) : Int) = _
  rw [show 24 - 8 * r = 8 * (3 - r) by omega, Nat.pow_mul]
theorem row_zero32 (W : World) (F : Nat → Nat) (t : TypeId) : (W.alloc (.cells #[.int .u8 0, .int .u8 0, .int .u8 0, .int .u8 0, .int .u8 0, .int .u8 0, .int .u8 0, .int .u8 0, .int .u8 0, .int .u8 0, .int .u8 0, .int .u8 0, .int .u8 0, .int .u8 0, .int .u8 0, .int .u8 0, .int .u8 0, .int .u8 0, .int .u8 0, .int .u8 0, .int .u8 0, .int .u8 0, .int .u8 0, .int .u8 0, .int .u8 0, .int .u8 0, .int .u8 0, .int .u8 0, .int .u8 0, .int .u8 0, .int .u8 0, .int .u8 0] t)).rowIs W.heap.size t 32 (outG F 0) := World.rowIs_alloc W _ t _ (fun i hi => by
    have : ∀ j : Fin 32, (Array.replicate 32 (Value.int .u8 0))[j.val]? = some (outG F 0 j.val) := fun j => by simp [outG]
    exact this ⟨i, hi⟩)
theorem row_hf (W : World) (t : TypeId) : (W.alloc (.cells #[.int .u32 1779033703, .int .u32 3144134277, .int .u32 1013904242, .int .u32 2773480762, .int .u32 1359893119, .int .u32 2600822924, .int .u32 528734635, .int .u32 1541459225] t)).rowIs W.heap.size t 8 (stF hf) := row8 W hf t
theorem arr8 {w : World} {g t : Nat} {v : Nat → Nat} (h : w.rowIs g t 8 (stF v)) : w.heap[g]? = some (.cells #[.int .u32 (v 0 : Nat), .int .u32 (v 1 : Nat), .int .u32 (v 2 : Nat), .int .u32 (v 3 : Nat), .int .u32 (v 4 : Nat), .int .u32 (v 5 : Nat), .int .u32 (v 6 : Nat), .int .u32 (v 7 : Nat)] t (0, 0)) := rowIs_arr h
theorem row_set8 {w : World} {g t : Nat} {c : Array Value} (h : w.heap[g]? = some (.cells c t (0, 0))) (v : Nat → Nat) : (w.setRow g #[.int .u32 (v 0 : Nat), .int .u32 (v 1 : Nat), .int .u32 (v 2 : Nat), .int .u32 (v 3 : Nat), .int .u32 (v 4 : Nat), .int .u32 (v 5 : Nat), .int .u32 (v 6 : Nat), .int .u32 (v 7 : Nat)]).rowIs g t 8 (stF v) :=
  ⟨#[.int .u32 (v 0 : Nat), .int .u32 (v 1 : Nat), .int .u32 (v 2 : Nat), .int .u32 (v 3 : Nat), .int .u32 (v 4 : Nat), .int .u32 (v 5 : Nat), .int .u32 (v 6 : Nat), .int .u32 (v 7 : Nat)], setRow_heap w g _ _ _ _ h, rfl, fun i hi => by
    have hi' : i < 8 := hi
    match i, hi' with
    | 0, _ => rfl
    | 1, _ => rfl
    | 2, _ => rfl
    | 3, _ => rfl
    | 4, _ => rfl
    | 5, _ => rfl
    | 6, _ => rfl
    | 7, _ => rfl⟩
theorem sz88 (a0 a1 a2 a3 a4 a5 a6 a7 b0 b1 b2 b3 b4 b5 b6 b7 : Value) : (#[a0, a1, a2, a3, a4, a5, a6, a7]).size = (#[b0, b1, b2, b3, b4, b5, b6, b7]).size := rfl
theorem bytesAt_set {w : World} {g gp off : Nat} {l : List Nat} (c : Array Value) (h : BytesAt w gp off l) (hne : gp ≠ g) : BytesAt (w.setRow g c) gp off l := fun i hi =>
  (World.cell?_of_block (setRow_other w g gp c hne)).trans (h i hi)
theorem bytesAt_below {w w' : World} {B gp off : Nat} {l : List Nat} (h : BytesAt w gp off l) (hb : Below B w w') (hg : gp < B) : BytesAt w' gp off l := fun i hi => (hb.cell (p := ⟨gp, off + i, none⟩) hg).trans (h i hi)
set_option maxHeartbeats 2000000 in
set_option maxRecDepth 100000 in
theorem rsum2_any (A : Option Addr) (n c : Nat) (l : List Nat) (w : World) (hn : Hid (l.length = n)) (hc : n ≤ c) (hA : A = none → c = 0) (hsz : n ≤ 4294967296) (hb : Hid (Bytes l)) (hR : Hid (Rd w w.heap.size A l)) :
    Calls Tryd.prog 52 #[.slice A n c] w fun e w' => e = .returned (dgV (sha l)) ∧ Below w.heap.size w w' := by
  have hB0 : Below w.heap.size w ((w.alloc (.cells #[.int .u8 0, .int .u8 0, .int .u8 0, .int .u8 0, .int .u8 0, .int .u8 0, .int .u8 0, .int .u8 0, .int .u8 0, .int .u8 0, .int .u8 0, .int .u8 0, .int .u8 0, .int .u8 0, .int .u8 0, .int .u8 0, .int .u8 0, .int .u8 0, .int .u8 0, .int .u8 0, .int .u8 0, .int .u8 0, .int .u8 0, .int .u8 0, .int .u8 0, .int .u8 0, .int .u8 0, .int .u8 0, .int .u8 0, .int .u8 0, .int .u8 0, .int .u8 0] 24)).alloc (.cells #[.int .u32 1779033703, .int .u32 3144134277, .int .u32 1013904242, .int .u32 2773480762, .int .u32 1359893119, .int .u32 2600822924, .int .u32 528734635, .int .u32 1541459225] 92)) := ((Below.refl _ w).alloc (Nat.le_refl _) _).alloc (by simp) _
  have hs0 := row_hf (w.alloc (.cells #[.int .u8 0, .int .u8 0, .int .u8 0, .int .u8 0, .int .u8 0, .int .u8 0, .int .u8 0, .int .u8 0, .int .u8 0, .int .u8 0, .int .u8 0, .int .u8 0, .int .u8 0, .int .u8 0, .int .u8 0, .int .u8 0, .int .u8 0, .int .u8 0, .int .u8 0, .int .u8 0, .int .u8 0, .int .u8 0, .int .u8 0, .int .u8 0, .int .u8 0, .int .u8 0, .int .u8 0, .int .u8 0, .int .u8 0, .int .u8 0, .int .u8 0, .int .u8 0] 24)) 92
  have hd0 : ((w.alloc (.cells #[.int .u8 0, .int .u8 0, .int .u8 0, .int .u8 0, .int .u8 0, .int .u8 0, .int .u8 0, .int .u8 0, .int .u8 0, .int .u8 0, .int .u8 0, .int .u8 0, .int .u8 0, .int .u8 0, .int .u8 0, .int .u8 0, .int .u8 0, .int .u8 0, .int .u8 0, .int .u8 0, .int .u8 0, .int .u8 0, .int .u8 0, .int .u8 0, .int .u8 0, .int .u8 0, .int .u8 0, .int .u8 0, .int .u8 0, .int .u8 0, .int .u8 0, .int .u8 0] 24)).alloc (.cells #[.int .u32 1779033703, .int .u32 3144134277, .int .u32 1013904242, .int .u32 2773480762, .int .u32 1359893119, .int .u32 2600822924, .int .u32 528734635, .int .u32 1541459225] 92)).heap[w.heap.size]? = some (.cells #[.int .u8 0, .int .u8 0, .int .u8 0, .int .u8 0, .int .u8 0, .int .u8 0, .int .u8 0, .int .u8 0, .int .u8 0, .int .u8 0, .int .u8 0, .int .u8 0, .int .u8 0, .int .u8 0, .int .u8 0, .int .u8 0, .int .u8 0, .int .u8 0, .int .u8 0, .int .u8 0, .int .u8 0, .int .u8 0, .int .u8 0, .int .u8 0, .int .u8 0, .int .u8 0, .int .u8 0, .int .u8 0, .int .u8 0, .int .u8 0, .int .u8 0, .int .u8 0] 24 (0, 0)) := (Below.heap_alloc _ _ _ (by simp)).trans (heap_alloc_new w _)
  rw [World.size_alloc] at hs0
  have HB0 := Lib.hid hB0
  have HS0 := Lib.hid hs0
  have HD0 := Lib.hid hd0
  have HR0 := Lib.hid ((hR.out.below hB0 (Nat.le_refl _)).mono hB0.size)
  have hsz0 : ((w.alloc (.cells #[.int .u8 0, .int .u8 0, .int .u8 0, .int .u8 0, .int .u8 0, .int .u8 0, .int .u8 0, .int .u8 0, .int .u8 0, .int .u8 0, .int .u8 0, .int .u8 0, .int .u8 0, .int .u8 0, .int .u8 0, .int .u8 0, .int .u8 0, .int .u8 0, .int .u8 0, .int .u8 0, .int .u8 0, .int .u8 0, .int .u8 0, .int .u8 0, .int .u8 0, .int .u8 0, .int .u8 0, .int .u8 0, .int .u8 0, .int .u8 0, .int .u8 0, .int .u8 0] 24)).alloc (.cells #[.int .u32 1779033703, .int .u32 3144134277, .int .u32 1013904242, .int .u32 2773480762, .int .u32 1359893119, .int .u32 2600822924, .int .u32 528734635, .int .u32 1541459225] 92)).heap.size = w.heap.size + 2 := by simp
  have HZ0 := Lib.hid hsz0
  clear hB0 hs0 hd0 hsz0
  go_enter Tryd.func52, Tryd.ntmps52
  go_wp2_with fail
  refine (padded_any A n c l _ hn hc hA hsz HR0).mono ?_
  rintro e w1 ⟨v, rfl, ho1, hb1⟩
  have hpl : 0 < (padded l).length := by unfold padded tail; simp; omega
  obtain ⟨gp, cp, rfl, hcp, hgb, hgp, hby⟩ := ho1.at hpl
  rw [HZ0.out] at hgb hb1
  obtain ⟨L, HL'⟩ : ∃ L, Hid ((padded l).length = L) := ⟨_, Lib.hid rfl⟩
  rw [HL'.out] at hcp hpl ⊢
  have hL64 : Hid (L = 64 * (L / 64)) := Lib.hid (by rw [← HL'.out]; exact padded_length l)
  have hLb : L ≤ 4294967500 := by
    rw [← HL'.out]; unfold padded; rw [List.length_append, tail_length, hn.out]
    have : zeros n < 64 := Nat.mod_lt _ (by omega)
    omega
  have HBY := Lib.hid hby
  have HB1 : Hid (Below w.heap.size w w1) := Lib.hid (HB0.out.trans (hb1.mono (by omega)))
  have HS1 : Hid (w1.rowIs (w.heap.size + 1) 92 8 (stF (blocks 0 hf (padded l)))) := Lib.hid (rowIs_below HS0.out hb1 (by omega))
  have HD1 : Hid (w1.heap[w.heap.size]? = some (.cells #[.int .u8 0, .int .u8 0, .int .u8 0, .int .u8 0, .int .u8 0, .int .u8 0, .int .u8 0, .int .u8 0, .int .u8 0, .int .u8 0, .int .u8 0, .int .u8 0, .int .u8 0, .int .u8 0, .int .u8 0, .int .u8 0, .int .u8 0, .int .u8 0, .int .u8 0, .int .u8 0, .int .u8 0, .int .u8 0, .int .u8 0, .int .u8 0, .int .u8 0, .int .u8 0, .int .u8 0, .int .u8 0, .int .u8 0, .int .u8 0, .int .u8 0, .int .u8 0] 24 (0, 0))) := Lib.hid ((hb1.block _ (by omega)).trans HD0.out)
  clear ho1 hb1 hby HB0 HS0 HD0 HR0 HZ0
  go_wp2_with fail
  go_loopw [5] (fun i wr => ∃ k : Nat, 64 * k ≤ L ∧ i = .int .i64 ((64 * k : Nat) : Int) ∧ gp < wr.heap.size ∧ Hid (BytesAt wr gp 0 (padded l)) ∧ Hid (wr.rowIs (w.heap.size + 1) 92 8 (stF (blocks k hf (padded l)))) ∧ Hid (wr.heap[w.heap.size]? = some (.cells #[.int .u8 0, .int .u8 0, .int .u8 0, .int .u8 0, .int .u8 0, .int .u8 0, .int .u8 0, .int .u8 0, .int .u8 0, .int .u8 0, .int .u8 0, .int .u8 0, .int .u8 0, .int .u8 0, .int .u8 0, .int .u8 0, .int .u8 0, .int .u8 0, .int .u8 0, .int .u8 0, .int .u8 0, .int .u8 0, .int .u8 0, .int .u8 0, .int .u8 0, .int .u8 0, .int .u8 0, .int .u8 0, .int .u8 0, .int .u8 0, .int .u8 0, .int .u8 0] 24 (0, 0))) ∧ Hid (Below w.heap.size w wr)) (fun i _ => L - (intOf i).toNat)
  case atStart => exact ⟨0, by omega, rfl, hgp, HBY, HS1, HD1, HB1⟩
  case round =>
    clear hgp HBY HS1 HD1 HB1
    obtain ⟨k, hk, rfl, hgp, hBy, hS, hD, hB⟩ := hrel
    by_cases hlt : 64 * k < L
    · have hfit : 64 * k + 64 ≤ L := by have := hL64.out; omega
      obtain ⟨m, hm⟩ : ∃ m, m = 64 * k := ⟨_, rfl⟩
      have HM := Lib.hid hm
      rw [← hm] at hlt hfit hk ⊢
      have dl : decide ((m : Int) < (L : Int)) = true := decide_eq_true (by omega)
      obtain ⟨m2, hm2⟩ : ∃ m2, m2 = m + 64 := ⟨_, rfl⟩
      have e64 : IntKind.i64.wrap ((m : Int) + 64) = (m2 : Int) := by rw [IntWalk.i64_in _ (by omega)]; omega
      have i1 : (0 : Int) ≤ (m : Int) := by omega
      have i2 : (m : Int) ≤ (m2 : Int) := by omega
      have i3 : (m2 : Int) ≤ (cp : Int) := by omega
      have i4 : m ≤ m2 := by omega
      have i5 : m2 ≤ cp := by omega
      have i6 : m2 - m = 64 := by omega
      have i7 : (cp == m) = false := by simp; omega
      have i8 : ¬ cp = m := by omega
      have HM2 := Lib.hid hm2
      clear hm hm2
      go_wp2_with fail
      refine wp_region_still_tail 6 (by kernel_rfl) (by kernel_rfl) ?_
      change wpStill _ _ wr.drew (fun a' => wpList _ _ _ _ a' wr.drew) _ _
      have hgp2 : gp < wr.drew.heap.size := hgp
      have hBy2 : Hid (BytesAt wr.drew gp 0 (padded l)) := hBy
      have hS2 : Hid (wr.drew.rowIs (w.heap.size + 1) 92 8 (stF (blocks k hf (padded l)))) := hS
      have hD2 : Hid (wr.drew.heap[w.heap.size]? = some (.cells #[.int .u8 0, .int .u8 0, .int .u8 0, .int .u8 0, .int .u8 0, .int .u8 0, .int .u8 0, .int .u8 0, .int .u8 0, .int .u8 0, .int .u8 0, .int .u8 0, .int .u8 0, .int .u8 0, .int .u8 0, .int .u8 0, .int .u8 0, .int .u8 0, .int .u8 0, .int .u8 0, .int .u8 0, .int .u8 0, .int .u8 0, .int .u8 0, .int .u8 0, .int .u8 0, .int .u8 0, .int .u8 0, .int .u8 0, .int .u8 0, .int .u8 0, .int .u8 0] 24 (0, 0))) := hD
      have hB2 : Hid (Below w.heap.size w wr.drew) := Lib.hid hB.out.drew
      generalize wr.drew = w2 at *
      clear hgp hBy hS hD hB
      have s0 : w2.cell? ⟨w.heap.size + 1, 0, none⟩ = some (.int .u32 (blocks k hf (padded l) 0 : Nat)) := hS2.out.cell (by omega)
      have s1 : w2.cell? ⟨w.heap.size + 1, 1, none⟩ = some (.int .u32 (blocks k hf (padded l) 1 : Nat)) := hS2.out.cell (by omega)
      have s2 : w2.cell? ⟨w.heap.size + 1, 2, none⟩ = some (.int .u32 (blocks k hf (padded l) 2 : Nat)) := hS2.out.cell (by omega)
      have s3 : w2.cell? ⟨w.heap.size + 1, 3, none⟩ = some (.int .u32 (blocks k hf (padded l) 3 : Nat)) := hS2.out.cell (by omega)
      have s4 : w2.cell? ⟨w.heap.size + 1, 4, none⟩ = some (.int .u32 (blocks k hf (padded l) 4 : Nat)) := hS2.out.cell (by omega)
      have s5 : w2.cell? ⟨w.heap.size + 1, 5, none⟩ = some (.int .u32 (blocks k hf (padded l) 5 : Nat)) := hS2.out.cell (by omega)
      have s6 : w2.cell? ⟨w.heap.size + 1, 6, none⟩ = some (.int .u32 (blocks k hf (padded l) 6 : Nat)) := hS2.out.cell (by omega)
      have s7 : w2.cell? ⟨w.heap.size + 1, 7, none⟩ = some (.int .u32 (blocks k hf (padded l) 7 : Nat)) := hS2.out.cell (by omega)
      simp only [List.take_succ_cons, List.take_zero, List.drop_succ_cons, List.drop_zero]
      repeat still_step
      refine wpStill_nil ?_
      go_wp2_with fail
      have HBl : Hid (BytesAt w2 gp m (((padded l).drop m).take 64)) := Lib.hid fun i hi => by
        have hi64 : i < 64 := by rw [List.length_take] at hi; omega
        have := hBy2.out (m + i) (by rw [HL'.out]; omega)
        rw [Nat.zero_add] at this
        rw [this, List.getD_eq_getElem?_getD, List.getD_eq_getElem?_getD, List.getElem?_take_of_lt hi64, List.getElem?_drop]
      refine (rblock_any gp m (cp - m) (blocks k hf (padded l)) (((padded l).drop m).take 64) _ (Lib.hid (by rw [List.length_take, List.length_drop, HL'.out]; omega)) (Lib.hid (bytes_take (bytes_drop (padded_bytes hb.out) _) _)) (Lib.hid (blocks_words _ _ hf_words)) (by omega) hgp2 HBl).mono ?_
      rintro e w3 ⟨rfl, hb3⟩
      have hsl2 := hS2.out.lt
      have hS3 := Lib.hid (arr8 (rowIs_below hS2.out hb3 hsl2))
      have hBy3 := Lib.hid (bytesAt_below hBy2.out hb3 hgp2)
      have hD3 := Lib.hid ((hb3.block w.heap.size (by omega)).trans hD2.out)
      have hB3 := Lib.hid (hB2.out.trans (hb3.mono hB2.out.size))
      have hgp3 : gp < w3.heap.size := Nat.lt_of_lt_of_le hgp2 hb3.size
      clear hb3 hS2 hBy2 hD2 hB2 hgp2 HBl s0 s1 s2 s3 s4 s5 s6 s7
      obtain ⟨vn, HVN⟩ : ∃ vn, Hid (block (blocks k hf (padded l)) (((padded l).drop m).take 64) = vn) := ⟨_, Lib.hid rfl⟩
      obtain ⟨vo, HVO⟩ : ∃ vo, Hid (blocks k hf (padded l) = vo) := ⟨_, Lib.hid rfl⟩
      rw [HVN.out]
      rw [HVO.out] at hS3 ⊢
      go_wp2_with (refine wpList_store_row rfl 92 (.tmp 3) (.tmp 23) rfl (w.heap.size + 1) #[.int .u32 (vn 0 : Nat), .int .u32 (vn 1 : Nat), .int .u32 (vn 2 : Nat), .int .u32 (vn 3 : Nat), .int .u32 (vn 4 : Nat), .int .u32 (vn 5 : Nat), .int .u32 (vn 6 : Nat), .int .u32 (vn 7 : Nat)] rfl rfl 92 _ hS3.out (sz8 _ _ _ _ _ _ _ _) (sz88 _ _ _ _ _ _ _ _ _ _ _ _ _ _ _ _) (one8 _ _ _ _ _ _ _ _) ?_)
      go_roundw
      case rel =>
        refine ⟨k + 1, by have := HM.out; omega, by have := HM.out; have := HM2.out; go_num, by simpa using hgp3, Lib.hid (bytesAt_set _ hBy3.out (by omega)), Lib.hid ?_, Lib.hid ((setRow_other _ _ _ _ (by omega)).trans hD3.out), Lib.hid (below_setRow hB3.out (by omega) _)⟩
        rw [blocks_snoc, ← HM.out, HVN.out]; exact row_set8 hS3.out _
      case measure => have := HM2.out; simp [intOf]; omega
    · have hfin : Hid (blocks k hf (padded l) = fin l) := Lib.hid (by unfold fin; rw [HL'.out]; congr 1; have := hL64.out; omega)
      have hS2 : Hid (wr.rowIs (w.heap.size + 1) 92 8 (stF (fin l))) := Lib.hid (by rw [← hfin.out]; exact hS.out)
      have hsl2 := hS2.out.lt
      obtain ⟨m, hm⟩ : ∃ m, m = 64 * k := ⟨_, rfl⟩
      rw [← hm] at hlt ⊢
      have dl : decide (m < L) = false := decide_eq_false hlt
      have hge : L ≤ m := by omega
      clear hm hS hfin hBy
      have hq := laid_row wr #[.int .u8 0, .int .u8 0, .int .u8 0, .int .u8 0, .int .u8 0, .int .u8 0, .int .u8 0, .int .u8 0, .int .u8 0, .int .u8 0, .int .u8 0, .int .u8 0, .int .u8 0, .int .u8 0, .int .u8 0, .int .u8 0, .int .u8 0, .int .u8 0, .int .u8 0, .int .u8 0, .int .u8 0, .int .u8 0, .int .u8 0, .int .u8 0, .int .u8 0, .int .u8 0, .int .u8 0, .int .u8 0, .int .u8 0, .int .u8 0, .int .u8 0, .int .u8 0] #[.int .u8 0, .int .u8 0, .int .u8 0, .int .u8 0, .int .u8 0, .int .u8 0, .int .u8 0, .int .u8 0, .int .u8 0, .int .u8 0, .int .u8 0, .int .u8 0, .int .u8 0, .int .u8 0, .int .u8 0, .int .u8 0, .int .u8 0, .int .u8 0, .int .u8 0, .int .u8 0, .int .u8 0, .int .u8 0, .int .u8 0, .int .u8 0, .int .u8 0, .int .u8 0, .int .u8 0, .int .u8 0, .int .u8 0, .int .u8 0, .int .u8 0, .int .u8 0] 24
      have HQ := Lib.hid hq
      clear hq
      go_wp2_with (refine wpList_store_row rfl 24 (.tmp 6) (.tmp 24) rfl wr.heap.size #[.int .u8 0, .int .u8 0, .int .u8 0, .int .u8 0, .int .u8 0, .int .u8 0, .int .u8 0, .int .u8 0, .int .u8 0, .int .u8 0, .int .u8 0, .int .u8 0, .int .u8 0, .int .u8 0, .int .u8 0, .int .u8 0, .int .u8 0, .int .u8 0, .int .u8 0, .int .u8 0, .int .u8 0, .int .u8 0, .int .u8 0, .int .u8 0, .int .u8 0, .int .u8 0, .int .u8 0, .int .u8 0, .int .u8 0, .int .u8 0, .int .u8 0, .int .u8 0] rfl rfl 24 _ (heap_alloc_new wr _) (by kernel_rfl) rfl (by decide +kernel) ?_)
      have hS3 : Hid (((wr.alloc (.cells #[.int .u8 0, .int .u8 0, .int .u8 0, .int .u8 0, .int .u8 0, .int .u8 0, .int .u8 0, .int .u8 0, .int .u8 0, .int .u8 0, .int .u8 0, .int .u8 0, .int .u8 0, .int .u8 0, .int .u8 0, .int .u8 0, .int .u8 0, .int .u8 0, .int .u8 0, .int .u8 0, .int .u8 0, .int .u8 0, .int .u8 0, .int .u8 0, .int .u8 0, .int .u8 0, .int .u8 0, .int .u8 0, .int .u8 0, .int .u8 0, .int .u8 0, .int .u8 0] 24)).setRow wr.heap.size #[.int .u8 0, .int .u8 0, .int .u8 0, .int .u8 0, .int .u8 0, .int .u8 0, .int .u8 0, .int .u8 0, .int .u8 0, .int .u8 0, .int .u8 0, .int .u8 0, .int .u8 0, .int .u8 0, .int .u8 0, .int .u8 0, .int .u8 0, .int .u8 0, .int .u8 0, .int .u8 0, .int .u8 0, .int .u8 0, .int .u8 0, .int .u8 0, .int .u8 0, .int .u8 0, .int .u8 0, .int .u8 0, .int .u8 0, .int .u8 0, .int .u8 0, .int .u8 0]).rowIs (w.heap.size + 1) 92 8 (stF (fin l))) := Lib.hid (rowIs_below hS2.out HQ.out.1 hsl2)
      have hD3 := Lib.hid ((HQ.out.1.block w.heap.size (by omega)).trans hD.out)
      have hB3 := Lib.hid (hB.out.trans (HQ.out.1.mono hB.out.size))
      have hO3 : Hid (((wr.alloc (.cells #[.int .u8 0, .int .u8 0, .int .u8 0, .int .u8 0, .int .u8 0, .int .u8 0, .int .u8 0, .int .u8 0, .int .u8 0, .int .u8 0, .int .u8 0, .int .u8 0, .int .u8 0, .int .u8 0, .int .u8 0, .int .u8 0, .int .u8 0, .int .u8 0, .int .u8 0, .int .u8 0, .int .u8 0, .int .u8 0, .int .u8 0, .int .u8 0, .int .u8 0, .int .u8 0, .int .u8 0, .int .u8 0, .int .u8 0, .int .u8 0, .int .u8 0, .int .u8 0] 24)).setRow wr.heap.size #[.int .u8 0, .int .u8 0, .int .u8 0, .int .u8 0, .int .u8 0, .int .u8 0, .int .u8 0, .int .u8 0, .int .u8 0, .int .u8 0, .int .u8 0, .int .u8 0, .int .u8 0, .int .u8 0, .int .u8 0, .int .u8 0, .int .u8 0, .int .u8 0, .int .u8 0, .int .u8 0, .int .u8 0, .int .u8 0, .int .u8 0, .int .u8 0, .int .u8 0, .int .u8 0, .int .u8 0, .int .u8 0, .int .u8 0, .int .u8 0, .int .u8 0, .int .u8 0]).rowIs wr.heap.size 24 32 (outG (fin l) 0)) := Lib.hid (row_same (row_zero32 wr (fin l) 24) (heap_alloc_new wr _))
      clear HQ hS2 hD hB
      go_loopw [7] (fun i wz => ∃ t : Nat, t ≤ 32 ∧ i = .int .i64 t ∧ Hid (wz.rowIs (w.heap.size + 1) 92 8 (stF (fin l))) ∧ Hid (wz.heap[w.heap.size]? = some (.cells #[.int .u8 0, .int .u8 0, .int .u8 0, .int .u8 0, .int .u8 0, .int .u8 0, .int .u8 0, .int .u8 0, .int .u8 0, .int .u8 0, .int .u8 0, .int .u8 0, .int .u8 0, .int .u8 0, .int .u8 0, .int .u8 0, .int .u8 0, .int .u8 0, .int .u8 0, .int .u8 0, .int .u8 0, .int .u8 0, .int .u8 0, .int .u8 0, .int .u8 0, .int .u8 0, .int .u8 0, .int .u8 0, .int .u8 0, .int .u8 0, .int .u8 0, .int .u8 0] 24 (0, 0))) ∧ Hid (wz.rowIs wr.heap.size 24 32 (outG (fin l) t)) ∧ Hid (Below w.heap.size w wz)) (fun i _ => 32 - (intOf i).toNat)
      case atStart => exact ⟨0, by omega, rfl, hS3, hD3, hO3, hB3⟩
      case round =>
        clear hS3 hD3 hO3 hB3
        rename World => wz
        obtain ⟨t, ht, rfl, hS3, hD3, hO3, hB3⟩ := hrel
        by_cases hlt2 : t < 32
        · have hF := fin_words l (t / 4) (by omega)
          have cs : wz.cell? ⟨w.heap.size + 1, t / 4, none⟩ = some (.int .u32 (fin l (t / 4) : Nat)) := hS3.out.cell (by omega)
          have co := hO3.out.cell (i := t) (by omega)
          have cf := hO3.out.frozen t
          have OW := Lib.hid (out_walk (fin l (t / 4)) t (t % 4) (by omega))
          go_wp2_with fail
          go_roundw
          case rel =>
            rw [OW.out]
            exact ⟨t + 1, by omega, by go_num, Lib.hid (hS3.out.setOther (a := ⟨wr.heap.size, t, none⟩) (by show w.heap.size + 1 ≠ wr.heap.size; omega) _), Lib.hid ((Below.heap_setCell wz ⟨wr.heap.size, t, none⟩ _ w.heap.size (by show w.heap.size ≠ wr.heap.size; omega)).trans hD3.out), Lib.hid (by rw [← outG_set]; exact hO3.out.set _ _), Lib.hid (hB3.out.setCell (p := ⟨wr.heap.size, t, none⟩) (by show w.heap.size ≤ wr.heap.size; omega) _)⟩
          case measure => simp [intOf]; omega
        · have dt : decide ((t : Int) < 32) = false := decide_eq_false (by omega)
          have hO32 : Hid (wz.heap[wr.heap.size]? = some (.cells ((sha l).map fun x => Value.int .u8 (x : Nat)).toArray 24 (0, 0))) := Lib.hid (by
            have := rowIs_arr hO3.out
            rw [show t = 32 by omega, outG_arr] at this
            exact this)
          have HOLD : Hid (32 = ((sha l).map fun x => Value.int .u8 (x : Nat)).toArray.size) := Lib.hid (by simp [sha_length])
          go_wp2_with (first | ((with_reducible refine wpList_load_row rfl 24 (.tmp 6) rfl wr.heap.size rfl 24 _ (0, 0) _ hO32.out Tryd.underlying24 rfl (size32 _ (sha_length _)) ?_)) | (refine wpList_store_row rfl 24 (.tmp 2) (.tmp 41) rfl w.heap.size ((sha l).map fun x => Value.int .u8 (x : Nat)).toArray rfl rfl 24 _ hD3.out (size32 _ (sha_length _)) HOLD.out (oneCells _) ?_))
          refine bodyPost_ret (results_cell_row rfl _ _ w.heap.size 24 _ (0, 0) _ rfl (setRow_heap wz w.heap.size _ _ _ _ hD3.out) Tryd.underlying24 rfl (size32 _ (sha_length _))) rfl ?_
          exact ⟨rfl, below_setRow hB3.out (Nat.le_refl _) _⟩
end Go.Proofs.YtgcmbiegbclhmaaDoor
namespace Go.Proofs.YtgcmbiegbclhmaaDoor
open Go.RowKit SzSha
set_option linter.unusedVariables false
set_option maxHeartbeats 2000000 in
set_option maxRecDepth 100000 in
theorem rtagged_any (tag : ByteArray) (A : Option Addr) (n c : Nat) (l : List Nat) (w : World) (htag : tag.size ≤ 4294967296) (hn : Hid (l.length = n)) (hc : n ≤ c) (hA : A = none → c = 0) (hsz : n ≤ 2147483648) (hb : Hid (Bytes l)) (hR : Hid (Rd w w.heap.size A l)) :
    Calls Tryd.prog 38 #[.string tag, .slice A n c] w fun e w' => e = .returned (dgV (tagged (strL tag) l)) ∧ Below w.heap.size w w' := by
  have HA := Lib.hid hA
  clear hA
  have hb0 : Below w.heap.size w (w.alloc (.cells #[.int .u8 0, .int .u8 0, .int .u8 0, .int .u8 0, .int .u8 0, .int .u8 0, .int .u8 0, .int .u8 0, .int .u8 0, .int .u8 0, .int .u8 0, .int .u8 0, .int .u8 0, .int .u8 0, .int .u8 0, .int .u8 0, .int .u8 0, .int .u8 0, .int .u8 0, .int .u8 0, .int .u8 0, .int .u8 0, .int .u8 0, .int .u8 0, .int .u8 0, .int .u8 0, .int .u8 0, .int .u8 0, .int .u8 0, .int .u8 0, .int .u8 0, .int .u8 0] 24)) := (Below.refl _ _).alloc (Nat.le_refl _) _
  obtain ⟨c0, W2, hconv, hc0, hbc, hlt2, hby⟩ := conv_bytes tag (w.alloc (.cells #[.int .u8 0, .int .u8 0, .int .u8 0, .int .u8 0, .int .u8 0, .int .u8 0, .int .u8 0, .int .u8 0, .int .u8 0, .int .u8 0, .int .u8 0, .int .u8 0, .int .u8 0, .int .u8 0, .int .u8 0, .int .u8 0, .int .u8 0, .int .u8 0, .int .u8 0, .int .u8 0, .int .u8 0, .int .u8 0, .int .u8 0, .int .u8 0, .int .u8 0, .int .u8 0, .int .u8 0, .int .u8 0, .int .u8 0, .int .u8 0, .int .u8 0, .int .u8 0] 24))
  have hbl0 : (w.alloc (.cells #[.int .u8 0, .int .u8 0, .int .u8 0, .int .u8 0, .int .u8 0, .int .u8 0, .int .u8 0, .int .u8 0, .int .u8 0, .int .u8 0, .int .u8 0, .int .u8 0, .int .u8 0, .int .u8 0, .int .u8 0, .int .u8 0, .int .u8 0, .int .u8 0, .int .u8 0, .int .u8 0, .int .u8 0, .int .u8 0, .int .u8 0, .int .u8 0, .int .u8 0, .int .u8 0, .int .u8 0, .int .u8 0, .int .u8 0, .int .u8 0, .int .u8 0, .int .u8 0] 24)).heap[w.heap.size]? = some (.cells #[.int .u8 0, .int .u8 0, .int .u8 0, .int .u8 0, .int .u8 0, .int .u8 0, .int .u8 0, .int .u8 0, .int .u8 0, .int .u8 0, .int .u8 0, .int .u8 0, .int .u8 0, .int .u8 0, .int .u8 0, .int .u8 0, .int .u8 0, .int .u8 0, .int .u8 0, .int .u8 0, .int .u8 0, .int .u8 0, .int .u8 0, .int .u8 0, .int .u8 0, .int .u8 0, .int .u8 0, .int .u8 0, .int .u8 0, .int .u8 0, .int .u8 0, .int .u8 0] 24 (0, 0)) := heap_alloc_new w _
  have hbl2 := Lib.hid ((hbc.block w.heap.size (by simp)).trans hbl0)
  have hb2 := Lib.hid (hb0.trans (hbc.mono (by simp)))
  simp only [World.size_alloc] at hconv hby hlt2
  have HBY := Lib.hid hby
  clear hb0 hbl0 hby hbc
  go_enter Tryd.func38, Tryd.ntmps38
  go_wp2_with fail
  refine (rsum2_any (some ⟨w.heap.size + 1, 0, none⟩) tag.size c0 (strL tag) _ (Lib.hid (strL_length tag)) hc0 (fun h => by cases h) htag (Lib.hid (strL_bytes tag)) (Lib.hid (fun _ => ⟨_, _, rfl, hlt2, HBY.out⟩))).mono ?_
  rintro e W3 ⟨rfl, hb3⟩
  have hbl3 := Lib.hid ((hb3.block w.heap.size (by omega)).trans hbl2.out)
  have HB3 := Lib.hid (hb2.out.trans (hb3.mono hb2.out.size))
  have hs3 : w.heap.size + 1 < W3.heap.size := Nat.lt_of_lt_of_le hlt2 hb3.size
  clear hb3 HBY hbl2 hb2 hconv
  have hold : ∀ m : List Nat, m.length = 32 → 32 = (m.map fun x => Value.int .u8 (x : Nat)).toArray.size := fun m h => by simp [h]
  have HOLD := Lib.hid hold
  clear hold
  have hq := laid_row W3 #[.int .u8 0, .int .u8 0, .int .u8 0, .int .u8 0, .int .u8 0, .int .u8 0, .int .u8 0, .int .u8 0, .int .u8 0, .int .u8 0, .int .u8 0, .int .u8 0, .int .u8 0, .int .u8 0, .int .u8 0, .int .u8 0, .int .u8 0, .int .u8 0, .int .u8 0, .int .u8 0, .int .u8 0, .int .u8 0, .int .u8 0, .int .u8 0, .int .u8 0, .int .u8 0, .int .u8 0, .int .u8 0, .int .u8 0, .int .u8 0, .int .u8 0, .int .u8 0] ((sha (strL tag)).map fun x => Value.int .u8 (x : Nat)).toArray 24
  have HQ := Lib.hid hq
  clear hq
  obtain ⟨W4, HW4⟩ : ∃ W4, Hid ((W3.alloc (.cells #[.int .u8 0, .int .u8 0, .int .u8 0, .int .u8 0, .int .u8 0, .int .u8 0, .int .u8 0, .int .u8 0, .int .u8 0, .int .u8 0, .int .u8 0, .int .u8 0, .int .u8 0, .int .u8 0, .int .u8 0, .int .u8 0, .int .u8 0, .int .u8 0, .int .u8 0, .int .u8 0, .int .u8 0, .int .u8 0, .int .u8 0, .int .u8 0, .int .u8 0, .int .u8 0, .int .u8 0, .int .u8 0, .int .u8 0, .int .u8 0, .int .u8 0, .int .u8 0] 24)).setRow W3.heap.size ((sha (strL tag)).map fun x => Value.int .u8 (x : Nat)).toArray = W4) := ⟨_, Lib.hid rfl⟩
  rw [HW4.out] at HQ
  have HO4 := Lib.hid (OwnB.empty W4 (w.heap.size + 1) (by have := HQ.out.2.1; omega))
  have HS5 : Hid (w.heap.size + 1 ≤ (W4.alloc (.cells #[] 5)).heap.size) := Lib.hid (by have := HQ.out.2.1; simp; omega)
  have HB4 := Lib.hid (HB3.out.trans (HQ.out.1.mono HB3.out.size))
  have HB5 := Lib.hid (HB4.out.alloc HB4.out.size (.cells #[] 5))
  have hd5 : Hid (Rd (W4.alloc (.cells #[] 5)) (W4.alloc (.cells #[] 5)).heap.size (some ⟨W3.heap.size, 0, none⟩) (sha (strL tag))) := Lib.hid (fun _ => ⟨_, _, rfl, by have := HQ.out.2.1; simp; omega, bytesAt_arr ((Below.heap_alloc W4 _ _ (by have := HQ.out.2.1; omega)).trans HQ.out.2.2)⟩)
  have hbl4 := Lib.hid ((HQ.out.1.block w.heap.size (by omega)).trans hbl3.out)
  have HR4 : Hid (∀ W6, Below w.heap.size (W4.alloc (.cells #[] 5)) W6 → Rd W6 W6.heap.size A l) := Lib.hid (fun W6 h => by
    have hh := HB5.out.trans h
    exact (hR.out.below hh (Nat.le_refl _)).mono hh.size)
  have hl32 := Lib.hid (sha_length (strL tag))
  have hapl : Hid ((([] : List Nat) ++ sha (strL tag)).length + n ≤ 1099511627776) := Lib.hid (by rw [List.nil_append, hl32.out]; omega)
  have hap0 : Hid (([] : List Nat).length + 32 ≤ 1099511627776) := Lib.hid (by simp)
  go_wp2_with (first
    | (refine wpList_store_row rfl 24 (.tmp 5) (.tmp 8) rfl W3.heap.size ((sha (strL tag)).map fun x => Value.int .u8 (x : Nat)).toArray rfl rfl 24 _ (heap_alloc_new W3 _) (size32 _ (sha_length _)) (HOLD.out _ (sha_length _)) (oneCells _) ?_; rw [HW4.out])
    | (at_builtin; refine wpList_append_bytes rfl (.tmp 9) (.tmp 10) rfl (w.heap.size + 1) _ [] (sha (strL tag)) rfl HO4 (some ⟨W3.heap.size, 0, none⟩) 32 32 rfl hl32 (fun h => by cases h) hd5 hap0.out HS5.out ?_; intro v1 W6 HO6 HB6; have HR6 := Lib.hid (HR4.out W6 (HB6.out.mono (Nat.le_succ _))); have HS6 := Lib.hid (Nat.le_trans HS5.out HB6.out.size))
    | (at_builtin; refine wpList_append_bytes rfl (.tmp 11) (.tmp 12) rfl (w.heap.size + 1) _ ([] ++ sha (strL tag)) l rfl HO6 A n c rfl hn HA.out HR6 hapl.out HS6.out ?_; intro v2 W7 HO7 HB7))
  have hB57 := HB6.out.trans HB7.out
  have hbl7 := Lib.hid ((hB57.block w.heap.size (Nat.lt_succ_self _)).trans (((Below.heap_alloc W4 _ _ (by have := HQ.out.2.1; omega))).trans hbl4.out))
  have HB8 := Lib.hid (HB5.out.trans (hB57.mono (Nat.le_succ _)))
  have hs7 : w.heap.size < W7.heap.size := by have := HB7.out.size; have := HS6.out; omega
  have ho7 : OwnB W7 (w.heap.size + 1) v2 (sha (strL tag) ++ l) := HO7.out
  obtain ⟨A6, n6, c6, rfl, hn6, hc6, hA6, HR8⟩ := ho7.slice
  have hbb : Hid (Bytes (sha (strL tag) ++ l)) := Lib.hid (fun x hx => by
    rcases List.mem_append.1 hx with h | h
    · exact sha_bytes _ x h
    · exact hb.out x h)
  have hm6 : n6 ≤ 4294967296 := by rw [← hn6.out, List.length_append, sha_length, hn.out]; omega
  clear ho7 HO7 HO6 hB57 HB6 HB7 HO4 hd5 hbl4 hbl3 HB3 HB4 HB5 HR4 HR6 HS6 HS5
  go_wp2_with fail
  refine (rsum2_any A6 n6 c6 (sha (strL tag) ++ l) _ hn6 hc6 hA6.out hm6 hbb HR8).mono ?_
  rintro e W9 ⟨rfl, hb9⟩
  have hbl9 := Lib.hid ((hb9.block w.heap.size hs7).trans hbl7.out)
  have HB9 := Lib.hid (HB8.out.trans (hb9.mono HB8.out.size))
  clear hb9 HB8 hbl7 HR8 hbb
  go_wp2_with (refine wpList_store_row rfl 24 (.tmp 4) (.tmp 14) rfl w.heap.size ((sha (sha (strL tag) ++ l)).map fun x => Value.int .u8 (x : Nat)).toArray rfl rfl 24 _ hbl9.out (size32 _ (sha_length _)) (HOLD.out _ (sha_length _)) (oneCells _) ?_)
  refine bodyPost_ret (results_cell_row rfl _ _ w.heap.size 24 _ (0, 0) _ rfl (setRow_heap W9 w.heap.size _ _ _ _ hbl9.out) Tryd.underlying24 rfl (size32 _ (sha_length _))) rfl ?_
  exact ⟨rfl, below_setRow HB9.out (Nat.le_refl _) _⟩
end Go.Proofs.YtgcmbiegbclhmaaDoor
