/- slices.Reverse of nodes and of bools. -/
import Derived.Test.YtgcmbiegbclhmaaDoorTreeRoot2
import Derived.Test.YtgcmbiegbclhmaaDoorFlow4
namespace Go.Proofs.YtgcmbiegbclhmaaDoor
open Go.RowKit SzSha SzTree
set_option linter.unusedVariables false
set_option maxRecDepth 100000
variable {α : Type}
/-- n elements of k cells each, from an offset of a block on; none is frozen -/
def Rw (enc : α → List Value) (s : Nat) (w : World) (g off n : Nat) (F : Nat → α) : Prop := ∀ k, k < n → w.rangeAt g (off + k * s) (enc (F k)) ∧ w.there g (off + k * s) s
def swF (F : Nat → α) (i j : Nat) (a b : Bool) (k : Nat) : α := bif a && Nat.beq k i then F j else bif b && Nat.beq k j then F i else F k
def curF (f : Nat → α) (n i k : Nat) : α := if k < i ∨ n - i ≤ k then f (n - 1 - k) else f k
theorem mul_gap {k k' s : Nat} (h : k < k') : k * s + s ≤ k' * s := by
  have := Nat.mul_le_mul_right s (show k + 1 ≤ k' from h)
  rw [Nat.succ_mul] at this; exact this
theorem Rw.set {enc : α → List Value} {s : Nat} {w : World} {g off n : Nat} {F : Nat → α} (h : Rw enc s w g off n F) (hs : ∀ k, k < n → (enc (F k)).length = s) (k0 : Nat) (hk0 : k0 < n) (x : α) (hx : (enc x).length = s) :
    Rw enc s (w.setCells g (off + k0 * s) (enc x)) g off n (fun k => bif Nat.beq k k0 then x else F k) := fun k hk => by
  refine ⟨?_, World.there_setCells (h k hk).2 _ _ _⟩
  by_cases e : k = k0
  · subst e
    show (w.setCells g (off + k * s) (enc x)).rangeAt g (off + k * s) (enc (bif Nat.beq k k then x else F k))
    rw [show Nat.beq k k = true by simp]
    exact World.rangeAt_setCells_same w g _ _ (by rw [hx]; exact (h k hk0).2)
  · show (w.setCells g (off + k0 * s) (enc x)).rangeAt g (off + k * s) (enc (bif Nat.beq k k0 then x else F k))
    rw [show Nat.beq k k0 = false by cases hb : Nat.beq k k0; rfl; exact absurd (Nat.eq_of_beq_eq_true hb) e]
    refine World.rangeAt_setCells_apart (h k hk).1 _ _ _ ?_
    rw [hs k hk, hx]
    rcases Nat.lt_or_gt_of_ne e with h' | h'
    · have := mul_gap (s := s) h'; omega
    · have := mul_gap (s := s) h'; omega
theorem Rw.congr {enc : α → List Value} {s : Nat} {w : World} {g off n : Nat} {F G : Nat → α} (h : Rw enc s w g off n F) (e : ∀ k, k < n → F k = G k) : Rw enc s w g off n G := fun k hk => by rw [← e k hk]; exact h k hk
theorem Rw.drew {enc : α → List Value} {s : Nat} {w : World} {g off n : Nat} {F : Nat → α} (h : Rw enc s w g off n F) : Rw enc s w.drew g off n F := h
theorem beq_no {k i : Nat} (h : k ≠ i) : Nat.beq k i = false := by cases hb : Nat.beq k i; rfl; exact absurd (Nat.eq_of_beq_eq_true hb) h
theorem swF_len {enc : α → List Value} {s n i j : Nat} {F : Nat → α} (hs : ∀ k, k < n → (enc (F k)).length = s) (hi : i < n) (hj : j < n) (a b : Bool) : ∀ k, k < n → (enc (swF F i j a b k)).length = s := fun k hk => by
  unfold swF
  cases a && Nat.beq k i <;> cases b && Nat.beq k j <;> first | exact hs _ hk | exact hs _ hi | exact hs _ hj
theorem swF_one (F : Nat → α) (i j k : Nat) : (bif Nat.beq k i then F j else swF F i j false false k) = swF F i j true false k := by
  unfold swF; cases Nat.beq k i <;> rfl
theorem swF_two (F : Nat → α) {i j : Nat} (h : i < j) (k : Nat) : (bif Nat.beq k j then F i else swF F i j true false k) = swF F i j true true k := by
  by_cases e : k = i
  · subst e
    unfold swF
    rw [beq_no (show k ≠ j by omega)]; simp
  · unfold swF
    rw [beq_no e]; cases Nat.beq k j <;> rfl
theorem curF_len {enc : α → List Value} {s n i : Nat} {f : Nat → α} (hs : ∀ k, k < n → (enc (f k)).length = s) : ∀ k, k < n → (enc (curF f n i k)).length = s := fun k hk => by
  unfold curF; split
  · exact hs _ (by omega)
  · exact hs _ hk
theorem curF_next (f : Nat → α) {n i j : Nat} (h : i + j + 1 = n) (hij : i < j) (k : Nat) (hk : k < n) : swF (curF f n i) i j true true k = curF f n (i + 1) k := by
  unfold swF
  by_cases e1 : k = i
  · subst e1
    rw [show Nat.beq k k = true by simp]
    show curF f n k j = _
    unfold curF
    rw [if_neg (by omega), if_pos (by omega), show n - 1 - k = j by omega]
  · rw [beq_no e1]
    by_cases e2 : k = j
    · subst e2
      rw [show Nat.beq k k = true by simp]
      show curF f n i i = _
      unfold curF
      rw [if_neg (by omega), if_pos (by omega), show n - 1 - k = i by omega]
    · rw [beq_no e2]
      show curF f n i k = _
      unfold curF
      by_cases h3 : k < i ∨ n - i ≤ k
      · rw [if_pos h3, if_pos (by omega)]
      · rw [if_neg h3, if_neg (by omega)]
theorem curF_zero (f : Nat → α) (n k : Nat) (hk : k < n) : f k = curF f n 0 k := by unfold curF; rw [if_neg (by omega)]
theorem curF_end (f : Nat → α) {n i : Nat} (h : n ≤ 2 * i + 1) (k : Nat) (hk : k < n) : curF f n i k = f (n - 1 - k) := by
  unfold curF; split
  · rfl
  · rw [show n - 1 - k = k by omega]

theorem grown_setCells {a w : World} {g : Nat} (h : a.grownBy w (some g)) (o : Nat) (vs : List Value) : a.grownBy (w.setCells g o vs) (some g) := by
  induction vs generalizing o w with
  | nil => exact h
  | cons v vs ih => exact ih (only_setCell h (.inl rfl) v) _
def bC (b : Bool) : List Value := [.bool b]
theorem setCells_one (w : World) (g off i : Nat) (b : Bool) : w.setCells g (off + i * 1) (bC b) = w.setCell ⟨g, off + i, none⟩ (.bool b) := by
  rw [Nat.mul_one]; rfl

def wnodes (g : Nat) (off : Nat) (n : Nat) (c : Nat) (i : Nat) (z : Nat) (F : Nat → Nd) : Nat → Value → World → Prop
  | 0, fv, _ => fv = Value.slice (some ⟨g, off, none⟩) n c
  | 1, fv, _ => fv = Value.int .i64 ((i : Nat))
  | 2, fv, _ => fv = Value.slice (some ⟨g, off, none⟩) n c
  | 3, fv, _ => fv = Value.int .i64 ((z : Nat))
  | 4, fv, _ => fv = Value.slice (some ⟨g, off, none⟩) n c
  | 5, fv, _ => fv = Value.int .i64 ((z : Nat))
  | 6, fv, _ => fv = Value.pointer (some ⟨g, off + z * 34, none⟩)
  | 7, fv, _ => fv = ndV (F z)
  | 8, fv, _ => fv = Value.slice (some ⟨g, off, none⟩) n c
  | 9, fv, _ => fv = Value.int .i64 ((i : Nat))
  | 10, fv, _ => fv = Value.pointer (some ⟨g, off + i * 34, none⟩)
  | 11, fv, _ => fv = ndV (F i)
  | 12, fv, _ => fv = Value.pointer (some ⟨g, off + i * 34, none⟩)
  | 13, fv, fw => True
  | 14, fv, _ => fv = Value.pointer (some ⟨g, off + z * 34, none⟩)
  | 15, fv, fw => Rw ndC 34 fw g off n (swF F i z true true)
  | _, _, _ => True
theorem wnodes_pure {g : Nat} {off : Nat} {n : Nat} {c : Nat} {i : Nat} {z : Nat} {F : Nat → Nd} {w w' : World} : ∀ j v, j ≠ 13 → j ≠ 15 → wnodes g off n c i z F j v w → wnodes g off n c i z F j v w'
  | 0, v, _, _, h => h
  | 1, v, _, _, h => h
  | 2, v, _, _, h => h
  | 3, v, _, _, h => h
  | 4, v, _, _, h => h
  | 5, v, _, _, h => h
  | 6, v, _, _, h => h
  | 7, v, _, _, h => h
  | 8, v, _, _, h => h
  | 9, v, _, _, h => h
  | 10, v, _, _, h => h
  | 11, v, _, _, h => h
  | 12, v, _, _, h => h
  | 13, v, hh, _, _ => absurd rfl hh
  | 14, v, _, _, h => h
  | 15, v, _, hh, _ => absurd rfl hh
  | n + 16, v, _, _, h => trivial

set_option maxHeartbeats 4000000 in
theorem rev_nodes (f : Nat → Nd) (g off n c : Nat) (w : World) (hn : n ≤ 1000000) (hc : n ≤ c) (hok : Hid (∀ k, k < n → NdOk (f k))) (h : Hid (Rw ndC 34 w g off n f)) :
    Calls Tryd.prog 40 #[.slice (some ⟨g, off, none⟩) n c] w fun e w' => (∃ v, e = .returned v) ∧ Rw ndC 34 w' g off n (fun k => f (n - 1 - k)) ∧ w.grownBy w' (some g) := by
  have HLF : Hid (∀ k, k < n → (ndC (f k)).length = 34) := Lib.hid (fun k hk => ndC_length (hok.out k hk))
  go_enter Tryd.func40, Tryd.ntmps40
  go_wp2_with fail
  go_loopw [2, 3] (fun s t wr => ∃ i : Nat, 2 * i ≤ n + 1 ∧ s = .int .i64 (i : Nat) ∧ t = .int .i64 ((n : Int) - 1 - (i : Int)) ∧ Hid (Rw ndC 34 wr g off n (curF f n i)) ∧ Hid (w.grownBy wr (some g))) (fun s _ _ => n - (intOf s).toNat)
  case atStart => exact ⟨0, by omega, rfl, by simp, Lib.hid (h.out.congr (fun k hk => curF_zero f n k hk)), Lib.hid ⟨rfl, rfl, rfl, Nat.le_refl _, fun _ _ _ => rfl⟩⟩
  case round =>
    obtain ⟨i, hi2, rfl, rfl, HRi, HGi⟩ := hrel
    by_cases hlt : 2 * i + 1 < n
    · obtain ⟨j, hj⟩ : ∃ j, i + j + 1 = n := ⟨n - 1 - i, by omega⟩
      rw [show (n : Int) - 1 - (i : Int) = (j : Int) by omega]
      have HIJ : Hid (i < j) := Lib.hid (by omega)
      have HLI : Hid (i < n) := Lib.hid (by omega)
      have HLJ : Hid (j < n) := Lib.hid (by omega)
      have HJ := Lib.hid hj
      have d1 : decide ((i : Int) < (j : Int)) = true := decide_eq_true (by omega)
      have d2 : decide (i < j) = true := decide_eq_true HIJ.out
      have HCN := Lib.hid (fun k (hk : k < n) => curF_next f hj HIJ.out k hk)
      have HLS := Lib.hid (curF_len (i := i) HLF.out)
      have HOK : Hid (∀ k, k < n → NdOk (curF f n i k)) := Lib.hid (fun k hk => by
        unfold curF; split
        · exact hok.out _ (by omega)
        · exact hok.out _ hk)
      generalize curF f n i = F at *
      have hj62 : j ≤ 1000000 := by omega
      have hi62 : i ≤ 1000000 := by omega
      clear hj hlt hi2
      go_wp2_with fail
      generalize wr = W1 at *
      refine region_flow4 (by kernel_rfl) (by kernel_rfl) (fun i => Nat.beq i 15) (fun i => i) (by kernel_rfl) (fun fx => #[Value.slice (some ⟨g, off, none⟩) n c, undef, Value.int .i64 ((i : Nat)), Value.int .i64 ((j : Nat)), Value.slice (some ⟨g, off, none⟩) n c, Value.int .i64 ((n : Nat)), Value.int .i64 ((n : Int) - 1), Value.int .i64 ((i : Nat)), Value.int .i64 ((j : Nat)), Value.bool true, u10, u11, u12, u13, fx 0, fx 1, fx 2, fx 3, fx 4, fx 5, fx 6, fx 7, fx 8, fx 9, fx 10, fx 11, fx 12, fx 14]) (fun i => bif Nat.beq i 0 then u14 else bif Nat.beq i 1 then u15 else bif Nat.beq i 2 then u16 else bif Nat.beq i 3 then u17 else bif Nat.beq i 4 then u18 else bif Nat.beq i 5 then u19 else bif Nat.beq i 6 then u20 else bif Nat.beq i 7 then u21 else bif Nat.beq i 8 then u22 else bif Nat.beq i 9 then u23 else bif Nat.beq i 10 then u24 else bif Nat.beq i 11 then u25 else bif Nat.beq i 12 then u26 else bif Nat.beq i 14 then u27 else undef) (fun L fx w' => W1.grownBy w' (some g) ∧ Rw ndC 34 w' g off n (swF F i j (L 13) (L 15))) (fun fi fv _ fw => wnodes g off n c i j F fi fv fw) ⟨(show W1.grownBy W1.drew (some g) from ⟨rfl, rfl, rfl, Nat.le_refl _, fun _ _ _ => rfl⟩), HRi.out.congr (fun k _ => rfl)⟩ ?_ ?_
      · refine ⟨?_, ?_, ?_, ?_, ?_, ?_, ?_, ?_, ?_, ?_, ?_, ?_, ?_, ?_, ?_, ?_, trivial⟩
        all_goals intro L fx w' hC hi hcl hdn hd
        · go_wp2_with fail
          exact ⟨_, rfl, ⟨hC.1, hC.2⟩, rfl, fun _ _ _ _ _ h => h⟩
        · go_wp2_with fail
          exact ⟨_, rfl, ⟨hC.1, hC.2⟩, rfl, fun _ _ _ _ _ h => h⟩
        · go_wp2_with fail
          exact ⟨_, rfl, ⟨hC.1, hC.2⟩, rfl, fun _ _ _ _ _ h => h⟩
        · go_wp2_with fail
          exact ⟨_, rfl, ⟨hC.1, hC.2⟩, rfl, fun _ _ _ _ _ h => h⟩
        · go_wp2_with fail
          exact ⟨_, rfl, ⟨hC.1, hC.2⟩, rfl, fun _ _ _ _ _ h => h⟩
        · go_wp2_with fail
          exact ⟨_, rfl, ⟨hC.1, hC.2⟩, rfl, fun _ _ _ _ _ h => h⟩
        · have h4 : fx 4 = Value.slice (some ⟨g, off, none⟩) n c := hd.1 rfl
          have h5 : fx 5 = Value.int .i64 ((j : Nat)) := hd.2.1 rfl
          have hx1 := HLJ.out
          go_wp2_with fail
          exact ⟨_, by rw [← h4, ← h5]; rfl, ⟨hC.1, hC.2⟩, rfl, fun _ _ _ _ _ h => h⟩
        · have h6 : fx 6 = Value.pointer (some ⟨g, off + j * 34, none⟩) := hd.1 rfl
          have hn13 : L 13 = false := Bool.eq_false_iff.2 (fun h => by have := hcl 13 7 h (by kernel_rfl); rw [hi] at this; cases this)
          have hn15 : L 15 = false := Bool.eq_false_iff.2 (fun h => by have := hcl 15 7 h (by kernel_rfl); rw [hi] at this; cases this)
          have hr := (hC.2 j HLJ.out).1
          rw [hn13, hn15] at hr
          have HRX : Hid (w'.rangeAt g (off + j * 34) (ndC (F j))) := Lib.hid hr
          clear hr
          refine wpList_load_mid rfl 26 (.tmp 20) rfl g (off + j * 34) h6 (ndC (F j)) _ HRX.out Tryd.underlying26 rfl (size34 (HOK.out j HLJ.out)) ?_
          clear hd
          go_wp2_with fail
          exact ⟨_, by rw [← h6]; rfl, ⟨hC.1, hC.2⟩, rfl, fun _ _ _ _ _ h => h⟩
        · go_wp2_with fail
          exact ⟨_, rfl, ⟨hC.1, hC.2⟩, rfl, fun _ _ _ _ _ h => h⟩
        · go_wp2_with fail
          exact ⟨_, rfl, ⟨hC.1, hC.2⟩, rfl, fun _ _ _ _ _ h => h⟩
        · have h8 : fx 8 = Value.slice (some ⟨g, off, none⟩) n c := hd.1 rfl
          have h9 : fx 9 = Value.int .i64 ((i : Nat)) := hd.2.1 rfl
          have hx1 := HLI.out
          go_wp2_with fail
          exact ⟨_, by rw [← h8, ← h9]; rfl, ⟨hC.1, hC.2⟩, rfl, fun _ _ _ _ _ h => h⟩
        · have h10 : fx 10 = Value.pointer (some ⟨g, off + i * 34, none⟩) := hd.1 rfl
          have hn13 : L 13 = false := Bool.eq_false_iff.2 (fun h => by have := hcl 13 11 h (by kernel_rfl); rw [hi] at this; cases this)
          have hn15 : L 15 = false := Bool.eq_false_iff.2 (fun h => by have := hcl 15 11 h (by kernel_rfl); rw [hi] at this; cases this)
          have hr := (hC.2 i HLI.out).1
          rw [hn13, hn15] at hr
          have HRX : Hid (w'.rangeAt g (off + i * 34) (ndC (F i))) := Lib.hid hr
          clear hr
          refine wpList_load_mid rfl 26 (.tmp 24) rfl g (off + i * 34) h10 (ndC (F i)) _ HRX.out Tryd.underlying26 rfl (size34 (HOK.out i HLI.out)) ?_
          clear hd
          go_wp2_with fail
          exact ⟨_, by rw [← h10]; rfl, ⟨hC.1, hC.2⟩, rfl, fun _ _ _ _ _ h => h⟩
        · have h0 : fx 0 = Value.slice (some ⟨g, off, none⟩) n c := hd.1 rfl
          have h1 : fx 1 = Value.int .i64 ((i : Nat)) := hd.2.1 rfl
          have hx1 := HLI.out
          go_wp2_with fail
          exact ⟨_, by rw [← h0, ← h1]; rfl, ⟨hC.1, hC.2⟩, rfl, fun _ _ _ _ _ h => h⟩
        · have h12 : fx 12 = Value.pointer (some ⟨g, off + i * 34, none⟩) := hd.1 rfl
          have h7 : fx 7 = ndV (F j) := hd.2.1 rfl
          have hn15 : L 15 = false := Bool.eq_false_iff.2 (fun h => by have := hcl 15 13 h (by kernel_rfl); rw [hi] at this; cases this)
          have hr := hC.2
          rw [hi, hn15] at hr
          have HRW := Lib.hid hr
          clear hr
          have HNW := Lib.hid ((HRW.out.set (swF_len HLS.out HLI.out HLJ.out _ _) i HLI.out (F j) (HLS.out j HLJ.out)).congr (fun k _ => swF_one F i j k))
          have hg := grown_setCells hC.1 (off + i * 34) (ndC (F j))
          refine wpList_store_mid rfl 26 (.tmp 26) (.tmp 21) rfl g (off + i * 34) (ndC (F j)).toArray h12 h7 (by rw [show (ndC (F j)).toArray.size = 34 by simp [ndC_length (HOK.out j HLJ.out)]]; exact (HRW.out i HLI.out).2) (by rw [size34 (HOK.out j HLJ.out)]; simp) (ndC_one _) ?_
          clear hd
          go_wp2_with fail
          refine ⟨undef, by rw [← h12, ← h7]; rfl, ⟨hg, by
            rw [show updB L 13 13 = true from rfl, show updB L 13 15 = false from hn15]; exact HNW.out⟩, trivial, fun q v t hj _ h => by
            by_cases e : q = 13
            · subst e; trivial
            · by_cases e2 : q = 15
              · subst e2; rw [hn15] at hj; cases hj
              · exact wnodes_pure q v e e2 h⟩
        · have h2 : fx 2 = Value.slice (some ⟨g, off, none⟩) n c := hd.1 rfl
          have h3 : fx 3 = Value.int .i64 ((j : Nat)) := hd.2.1 rfl
          have hx1 := HLJ.out
          go_wp2_with fail
          exact ⟨_, by rw [← h2, ← h3]; rfl, ⟨hC.1, hC.2⟩, rfl, fun _ _ _ _ _ h => h⟩
        · have h14 : fx 14 = Value.pointer (some ⟨g, off + j * 34, none⟩) := hd.1 rfl
          have h11 : fx 11 = ndV (F i) := hd.2.1 rfl
          have hn13 : L 13 = true := hdn 13 (by kernel_rfl)
          have hr := hC.2
          rw [hn13, hi] at hr
          have HRW := Lib.hid hr
          clear hr
          have HNW := Lib.hid ((HRW.out.set (swF_len HLS.out HLI.out HLJ.out _ _) j HLJ.out (F i) (HLS.out i HLI.out)).congr (fun k _ => swF_two F HIJ.out k))
          have hg := grown_setCells hC.1 (off + j * 34) (ndC (F i))
          refine wpList_store_mid rfl 26 (.tmp 27) (.tmp 25) rfl g (off + j * 34) (ndC (F i)).toArray h14 h11 (by rw [show (ndC (F i)).toArray.size = 34 by simp [ndC_length (HOK.out i HLI.out)]]; exact (HRW.out j HLJ.out).2) (by rw [size34 (HOK.out i HLI.out)]; simp) (ndC_one _) ?_
          clear hd
          go_wp2_with fail
          refine ⟨undef, by rw [← h14, ← h11]; rfl, ⟨hg, by
            rw [show updB L 15 13 = true from hn13, show updB L 15 15 = true from rfl]; exact HNW.out⟩, HNW.out, fun q v t hj _ h => by
            by_cases e : q = 13
            · subst e; trivial
            · by_cases e2 : q = 15
              · subst e2; rw [hi] at hj; cases hj
              · exact wnodes_pure q v e e2 h⟩
      · intro L fx w' hC hS
        have H15 := Lib.hid (hS 15 (by decide) rfl)
        have HR9 := Lib.hid (H15.out.congr (fun k hk => HCN.out k hk))
        have HG9 := Lib.hid (only_trans HGi.out hC.1)
        have hw1 : IntKind.i64.wrap ((j : Int) - 1) = (n : Int) - 1 - ((i + 1 : Nat) : Int) := by have := HJ.out; rw [IntWalk.i64_in _ (by omega)]; omega
        clear hS hC H15
        go_wp2_with fail
        go_roundw
        case rel => exact ⟨i + 1, by have := HJ.out; have := HIJ.out; omega, by go_num, by go_num, HR9, HG9⟩
        case measure => first | (simp [intOf]; done) | (simp [intOf]; have := HLI.out; omega)
    · have d1 : decide ((i : Int) < (n : Int) - 1 - (i : Int)) = false := decide_eq_false (by omega)
      have HE := Lib.hid (HRi.out.congr (fun k hk => curF_end f (show n ≤ 2 * i + 1 by omega) k hk))
      go_wp2_with fail
      go_end0
      exact ⟨⟨_, rfl⟩, HE.out, HGi.out⟩

def wbools (g : Nat) (off : Nat) (n : Nat) (c : Nat) (i : Nat) (z : Nat) (F : Nat → Bool) : Nat → Value → World → Prop
  | 0, fv, _ => fv = Value.slice (some ⟨g, off, none⟩) n c
  | 1, fv, _ => fv = Value.int .i64 ((i : Nat))
  | 2, fv, _ => fv = Value.slice (some ⟨g, off, none⟩) n c
  | 3, fv, _ => fv = Value.int .i64 ((z : Nat))
  | 4, fv, _ => fv = Value.slice (some ⟨g, off, none⟩) n c
  | 5, fv, _ => fv = Value.int .i64 ((z : Nat))
  | 6, fv, _ => fv = Value.pointer (some ⟨g, off + z, none⟩)
  | 7, fv, _ => fv = Value.bool (F z)
  | 8, fv, _ => fv = Value.slice (some ⟨g, off, none⟩) n c
  | 9, fv, _ => fv = Value.int .i64 ((i : Nat))
  | 10, fv, _ => fv = Value.pointer (some ⟨g, off + i, none⟩)
  | 11, fv, _ => fv = Value.bool (F i)
  | 12, fv, _ => fv = Value.pointer (some ⟨g, off + i, none⟩)
  | 13, fv, fw => True
  | 14, fv, _ => fv = Value.pointer (some ⟨g, off + z, none⟩)
  | 15, fv, fw => Rw bC 1 fw g off n (swF F i z true true)
  | _, _, _ => True
theorem wbools_pure {g : Nat} {off : Nat} {n : Nat} {c : Nat} {i : Nat} {z : Nat} {F : Nat → Bool} {w w' : World} : ∀ j v, j ≠ 13 → j ≠ 15 → wbools g off n c i z F j v w → wbools g off n c i z F j v w'
  | 0, v, _, _, h => h
  | 1, v, _, _, h => h
  | 2, v, _, _, h => h
  | 3, v, _, _, h => h
  | 4, v, _, _, h => h
  | 5, v, _, _, h => h
  | 6, v, _, _, h => h
  | 7, v, _, _, h => h
  | 8, v, _, _, h => h
  | 9, v, _, _, h => h
  | 10, v, _, _, h => h
  | 11, v, _, _, h => h
  | 12, v, _, _, h => h
  | 13, v, hh, _, _ => absurd rfl hh
  | 14, v, _, _, h => h
  | 15, v, _, hh, _ => absurd rfl hh
  | n + 16, v, _, _, h => trivial

set_option maxHeartbeats 4000000 in
theorem rev_bools (f : Nat → Bool) (g off n c : Nat) (w : World) (hn : n ≤ 1000000) (hc : n ≤ c) (hok : Hid (∀ k, k < n → True)) (h : Hid (Rw bC 1 w g off n f)) :
    Calls Tryd.prog 42 #[.slice (some ⟨g, off, none⟩) n c] w fun e w' => (∃ v, e = .returned v) ∧ Rw bC 1 w' g off n (fun k => f (n - 1 - k)) ∧ w.grownBy w' (some g) := by
  have HLF : Hid (∀ k, k < n → (bC (f k)).length = 1) := Lib.hid (fun k hk => rfl)
  go_enter Tryd.func42, Tryd.ntmps42
  go_wp2_with fail
  go_loopw [2, 3] (fun s t wr => ∃ i : Nat, 2 * i ≤ n + 1 ∧ s = .int .i64 (i : Nat) ∧ t = .int .i64 ((n : Int) - 1 - (i : Int)) ∧ Hid (Rw bC 1 wr g off n (curF f n i)) ∧ Hid (w.grownBy wr (some g))) (fun s _ _ => n - (intOf s).toNat)
  case atStart => exact ⟨0, by omega, rfl, by simp, Lib.hid (h.out.congr (fun k hk => curF_zero f n k hk)), Lib.hid ⟨rfl, rfl, rfl, Nat.le_refl _, fun _ _ _ => rfl⟩⟩
  case round =>
    obtain ⟨i, hi2, rfl, rfl, HRi, HGi⟩ := hrel
    by_cases hlt : 2 * i + 1 < n
    · obtain ⟨j, hj⟩ : ∃ j, i + j + 1 = n := ⟨n - 1 - i, by omega⟩
      rw [show (n : Int) - 1 - (i : Int) = (j : Int) by omega]
      have HIJ : Hid (i < j) := Lib.hid (by omega)
      have HLI : Hid (i < n) := Lib.hid (by omega)
      have HLJ : Hid (j < n) := Lib.hid (by omega)
      have HJ := Lib.hid hj
      have d1 : decide ((i : Int) < (j : Int)) = true := decide_eq_true (by omega)
      have d2 : decide (i < j) = true := decide_eq_true HIJ.out
      have HCN := Lib.hid (fun k (hk : k < n) => curF_next f hj HIJ.out k hk)
      have HLS := Lib.hid (curF_len (i := i) HLF.out)
      have HOK : Hid (∀ k, k < n → True) := Lib.hid (fun k hk => trivial)
      generalize curF f n i = F at *
      have hj62 : j ≤ 1000000 := by omega
      have hi62 : i ≤ 1000000 := by omega
      clear hj hlt hi2
      go_wp2_with fail
      generalize wr = W1 at *
      refine region_flow4 (by kernel_rfl) (by kernel_rfl) (fun i => Nat.beq i 15) (fun i => i) (by kernel_rfl) (fun fx => #[Value.slice (some ⟨g, off, none⟩) n c, undef, Value.int .i64 ((i : Nat)), Value.int .i64 ((j : Nat)), Value.slice (some ⟨g, off, none⟩) n c, Value.int .i64 ((n : Nat)), Value.int .i64 ((n : Int) - 1), Value.int .i64 ((i : Nat)), Value.int .i64 ((j : Nat)), Value.bool true, u10, u11, u12, u13, fx 0, fx 1, fx 2, fx 3, fx 4, fx 5, fx 6, fx 7, fx 8, fx 9, fx 10, fx 11, fx 12, fx 14]) (fun i => bif Nat.beq i 0 then u14 else bif Nat.beq i 1 then u15 else bif Nat.beq i 2 then u16 else bif Nat.beq i 3 then u17 else bif Nat.beq i 4 then u18 else bif Nat.beq i 5 then u19 else bif Nat.beq i 6 then u20 else bif Nat.beq i 7 then u21 else bif Nat.beq i 8 then u22 else bif Nat.beq i 9 then u23 else bif Nat.beq i 10 then u24 else bif Nat.beq i 11 then u25 else bif Nat.beq i 12 then u26 else bif Nat.beq i 14 then u27 else undef) (fun L fx w' => W1.grownBy w' (some g) ∧ Rw bC 1 w' g off n (swF F i j (L 13) (L 15))) (fun fi fv _ fw => wbools g off n c i j F fi fv fw) ⟨(show W1.grownBy W1.drew (some g) from ⟨rfl, rfl, rfl, Nat.le_refl _, fun _ _ _ => rfl⟩), HRi.out.congr (fun k _ => rfl)⟩ ?_ ?_
      · refine ⟨?_, ?_, ?_, ?_, ?_, ?_, ?_, ?_, ?_, ?_, ?_, ?_, ?_, ?_, ?_, ?_, trivial⟩
        all_goals intro L fx w' hC hi hcl hdn hd
        · go_wp2_with fail
          exact ⟨_, rfl, ⟨hC.1, hC.2⟩, rfl, fun _ _ _ _ _ h => h⟩
        · go_wp2_with fail
          exact ⟨_, rfl, ⟨hC.1, hC.2⟩, rfl, fun _ _ _ _ _ h => h⟩
        · go_wp2_with fail
          exact ⟨_, rfl, ⟨hC.1, hC.2⟩, rfl, fun _ _ _ _ _ h => h⟩
        · go_wp2_with fail
          exact ⟨_, rfl, ⟨hC.1, hC.2⟩, rfl, fun _ _ _ _ _ h => h⟩
        · go_wp2_with fail
          exact ⟨_, rfl, ⟨hC.1, hC.2⟩, rfl, fun _ _ _ _ _ h => h⟩
        · go_wp2_with fail
          exact ⟨_, rfl, ⟨hC.1, hC.2⟩, rfl, fun _ _ _ _ _ h => h⟩
        · have h4 : fx 4 = Value.slice (some ⟨g, off, none⟩) n c := hd.1 rfl
          have h5 : fx 5 = Value.int .i64 ((j : Nat)) := hd.2.1 rfl
          have hx1 := HLJ.out
          go_wp2_with fail
          exact ⟨_, by rw [← h4, ← h5]; rfl, ⟨hC.1, hC.2⟩, rfl, fun _ _ _ _ _ h => h⟩
        · have h6 : fx 6 = Value.pointer (some ⟨g, off + j, none⟩) := hd.1 rfl
          have hn13 : L 13 = false := Bool.eq_false_iff.2 (fun h => by have := hcl 13 7 h (by kernel_rfl); rw [hi] at this; cases this)
          have hn15 : L 15 = false := Bool.eq_false_iff.2 (fun h => by have := hcl 15 7 h (by kernel_rfl); rw [hi] at this; cases this)
          have hr := (hC.2 j HLJ.out).1
          rw [hn13, hn15] at hr
          have HRX : Hid (w'.rangeAt g (off + j * 1) (bC (F j))) := Lib.hid hr
          clear hr
          have hcc : w'.cell? ⟨g, off + j, none⟩ = some (Value.bool (F j)) := by have := HRX.out 0 _ rfl; simpa using this
          go_wp2_with fail
          exact ⟨_, by rw [← h6]; rfl, ⟨hC.1, hC.2⟩, rfl, fun _ _ _ _ _ h => h⟩
        · go_wp2_with fail
          exact ⟨_, rfl, ⟨hC.1, hC.2⟩, rfl, fun _ _ _ _ _ h => h⟩
        · go_wp2_with fail
          exact ⟨_, rfl, ⟨hC.1, hC.2⟩, rfl, fun _ _ _ _ _ h => h⟩
        · have h8 : fx 8 = Value.slice (some ⟨g, off, none⟩) n c := hd.1 rfl
          have h9 : fx 9 = Value.int .i64 ((i : Nat)) := hd.2.1 rfl
          have hx1 := HLI.out
          go_wp2_with fail
          exact ⟨_, by rw [← h8, ← h9]; rfl, ⟨hC.1, hC.2⟩, rfl, fun _ _ _ _ _ h => h⟩
        · have h10 : fx 10 = Value.pointer (some ⟨g, off + i, none⟩) := hd.1 rfl
          have hn13 : L 13 = false := Bool.eq_false_iff.2 (fun h => by have := hcl 13 11 h (by kernel_rfl); rw [hi] at this; cases this)
          have hn15 : L 15 = false := Bool.eq_false_iff.2 (fun h => by have := hcl 15 11 h (by kernel_rfl); rw [hi] at this; cases this)
          have hr := (hC.2 i HLI.out).1
          rw [hn13, hn15] at hr
          have HRX : Hid (w'.rangeAt g (off + i * 1) (bC (F i))) := Lib.hid hr
          clear hr
          have hcc : w'.cell? ⟨g, off + i, none⟩ = some (Value.bool (F i)) := by have := HRX.out 0 _ rfl; simpa using this
          go_wp2_with fail
          exact ⟨_, by rw [← h10]; rfl, ⟨hC.1, hC.2⟩, rfl, fun _ _ _ _ _ h => h⟩
        · have h0 : fx 0 = Value.slice (some ⟨g, off, none⟩) n c := hd.1 rfl
          have h1 : fx 1 = Value.int .i64 ((i : Nat)) := hd.2.1 rfl
          have hx1 := HLI.out
          go_wp2_with fail
          exact ⟨_, by rw [← h0, ← h1]; rfl, ⟨hC.1, hC.2⟩, rfl, fun _ _ _ _ _ h => h⟩
        · have h12 : fx 12 = Value.pointer (some ⟨g, off + i, none⟩) := hd.1 rfl
          have h7 : fx 7 = Value.bool (F j) := hd.2.1 rfl
          have hn15 : L 15 = false := Bool.eq_false_iff.2 (fun h => by have := hcl 15 13 h (by kernel_rfl); rw [hi] at this; cases this)
          have hr := hC.2
          rw [hi, hn15] at hr
          have HRW := Lib.hid hr
          clear hr
          have HNW := Lib.hid ((HRW.out.set (swF_len HLS.out HLI.out HLJ.out _ _) i HLI.out (F j) (HLS.out j HLJ.out)).congr (fun k _ => swF_one F i j k))
          have hg := grown_setCells hC.1 (off + i * 1) (bC (F j))
          rw [setCells_one] at HNW hg
          have hth := (HRW.out i HLI.out).2 0 (by omega)
          simp only [Nat.mul_one, Nat.add_zero] at hth
          obtain ⟨hcs, hfr⟩ := hth
          obtain ⟨vv, hcv⟩ := Option.isSome_iff_exists.1 hcs
          go_wp2_with fail
          refine ⟨undef, by rw [← h12, ← h7]; rfl, ⟨hg, by
            rw [show updB L 13 13 = true from rfl, show updB L 13 15 = false from hn15]; exact HNW.out⟩, trivial, fun q v t hj _ h => by
            by_cases e : q = 13
            · subst e; trivial
            · by_cases e2 : q = 15
              · subst e2; rw [hn15] at hj; cases hj
              · exact wbools_pure q v e e2 h⟩
        · have h2 : fx 2 = Value.slice (some ⟨g, off, none⟩) n c := hd.1 rfl
          have h3 : fx 3 = Value.int .i64 ((j : Nat)) := hd.2.1 rfl
          have hx1 := HLJ.out
          go_wp2_with fail
          exact ⟨_, by rw [← h2, ← h3]; rfl, ⟨hC.1, hC.2⟩, rfl, fun _ _ _ _ _ h => h⟩
        · have h14 : fx 14 = Value.pointer (some ⟨g, off + j, none⟩) := hd.1 rfl
          have h11 : fx 11 = Value.bool (F i) := hd.2.1 rfl
          have hn13 : L 13 = true := hdn 13 (by kernel_rfl)
          have hr := hC.2
          rw [hn13, hi] at hr
          have HRW := Lib.hid hr
          clear hr
          have HNW := Lib.hid ((HRW.out.set (swF_len HLS.out HLI.out HLJ.out _ _) j HLJ.out (F i) (HLS.out i HLI.out)).congr (fun k _ => swF_two F HIJ.out k))
          have hg := grown_setCells hC.1 (off + j * 1) (bC (F i))
          rw [setCells_one] at HNW hg
          have hth := (HRW.out j HLJ.out).2 0 (by omega)
          simp only [Nat.mul_one, Nat.add_zero] at hth
          obtain ⟨hcs, hfr⟩ := hth
          obtain ⟨vv, hcv⟩ := Option.isSome_iff_exists.1 hcs
          go_wp2_with fail
          refine ⟨undef, by rw [← h14, ← h11]; rfl, ⟨hg, by
            rw [show updB L 15 13 = true from hn13, show updB L 15 15 = true from rfl]; exact HNW.out⟩, HNW.out, fun q v t hj _ h => by
            by_cases e : q = 13
            · subst e; trivial
            · by_cases e2 : q = 15
              · subst e2; rw [hi] at hj; cases hj
              · exact wbools_pure q v e e2 h⟩
      · intro L fx w' hC hS
        have H15 := Lib.hid (hS 15 (by decide) rfl)
        have HR9 := Lib.hid (H15.out.congr (fun k hk => HCN.out k hk))
        have HG9 := Lib.hid (only_trans HGi.out hC.1)
        have hw1 : IntKind.i64.wrap ((j : Int) - 1) = (n : Int) - 1 - ((i + 1 : Nat) : Int) := by have := HJ.out; rw [IntWalk.i64_in _ (by omega)]; omega
        clear hS hC H15
        go_wp2_with fail
        go_roundw
        case rel => exact ⟨i + 1, by have := HJ.out; have := HIJ.out; omega, by go_num, by go_num, HR9, HG9⟩
        case measure => first | (simp [intOf]; done) | (simp [intOf]; have := HLI.out; omega)
    · have d1 : decide ((i : Int) < (n : Int) - 1 - (i : Int)) = false := decide_eq_false (by omega)
      have HE := Lib.hid (HRi.out.congr (fun k hk => curF_end f (show n ≤ 2 * i + 1 by omega) k hk))
      go_wp2_with fail
      go_end0
      exact ⟨⟨_, rfl⟩, HE.out, HGi.out⟩

end Go.Proofs.YtgcmbiegbclhmaaDoor
