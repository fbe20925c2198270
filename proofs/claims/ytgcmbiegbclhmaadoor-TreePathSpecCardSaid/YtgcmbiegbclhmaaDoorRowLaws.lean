/- Laws for the walk: copy into a row that is known by its index. -/
import Derived.Deep.OwnRows
import Derived.Laws.CopyOwn
import Derived.Laws.AppendOwn
import Derived.OwnWalk
import Derived.Lib.Hide
namespace Go.Proofs.YtgcmbiegbclhmaaDoor
open Go.RowKit
set_option linter.unusedVariables false
theorem only_setCell {a w : World} {g : Nat} (h : a.grownBy w (some g)) {p : Addr} (hp : p.block = g ∨ a.heap.size ≤ p.block) (u : Value) : a.grownBy (w.setCell p u) (some g) :=
  ⟨h.os, h.tape, h.output, by simpa [World.setCell] using h.size, fun i hi hne => (Below.heap_setCell w p u i (by
    rintro rfl
    rcases hp with hp | hp
    · exact hne (by rw [hp])
    · omega)).trans (h.block i hi hne)⟩
theorem only_of_below {a w : World} (h : Below a.heap.size a w) (row : Option Nat) : a.grownBy w row := ⟨h.os, h.tape, h.output, h.size, fun i hi _ => h.block i hi⟩
theorem only_trans {a b c : World} {row : Option Nat} (h : a.grownBy b row) (k : b.grownBy c row) : a.grownBy c row :=
  ⟨k.os.trans h.os, k.tape.trans h.tape, k.output.trans h.output, Nat.le_trans h.size k.size, fun i hi hne => (k.block i (Nat.lt_of_lt_of_le hi h.size) hne).trans (h.block i hi hne)⟩
/-- writes to a block that is new do not count -/
theorem below_of_only {B : Nat} {a w w' : World} {g : Nat} (h : Below B a w) (k : w.grownBy w' (some g)) (hB : B ≤ w.heap.size) (hg : B ≤ g) : Below B a w' :=
  ⟨k.os.trans h.os, k.tape.trans h.tape, k.output.trans h.output, Nat.le_trans h.size k.size, fun i hi => (k.block i (Nat.lt_of_lt_of_le hi hB) (fun e => by injection e with e; omega)).trans (h.block i hi)⟩
theorem rowIs_only {w w' : World} {g b : Nat} {t n : Nat} {f : Nat → Value} (h : w.rowIs b t n f) (k : w.grownBy w' (some g)) (hne : b ≠ g) : w'.rowIs b t n f :=
  h.of_block (k.block b h.lt (fun e => by injection e with e; exact hne e))
theorem rowIs_below {B : Nat} {w w' : World} {b : Nat} {t n : Nat} {f : Nat → Value} (h : w.rowIs b t n f) (k : Below B w w') (hb : b < B) : w'.rowIs b t n f := h.of_block (k.block b hb)
theorem cell_only {w w' : World} {g : Nat} {p : Addr} (k : w.grownBy w' (some g)) (hlt : p.block < w.heap.size) (hne : p.block ≠ g) : w'.cell? p = w.cell? p :=
  World.cell?_of_block (k.block p.block hlt (fun e => by injection e with e; exact hne e))
theorem drew_only {a w : World} {row : Option Nat} (h : a.grownBy w row) : a.grownBy w.drew row := ⟨h.os, h.tape, h.output, h.size, h.block⟩
theorem alloc_only {a w : World} {row : Option Nat} (h : a.grownBy w row) (o : Obj) : a.grownBy (w.alloc o) row :=
  ⟨h.os, h.tape, h.output, Nat.le_trans h.size (by simp), fun i hi hne => (Below.heap_alloc w o i (Nat.lt_of_lt_of_le hi h.size)).trans (h.block i hi hne)⟩
def overF (off m : Nat) (h f : Nat → Value) (j : Nat) : Value := if off ≤ j ∧ j < off + m then h (j - off) else f j
theorem over_get (off m N : Nat) (h f : Nat → Value) (c : Array Value) (hc : c.size = N) (hf : ∀ i, i < N → c[i]? = some (f i)) (hfit : off + m ≤ N) (i : Nat) (hi : i < N) :
    (c.toList.take off ++ ((List.range m).map h ++ c.toList.drop (off + ((List.range m).map h).length)))[i]? = some (overF off m h f i) := by
  have hl : c.toList.length = N := by simpa using hc
  have ht : (c.toList.take off).length = off := by rw [List.length_take]; omega
  unfold overF
  by_cases h1 : i < off
  · rw [List.getElem?_append_left (by omega), List.getElem?_take_of_lt h1, if_neg (by omega)]
    simpa using hf i hi
  · rw [List.getElem?_append_right (by omega), ht]
    by_cases h2 : i < off + m
    · rw [List.getElem?_append_left (by simp; omega), if_pos (by omega)]
      simp [show i - off < m by omega]
    · rw [List.getElem?_append_right (by simp; omega), List.getElem?_drop, if_neg (by omega)]
      simp only [List.length_map, List.length_range]
      rw [show off + m + (i - off - m) = i by omega]
      simpa using hf i hi
/-- copy into a row known by its index -/
theorem wpList_copy_rowIs {P : Program} {w : World} {ops : Array Oper} {rest : List Oper} {o : Oper} {a : Act} {Q : Exit → Act → World → Prop} (hgd : o.guard = none) (d s : Operand) (dT sT : TypeId)
    (ho : o.op = .call { callee := .builtin .copy, args := #[d, s], argTypes := #[dT, sT] }) (elem : TypeId) (hu : P.underlying dT = some (.slice elem)) (hsz : (P.info? elem).map (·.size) = some 1)
    (g off dLen dCap : Nat) (sp : Option Addr) (sLen sCap : Nat) (hd : a.eval d = .slice (some ⟨g, off, none⟩) dLen dCap) (hs : a.eval s = .slice sp sLen sCap)
    (T N : Nat) (f : Nat → Value) (hr : Hid (w.rowIs g T N f)) (m : Nat) (hm : m = Nat.min sLen dLen) (h : Nat → Value)
    (hsrc : 0 < m → ∃ ad, sp = some ad ∧ ∀ j, j < m → w.cell? (ad.add j) = some (h j)) (hfit : off + m ≤ N) (h1 : ∀ j, j < m → (h j).oneCell' = true)
    (K : ∀ w', Hid (w'.rowIs g T N (overF off m h f)) → Hid (w.grownBy w' (some g)) → wpList P ops Q rest (a.put o.dst (goInt m)) w') :
    wpList P ops Q (o :: rest) a w := by
  rcases Nat.eq_zero_or_pos m with h0 | h0
  · refine wpList_copy_nothing hgd d s dT sT ho elem hu hsz _ sp dLen dCap sLen sCap hd hs (by omega) ?_
    have := K w (Lib.hid (hr.out.congr fun i hi => by unfold overF; rw [if_neg (by omega)])) (Lib.hid (World.grownBy.refl _ _))
    rw [h0] at this
    exact this
  · obtain ⟨ad, rfl, hc⟩ := hsrc h0
    obtain ⟨c, hb, hn, hcf⟩ := hr.out
    have hlen : ((List.range m).map h).length = m := by simp
    refine wpList_copy_own hgd d s dT sT ho elem hu hsz g off dLen dCap ad sLen sCap hd hs c T hb ((List.range m).map h) (by rw [hlen]; exact hm)
      (fun j v hv => ?_) (by rw [hlen, hn]; exact hfit) (fun v hv => ?_) ?_
    · have hj : j < m := by have := (List.getElem?_eq_some_iff.1 hv).1; simpa using this
      have : v = h j := by simp [hj] at hv; exact hv.symm
      rw [this]; exact hc j hj
    · simp only [List.mem_map, List.mem_range] at hv
      obtain ⟨j, hj, rfl⟩ := hv
      exact h1 j hj
    · have hrow : (w.setRow g (c.toList.take off ++ ((List.range m).map h ++ c.toList.drop (off + ((List.range m).map h).length))).toArray).rowIs g T N (overF off m h f) :=
        ⟨_, setRow_heap w g _ _ T _ hb, by simp [hn]; omega, fun i hi => by
          rw [List.getElem?_toArray]
          exact over_get off m N h f c hn hcf hfit i hi⟩
      have := K _ (Lib.hid hrow) (Lib.hid ⟨rfl, rfl, rfl, by simp [World.setRow], fun i hi hne => setRow_other w g i _ (fun e => hne (by rw [e]))⟩)
      rw [hlen] at this ⊢
      exact this
end Go.Proofs.YtgcmbiegbclhmaaDoor
