/- Digests appended to digests; rows with one cell changed. -/
import Derived.Test.YtmfmgeapecapiaaDoorDB17
import Derived.Laws.AppendOwnNone
namespace Go.Proofs.YtmfmgeapecapiaaDoor
open Go.RowKit SzSha SzTree
set_option linter.unusedVariables false
set_option maxRecDepth 100000
theorem wpList_append_digs {w : World} {ops : Array Oper} {rest : List Oper} {o : Oper} {a : Act} {Q : Exit → Act → World → Prop} (hgd : o.guard = none) (s x : Operand)
    (ho : o.op = .call { callee := .builtin .append, args := #[s, x], argTypes := #[42, 42] })
    (base : Nat) (v : Value) (ls ps : List Dg) (A : Option Addr) (n c : Nat) (hs : a.eval s = v) (hown : Hid (OwnD w base v ls)) (hx : a.eval x = .slice A n c) (hin : Hid (InD w A n c ps)) (hlen : ls.length ≤ 100000) (hn : n ≤ 100000) (hbase : base ≤ w.heap.size)
    (h : ∀ v' w', Hid (OwnD w' base v' (ls ++ ps)) → Hid (w.grownBy w' v.ownBlock) → wpList Tryd.prog ops Q rest (a.put o.dst v') w') : wpList Tryd.prog ops Q (o :: rest) a w := by
  obtain ⟨i0, hi, hz, hz1, hz2⟩ := info_dig
  rcases A with _ | ad
  · have hc := hin.out.none_ rfl
    have h0 : n = 0 := by have := hin.out.cap; omega
    have hp : ps = [] := List.eq_nil_of_length_eq_zero (by rw [hin.out.len]; exact h0)
    subst hp h0 hc
    refine wpList_append_own_none hgd s x _ ho base _ i0 32 Tryd.underlying42 hi v _ _ hs hown.out hx ?_
    exact h v w (Lib.hid (by rw [List.append_nil]; exact hown.out)) (Lib.hid ⟨rfl, rfl, rfl, Nat.le_refl _, fun _ _ _ => rfl⟩)
  · have hl := flatD_length ps hin.out.ok
    rw [hin.out.len] at hl
    refine wpList_append_own_at _ hgd s x _ ho base _ i0 _ 32 32 Tryd.underlying42 hi hz hz1 hz2 (by simp [Value.cells]) (by omega) v _ _ hs hown.out ad n c (flatD ps) hx hl (fun j u hu => ?_) (flatD_one _) (by unfold maxLen; omega) (by omega) hbase ?_
    · have hj := (List.getElem?_eq_some_iff.1 hu).1
      obtain ⟨g, off, e, hg, hr⟩ := hin.out.rd (by rw [hin.out.len]; omega)
      cases e
      rw [add_row]; exact hr j u hu
    · intro v' w' h1 h2 h3 h4
      refine h v' w' (Lib.hid ?_) (Lib.hid h2)
      unfold OwnD
      rw [flatD_append, List.length_append, hin.out.len]; exact h1
theorem own_emptyD {w : World} {g M : Nat} (h : w.heap[g]? = some (.cells #[] 25 (0, 0))) (hM : M ≤ g) : OwnD w M (.slice (some ⟨g, 0, none⟩) 0 0) [] :=
  ⟨rfl, .inr ⟨g, 0, #[], rfl, hM, h, Nat.le_refl _, Nat.zero_le _, rfl, rfl⟩⟩
theorem shCL_set_at (i i' : Int) (x : Ln) (s : List Nat) (A : Option Addr) (n c : Nat) : (shCL i x s A n c).toArray.setIfInBounds 0 (.int .i64 i') = (shCL i' x s A n c).toArray := by simp [shCL]
theorem shCL_set_grade (i g : Int) (x : Ln) (s : List Nat) (A : Option Addr) (n c : Nat) : (shCL i x s A n c).toArray.setIfInBounds 3 (.int .i64 g) = (shCL i ⟨x.c0, x.c1, g, x.c3, x.c4⟩ s A n c).toArray := by simp [shCL, lnC]
theorem shCL_set_path (i : Int) (x : Ln) (s : List Nat) (hs : s.length = 32) (A : Option Addr) (n c : Nat) (A' : Option Addr) (n' c' : Nat) : (shCL i x s A n c).toArray.setIfInBounds 38 (.slice A' n' c') = (shCL i x s A' n' c').toArray := by
  simp [shCL, lnC, dgC_length, hs]
theorem rtC_set_lin (a b m : Int) (x y : List Nat) : (rtC (rtOf a b x y)).toArray.setIfInBounds 4 (.int .i64 m) = (rtC (rtOf m b x y)).toArray := by simp [rtC, rtOf]
theorem vf_arg {v : Bool} {d : Dg} {i m : Int} {ps : List Dg} {r : Dg} (h : dArg i m ps.length) : vfE v d i m ps r = 420 := vfE_1 _ _ _ _ _ (by unfold dclE; rw [if_pos h])
theorem and1023 (b : Int) : ∃ k : Nat, k ≤ 1023 ∧ bits .and .i64 b 1023 = (k : Int) := by
  refine ⟨(BitVec.ofInt 64 b &&& BitVec.ofInt 64 1023).toNat, ?_, ?_⟩
  · rw [BitVec.toNat_and]; exact Nat.and_le_right
  · have h : (BitVec.ofInt 64 b &&& BitVec.ofInt 64 1023).toNat ≤ 1023 := by rw [BitVec.toNat_and]; exact Nat.and_le_right
    show IntKind.i64.wrap ((BitVec.ofInt 64 b &&& BitVec.ofInt 64 1023).toNat : Int) = _
    exact IntWalk.i64_in _ (by omega)
/-- a row that a pointer leads to -/
def RowAt (M : Nat) (p : Value) (T : TypeId) (cs : Array Value) (w : World) : Prop := ∃ q, p = .pointer (some ⟨q, 0, none⟩) ∧ M ≤ q ∧ w.heap[q]? = some (.cells cs T (0, 0))
theorem RowAt.below {M : Nat} {p : Value} {T : TypeId} {cs : Array Value} {w w' : World} (h : RowAt M p T cs w) (hb : Below w.heap.size w w') : RowAt M p T cs w' := by
  obtain ⟨q, h1, h2, h3⟩ := h
  exact ⟨q, h1, h2, row_kept h3 hb⟩
theorem RowAt.other {M : Nat} {p : Value} {T T' : TypeId} {cs cs' : Array Value} {w : World} {q : Nat} (h : RowAt M p T cs w) (hq : w.heap[q]? = some (.cells cs' T' (0, 0))) (hne : T ≠ T') (n : Array Value) : RowAt M p T cs (w.setRow q n) := by
  obtain ⟨b, h1, h2, h3⟩ := h
  refine ⟨b, h1, h2, ?_⟩
  rw [setRow_other w q b n (fun e => hne (by rw [e] at h3; rw [h3] at hq; cases hq; rfl))]; exact h3
theorem built_zD : Tryd.prog.built 25 [] = some (dgC zeroD).toArray := by kernel_rfl
theorem dgs_ok_app {ps : List Dg} {z : Dg} (h : ∀ x ∈ ps, DgOk x) (hz : DgOk z) : ∀ x ∈ ps ++ [z], DgOk x := fun x hx => by
  rcases List.mem_append.1 hx with hx | hx
  · exact h x hx
  · rw [List.mem_singleton.1 hx]; exact hz
theorem own_apart {w W : World} {A : Option Addr} {n c q : Nat} {ls : List Dg} {cs : Array Value} {T : TypeId} (h : OwnD W w.heap.size (.slice A n c) ls) (ho : ∀ x ∈ ls, DgOk x) (hq : w.heap[q]? = some (.cells cs T (0, 0))) : InD W A n c ls ∧ ∀ g, (Value.slice A n c).ownBlock = some g → g ≠ q := by
  obtain ⟨A', n', c', e, hin, _⟩ := h.slice ho
  cases e
  exact ⟨hin, fun g hg e => by
    have h1 := (h.block g hg).1
    have h2 := (Array.getElem?_eq_some_iff.1 hq).1
    omega⟩
theorem block_ne {w : World} {a b : Nat} {T T' : TypeId} {cs cs' : Array Value} (h1 : w.heap[a]? = some (.cells cs T (0, 0))) (h2 : w.heap[b]? = some (.cells cs' T' (0, 0))) (hne : T ≠ T') : a ≠ b := fun e => hne (by
  subst e
  rw [h1] at h2
  injection h2 with h
  injection h)
end Go.Proofs.YtmfmgeapecapiaaDoor
