/- A range over a function that itself ranges over functions: the caller's law at an iterator whose own loops lay records. SHA-256 on lists of numbers: the plain function, no program in sight. Encodings of lists of numbers; trees of nodes with sums: plain functions, no program in sight. Paths and climbs in trees of nodes: plain functions. Trees of digests, paths and climbs: plain functions. math/bits.RotateLeft32, sizar/digest: rotated, word, put: each does what its plain function says. Laws for the walk: copy into a row that is known by its index. sizar/digest: word, put: each does what its plain function says. sizar/codec: what Encode says of integers and lists of integers. sizar/digest: half. Parts of a tree that show an interval: plain functions. sizar/sums: middle, fits, demand, try. -/
import Derived.RangeFuncNested
import Derived.RangeFuncLeaves
import Derived.RangeFuncFrom
import Derived.RangeFuncBox
import Derived.Test.YtmfmgeapecapiaaGreatDoorProg
import Derived.Lib.Hide
import Derived.Laws.BitsAllLaws
import Derived.WalkKit
import Derived.WalkLawsBesides
import Derived.Deep.OwnRows
import Derived.Laws.AppendOwn
import Derived.OwnWalk
import Derived.Laws.Bits64b
import Derived.Laws.CopyOwn
import Derived.Test.YtmfmgeapecapiaaGreatDoorShelf
import Derived.IntWalk
import Derived.Lib.ItoaNum
set_option maxHeartbeats 64000001
namespace Go.Proofs
theorem nQ {a b : Bool} (hi : b = false) (f : a = true → b = true) : a = false := Bool.eq_false_iff.2 (fun h => by have := f h; rw [hi] at this; cases this)
theorem dQ {p : Prop} [Decidable p] (h : ¬ p) : decide p = false := decide_eq_false h
theorem eQ {p : Prop} [Decidable p] (h : p) : decide p = true := decide_eq_true h
end Go.Proofs
namespace Go.Proofs.YtmfmgeapecapiaaGreatDoor
theorem kP {A B C : Sort _} {P Q R : A → B → C → Prop} : ∀ a b c, P a b c → Q a b c → R a b c → R a b c := fun _ _ _ _ _ h => h
end Go.Proofs.YtmfmgeapecapiaaGreatDoor
open Go.Lib (hid)
namespace Go.Proofs
open Go.RowKit
theorem lay_row (w : World) (ty : TypeId) (z cs : Array Value) : ∃ V, Hid ((w.alloc (.cells z ty)).setRow w.heap.size cs = V) ∧ V.heap[w.heap.size]? = some (.cells cs ty (0, 0)) ∧ Below w.heap.size w V :=
 ⟨_, hid rfl, setRow_heap _ _ _ _ _ _ (heap_alloc_new w _), below_setRow ((Below.refl _ w).alloc (Nat.le_refl _) _) (Nat.le_refl _) cs⟩
end Go.Proofs
namespace Go.Proofs.YtmfmgeapecapiaaGreatDoor
open Go.RowKit
set_option linter.unusedVariables false
variable {P : Program}
theorem wide_room (k : Nat) : Fence.wide.room k := fun d h => by cases h
theorem round_in {m m' l l2 : Nat} {f : FuncId} {tmps : Array Value} {assign body : Code} {W : World} {R : Ending → World → Prop} (h : RoundIn Fence.wide m P l f tmps assign body W R) : RoundIn (Fence.wide.inRound l2) m' P l f tmps assign body W R := ⟨h.1, fun c cs _ => h.2 c cs (wide_room _)⟩
/-- the blocks of which Fr speaks lie as they lay -/
structure KpF (Fr : Nat → World → Prop) (W W' : World) : Prop where
 size : W.heap.size ≤ W'.heap.size
 kept : ∀ b o, Fr b W → W.heap[b]? = some o → Fr b W' ∧ W'.heap[b]? = some o
theorem KpF.refl (Fr : Nat → World → Prop) (W : World) : KpF Fr W W := ⟨Nat.le_refl _, fun _ _ h k => ⟨h, k⟩⟩
theorem KpF.trans {Fr : Nat → World → Prop} {A B C : World} (h : KpF Fr A B) (k : KpF Fr B C) : KpF Fr A C :=
 ⟨Nat.le_trans h.size k.size, fun b o h1 h2 => let ⟨a, c⟩ := h.kept b o h1 h2; k.kept b o a c⟩
/-- but one block -/
def exl (l : Nat) (Fr : Nat → World → Prop) (b : Nat) (W : World) : Prop := b ≠ l ∧ Fr b W
theorem KpF.exl {Fr : Nat → World → Prop} {A B : World} (h : KpF Fr A B) (l : Nat) : KpF (exl l Fr) A B :=
 ⟨h.size, fun b o h1 h2 => ⟨⟨h1.1, (h.kept b o h1.2 h2).1⟩, (h.kept b o h1.2 h2).2⟩⟩
abbrev FrOwn (M : Nat) (Fr : Nat → World → Prop) : Prop := ∀ b, OwnFrom M (fun (_ : Unit) W => Fr b W)
theorem FrOwn.mono {M M' : Nat} {Fr : Nat → World → Prop} (h : FrOwn M Fr) (hm : M ≤ M') : FrOwn M' Fr := fun b s W W' row hs hg hr => h b s W W' row hs hg fun r e => ⟨Nat.le_trans hm (hr r e).1, (hr r e).2⟩
theorem FrOwn.exl {M : Nat} {Fr : Nat → World → Prop} (h : FrOwn M Fr) (l : Nat) : FrOwn M (exl l Fr) := fun b s W W' row hs hg hr => ⟨hs.1, h b s W W' row hs.2 hg hr⟩
theorem own_mono {β : Type} {M M' : Nat} {I : β → World → Prop} (h : OwnFrom M I) (hm : M ≤ M') : OwnFrom M' I := fun s W W' row hs hg hr => h s W W' row hs hg fun r e => ⟨Nat.le_trans hm (hr r e).1, (hr r e).2⟩
theorem KpF.putObj {M : Nat} {Fr : Nat → World → Prop} (h : FrOwn M Fr) (W : World) (l : Nat) (o o' : Obj) (hM : M ≤ l) (hl : W.heap[l]? = some o) (ho : o.isCells = false) : KpF (Proofs.YtmfmgeapecapiaaGreatDoor.exl l Fr) W (W.putObj l o') :=
 ⟨by simp, fun b q hb hc => ⟨⟨hb.1, (h b).putObj (s := ()) o' hb.2 hM hl ho⟩, (World.putObj_heap_other (fun e => hb.1 e)).trans hc⟩⟩
theorem KpF.alloc {M : Nat} {Fr : Nat → World → Prop} (h : FrOwn M Fr) (W : World) (o : Obj) : KpF Fr W (W.alloc o) :=
 ⟨by simp, fun b q hb hc => ⟨(h b).alloc (s := ()) o hb, (Below.heap_alloc W o b (Array.getElem?_eq_some_iff.1 hc).1).trans hc⟩⟩
/-- an iterator's contract: its own steps lay and turn records too -/
def SeqO {α : Type} (P : Program) (gf : Nat) (lb : Array Value) (encs : α → Array Value) (Fr : Nat → World → Prop) (Pp S Sp : List α → Prop) (w0 : World) : Prop :=
 ∀ (l : Nat) (J Jx : List α → World → Prop) (W : World), l < W.heap.size → Below w0.heap.size w0 W → KpF Fr w0 W → (∀ b, b < w0.heap.size → b ≠ l) → OwnFrom W.heap.size J → OwnFrom W.heap.size Jx → FrOwn W.heap.size Fr → (∀ pre W o, J pre W → Fr W.heap.size (W.alloc o)) →
  (∀ pre x W1, Pp (pre ++ [x]) → J pre W1 → YieldAt Fence.wide 4 P l (encs x) W1 fun e W' => (e = .returned (.bool true) ∧ J (pre ++ [x]) W' ∧ KpF (exl l Fr) W1 W') ∨ (e = .returned (.bool false) ∧ Jx (pre ++ [x]) W' ∧ KpF (exl l Fr) W1 W')) →
  J [] W → Calls P gf (#[.func (.yield l) #[] #[]] ++ lb) W fun e W' => (∃ v, e = .returned v) ∧ ((∃ xs, S xs ∧ J xs W' ∧ KpF (exl l Fr) W W') ∨ (∃ pre, Sp pre ∧ Jx pre W'))
/-- how a body may leave -/
def bodyO {α : Type} (Fr : Nat → World → Prop) (I : List α → World → Prop) (Ix : Code → List α → World → Prop) (xs : List α) (W : World) : Exit → Act → World → Prop
 | .normal, _, W' => KpF Fr W W' ∧ I xs W'
 | .ret, _, W' => KpF Fr W W' ∧ Ix .ret xs W'
 | .exit id, _, W' => KpF Fr W W' ∧ Ix (.exit id) xs W'
 | .goto t, _, W' => KpF Fr W W' ∧ Ix (.goto t) xs W'
 | .panic _, _, _ => False
 | .outgrown, _, _ => False
/-- the caller's law -/
theorem rangeFunc_own {α : Type} {g : Operand} {ps : Array Tmp} {assign body : Code} {Q : Exit → Act → World → Prop} {a : Act} {w : World} {n : Nat} {gf : Nat} {lb : Array Value}
  (hg : a.eval g = .func (.func gf) #[] lb) (eg : ∀ args w, (callFunc gf args).run P w = .ok (.enter gf args) w)
  {encs : α → Array Value} {Fr : Nat → World → Prop} {Pp S Sp : List α → Prop} (hseq : SeqO P gf lb encs Fr Pp S Sp w) (hps : ∀ x, (encs x).size = ps.size)
  (I : List α → World → Prop) (Ix : Code → List α → World → Prop) (hI : OwnFrom w.heap.size I) (hIx : ∀ c, OwnFrom w.heap.size (Ix c)) (hFr : FrOwn w.heap.size Fr) (hFI : ∀ pre W o, I pre W → Fr W.heap.size (W.alloc o)) (h0 : I [] w)
  (Ax : α → Act → World → Prop) (hAx : ∀ x a', OwnFrom w.heap.size (fun (_ : Unit) W => Ax x a' W))
  (hassign : ∀ (l : Nat) (pre : List α) (x : α) (W : World) (K : Act → World → Prop), I pre W → (∀ a' W', KpF Fr W W' → I pre W' → Ax x a' W' → K a' W') →
   assign.wpIn (Fence.wide.inRound l) 4 P (Exit.then K (fun _ _ _ => False)) { tmps := (ps.zip (encs x)).foldl (fun t (p, v) => t.setIfInBounds p v) a.tmps, defers := [] } W)
  (hbody : ∀ (l : Nat) (pre : List α) (x : α) (a' : Act) (W : World), w.heap.size ≤ l → Pp (pre ++ [x]) → I pre W → Ax x a' W → body.wpIn (Fence.wide.inRound l) 4 P (bodyO Fr I Ix (pre ++ [x]) W) a' W)
  (hdone : ∀ (D : Nat) (xs : List α) (W : World), w.heap.size ≤ D → S xs → I xs W → KpF Fr w W → Fr D W → W.heap[D]? = some (.deferred (some [])) → Q .normal { a with defers := { target := .collected D, args := #[] } :: a.defers } W)
  (hstop : ∀ (D : Nat) (c : Code) (pre : List α) (W : World), w.heap.size ≤ D → Sp pre → Ix c pre W → Fr D W → W.heap[D]? = some (.deferred (some [])) → c.wpIn Fence.wide n P Q { a with defers := { target := .collected D, args := #[] } :: a.defers } W) :
  (Code.rangeFunc g ps assign body).wpIn Fence.wide n P Q a w := by
 refine wpIn_rangeFunc fun fn hfn => ?_
 obtain ⟨rec, hrec⟩ : ∃ rec : LoopState → Option Code → Loop, rec = fun st pe => { state := st, pending := pe, fn, tmps := a.tmps, params := ps, assign, body, defers := w.heap.size } := ⟨_, rfl⟩
 obtain ⟨W0, hW0⟩ : ∃ W0, w.alloc (.deferred (some [])) = W0 := ⟨_, rfl⟩
 obtain ⟨W1, hW1⟩ : ∃ W1, W0.alloc (.loop (rec .ready none)) = W1 := ⟨_, rfl⟩
 have hb0 : Below w.heap.size w W0 := by rw [← hW0]; exact (Below.refl _ w).alloc (Nat.le_refl _) _
 have hs0 : W0.heap.size = w.heap.size + 1 := by rw [← hW0]; simp
 have hs1 : W1.heap.size = w.heap.size + 2 := by rw [← hW1]; simp [hs0]
 have hbw : Below w.heap.size w W1 := by rw [← hW1]; exact hb0.alloc (by omega) _
 have hD0 : W0.heap[w.heap.size]? = some (.deferred (some [])) := by rw [← hW0]; exact World.alloc_heap_new w _
 have hL1 : W1.heap[w.heap.size + 1]? = some (.loop (rec .ready none)) := by
  rw [← hW1]; have := World.alloc_heap_new W0 (.loop (rec .ready none)); rwa [hs0] at this
 have hD1 : W1.heap[w.heap.size]? = some (.deferred (some [])) := by
  rw [← hW1]; exact (Below.heap_alloc _ _ _ (by omega)).trans hD0
 have hI0 : I [] W0 := by rw [← hW0]; exact hI.alloc _ h0
 have hI1 : I [] W1 := by rw [← hW1]; exact hI.alloc _ hI0
 have hfD0 : Fr w.heap.size W0 := by rw [← hW0]; exact hFI [] w _ h0
 have hfD1 : Fr w.heap.size W1 := by rw [← hW1]; exact (hFr _).alloc (s := ()) _ hfD0
 have hfL1 : Fr (w.heap.size + 1) W1 := by rw [← hW1, ← hs0]; exact hFI [] W0 _ hI0
 have hk1 : KpF Fr w W1 := by rw [← hW1, ← hW0]; exact (KpF.alloc hFr _ _).trans (KpF.alloc hFr _ _)
 have hle : w.heap.size ≤ W1.heap.size := by omega
 have stay : ∀ {A B : World} {row : Option Nat} {k : Nat} {o : Obj}, A.grownBy B row → (∀ r, row = some r → W1.heap.size ≤ r ∧ ∃ o : Obj, A.heap[r]? = some o ∧ o.isCells = false) → k < W1.heap.size → A.heap[k]? = some o → B.heap[k]? = some o := fun hgr hr hk ho =>
  (hgr.block _ (Array.getElem?_eq_some_iff.1 ho).1 (fun e => by have := (hr _ e.symm).1; omega)).trans ho
 have J1 : OwnFrom W1.heap.size (fun pre W => I pre W ∧ W.heap[w.heap.size + 1]? = some (.loop (rec .ready none)) ∧ W.heap[w.heap.size]? = some (.deferred (some [])) ∧ Fr (w.heap.size + 1) W ∧ Fr w.heap.size W) := fun s A B row hs hgr hr =>
  ⟨own_mono hI hle s A B row hs.1 hgr hr, stay hgr hr (by omega) hs.2.1, stay hgr hr (by omega) hs.2.2.1, hFr.mono hle _ () A B row hs.2.2.2.1 hgr hr, hFr.mono hle _ () A B row hs.2.2.2.2 hgr hr⟩
 have J2 : OwnFrom W1.heap.size (fun pre W => ∃ c, Ix c pre W ∧ W.heap[w.heap.size + 1]? = some (.loop (rec .done (some c))) ∧ W.heap[w.heap.size]? = some (.deferred (some [])) ∧ Fr w.heap.size W) := fun s A B row hs hgr hr => by
  obtain ⟨c, h1, h2, h3, h4⟩ := hs
  exact ⟨c, own_mono (hIx c) hle s A B row h1 hgr hr, stay hgr hr (by omega) h2, stay hgr hr (by omega) h3, hFr.mono hle _ () A B row h4 hgr hr⟩
 refine ⟨w.heap.size + 1, [{ target := .collected w.heap.size, args := #[] }], W1, { target := .fn (.func gf) lb, args := #[.func (.yield (w.heap.size + 1)) #[] #[]] }, W1, gf,
  #[.func (.yield (w.heap.size + 1)) #[] #[]] ++ lb, W1, ?_, ?_, ?_, ?_, (fun h => by cases h), ?_⟩
 ·rw [← hW1, ← hW0, hrec]; exact run_enterLoop_outer _ _ _ _ _
 ·simp only [resolve, hg]
  simp [go_sem]
 ·intro f' hf'; trivial
 ·simp [invoke, go_sem, eg]
 refine callsIn_wide.2 ((hseq (w.heap.size + 1) _ _ W1 (by omega) hbw hk1 (fun b hb => by omega) J1 J2 (hFr.mono hle) (fun pre W o hs => hFI pre W o hs.1) ?_ ⟨hI1, hL1, hD1, hfL1, hfD1⟩).mono ?_)
 ·-- a round
  rintro pre x W hpp ⟨hi, hl, hd, hfl, hfd⟩
  have hy := run_yield (P := P) (args := encs x) hl (by rw [hrec]; exact hps x)
  rw [hrec] at hy
  refine ⟨fn, _, assign, body, hy, roundIn_of_wpIn hfn (hassign _ pre x W _ hi ?_)⟩
  clear hy
  intro a' V hkp hiv hax
  obtain ⟨hflV, hlV⟩ := hkp.kept _ _ hfl hl
  obtain ⟨hfdV, hdV⟩ := hkp.kept _ _ hfd hd
  have hltV : w.heap.size + 1 < V.heap.size := (Array.getElem?_eq_some_iff.1 hlV).1
  obtain ⟨V2, hV2⟩ : ∃ V2, V.putObj (w.heap.size + 1) (.loop { rec .ready none with state := .busy }) = V2 := ⟨_, rfl⟩
  have hl2 : V2.heap[w.heap.size + 1]? = some (.loop { rec .ready none with state := .busy }) := by rw [← hV2]; exact World.putObj_heap_same hltV
  have hd2 : V2.heap[w.heap.size]? = some (.deferred (some [])) := by rw [← hV2]; exact (World.putObj_heap_other (by omega)).trans hdV
  have hk2 : KpF (exl (w.heap.size + 1) Fr) V V2 := by rw [← hV2]; exact KpF.putObj hFr _ _ _ _ (by omega) hlV rfl
  have hfl2 : Fr (w.heap.size + 1) V2 := by rw [← hV2]; exact (hFr _).putObj (s := ()) _ hflV (by omega) hlV rfl
  have hfd2 : Fr w.heap.size V2 := by rw [← hV2]; exact (hFr _).putObj (s := ()) _ hfdV (by omega) hlV rfl
  have hi2 : I pre V2 := by rw [← hV2]; exact hI.putObj _ hiv (by omega) hlV rfl
  have ha2 : Ax x a' V2 := by rw [← hV2]; exact (hAx x a').putObj (s := ()) _ hax (by omega) hlV rfl
  refine ⟨V2, by rw [← hV2]; exact run_beginRound hlV (by rw [hrec]), wpIn_mono (hbody _ pre x a' V2 (by omega) hpp hi2 ha2) ?_⟩
  have fin : ∀ (jump : Option Code) (W3 : World), KpF Fr V2 W3 → ∃ W4, W4 = W3.putObj (w.heap.size + 1) (.loop (rec (if jump.isNone then .ready else .done) jump)) ∧
    (Instr.endRound (w.heap.size + 1) jump).run P W3 = .ok (.bool jump.isNone) W4 ∧
    W3.heap[w.heap.size + 1]? = some (.loop { rec .ready none with state := .busy }) ∧
    W4.heap[w.heap.size + 1]? = some (.loop (rec (if jump.isNone then .ready else .done) jump)) ∧ W4.heap[w.heap.size]? = some (.deferred (some [])) ∧
    Fr (w.heap.size + 1) W4 ∧ Fr w.heap.size W4 ∧ KpF (exl (w.heap.size + 1) Fr) W W4 := fun jump W3 hk3 => by
   obtain ⟨hfl3, hl3⟩ := hk3.kept _ _ hfl2 hl2
   obtain ⟨hfd3, hd3⟩ := hk3.kept _ _ hfd2 hd2
   have hr := run_endRound (P := P) jump hl3
   refine ⟨_, rfl, by rw [hr, hrec], hl3, World.putObj_heap_same (Array.getElem?_eq_some_iff.1 hl3).1, (World.putObj_heap_other (by omega)).trans hd3, (hFr _).putObj (s := ()) _ hfl3 (by omega) hl3 rfl, (hFr _).putObj (s := ()) _ hfd3 (by omega) hl3 rfl, ?_⟩
   exact (hkp.exl _).trans (hk2.trans ((hk3.exl _).trans (KpF.putObj hFr _ _ _ _ (by omega) hl3 rfl)))
  rintro e a3 W3 hp
  cases e with
  | normal =>
   obtain ⟨hk3, hi3⟩ := hp
   obtain ⟨W4, e4, hr, hl3, hl4, hd4, hfl4, hfd4, hk4⟩ := fin none W3 hk3
   exact ⟨_, _, hr, .inl ⟨rfl, ⟨by rw [e4]; exact hI.putObj _ hi3 (by omega) hl3 rfl, hl4, hd4, hfl4, hfd4⟩, hk4⟩⟩
  | ret =>
   obtain ⟨hk3, hi3⟩ := hp
   obtain ⟨W4, e4, hr, hl3, hl4, hd4, hfl4, hfd4, hk4⟩ := fin (some .ret) W3 hk3
   exact ⟨_, _, hr, .inr ⟨rfl, ⟨.ret, by rw [e4]; exact (hIx _).putObj _ hi3 (by omega) hl3 rfl, hl4, hd4, hfd4⟩, hk4⟩⟩
  | exit id =>
   obtain ⟨hk3, hi3⟩ := hp
   obtain ⟨W4, e4, hr, hl3, hl4, hd4, hfl4, hfd4, hk4⟩ := fin (some (.exit id)) W3 hk3
   exact ⟨_, _, hr, .inr ⟨rfl, ⟨.exit id, by rw [e4]; exact (hIx _).putObj _ hi3 (by omega) hl3 rfl, hl4, hd4, hfd4⟩, hk4⟩⟩
  | goto t =>
   obtain ⟨hk3, hi3⟩ := hp
   obtain ⟨W4, e4, hr, hl3, hl4, hd4, hfl4, hfd4, hk4⟩ := fin (some (.goto t)) W3 hk3
   exact ⟨_, _, hr, .inr ⟨rfl, ⟨.goto t, by rw [e4]; exact (hIx _).putObj _ hi3 (by omega) hl3 rfl, hl4, hd4, hfd4⟩, hk4⟩⟩
  | panic ch => exact hp.elim
  | outgrown => exact hp.elim
 ·-- behind the iterator
  rintro e W2 ⟨⟨v, rfl⟩, (⟨xs, hS, ⟨hi, hl, hd, hfl, hfd⟩, hk⟩ | ⟨pre, hSp, c, hi, hl, hd, hfd⟩)⟩
  ·have hkw : KpF Fr w (W2.putObj (w.heap.size + 1) (.loop (rec .exhausted none))) := by
    have h1 := ((hk1.exl (w.heap.size + 1)).trans hk).trans (KpF.putObj hFr _ _ _ (.loop (rec .exhausted none)) (by omega) hl rfl)
    exact ⟨h1.size, fun b o hb ho => by
     have hlt := (Array.getElem?_eq_some_iff.1 ho).1
     obtain ⟨q1, q2⟩ := h1.kept b o ⟨by omega, hb⟩ ho
     exact ⟨q1.2, q2⟩⟩
   refine ⟨none, _, by have := run_endLoop (P := P) hl (by rw [hrec]; simp); rw [this, hrec], ?_⟩
   have := hdone _ xs _ (Nat.le_refl _) hS (hI.putObj (.loop (rec .exhausted none)) hi (by omega) hl rfl) hkw ((hFr _).putObj (s := ()) _ hfd (by omega) hl rfl) ((World.putObj_heap_other (by omega)).trans hd)
   rw [hrec] at this
   exact this
  ·refine ⟨some c, _, by have := run_endLoop (P := P) hl (by rw [hrec]; simp); rw [this, hrec], ?_⟩
   have := hstop _ c pre _ (Nat.le_refl _) hSp ((hIx c).putObj (.loop (rec .exhausted (some c))) hi (by omega) hl rfl) ((hFr _).putObj (s := ()) _ hfd (by omega) hl rfl) ((World.putObj_heap_other (by omega)).trans hd)
   rw [hrec] at this
   exact this
theorem KpF.own {M : Nat} {Fr : Nat → World → Prop} (h : FrOwn M Fr) (A : World) (hA : A.heap.size ≤ M) {β : Type} : OwnFrom M (fun (_ : β) V => KpF Fr A V) := fun s W W' row hs hg hr =>
 ⟨Nat.le_trans hs.size hg.size, fun b o hb hc => by
  obtain ⟨q1, q2⟩ := hs.kept b o hb hc
  have hlt := (Array.getElem?_eq_some_iff.1 hc).1
  exact ⟨h b () W W' row q1 hg hr, (hg.block b (Array.getElem?_eq_some_iff.1 q2).1 (fun e => by have := (hr b e.symm).1; omega)).trans q2⟩⟩
end Go.Proofs.YtmfmgeapecapiaaGreatDoor
namespace Go.Proofs.SzSha
set_option linter.unusedVariables false
def ks : List Nat := [1116352408, 1899447441, 3049323471, 3921009573, 961987163, 1508970993, 2453635748, 2870763221, 3624381080, 310598401, 607225278, 1426881987, 1925078388, 2162078206, 2614888103, 3248222580, 3835390401, 4022224774, 264347078, 604807628, 770255983, 1249150122, 1555081692, 1996064986, 2554220882, 2821834349, 2952996808, 3210313671, 3336571891, 3584528711, 113926993, 338241895, 666307205, 773529912, 1294757372, 1396182291, 1695183700, 1986661051, 2177026350, 2456956037, 2730485921, 2820302411, 3259730800, 3345764771, 3516065817, 3600352804, 4094571909, 275423344, 430227734, 506948616, 659060556, 883997877, 958139571, 1322822218, 1537002063, 1747873779, 1955562222, 2024104815, 2227730452, 2361852424, 2428436474, 2756734187, 3204031479, 3329325298]
def hs : List Nat := [1779033703, 3144134277, 1013904242, 2773480762, 1359893119, 2600822924, 528734635, 1541459225]
def kf (t : Nat) : Nat := ks.getD t 0
def hf (i : Nat) : Nat := hs.getD i 0
theorem getD_out (l : List Nat) (i : Nat) (h : l.length ≤ i) : l.getD i 0 = 0 := by
 rw [List.getD_eq_getElem?_getD, List.getElem?_eq_none h]; rfl
theorem kf_lt (t : Nat) : kf t < 4294967296 := by
 unfold kf
 by_cases h : t < 64
 ·have : ∀ i : Fin 64, ks.getD i.val 0 < 4294967296 := by decide +kernel
  exact this ⟨t, h⟩
 ·rw [getD_out _ _ (show ks.length ≤ t by have : ks.length = 64 := rfl; omega)]; omega
theorem hf_lt (t : Nat) : hf t < 4294967296 := by
 unfold hf
 by_cases h : t < 8
 ·have : ∀ i : Fin 8, hs.getD i.val 0 < 4294967296 := by decide +kernel
  exact this ⟨t, h⟩
 ·rw [getD_out _ _ (show hs.length ≤ t by have : hs.length = 8 := rfl; omega)]; omega
/-- a sum of words -/
def add (a b : Nat) : Nat := (a + b) % 4294967296
theorem add_lt (a b : Nat) : add a b < 4294967296 := Nat.mod_lt _ (by decide)
/-- a rotation to the right -/
def ror (x n : Nat) : Nat := x / 2 ^ n ||| x * 2 ^ (32 - n) % 4294967296
theorem ror_lt (x n : Nat) (h : x < 4294967296) : ror x n < 4294967296 :=
 Nat.or_lt_two_pow (n := 32) (Nat.lt_of_le_of_lt (Nat.div_le_self _ _) h) (Nat.mod_lt _ (by decide))
theorem xor_lt {a b : Nat} (ha : a < 4294967296) (hb : b < 4294967296) : a ^^^ b < 4294967296 := Nat.xor_lt_two_pow (n := 32) ha hb
theorem and_lt {a b : Nat} (ha : a < 4294967296) : a &&& b < 4294967296 := Nat.lt_of_le_of_lt Nat.and_le_left ha
theorem or_lt {a b : Nat} (ha : a < 4294967296) (hb : b < 4294967296) : a ||| b < 4294967296 := Nat.or_lt_two_pow (n := 32) ha hb
theorem div_lt {a : Nat} (n : Nat) (ha : a < 4294967296) : a / n < 4294967296 := Nat.lt_of_le_of_lt (Nat.div_le_self _ _) ha
def rot3 (v a b c : Nat) : Nat := (ror v a ^^^ ror v b) ^^^ ror v c
def sg0 (x : Nat) : Nat := (ror x 7 ^^^ ror x 18) ^^^ (x / 8)
def sg1 (x : Nat) : Nat := (ror x 17 ^^^ ror x 19) ^^^ (x / 1024)
def ch (e f g : Nat) : Nat := g ^^^ (e &&& (f ^^^ g))
def maj (a b c : Nat) : Nat := (a &&& b) ||| (c &&& (a ||| b))
theorem maj_eq (a b c : Nat) : ((a &&& b) ^^^ (a &&& c)) ^^^ (b &&& c) = maj a b c := by
 apply Nat.eq_of_testBit_eq
 intro i
 simp only [maj, Nat.testBit_xor, Nat.testBit_and, Nat.testBit_or]
 cases a.testBit i <;> cases b.testBit i <;> cases c.testBit i <;> rfl
/-- the word at a place of bytes -/
def word (b : List Nat) (t : Nat) : Nat := ((b.getD (4 * t) 0 * 256 + b.getD (4 * t + 1) 0) * 256 + b.getD (4 * t + 2) 0) * 256 + b.getD (4 * t + 3) 0
/-- all are bytes -/
def Bytes (b : List Nat) : Prop := ∀ x ∈ b, x < 256
theorem Bytes.getD {b : List Nat} (h : Bytes b) (i : Nat) : b.getD i 0 < 256 := by
 by_cases hi : i < b.length
 ·rw [List.getD_eq_getElem?_getD, List.getElem?_eq_getElem hi]; exact h _ (List.getElem_mem hi)
 ·rw [getD_out _ _ (by omega)]; omega
theorem word_lt {b : List Nat} (h : Bytes b) (t : Nat) : word b t < 4294967296 := by
 have h0 := h.getD (4 * t)
 have h1 := h.getD (4 * t + 1)
 have h2 := h.getD (4 * t + 2)
 have h3 := h.getD (4 * t + 3)
 unfold word; omega
/-- the first words of the schedule -/
def wl (b : List Nat) : Nat → List Nat
 | 0 => []
 | t + 1 => wl b t ++ [if t < 16 then word b t else add (add (add ((wl b t).getD (t - 16) 0) (sg0 ((wl b t).getD (t - 15) 0))) ((wl b t).getD (t - 7) 0)) (sg1 ((wl b t).getD (t - 2) 0))]
theorem wl_length (b : List Nat) (t : Nat) : (wl b t).length = t := by
 induction t with
 | zero => rfl
 | succ t ih => simp [wl, ih]
theorem wl_get (b : List Nat) (t n : Nat) (h : t < n) : (wl b n).getD t 0 = (wl b (t + 1)).getD t 0 := by
 induction n with
 | zero => omega
 | succ n ih =>
  by_cases e : t = n
  ·rw [e]
  ·rw [← ih (by omega)]
   show (wl b n ++ _).getD t 0 = _
   rw [List.getD_eq_getElem?_getD, List.getElem?_append_left (by rw [wl_length]; omega), ← List.getD_eq_getElem?_getD]
/-- the words of the schedule -/
def wt (b : List Nat) (t : Nat) : Nat := (wl b 64).getD t 0
theorem wl_last (b : List Nat) (t : Nat) : (wl b (t + 1)).getD t 0 = if t < 16 then word b t else add (add (add ((wl b t).getD (t - 16) 0) (sg0 ((wl b t).getD (t - 15) 0))) ((wl b t).getD (t - 7) 0)) (sg1 ((wl b t).getD (t - 2) 0)) := by
 show (wl b t ++ [_]).getD t 0 = _
 rw [List.getD_eq_getElem?_getD, List.getElem?_append_right (by rw [wl_length]; omega), wl_length, Nat.sub_self]; rfl
theorem wt_low (b : List Nat) (t : Nat) (h : t < 16) : wt b t = word b t := by
 unfold wt; rw [wl_get b t 64 (by omega), wl_last, if_pos h]
theorem wt_high (b : List Nat) (t : Nat) (h : 16 ≤ t) (h' : t < 64) : wt b t = add (add (add (wt b (t - 16)) (sg0 (wt b (t - 15)))) (wt b (t - 7))) (sg1 (wt b (t - 2))) := by
 have g : ∀ j, j < t → (wl b t).getD j 0 = wt b j := fun j hj => by unfold wt; rw [wl_get b j 64 (by omega), wl_get b j t hj]
 conv => lhs; unfold wt
 rw [wl_get b t 64 h', wl_last, if_neg (by omega), g _ (by omega), g _ (by omega), g _ (by omega), g _ (by omega)]
theorem wt_lt {b : List Nat} (hb : Bytes b) (t : Nat) (h : t < 64) : wt b t < 4294967296 := by
 by_cases e : t < 16
 ·rw [wt_low b t e]; exact word_lt hb t
 ·rw [wt_high b t (by omega) h]; exact add_lt _ _
/-- a round -/
def rp (v : Nat → Nat) (k w : Nat) : Nat := add (add (add (add (v 7) (rot3 (v 4) 6 11 25)) (ch (v 4) (v 5) (v 6))) k) w
def rq (v : Nat → Nat) : Nat := add (rot3 (v 0) 2 13 22) (maj (v 0) (v 1) (v 2))
def rnd (v : Nat → Nat) (k w : Nat) (i : Nat) : Nat := if i = 0 then add (rp v k w) (rq v) else if i = 4 then add (v 3) (rp v k w) else v (i - 1)
def Words (v : Nat → Nat) : Prop := ∀ i, i < 8 → v i < 4294967296
theorem rnd_words {v : Nat → Nat} (h : Words v) (k w : Nat) : Words (rnd v k w) := fun i hi => by
 unfold rnd
 split
 ·exact add_lt _ _
 ·split
  ·exact add_lt _ _
  ·exact h _ (by omega)
def rounds (b : List Nat) (s : Nat → Nat) : Nat → Nat → Nat
 | 0 => s
 | t + 1 => rnd (rounds b s t) (kf t) (wt b t)
theorem rounds_words {s : Nat → Nat} (h : Words s) (b : List Nat) (t : Nat) : Words (rounds b s t) := by
 induction t with
 | zero => exact h
 | succ t ih => exact rnd_words ih _ _
/-- the state after a block -/
def block (s : Nat → Nat) (b : List Nat) (i : Nat) : Nat := add (s i) (rounds b s 64 i)
theorem block_words (s : Nat → Nat) (b : List Nat) : Words (block s b) := fun _ _ => add_lt _ _
def blocks : Nat → (Nat → Nat) → List Nat → Nat → Nat
 | 0, s, _ => s
 | n + 1, s, l => blocks n (block s (l.take 64)) (l.drop 64)
theorem blocks_words (n : Nat) : ∀ {s : Nat → Nat} (l : List Nat), Words s → Words (blocks n s l) := by
 induction n with
 | zero => intro s l h; exact h
 | succ n ih => intro s l h; exact ih _ (block_words _ _)
theorem blocks_snoc (n : Nat) : ∀ (s : Nat → Nat) (l : List Nat), blocks (n + 1) s l = block (blocks n s l) ((l.drop (64 * n)).take 64) := by
 induction n with
 | zero => intro s l; simp [blocks]
 | succ n ih =>
  intro s l
  rw [blocks, ih, blocks, List.drop_drop, show 64 + 64 * n = 64 * (n + 1) by omega]
theorem blocks_append (m n : Nat) : ∀ (s : Nat → Nat) (l r : List Nat), l.length = 64 * m → blocks (m + n) s (l ++ r) = blocks n (blocks m s l) r := by
 induction m with
 | zero =>
  intro s l r h
  obtain rfl : l = [] := List.eq_nil_of_length_eq_zero (by omega)
  simp [blocks]
 | succ m ih =>
  intro s l r h
  rw [show m + 1 + n = (m + n) + 1 by omega, blocks, blocks, List.take_append_of_le_length (by omega), List.drop_append_of_le_length (by omega), ih _ _ _ (by rw [List.length_drop]; omega)]
theorem blocks_left (m : Nat) (s : Nat → Nat) (l r : List Nat) (h : l.length = 64 * m) : blocks m s (l ++ r) = blocks m s l := by
 have := blocks_append m 0 s l r h
 rw [Nat.add_zero] at this; exact this
/-- a number's bytes, the greatest first -/
def be (n : Nat) (k : Nat) : List Nat := (List.range k).map fun i => n / 256 ^ (k - 1 - i) % 256
theorem be_length (n k : Nat) : (be n k).length = k := by simp [be]
theorem be_bytes (n k : Nat) : Bytes (be n k) := fun x hx => by
 simp only [be, List.mem_map] at hx
 obtain ⟨i, _, rfl⟩ := hx
 exact Nat.mod_lt _ (by decide)
/-- how many zeros follow -/
def zeros (n : Nat) : Nat := (119 - n % 64) % 64
def tail (n : Nat) : List Nat := 128 :: (List.replicate (zeros n) 0 ++ be (8 * n) 8)
theorem tail_length (n : Nat) : (tail n).length = 9 + zeros n := by simp [tail, be_length]; omega
theorem tail_bytes (n : Nat) : Bytes (tail n) := fun x hx => by
 simp only [tail, List.mem_cons, List.mem_append, List.mem_replicate] at hx
 rcases hx with rfl | ⟨_, rfl⟩ | h
 ·omega
 ·omega
 ·exact be_bytes _ _ x h
def padded (b : List Nat) : List Nat := b ++ tail b.length
theorem padded_length (b : List Nat) : (padded b).length = 64 * ((padded b).length / 64) := by
 rw [padded, List.length_append, tail_length, zeros]; omega
theorem padded_bytes {b : List Nat} (h : Bytes b) : Bytes (padded b) := fun x hx => by
 rcases List.mem_append.1 hx with h' | h'
 ·exact h x h'
 ·exact tail_bytes _ x h'
/-- the state behind all blocks -/
def fin (b : List Nat) : Nat → Nat := blocks ((padded b).length / 64) hf (padded b)
theorem hf_words : Words hf := fun i _ => hf_lt i
theorem fin_words (b : List Nat) : Words (fin b) := blocks_words _ _ hf_words
/-- the bytes of a hash -/
def out (v : Nat → Nat) (i : Nat) : Nat := v (i / 4) / 256 ^ (3 - i % 4) % 256
theorem out_lt (v : Nat → Nat) (i : Nat) : out v i < 256 := Nat.mod_lt _ (by decide)
def sha (b : List Nat) : List Nat := (List.range 32).map (out (fin b))
theorem sha_length (b : List Nat) : (sha b).length = 32 := by simp [sha]
theorem sha_bytes (b : List Nat) : Bytes (sha b) := fun x hx => by
 simp only [sha, List.mem_map] at hx
 obtain ⟨i, _, rfl⟩ := hx
 exact out_lt _ _
/-- the hash under a tag -/
def tagged (tag b : List Nat) : List Nat := sha (sha tag ++ b)
theorem tagged_length (t b : List Nat) : (tagged t b).length = 32 := sha_length _
theorem tagged_bytes (t b : List Nat) : Bytes (tagged t b) := sha_bytes _
/-- the last blocks, as the program makes them: behind the m whole blocks of b -/
def last (b : List Nat) : List Nat := b.drop (64 * (b.length / 64)) ++ tail b.length
theorem last_length (b : List Nat) : (last b).length = if b.length % 64 > 55 then 128 else 64 := by
 rw [last, List.length_append, List.length_drop, tail_length, zeros]
 split <;> omega
theorem fin_eq (b : List Nat) : fin b = blocks ((last b).length / 64) (blocks (b.length / 64) hf b) (last b) := by
 have e : padded b = b.take (64 * (b.length / 64)) ++ last b := by
  rw [padded, last, ← List.append_assoc, List.take_append_drop]
 have hl : (b.take (64 * (b.length / 64))).length = 64 * (b.length / 64) := by rw [List.length_take]; omega
 have hn : (padded b).length / 64 = b.length / 64 + (last b).length / 64 := by
  rw [e, List.length_append, hl]; omega
 have h2 : blocks (b.length / 64) hf b = blocks (b.length / 64) hf (b.take (64 * (b.length / 64))) := by
  have := blocks_left (b.length / 64) hf _ (b.drop (64 * (b.length / 64))) hl
  rwa [List.take_append_drop] at this
 unfold fin
 rw [hn, e, blocks_append _ _ _ _ _ hl, h2]
end Go.Proofs.SzSha
namespace Go.Proofs.SzTree
open SzSha
set_option linter.unusedVariables false
/-- the unsigned form of an integer -/
def zig (z : Int) : Nat := if 0 ≤ z then (2 * z).toNat else (-2 * z - 1).toNat
theorem zig_lt {z : Int} (h1 : -9223372036854775808 ≤ z) (h2 : z ≤ 9223372036854775807) : zig z < 18446744073709551616 := by unfold zig; split <;> omega
/-- a numeral -/
def numB : Nat → Nat → List Nat
 | 0, u => [u % 128]
 | f + 1, u => if u < 128 then [u] else (u % 128 + 128) :: numB f (u / 128)
def num (u : Nat) : List Nat := numB 10 u
theorem numB_length : ∀ f u, (numB f u).length ≤ f + 1
 | 0, u => by simp [numB]
 | f + 1, u => by
  unfold numB; split
  ·simp
  ·have := numB_length f (u / 128); simp; omega
theorem numB_bytes : ∀ f u, Bytes (numB f u)
 | 0, u => fun x hx => by simp [numB] at hx; omega
 | f + 1, u => fun x hx => by
  unfold numB at hx; split at hx
  ·simp at hx; omega
  ·rcases List.mem_cons.1 hx with h | h
   ·omega
   ·exact numB_bytes f _ x h
/-- the digits ahead of the i-th -/
def numP : Nat → Nat → List Nat
 | 0, u => []
 | i + 1, u => (u % 128 + 128) :: numP i (u / 128)
theorem numP_length : ∀ i u, (numP i u).length = i
 | 0, _ => rfl
 | i + 1, u => by simp [numP, numP_length i]
theorem numP_snoc : ∀ i u, numP (i + 1) u = numP i u ++ [u / 128 ^ i % 128 + 128]
 | 0, u => by simp [numP]
 | i + 1, u => by
  have h := numP_snoc i (u / 128)
  show (u % 128 + 128) :: numP (i + 1) (u / 128) = _
  rw [h, Nat.div_div_eq_div_mul, Nat.pow_succ, Nat.mul_comm (128 ^ i)]; rfl
theorem numB_stop (f i : Nat) : ∀ u, (∀ j, j < i → 128 ≤ u / 128 ^ j) → u / 128 ^ i < 128 → i ≤ f → numB f u = numP i u ++ [u / 128 ^ i] := by
 induction i generalizing f with
 | zero =>
  intro u _ h _
  simp only [Nat.pow_zero, Nat.div_one] at h ⊢
  cases f with
  | zero => simp [numB, numP, Nat.mod_eq_of_lt h]
  | succ f => simp [numB, numP, h]
 | succ i ih =>
  intro u h1 h2 h3
  cases f with
  | zero => omega
  | succ f =>
   have h0 := h1 0 (by omega)
   simp only [Nat.pow_zero, Nat.div_one] at h0
   have hh := ih f (u / 128) (fun j hj => by
    have := h1 (j + 1) (by omega)
    rwa [Nat.pow_succ, Nat.mul_comm, ← Nat.div_div_eq_div_mul] at this) (by rwa [Nat.div_div_eq_div_mul, Nat.mul_comm, ← Nat.pow_succ]) (by omega)
   unfold numB
   rw [if_neg (by omega), hh, Nat.div_div_eq_div_mul, Nat.mul_comm 128, ← Nat.pow_succ]
   rfl
/-- the encoding of a list of integers -/
def encI (zs : List Int) : List Nat := 3 :: (num zs.length ++ zs.flatMap fun z => 1 :: num (zig z))
theorem encI_bytes (zs : List Int) : Bytes (encI zs) := fun x hx => by
 rcases List.mem_cons.1 hx with h | h
 ·omega
 ·rcases List.mem_append.1 h with h | h
  ·exact numB_bytes _ _ x h
  ·obtain ⟨z, _, h⟩ := List.mem_flatMap.1 h
   rcases List.mem_cons.1 h with h | h
   ·omega
   ·exact numB_bytes _ _ x h
theorem flat_length (zs : List Int) : (zs.flatMap fun z => 1 :: num (zig z)).length ≤ 12 * zs.length := by
 induction zs with
 | nil => simp
 | cons z zs ih =>
  have := numB_length 10 (zig z)
  simp only [List.flatMap_cons, List.length_append, List.length_cons, num] at *
  omega
theorem encI_length (zs : List Int) : (encI zs).length ≤ 12 + 12 * zs.length := by
 have h1 := flat_length zs
 have h2 := numB_length 10 zs.length
 simp only [encI, List.length_cons, List.length_append, num] at *
 omega
/-- the hash of bytes, followed by numbers, under a tag -/
def hashT (tag b : List Nat) (zs : List Int) : List Nat := tagged tag (b ++ encI zs)
/-- a node -/
structure Nd where
 d : List Nat
 c : Int
 p : Int
def vN (n : Nd) : Bool := decide (0 ≤ n.c) && decide (n.c ≤ 1073741824) && decide (0 ≤ n.p) && decide (n.p ≤ 12 * n.c)
def sumC : List Nd → Int
 | [] => 0
 | n :: l => n.c + sumC l
def sumP : List Nd → Int
 | [] => 0
 | n :: l => n.p + sumP l
def vL (l : List Nd) : Bool := l.all vN && decide (sumC l ≤ 1073741824)
def sumT : List Nat := [115, 117, 109]
def joinN (a b : Nd) : Nd := ⟨hashT sumT (a.d ++ b.d) [a.c, a.p, b.c, b.p], a.c + b.c, a.p + b.p⟩
theorem sumC_append (l r : List Nd) : sumC (l ++ r) = sumC l + sumC r := by
 induction l with
 | nil => simp [sumC]
 | cons n l ih => simp only [List.cons_append, sumC, ih]; omega
theorem sumP_append (l r : List Nd) : sumP (l ++ r) = sumP l + sumP r := by
 induction l with
 | nil => simp [sumP]
 | cons n l ih => simp only [List.cons_append, sumP, ih]; omega
theorem vN_bd {n : Nd} (h : vN n = true) : 0 ≤ n.c ∧ n.c ≤ 1073741824 ∧ 0 ≤ n.p ∧ n.p ≤ 12 * n.c := by
 simp only [vN, Bool.and_eq_true, decide_eq_true_eq] at h; omega
theorem sums_bd : ∀ {l : List Nd}, l.all vN = true → 0 ≤ sumC l ∧ 0 ≤ sumP l ∧ sumP l ≤ 12 * sumC l
 | [], _ => by simp [sumC, sumP]
 | n :: l, h => by
  simp only [List.all_cons, Bool.and_eq_true] at h
  have h1 := vN_bd h.1
  have h2 := sums_bd h.2
  simp only [sumC, sumP]; omega
theorem sumC_le : ∀ l : List Nd, l.all vN = true → sumC l ≤ 1073741824 * (l.length : Int)
 | [], _ => by simp [sumC]
 | n :: l, h => by
  simp only [List.all_cons, Bool.and_eq_true] at h
  have h1 := vN_bd h.1
  have h2 := sumC_le l h.2
  simp only [sumC, List.length_cons]
  omega
/-- the greatest power of 2 that is less than n -/
def halfF : Nat → Nat → Nat → Nat
 | 0, k, _ => k
 | f + 1, k, n => if 2 * k < n then halfF f (2 * k) n else k
def half (n : Nat) : Nat := halfF 64 1 n
theorem halfF_bd : ∀ f k n, 1 ≤ k → k < n → 1 ≤ halfF f k n ∧ halfF f k n < n
 | 0, k, n, h1, h2 => ⟨h1, h2⟩
 | f + 1, k, n, h1, h2 => by
  unfold halfF; split
  ·exact halfF_bd f _ n (by omega) (by omega)
  ·exact ⟨h1, h2⟩
theorem half_bd {n : Nat} (h : 2 ≤ n) : 1 ≤ half n ∧ half n < n := halfF_bd 64 1 n (by omega) (by omega)
/-- the root of leaves (at least one), by at most so many steps -/
def rootF : Nat → List Nd → Nd
 | 0, l => l.headD ⟨[], 0, 0⟩
 | f + 1, l => if l.length ≤ 1 then l.headD ⟨[], 0, 0⟩ else joinN (rootF f (l.take (half l.length))) (rootF f (l.drop (half l.length)))
theorem rootF_fuel : ∀ f g l, l.length ≤ f + 1 → l.length ≤ g + 1 → rootF f l = rootF g l
 | 0, 0, l, _, _ => rfl
 | 0, g + 1, l, h, _ => by simp [rootF, show l.length ≤ 1 by omega]
 | f + 1, 0, l, _, h => by simp [rootF, show l.length ≤ 1 by omega]
 | f + 1, g + 1, l, h1, h2 => by
  unfold rootF
  by_cases h : l.length ≤ 1
  ·rw [if_pos h, if_pos h]
  ·have hb := half_bd (n := l.length) (by omega)
   rw [if_neg h, if_neg h, rootF_fuel f g _ (by rw [List.length_take]; omega) (by rw [List.length_take]; omega), rootF_fuel f g _ (by rw [List.length_drop]; omega) (by rw [List.length_drop]; omega)]
def root (l : List Nd) : Nd := rootF l.length l
theorem root_one (n : Nd) : root [n] = n := rfl
theorem root_two {l : List Nd} (h : 2 ≤ l.length) : root l = joinN (root (l.take (half l.length))) (root (l.drop (half l.length))) := by
 have hb := half_bd h
 unfold root
 rw [rootF_fuel l.length (l.length - 1 + 1) l (by omega) (by omega)]
 conv => lhs; unfold rootF
 rw [if_neg (by omega), rootF_fuel (l.length - 1) (l.take (half l.length)).length _ (by rw [List.length_take]; omega) (by omega), rootF_fuel (l.length - 1) (l.drop (half l.length)).length _ (by rw [List.length_drop]; omega) (by omega)]
theorem root_sums : ∀ (n : Nat) (l : List Nd), l.length = n → 1 ≤ n → (root l).c = sumC l ∧ (root l).p = sumP l := by
 intro n
 induction n using Nat.strongRecOn with
 | _ n ih =>
  intro l hl h1
  by_cases h : 2 ≤ n
  ·have hb := half_bd (n := l.length) (by omega)
   rw [root_two (by omega)]
   have a := ih _ (by rw [List.length_take]; omega) (l.take (half l.length)) rfl (by rw [List.length_take]; omega)
   have b := ih _ (by rw [List.length_drop]; omega) (l.drop (half l.length)) rfl (by rw [List.length_drop]; omega)
   have e := List.take_append_drop (half l.length) l
   have s1 := sumC_append (l.take (half l.length)) (l.drop (half l.length))
   have s2 := sumP_append (l.take (half l.length)) (l.drop (half l.length))
   rw [e] at s1 s2
   simp only [joinN, a.1, a.2, b.1, b.2, s1, s2, and_self]
  ·obtain ⟨x, rfl⟩ : ∃ x, l = [x] := List.length_eq_one_iff.1 (by omega)
   simp [root_one, sumC, sumP]
theorem vL_parts {l r : List Nd} (h : vL (l ++ r) = true) : vL l = true ∧ vL r = true := by
 simp only [vL, List.all_append, Bool.and_eq_true, decide_eq_true_eq, sumC_append] at h ⊢
 have a := sums_bd h.1.1
 have b := sums_bd h.1.2
 exact ⟨⟨h.1.1, by omega⟩, h.1.2, by omega⟩
theorem vL_root {l : List Nd} (h1 : 1 ≤ l.length) (h : vL l = true) : vN (root l) = true := by
 have hs := root_sums _ l rfl h1
 simp only [vL, Bool.and_eq_true, decide_eq_true_eq] at h
 have hb := sums_bd h.1
 simp only [vN, Bool.and_eq_true, decide_eq_true_eq, hs.1, hs.2]
 omega
/-- from the root downwards, the parts beside the way to a leaf: whether on the right side, from, to -/
def wayF : Nat → Nat → Nat → Nat → List (Bool × Nat × Nat)
 | 0, _, _, _ => []
 | f + 1, i, a, b => if b - a ≤ 1 then [] else if i < a + half (b - a) then (true, a + half (b - a), b) :: wayF f i a (a + half (b - a)) else (false, a, a + half (b - a)) :: wayF f i (a + half (b - a)) b
def way (i n : Nat) : List (Bool × Nat × Nat) := wayF n i 0 n
def seg (l : List Nd) (a b : Nat) : List Nd := (l.take b).drop a
theorem seg_length (l : List Nd) (a b : Nat) (h : b ≤ l.length) : (seg l a b).length = b - a := by simp [seg]; omega
theorem seg_take (l : List Nd) (a k b : Nat) (h1 : a ≤ k) (h2 : k ≤ b) : (seg l a b).take (k - a) = seg l a k := by
 unfold seg
 rw [List.take_drop, List.take_take, show min (a + (k - a)) b = k by omega]
theorem seg_drop (l : List Nd) (a k b : Nat) (h1 : a ≤ k) (h2 : k ≤ b) : (seg l a b).drop (k - a) = seg l k b := by
 unfold seg
 rw [List.drop_drop, show a + (k - a) = k by omega]
theorem seg_app (l : List Nd) (a k b : Nat) (h1 : a ≤ k) (h2 : k ≤ b) : seg l a k ++ seg l k b = seg l a b := by
 rw [← seg_take l a k b h1 h2, ← seg_drop l a k b h1 h2, List.take_append_drop]
theorem seg_all (l : List Nd) : seg l 0 l.length = l := by simp [seg]
theorem vL_seg {l : List Nd} (h : vL l = true) (a b : Nat) (h1 : a ≤ b) (h2 : b ≤ l.length) : vL (seg l a b) = true := by
 have e : l = seg l 0 a ++ (seg l a b ++ seg l b l.length) := by
  rw [seg_app l a b _ h1 h2, seg_app l 0 a _ (by omega) (by omega), seg_all]
 rw [e] at h
 exact (vL_parts (vL_parts h).2).1
theorem root_seg (l : List Nd) (a b : Nat) (h : 2 ≤ b - a) (hb : b ≤ l.length) : root (seg l a b) = joinN (root (seg l a (a + half (b - a)))) (root (seg l (a + half (b - a)) b)) := by
 have hh := half_bd h
 rw [root_two (by rw [seg_length l a b hb]; exact h), seg_length l a b hb]
 have e1 := seg_take l a (a + half (b - a)) b (by omega) (by omega)
 have e2 := seg_drop l a (a + half (b - a)) b (by omega) (by omega)
 rw [show a + half (b - a) - a = half (b - a) by omega] at e1 e2
 rw [e1, e2]
theorem vL_two {l r : List Nd} (h : vL (l ++ r) = true) (h1 : 1 ≤ l.length) (h2 : 1 ≤ r.length) : vL [root l, root r] = true := by
 have hp := vL_parts h
 have a := vL_root h1 hp.1
 have b := vL_root h2 hp.2
 have s1 := root_sums _ l rfl h1
 have s2 := root_sums _ r rfl h2
 simp only [vL, List.all_append, Bool.and_eq_true, decide_eq_true_eq, sumC_append] at h
 unfold vL
 rw [Bool.and_eq_true, decide_eq_true_eq]
 refine ⟨by simp [a, b], ?_⟩
 simp only [sumC, s1.1, s2.1]
 omega
/-- the sides of the way to leaf i of n, from the root downwards: whether the leaf is in the first half -/
def dirsF : Nat → Nat → Nat → List Bool
 | 0, _, _ => []
 | f + 1, i, n => if n ≤ 1 then [] else if i < half n then true :: dirsF f i (half n) else false :: dirsF f (i - half n) (n - half n)
def dirsD (i m : Nat) : List Bool := dirsF m i m
/-- half by logarithm -/
theorem halfF_log : ∀ (f j n : Nat), 2 ^ j < n → n ≤ 2 ^ (j + f + 1) → halfF f (2 ^ j) n = 2 ^ (Nat.log2 (n - 1))
 | 0, j, n, h1, h2 => by
  have hp := Nat.two_pow_pos j
  rw [Nat.add_zero] at h2
  have e : Nat.log2 (n - 1) = j := (Nat.log2_eq_iff (by omega)).2 ⟨by omega, by omega⟩
  rw [e]; rfl
 | f + 1, j, n, h1, h2 => by
  unfold halfF
  have hp := Nat.two_pow_pos j
  by_cases h : 2 * 2 ^ j < n
  ·rw [if_pos h, show 2 * 2 ^ j = 2 ^ (j + 1) by rw [Nat.pow_succ]; omega]
   exact halfF_log f (j + 1) n (by rw [Nat.pow_succ]; omega) (by rw [show j + 1 + f + 1 = j + (f + 1) + 1 by omega]; exact h2)
  ·rw [if_neg h]
   have e : Nat.log2 (n - 1) = j := (Nat.log2_eq_iff (by omega)).2 ⟨by omega, by rw [Nat.pow_succ]; omega⟩
   rw [e]
theorem half_log {n : Nat} (h : 2 ≤ n) (h2 : n ≤ 18446744073709551616) : half n = 2 ^ (Nat.log2 (n - 1)) := halfF_log 64 0 n (by show 1 < n; omega) (Nat.le_trans h2 (by decide))
end Go.Proofs.SzTree
namespace Go.Proofs.YtmfmgeapecapiaaGreatDoor
open Go.RowKit SzSha
set_option linter.unusedVariables false
theorem rot_bits (n : Nat) (h1 : 1 ≤ n) (h2 : n ≤ 31) : bits .and .u64 (IntKind.u64.wrap (-(n : Int))) 31 = ((32 - n : Nat) : Int) := by
 have e : IntKind.u64.wrap (-(n : Int)) = ((18446744073709551616 - n : Nat) : Int) := by
  rw [IntKind.wrap_u64]; omega
 have h := bits_and_u64_nat (18446744073709551616 - n) 31 (by omega) (by omega)
 rw [e]
 refine h.trans ?_
 rw [show (31 : Nat) = 2 ^ 5 - 1 from rfl, Nat.and_two_pow_sub_one_eq_mod]
 omega
theorem rot_end (x n m : Nat) (hx : x < 4294967296) (h : n + m = 32) :
  bits .or .u32 ((x : Int) * 2 ^ m % 4294967296) ((x : Int) / 2 ^ (32 - m)) = (ror x n : Nat) := by
 have e1 : (x : Int) * 2 ^ m % 4294967296 = ((x * 2 ^ (32 - n) % 4294967296 : Nat) : Int) := by
  rw [show 32 - n = m by omega]; rfl
 have e2 : ((x : Int) / 2 ^ (32 - m)) = ((x / 2 ^ n : Nat) : Int) := by
  rw [show 32 - m = n by omega]; rfl
 rw [e1, e2, u32_or_nat _ _ (Nat.mod_lt _ (by decide)) (div_lt _ hx), Nat.or_comm]; rfl
theorem rotl_any (x n : Nat) (w : World) (hx : x < 4294967296) (h1 : 1 ≤ n) (h2 : n ≤ 31) :
  Calls Tryz.prog 164 #[.int .u32 x, .int .i64 (-(n : Int))] w fun e w' => e = .returned (.int .u32 (ror x n : Nat)) ∧ w = w' := by
 have hb := rot_bits n h1 h2
 obtain ⟨m, hm⟩ : ∃ m, n + m = 32 := ⟨32 - n, by omega⟩
 rw [show 32 - n = m by omega] at hb
 have hm1 : m ≤ 31 := by omega
 have R := hid (rot_end x n m hx hm)
 have HM := hid hm
 clear hm
 go_enter Tryz.func164, Tryz.ntmps164
 go_wp2_with fail
 go_ret
 refine ⟨?_, rfl⟩
 rw [← R.out]; rfl
theorem xor_nat (a b : Nat) (ha : a < 4294967296) (hb : b < 4294967296) : Hid (bits .xor .u32 (a : Int) (b : Int) = ((a ^^^ b : Nat) : Int)) := hid (u32_xor_nat a b ha hb)
theorem rotated_any (x a b c : Nat) (w : World) (hx : x < 4294967296) (a1 : 1 ≤ a) (a2 : a ≤ 31) (b1 : 1 ≤ b) (b2 : b ≤ 31) (c1 : 1 ≤ c) (c2 : c ≤ 31) :
  Calls Tryz.prog 165 #[.int .u32 x, .int .i64 a, .int .i64 b, .int .i64 c] w fun e w' => e = .returned (.int .u32 (rot3 x a b c : Nat)) ∧ w = w' := by
 have r1 := ror_lt x a hx
 have r2 := ror_lt x b hx
 have r3 := ror_lt x c hx
 have X1 := xor_nat _ _ r1 r2
 have X2 := xor_nat _ _ (SzSha.xor_lt r1 r2) r3
 clear r1 r2 r3
 go_enter Tryz.func165, Tryz.ntmps165
 go_wp2_with fail
 refine (rotl_any x a _ hx a1 a2).mono ?_
 rintro e w' ⟨rfl, rfl⟩
 go_wp2_with fail
 refine (rotl_any x b _ hx b1 b2).mono ?_
 rintro e w' ⟨rfl, rfl⟩
 go_wp2_with fail
 refine (rotl_any x c _ hx c1 c2).mono ?_
 rintro e w' ⟨rfl, rfl⟩
 rw [X1.out]
 go_wp2_with fail
 go_ret
 refine ⟨?_, rfl⟩
 show Ending.returned (.int .u32 (bits .xor .u32 _ _)) = _
 rw [X2.out]; rfl
theorem only_setCell {a w : World} {g : Nat} (h : a.grownBy w (some g)) {p : Addr} (hp : p.block = g ∨ a.heap.size ≤ p.block) (u : Value) : a.grownBy (w.setCell p u) (some g) :=
 ⟨h.os, h.tape, h.output, by simpa [World.setCell] using h.size, fun i hi hne => (Below.heap_setCell w p u i (by
  rintro rfl
  rcases hp with hp | hp
  ·exact hne (by rw [hp])
  ·omega)).trans (h.block i hi hne)⟩
theorem only_of_below {a w : World} (h : Below a.heap.size a w) (row : Option Nat) : a.grownBy w row := ⟨h.os, h.tape, h.output, h.size, fun i hi _ => h.block i hi⟩
theorem only_trans {a b c : World} {row : Option Nat} (h : a.grownBy b row) (k : b.grownBy c row) : a.grownBy c row :=
 ⟨k.os.trans h.os, k.tape.trans h.tape, k.output.trans h.output, Nat.le_trans h.size k.size, fun i hi hne => (k.block i (Nat.lt_of_lt_of_le hi h.size) hne).trans (h.block i hi hne)⟩
/-- writes to a block that is new do not count -/
theorem below_of_only {B : Nat} {a w w' : World} {g : Nat} (h : Below B a w) (k : w.grownBy w' (some g)) (hB : B ≤ w.heap.size) (hg : B ≤ g) : Below B a w' :=
 ⟨k.os.trans h.os, k.tape.trans h.tape, k.output.trans h.output, Nat.le_trans h.size k.size, fun i hi => (k.block i (Nat.lt_of_lt_of_le hi hB) (fun e => by injection e with e; omega)).trans (h.block i hi)⟩
theorem rowIs_only {w w' : World} {g b : Nat} {t n : Nat} {f : Nat → Value} (h : w.rowIs b t n f) (k : w.grownBy w' (some g)) (hne : b ≠ g) : w'.rowIs b t n f :=
 h.of_block (k.block b h.lt (fun e => by injection e with e; exact hne e))
theorem rowIs_below {B : Nat} {w w' : World} {b : Nat} {t n : Nat} {f : Nat → Value} (h : w.rowIs b t n f) (k : Below B w w') (hb : b < B) : w'.rowIs b t n f := h.of_block (k.block b hb)
theorem cell_only {w w' : World} {g : Nat} {p : Addr} (k : w.grownBy w' (some g)) (hlt : p.block < w.heap.size) (hne : p.block ≠ g) : w'.cell? p = w.cell? p :=
 World.cell?_of_block (k.block p.block hlt (fun e => by injection e with e; exact hne e))
theorem drew_only {a w : World} {row : Option Nat} (h : a.grownBy w row) : a.grownBy w.drew row := ⟨h.os, h.tape, h.output, h.size, h.block⟩
def overF (off m : Nat) (h f : Nat → Value) (j : Nat) : Value := if off ≤ j ∧ j < off + m then h (j - off) else f j
theorem over_get (off m N : Nat) (h f : Nat → Value) (c : Array Value) (hc : c.size = N) (hf : ∀ i, i < N → c[i]? = some (f i)) (hfit : off + m ≤ N) (i : Nat) (hi : i < N) :
  (c.toList.take off ++ ((List.range m).map h ++ c.toList.drop (off + ((List.range m).map h).length)))[i]? = some (overF off m h f i) := by
 have hl : c.toList.length = N := by simpa using hc
 have ht : (c.toList.take off).length = off := by rw [List.length_take]; omega
 unfold overF
 by_cases h1 : i < off
 ·rw [List.getElem?_append_left (by omega), List.getElem?_take_of_lt h1, if_neg (by omega)]
  simpa using hf i hi
 ·rw [List.getElem?_append_right (by omega), ht]
  by_cases h2 : i < off + m
  ·rw [List.getElem?_append_left (by simp; omega), if_pos (by omega)]
   simp [show i - off < m by omega]
  ·rw [List.getElem?_append_right (by simp; omega), List.getElem?_drop, if_neg (by omega)]
   simp only [List.length_map, List.length_range]
   rw [show off + m + (i - off - m) = i by omega]
   simpa using hf i hi
/-- copy into a row known by its index -/
theorem wpList_copy_rowIs {P : Program} {w : World} {ops : Array Oper} {rest : List Oper} {o : Oper} {a : Act} {Q : Exit → Act → World → Prop} (hgd : o.guard = none) (d s : Operand) (dT sT : TypeId)
  (ho : o.op = .call { callee := .builtin .copy, args := #[d, s], argTypes := #[dT, sT] }) (elem : TypeId) (hu : P.underlying dT = some (.slice elem)) (hsz : (P.info? elem).map (·.size) = some 1)
  (g off dLen dCap : Nat) (sp : Option Addr) (sLen sCap : Nat) (hd : a.eval d = .slice (some ⟨g, off, none⟩) dLen dCap) (hs : a.eval s = .slice sp sLen sCap)
  (T N : Nat) (f : Nat → Value) (hr : Hid (w.rowIs g T N f)) (m : Nat) (hm : m = Nat.min sLen dLen) (h : Nat → Value)
  (hsrc : 0 < m → ∃ ad, sp = some ad ∧ ∀ j, j < m → w.cell? (ad.add j) = some (h j)) (hfit : off + m ≤ N) (h1 : ∀ j, j < m → (h j).oneCell' = true)
  (K : ∀ w', Hid (w'.rowIs g T N (overF off m h f)) → Hid (w.grownBy w' (some g)) → wpList P ops Q rest (a.put o.dst (goInt m)) w') :
  wpList P ops Q (o :: rest) a w := by
 rcases Nat.eq_zero_or_pos m with h0 | h0
 ·refine wpList_copy_nothing hgd d s dT sT ho elem hu hsz _ sp dLen dCap sLen sCap hd hs (by omega) ?_
  have := K w (hid (hr.out.congr fun i hi => by unfold overF; rw [if_neg (by omega)])) (hid (World.grownBy.refl _ _))
  rw [h0] at this
  exact this
 ·obtain ⟨ad, rfl, hc⟩ := hsrc h0
  obtain ⟨c, hb, hn, hcf⟩ := hr.out
  have hlen : ((List.range m).map h).length = m := by simp
  refine wpList_copy_own hgd d s dT sT ho elem hu hsz g off dLen dCap ad sLen sCap hd hs c T hb ((List.range m).map h) (by rw [hlen]; exact hm)
   (fun j v hv => ?_) (by rw [hlen, hn]; exact hfit) (fun v hv => ?_) ?_
  ·have hj : j < m := by have := (List.getElem?_eq_some_iff.1 hv).1; simpa using this
   have : v = h j := by simp [hj] at hv; exact hv.symm
   rw [this]; exact hc j hj
  ·simp only [List.mem_map, List.mem_range] at hv
   obtain ⟨j, hj, rfl⟩ := hv
   exact h1 j hj
  ·have hrow : (w.setRow g (c.toList.take off ++ ((List.range m).map h ++ c.toList.drop (off + ((List.range m).map h).length))).toArray).rowIs g T N (overF off m h f) :=
    ⟨_, setRow_heap w g _ _ T _ hb, by simp [hn]; omega, fun i hi => by
     rw [List.getElem?_toArray]
     exact over_get off m N h f c hn hcf hfit i hi⟩
   have := K _ (hid hrow) (hid ⟨rfl, rfl, rfl, by simp [World.setRow], fun i hi hne => setRow_other w g i _ (fun e => hne (by rw [e]))⟩)
   rw [hlen] at this ⊢
   exact this
/-- the number of k bytes -/
def wordN (x : Nat → Nat) : Nat → Nat
 | 0 => 0
 | k + 1 => wordN x k * 256 + x k
theorem wordN_lt (x : Nat → Nat) (hx : ∀ i, i < 4 → x i < 256) : ∀ k, k ≤ 4 → wordN x k < 256 ^ k
 | 0, _ => by simp [wordN]
 | k + 1, h => by
  have h1 := wordN_lt x hx k (by omega)
  have h2 := hx k (by omega)
  rw [wordN, Nat.pow_succ]
  generalize 256 ^ k = z at *
  omega
theorem or_byte (n c : Nat) (hn : n < 16777216) (hc : c < 256) : bits .or .u32 ((n : Int) * 256) (c : Int) = ((n * 256 + c : Nat) : Int) := by
 have e : (n : Int) * 256 = ((n * 256 : Nat) : Int) := by omega
 rw [e, u32_or_nat _ _ (by omega) (by omega)]
 have := Nat.two_pow_add_eq_or_of_lt (i := 8) (b := c) (by omega) n
 rw [show (2 : Nat) ^ 8 * n = n * 256 by omega] at this
 rw [this]
theorem word_any (g off n c : Nat) (x : Nat → Nat) (w : World) (hn : 4 ≤ n) (hc : n ≤ c) (hx : ∀ i, i < 4 → x i < 256) (h : Hid (∀ i, i < 4 → w.cell? ⟨g, off + i, none⟩ = some (.int .u8 (x i)))) :
  Calls Tryz.prog 163 #[.slice (some ⟨g, off, none⟩) n c] w fun e w' => e = .returned (.int .u32 (wordN x 4 : Nat)) ∧ w = w' := by
 have HX := hid hx
 clear hx
 have hc4 : 4 ≤ c := by omega
 go_enter Tryz.func163, Tryz.ntmps163
 go_wp2_with fail
 go_loop [2, 8] (fun a i => ∃ k : Nat, k ≤ 4 ∧ i = .int .i64 k ∧ a = .int .u32 (wordN x k : Nat)) (fun _ i => 4 - (intOf i).toNat)
 case atStart => exact ⟨0, by omega, rfl, rfl⟩
 case round =>
  obtain ⟨k, hk, rfl, rfl⟩ := hrel
  by_cases hlt : k < 4
  ·have hcell := h.out k hlt
   have hw : wordN x k < 16777216 := Nat.lt_of_lt_of_le (wordN_lt x HX.out k hk) (Nat.pow_le_pow_right (n := 256) (i := k) (j := 3) (by omega) (by omega))
   have hb := HX.out k hlt
   have ho := hid (or_byte _ _ hw hb)
   go_wp2_with fail
   go_round
   case rel => exact ⟨k + 1, by omega, by go_num, by rw [ho.out]; rfl⟩
   case measure => simp [intOf]; omega
  ·obtain rfl : k = 4 := by omega
   go_wp2_with fail
   go_ret
   exact ⟨rfl, rfl⟩
/-- what 'put' leaves in a row -/
def putF (off L n : Nat) (f : Nat → Value) (j : Nat) : Value := if off ≤ j ∧ j < off + L then .int .u8 ((n / 256 ^ (off + L - 1 - j) % 256 : Nat)) else f j
/-- the same behind k rounds: the last k places are written -/
def putK (off L n k : Nat) (f : Nat → Value) (j : Nat) : Value := if off + L - k ≤ j ∧ j < off + L then .int .u8 ((n / 256 ^ (off + L - 1 - j) % 256 : Nat)) else f j
theorem putK_succ (off L n k : Nat) (f : Nat → Value) (hk : k < L) : (fun j => if j = off + (L - 1 - k) then Value.int .u8 ((n / 256 ^ k % 256 : Nat)) else putK off L n k f j) = putK off L n (k + 1) f := by
 funext j
 unfold putK
 by_cases e : j = off + (L - 1 - k)
 ·rw [if_pos e, if_pos (by omega), show off + L - 1 - j = k by omega]
 ·rw [if_neg e]
  by_cases e2 : off + L - k ≤ j ∧ j < off + L
  ·rw [if_pos e2, if_pos (by omega)]
  ·rw [if_neg e2, if_neg (by omega)]
theorem byte_shift (n k : Nat) (hn : n ≤ 18446744073709551615) (hk : k < 8) : (n : Int) / 2 ^ (8 * k) % 256 = ((n / 256 ^ k % 256 : Nat) : Int) := by
 show ((n / 2 ^ (8 * k) % 256 : Nat) : Int) = _
 rw [Nat.pow_mul]
theorem put_any (g off L c n T N : Nat) (f : Nat → Value) (w : World) (hL : L ≤ 8) (hLc : L ≤ c) (hN : off + L ≤ N) (hn : n ≤ 18446744073709551615) (h : Hid (w.rowIs g T N f)) :
  Calls Tryz.prog 150 #[.slice (some ⟨g, off, none⟩) L c, .int .u64 n] w fun e w' => (∃ v, e = .returned v) ∧ w'.rowIs g T N (putF off L n f) ∧ w.grownBy w' (some g) := by
 go_enter Tryz.func150, Tryz.ntmps150
 go_wp2_with fail
 go_loopw [7] (fun i wr => ∃ k : Nat, k ≤ L ∧ i = .int .i64 k ∧ Hid (wr.rowIs g T N (putK off L n k f)) ∧ Hid (w.grownBy wr (some g))) (fun i _ => L - (intOf i).toNat)
 case atStart => exact ⟨0, by omega, rfl, hid (h.out.congr fun i hi => by unfold putK; rw [if_neg (by omega)]), hid (World.grownBy.refl _ _)⟩
 case round =>
  obtain ⟨k, hk, rfl, hr, hg⟩ := hrel
  by_cases hlt : k < L
  ·have hcell := hr.out.cell (i := off + (L - 1 - k)) (by omega)
   have hfr := hr.out.frozen (off + (L - 1 - k))
   go_wp2_with fail
   go_roundw
   case rel => exact ⟨k + 1, by omega, by go_num, hid (by rw [← putK_succ off L n k f hlt, ← byte_shift n k hn (by omega)]; exact hr.out.set _ _), hid (only_setCell hg.out (.inl rfl) _)⟩
   case measure => simp [intOf]; omega
  ·obtain rfl : k = L := by omega
   go_wp2_with fail
   go_end0
   exact ⟨⟨_, rfl⟩, hr.out.congr fun i hi => by unfold putK putF; rw [show off + k - k = off by omega], hg.out⟩
open SzTree
set_option maxRecDepth 100000 in
theorem formed_int (z : Int) (w : World) : Calls Tryz.prog 156 #[.agg #[.int .i64 1, .int .i64 z, .string ⟨#[]⟩, .slice none 0 0]] w fun e w' => e = .returned (.tuple #[.int .i64 0, .bool true]) ∧ Below w.heap.size w w' := by
 go_enter Tryz.func156, Tryz.ntmps156
 go_wp2_with fail
 all_goals
  go_ret2
  exact ⟨rfl, ((Below.refl _ _).alloc (Nat.le_refl _) _).alloc (by simp) _⟩
/-- the integers of a list, four cells each -/
def ValsAt (w : World) (g off : Nat) (zs : List Int) : Prop := ∀ i (hi : i < zs.length), w.cell? ⟨g, off + i * 4, none⟩ = some (.int .i64 1) ∧ w.cell? ⟨g, off + i * 4 + 1, none⟩ = some (.int .i64 zs[i]) ∧ w.cell? ⟨g, off + i * 4 + 2, none⟩ = some (.string ⟨#[]⟩) ∧ w.cell? ⟨g, off + i * 4 + 3, none⟩ = some (.slice none 0 0)
/-- a slice of integers of the codec -/
def VRd (w : World) (B : Nat) (A : Option Addr) (zs : List Int) : Prop := 0 < zs.length → ∃ g, A = some ⟨g, 0, none⟩ ∧ g < B ∧ ValsAt w g 0 zs
theorem ValsAt.below {w w' : World} {g off : Nat} {zs : List Int} (h : ValsAt w g off zs) (hg : g < w.heap.size) (hb : Below w.heap.size w w') : ValsAt w' g off zs := fun i hi => by
 obtain ⟨h0, h1, h2, h3⟩ := h i hi
 exact ⟨(hb.cell (p := ⟨g, _, none⟩) hg).trans h0, (hb.cell (p := ⟨g, _, none⟩) hg).trans h1, (hb.cell (p := ⟨g, _, none⟩) hg).trans h2, (hb.cell (p := ⟨g, _, none⟩) hg).trans h3⟩
theorem VRd.below {w w' : World} {A : Option Addr} {zs : List Int} (h : VRd w w.heap.size A zs) (hb : Below w.heap.size w w') : VRd w' w'.heap.size A zs := fun h0 => by
 obtain ⟨g, e, hg, hv⟩ := h h0
 exact ⟨g, e, Nat.lt_of_lt_of_le hg hb.size, hv.below hg hb⟩
set_option maxRecDepth 100000 in
theorem formed_list (zs : List Int) (A : Option Addr) (c : Nat) (w : World) (hn : zs.length ≤ 1000) (hV : Hid (VRd w w.heap.size A zs)) :
  Calls Tryz.prog 156 #[.agg #[.int .i64 3, .int .i64 0, .string ⟨#[]⟩, .slice A zs.length c]] w fun e w' => e = .returned (.tuple #[.int .i64 1, .bool true]) ∧ Below w.heap.size w w' := by
 obtain ⟨n, HN⟩ : ∃ n, Hid (zs.length = n) := ⟨_, hid rfl⟩
 rw [HN.out]
 have hn' : n ≤ 1000 := by rw [← HN.out]; exact hn
 obtain ⟨b, hbz⟩ : ∃ b, ((n : Int) == 0) = b := ⟨_, rfl⟩
 clear hn
 go_enter Tryz.func156, Tryz.ntmps156
 go_wp2_with fail
 have HB0 := hid (((Below.refl _ w).alloc (Nat.le_refl _) (.cells #[.int .i64 3, .int .i64 0, .string ⟨#[]⟩, .slice A n c] 148)).alloc (by simp) (.cells #[.bool false, .bool b, .bool b, .bool true] 214))
 clear hbz
 go_loopw [2, 57] (fun d i wr => ∃ j : Nat, j ≤ n ∧ d = .int .i64 0 ∧ i = .int .i64 j ∧ Hid (Below w.heap.size w wr)) (fun _ i _ => n - (intOf i).toNat)
 case atStart => exact ⟨0, by omega, rfl, rfl, HB0⟩
 case round =>
  clear HB0
  obtain ⟨j, hj, rfl, rfl, HB⟩ := hrel
  by_cases hlt : j < n
  ·obtain ⟨g, rfl, hg, hv⟩ := hV.out (by rw [HN.out]; omega)
   have hv2 := (hv.below hg HB.out) j (by rw [HN.out]; exact hlt)
   obtain ⟨z, HZ⟩ : ∃ z, Hid (zs[j]'(by rw [HN.out]; exact hlt) = z) := ⟨_, hid rfl⟩
   rw [HZ.out, Nat.zero_add] at hv2
   obtain ⟨k0, k1, k2, k3⟩ := hv2
   have HV := hid hv
   clear hv
   have d1 : decide ((j : Int) < (n : Int)) = true := eQ (by omega)
   go_wp2_with fail
   refine (formed_int z _).mono ?_
   rintro e w2 ⟨rfl, hq⟩
   have HB2 := hid ((HB.out.alloc HB.out.size (.cells #[.int .i64 1, .int .i64 z, .string ⟨#[]⟩, .slice none 0 0] 148)).trans (hq.mono (by have := HB.out.size; simp; omega)))
   clear hq k0 k1 k2 k3
   go_wp2_with fail
   go_roundw
   case rel => exact ⟨j + 1, by omega, rfl, by go_num, HB2⟩
   case measure => simp [intOf]; omega
  ·have d1 : decide ((j : Int) < (n : Int)) = false := dQ (by omega)
   go_wp2_with fail
   go_ret2
   exact ⟨rfl, HB.out⟩
set_option maxRecDepth 100000 in
theorem vcheck_list (zs : List Int) (A : Option Addr) (c : Nat) (w : World) (hn : zs.length ≤ 1000) (hV : Hid (VRd w w.heap.size A zs)) :
  Calls Tryz.prog 138 #[.agg #[.int .i64 3, .int .i64 0, .string ⟨#[]⟩, .slice A zs.length c]] w fun e w' => e = .returned (.int .i64 0) ∧ Below w.heap.size w w' := by
 have HB0 := hid ((Below.refl _ w).alloc (Nat.le_refl _) (.cells #[.int .i64 3, .int .i64 0, .string ⟨#[]⟩, .slice A zs.length c] 148))
 have HV := hid (hV.out.below HB0.out)
 go_enter Tryz.func138, Tryz.ntmps138
 go_wp2_with fail
 refine (formed_list zs A c _ hn HV).mono ?_
 rintro e w2 ⟨rfl, hq⟩
 have HB2 := hid (HB0.out.trans (hq.mono HB0.out.size))
 clear hq
 go_wp2_with fail
 go_ret
 exact ⟨rfl, HB2.out⟩
set_option maxRecDepth 100000
theorem bitLen_log {m k : Nat} (h1 : 2 ^ k ≤ m) (h2 : m < 2 ^ (k + 1)) (h3 : m < 2 ^ 64) : Lib.bitLen m = k + 1 := by
 have hm : m ≠ 0 := by have := Nat.two_pow_pos k; omega
 obtain ⟨a, b, c⟩ := Lib.bitLenAux_bounds 64 m h3 hm
 have e : Lib.bitLenAux 64 m = Lib.bitLen m := rfl
 rw [e] at a b c
 have q1 : 2 ^ k < 2 ^ Lib.bitLen m := by omega
 have q2 : 2 ^ (Lib.bitLen m - 1) < 2 ^ (k + 1) := by omega
 have r1 := (Nat.pow_lt_pow_iff_right (a := 2) (by omega)).1 q1
 have r2 := (Nat.pow_lt_pow_iff_right (a := 2) (by omega)).1 q2
 omega
end Go.Proofs.YtmfmgeapecapiaaGreatDoor
namespace Go.Proofs.SzTree
open SzSha
set_option linter.unusedVariables false
/-- a part: its bounds, and whether it is inside -/
structure Pt where
 lo : Nat
 hi : Nat
 ins : Bool
deriving DecidableEq
def insB (f t lo hi : Nat) : Bool := decide (f ≤ lo) && decide (hi ≤ t)
def outB (f t lo hi : Nat) : Bool := decide (hi ≤ f) || decide (t ≤ lo)
def partsF : Nat → Nat → Nat → Nat → Nat → List Pt
 | 0, f, t, lo, hi => [⟨lo, hi, insB f t lo hi⟩]
 | n + 1, f, t, lo, hi => if insB f t lo hi || outB f t lo hi then [⟨lo, hi, insB f t lo hi⟩] else partsF n f t lo (lo + half (hi - lo)) ++ partsF n f t (lo + half (hi - lo)) hi
theorem cut_two {f t lo hi : Nat} (h : lo < hi) (hft : f < t) (hc : (insB f t lo hi || outB f t lo hi) = false) : 2 ≤ hi - lo := by
 unfold insB outB at hc
 simp only [Bool.or_eq_false_iff, Bool.and_eq_false_iff, decide_eq_false_iff_not] at hc
 omega
theorem partsF_fuel {f t : Nat} (hft : f < t) : ∀ n m lo hi, lo < hi → hi - lo ≤ n + 1 → hi - lo ≤ m + 1 → partsF n f t lo hi = partsF m f t lo hi
 | 0, 0, _, _, _, _, _ => rfl
 | 0, m + 1, lo, hi, h, h1, h2 => by
  conv => rhs; unfold partsF
  by_cases hc : (insB f t lo hi || outB f t lo hi) = true
  ·rw [if_pos hc]; rfl
  ·have := cut_two h hft (by simpa using hc); omega
 | n + 1, 0, lo, hi, h, h1, h2 => by
  conv => lhs; unfold partsF
  by_cases hc : (insB f t lo hi || outB f t lo hi) = true
  ·rw [if_pos hc]; rfl
  ·have := cut_two h hft (by simpa using hc); omega
 | n + 1, m + 1, lo, hi, h, h1, h2 => by
  unfold partsF
  by_cases hc : (insB f t lo hi || outB f t lo hi) = true
  ·rw [if_pos hc, if_pos hc]
  ·have h3 := cut_two h hft (by simpa using hc)
   have hb := half_bd h3
   rw [if_neg hc, if_neg hc, partsF_fuel hft n m lo _ (by omega) (by omega) (by omega), partsF_fuel hft n m _ hi (by omega) (by omega) (by omega)]
/-- the parts of lo .. hi -/
def parts (f t lo hi : Nat) : List Pt := partsF (hi - lo) f t lo hi
theorem parts_leaf {f t lo hi : Nat} (h : lo < hi) (hc : (insB f t lo hi || outB f t lo hi) = true) : parts f t lo hi = [⟨lo, hi, insB f t lo hi⟩] := by
 obtain ⟨k, e⟩ : ∃ k, hi - lo = k + 1 := ⟨hi - lo - 1, by omega⟩
 unfold parts
 rw [e]
 unfold partsF
 rw [if_pos hc]
theorem parts_cut {f t lo hi : Nat} (h : lo < hi) (hft : f < t) (hc : (insB f t lo hi || outB f t lo hi) = false) : parts f t lo hi = parts f t lo (lo + half (hi - lo)) ++ parts f t (lo + half (hi - lo)) hi := by
 have h2 := cut_two h hft hc
 have hb := half_bd h2
 obtain ⟨k, e⟩ : ∃ k, hi - lo = k + 1 := ⟨hi - lo - 1, by omega⟩
 unfold parts
 conv => lhs; rw [e]; unfold partsF
 rw [if_neg (by rw [hc]; simp), partsF_fuel hft k (lo + half (hi - lo) - lo) lo _ (by omega) (by omega) (by omega), partsF_fuel hft k (hi - (lo + half (hi - lo))) _ hi (by omega) (by omega) (by omega)]
/-- induction over the parts -/
theorem parts_ind {f t : Nat} (hft : f < t) {M : Nat → Nat → Prop} (leaf : ∀ lo hi, lo < hi → (insB f t lo hi || outB f t lo hi) = true → M lo hi) (cut : ∀ lo hi, lo < hi → (insB f t lo hi || outB f t lo hi) = false → 1 ≤ half (hi - lo) → half (hi - lo) < hi - lo → M lo (lo + half (hi - lo)) → M (lo + half (hi - lo)) hi → M lo hi) : ∀ n lo hi, lo < hi → hi - lo ≤ n → M lo hi
 | 0, lo, hi, h, hn => by omega
 | n + 1, lo, hi, h, hn => by
  by_cases hc : (insB f t lo hi || outB f t lo hi) = true
  ·exact leaf lo hi h hc
  ·have hc' : (insB f t lo hi || outB f t lo hi) = false := by simpa using hc
   have hb := half_bd (cut_two h hft hc')
   exact cut lo hi h hc' hb.1 hb.2 (parts_ind hft leaf cut n lo _ (by omega) (by omega)) (parts_ind hft leaf cut n _ hi (by omega) (by omega))
end Go.Proofs.SzTree
namespace Go.Proofs.YtmfmgeapecapiaaGreatDoor
open Go.RowKit SzSha SzTree
set_option linter.unusedVariables false
set_option maxRecDepth 100000
theorem wrap_nat {a b : Nat} (h : a + b ≤ 1000000) : wrap64 ((a : Int) + (b : Int)) = ((a + b : Nat) : Int) := by unfold wrap64; omega
theorem wrap_pow {k p : Nat} (h : 2 ^ k = p) (hp : p ≤ 1000000) : wrap64 ((2 : Int) ^ k) = (p : Int) := by
 have e3 : (2 : Int) ^ k = ((2 ^ k : Nat) : Int) := by simp
 rw [e3, h]
 unfold wrap64
 omega
theorem middle_any (lo hi : Nat) (w : World) (h2 : lo + 2 ≤ hi) (hn : hi ≤ 100000) : Calls Tryz.prog 84 #[.int .i64 (lo : Nat), .int .i64 (hi : Nat)] w fun e w' => e = .returned (.int .i64 ((lo + half (hi - lo) : Nat) : Int)) ∧ w = w' := by
 obtain ⟨n, HN⟩ : ∃ n, Hid (hi - lo = n) := ⟨_, hid rfl⟩
 have hn2 : 2 ≤ n := by have := HN.out; omega
 have hn3 : n ≤ 100000 := by have := HN.out; omega
 have HHI : Hid ((hi : Int) = (lo : Int) + (n : Int)) := hid (by have := HN.out; omega)
 have e0 : IntKind.i64.wrap ((lo : Int) + (n : Int) - (lo : Int)) = (n : Int) := by rw [IntWalk.i64_in _ (by omega)]; omega
 have e0' : (lo : Int) + (n : Int) - (lo : Int) = (n : Int) := by omega
 have e1 : IntKind.i64.wrap ((n : Int) - 1) = (n : Int) - 1 := IntWalk.i64_in _ (by omega)
 have e2 : IntKind.u64.wrap ((n : Int) - 1) = (n : Int) - 1 := by rw [IntKind.wrap_u64]; omega
 obtain ⟨k, HK⟩ : ∃ k, Hid (Nat.log2 (n - 1) = k) := ⟨_, hid rfl⟩
 have hlog := (Nat.log2_eq_iff (n := n - 1) (k := k) (by omega)).1 HK.out
 have hk : k ≤ 62 := by
  apply Classical.byContradiction
  intro hc
  have : 2 ^ 63 ≤ 2 ^ k := Nat.pow_le_pow_right (by omega) (by omega)
  omega
 have HE : Hid (half n = 2 ^ k) := hid (by rw [half_log hn2 (by omega), HK.out])
 have HB : Hid (Lib.bitLen (n - 1) = k + 1) := hid (bitLen_log hlog.1 hlog.2 (by omega))
 have hw : IntKind.i64.wrap (((k + 1 : Nat) : Int) - 1) = (k : Int) := by rw [IntWalk.i64_in _ (by omega)]; omega
 have hw2 : IntKind.i64.wrap ((k : Int) + 1 - 1) = (k : Int) := by rw [IntWalk.i64_in _ (by omega)]; omega
 obtain ⟨p, HP⟩ : ∃ p : Nat, Hid (2 ^ k = p) := ⟨_, hid rfl⟩
 have hb := half_bd hn2
 have hpn : p < n := by have h1 := HE.out; have h2 := HP.out; omega
 have hlo : lo ≤ 100000 := by have := HN.out; omega
 have hs0 : lo + p ≤ 1000000 := by have := HN.out; omega
 have HZ := hid (wrap_pow HP.out (by omega))
 have HSUM := hid (wrap_nat hs0)
 clear hlog hb hs0
 rw [HN.out, HE.out, HP.out]
 rw [show (Value.int .i64 (hi : Int)) = .int .i64 ((lo : Int) + (n : Int)) by rw [HHI.out]]
 go_enter Tryz.func84, Tryz.ntmps84
 go_wp2_with fail
 refine (Tryz.bits_Len ((n : Int) - 1) w (by omega) (by omega)).mono ?_
 rintro e w2 ⟨rfl, rfl⟩
 rw [show ((n : Int) - 1).toNat = n - 1 by omega, HB.out]
 go_wp2_with fail
 rw [HZ.out, HSUM.out]
 go_ret
 exact ⟨rfl, rfl⟩
def ftB (f t m : Int) : Bool := decide (0 ≤ f) && (decide (f < t) && (decide (t ≤ m) && decide (m ≤ 4096)))
theorem fits_any (f t m : Int) (w : World) : Calls Tryz.prog 76 #[.int .i64 f, .int .i64 t, .int .i64 m] w fun e w' => e = .returned (.bool (ftB f t m)) ∧ w = w' := by
 unfold ftB
 by_cases h0 : 0 ≤ f
 ·have d0 : decide (0 ≤ f) = true := eQ h0
  by_cases h1 : f < t
  ·have d1 : decide (f < t) = true := eQ h1
   by_cases h2 : t ≤ m
   ·have d2 : decide (t ≤ m) = true := eQ h2
    go_enter Tryz.func76, Tryz.ntmps76
    go_wp2_with fail
    go_ret
    exact ⟨by first | rfl | (rw [d0, d1, d2]; rfl), rfl⟩
   ·have d2 : decide (t ≤ m) = false := dQ h2
    go_enter Tryz.func76, Tryz.ntmps76
    go_wp2_with fail
    go_ret
    exact ⟨by first | rfl | (rw [d0, d1, d2]; rfl), rfl⟩
  ·have d1 : decide (f < t) = false := dQ h1
   go_enter Tryz.func76, Tryz.ntmps76
   go_wp2_with fail
   go_ret
   exact ⟨by first | rfl | (rw [d0, d1]; rfl), rfl⟩
 ·have d0 : decide (0 ≤ f) = false := dQ h0
  go_enter Tryz.func76, Tryz.ntmps76
  go_wp2_with fail
  go_ret
  exact ⟨by first | rfl | (rw [d0]; rfl), rfl⟩
/-- a panic with an error -/
def failP (e : Int) : List PanicEntry := [{ v := .iface 160 (.agg #[.int .i64 e]), recovered := false }]
theorem demand_yes (z : Int) (w : World) : Calls Tryz.prog 75 #[.bool true, .int .i64 z] w fun e w' => e = .returned (.tuple #[]) ∧ w = w' := by
 go_enter Tryz.func75, Tryz.ntmps75
 go_wp2_with fail
 go_end0
 exact ⟨rfl, rfl⟩
theorem demand_no (z : Int) (w : World) : Calls Tryz.prog 75 #[.bool false, .int .i64 z] w fun e w' => e = .panicked (failP z) ∧ w = w' := by
 go_enter Tryz.func75, Tryz.ntmps75
 go_wp2_with fail
 exact ⟨rfl, rfl, rfl⟩
theorem try_ok (w : World) : Calls Tryz.prog 74 #[.int .i64 0] w fun e w' => e = .returned (.tuple #[]) ∧ w = w' := by
 go_enter Tryz.func74, Tryz.ntmps74
 go_wp2_with fail
 refine (demand_yes 0 w).mono ?_
 rintro e w' ⟨rfl, rfl⟩
 go_wp2_with fail
 go_end0
 exact ⟨rfl, rfl⟩
theorem try_no (z : Int) (hz : z ≠ 0) (w : World) : Calls Tryz.prog 74 #[.int .i64 z] w fun e w' => e = .panicked (failP z) ∧ w = w' := by
 have h0 : (z == 0) = false := by simpa using hz
 go_enter Tryz.func74, Tryz.ntmps74
 go_wp2_with fail
 refine (demand_no z w).mono ?_
 rintro e w' ⟨rfl, rfl⟩
 exact ⟨rfl, rfl, rfl⟩
theorem caught_nil (p : Value) (w : World) : Calls Tryz.prog 73 #[.nilIface, p] w fun e w' => e = .returned (.tuple #[]) ∧ w = w' := by
 go_enter Tryz.func73, Tryz.ntmps73
 go_wp2_with fail
 go_end0
 exact ⟨rfl, rfl⟩
theorem fail_yes (W : World) (v : Value) : (Instr.typeAssert (.iface 160 v) 20 160 true).run Tryz.prog W = .ok (.tuple #[v, .bool true]) W := by kernel_rfl
theorem caught_fail (z z0 : Int) (b : Nat) (w : World) (hc : w.cell? ⟨b, 0, none⟩ = some (.int .i64 z0)) (hf : w.frozen? ⟨b, 0, none⟩ = false) : Calls Tryz.prog 73 #[.iface 160 (.agg #[.int .i64 z]), .pointer (some ⟨b, 0, none⟩)] w fun e w' => e = .returned (.tuple #[]) ∧ (w.setCell ⟨b, 0, none⟩ (.int .i64 z)).alloc (.cells #[.int .i64 z] 160) = w' := by
 have hlt : b < w.heap.size := block_lt_of_cell hc
 have hta := fail_yes
 have hba := (Below.refl w.heap.size w).alloc (Nat.le_refl _) (.cells #[.int .i64 z] 160)
 have hc2 := (hba.cell (p := ⟨b, 0, none⟩) hlt).trans hc
 have hf2 := (hba.frozen (p := ⟨b, 0, none⟩) hlt).trans hf
 go_enter Tryz.func73, Tryz.ntmps73
 go_wp2_with fail
 go_end0
 exact ⟨rfl, rfl⟩
end Go.Proofs.YtmfmgeapecapiaaGreatDoor
