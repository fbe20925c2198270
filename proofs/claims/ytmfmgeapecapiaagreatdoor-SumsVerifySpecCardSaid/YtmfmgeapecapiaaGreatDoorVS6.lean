/- Claims and transcripts that came in. The kit of layers 42 and 43. sizar/sums.Cover. sizar/sums.Show: the deferred closure. sizar/digest: leaf, node. sizar/disclose: in, validLine, validClaim, the numbers of lines and claims, lines, claims. sizar/digest.Climb. Lines and claims: values, numbers, order. sizar/disclose: check of a list (lines). -/
import Derived.Test.YtmfmgeapecapiaaGreatDoorVS5
import Derived.Test.YtmfmgeapecapiaaGreatDoorVS0
import Derived.Maps.AppendAt
import Derived.Laws.AppendOwn
import Derived.Test.YtmfmgeapecapiaaGreatDoorVS4
import Derived.RecoverIn
import Derived.Laws.Pointers
set_option maxHeartbeats 64000001
open Go.Lib (hid)
namespace Go.Proofs.YtmfmgeapecapiaaGreatDoor
open Go.ChangeShapes Go.WideShapes Go.ChangeAt Go.RowKit SzSha SzTree Go.Deep
set_option linter.unusedVariables false
set_option maxRecDepth 100000
/-- a claim -/
structure Cl where
 p : Int
 r : Int
 m : Bool
def clC (c : Cl) : List Value := [.int .i64 c.p, .int .i64 c.r, .bool c.m]
structure ClOk (c : Cl) : Prop where
 b0 : I64 c.p
 b1 : I64 c.r
instance : Inhabited Cl := ⟨⟨0, 0, false⟩⟩
/-- a slice of claims that came in -/
structure InCl (w : World) (A : Option Addr) (n c : Nat) (ls : List Cl) : Prop where
 len : ls.length = n
 cap : n ≤ c
 none_ : A = none → c = 0
 ok : ∀ x ∈ ls, ClOk x
 rd : 0 < ls.length → ∃ g off, A = some ⟨g, off, none⟩ ∧ g < w.heap.size ∧ w.rangeAt g off (ls.flatMap clC)
/-- a transcript; where its slices lie -/
structure Tr where
 cam : Int
 stu : Int
 ver : Int
 kno : Int
 ln : List Ln
 cl : List Cl
 salt : List Nat
structure TrP where
 A : Option Addr
 n : Nat
 c : Nat
 A2 : Option Addr
 n2 : Nat
 c2 : Nat
def trC (t : Tr) (p : TrP) : List Value := [.int .i64 t.cam, .int .i64 t.stu, .int .i64 t.ver, .int .i64 t.kno, .slice p.A p.n p.c, .slice p.A2 p.n2 p.c2] ++ t.salt.map fun x => Value.int .u8 (x : Nat)
def trV (t : Tr) (p : TrP) : Value := .agg (trC t p).toArray
structure TrOk (w : World) (t : Tr) (p : TrP) : Prop where
 b0 : I64 t.cam
 b1 : I64 t.stu
 b2 : I64 t.ver
 b3 : I64 t.kno
 ln : InLn w p.A p.n p.c t.ln
 cl : InCl w p.A2 p.n2 p.c2 t.cl
 len : t.salt.length = 32
 bytes : Bytes t.salt
 mn : p.n ≤ maxLen
 mc : p.n2 ≤ maxLen
section
variable {H : Type} {enc : TypeId × Value → H} {W : World} {base : Nat} {fuel : Nat}
/-- a slice of elements of k cells each, read out of its cell -/
theorem trod_rows {α : Type} {t e : TypeId} {k : Nat} {cells : α → List Value} {ok : α → Prop} (hk : 0 < k) (ht : Tryz.prog.underlying t = some (.slice e)) (ce : Tryz.prog.cellsOf e = k) (hlenc : ∀ x, ok x → (cells x).length = k) (hel : ∀ (n : Nat) (cs : List Value) (y : DataW H × List MemPlace), DataW.trod enc Tryz.prog W 0 (fun _ => true) true n e cs = some y → ∃ x, cs = cells x ∧ ok x) [Inhabited α]
  {cs : List Value} {y : DataW H × List MemPlace} (hf : DataW.trod enc Tryz.prog W 0 (fun _ => true) true fuel t cs = some y) :
  ∃ (A : Option Addr) (n c : Nat) (ls : List α), cs = [.slice A n c] ∧ ls.length = n ∧ n ≤ c ∧ (A = none → c = 0) ∧ (∀ x ∈ ls, ok x) ∧ (0 < ls.length → ∃ g off, A = some ⟨g, off, none⟩ ∧ g < W.heap.size ∧ W.rangeAt g off (ls.flatMap cells)) ∧ c ≤ maxLen := by
 rcases open_slice ht hf with ⟨hcs, hx⟩ | ⟨a, len, cap, m, n, D, Pl, hcs, _, hl, hm, hmm, hx, hget⟩
 ·subst hcs
  exact ⟨none, 0, 0, [], rfl, rfl, Nat.le_refl _, fun _ => rfl, (fun x hx => by cases hx), (fun h => by simp at h), Nat.zero_le _⟩
 ·subst hcs
  simp only [if_true] at hmm
  have each : ∀ i, i < len → ∃ x : α, ok x ∧ ∀ j u, (cells x)[j]? = some u → W.cell? ((a.add (i * k)).add j) = some u := fun i hi => by
   obtain ⟨cs', h1, h2⟩ := hget i (by omega)
   rw [ce] at h1
   obtain ⟨x, rfl, ho⟩ := hel _ _ _ h2
   obtain ⟨_, hlen', hcell⟩ := World.cells?_some h1
   refine ⟨x, ho, fun j u hj => ?_⟩
   have hj2 : j < k := by have := (List.getElem?_eq_some_iff.1 hj).1; omega
   rw [hcell j hj2]; exact hj
  obtain ⟨f, hf2⟩ := choose_lt each
  refine ⟨some a, len, cap, (List.range len).map f, rfl, by simp, hl, (fun h => by cases h), fun x hx => ?_, fun h0 => ?_, hm⟩
  ·obtain ⟨i, hi, rfl⟩ := List.mem_map.1 hx
   exact (hf2 i (by simpa using hi)).1
  ·have hl0 : 0 < len := by simpa using h0
   have hle : ∀ i, i < len → (cells (f i)).length = k := fun i hi => hlenc _ (hf2 i hi).1
   have c0 := (hf2 0 hl0).2 0 ((cells (f 0))[0]'(by rw [hle 0 hl0]; exact hk)) (List.getElem?_eq_getElem _)
   obtain ⟨ab, ao, spot⟩ := a
   have hspot : spot = none := by simpa [Addr.add] using World.cell?_spot c0
   subst hspot
   rw [Addr.add_lit, Addr.add_lit] at c0
   refine ⟨ab, ao, rfl, block_lt_of_cell c0, rangeAt_flat (k := k) _ _ (fun x hx => ?_) (fun i hi j u hj => ?_)⟩
   ·obtain ⟨i, hi, rfl⟩ := List.mem_map.1 hx
    exact hle i (by simpa using hi)
   ·have hi2 : i < len := by simpa using hi
    have hj' : (cells (f i))[j]? = some u := by simpa using hj
    have := (hf2 i hi2).2 j u hj'
    rwa [Addr.add_lit, Addr.add_lit] at this
end
theorem row_kept {w w' : World} {b : Nat} {cs : Array Value} {t : TypeId} (h : w.heap[b]? = some (.cells cs t (0, 0))) (hb : Below w.heap.size w w') : w'.heap[b]? = some (.cells cs t (0, 0)) := (hb.block b (Array.getElem?_eq_some_iff.1 h).1).trans h
theorem wpList_unguard {P : Program} {ops : Array Oper} {rest : List Oper} {o : Oper} {a : Act} {w : World} {Q : Exit → Act → World → Prop} (hw : Region.wanted o (yielded ops a.tmps) = true) (h : wpList P ops Q ({ o with guard := none } :: rest) a w) : wpList P ops Q (o :: rest) a w := by
 unfold wpList at h ⊢
 rw [if_pos hw]
 rw [if_pos (by unfold Region.wanted; rfl)] at h
 exact h
open Go.Shelf
attribute [local go_sem] Oper.semAt_some
/-- a part's bounds as cells -/
def spC (x : Pt) : List Value := [.int .i64 (x.lo : Nat), .int .i64 (x.hi : Nat)]
def flatS (ls : List Pt) : List Value := ls.flatMap spC
theorem flatS_append (a b : List Pt) : flatS (a ++ b) = flatS a ++ flatS b := by unfold flatS; rw [List.flatMap_append]
theorem flatS_length : ∀ ls : List Pt, (flatS ls).length = ls.length * 2
 | [] => rfl
 | x :: ls => by
  show (spC x ++ flatS ls).length = _
  rw [List.length_append, flatS_length ls, List.length_cons]
  show 2 + _ = _
  omega
theorem flatS_one (ls : List Pt) : ∀ u ∈ flatS ls, u.oneCell' = true := fun u hu => by
 obtain ⟨n, _, h⟩ := List.mem_flatMap.1 hu
 unfold spC at h
 simp only [List.mem_cons, List.not_mem_nil, or_false] at h
 rcases h with rfl | rfl <;> rfl
theorem info_span : ∃ i, Tryz.prog.info? 119 = some i ∧ i.zero = some (.agg #[.int .i64 0, .int .i64 0]) ∧ i.size = 2 ∧ i.bytes = 16 := by
 refine ⟨_, rfl, ?_, ?_, ?_⟩ <;> kernel_rfl
theorem fill_span1 (n : Pt) {i : TypeInfo} {z : Value} (hs : i.size = 2) : Instr.fill (fun j => some (j * i.size, i.size)) ((Array.range (1 * i.size)).map (z.cells[· % z.cells.size]!)) [(0, .agg (spC n).toArray)] = some (flatS [n]).toArray := by
 rw [hs]
 have e1 : ([(0, .agg (spC n).toArray)] : List (Nat × Value)) = (([.agg (spC n).toArray] : List Value).zipIdx 0).map fun x => (x.2, x.1) := by simp
 rw [e1, Great.fill_whole (by omega) [.agg (spC n).toArray] _ (fun v hv => by
  simp only [List.mem_cons, List.not_mem_nil, or_false] at hv
  subst hv; rfl) (by simp)]
 rfl
theorem wpListIn_build_span1 {F : Fence} {nF : Nat} {w : World} {ops : Array Oper} {rest : List Oper} {o : Oper} {a : Act} {Q : Exit → Act → World → Prop} (hg : o.guard = none) (x : Operand)
  (ho : o.op = .buildSlice 114 1 #[(0, x)]) (n : Pt) (hx : a.eval x = .agg (spC n).toArray)
  (h : wpListIn F nF Tryz.prog ops Q rest (a.put o.dst (.slice (some ⟨w.heap.size, 0, none⟩) 1 1)) (w.alloc (.cells (flatS [n]).toArray 119))) : wpListIn F nF Tryz.prog ops Q (o :: rest) a w := by
 obtain ⟨i0, hi, hz, hs, _⟩ := info_span
 refine wpListIn_buildSlice hg 114 119 1 _ ho _ i0 _ Tryz.underlying114 hi hz (by rw [hs]; omega) (by rw [hs]; omega) ?_ h
 have e1 : (#[(0, x)].map fun (i, x) => (i, a.eval x)).toList = [(0, .agg (spC n).toArray)] := by simp [hx]
 rw [e1]; exact fill_span1 n hs
def OwnS (w : World) (base : Nat) (v : Value) (ls : List Pt) : Prop := w.ownsRow base 119 2 v ls.length (flatS ls)
theorem OwnS.nil (w : World) (base : Nat) : OwnS w base (.slice none 0 0) [] := ⟨rfl, .inl ⟨rfl, rfl⟩⟩
theorem OwnS.kept {w w' : World} {base : Nat} {v : Value} {ls : List Pt} (h : OwnS w base v ls) (hk : ∀ g, v.ownBlock = some g → w'.heap[g]? = w.heap[g]?) : OwnS w' base v ls := by
 refine ⟨h.1, ?_⟩
 rcases h.2 with h0 | ⟨g, cap, cur, rfl, hb, hh, r⟩
 ·exact .inl h0
 ·exact .inr ⟨g, cap, cur, rfl, hb, (hk g rfl).trans hh, r⟩
theorem OwnS.block {w : World} {base : Nat} {v : Value} {ls : List Pt} (h : OwnS w base v ls) (g : Nat) (hg : v.ownBlock = some g) : base ≤ g ∧ g < w.heap.size ∧ ∃ cur, w.heap[g]? = some (.cells cur 119 (0, 0)) := by
 rcases h.2 with ⟨rfl, h0⟩ | ⟨g', cap, cur, rfl, hb, hh, r⟩
 ·cases hg
 ·have : g' = g := by simpa [Value.ownBlock] using hg
  subst this
  exact ⟨hb, (Array.getElem?_eq_some_iff.1 hh).1, cur, hh⟩
theorem OwnS.below {w w' : World} {base : Nat} {v : Value} {ls : List Pt} (h : OwnS w base v ls) (hb : Below w.heap.size w w') : OwnS w' base v ls := h.kept fun g hg => hb.block g (h.block g hg).2.1
theorem OwnS.form {w : World} {base : Nat} {v : Value} {ls : List Pt} (h : OwnS w base v ls) : ∃ A n c, v = .slice A n c := by
 rcases h.2 with ⟨rfl, h0⟩ | ⟨g, cap, cur, rfl, r⟩
 ·exact ⟨_, _, _, rfl⟩
 ·exact ⟨_, _, _, rfl⟩
theorem OwnS.own {w w' : World} {base : Nat} {v : Value} {ls : List Pt} {row : Option Nat} (h : OwnS w base v ls) (hg : w.grownBy w' row) (hr : ∀ r, row = some r → ∃ o : Obj, w.heap[r]? = some o ∧ o.isCells = false) : OwnS w' base v ls := h.kept fun g hgg => by
 obtain ⟨_, hlt, cur, hc⟩ := h.block g hgg
 refine hg.block g hlt (fun e => ?_)
 obtain ⟨o, ho, hn⟩ := hr g e.symm
 rw [ho] at hc; cases hc; cases hn
/-- a slice of spans -/
structure InS (w : World) (A : Option Addr) (n c : Nat) (ls : List Pt) : Prop where
 len : ls.length = n
 cap : n ≤ c
 none_ : A = none → c = 0
 rd : 0 < ls.length → ∃ g off, A = some ⟨g, off, none⟩ ∧ g < w.heap.size ∧ w.rangeAt g off (flatS ls)
theorem InS.below {w w' : World} {A : Option Addr} {n c : Nat} {ls : List Pt} (h : InS w A n c ls) (hb : Below w.heap.size w w') : InS w' A n c ls :=
 ⟨h.len, h.cap, h.none_, fun h0 => by
  obtain ⟨g, off, e, hg, hr⟩ := h.rd h0
  exact ⟨g, off, e, Nat.lt_of_lt_of_le hg hb.size, rangeAt_below hr hg hb⟩⟩
theorem OwnS.slice {w : World} {base : Nat} {v : Value} {ls : List Pt} (h : OwnS w base v ls) : ∃ A n c, v = .slice A n c ∧ InS w A n c ls := by
 rcases h.2 with ⟨rfl, h0⟩ | ⟨g, cap, cur, rfl, hb, hh, hc, hm, hs, ht⟩
 ·exact ⟨none, 0, 0, rfl, ⟨h0, Nat.le_refl _, fun _ => rfl, fun h1 => by omega⟩⟩
 ·refine ⟨_, _, cap, rfl, ⟨rfl, hc, (fun e => by cases e), fun _ => ⟨g, 0, rfl, (Array.getElem?_eq_some_iff.1 hh).1, fun j u hj => ?_⟩⟩⟩
  have hj2 : j < ls.length * 2 := by rw [← flatS_length ls]; exact (List.getElem?_eq_some_iff.1 hj).1
  rw [Nat.zero_add, cell_of_row w g j cur _ _ hh]
  rw [← ht, List.getElem?_take_of_lt hj2] at hj
  simpa using hj
theorem wpListIn_append_span {F : Fence} {nF : Nat} {w : World} {ops : Array Oper} {rest : List Oper} {o : Oper} {a : Act} {Q : Exit → Act → World → Prop} (hgd : o.guard = none) (s x : Operand)
  (ho : o.op = .call { callee := .builtin .append, args := #[s, x], argTypes := #[114, 114] })
  (base : Nat) (v : Value) (ls : List Pt) (n : Pt) (hs : a.eval s = v) (hown : Hid (OwnS w base v ls)) (g : Nat) (hx : a.eval x = .slice (some ⟨g, 0, none⟩) 1 1)
  (hr : Hid (w.heap[g]? = some (.cells (flatS [n]).toArray 119 (0, 0)))) (hlen : ls.length ≤ 100000) (hbase : base ≤ w.heap.size)
  (h : ∀ v' w', Hid (OwnS w' base v' (ls ++ [n])) → Hid (w.grownBy w' v.ownBlock) → Hid (v'.ownBlock = v.ownBlock ∨ v'.ownBlock = some w.heap.size) → wpListIn F nF Tryz.prog ops Q rest (a.put o.dst v') w') : wpListIn F nF Tryz.prog ops Q (o :: rest) a w := by
 obtain ⟨i0, hi, hz, hz1, hz2⟩ := info_span
 refine wpListIn_append_own_at _ hgd s x _ ho base _ i0 _ 2 16 Tryz.underlying114 hi hz hz1 hz2 (by simp [Value.cells]) (by omega) v _ _ hs hown.out ⟨g, 0, none⟩ 1 1 (flatS [n]) hx (by rw [flatS_length]; rfl) (fun j u hu => by rw [add_row]; exact range_row hr.out j u hu) (flatS_one _) (by unfold maxLen; omega) (by omega) hbase ?_
 intro v' w' h1 h2 h3 h4
 refine h v' w' (hid ?_) (hid h2) (hid h4)
 unfold OwnS
 rw [flatS_append, List.length_append]; exact h1
/-- a block that is neither the box B nor what the slice in its cell o owns -/
def FrB (B o : Nat) (b : Nat) (W : World) : Prop := b ≠ B ∧ ∃ cs t f v, W.heap[B]? = some (.cells cs t f) ∧ cs[o]? = some v ∧ v.ownBlock ≠ some b
theorem frB_own (B o M : Nat) : FrOwn M (FrB B o) := fun b s W W' row hs hg hr => by
 obtain ⟨h1, cs, t, f, v, h2, h3, h4⟩ := hs
 refine ⟨h1, cs, t, f, v, (hg.block B (Array.getElem?_eq_some_iff.1 h2).1 (fun e => ?_)).trans h2, h3, h4⟩
 obtain ⟨o, ho, hn⟩ := (hr B e.symm).2
 rw [ho] at h2; cases h2; cases hn
theorem ownS_own (b base : Nat) (t : TypeId) {β : Type} (f : β → List Pt) : Own (fun s W => ∃ v, Boxed W b t v ∧ OwnS W base v (f s)) := fun s W W' row hs hg hrow => by
 obtain ⟨v, hb, ho⟩ := hs
 exact ⟨v, row_own b t #[v] s W W' row hb hg hrow, ho.own hg hrow⟩
theorem setCell_other_row {w : World} {B o b : Nat} {cs : Array Value} {t : TypeId} {q : Obj} {v : Value} (hB : w.heap[B]? = some (.cells cs t (0, 0))) (hb : w.heap[b]? = some q) (hne : b ≠ B) : (w.setCell ⟨B, o, none⟩ v).heap[b]? = some q := by
 rw [setCell_eq_setRow w B o cs t (0, 0) v hB]
 exact (setRow_other w B b _ hne).trans hb
/-- an append to the slice in the box leaves the other blocks -/
theorem frB_kept {V w1 : World} {B o : Nat} {t : TypeId} {cs : Array Value} {v v' : Value} {tmp : Obj} (hB : V.heap[B]? = some (.cells cs t (0, 0))) (hv : cs[o]? = some v) (h1 : w1.heap[B]? = some (.cells cs t (0, 0)))
  (hg : (V.alloc tmp).grownBy w1 v.ownBlock) (ho : v'.ownBlock = v.ownBlock ∨ v'.ownBlock = some (V.alloc tmp).heap.size) : KpF (FrB B o) V (w1.setCell ⟨B, o, none⟩ v') := by
 have e := setCell_eq_setRow w1 B o cs t (0, 0) v' h1
 have hsz : V.heap.size ≤ w1.heap.size := by have := hg.size; rw [World.size_alloc] at this; omega
 refine ⟨by rw [e, setRow_size]; exact hsz, fun b q hfr hq => ?_⟩
 obtain ⟨hne, cs2, t2, f2, u, hB2, hu, hown⟩ := hfr
 rw [hB] at hB2
 cases hB2
 rw [hv] at hu
 cases hu
 have hlt := (Array.getElem?_eq_some_iff.1 hq).1
 have hq2 : w1.heap[b]? = some q := (hg.block b (by rw [World.size_alloc]; omega) (fun e2 => hown e2.symm)).trans ((Below.heap_alloc V tmp b hlt).trans hq)
 refine ⟨⟨hne, cs.setIfInBounds o v', t, (0, 0), v', by rw [e]; exact setRow_heap _ _ _ _ _ _ h1, ?_, ?_⟩, setCell_other_row h1 hq2 hne⟩
 ·have hol := (Array.getElem?_eq_some_iff.1 hv).1
  simp [hol]
 ·rcases ho with e2 | e2
  ·rw [e2]; exact hown
  ·rw [e2, World.size_alloc]
   intro e3
   cases e3
   omega
theorem parts_length {f t : Nat} (hft : f < t) (lo hi : Nat) (h : lo < hi) : (parts f t lo hi).length ≤ hi - lo :=
 parts_ind hft (M := fun lo hi => (parts f t lo hi).length ≤ hi - lo) (fun lo hi hlt hc => by rw [parts_leaf hlt hc]; simp; omega) (fun lo hi hlt hc h1 h2 i1 i2 => by rw [parts_cut hlt hft hc, List.length_append]; omega) (hi - lo) lo hi h (Nat.le_refl _)
theorem ftB_no {f t m : Int} (h : ¬ (0 ≤ f ∧ f < t ∧ t ≤ m ∧ m ≤ 4096)) : ftB f t m = false := by
 unfold ftB
 by_cases h0 : 0 ≤ f
 ·by_cases h1 : f < t
  ·by_cases h2 : t ≤ m
   ·have h3 : ¬ m ≤ 4096 := fun h3 => h ⟨h0, h1, h2, h3⟩
    simp [h0, h1, h2, h3]
   ·simp [h0, h1, h2]
  ·simp [h0, h1]
 ·simp [h0]
theorem ftB_yes {f t m : Int} (h : 0 ≤ f ∧ f < t ∧ t ≤ m ∧ m ≤ 4096) : ftB f t m = true := by
 unfold ftB; simp [h.1, h.2.1, h.2.2.1, h.2.2.2]
set_option maxRecDepth 100000 in
theorem cover_no (f t m : Int) (w : World) (h : ¬ (0 ≤ f ∧ f < t ∧ t ≤ m ∧ m ≤ 4096)) :
  Calls Tryz.prog 70 #[.int .i64 f, .int .i64 t, .int .i64 m] w fun e w' => e = .returned (.tuple #[.slice none 0 0, .int .i64 430]) ∧ Below w.heap.size w w' := by
 have hft := ftB_no h
 have hr := heap_alloc_new w (.cells #[.slice none 0 0] 114)
 have hb := (Below.refl _ w).alloc (Nat.le_refl _) (.cells #[.slice none 0 0] 114)
 have c0 := cell_of_row _ _ 0 _ _ _ hr
 have f0 := frozen_of_row _ _ 0 _ _ hr
 have HB := hid hb
 have HF := hid hft
 clear hr hb hft h
 refine (callsIn_wide (n := 5)).1 ?_
 refine callsIn_of_wp_marks Tryz.func70 rfl trivial ?_ rfl
 simp only [Tryz.ntmps70, List.size_toArray, List.length_cons, List.length_nil, Nat.reduceAdd, Nat.reduceSub, Array.replicate_succ, Array.replicate_zero, List.push_toArray, List.append_toArray, List.nil_append, List.cons_append]
 gi_wp2_with (refine ⟨trivial, ?_⟩; gi_at_call 76; refine (callsIn_wide.2 (fits_any f t m _)).mono ?_; rintro e w' ⟨rfl, rfl⟩; rw [HF.out])
 refine ⟨.tuple #[.slice none 0 0, .int .i64 430], ?_, rfl, HB.out⟩
 simp [results, Tryz.results70, asAddr, c0, go_sem]
set_option maxRecDepth 100000 in
theorem cover_yes (f t m : Nat) (w : World) (h1 : f < t) (h2 : t ≤ m) (h3 : m ≤ 4096) :
  Calls Tryz.prog 70 #[.int .i64 (f : Nat), .int .i64 (t : Nat), .int .i64 (m : Nat)] w fun e w' => ∃ A n c, e = .returned (.tuple #[.slice A n c, .int .i64 0]) ∧ InS w' A n c ((parts f t 0 m).filter (·.ins)) ∧ Below w.heap.size w w' := by
 have HF := hid (ftB_yes (f := (f : Int)) (t := (t : Int)) (m := (m : Int)) (by omega))
 obtain ⟨W1, HW1⟩ : ∃ V, Hid (w.alloc (.cells #[.slice none 0 0] 114) = V) := ⟨_, hid rfl⟩
 have hr := heap_alloc_new w (.cells #[.slice none 0 0] 114)
 have hb := (Below.refl _ w).alloc (Nat.le_refl _) (.cells #[.slice none 0 0] 114)
 have hs1 : W1.heap.size = w.heap.size + 1 := by rw [← HW1.out]; simp
 rw [HW1.out] at hr hb
 obtain ⟨W2, HW2⟩ : ∃ V, Hid ((W1.alloc (.cells #[.int .i64 (f : Nat), .int .i64 (t : Nat)] 119)).alloc (.cells #[.int .i64 0, .int .i64 (m : Nat)] 119) = V) := ⟨_, hid rfl⟩
 have hba := ((Below.refl _ W1).alloc (Nat.le_refl _) (.cells #[.int .i64 (f : Nat), .int .i64 (t : Nat)] 119)).alloc (by simp) (.cells #[.int .i64 0, .int .i64 (m : Nat)] 119)
 have hra := (Below.heap_alloc (W1.alloc (.cells #[.int .i64 (f : Nat), .int .i64 (t : Nat)] 119)) (.cells #[.int .i64 0, .int .i64 (m : Nat)] 119) W1.heap.size (by simp)).trans (heap_alloc_new W1 (.cells #[.int .i64 (f : Nat), .int .i64 (t : Nat)] 119))
 have hrb := heap_alloc_new (W1.alloc (.cells #[.int .i64 (f : Nat), .int .i64 (t : Nat)] 119)) (.cells #[.int .i64 0, .int .i64 (m : Nat)] 119)
 have hs2 : W2.heap.size = w.heap.size + 3 := by rw [← HW2.out]; simp; omega
 rw [World.size_alloc] at hrb
 rw [HW2.out] at hba hra hrb
 have hr2 := row_kept hr hba
 have HPT : Hid (PtsAt (FrB w.heap.size 0) f t 0 m W1.heap.size (W1.heap.size + 1) W2) := hid ⟨hra, hrb, ⟨by omega, _, _, _, _, hr2, rfl, by simp [Value.ownBlock]⟩, ⟨by omega, _, _, _, _, hr2, rfl, by simp [Value.ownBlock]⟩⟩
 have HR2 := hid hr2
 have HB2 := hid (hb.trans (hba.mono hb.size))
 have HS1 := hid hs1
 have HS2 := hid hs2
 clear hr hb hba hra hrb hr2 hs1 hs2
 refine (callsIn_wide (n := 5)).1 ?_
 refine callsIn_of_wp_marks Tryz.func70 rfl trivial ?_ rfl
 simp only [Tryz.ntmps70, List.size_toArray, List.length_cons, List.length_nil, Nat.reduceAdd, Nat.reduceSub, Array.replicate_succ, Array.replicate_zero, List.push_toArray, List.append_toArray, List.nil_append, List.cons_append]
 gi_wp2_with (first | (rw [HW1.out]) | (refine ⟨trivial, ?_⟩; gi_at_call 76; refine (callsIn_wide.2 (fits_any _ _ _ _)).mono ?_; rintro e w' ⟨rfl, rfl⟩; rw [HF.out]) | (refine ⟨trivial, ?_⟩; gi_at_call 77; refine (callsIn_wide.2 (parts_any f t 0 m _)).mono ?_; rintro e w' ⟨rfl, rfl⟩; rw [show ((0 : Nat) : Int) = 0 from rfl, HW2.out]))
 refine rangeFunc_own (gf := 120) (lb := #[.pointer (some ⟨W1.heap.size, 0, none⟩), .pointer (some ⟨W1.heap.size + 1, 0, none⟩)]) rfl (enters_of Tryz.func120 (by kernel_rfl) rfl)
  (parts1_seq f t h1 (by omega) 0 m (by omega) (by omega) (FrB w.heap.size 0) _ _ _ HPT) (fun _ => rfl)
  (fun pre V => (∃ v, Boxed V w.heap.size 114 v ∧ OwnS V w.heap.size v (pre.filter (·.ins))) ∧ Below w.heap.size w V)
  (fun _ _ _ => False)
  (OwnFrom.and (Own.from (ownS_own _ _ _ _) _) (ownFrom_below (Nat.le_refl _) HB2.out.size))
  (fun _ _ _ _ _ hs _ _ => hs)
  (frB_own _ _ _)
  (fun pre V o hs => by
   obtain ⟨⟨v, hb, ho⟩, hB⟩ := hs
   have hlt := (Array.getElem?_eq_some_iff.1 hb).1
   refine ⟨by omega, _, _, _, v, (Below.heap_alloc V o _ hlt).trans hb, rfl, fun e => ?_⟩
   have := (ho.block _ e).2.1
   omega)
  ⟨⟨_, HR2.out, OwnS.nil _ _⟩, HB2.out⟩
  (fun x a' V => ∃ sb, a' = { tmps := #[.int .i64 (f : Nat), .int .i64 (t : Nat), .int .i64 (m : Nat), undef, undef, undef, .pointer (some ⟨w.heap.size, 0, none⟩), .int .i64 0, .pointer (some ⟨sb, 0, none⟩), .bool x.ins, .int .i64 (f : Nat), .int .i64 (t : Nat), .int .i64 (m : Nat), .bool true, .bool false, .int .i64 (f : Nat), .int .i64 (t : Nat), .agg #[.int .i64 (f : Nat), .int .i64 (t : Nat)], .int .i64 (m : Nat), .agg #[.int .i64 0, .int .i64 (m : Nat)], .func (.func 120) #[] #[.pointer (some ⟨W1.heap.size, 0, none⟩), .pointer (some ⟨W1.heap.size + 1, 0, none⟩)], .agg #[.int .i64 (x.lo : Nat), .int .i64 (x.hi : Nat)], .bool x.ins, undef, undef, undef, undef, undef, undef], defers := [] } ∧ V.heap[sb]? = some (.cells #[.int .i64 (x.lo : Nat), .int .i64 (x.hi : Nat)] 119 (0, 0)))
  (fun x a' s A B row hs hg hr => by
   obtain ⟨sb, e, hh⟩ := hs
   exact ⟨sb, e, row_own sb _ _ () A B row hh hg (fun r e => (hr r e).2)⟩)
  ?assign ?body ?done ?stop
 case assign =>
  rintro l2 ys ⟨xl, xh, xi⟩ V K ⟨⟨v, hb, ho⟩, hB⟩ hK
  have hbb : Below V.heap.size V (V.alloc (.cells #[.int .i64 (xl : Nat), .int .i64 (xh : Nat)] 119)) := (Below.refl _ _).alloc (Nat.le_refl _) _
  simp only [encP]
  gi_wp2_with fail
  exact hK _ _ (KpF.alloc (frB_own _ _ V.heap.size) V _) ⟨⟨v, hb.alloc _, ho.below hbb⟩, hB.trans (hbb.mono hB.size)⟩ ⟨_, rfl, heap_alloc_new _ _⟩
 case body =>
  rintro l2 ys ⟨xl, xh, xi⟩ a' V hl2 hpp ⟨⟨v, hb, ho⟩, hB⟩ ⟨sb, rfl, hsb⟩
  have hlen := hpp.length_le
  have hpl := parts_length h1 0 m (by omega)
  rw [List.length_append, List.length_singleton] at hlen
  cases xi with
  | false =>
   gi_wp2_with fail
   refine ⟨KpF.refl _ _, ⟨⟨v, hb, ?_⟩, hB⟩⟩
   rw [List.filter_append]; simpa using ho
  | true =>
   have cl := hb.cell
   have cs0 := cell_of_row _ sb 0 _ _ _ hsb
   have cs1 := cell_of_row _ sb 1 _ _ _ hsb
   have HLN : Hid ((ys.filter (·.ins)).length ≤ 100000) := hid (Nat.le_trans (List.length_filter_le _ _) (by omega))
   have hba := (Below.refl V.heap.size V).alloc (Nat.le_refl _) (.cells (flatS [⟨xl, xh, true⟩]).toArray 119)
   have HOA := hid (ho.below hba)
   have HRA := hid (heap_alloc_new V (.cells (flatS [⟨xl, xh, true⟩]).toArray 119))
   have HSZ : Hid (w.heap.size ≤ (V.alloc (.cells (flatS [⟨xl, xh, true⟩]).toArray 119)).heap.size) := hid (by rw [World.size_alloc]; have := hB.size; omega)
   have HB := hid hB
   have HO := hid ho
   have HBX := hid hb
   have cla : (V.alloc (.cells (flatS [⟨xl, xh, true⟩]).toArray 119)).cell? ⟨w.heap.size, 0, none⟩ = some v := (hb.alloc _).cell
   obtain ⟨A1, n1, c1, rfl⟩ := ho.form
   clear hba hB ho hb hpp hlen hpl
   gi_wp2_with (first | (refine wpListIn_build_span1 rfl (.tmp 25) rfl ⟨xl, xh, true⟩ rfl ?_) | (refine wpListIn_append_span rfl (.tmp 24) (.tmp 26) rfl w.heap.size _ (ys.filter (·.ins)) ⟨xl, xh, true⟩ rfl HOA V.heap.size rfl HRA HLN.out HSZ.out ?_; intro v2 w2 HO2 HG2 HOB; obtain ⟨a1, a2, a3, a4, a5⟩ := Boxed.appended HBX.out (by decide) HO.out HB.out.size (Nat.le_refl _) HO2.out HG2.out; have q1 := a1.cell; have q2 := a1.frozen; obtain ⟨A2, n2, c2, rfl⟩ := HO2.out.form))
   refine ⟨frB_kept HBX.out rfl a1 HG2.out HOB.out, ⟨⟨_, a2, ?_⟩, HB.out.trans a5⟩⟩
   rw [List.filter_append]
   exact a3
 case done =>
  rintro D ys V hD rfl ⟨⟨v, hb, ho⟩, hB⟩ hkw hfD hd
  obtain ⟨A1, n1, c1, rfl⟩ := ho.form
  have cl := hb.cell
  have fz := hb.frozen
  have hd' : (V.setCell ⟨w.heap.size, 0, none⟩ (.slice A1 n1 c1)).heap[D]? = some (.deferred (some [])) := setCell_other_row hb hd (by have := HS2.out; omega)
  have hb' := hb.set (.slice A1 n1 c1)
  have hbz : ((V.setCell ⟨w.heap.size, 0, none⟩ (.slice A1 n1 c1)).putObj D (.deferred none)).heap[w.heap.size]? = some (.cells #[.slice A1 n1 c1] 114 (0, 0)) := (World.putObj_heap_other (by have := HS2.out; omega)).trans hb'
  have cz := cell_of_row _ _ 0 _ _ _ hbz
  have hoz : OwnS ((V.setCell ⟨w.heap.size, 0, none⟩ (.slice A1 n1 c1)).putObj D (.deferred none)) w.heap.size (.slice A1 n1 c1) (List.filter (·.ins) (parts f t 0 m)) := ho.kept fun g hg => by
   obtain ⟨_, hlt, cur, hcur⟩ := ho.block g hg
   have h5 : g ≠ D := fun e => by rw [e, hd] at hcur; cases hcur
   have h6 : g ≠ w.heap.size := fun e => by rw [e, hb] at hcur; cases hcur
   exact (World.putObj_heap_other h5).trans ((setCell_other_row hb hcur h6).trans hcur.symm)
  have hbf : Below w.heap.size w ((V.setCell ⟨w.heap.size, 0, none⟩ (.slice A1 n1 c1)).putObj D (.deferred none)) := (hB.setCell (p := ⟨w.heap.size, 0, none⟩) (Nat.le_refl _) _).trans (belowK_b (w := w) (Nat.le_refl _) _ D _ _ (by have := HS2.out; omega) hd' rfl rfl)
  obtain ⟨A2, n2, c2, e2, hin⟩ := hoz.slice
  cases e2
  have HIN := hid hin
  have HBF := hid hbf
  have HD' := hid hd'
  have HCZ := hid cz
  clear hbz cz hoz hbf hin hd' hb' hkw ho hB
  gi_wp2_with fail
  refine ⟨by simp, .inl ⟨_, _, rfl, run_takeDeferred HD'.out, ?_⟩⟩
  refine ⟨.tuple #[.slice A1 n1 c1, .int .i64 0], ?_, A1, n1, c1, rfl, HIN.out, HBF.out⟩
  have cz := HCZ.out
  simp [results, Tryz.results70, asAddr, cz, go_sem]
 case stop =>
  rintro D c pre V hD hs h hfD hd
  exact h.elim
/-- a deferred call that recovers, inside the wide fence -/
theorem callsDW_of_wpS {P : Program} {f : FuncId} {fn : Func} {c : Code} {args : Array Value} {u : FrameMode} {w : World} {n : Nat} {R : Ending → FrameMode → World → Prop}
  (hf : P.funcs[f]? = some fn) (hb : fn.body = some c)
  (h : ∀ (c₀ : Frame) (cs : List Frame), c₀.mode = u → c.wpS P (bodyPostS P fn c₀ cs R) { tmps := args ++ Array.replicate (fn.ntmps - args.size) undef, defers := [] } (c₀ :: cs) w) :
  CallsDIn Fence.wide n P f args u w R := by
 refine ⟨trivial, fun c₀ cs hu _ => ?_⟩
 obtain ⟨b, hB⟩ : ∃ b : Frame, b = { (default : Frame) with fn := f, kind := .deferred } := ⟨_, rfl⟩
 have hk : b.kind = .deferred := by rw [hB]
 have hr0 : b.roundOf = none := by rw [hB]; rfl
 have hfn : b.fn = f := by rw [hB]
 have henter : Frame.enter P f args .deferred = b.at { tmps := args ++ Array.replicate (fn.ntmps - args.size) undef, defers := [] } [.code c] := by
  rw [hB]; simp [Frame.enter, Frame.at, hf, hb]
 obtain ⟨e, a', cs', w', hq, harr⟩ := h c₀ cs hu b [] hk hr0
 rw [← henter] at harr
 cases e with
 | normal =>
  obtain ⟨hd, u', rfl, v, hr, hR⟩ := hq
  exact ⟨.returned v, u', w', _, hR, comesIn_wide.2 (Steps.trans harr (.one step_end)), hk, hfn, rfl, hd, fn, by show P.funcs[b.fn]? = some fn; rw [hfn]; exact hf, hr⟩
 | ret =>
  obtain ⟨hd, u', rfl, v, hr, hR⟩ := hq
  obtain ⟨todo, hs⟩ := harr
  exact ⟨.returned v, u', w', _, hR, comesIn_wide.2 hs, hk, hfn, rfl, hd, fn, by show P.funcs[b.fn]? = some fn; rw [hfn]; exact hf, hr⟩
 | panic chain =>
  obtain ⟨hd, u', rfl, hR⟩ := hq
  obtain ⟨todo, hs⟩ := harr
  exact ⟨.panicked chain, u', w', _, hR, comesIn_wide.2 hs, hk, hfn, rfl, hd, fn, by show P.funcs[b.fn]? = some fn; rw [hfn]; exact hf⟩
 | exit id => exact hq.elim
 | goto l => exact hq.elim
 | outgrown =>
  obtain ⟨u', hR⟩ := hq
  exact ⟨.outgrown, u', w', b, hR, comesIn_wide.2 (harr.resolve_left (by rw [hB]; simp)), hk, hfn, trivial⟩
theorem show1_idle (b : Nat) (w : World) (n : Nat) :
  CallsDIn Fence.wide n Tryz.prog 72 #[.pointer (some ⟨b, 0, none⟩)] .returning w fun e u' w' => e = .returned (.tuple #[]) ∧ u' = .returning ∧ w' = w := by
 refine callsDW_of_wpS Tryz.func72 rfl fun c₀ cs hu => ?_
 apply wpS_region
 simp [wpOpsS, go_sem, recoverD, hu, Tryz.ntmps72]
 refine (caught_nil _ w).mono ?_
 rintro e w' ⟨rfl, rfl⟩
 refine ⟨rfl, .returning, by cases c₀; simp_all, .tuple #[], ?_, rfl, rfl, rfl⟩
 simp [results, Tryz.results72]
theorem show1_panic (b : Nat) (z z0 : Int) (w : World) (hc : w.cell? ⟨b, 0, none⟩ = some (.int .i64 z0)) (hf : w.frozen? ⟨b, 0, none⟩ = false) (n : Nat) :
  CallsDIn Fence.wide n Tryz.prog 72 #[.pointer (some ⟨b, 0, none⟩)] (.panicking [{ v := .iface 160 (.agg #[.int .i64 z]), recovered := false }]) w fun e u' w' => e = .returned (.tuple #[]) ∧ u' = .panicking [{ v := .iface 160 (.agg #[.int .i64 z]), recovered := true }] ∧ w' = (w.setCell ⟨b, 0, none⟩ (.int .i64 z)).alloc (.cells #[.int .i64 z] 160) := by
 refine callsDW_of_wpS Tryz.func72 rfl fun c₀ cs hu => ?_
 apply wpS_region
 simp [wpOpsS, go_sem, recoverD, hu, Tryz.ntmps72]
 refine (caught_fail z z0 b w hc hf).mono ?_
 rintro e w' ⟨rfl, rfl⟩
 refine ⟨rfl, _, rfl, .tuple #[], ?_, rfl, rfl, rfl⟩
 simp [results, Tryz.results72]
/-- a digest's cells -/
def dgC (l : List Nat) : List Value := l.map fun x => Value.int .u8 (x : Nat)
theorem dgV_agg (l : List Nat) : dgV l = .agg (dgC l).toArray := rfl
theorem dgC_length (l : List Nat) : (dgC l).length = l.length := by simp [dgC]
structure DgOk (l : List Nat) : Prop where
 len : l.length = 32
 bytes : Bytes l
theorem dgC_size {l : List Nat} (h : DgOk l) : 32 = (dgC l).toArray.size := by simp [dgC, h.len]
theorem dgC_info {l : List Nat} (h : DgOk l) : (Tryz.prog.info? 25).map (·.size) = some (dgC l).toArray.size := size32 l h.len
theorem dgC_one (l : List Nat) : (dgC l).toArray.all (·.oneCell') = true := oneCells l
def zeroD : List Nat := List.replicate 32 0
theorem zeroD_ok : DgOk zeroD := ⟨by simp [zeroD], fun x hx => by have := List.eq_of_mem_replicate hx; omega⟩
theorem zeroD_cells : (dgC zeroD).toArray = #[.int .u8 0, .int .u8 0, .int .u8 0, .int .u8 0, .int .u8 0, .int .u8 0, .int .u8 0, .int .u8 0, .int .u8 0, .int .u8 0, .int .u8 0, .int .u8 0, .int .u8 0, .int .u8 0, .int .u8 0, .int .u8 0, .int .u8 0, .int .u8 0, .int .u8 0, .int .u8 0, .int .u8 0, .int .u8 0, .int .u8 0, .int .u8 0, .int .u8 0, .int .u8 0, .int .u8 0, .int .u8 0, .int .u8 0, .int .u8 0, .int .u8 0, .int .u8 0] := by simp [zeroD, dgC, List.replicate]
theorem in_any (x lo hi : Int) (w : World) : Calls Tryz.prog 52 #[.int .i64 x, .int .i64 lo, .int .i64 hi] w fun e w' => e = .returned (.bool (decide (lo ≤ x) && decide (x ≤ hi))) ∧ w = w' := by
 by_cases h : lo ≤ x
 ·have d : decide (lo ≤ x) = true := eQ h
  have HE : Hid ((decide (lo ≤ x) && decide (x ≤ hi)) = decide (x ≤ hi)) := hid (by rw [d]; rfl)
  rw [HE.out]
  go_enter Tryz.func52, Tryz.ntmps52
  go_wp2_with fail
  go_ret
  exact ⟨rfl, rfl⟩
 ·have d : decide (lo ≤ x) = false := dQ h
  have HE : Hid ((decide (lo ≤ x) && decide (x ≤ hi)) = false) := hid (by rw [d]; rfl)
  rw [HE.out]
  go_enter Tryz.func52, Tryz.ntmps52
  go_wp2_with fail
  go_ret
  exact ⟨rfl, rfl⟩
theorem and_dec {p q : Prop} [Decidable p] [Decidable q] (h : p ∧ q) : (decide p && decide q) = true := by simp [h]
theorem and_dec_no {p q : Prop} [Decidable p] [Decidable q] (h : ¬ (p ∧ q)) : (decide p && decide q) = false := by
 rw [← Bool.decide_and]; exact dQ h
/-- a valid claim -/
def kOk (p r : Int) : Prop := 0 ≤ p ∧ p ≤ 255 ∧ 0 ≤ r ∧ r ≤ 63
instance (p r : Int) : Decidable (kOk p r) := by unfold kOk; infer_instance
theorem vline_0 (c0 c1 c2 c3 c4 : Int) (w : World) (d0 : (decide (0 ≤ c0) && decide (c0 ≤ 4095)) = false) : Calls Tryz.prog 96 #[.agg #[.int .i64 c0, .int .i64 c1, .int .i64 c2, .int .i64 c3, .int .i64 c4]] w fun e w' => e = .returned (.bool false) ∧ Below w.heap.size w w' := by
 have HB := hid ((Below.refl _ w).alloc (Nat.le_refl _) (.cells #[.int .i64 c0, .int .i64 c1, .int .i64 c2, .int .i64 c3, .int .i64 c4] 45))
 have D0 := hid d0
 clear d0
 go_enter Tryz.func96, Tryz.ntmps96
 go_wp2_with fail
 refine (in_any _ _ _ _).mono ?_
 rintro e w0 ⟨rfl, rfl⟩
 rw [D0.out]
 go_wp2_with fail
 go_ret
 exact ⟨rfl, HB.out⟩
theorem vline_1 (c0 c1 c2 c3 c4 : Int) (w : World) (d0 : (decide (0 ≤ c0) && decide (c0 ≤ 4095)) = true) (d1 : (decide (0 ≤ c1) && decide (c1 ≤ 1023)) = false) : Calls Tryz.prog 96 #[.agg #[.int .i64 c0, .int .i64 c1, .int .i64 c2, .int .i64 c3, .int .i64 c4]] w fun e w' => e = .returned (.bool false) ∧ Below w.heap.size w w' := by
 have HB := hid ((Below.refl _ w).alloc (Nat.le_refl _) (.cells #[.int .i64 c0, .int .i64 c1, .int .i64 c2, .int .i64 c3, .int .i64 c4] 45))
 have D0 := hid d0
 have D1 := hid d1
 clear d0 d1
 go_enter Tryz.func96, Tryz.ntmps96
 go_wp2_with fail
 refine (in_any _ _ _ _).mono ?_
 rintro e w0 ⟨rfl, rfl⟩
 rw [D0.out]
 go_wp2_with fail
 refine (in_any _ _ _ _).mono ?_
 rintro e w1 ⟨rfl, rfl⟩
 rw [D1.out]
 go_wp2_with fail
 go_ret
 exact ⟨rfl, HB.out⟩
theorem vline_2 (c0 c1 c2 c3 c4 : Int) (w : World) (d0 : (decide (0 ≤ c0) && decide (c0 ≤ 4095)) = true) (d1 : (decide (0 ≤ c1) && decide (c1 ≤ 1023)) = true) (d2 : (decide (0 ≤ c2) && decide (c2 ≤ 12)) = false) : Calls Tryz.prog 96 #[.agg #[.int .i64 c0, .int .i64 c1, .int .i64 c2, .int .i64 c3, .int .i64 c4]] w fun e w' => e = .returned (.bool false) ∧ Below w.heap.size w w' := by
 have HB := hid ((Below.refl _ w).alloc (Nat.le_refl _) (.cells #[.int .i64 c0, .int .i64 c1, .int .i64 c2, .int .i64 c3, .int .i64 c4] 45))
 have D0 := hid d0
 have D1 := hid d1
 have D2 := hid d2
 clear d0 d1 d2
 go_enter Tryz.func96, Tryz.ntmps96
 go_wp2_with fail
 refine (in_any _ _ _ _).mono ?_
 rintro e w0 ⟨rfl, rfl⟩
 rw [D0.out]
 go_wp2_with fail
 refine (in_any _ _ _ _).mono ?_
 rintro e w1 ⟨rfl, rfl⟩
 rw [D1.out]
 go_wp2_with fail
 refine (in_any _ _ _ _).mono ?_
 rintro e w2 ⟨rfl, rfl⟩
 rw [D2.out]
 go_wp2_with fail
 go_ret
 exact ⟨rfl, HB.out⟩
theorem vline_3 (c0 c1 c2 c3 c4 : Int) (w : World) (d0 : (decide (0 ≤ c0) && decide (c0 ≤ 4095)) = true) (d1 : (decide (0 ≤ c1) && decide (c1 ≤ 1023)) = true) (d2 : (decide (0 ≤ c2) && decide (c2 ≤ 12)) = true) (d3 : (decide (0 ≤ c3) && decide (c3 ≤ 60)) = false) : Calls Tryz.prog 96 #[.agg #[.int .i64 c0, .int .i64 c1, .int .i64 c2, .int .i64 c3, .int .i64 c4]] w fun e w' => e = .returned (.bool false) ∧ Below w.heap.size w w' := by
 have HB := hid ((Below.refl _ w).alloc (Nat.le_refl _) (.cells #[.int .i64 c0, .int .i64 c1, .int .i64 c2, .int .i64 c3, .int .i64 c4] 45))
 have D0 := hid d0
 have D1 := hid d1
 have D2 := hid d2
 have D3 := hid d3
 clear d0 d1 d2 d3
 go_enter Tryz.func96, Tryz.ntmps96
 go_wp2_with fail
 refine (in_any _ _ _ _).mono ?_
 rintro e w0 ⟨rfl, rfl⟩
 rw [D0.out]
 go_wp2_with fail
 refine (in_any _ _ _ _).mono ?_
 rintro e w1 ⟨rfl, rfl⟩
 rw [D1.out]
 go_wp2_with fail
 refine (in_any _ _ _ _).mono ?_
 rintro e w2 ⟨rfl, rfl⟩
 rw [D2.out]
 go_wp2_with fail
 refine (in_any _ _ _ _).mono ?_
 rintro e w3 ⟨rfl, rfl⟩
 rw [D3.out]
 go_wp2_with fail
 go_ret
 exact ⟨rfl, HB.out⟩
theorem vline_4 (c0 c1 c2 c3 c4 : Int) (w : World) (d0 : (decide (0 ≤ c0) && decide (c0 ≤ 4095)) = true) (d1 : (decide (0 ≤ c1) && decide (c1 ≤ 1023)) = true) (d2 : (decide (0 ≤ c2) && decide (c2 ≤ 12)) = true) (d3 : (decide (0 ≤ c3) && decide (c3 ≤ 60)) = true) (d4 : (decide (0 ≤ c4) && decide (c4 ≤ 6)) = false) : Calls Tryz.prog 96 #[.agg #[.int .i64 c0, .int .i64 c1, .int .i64 c2, .int .i64 c3, .int .i64 c4]] w fun e w' => e = .returned (.bool false) ∧ Below w.heap.size w w' := by
 have HB := hid ((Below.refl _ w).alloc (Nat.le_refl _) (.cells #[.int .i64 c0, .int .i64 c1, .int .i64 c2, .int .i64 c3, .int .i64 c4] 45))
 have D0 := hid d0
 have D1 := hid d1
 have D2 := hid d2
 have D3 := hid d3
 have D4 := hid d4
 clear d0 d1 d2 d3 d4
 go_enter Tryz.func96, Tryz.ntmps96
 go_wp2_with fail
 refine (in_any _ _ _ _).mono ?_
 rintro e w0 ⟨rfl, rfl⟩
 rw [D0.out]
 go_wp2_with fail
 refine (in_any _ _ _ _).mono ?_
 rintro e w1 ⟨rfl, rfl⟩
 rw [D1.out]
 go_wp2_with fail
 refine (in_any _ _ _ _).mono ?_
 rintro e w2 ⟨rfl, rfl⟩
 rw [D2.out]
 go_wp2_with fail
 refine (in_any _ _ _ _).mono ?_
 rintro e w3 ⟨rfl, rfl⟩
 rw [D3.out]
 go_wp2_with fail
 refine (in_any _ _ _ _).mono ?_
 rintro e w4 ⟨rfl, rfl⟩
 rw [D4.out]
 go_wp2_with fail
 go_ret
 exact ⟨rfl, HB.out⟩
theorem vline_5 (c0 c1 c2 c3 c4 : Int) (w : World) (d0 : (decide (0 ≤ c0) && decide (c0 ≤ 4095)) = true) (d1 : (decide (0 ≤ c1) && decide (c1 ≤ 1023)) = true) (d2 : (decide (0 ≤ c2) && decide (c2 ≤ 12)) = true) (d3 : (decide (0 ≤ c3) && decide (c3 ≤ 60)) = true) (d4 : (decide (0 ≤ c4) && decide (c4 ≤ 6)) = true) : Calls Tryz.prog 96 #[.agg #[.int .i64 c0, .int .i64 c1, .int .i64 c2, .int .i64 c3, .int .i64 c4]] w fun e w' => e = .returned (.bool true) ∧ Below w.heap.size w w' := by
 have HB := hid ((Below.refl _ w).alloc (Nat.le_refl _) (.cells #[.int .i64 c0, .int .i64 c1, .int .i64 c2, .int .i64 c3, .int .i64 c4] 45))
 have D0 := hid d0
 have D1 := hid d1
 have D2 := hid d2
 have D3 := hid d3
 have D4 := hid d4
 clear d0 d1 d2 d3 d4
 go_enter Tryz.func96, Tryz.ntmps96
 go_wp2_with fail
 refine (in_any _ _ _ _).mono ?_
 rintro e w0 ⟨rfl, rfl⟩
 rw [D0.out]
 go_wp2_with fail
 refine (in_any _ _ _ _).mono ?_
 rintro e w1 ⟨rfl, rfl⟩
 rw [D1.out]
 go_wp2_with fail
 refine (in_any _ _ _ _).mono ?_
 rintro e w2 ⟨rfl, rfl⟩
 rw [D2.out]
 go_wp2_with fail
 refine (in_any _ _ _ _).mono ?_
 rintro e w3 ⟨rfl, rfl⟩
 rw [D3.out]
 go_wp2_with fail
 refine (in_any _ _ _ _).mono ?_
 rintro e w4 ⟨rfl, rfl⟩
 rw [D4.out]
 go_wp2_with fail
 go_ret
 exact ⟨rfl, HB.out⟩
theorem vline_any (c0 c1 c2 c3 c4 : Int) (w : World) : Calls Tryz.prog 96 #[.agg #[.int .i64 c0, .int .i64 c1, .int .i64 c2, .int .i64 c3, .int .i64 c4]] w fun e w' => e = .returned (.bool (decide (lOk c0 c1 c2 c3 c4))) ∧ Below w.heap.size w w' := by
 by_cases b0 : 0 ≤ c0 ∧ c0 ≤ 4095
 case neg =>
  rw [dQ (show ¬ (lOk c0 c1 c2 c3 c4) by unfold lOk; omega)]
  exact vline_0 c0 c1 c2 c3 c4  w (and_dec_no b0)
 by_cases b1 : 0 ≤ c1 ∧ c1 ≤ 1023
 case neg =>
  rw [dQ (show ¬ (lOk c0 c1 c2 c3 c4) by unfold lOk; omega)]
  exact vline_1 c0 c1 c2 c3 c4  w (and_dec b0) (and_dec_no b1)
 by_cases b2 : 0 ≤ c2 ∧ c2 ≤ 12
 case neg =>
  rw [dQ (show ¬ (lOk c0 c1 c2 c3 c4) by unfold lOk; omega)]
  exact vline_2 c0 c1 c2 c3 c4  w (and_dec b0) (and_dec b1) (and_dec_no b2)
 by_cases b3 : 0 ≤ c3 ∧ c3 ≤ 60
 case neg =>
  rw [dQ (show ¬ (lOk c0 c1 c2 c3 c4) by unfold lOk; omega)]
  exact vline_3 c0 c1 c2 c3 c4  w (and_dec b0) (and_dec b1) (and_dec b2) (and_dec_no b3)
 by_cases b4 : 0 ≤ c4 ∧ c4 ≤ 6
 case neg =>
  rw [dQ (show ¬ (lOk c0 c1 c2 c3 c4) by unfold lOk; omega)]
  exact vline_4 c0 c1 c2 c3 c4  w (and_dec b0) (and_dec b1) (and_dec b2) (and_dec b3) (and_dec_no b4)
 rw [eQ (show lOk c0 c1 c2 c3 c4 by unfold lOk; omega)]
 exact vline_5 c0 c1 c2 c3 c4  w (and_dec b0) (and_dec b1) (and_dec b2) (and_dec b3) (and_dec b4)
theorem vclaim_0 (p r : Int) (m : Bool) (w : World) (d0 : (decide (0 ≤ p) && decide (p ≤ 255)) = false) : Calls Tryz.prog 107 #[.agg #[.int .i64 p, .int .i64 r, .bool m]] w fun e w' => e = .returned (.bool false) ∧ Below w.heap.size w w' := by
 have HB := hid ((Below.refl _ w).alloc (Nat.le_refl _) (.cells #[.int .i64 p, .int .i64 r, .bool m] 56))
 have D0 := hid d0
 clear d0
 go_enter Tryz.func107, Tryz.ntmps107
 go_wp2_with fail
 refine (in_any _ _ _ _).mono ?_
 rintro e w0 ⟨rfl, rfl⟩
 rw [D0.out]
 go_wp2_with fail
 go_ret
 exact ⟨rfl, HB.out⟩
theorem vclaim_1 (p r : Int) (m : Bool) (w : World) (d0 : (decide (0 ≤ p) && decide (p ≤ 255)) = true) (d1 : (decide (0 ≤ r) && decide (r ≤ 63)) = false) : Calls Tryz.prog 107 #[.agg #[.int .i64 p, .int .i64 r, .bool m]] w fun e w' => e = .returned (.bool false) ∧ Below w.heap.size w w' := by
 have HB := hid ((Below.refl _ w).alloc (Nat.le_refl _) (.cells #[.int .i64 p, .int .i64 r, .bool m] 56))
 have D0 := hid d0
 have D1 := hid d1
 clear d0 d1
 go_enter Tryz.func107, Tryz.ntmps107
 go_wp2_with fail
 refine (in_any _ _ _ _).mono ?_
 rintro e w0 ⟨rfl, rfl⟩
 rw [D0.out]
 go_wp2_with fail
 refine (in_any _ _ _ _).mono ?_
 rintro e w1 ⟨rfl, rfl⟩
 rw [D1.out]
 go_wp2_with fail
 go_ret
 exact ⟨rfl, HB.out⟩
theorem vclaim_2 (p r : Int) (m : Bool) (w : World) (d0 : (decide (0 ≤ p) && decide (p ≤ 255)) = true) (d1 : (decide (0 ≤ r) && decide (r ≤ 63)) = true) : Calls Tryz.prog 107 #[.agg #[.int .i64 p, .int .i64 r, .bool m]] w fun e w' => e = .returned (.bool true) ∧ Below w.heap.size w w' := by
 have HB := hid ((Below.refl _ w).alloc (Nat.le_refl _) (.cells #[.int .i64 p, .int .i64 r, .bool m] 56))
 have D0 := hid d0
 have D1 := hid d1
 clear d0 d1
 go_enter Tryz.func107, Tryz.ntmps107
 go_wp2_with fail
 refine (in_any _ _ _ _).mono ?_
 rintro e w0 ⟨rfl, rfl⟩
 rw [D0.out]
 go_wp2_with fail
 refine (in_any _ _ _ _).mono ?_
 rintro e w1 ⟨rfl, rfl⟩
 rw [D1.out]
 go_wp2_with fail
 go_ret
 exact ⟨rfl, HB.out⟩
theorem vclaim_any (p r : Int) (m : Bool) (w : World) : Calls Tryz.prog 107 #[.agg #[.int .i64 p, .int .i64 r, .bool m]] w fun e w' => e = .returned (.bool (decide (kOk p r))) ∧ Below w.heap.size w w' := by
 by_cases b0 : 0 ≤ p ∧ p ≤ 255
 case neg =>
  rw [dQ (show ¬ (kOk p r) by unfold kOk; omega)]
  exact vclaim_0 p r  m  w (and_dec_no b0)
 by_cases b1 : 0 ≤ r ∧ r ≤ 63
 case neg =>
  rw [dQ (show ¬ (kOk p r) by unfold kOk; omega)]
  exact vclaim_1 p r  m  w (and_dec b0) (and_dec_no b1)
 rw [eQ (show kOk p r by unfold kOk; omega)]
 exact vclaim_2 p r  m  w (and_dec b0) (and_dec b1)
/-- the numbers of lines and of claims -/
def noL (c0 c1 : Int) : Int := wrap64 (wrap64 (4096 * c1) + c0)
def noK (p r : Int) : Int := wrap64 (wrap64 (64 * p) + r)
theorem noL_bd (c0 c1 : Int) : I64 (noL c0 c1) := by unfold I64 noL wrap64; omega
theorem noL_any (c0 c1 c2 c3 c4 : Int) (w : World) : Calls Tryz.prog 94 #[.agg #[.int .i64 c0, .int .i64 c1, .int .i64 c2, .int .i64 c3, .int .i64 c4]] w fun e w' => e = .returned (.int .i64 (noL c0 c1)) ∧ Below w.heap.size w w' := by
 have HB := hid ((Below.refl _ w).alloc (Nat.le_refl _) (.cells #[.int .i64 c0, .int .i64 c1, .int .i64 c2, .int .i64 c3, .int .i64 c4] 45))
 go_enter Tryz.func94, Tryz.ntmps94
 go_wp2_with fail
 go_ret
 exact ⟨by unfold noL; rfl, HB.out⟩
theorem noK_any (p r : Int) (m : Bool) (w : World) : Calls Tryz.prog 104 #[.agg #[.int .i64 p, .int .i64 r, .bool m]] w fun e w' => e = .returned (.int .i64 (noK p r)) ∧ Below w.heap.size w w' := by
 have HB := hid ((Below.refl _ w).alloc (Nat.le_refl _) (.cells #[.int .i64 p, .int .i64 r, .bool m] 56))
 go_enter Tryz.func104, Tryz.ntmps104
 go_wp2_with fail
 go_ret
 exact ⟨by unfold noK; rfl, HB.out⟩
def tabL : Array Value := #[.int .i64 1, .func (.func 96) #[] #[], .func (.func 94) #[] #[], .func (.func 95) #[] #[]]
def tabK : Array Value := #[.int .i64 2, .func (.func 107) #[] #[], .func (.func 104) #[] #[], .func (.func 105) #[] #[]]
theorem lines_any (w : World) : Calls Tryz.prog 42 #[] w fun e w' => e = .returned (.agg tabL) ∧ Below w.heap.size w w' := by
 go_enter Tryz.func42, Tryz.ntmps42
 go_wp2_with (refine wpList_store_row rfl 86 (.tmp 0) (.tmp 5) rfl w.heap.size tabL rfl rfl 86 _ (heap_alloc_new w _) (by kernel_rfl) rfl (by decide +kernel) ?_)
 refine bodyPost_ret (results_cell_row rfl _ _ w.heap.size 86 tabL (0, 0) _ rfl (laid_row w _ tabL 86).2.2 Tryz.underlying86 rfl (by kernel_rfl)) rfl ?_
 exact ⟨rfl, (laid_row w _ tabL 86).1⟩
theorem claims_any (w : World) : Calls Tryz.prog 49 #[] w fun e w' => e = .returned (.agg tabK) ∧ Below w.heap.size w w' := by
 go_enter Tryz.func49, Tryz.ntmps49
 go_wp2_with (refine wpList_store_row rfl 95 (.tmp 0) (.tmp 5) rfl w.heap.size tabK rfl rfl 95 _ (heap_alloc_new w _) (by kernel_rfl) rfl (by decide +kernel) ?_)
 refine bodyPost_ret (results_cell_row rfl _ _ w.heap.size 95 tabK (0, 0) _ rfl (laid_row w _ tabK 95).2.2 Tryz.underlying95 rfl (by kernel_rfl)) rfl ?_
 exact ⟨rfl, (laid_row w _ tabK 95).1⟩
/-- Climb: the digest and the error -/
def dArg (i n : Int) (l : Nat) : Prop := n < 1 ∨ 1099511627776 < n ∨ i < 0 ∨ n ≤ i ∨ l ≠ (dirsD i.toNat n.toNat).length
instance (i n : Int) (l : Nat) : Decidable (dArg i n l) := by unfold dArg; infer_instance
def lnV (x : Ln) : Value := .agg (lnC x).toArray
def clV (x : Cl) : Value := .agg (clC x).toArray
def vLn (x : Ln) : Bool := decide (lOk x.c0 x.c1 x.c2 x.c3 x.c4)
def vCl (x : Cl) : Bool := decide (kOk x.p x.r)
def nLn (x : Ln) : Int := noL x.c0 x.c1
def nCl (x : Cl) : Int := noK x.p x.r
theorem vline_x (x : Ln) (w : World) : Calls Tryz.prog 96 #[lnV x] w fun e w' => e = .returned (.bool (vLn x)) ∧ Below w.heap.size w w' := vline_any x.c0 x.c1 x.c2 x.c3 x.c4 w
theorem vclaim_x (x : Cl) (w : World) : Calls Tryz.prog 107 #[clV x] w fun e w' => e = .returned (.bool (vCl x)) ∧ Below w.heap.size w w' := vclaim_any x.p x.r x.m w
theorem nline_x (x : Ln) (w : World) : Calls Tryz.prog 94 #[lnV x] w fun e w' => e = .returned (.int .i64 (nLn x)) ∧ Below w.heap.size w w' := noL_any x.c0 x.c1 x.c2 x.c3 x.c4 w
theorem nclaim_x (x : Cl) (w : World) : Calls Tryz.prog 104 #[clV x] w fun e w' => e = .returned (.int .i64 (nCl x)) ∧ Below w.heap.size w w' := noK_any x.p x.r x.m w
/-- valid and in order -/
def chkE {α : Type} (v : α → Bool) (no : α → Int) : Int → List α → Bool
 | _, [] => true
 | z, x :: xs => (v x && decide (z < no x)) && chkE v no (no x) xs
theorem range_elem {α : Type} {cells : α → List Value} {k : Nat} {w : World} {g off : Nat} {ls : List α} (hl : ∀ x, (cells x).length = k) (hr : w.rangeAt g off (ls.flatMap cells)) (j : Nat) (hj : j < ls.length) : w.rangeAt g (off + j * k) (cells ls[j]) := fun i v hi => by
 have hi2 : i < k := by have := (List.getElem?_eq_some_iff.1 hi).1; rw [hl] at this; exact this
 have hfl : ∀ l : List α, (l.flatMap cells).length = l.length * k := fun l => by
  induction l with
  | nil => simp
  | cons x l ih => rw [List.flatMap_cons, List.length_append, hl, ih, List.length_cons, Nat.succ_mul]; omega
 rw [Nat.add_assoc]
 refine hr (j * k + i) v ?_
 have e1 : ls = ls.take j ++ (ls[j] :: ls.drop (j + 1)) := by rw [← List.drop_eq_getElem_cons hj, List.take_append_drop]
 have e3 : ((ls.take j).flatMap cells).length = j * k := by rw [hfl, List.length_take, show min j ls.length = j by omega]
 have e2 : ls.flatMap cells = (ls.take j).flatMap cells ++ (cells ls[j] ++ (ls.drop (j + 1)).flatMap cells) := by
  conv => lhs; rw [e1]
  rw [List.flatMap_append]; rfl
 rw [e2, List.getElem?_append_right (by omega), e3, Nat.add_sub_cancel_left, List.getElem?_append_left (by rw [hl]; exact hi2)]
 exact hi
theorem InLn.below {w w' : World} {A : Option Addr} {n c : Nat} {ls : List Ln} (h : InLn w A n c ls) (hb : Below w.heap.size w w') : InLn w' A n c ls :=
 ⟨h.len, h.cap, h.none_, h.ok, fun h0 => by
  obtain ⟨g, off, e, hg, hr⟩ := h.rd h0
  exact ⟨g, off, e, Nat.lt_of_lt_of_le hg hb.size, rangeAt_below hr hg hb⟩⟩
theorem InCl.below {w w' : World} {A : Option Addr} {n c : Nat} {ls : List Cl} (h : InCl w A n c ls) (hb : Below w.heap.size w w') : InCl w' A n c ls :=
 ⟨h.len, h.cap, h.none_, h.ok, fun h0 => by
  obtain ⟨g, off, e, hg, hr⟩ := h.rd h0
  exact ⟨g, off, e, Nat.lt_of_lt_of_le hg hb.size, rangeAt_below hr hg hb⟩⟩
/-- a world after another: all blocks but one as they were -/
theorem grown_of_below {w w' : World} {row : Option Nat} (hb : Below w.heap.size w w') : w.grownBy w' row := ⟨hb.os, hb.tape, hb.output, hb.size, fun i hi _ => hb.block i hi⟩
theorem grown_then {w w1 w2 : World} {row : Option Nat} (h : w.grownBy w1 row) (hb : Below w1.heap.size w1 w2) : w.grownBy w2 row := ⟨hb.os.trans h.os, hb.tape.trans h.tape, hb.output.trans h.output, Nat.le_trans h.size hb.size, fun i hi hne => (hb.block i (Nat.lt_of_lt_of_le hi h.size)).trans (h.block i hi hne)⟩
theorem grown_trans {w w1 w2 : World} {row : Option Nat} (h : w.grownBy w1 row) (h2 : w1.grownBy w2 row) : w.grownBy w2 row := ⟨h2.os.trans h.os, h2.tape.trans h.tape, h2.output.trans h.output, Nat.le_trans h.size h2.size, fun i hi hne => (h2.block i (Nat.lt_of_lt_of_le hi h.size) hne).trans (h.block i hi hne)⟩
theorem grown_set {w w1 : World} {b : Nat} (h : w.grownBy w1 (some b)) (v : Value) : w.grownBy (w1.setCell ⟨b, 0, none⟩ v) (some b) := only_setCell h (.inl rfl) v
theorem one_set {w : World} {b : Nat} {v v' : Value} {t : TypeId} (h : w.heap[b]? = some (.cells #[v] t (0, 0))) : (w.setCell ⟨b, 0, none⟩ v').heap[b]? = some (.cells #[v'] t (0, 0)) := by
 simp only [World.setCell, Array.getElem?_modify, if_true, h]; rfl
theorem lnC_len (x : Ln) : (lnC x).length = 5 := rfl
theorem lnC_info (x : Ln) : (Tryz.prog.info? 45).map (·.size) = some (lnC x).toArray.size := by show _ = some 5; kernel_rfl
theorem lnC_infoL (x : Ln) : (Tryz.prog.info? 45).map (·.size) = some (lnC x).length := by show _ = some 5; kernel_rfl
def wCyL (bl : Nat) (x : Ln) (z : Int) : Nat → Value → World → Prop
 | 0, fv, _ => fv = .pointer (some ⟨bl, 1, none⟩)
 | 1, fv, _ => fv = .func (.func 96) #[] #[]
 | 2, fv, _ => fv = lnV x
 | 3, fv, _ => fv = .bool true
 | 4, fv, _ => fv = .bool false
 | 5, fv, _ => fv = .bool false
 | 6, fv, _ => fv = .pointer (some ⟨bl, 2, none⟩)
 | 7, fv, _ => fv = .func (.func 94) #[] #[]
 | 8, fv, _ => fv = lnV x
 | 9, fv, _ => fv = .int .i64 (nLn x)
 | 10, fv, _ => fv = .int .i64 z
 | 11, fv, _ => fv = .bool (decide (nLn x ≤ z))
 | 12, fv, _ => fv = .bool (decide (nLn x ≤ z))
 | 13, fv, _ => fv = .bool (decide (nLn x ≤ z))
 | _, _, _ => True
theorem wCyL_below {bl : Nat} {x : Ln} {z : Int} {w w' : World} (hb : Below w.heap.size w w') : ∀ j v, wCyL bl x z j v w → wCyL bl x z j v w'
 | 0, v, h => h
 | 1, v, h => h
 | 2, v, h => h
 | 3, v, h => h
 | 4, v, h => h
 | 5, v, h => h
 | 6, v, h => h
 | 7, v, h => h
 | 8, v, h => h
 | 9, v, h => h
 | 10, v, h => h
 | 11, v, h => h
 | 12, v, h => h
 | 13, v, h => h
 | n + 14, v, h => trivial
def wCnL (bl : Nat) (x : Ln) (z : Int) : Nat → Value → World → Prop
 | 0, fv, _ => fv = .pointer (some ⟨bl, 1, none⟩)
 | 1, fv, _ => fv = .func (.func 96) #[] #[]
 | 2, fv, _ => fv = lnV x
 | 3, fv, _ => fv = .bool false
 | 4, fv, _ => fv = .bool true
 | 5, fv, _ => fv = .bool true
 | 6, fv, _ => fv = undef
 | 7, fv, _ => fv = undef
 | 8, fv, _ => fv = undef
 | 9, fv, _ => fv = undef
 | 10, fv, _ => fv = undef
 | 11, fv, _ => fv = undef
 | 12, fv, _ => fv = .bool true
 | 13, fv, _ => fv = .bool true
 | _, _, _ => True
theorem wCnL_below {bl : Nat} {x : Ln} {z : Int} {w w' : World} (hb : Below w.heap.size w w') : ∀ j v, wCnL bl x z j v w → wCnL bl x z j v w'
 | 0, v, h => h
 | 1, v, h => h
 | 2, v, h => h
 | 3, v, h => h
 | 4, v, h => h
 | 5, v, h => h
 | 6, v, h => h
 | 7, v, h => h
 | 8, v, h => h
 | 9, v, h => h
 | 10, v, h => h
 | 11, v, h => h
 | 12, v, h => h
 | 13, v, h => h
 | n + 14, v, h => trivial
theorem chk1L_y (x : Ln) (z : Int) (bl bs : Nat) (w : World) (hl : Hid (w.heap[bl]? = some (.cells tabL 86 (0, 0)))) (hs : Hid (w.heap[bs]? = some (.cells #[.int .i64 z] 3 (0, 0)))) (hv : Hid (vLn x = true)) :
  Calls Tryz.prog 110 #[lnV x, .pointer (some ⟨bl, 0, none⟩), .pointer (some ⟨bs, 0, none⟩)] w fun e w' => e = .returned (.bool (!(vLn x && decide (z < nLn x)))) ∧ w.grownBy w' (some bs) ∧ w'.heap[bs]? = some (.cells #[.int .i64 (nLn x)] 3 (0, 0)) := by
 have HB0 := hid ((Below.refl _ w).alloc (Nat.le_refl _) (.cells (lnC x).toArray 45))
 have HX0 := hid (heap_alloc_new w (.cells (lnC x).toArray 45))
 have HL0 := hid (row_kept hl.out HB0.out)
 have HS0 := hid (row_kept hs.out HB0.out)
 have HBS : Hid (bs < w.heap.size) := hid (Array.getElem?_eq_some_iff.1 hs.out).1
 have HIX := hid (lnC_info x)
 have HLE : Hid ((!(vLn x && decide (z < nLn x))) = decide (nLn x ≤ z)) := hid (by rw [hv.out]; rw [Bool.true_and, ← decide_not]; congr 1; exact propext Int.not_lt)
 rw [show lnV x = .agg (lnC x).toArray from rfl]
 go_enter Tryz.func110, Tryz.ntmps110
 go_wp2_with fail
 generalize w.alloc (.cells (lnC x).toArray 45) = W1 at *
 refine region_flow3 (by kernel_rfl) (by kernel_rfl) (fun i => Nat.beq i 13) (fun i => i) (by kernel_rfl) (fun fx => #[.agg (lnC x).toArray, .pointer (some { block := bl, off := 0 }), .pointer (some { block := bs, off := 0 }), .pointer (some { block := w.heap.size, off := 0 }), .bool false, fx 13, fx 0, fx 1, fx 2, fx 3, fx 4, fx 5, fx 6, fx 7, fx 8, fx 9, fx 10, fx 11, fx 12, undef, undef, undef, undef, undef]) (fun _ => undef) (fun L fx w' => Below W1.heap.size W1 w') (fun fi fv _ fw => wCyL bl x z fi fv fw) (Below.refl _ _).drew ?_ ?_
 ·refine ⟨?_, ?_, ?_, ?_, ?_, ?_, ?_, ?_, ?_, ?_, ?_, ?_, ?_, ?_, trivial⟩
  all_goals intro L fx w' hC hi hcl hdn hd
  ·go_wp2_with fail
   exact ⟨_, rfl, hC, rfl, kP⟩
  ·have h0 : fx 0 = .pointer (some ⟨bl, 1, none⟩) := hd.1 rfl
   have hcc : w'.cell? ⟨bl, 1, none⟩ = some (Value.func (.func 96) #[] #[]) := by rw [cell_of_row _ _ _ _ _ _ (row_kept HL0.out hC)]; rfl
   go_wp2_with fail
   exact ⟨_, by simp only [upd, h0]; rfl, hC, rfl, kP⟩
  ·have hrow := row_kept HX0.out hC
   refine wpList_load_row rfl 45 (.tmp 3) rfl w.heap.size rfl 45 _ (0, 0) _ hrow Tryz.underlying45 rfl HIX.out ?_
   clear hd
   go_wp2_with fail
   exact ⟨_, rfl, hC, rfl, kP⟩
  ·have h1 : fx 1 = .func (.func 96) #[] #[] := hd.1 rfl
   have h2 : fx 2 = lnV x := hd.2.1 rfl
   go_wp2_with fail
   refine (vline_x x w').mono ?_
   rintro e w2 ⟨rfl, hq⟩
   rw [hv.out]
   go_wp2_with fail
   exact ⟨_, by simp only [upd, h1, h2]; rfl, hC.trans (hq.mono hC.size), rfl, fun j v t _ _ h => wCyL_below hq j v h⟩
  ·have h3 : fx 3 = .bool true := hd.1 rfl
   go_wp2_with fail
   exact ⟨_, by simp only [upd, h3]; rfl, hC, rfl, kP⟩
  ·have h4 : fx 4 = .bool false := hd.1 rfl
   go_wp2_with fail
   exact ⟨_, by simp only [upd, h4]; rfl, hC, rfl, kP⟩
  ·have h5 : fx 5 = .bool false := hd.1 rfl
   go_wp2_with fail
   exact ⟨_, by simp only [upd, h5]; rfl, hC, rfl, kP⟩
  ·have h6 : fx 6 = .pointer (some ⟨bl, 2, none⟩) := hd.1 rfl
   have h5 : fx 5 = .bool false := hd.2.1 rfl
   have hcc : w'.cell? ⟨bl, 2, none⟩ = some (Value.func (.func 94) #[] #[]) := by rw [cell_of_row _ _ _ _ _ _ (row_kept HL0.out hC)]; rfl
   go_wp2_with fail
   exact ⟨_, by simp only [upd, h6, h5]; rfl, hC, rfl, kP⟩
  ·have h5 : fx 5 = .bool false := hd.1 rfl
   have hrow := row_kept HX0.out hC
   dsimp only
   rw [h5]
   refine wpList_unguard rfl ?_
   refine wpList_load_row rfl 45 (.tmp 3) rfl w.heap.size rfl 45 _ (0, 0) _ hrow Tryz.underlying45 rfl HIX.out ?_
   clear hd
   go_wp2_with fail
   exact ⟨_, by simp only [upd, h5]; rfl, hC, rfl, kP⟩
  ·have h7 : fx 7 = .func (.func 94) #[] #[] := hd.1 rfl
   have h8 : fx 8 = lnV x := hd.2.1 rfl
   have h5 : fx 5 = .bool false := hd.2.2.2.1 rfl
   go_wp2_with fail
   refine (nline_x x w').mono ?_
   rintro e w2 ⟨rfl, hq⟩
   go_wp2_with fail
   exact ⟨_, by simp only [upd, h7, h8, h5]; rfl, hC.trans (hq.mono hC.size), rfl, fun j v t _ _ h => wCyL_below hq j v h⟩
  ·have h5 : fx 5 = .bool false := hd.1 rfl
   have hcc : w'.cell? ⟨bs, 0, none⟩ = some (.int .i64 z) := by rw [cell_of_row _ _ _ _ _ _ (row_kept HS0.out hC)]; rfl
   go_wp2_with fail
   exact ⟨_, by simp only [upd, h5]; rfl, hC, rfl, kP⟩
  ·have h9 : fx 9 = .int .i64 (nLn x) := hd.1 rfl
   have h10 : fx 10 = .int .i64 z := hd.2.1 rfl
   have h5 : fx 5 = .bool false := hd.2.2.1 rfl
   go_wp2_with fail
   exact ⟨_, by simp only [upd, h9, h10, h5]; rfl, hC, rfl, kP⟩
  ·have h5 : fx 5 = .bool false := hd.1 rfl
   have h11 : fx 11 = .bool (decide (nLn x ≤ z)) := hd.2.1 rfl
   go_wp2_with fail
   exact ⟨_, by simp only [upd, h5, h11]; rfl, hC, rfl, kP⟩
  ·have h12 : fx 12 = .bool (decide (nLn x ≤ z)) := hd.1 rfl
   go_wp2_with fail
   exact ⟨_, by simp only [upd, h12]; rfl, hC, rfl, kP⟩
 ·intro L fo w' hC hS
  have H13 := hid (hS 13 (by decide) rfl)
  have h13 : fo 13 = .bool (decide (nLn x ≤ z)) := H13.out
  rw [h13]
  have HBC := hid hC
  clear hS hC h13 H13
  have HX1 := hid (row_kept HX0.out HBC.out)
  have HS1 := hid (row_kept HS0.out HBC.out)
  have hcc : w'.cell? ⟨bl, 2, none⟩ = some (Value.func (.func 94) #[] #[]) := by rw [cell_of_row _ _ _ _ _ _ (row_kept HL0.out HBC.out)]; rfl
  go_wp2_with (refine wpList_load_row rfl 45 (.tmp 3) rfl w.heap.size rfl 45 _ (0, 0) _ HX1.out Tryz.underlying45 rfl HIX.out ?_)
  rw [show Value.agg (lnC x).toArray = lnV x from rfl]
  refine (nline_x x w').mono ?_
  rintro e w2 ⟨rfl, hq⟩
  have HS2 := hid (row_kept HS1.out hq)
  have HG2 : Hid (w.grownBy w2 (some bs)) := hid (grown_then (grown_then (grown_of_below HB0.out) HBC.out) hq)
  have hc2 : w2.cell? ⟨bs, 0, none⟩ = some (.int .i64 z) := by rw [cell_of_row _ _ _ _ _ _ HS2.out]; rfl
  have hf2 : w2.frozen? ⟨bs, 0, none⟩ = false := by simp [World.frozen?, HS2.out]
  clear hq hcc
  go_wp2_with fail
  go_ret
  exact ⟨by rw [HLE.out]; rfl, grown_set HG2.out _, one_set HS2.out⟩
theorem chk1L_n (x : Ln) (z : Int) (bl bs : Nat) (w : World) (hl : Hid (w.heap[bl]? = some (.cells tabL 86 (0, 0)))) (hs : Hid (w.heap[bs]? = some (.cells #[.int .i64 z] 3 (0, 0)))) (hv : Hid (vLn x = false)) :
  Calls Tryz.prog 110 #[lnV x, .pointer (some ⟨bl, 0, none⟩), .pointer (some ⟨bs, 0, none⟩)] w fun e w' => e = .returned (.bool (!(vLn x && decide (z < nLn x)))) ∧ w.grownBy w' (some bs) ∧ w'.heap[bs]? = some (.cells #[.int .i64 (nLn x)] 3 (0, 0)) := by
 have HB0 := hid ((Below.refl _ w).alloc (Nat.le_refl _) (.cells (lnC x).toArray 45))
 have HX0 := hid (heap_alloc_new w (.cells (lnC x).toArray 45))
 have HL0 := hid (row_kept hl.out HB0.out)
 have HS0 := hid (row_kept hs.out HB0.out)
 have HBS : Hid (bs < w.heap.size) := hid (Array.getElem?_eq_some_iff.1 hs.out).1
 have HIX := hid (lnC_info x)
 have HLE : Hid ((!(vLn x && decide (z < nLn x))) = true) := hid (by rw [hv.out]; rfl)
 rw [show lnV x = .agg (lnC x).toArray from rfl]
 go_enter Tryz.func110, Tryz.ntmps110
 go_wp2_with fail
 generalize w.alloc (.cells (lnC x).toArray 45) = W1 at *
 refine region_flow3 (by kernel_rfl) (by kernel_rfl) (fun i => Nat.beq i 13) (fun i => i) (by kernel_rfl) (fun fx => #[.agg (lnC x).toArray, .pointer (some { block := bl, off := 0 }), .pointer (some { block := bs, off := 0 }), .pointer (some { block := w.heap.size, off := 0 }), .bool false, fx 13, fx 0, fx 1, fx 2, fx 3, fx 4, fx 5, fx 6, fx 7, fx 8, fx 9, fx 10, fx 11, fx 12, undef, undef, undef, undef, undef]) (fun _ => undef) (fun L fx w' => Below W1.heap.size W1 w') (fun fi fv _ fw => wCnL bl x z fi fv fw) (Below.refl _ _).drew ?_ ?_
 ·refine ⟨?_, ?_, ?_, ?_, ?_, ?_, ?_, ?_, ?_, ?_, ?_, ?_, ?_, ?_, trivial⟩
  all_goals intro L fx w' hC hi hcl hdn hd
  ·go_wp2_with fail
   exact ⟨_, rfl, hC, rfl, kP⟩
  ·have h0 : fx 0 = .pointer (some ⟨bl, 1, none⟩) := hd.1 rfl
   have hcc : w'.cell? ⟨bl, 1, none⟩ = some (Value.func (.func 96) #[] #[]) := by rw [cell_of_row _ _ _ _ _ _ (row_kept HL0.out hC)]; rfl
   go_wp2_with fail
   exact ⟨_, by simp only [upd, h0]; rfl, hC, rfl, kP⟩
  ·have hrow := row_kept HX0.out hC
   refine wpList_load_row rfl 45 (.tmp 3) rfl w.heap.size rfl 45 _ (0, 0) _ hrow Tryz.underlying45 rfl HIX.out ?_
   clear hd
   go_wp2_with fail
   exact ⟨_, rfl, hC, rfl, kP⟩
  ·have h1 : fx 1 = .func (.func 96) #[] #[] := hd.1 rfl
   have h2 : fx 2 = lnV x := hd.2.1 rfl
   go_wp2_with fail
   refine (vline_x x w').mono ?_
   rintro e w2 ⟨rfl, hq⟩
   rw [hv.out]
   go_wp2_with fail
   exact ⟨_, by simp only [upd, h1, h2]; rfl, hC.trans (hq.mono hC.size), rfl, fun j v t _ _ h => wCnL_below hq j v h⟩
  ·have h3 : fx 3 = .bool false := hd.1 rfl
   go_wp2_with fail
   exact ⟨_, by simp only [upd, h3]; rfl, hC, rfl, kP⟩
  ·have h4 : fx 4 = .bool true := hd.1 rfl
   go_wp2_with fail
   exact ⟨_, by simp only [upd, h4]; rfl, hC, rfl, kP⟩
  ·have h5 : fx 5 = .bool true := hd.1 rfl
   go_wp2_with fail
   exact ⟨_, by simp only [upd, h5]; rfl, hC, rfl, kP⟩
  ·have h6 : fx 6 = undef := hd.1 rfl
   have h5 : fx 5 = .bool true := hd.2.1 rfl
   go_wp2_with fail
   exact ⟨_, by simp only [upd, h6, h5]; rfl, hC, rfl, kP⟩
  ·have h5 : fx 5 = .bool true := hd.1 rfl
   go_wp2_with fail
   exact ⟨_, by simp only [upd, h5]; rfl, hC, rfl, kP⟩
  ·have h7 : fx 7 = undef := hd.1 rfl
   have h8 : fx 8 = undef := hd.2.1 rfl
   have h5 : fx 5 = .bool true := hd.2.2.2.1 rfl
   go_wp2_with fail
   exact ⟨_, by simp only [upd, h7, h8, h5]; rfl, hC, rfl, kP⟩
  ·have h5 : fx 5 = .bool true := hd.1 rfl
   go_wp2_with fail
   exact ⟨_, by simp only [upd, h5]; rfl, hC, rfl, kP⟩
  ·have h9 : fx 9 = undef := hd.1 rfl
   have h10 : fx 10 = undef := hd.2.1 rfl
   have h5 : fx 5 = .bool true := hd.2.2.1 rfl
   go_wp2_with fail
   exact ⟨_, by simp only [upd, h9, h10, h5]; rfl, hC, rfl, kP⟩
  ·have h5 : fx 5 = .bool true := hd.1 rfl
   have h11 : fx 11 = undef := hd.2.1 rfl
   go_wp2_with fail
   exact ⟨_, by simp only [upd, h5, h11]; rfl, hC, rfl, kP⟩
  ·have h12 : fx 12 = .bool true := hd.1 rfl
   go_wp2_with fail
   exact ⟨_, by simp only [upd, h12]; rfl, hC, rfl, kP⟩
 ·intro L fo w' hC hS
  have H13 := hid (hS 13 (by decide) rfl)
  have h13 : fo 13 = .bool true := H13.out
  rw [h13]
  have HBC := hid hC
  clear hS hC h13 H13
  have HX1 := hid (row_kept HX0.out HBC.out)
  have HS1 := hid (row_kept HS0.out HBC.out)
  have hcc : w'.cell? ⟨bl, 2, none⟩ = some (Value.func (.func 94) #[] #[]) := by rw [cell_of_row _ _ _ _ _ _ (row_kept HL0.out HBC.out)]; rfl
  go_wp2_with (refine wpList_load_row rfl 45 (.tmp 3) rfl w.heap.size rfl 45 _ (0, 0) _ HX1.out Tryz.underlying45 rfl HIX.out ?_)
  rw [show Value.agg (lnC x).toArray = lnV x from rfl]
  refine (nline_x x w').mono ?_
  rintro e w2 ⟨rfl, hq⟩
  have HS2 := hid (row_kept HS1.out hq)
  have HG2 : Hid (w.grownBy w2 (some bs)) := hid (grown_then (grown_then (grown_of_below HB0.out) HBC.out) hq)
  have hc2 : w2.cell? ⟨bs, 0, none⟩ = some (.int .i64 z) := by rw [cell_of_row _ _ _ _ _ _ HS2.out]; rfl
  have hf2 : w2.frozen? ⟨bs, 0, none⟩ = false := by simp [World.frozen?, HS2.out]
  clear hq hcc
  go_wp2_with fail
  go_ret
  exact ⟨by rw [HLE.out]; rfl, grown_set HG2.out _, one_set HS2.out⟩
theorem chk1L (x : Ln) (z : Int) (bl bs : Nat) (w : World) (hl : Hid (w.heap[bl]? = some (.cells tabL 86 (0, 0)))) (hs : Hid (w.heap[bs]? = some (.cells #[.int .i64 z] 3 (0, 0)))) :
  Calls Tryz.prog 110 #[lnV x, .pointer (some ⟨bl, 0, none⟩), .pointer (some ⟨bs, 0, none⟩)] w fun e w' => e = .returned (.bool (!(vLn x && decide (z < nLn x)))) ∧ w.grownBy w' (some bs) ∧ w'.heap[bs]? = some (.cells #[.int .i64 (nLn x)] 3 (0, 0)) := by
 by_cases h : vLn x = true
 ·exact chk1L_y x z bl bs w hl hs (hid h)
 ·exact chk1L_n x z bl bs w hl hs (hid (by simpa using h))
theorem indexL (ls : List Ln) (A : Option Addr) (n c : Nat) (z : Int) (bl bs M : Nat) (w : World) (hn : n ≤ 9223372036854775807) (hM : M ≤ bl) (hMs : M ≤ bs) (hne : bl ≠ bs) (hl : Hid (w.heap[bl]? = some (.cells tabL 86 (0, 0)))) (hs : Hid (w.heap[bs]? = some (.cells #[.int .i64 z] 3 (0, 0)))) (h : Hid (InLn w A n c ls)) (hbo : Hid (∀ g off, A = some ⟨g, off, none⟩ → 0 < ls.length → g < M)) :
  Calls Tryz.prog 140 #[.slice A n c, .func (.func 110) #[] #[.pointer (some ⟨bl, 0, none⟩), .pointer (some ⟨bs, 0, none⟩)]] w fun e w' => ∃ r : Int, e = .returned (.int .i64 r) ∧ decide (0 ≤ r) = !(chkE vLn nLn z ls) ∧ w.grownBy w' (some bs) := by
 have HN := hid (show ls.length = n from h.out.len)
 have HGW : Hid (w.grownBy w (some bs)) := hid ⟨rfl, rfl, rfl, Nat.le_refl _, fun _ _ _ => rfl⟩
 go_enter Tryz.func140, Tryz.ntmps140
 go_wp2_with fail
 go_loopw [8] (fun i wr => ∃ (j : Nat) (y : Int), j ≤ n ∧ i = .int .i64 (j : Nat) ∧ Hid (chkE vLn nLn z ls = chkE vLn nLn y (ls.drop j)) ∧ Hid (w.grownBy wr (some bs)) ∧ Hid (wr.heap[bs]? = some (.cells #[.int .i64 y] 3 (0, 0)))) (fun i _ => n - (intOf i).toNat)
 case atStart => exact ⟨0, z, by omega, rfl, hid rfl, HGW, hs⟩
 case round =>
  clear HGW hs
  obtain ⟨j, y, hj, rfl, HCH, HG, HS⟩ := hrel
  by_cases hlt : j < n
  ·have d1 : decide ((j : Int) < (n : Int)) = true := eQ (by omega)
   have d2 : decide (j < n) = true := eQ hlt
   have hjl : j < ls.length := by rw [HN.out]; exact hlt
   obtain ⟨g, off, rfl, hg, hr⟩ := h.out.rd (by omega)
   obtain ⟨x, HX⟩ : ∃ x, Hid (ls[j] = x) := ⟨_, hid rfl⟩
   have HR : Hid (wr.rangeAt g (off + j * 5) (lnC x)) := hid (by
    rw [← HX.out]
    intro i v hi
    have h1 := range_elem lnC_len hr j hjl i v hi
    have hgM := hbo.out g off rfl (by omega)
    rw [← h1]
    exact World.cell?_of_block (HG.out.block g hg (fun e => by injection e with e; omega)))
   have HL : Hid (wr.heap[bl]? = some (.cells tabL 86 (0, 0))) := hid ((HG.out.block bl (Array.getElem?_eq_some_iff.1 hl.out).1 (fun e => by injection e with e; exact hne e)).trans hl.out)
   have HDR : Hid (ls.drop j = x :: ls.drop (j + 1)) := hid (by rw [List.drop_eq_getElem_cons hjl, HX.out])
   have HII := hid (lnC_infoL x)
   clear hr
   go_wp2_with (with_reducible refine wpList_load_mid rfl 45 (.tmp 14) rfl g (off + j * 5) rfl (lnC x) _ HR.out Tryz.underlying45 rfl HII.out ?_)
   rw [show Value.agg (lnC x).toArray = lnV x from rfl]
   refine (chk1L x y bl bs wr HL HS).mono ?_
   rintro e w2 ⟨rfl, hg2, hs2⟩
   have HG2 := hid (grown_trans HG.out hg2)
   have HS2 := hid hs2
   clear hg2 hs2
   by_cases hok : (vLn x && decide (y < nLn x)) = true
   ·have HCN : Hid (chkE vLn nLn z ls = chkE vLn nLn (nLn x) (ls.drop (j + 1))) := hid (by rw [HCH.out, HDR.out]; rw [chkE, hok, Bool.true_and])
    rw [hok]
    clear hok
    go_wp2_with fail
    go_roundw
    case rel => exact ⟨j + 1, _, by omega, by go_num, HCN, HG2, HS2⟩
    case measure => simp [intOf]; omega
   ·have hok' : (vLn x && decide (y < nLn x)) = false := by simpa using hok
    have HCN : Hid (chkE vLn nLn z ls = false) := hid (by rw [HCH.out, HDR.out]; rw [chkE, hok', Bool.false_and])
    rw [hok']
    clear hok hok'
    go_wp2_with fail
    go_ret
    exact ⟨_, rfl, by rw [HCN.out]; exact eQ (by omega), HG2.out⟩
  ·have d1 : decide ((j : Int) < (n : Int)) = false := dQ (by omega)
   have d2 : decide (j < n) = false := dQ hlt
   have HCN : Hid (chkE vLn nLn z ls = true) := hid (by rw [HCH.out, List.drop_eq_nil_of_le (by rw [HN.out]; omega)]; rfl)
   go_wp2_with fail
   go_ret
   exact ⟨_, rfl, by rw [HCN.out]; rfl, HG.out⟩
theorem containsL (ls : List Ln) (A : Option Addr) (n c : Nat) (z : Int) (bl bs M : Nat) (w : World) (hn : n ≤ 9223372036854775807) (hM : M ≤ bl) (hMs : M ≤ bs) (hne : bl ≠ bs) (hl : Hid (w.heap[bl]? = some (.cells tabL 86 (0, 0)))) (hs : Hid (w.heap[bs]? = some (.cells #[.int .i64 z] 3 (0, 0)))) (h : Hid (InLn w A n c ls)) (hbo : Hid (∀ g off, A = some ⟨g, off, none⟩ → 0 < ls.length → g < M)) :
  Calls Tryz.prog 109 #[.slice A n c, .func (.func 110) #[] #[.pointer (some ⟨bl, 0, none⟩), .pointer (some ⟨bs, 0, none⟩)]] w fun e w' => e = .returned (.bool (!(chkE vLn nLn z ls))) ∧ w.grownBy w' (some bs) := by
 go_enter Tryz.func109, Tryz.ntmps109
 go_wp2_with fail
 refine (indexL ls A n c z bl bs M w hn hM hMs hne hl hs h hbo).mono ?_
 rintro e w2 ⟨r, rfl, hr, hg⟩
 have HR := hid hr
 have HG := hid hg
 clear hr hg
 go_wp2_with fail
 go_ret
 exact ⟨by rw [← HR.out]; rfl, HG.out⟩
theorem checkL (ls : List Ln) (A : Option Addr) (n c : Nat) (w : World) (hn : n ≤ 9223372036854775807) (h : Hid (InLn w A n c ls)) :
  Calls Tryz.prog 53 #[.agg tabL, .slice A n c] w fun e w' => e = .returned (.bool (chkE vLn nLn (-1) ls)) ∧ Below w.heap.size w w' := by
 have hb0 := ((Below.refl _ w).alloc (Nat.le_refl _) (.cells tabL 86)).alloc (by simp) (.cells #[.int .i64 (-1)] 3)
 have hr0 := (Below.heap_alloc (w.alloc (.cells tabL 86)) (.cells #[.int .i64 (-1)] 3) w.heap.size (by simp)).trans (heap_alloc_new w (.cells tabL 86))
 have hr1 := heap_alloc_new (w.alloc (.cells tabL 86)) (.cells #[.int .i64 (-1)] 3)
 rw [World.size_alloc] at hr1
 have HB0 := hid hb0
 have HL0 := hid hr0
 have HS0 := hid hr1
 have HI0 := hid (h.out.below hb0)
 have HBO : Hid (∀ g off, A = some ⟨g, off, none⟩ → 0 < ls.length → g < w.heap.size) := hid (fun g off e h0 => by
  obtain ⟨g', off', e', hg, _⟩ := h.out.rd h0
  rw [e] at e'; injection e' with e'; injection e' with e1 e2; omega)
 clear hb0 hr0 hr1
 go_enter Tryz.func53, Tryz.ntmps53
 go_wp2_with fail
 refine (containsL ls A n c (-1) w.heap.size (w.heap.size + 1) w.heap.size _ hn (Nat.le_refl _) (Nat.le_succ _) (by omega) HL0 HS0 HI0 HBO).mono ?_
 rintro e w2 ⟨rfl, hg⟩
 have HB2 : Hid (Below w.heap.size w w2) := hid (HB0.out.grown hg HB0.out.size (fun k hk => by injection hk with hk; omega))
 clear hg
 go_wp2_with fail
 go_ret
 exact ⟨by simp, HB2.out⟩
end Go.Proofs.YtmfmgeapecapiaaGreatDoor
