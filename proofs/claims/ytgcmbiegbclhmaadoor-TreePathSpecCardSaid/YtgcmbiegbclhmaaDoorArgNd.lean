/- Nodes, lines and slices of them that came in. -/
import Derived.Test.YtgcmbiegbclhmaaDoorArgDig
import Derived.Test.YtgcmbiegbclhmaaDoorTreeValid
import Derived.Deep.Slices
namespace Go.Proofs.YtgcmbiegbclhmaaDoor
open Go.ChangeShapes Go.WideShapes Go.ChangeAt Go.RowKit SzSha SzTree Go.Deep
set_option linter.unusedVariables false
set_option maxRecDepth 100000
section
variable {H : Type} {enc : TypeId × Value → H} {W : World} {base : Nat} {spare : Nat → Bool} {held : Bool} {fuel : Nat}
theorem cells_nd : Tryd.prog.cellsOf 26 = 34 := by kernel_rfl
theorem cells_dg : Tryd.prog.cellsOf 24 = 32 := by kernel_rfl
theorem cells_it : Tryd.prog.cellsOf 3 = 1 := by kernel_rfl
theorem cells_ln : Tryd.prog.cellsOf 49 = 5 := by kernel_rfl
theorem trod_dg {cs : List Value} {x : DataW H × List MemPlace} (hf : DataW.trod enc Tryd.prog W base spare held fuel 24 cs = some x) : ∃ l : List Nat, cs = l.map (fun y => Value.int .u8 (y : Nat)) ∧ l.length = 32 ∧ Bytes l := by
  obtain ⟨xs, m, rfl, hx, hlen, hxl, hget⟩ := DataW.trod_array Tryd.underlying24 hf
  rw [cells_dg] at hlen
  have key : ∀ i (hi : i < cs.length), ∃ z : Nat, z < 256 ∧ cs[i] = .int .u8 (z : Nat) := fun i hi => by
    have h1 := hget i (by omega)
    rw [cells8, Nat.mul_one] at h1
    have hxi : i < xs.length := by omega
    rw [List.getElem?_eq_getElem hxi] at h1
    obtain ⟨z, hc, _, hw⟩ := DataW.trod_int Tryd.underlying5 h1
    have hb := bounds_u8 hw
    refine ⟨z.toNat, by omega, ?_⟩
    have h2 := congrArg (·[0]?) hc
    rw [Int.toNat_of_nonneg hb.1]
    simpa [List.getElem?_take, List.getElem?_drop, hi] using h2
  refine ⟨cs.map natOf, ?_, by simp [hlen], fun x hx => ?_⟩
  · rw [List.map_map]
    apply List.ext_getElem
    · simp
    · intro i h1 h2
      obtain ⟨z, hz, e⟩ := key i h1
      rw [List.getElem_map, e]
      simp [natOf]
  · obtain ⟨u, hu, rfl⟩ := List.mem_map.1 hx
    obtain ⟨i, hi, rfl⟩ := List.mem_iff_getElem.1 hu
    obtain ⟨z, hz, e⟩ := key i hi
    rw [e]
    simpa [natOf] using hz
theorem trod_it {cs : List Value} {x : DataW H × List MemPlace} (hf : DataW.trod enc Tryd.prog W base spare held fuel 3 cs = some x) : ∃ z : Int, cs = [.int .i64 z] ∧ -9223372036854775808 ≤ z ∧ z ≤ 9223372036854775807 := by
  obtain ⟨z, hc, _, hw⟩ := DataW.trod_int Tryd.underlying3 hf
  exact ⟨z, hc, bounds_i64 hw⟩
theorem nd_fields : ∃ f0 f1 f2 : Field, Tryd.prog.underlying 26 = some (.struct #[f0, f1, f2]) ∧ f0.type = 24 ∧ f0.offset = 0 ∧ f1.type = 3 ∧ f1.offset = 32 ∧ f2.type = 3 ∧ f2.offset = 33 :=
  ⟨_, _, _, Tryd.underlying26, rfl, rfl, rfl, rfl, rfl, rfl⟩
theorem trod_nd {cs : List Value} {x : DataW H × List MemPlace} (hf : DataW.trod enc Tryd.prog W base spare held fuel 26 cs = some x) : ∃ n : Nd, cs = ndC n ∧ NdOk n := by
  obtain ⟨f0, f1, f2, hu, t0, o0, t1, o1, t2, o2⟩ := nd_fields
  obtain ⟨xs, m, rfl, hx, hlen, hxl, hget⟩ := DataW.trod_struct hu hf
  rw [cells_nd] at hlen
  have hxl' : xs.length = 3 := hxl
  have g0 := hget 0 f0 rfl
  have g1 := hget 1 f1 rfl
  have g2 := hget 2 f2 rfl
  rw [t0, o0, cells_dg, List.getElem?_eq_getElem (by omega)] at g0
  rw [t1, o1, cells_it, List.getElem?_eq_getElem (by omega)] at g1
  rw [t2, o2, cells_it, List.getElem?_eq_getElem (by omega)] at g2
  obtain ⟨l, e0, hl, hb⟩ := trod_dg g0
  obtain ⟨c, e1, hc⟩ := trod_it g1
  obtain ⟨p, e2, hp⟩ := trod_it g2
  refine ⟨⟨l, c, p⟩, ?_, ⟨hl, hb, hc, hp⟩⟩
  have s1 : cs = cs.take 32 ++ (cs.drop 32).take 1 ++ (cs.drop 33).take 1 := by
    have a1 : (cs.drop 33).take 1 = cs.drop 33 := List.take_of_length_le (by simp [hlen])
    have a2 : cs.drop 33 = (cs.drop 32).drop 1 := by rw [List.drop_drop]
    rw [a1, a2, List.append_assoc, List.take_append_drop, List.take_append_drop]
  rw [s1, e1, e2]
  rw [List.drop_zero] at e0
  rw [e0]
  unfold ndC
  simp
/-- a line -/
structure Ln where
  c0 : Int
  c1 : Int
  c2 : Int
  c3 : Int
  c4 : Int
def lnC (l : Ln) : List Value := [.int .i64 l.c0, .int .i64 l.c1, .int .i64 l.c2, .int .i64 l.c3, .int .i64 l.c4]
def I64 (z : Int) : Prop := -9223372036854775808 ≤ z ∧ z ≤ 9223372036854775807
structure LnOk (l : Ln) : Prop where
  b0 : I64 l.c0
  b1 : I64 l.c1
  b2 : I64 l.c2
  b3 : I64 l.c3
  b4 : I64 l.c4
theorem ln_fields : ∃ f0 f1 f2 f3 f4 : Field, Tryd.prog.underlying 49 = some (.struct #[f0, f1, f2, f3, f4]) ∧ (f0.type = 3 ∧ f0.offset = 0) ∧ (f1.type = 3 ∧ f1.offset = 1) ∧ (f2.type = 3 ∧ f2.offset = 2) ∧ (f3.type = 3 ∧ f3.offset = 3) ∧ f4.type = 3 ∧ f4.offset = 4 :=
  ⟨_, _, _, _, _, Tryd.underlying49, ⟨rfl, rfl⟩, ⟨rfl, rfl⟩, ⟨rfl, rfl⟩, ⟨rfl, rfl⟩, rfl, rfl⟩
theorem trod_ln {cs : List Value} {x : DataW H × List MemPlace} (hf : DataW.trod enc Tryd.prog W base spare held fuel 49 cs = some x) : ∃ n : Ln, cs = lnC n ∧ LnOk n := by
  obtain ⟨f0, f1, f2, f3, f4, hu, ⟨t0, o0⟩, ⟨t1, o1⟩, ⟨t2, o2⟩, ⟨t3, o3⟩, t4, o4⟩ := ln_fields
  obtain ⟨xs, m, rfl, hx, hlen, hxl, hget⟩ := DataW.trod_struct hu hf
  rw [cells_ln] at hlen
  have hxl' : xs.length = 5 := hxl
  have g0 := hget 0 f0 rfl
  have g1 := hget 1 f1 rfl
  have g2 := hget 2 f2 rfl
  have g3 := hget 3 f3 rfl
  have g4 := hget 4 f4 rfl
  rw [t0, o0, cells_it, List.getElem?_eq_getElem (by omega)] at g0
  rw [t1, o1, cells_it, List.getElem?_eq_getElem (by omega)] at g1
  rw [t2, o2, cells_it, List.getElem?_eq_getElem (by omega)] at g2
  rw [t3, o3, cells_it, List.getElem?_eq_getElem (by omega)] at g3
  rw [t4, o4, cells_it, List.getElem?_eq_getElem (by omega)] at g4
  obtain ⟨z0, e0, h0⟩ := trod_it g0
  obtain ⟨z1, e1, h1⟩ := trod_it g1
  obtain ⟨z2, e2, h2⟩ := trod_it g2
  obtain ⟨z3, e3, h3⟩ := trod_it g3
  obtain ⟨z4, e4, h4⟩ := trod_it g4
  refine ⟨⟨z0, z1, z2, z3, z4⟩, ?_, ⟨h0, h1, h2, h3, h4⟩⟩
  match cs, hlen with
  | [a, b, c, d, e], _ =>
    simp at e0 e1 e2 e3 e4
    subst e0 e1 e2 e3 e4
    rfl
theorem arg_nd {v : Value} {d : DataW H} {p : List MemPlace} (hval : Value.okWide Tryd.prog W .any base 26 v) (h : DataW.Trod enc Tryd.prog W 0 (fun _ => true) true 26 v d p) : ∃ n : Nd, v = ndV n ∧ NdOk n := by
  obtain ⟨f0, f1, f2, hu, _⟩ := nd_fields
  obtain ⟨cs, rfl, hsz⟩ := okWide_struct hu hval
  obtain ⟨fuel, hf⟩ := h
  obtain ⟨n, e, ho⟩ := trod_nd hf
  refine ⟨n, ?_, ho⟩
  have e' : cs.toList = ndC n := e
  unfold ndV
  rw [← e']
theorem arg_ln {v : Value} {d : DataW H} {p : List MemPlace} (hval : Value.okWide Tryd.prog W .any base 49 v) (h : DataW.Trod enc Tryd.prog W 0 (fun _ => true) true 49 v d p) : ∃ n : Ln, v = .agg #[.int .i64 n.c0, .int .i64 n.c1, .int .i64 n.c2, .int .i64 n.c3, .int .i64 n.c4] ∧ LnOk n := by
  obtain ⟨f0, f1, f2, f3, f4, hu, _⟩ := ln_fields
  obtain ⟨cs, rfl, hsz⟩ := okWide_struct hu hval
  obtain ⟨fuel, hf⟩ := h
  obtain ⟨n, e, ho⟩ := trod_ln hf
  refine ⟨n, ?_, ho⟩
  have e' : cs.toList = lnC n := e
  congr 1
  rw [← Array.toArray_toList (xs := cs), e']; rfl
theorem rangeAt_flat {α : Type} {cells : α → List Value} {k : Nat} {w : World} {g : Nat} : ∀ (ls : List α) (off : Nat), (∀ x ∈ ls, (cells x).length = k) → (∀ i (hi : i < ls.length), w.rangeAt g (off + i * k) (cells ls[i])) → w.rangeAt g off (ls.flatMap cells)
  | [], off, _, _ => fun j v hj => by simp at hj
  | x :: ls, off, hl, h => fun j v hj => by
    rw [List.flatMap_cons] at hj
    have hx := hl x (by simp)
    by_cases hjk : j < k
    · rw [List.getElem?_append_left (by omega)] at hj
      have := h 0 (by simp) j v hj
      rwa [Nat.zero_mul, Nat.add_zero] at this
    · rw [List.getElem?_append_right (by omega), hx] at hj
      have ih := rangeAt_flat ls (off + k) (fun y hy => hl y (List.mem_cons_of_mem _ hy)) (fun i hi => by
        have := h (i + 1) (by simpa using hi)
        rw [Nat.succ_mul, Nat.add_comm (i * k), ← Nat.add_assoc] at this
        exact this)
      have := ih (j - k) v hj
      rwa [show off + k + (j - k) = off + j by omega] at this
/-- a slice of elements of k cells each -/
theorem arg_rows {α : Type} {t e : TypeId} {k : Nat} {cells : α → List Value} {ok : α → Prop} (hk : 0 < k) (ht : Tryd.prog.underlying t = some (.slice e)) (ce : Tryd.prog.cellsOf e = k) (hlenc : ∀ x, ok x → (cells x).length = k) (hel : ∀ (n : Nat) (cs : List Value) (y : DataW H × List MemPlace), DataW.trod enc Tryd.prog W 0 (fun _ => true) true n e cs = some y → ∃ x, cs = cells x ∧ ok x) [Inhabited α]
    {v : Value} {d : DataW H} {p : List MemPlace} (hval : Value.okWide Tryd.prog W .any base t v) (h : DataW.Trod enc Tryd.prog W 0 (fun _ => true) true t v d p) :
    ∃ (A : Option Addr) (n c : Nat) (ls : List α), v = .slice A n c ∧ ls.length = n ∧ n ≤ c ∧ (A = none → c = 0) ∧ (∀ x ∈ ls, ok x) ∧ (0 < ls.length → ∃ g off, A = some ⟨g, off, none⟩ ∧ g < W.heap.size ∧ W.rangeAt g off (ls.flatMap cells)) ∧ c ≤ maxLen := by
  obtain ⟨a1, len, cap, rfl⟩ := okWide_slice ht hval
  obtain ⟨fuel, hf⟩ := h
  rcases open_slice ht hf with ⟨hcs, hx⟩ | ⟨a, len', cap', m, n, D, Pl, hcs, _, hl, hm, hmm, hx, hget⟩
  · simp [Value.cells] at hcs
    obtain ⟨rfl, rfl, rfl⟩ := hcs
    exact ⟨none, 0, 0, [], rfl, rfl, Nat.le_refl _, fun _ => rfl, (fun x hx => by cases hx), (fun h => by simp at h), Nat.zero_le _⟩
  · simp [Value.cells] at hcs
    obtain ⟨rfl, rfl, rfl⟩ := hcs
    simp only [if_true] at hmm
    have each : ∀ i, i < len → ∃ x : α, ok x ∧ ∀ j u, (cells x)[j]? = some u → W.cell? ((a.add (i * k)).add j) = some u := fun i hi => by
      obtain ⟨cs', h1, h2⟩ := hget i (by omega)
      rw [ce] at h1
      obtain ⟨x, rfl, ho⟩ := hel _ _ _ h2
      obtain ⟨_, hlen', hcell⟩ := World.cells?_some h1
      refine ⟨x, ho, fun j u hj => ?_⟩
      have hj2 : j < k := by have := (List.getElem?_eq_some_iff.1 hj).1; omega
      rw [hcell j hj2]; exact hj
    obtain ⟨f, hf2⟩ := choose_lt each
    refine ⟨some a, len, cap, (List.range len).map f, rfl, by simp, hl, (fun h => by cases h), fun x hx => ?_, fun h0 => ?_, hm⟩
    · obtain ⟨i, hi, rfl⟩ := List.mem_map.1 hx
      exact (hf2 i (by simpa using hi)).1
    · have hl0 : 0 < len := by simpa using h0
      have hle : ∀ i, i < len → (cells (f i)).length = k := fun i hi => hlenc _ (hf2 i hi).1
      have c0 := (hf2 0 hl0).2 0 ((cells (f 0))[0]'(by rw [hle 0 hl0]; exact hk)) (List.getElem?_eq_getElem _)
      obtain ⟨ab, ao, spot⟩ := a
      have hspot : spot = none := by simpa [Addr.add] using World.cell?_spot c0
      subst hspot
      rw [Addr.add_lit, Addr.add_lit] at c0
      refine ⟨ab, ao, rfl, block_lt_of_cell c0, rangeAt_flat (k := k) _ _ (fun x hx => ?_) (fun i hi j u hj => ?_)⟩
      · obtain ⟨i, hi, rfl⟩ := List.mem_map.1 hx
        exact hle i (by simpa using hi)
      · have hi2 : i < len := by simpa using hi
        have hj' : (cells (f i))[j]? = some u := by simpa using hj
        have := (hf2 i hi2).2 j u hj'
        rwa [Addr.add_lit, Addr.add_lit] at this
instance : Inhabited Nd := ⟨⟨[], 0, 0⟩⟩
instance : Inhabited Ln := ⟨⟨0, 0, 0, 0, 0⟩⟩
theorem arg_nds {v : Value} {d : DataW H} {p : List MemPlace} (hval : Value.okWide Tryd.prog W .any base 22 v) (h : DataW.Trod enc Tryd.prog W 0 (fun _ => true) true 22 v d p) :
    ∃ (A : Option Addr) (n c : Nat) (ls : List Nd), v = .slice A n c ∧ InN W A n c ls ∧ n ≤ maxLen := by
  obtain ⟨A, n, c, ls, hv, h1, h2, h3, h4, h5, h6⟩ := arg_rows (cells := ndC) (ok := NdOk) (by omega) Tryd.underlying22 cells_nd (fun x hx => ndC_length hx) (fun n cs y hy => trod_nd hy) hval h
  exact ⟨A, n, c, ls, hv, ⟨h1, h2, h3, h4, h5⟩, Nat.le_trans h2 h6⟩
/-- a slice of lines that came in -/
structure InLn (w : World) (A : Option Addr) (n c : Nat) (ls : List Ln) : Prop where
  len : ls.length = n
  cap : n ≤ c
  none_ : A = none → c = 0
  ok : ∀ x ∈ ls, LnOk x
  rd : 0 < ls.length → ∃ g off, A = some ⟨g, off, none⟩ ∧ g < w.heap.size ∧ w.rangeAt g off (ls.flatMap lnC)
theorem arg_lns {v : Value} {d : DataW H} {p : List MemPlace} (hval : Value.okWide Tryd.prog W .any base 53 v) (h : DataW.Trod enc Tryd.prog W 0 (fun _ => true) true 53 v d p) :
    ∃ (A : Option Addr) (n c : Nat) (ls : List Ln), v = .slice A n c ∧ InLn W A n c ls ∧ n ≤ maxLen := by
  obtain ⟨A, n, c, ls, hv, h1, h2, h3, h4, h5, h6⟩ := arg_rows (cells := lnC) (ok := LnOk) (by omega) Tryd.underlying53 cells_ln (fun x hx => rfl) (fun n cs y hy => trod_ln hy) hval h
  exact ⟨A, n, c, ls, hv, ⟨h1, h2, h3, h4, h5⟩, Nat.le_trans h2 h6⟩
end
end Go.Proofs.YtgcmbiegbclhmaaDoor
