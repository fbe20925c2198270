/- A transcript with another salt; cells stored in the middle of a row. -/
import Derived.Test.YtmfmgeapecapiaaDoorDB18
namespace Go.Proofs.YtmfmgeapecapiaaDoor
open Go.RowKit SzSha SzTree
set_option linter.unusedVariables false
set_option maxRecDepth 100000
theorem setCells_row (g : Nat) (ty : TypeId) (post : List Value) : ∀ (vs pre old : List Value) (w : World), old.length = vs.length → w.heap[g]? = some (.cells (pre ++ (old ++ post)).toArray ty (0, 0)) →
    (w.setCells g pre.length vs).heap[g]? = some (.cells (pre ++ (vs ++ post)).toArray ty (0, 0)) ∧ ∀ (B : Nat) (a : World), Below B a w → B ≤ g → Below B a (w.setCells g pre.length vs)
  | [], pre, old, w, hl, h => by
    have : old = [] := List.eq_nil_of_length_eq_zero hl
    subst this
    exact ⟨h, fun B a hb _ => hb⟩
  | v :: vs, pre, [], w, hl, h => by simp at hl
  | v :: vs, pre, o :: old, w, hl, h => by
    have e := setCell_eq_setRow w g pre.length _ _ _ v h
    have hr := setRow_heap w g _ ((pre ++ (o :: old ++ post)).toArray.setIfInBounds pre.length v) _ _ h
    have es : (pre ++ (o :: old ++ post)).toArray.setIfInBounds pre.length v = ((pre ++ [v]) ++ (old ++ post)).toArray := by
      simp
    have hb : ∀ (B : Nat) (a : World), Below B a w → B ≤ g → Below B a (w.setCell ⟨g, pre.length, none⟩ v) := fun B a hb hg => by rw [e]; exact below_setRow hb hg _
    rw [← e, es] at hr
    have ih := setCells_row g ty post vs (pre ++ [v]) old (w.setCell ⟨g, pre.length, none⟩ v) (by simpa using hl) hr
    rw [List.length_append, List.length_singleton] at ih
    refine ⟨?_, fun B a h1 h2 => ih.2 B a (hb B a h1 h2) h2⟩
    have := ih.1
    simpa [World.setCells] using this
def trS (t : Tr) (s : List Nat) : Tr := ⟨t.cam, t.stu, t.ver, t.kno, t.ln, t.cl, s⟩
theorem trS_G (t : Tr) (s : List Nat) : trG (trS t s) = trG t := rfl
theorem trS_ok {w : World} {t : Tr} {p : TrP} {s : List Nat} (h : TrOk w t p) (hs : DgOk s) : TrOk w (trS t s) p := ⟨h.b0, h.b1, h.b2, h.b3, h.ln, h.cl, hs.len, hs.bytes, h.mn, h.mc⟩
theorem tr_salted {w : World} {g : Nat} {ty : TypeId} {t : Tr} {p : TrP} {s : List Nat} (ht : t.salt.length = 32) (hs : s.length = 32) (h : w.heap[g]? = some (.cells (trC t p).toArray ty (0, 0))) :
    (w.setCells g 6 (dgC s)).heap[g]? = some (.cells (trC (trS t s) p).toArray ty (0, 0)) ∧ ∀ (B : Nat) (a : World), Below B a w → B ≤ g → Below B a (w.setCells g 6 (dgC s)) := by
  have e : ∀ u : List Nat, trC (trS t u) p = [.int .i64 t.cam, .int .i64 t.stu, .int .i64 t.ver, .int .i64 t.kno, .slice p.A p.n p.c, .slice p.A2 p.n2 p.c2] ++ (dgC u ++ []) := fun u => by rw [List.append_nil]; rfl
  have h2 := setCells_row g ty [] (dgC s) [.int .i64 t.cam, .int .i64 t.stu, .int .i64 t.ver, .int .i64 t.kno, .slice p.A p.n p.c, .slice p.A2 p.n2 p.c2] (dgC t.salt) w (by rw [dgC_length, dgC_length, ht, hs]) (by rw [← e]; exact h)
  rw [← e] at h2
  exact h2
theorem tr_there {w : World} {g : Nat} {ty : TypeId} {t : Tr} {p : TrP} (ht : t.salt.length = 32) (h : w.heap[g]? = some (.cells (trC t p).toArray ty (0, 0))) : w.there g 6 32 := fun j hj => by
  have := tr_salt h j _ (List.getElem?_eq_getElem (show j < (dgC t.salt).length by rw [dgC_length, ht]; exact hj))
  exact ⟨by rw [this]; rfl, frozen_of_row _ _ _ _ _ h⟩
theorem nodes_some (t : Tr) (p : TrP) (w : World) (h : Hid (TrOk w t p)) (hT : Hid (Tabs w)) :
    Calls Tryd.prog 26 #[trV t p] w fun e w' => ∃ A' n' c' z, e = .returned (.tuple #[.slice A' n' c', .int .i64 z]) ∧ Below w.heap.size w w' := by
  by_cases hg : trG t = true
  · refine (nodes_yes t p w h hT (Lib.hid hg)).mono ?_
    rintro e w' ⟨A, n, c, rfl, _, hb⟩
    exact ⟨A, n, c, 0, rfl, hb⟩
  · refine (nodes_no t p w h hT (Lib.hid (by simpa using hg))).mono ?_
    rintro e w' ⟨rfl, hb⟩
    exact ⟨none, 0, 0, 420, rfl, hb⟩
theorem nLn_valid {x : Ln} (h : vLn x = true) : 0 ≤ x.c0 ∧ x.c0 ≤ 4095 ∧ 0 ≤ x.c1 ∧ x.c1 ≤ 1023 ∧ nLn x = 4096 * x.c1 + x.c0 := by
  unfold vLn at h
  have hk := of_decide_eq_true h
  have e : nLn x = 4096 * x.c1 + x.c0 := noL_val hk
  unfold lOk at hk
  omega
theorem node_at {w : World} {t : Tr} {A : Option Addr} {n c j : Nat} {x : Ln} {s : List Nat} {y : Nd} (h : InN w A n c (t.ln.map (ndL t.salt))) (hx : t.ln[j]? = some x) (hs : saltN t.salt 1 (nLn x) = s) (hy : leafR x.c0 x.c1 x.c2 x.c3 x.c4 s = y) :
    ∃ g o, A = some ⟨g, o, none⟩ ∧ w.rangeAt g (o + j * 34) (ndC y) := by
  obtain ⟨hj, rfl⟩ := List.getElem?_eq_some_iff.1 hx
  obtain ⟨g, o, e, _, hr⟩ := h.rd (by rw [List.length_map]; omega)
  refine ⟨g, o, e, ?_⟩
  have h2 := range_one hr h.ok j (by rw [List.length_map]; exact hj)
  have e2 : (t.ln.map (ndL t.salt))[j]'(by rw [List.length_map]; exact hj) = y := by
    rw [List.getElem_map]
    unfold ndL
    rw [hs, hy]
  rw [e2] at h2
  exact h2
theorem block_lt {w : World} {g : Nat} {o : Obj} (h : w.heap[g]? = some o) : g < w.heap.size := (Array.getElem?_eq_some_iff.1 h).1
theorem ndL_get {t : Tr} {j : Nat} {x : Ln} (hx : t.ln[j]? = some x) (base : List Nat) : (t.ln.map (ndL base))[j]? = some (ndL base x) := by rw [List.getElem?_map, hx]; rfl
end Go.Proofs.YtmfmgeapecapiaaDoor
