/- What is shown, as a struct literal. sizar/disclose.Show. sizar/disclose.Meets. sizar/disclose.Verify. -/
import Derived.Test.YtmfmgeapecapiaaGreatDoorSS9
import Derived.Test.YtmfmgeapecapiaaGreatDoorSS8
set_option maxHeartbeats 64000001
open Go.Lib (hid)
namespace Go.Proofs.YtmfmgeapecapiaaGreatDoor
open Go.RowKit SzSha SzTree
set_option linter.unusedVariables false
set_option maxRecDepth 100000
theorem built_shL (i : Int) (x : Ln) (s : List Nat) (h : s.length = 32) (A : Option Addr) (n c : Nat) : Tryz.prog.built 48 [(0, .int .i64 i), (1, lnV x), (2, dgV s), (3, .slice A n c)] = some (shCL i x s A n c).toArray := by
 rcases s with _ | ⟨x0, s⟩
 ·simp at h
 rcases s with _ | ⟨x1, s⟩
 ·simp at h
 rcases s with _ | ⟨x2, s⟩
 ·simp at h
 rcases s with _ | ⟨x3, s⟩
 ·simp at h
 rcases s with _ | ⟨x4, s⟩
 ·simp at h
 rcases s with _ | ⟨x5, s⟩
 ·simp at h
 rcases s with _ | ⟨x6, s⟩
 ·simp at h
 rcases s with _ | ⟨x7, s⟩
 ·simp at h
 rcases s with _ | ⟨x8, s⟩
 ·simp at h
 rcases s with _ | ⟨x9, s⟩
 ·simp at h
 rcases s with _ | ⟨x10, s⟩
 ·simp at h
 rcases s with _ | ⟨x11, s⟩
 ·simp at h
 rcases s with _ | ⟨x12, s⟩
 ·simp at h
 rcases s with _ | ⟨x13, s⟩
 ·simp at h
 rcases s with _ | ⟨x14, s⟩
 ·simp at h
 rcases s with _ | ⟨x15, s⟩
 ·simp at h
 rcases s with _ | ⟨x16, s⟩
 ·simp at h
 rcases s with _ | ⟨x17, s⟩
 ·simp at h
 rcases s with _ | ⟨x18, s⟩
 ·simp at h
 rcases s with _ | ⟨x19, s⟩
 ·simp at h
 rcases s with _ | ⟨x20, s⟩
 ·simp at h
 rcases s with _ | ⟨x21, s⟩
 ·simp at h
 rcases s with _ | ⟨x22, s⟩
 ·simp at h
 rcases s with _ | ⟨x23, s⟩
 ·simp at h
 rcases s with _ | ⟨x24, s⟩
 ·simp at h
 rcases s with _ | ⟨x25, s⟩
 ·simp at h
 rcases s with _ | ⟨x26, s⟩
 ·simp at h
 rcases s with _ | ⟨x27, s⟩
 ·simp at h
 rcases s with _ | ⟨x28, s⟩
 ·simp at h
 rcases s with _ | ⟨x29, s⟩
 ·simp at h
 rcases s with _ | ⟨x30, s⟩
 ·simp at h
 rcases s with _ | ⟨x31, s⟩
 ·simp at h
 rcases s with _ | ⟨y, s⟩
 ·clear h
  kernel_rfl
 ·simp at h
theorem wpList_build_shL {w : World} {ops : Array Oper} {rest : List Oper} {o : Oper} {a : Act} {Q : Exit → Act → World → Prop} (hg : o.guard = none) (u0 u1 u2 u3 : Operand)
  (ho : o.op = .build 48 #[(0, u0), (1, u1), (2, u2), (3, u3)]) (i : Int) (x : Ln) (s : List Nat) (A : Option Addr) (n c : Nat) (hs : s.length = 32) (h0 : a.eval u0 = .int .i64 i) (h1 : a.eval u1 = lnV x) (h2 : a.eval u2 = dgV s) (h3 : a.eval u3 = .slice A n c)
  (h : wpList Tryz.prog ops Q rest (a.put o.dst (.agg (shCL i x s A n c).toArray)) w) : wpList Tryz.prog ops Q (o :: rest) a w := by
 have e1 : (#[(0, u0), (1, u1), (2, u2), (3, u3)].map fun (i, x) => (i, a.eval x)).toList = [(0, .int .i64 i), (1, lnV x), (2, dgV s), (3, .slice A n c)] := by simp [h0, h1, h2, h3]
 refine wpList_build hg 48 _ ho (by rw [e1, built_shL i x s hs A n c]; rfl) ?_
 rw [e1, built_shL i x s hs A n c]
 exact h
theorem shCL_one (i : Int) (x : Ln) (s : List Nat) (A : Option Addr) (n c : Nat) : (shCL i x s A n c).toArray.all (·.oneCell') = true := by
 rw [Array.all_eq_true_iff_forall_mem]
 intro v hv
 have hv' : v ∈ shCL i x s A n c := by simpa using hv
 unfold shCL at hv'
 rcases List.mem_append.1 hv' with h | h
 ·rw [List.mem_singleton.1 h]; rfl
 ·rcases List.mem_append.1 h with h | h
  ·unfold lnC at h
   simp only [List.mem_cons, List.not_mem_nil, or_false] at h
   rcases h with rfl | rfl | rfl | rfl | rfl <;> rfl
  ·rcases List.mem_append.1 h with h | h
   ·have := dgC_one s
    rw [Array.all_eq_true_iff_forall_mem] at this
    exact this v (by simpa using h)
   ·rw [List.mem_singleton.1 h]; rfl
theorem built_shK (i : Int) (x : Cl) (s : List Nat) (h : s.length = 32) (A : Option Addr) (n c : Nat) : Tryz.prog.built 58 [(0, .int .i64 i), (1, clV x), (2, dgV s), (3, .slice A n c)] = some (shCK i x s A n c).toArray := by
 rcases s with _ | ⟨x0, s⟩
 ·simp at h
 rcases s with _ | ⟨x1, s⟩
 ·simp at h
 rcases s with _ | ⟨x2, s⟩
 ·simp at h
 rcases s with _ | ⟨x3, s⟩
 ·simp at h
 rcases s with _ | ⟨x4, s⟩
 ·simp at h
 rcases s with _ | ⟨x5, s⟩
 ·simp at h
 rcases s with _ | ⟨x6, s⟩
 ·simp at h
 rcases s with _ | ⟨x7, s⟩
 ·simp at h
 rcases s with _ | ⟨x8, s⟩
 ·simp at h
 rcases s with _ | ⟨x9, s⟩
 ·simp at h
 rcases s with _ | ⟨x10, s⟩
 ·simp at h
 rcases s with _ | ⟨x11, s⟩
 ·simp at h
 rcases s with _ | ⟨x12, s⟩
 ·simp at h
 rcases s with _ | ⟨x13, s⟩
 ·simp at h
 rcases s with _ | ⟨x14, s⟩
 ·simp at h
 rcases s with _ | ⟨x15, s⟩
 ·simp at h
 rcases s with _ | ⟨x16, s⟩
 ·simp at h
 rcases s with _ | ⟨x17, s⟩
 ·simp at h
 rcases s with _ | ⟨x18, s⟩
 ·simp at h
 rcases s with _ | ⟨x19, s⟩
 ·simp at h
 rcases s with _ | ⟨x20, s⟩
 ·simp at h
 rcases s with _ | ⟨x21, s⟩
 ·simp at h
 rcases s with _ | ⟨x22, s⟩
 ·simp at h
 rcases s with _ | ⟨x23, s⟩
 ·simp at h
 rcases s with _ | ⟨x24, s⟩
 ·simp at h
 rcases s with _ | ⟨x25, s⟩
 ·simp at h
 rcases s with _ | ⟨x26, s⟩
 ·simp at h
 rcases s with _ | ⟨x27, s⟩
 ·simp at h
 rcases s with _ | ⟨x28, s⟩
 ·simp at h
 rcases s with _ | ⟨x29, s⟩
 ·simp at h
 rcases s with _ | ⟨x30, s⟩
 ·simp at h
 rcases s with _ | ⟨x31, s⟩
 ·simp at h
 rcases s with _ | ⟨y, s⟩
 ·clear h
  kernel_rfl
 ·simp at h
theorem wpList_build_shK {w : World} {ops : Array Oper} {rest : List Oper} {o : Oper} {a : Act} {Q : Exit → Act → World → Prop} (hg : o.guard = none) (u0 u1 u2 u3 : Operand)
  (ho : o.op = .build 58 #[(0, u0), (1, u1), (2, u2), (3, u3)]) (i : Int) (x : Cl) (s : List Nat) (A : Option Addr) (n c : Nat) (hs : s.length = 32) (h0 : a.eval u0 = .int .i64 i) (h1 : a.eval u1 = clV x) (h2 : a.eval u2 = dgV s) (h3 : a.eval u3 = .slice A n c)
  (h : wpList Tryz.prog ops Q rest (a.put o.dst (.agg (shCK i x s A n c).toArray)) w) : wpList Tryz.prog ops Q (o :: rest) a w := by
 have e1 : (#[(0, u0), (1, u1), (2, u2), (3, u3)].map fun (i, x) => (i, a.eval x)).toList = [(0, .int .i64 i), (1, clV x), (2, dgV s), (3, .slice A n c)] := by simp [h0, h1, h2, h3]
 refine wpList_build hg 58 _ ho (by rw [e1, built_shK i x s hs A n c]; rfl) ?_
 rw [e1, built_shK i x s hs A n c]
 exact h
theorem shCK_one (i : Int) (x : Cl) (s : List Nat) (A : Option Addr) (n c : Nat) : (shCK i x s A n c).toArray.all (·.oneCell') = true := by
 rw [Array.all_eq_true_iff_forall_mem]
 intro v hv
 have hv' : v ∈ shCK i x s A n c := by simpa using hv
 unfold shCK at hv'
 rcases List.mem_append.1 hv' with h | h
 ·rw [List.mem_singleton.1 h]; rfl
 ·rcases List.mem_append.1 h with h | h
  ·unfold clC at h
   simp only [List.mem_cons, List.not_mem_nil, or_false] at h
   rcases h with rfl | rfl | rfl <;> rfl
  ·rcases List.mem_append.1 h with h | h
   ·have := dgC_one s
    rw [Array.all_eq_true_iff_forall_mem] at this
    exact this v (by simpa using h)
   ·rw [List.mem_singleton.1 h]; rfl
def wSwL (W1 : World) (bt : Nat) (t : Tr) (p : TrP) (jn : Nat) (s : List Nat) (PP : List Dg) : Nat → Value → Value → World → Prop
 | 0, fv, _, _ => fv = .agg tabL
 | 1, fv, _, _ => fv = trV t p
 | 2, fv, _, _ => fv = .pointer (some { block := bt, off := 4 })
 | 3, fv, _, _ => fv = .slice p.A p.n p.c
 | 4, fv, _, _ => fv = .int .i64 (jn : Nat)
 | 5, fv, _, _ => fv = fv
 | 6, fv, _, _ => fv = fv
 | 7, fv, _, _ => fv = dgV s
 | 8, fv, _, _ => fv = fv
 | 9, fv, _, _ => fv = .int .i64 0
 | 10, fv, _, _ => fv = fv
 | 11, fv, _, _ => fv = fv
 | 12, fv, fu, fw => ∃ A n c q, fv = .slice A n c ∧ fu = .pointer (some ⟨q, 0, none⟩) ∧ InD fw A n c PP ∧ fw.heap[q]? = some (.cells (dgC s).toArray 25 (0, 0)) ∧ Below W1.heap.size W1 fw ∧ (0 < PP.length → ∀ g off, A = some ⟨g, off, none⟩ → W1.heap.size ≤ g)
 | 13, fv, _, _ => fv = .int .i64 0
 | _, _, _, _ => True
theorem wSwL_below {W1 : World} {bt : Nat} {t : Tr} {p : TrP} {jn : Nat} {s : List Nat} {PP : List Dg} {w w' : World} (hb : Below w.heap.size w w') : ∀ j v u, wSwL W1 bt t p jn s PP j v u w → wSwL W1 bt t p jn s PP j v u w'
 | 0, v, u, h => h
 | 1, v, u, h => h
 | 2, v, u, h => h
 | 3, v, u, h => h
 | 4, v, u, h => h
 | 5, v, u, h => h
 | 6, v, u, h => h
 | 7, v, u, h => h
 | 8, v, u, h => h
 | 9, v, u, h => h
 | 10, v, u, h => h
 | 11, v, u, h => h
 | 12, v, u, ⟨A, n, c, q, h1, h2, h3, h4, h5, h6⟩ => ⟨A, n, c, q, h1, h2, h3.below hb, row_kept h4 hb, h5.trans (hb.mono h5.size), h6⟩
 | 13, v, u, h => h
 | n + 14, v, u, h => trivial
theorem wSwL_pure {W1 : World} {bt : Nat} {t : Tr} {p : TrP} {jn : Nat} {s : List Nat} {PP : List Dg} {w w' : World} : ∀ j v u, j ≠ 12 → wSwL W1 bt t p jn s PP j v u w → wSwL W1 bt t p jn s PP j v u w'
 | 0, v, u, _, h => h
 | 1, v, u, _, h => h
 | 2, v, u, _, h => h
 | 3, v, u, _, h => h
 | 4, v, u, _, h => h
 | 5, v, u, _, h => h
 | 6, v, u, _, h => h
 | 7, v, u, _, h => h
 | 8, v, u, _, h => h
 | 9, v, u, _, h => h
 | 10, v, u, _, h => h
 | 11, v, u, _, h => h
 | 12, v, u, hh, _ => absurd rfl hh
 | 13, v, u, _, h => h
 | n + 14, v, u, _, h => trivial
def wSxL (W0 : World) (bt : Nat) (br : Nat) (p : TrP) (g : Nat) (off : Nat) (jn : Nat) (x : Ln) (s : List Nat) (A : Option Addr) (n : Nat) (c : Nat) (PP : List Dg) : Nat → Value → World → Prop
 | 0, fv, _ => fv = .int .i64 (jn : Nat)
 | 1, fv, _ => fv = .pointer (some { block := bt, off := 4 })
 | 2, fv, _ => fv = .slice (some ⟨g, off, none⟩) p.n p.c
 | 3, fv, _ => fv = .int .i64 (jn : Nat)
 | 4, fv, _ => fv = .pointer (some ⟨g, off + jn * 5, none⟩)
 | 5, fv, _ => fv = lnV x
 | 6, fv, _ => fv = dgV s
 | 7, fv, _ => fv = .slice A n c
 | 8, fv, _ => fv = .agg (shCL (jn : Nat) x s A n c).toArray
 | 9, fv, fw => fw.heap[br]? = some (.cells (shCL (jn : Nat) x s A n c).toArray 48 (0, 0)) ∧ Below W0.heap.size W0 fw ∧ InD fw A n c PP
 | 10, fv, _ => fv = .int .i64 0
 | _, _, _ => True
theorem wSxL_pure {W0 : World} {bt : Nat} {br : Nat} {p : TrP} {g : Nat} {off : Nat} {jn : Nat} {x : Ln} {s : List Nat} {A : Option Addr} {n : Nat} {c : Nat} {PP : List Dg} {w w' : World} : ∀ j v, j ≠ 9 → wSxL W0 bt br p g off jn x s A n c PP j v w → wSxL W0 bt br p g off jn x s A n c PP j v w'
 | 0, v, _, h => h
 | 1, v, _, h => h
 | 2, v, _, h => h
 | 3, v, _, h => h
 | 4, v, _, h => h
 | 5, v, _, h => h
 | 6, v, _, h => h
 | 7, v, _, h => h
 | 8, v, _, h => h
 | 9, v, hh, _ => absurd rfl hh
 | 10, v, _, h => h
 | n + 11, v, _, h => trivial
def cSwL (W1 : World) (s : List Nat) (PP : List Dg) (L : Nat → Bool) (fx : Nat → Value) (w' : World) : Prop := Below W1.heap.size W1 w' ∧ (L 5 = true → ∃ A n c, fx 5 = .tuple #[dgV s, .slice A n c, .int .i64 0] ∧ InD w' A n c PP ∧ (L 6 = true → fx 6 = .tuple #[dgV s, .slice A n c, .int .i64 0]) ∧ (L 8 = true → fx 8 = .slice A n c) ∧ (L 10 = true → 0 < PP.length → ∀ q g off, fx 10 = .pointer (some ⟨q, 0, none⟩) → A = some ⟨g, off, none⟩ → g ≠ q) ∧ (0 < PP.length → ∀ g off, A = some ⟨g, off, none⟩ → W1.heap.size ≤ g)) ∧ (L 10 = true → ∃ q, fx 10 = .pointer (some ⟨q, 0, none⟩) ∧ W1.heap.size ≤ q ∧ q < w'.heap.size ∧ w'.heap[q]? = some (.cells (dgC (bif L 11 then s else zeroD)).toArray 25 (0, 0)))
theorem cSwL.below {W1 : World} {s : List Nat} {PP : List Dg} {L : Nat → Bool} {fx : Nat → Value} {w' w2 : World} (h : cSwL W1 s PP L fx w') (hb : Below w'.heap.size w' w2) : cSwL W1 s PP L fx w2 := by
 refine ⟨h.1.trans (hb.mono h.1.size), fun h5 => ?_, fun h10 => ?_⟩
 ·obtain ⟨A, n, c, e, hin, r⟩ := h.2.1 h5
  exact ⟨A, n, c, e, hin.below hb, r⟩
 ·obtain ⟨q, e, h1, h2, h3⟩ := h.2.2 h10
  exact ⟨q, e, h1, Nat.lt_of_lt_of_le h2 hb.size, row_kept h3 hb⟩
theorem zshL : (shCL 0 ⟨0, 0, 0, 0, 0⟩ zeroD none 0 0).toArray = #[.int .i64 0, .int .i64 0, .int .i64 0, .int .i64 0, .int .i64 0, .int .i64 0, .int .u8 0, .int .u8 0, .int .u8 0, .int .u8 0, .int .u8 0, .int .u8 0, .int .u8 0, .int .u8 0, .int .u8 0, .int .u8 0, .int .u8 0, .int .u8 0, .int .u8 0, .int .u8 0, .int .u8 0, .int .u8 0, .int .u8 0, .int .u8 0, .int .u8 0, .int .u8 0, .int .u8 0, .int .u8 0, .int .u8 0, .int .u8 0, .int .u8 0, .int .u8 0, .int .u8 0, .int .u8 0, .int .u8 0, .int .u8 0, .int .u8 0, .int .u8 0, .slice none 0 0] := by kernel_rfl
theorem shwL_yes (t : Tr) (p : TrP) (jn : Nat) (x : Ln) (w : World) (h : Hid (TrOk w t p)) (hT : Hid (Tabs w)) (hg : Hid (trG t = true)) (hj : jn < p.n) (HX : Hid (t.ln[jn]? = some x)) :
  Calls Tryz.prog 19 #[trV t p, .int .i64 (jn : Nat)] w fun e w' => ∃ A' n' c', e = .returned (.tuple #[.agg (shCL (jn : Nat) x (saltN t.salt 1 (nLn x)) A' n' c').toArray, .int .i64 0]) ∧ InD w' A' n' c' (pathD (t.ln.map (lvL t.salt)) jn) ∧ Below w.heap.size w w' := by
 obtain ⟨s, HS⟩ : ∃ s, Hid (saltN t.salt 1 (nLn x) = s) := ⟨_, hid rfl⟩
 have HSO : Hid (DgOk s) := hid (by rw [← HS.out]; exact saltN_ok _ _ _)
 have HS1 := hid (dgC_info HSO.out)
 have HS2 := hid (dgC_size HSO.out)
 obtain ⟨PP, HPP⟩ : ∃ PP, Hid (pathD (t.ln.map (lvL t.salt)) jn = PP) := ⟨_, hid rfl⟩
 have HLN := hid (show t.ln.length = p.n from h.out.ln.len)
 have HII := hid (lnC_infoL4 x)
 obtain ⟨g, off, eA, hgl, hr⟩ := h.out.ln.rd (by rw [HLN.out]; omega)
 have HR : Hid (w.rangeAt g (off + jn * 5) (lnC x)) := hid (by
  obtain ⟨hjl, hx⟩ := List.getElem?_eq_some_iff.1 HX.out
  have := range_elem lnC_len4 hr jn hjl
  rwa [hx] at this)
 have HEA := hid eA
 have d2 : decide (jn < p.n) = true := eQ hj
 rw [HPP.out, HS.out]
 clear hr eA
 have hb0 := ((Below.refl _ w).alloc (Nat.le_refl _) (.cells (trC t p).toArray 27)).alloc (by simp) (.cells (shCL 0 ⟨0, 0, 0, 0, 0⟩ zeroD none 0 0).toArray 48)
 have hr0 := (Below.heap_alloc (w.alloc (.cells (trC t p).toArray 27)) (.cells (shCL 0 ⟨0, 0, 0, 0, 0⟩ zeroD none 0 0).toArray 48) w.heap.size (by simp)).trans (heap_alloc_new w (.cells (trC t p).toArray 27))
 have hr1 := heap_alloc_new (w.alloc (.cells (trC t p).toArray 27)) (.cells (shCL 0 ⟨0, 0, 0, 0, 0⟩ zeroD none 0 0).toArray 48)
 rw [World.size_alloc] at hr1
 have HO1 := hid (h.out.below hb0)
 have hT1 := hid (hT.out.below hb0)
 rw [zshL] at hb0 hr0 HO1 hT1
 conv at hr1 => lhs; rw [zshL]
 have HB0 := hid hb0
 have HR0 := hid hr0
 have HR1 := hid hr1
 have HIT := hid (trV_info t p h.out.len)
 clear hb0 hr0 hr1
 rw [show trV t p = .agg (trC t p).toArray from rfl]
 go_enter Tryz.func19, Tryz.ntmps19
 go_wp2_with fail
 generalize ((w.alloc (.cells (trC t p).toArray 27)).alloc (.cells #[.int .i64 0, .int .i64 0, .int .i64 0, .int .i64 0, .int .i64 0, .int .i64 0, .int .u8 0, .int .u8 0, .int .u8 0, .int .u8 0, .int .u8 0, .int .u8 0, .int .u8 0, .int .u8 0, .int .u8 0, .int .u8 0, .int .u8 0, .int .u8 0, .int .u8 0, .int .u8 0, .int .u8 0, .int .u8 0, .int .u8 0, .int .u8 0, .int .u8 0, .int .u8 0, .int .u8 0, .int .u8 0, .int .u8 0, .int .u8 0, .int .u8 0, .int .u8 0, .int .u8 0, .int .u8 0, .int .u8 0, .int .u8 0, .int .u8 0, .int .u8 0, .slice none 0 0] 48)) = W1 at *
 refine region_flow4 (by kernel_rfl) (by kernel_rfl) (fun i => Nat.beq i 12 || Nat.beq i 13) (fun i => bif Nat.beq i 12 then 10 else i) (by kernel_rfl) (fun fx => #[.agg (trC t p).toArray, .int .i64 (jn : Nat), .pointer (some { block := w.heap.size, off := 0 }), undef, .pointer (some { block := w.heap.size + 1, off := 0 }), fx 13, fx 10, fx 12, fx 6, fx 0, fx 1, fx 2, fx 3, fx 4, fx 5, fx 7, fx 8, fx 9, undef, undef, undef, undef, undef, undef, undef, undef, undef, undef, undef, undef, undef]) (fun i => bif Nat.beq i 13 then Value.int .i64 0 else undef) (fun L fx w' => cSwL W1 s PP L fx w') (fun fi fv fu fw => wSwL W1 w.heap.size t p jn s PP fi fv fu fw) ⟨(Below.refl _ _).drew, (fun h => by cases h), (fun h => by cases h)⟩ ?_ ?_
 ·refine ⟨?_, ?_, ?_, ?_, ?_, ?_, ?_, ?_, ?_, ?_, ?_, ?_, ?_, ?_, trivial⟩
  all_goals intro L fx w' hC hi hcl hdn hd
  ·go_wp2_with fail
   refine (lines_any w').mono ?_
   rintro e w2 ⟨rfl, hq⟩
   go_wp2_with fail
   exact ⟨_, rfl, hC.below hq, rfl, fun j v t _ _ h => wSwL_below hq j v t h⟩
  ·have hrow := row_kept HR0.out hC.1
   refine wpList_load_row rfl 27 (.tmp 2) rfl w.heap.size rfl 27 _ (0, 0) _ hrow Tryz.underlying27 rfl HIT.out ?_
   clear hd
   go_wp2_with fail
   exact ⟨_, rfl, hC, rfl, kP⟩
  ·go_wp2_with fail
   exact ⟨_, rfl, hC, rfl, kP⟩
  ·have h2 : fx 2 = .pointer (some { block := w.heap.size, off := 4 }) := hd.1 rfl
   have hcc : w'.cell? ⟨w.heap.size, 4, none⟩ = some (.slice p.A p.n p.c) := by rw [cell_of_row _ _ _ _ _ _ (row_kept HR0.out hC.1)]; rfl
   go_wp2_with fail
   exact ⟨_, by simp only [upd, h2]; rfl, hC, rfl, kP⟩
  ·go_wp2_with fail
   exact ⟨_, rfl, hC, rfl, kP⟩
  ·have h0 : fx 0 = .agg tabL := hd.1 rfl
   have h1 : fx 1 = trV t p := hd.2.1 rfl
   have h3 : fx 3 = .slice p.A p.n p.c := hd.2.2.1 rfl
   have h4 : fx 4 = .int .i64 (jn : Nat) := hd.2.2.2.1 rfl
   have HOK := hid (HO1.out.below hC.1)
   have HTK := hid (hT1.out.below hC.1)
   go_wp2_with fail
   refine (showL_yes t p jn x w' HOK HTK hg hj HX).mono ?_
   rintro e w2 ⟨A, n, c, rfl, hin, hq, hfr⟩
   rw [HPP.out] at hin
   rw [HS.out]
   go_wp2_with fail
   have hbl := hC.below hq
   refine ⟨Value.tuple #[dgV s, .slice A n c, .int .i64 0], by simp only [upd, h0, h1, h3, h4]; rfl, ⟨hbl.1, fun _ => ⟨A, n, c, rfl, hin, (fun h => absurd (hcl 6 5 h (by kernel_rfl)) (by rw [hi]; exact Bool.false_ne_true)), (fun h => absurd (hcl 6 5 (hcl 8 6 h (by kernel_rfl)) (by kernel_rfl)) (by rw [hi]; exact Bool.false_ne_true)), fun h10 _ q g off e1 e2 => ?_, fun _ g off e2 => Nat.le_trans hC.1.size (hfr g (by rw [e2]; rfl))⟩, hbl.2.2⟩, rfl, fun j v t _ _ h => wSwL_below hq j v t h⟩
   obtain ⟨q', e3, _, hlt, _⟩ := hC.2.2 h10
   have e4 : Value.pointer (some ⟨q, 0, none⟩) = Value.pointer (some ⟨q', 0, none⟩) := (Eq.symm e1).trans e3
   injection e4 with e4; injection e4 with e4; injection e4 with e4
   have := hfr g (by rw [e2]; rfl)
   omega
  ·have H5 := hid (hd.1 rfl)
   obtain ⟨A, n, c, h5, hin, h6, h8, hne, hfg⟩ := hC.2.1 (hdn 5 (by kernel_rfl))
   go_wp2_with fail
   exact ⟨Value.tuple #[dgV s, .slice A n c, .int .i64 0], by simp only [upd, h5]; rfl, ⟨hC.1, fun _ => ⟨A, n, c, h5, hin, fun _ => rfl, h8, hne, hfg⟩, hC.2.2⟩, rfl, kP⟩
  ·have H6 := hid (hd.1 rfl)
   obtain ⟨A, n, c, h5, hin, h6, h8, hne, hfg⟩ := hC.2.1 (hcl 6 5 (hdn 6 (by kernel_rfl)) (by kernel_rfl))
   have h6' := h6 (hdn 6 (by kernel_rfl))
   go_wp2_with fail
   exact ⟨_, by simp only [upd, h6', h5]; rfl, hC, rfl, kP⟩
  ·have H6 := hid (hd.1 rfl)
   obtain ⟨A, n, c, h5, hin, h6, h8, hne, hfg⟩ := hC.2.1 (hcl 6 5 (hdn 6 (by kernel_rfl)) (by kernel_rfl))
   have h6' := h6 (hdn 6 (by kernel_rfl))
   go_wp2_with fail
   exact ⟨Value.slice A n c, by simp only [upd, h6', h5]; rfl, ⟨hC.1, fun _ => ⟨A, n, c, h5, hin, h6, fun _ => rfl, hne, hfg⟩, hC.2.2⟩, rfl, kP⟩
  ·have H6 := hid (hd.1 rfl)
   obtain ⟨A, n, c, h5, hin, h6, h8, hne, hfg⟩ := hC.2.1 (hcl 6 5 (hdn 6 (by kernel_rfl)) (by kernel_rfl))
   have h6' := h6 (hdn 6 (by kernel_rfl))
   go_wp2_with fail
   exact ⟨_, by simp only [upd, h6', h5]; rfl, hC, rfl, kP⟩
  ·have h11 : L 11 = false := nQ hi (fun h => hcl 11 10 h (by kernel_rfl))
   go_wp2_with fail
   have hq : Below w'.heap.size w' (w'.alloc (.cells #[.int .u8 0, .int .u8 0, .int .u8 0, .int .u8 0, .int .u8 0, .int .u8 0, .int .u8 0, .int .u8 0, .int .u8 0, .int .u8 0, .int .u8 0, .int .u8 0, .int .u8 0, .int .u8 0, .int .u8 0, .int .u8 0, .int .u8 0, .int .u8 0, .int .u8 0, .int .u8 0, .int .u8 0, .int .u8 0, .int .u8 0, .int .u8 0, .int .u8 0, .int .u8 0, .int .u8 0, .int .u8 0, .int .u8 0, .int .u8 0, .int .u8 0, .int .u8 0] 25)) := (Below.refl _ _).alloc (Nat.le_refl _) _
   have hbl := hC.below hq
   refine ⟨Value.pointer (some ⟨w'.heap.size, 0, none⟩), rfl, ⟨hbl.1, fun h5' => ?_, fun _ => ⟨w'.heap.size, rfl, hC.1.size, by simp, ?_⟩⟩, rfl, fun j v t _ _ h => wSwL_below hq j v t h⟩
   ·obtain ⟨A, n, c, h5, hin, h6, h8, hne, hfg⟩ := hC.2.1 h5'
    refine ⟨A, n, c, h5, hin.below hq, h6, h8, fun _ hp q g off e1 e2 => ?_, hfg⟩
    have e4 : Value.pointer (some ⟨w'.heap.size, 0, none⟩) = Value.pointer (some ⟨q, 0, none⟩) := e1
    injection e4 with e4; injection e4 with e4; injection e4 with e4
    obtain ⟨g', off', e', hg', _⟩ := hin.rd hp
    rw [e2] at e'; injection e' with e'; injection e' with e1' e2'
    omega
   ·show _ = some (Obj.cells (dgC (bif L 11 then s else zeroD)).toArray 25 (0, 0))
    rw [h11]
    show _ = some (Obj.cells (dgC zeroD).toArray 25 (0, 0))
    rw [zeroD_cells]
    exact heap_alloc_new w' _
  ·have H10 := hid (hd.1 rfl)
   have h7 : fx 7 = dgV s := hd.2.1 rfl
   obtain ⟨q, e10, hq1, hq2, hrow0⟩ := hC.2.2 (hdn 10 (by kernel_rfl))
   have hrow : w'.heap[q]? = some (.cells (dgC zeroD).toArray 25 (0, 0)) := by have := hrow0; rw [hi] at this; exact this
   refine wpList_store_row rfl 25 (.tmp 6) (.tmp 15) rfl q (dgC s).toArray e10 h7 25 _ hrow HS1.out HS2.out (dgC_one _) ?_
   clear hd
   go_wp2_with fail
   refine ⟨undef, by simp only [upd, h7, e10]; rfl, ⟨below_setRow hC.1 hq1 _, fun h5' => ?_, fun _ => ⟨q, e10, hq1, by rw [setRow_size]; exact hq2, setRow_heap _ _ _ _ _ _ hrow⟩⟩, rfl, fun j v t hj hu h => ?_⟩
   ·obtain ⟨A, n, c, h5, hin, h6, h8, hne, hfg⟩ := hC.2.1 h5'
    exact ⟨A, n, c, h5, hin.setRow2 (fun hp g off e => hne (hdn 10 (by kernel_rfl)) hp q g off e10 e), h6, h8, hne, hfg⟩
   ·by_cases e : j = 12
    ·subst e; exact absurd (hcl 12 11 hj (by kernel_rfl)) (by rw [hi]; exact Bool.false_ne_true)
    ·exact wSwL_pure j v t e h
  ·have H8 := hid (hd.1 rfl)
   obtain ⟨A, n, c, h5, hin, h6, h8, hne, hfg⟩ := hC.2.1 (hdn 5 (by kernel_rfl))
   have h8' := h8 (hdn 8 (by kernel_rfl))
   obtain ⟨q, e10, hq1, hq2, hrow0⟩ := hC.2.2 (hdn 10 (by kernel_rfl))
   rw [hdn 11 (by kernel_rfl)] at hrow0
   go_wp2_with fail
   exact ⟨Value.slice A n c, by simp only [upd, h8', h5, e10]; rfl, hC, ⟨A, n, c, q, rfl, e10, hin, hrow0, hC.1, hfg⟩, kP⟩
  ·have h9 : fx 9 = .int .i64 0 := hd.1 rfl
   go_wp2_with fail
   exact ⟨_, by simp only [upd, h9]; rfl, hC, rfl, kP⟩
 ·intro L fo w' hC hS
  have H12 := hid (hS 12 (by decide) rfl)
  have H13 := hid (hS 13 (by decide) rfl)
  obtain ⟨A, n, c, q, e12, e10, hin, hrow, hbw, hfg⟩ := H12.out
  have e10' : fo 10 = .pointer (some ⟨q, 0, none⟩) := e10
  have e13 : fo 13 = .int .i64 0 := H13.out
  rw [e12, e10', e13]
  have HIN := hid hin
  have HRQ := hid hrow
  have HBW := hid hbw
  have HR2 := hid (row_kept HR0.out hbw)
  have HR3 := hid (row_kept HR1.out hbw)
  have HB2 := hid (HB0.out.trans (hbw.mono HB0.out.size))
  have HFG : Hid (0 < PP.length → ∀ g off, A = some ⟨g, off, none⟩ → g ≠ w.heap.size + 1) := hid (fun hp g off e => by
   have h1 := hfg hp g off e
   have h2 := (Array.getElem?_eq_some_iff.1 HR1.out).1
   omega)
  have HRX := hid (rangeAt_below HR.out hgl HB2.out)
  have HGL : Hid (g < w'.heap.size) := hid (Nat.lt_of_lt_of_le hgl HB2.out.size)
  have HN1 := hid (shCL_info (i := (jn : Nat)) (x := x) (A := A) (n := n) (c := c) HSO.out)
  have HN2 : Hid ((shCL 0 ⟨0, 0, 0, 0, 0⟩ zeroD none 0 0).toArray.size = (shCL (jn : Nat) x s A n c).toArray.size) := hid (by simp [shCL, dgC_len32 HSO.out, dgC_len32 zeroD_ok, lnC])
  clear hS hC e12 e10 e10' e13 H12 H13 hin hrow hbw hfg
  go_wp2_with fail
  obtain ⟨W2, hW2⟩ : ∃ W, W = w' := ⟨_, rfl⟩
  subst hW2
  refine region_flow4 (by kernel_rfl) (by kernel_rfl) (fun i => Nat.beq i 9 || Nat.beq i 10) (fun i => i) (by kernel_rfl) (fun fx => #[.agg (trC t p).toArray, .int IntKind.i64 ↑jn, .pointer (some { block := w.heap.size, off := 0 }), undef, .pointer (some { block := w.heap.size + 1, off := 0 }), fx 10, .pointer (some { block := q, off := 0 }), .slice A n c, fo 6, fo 0, fo 1, fo 2, fo 3, fo 4, fo 5, fo 7, fo 8, fo 9, .int IntKind.i64 0, .bool false, undef, undef, fx 0, fx 1, fx 2, fx 3, fx 4, fx 5, fx 6, fx 7, fx 8]) (fun i => bif Nat.beq i 10 then Value.int IntKind.i64 0 else undef) (fun L fx w' => (L 9 = false → Below W2.heap.size W2 w')) (fun fi fv _ fw => wSxL w w.heap.size (w.heap.size + 1) p g off jn x s A n c PP fi fv fw) (fun _ => (Below.refl _ _).drew) ?_ ?_
  ·refine ⟨?_, ?_, ?_, ?_, ?_, ?_, ?_, ?_, ?_, ?_, ?_, trivial⟩
   all_goals intro L fx w' hC hi hcl hdn hd
   ·go_wp2_with fail
    exact ⟨_, rfl, fun h => hC h, rfl, kP⟩
   ·go_wp2_with fail
    exact ⟨_, rfl, fun h => hC h, rfl, kP⟩
   ·have h1 : fx 1 = .pointer (some { block := w.heap.size, off := 4 }) := hd.1 rfl
    have hnd : L 9 = false := nQ hi (fun h => hcl 9 2 h (by kernel_rfl))
    have hcc : w'.cell? ⟨w.heap.size, 4, none⟩ = some (.slice (some ⟨g, off, none⟩) p.n p.c) := by rw [cell_of_row _ _ _ _ _ _ (row_kept HR2.out (hC hnd)), ← HEA.out]; rfl
    go_wp2_with fail
    exact ⟨_, by simp only [upd, h1]; rfl, fun h => hC h, rfl, kP⟩
   ·go_wp2_with fail
    exact ⟨_, rfl, fun h => hC h, rfl, kP⟩
   ·have h2 : fx 2 = .slice (some ⟨g, off, none⟩) p.n p.c := hd.1 rfl
    have h3 : fx 3 = .int .i64 (jn : Nat) := hd.2.1 rfl
    go_wp2_with fail
    exact ⟨_, by simp only [upd, h2, h3]; rfl, fun h => hC h, rfl, kP⟩
   ·have h4 : fx 4 = .pointer (some ⟨g, off + jn * 5, none⟩) := hd.1 rfl
    have hnd : L 9 = false := nQ hi (fun h => hcl 9 5 h (by kernel_rfl))
    have hrow := rangeAt_below HRX.out HGL.out (hC hnd)
    refine wpList_load_mid rfl 45 (.tmp 26) rfl g (off + jn * 5) h4 (lnC x) _ hrow Tryz.underlying45 rfl HII.out ?_
    clear hd
    go_wp2_with fail
    exact ⟨_, by simp only [upd, h4]; rfl, fun h => hC h, rfl, kP⟩
   ·have hnd : L 9 = false := nQ hi (fun h => hcl 9 6 h (by kernel_rfl))
    have hrow := row_kept HRQ.out (hC hnd)
    refine wpList_load_row rfl 25 (.tmp 6) rfl q rfl 25 _ (0, 0) _ hrow Tryz.underlying25 rfl HS1.out ?_
    clear hd
    go_wp2_with fail
    exact ⟨_, rfl, fun h => hC h, rfl, kP⟩
   ·go_wp2_with fail
    exact ⟨_, rfl, fun h => hC h, rfl, kP⟩
   ·have h0 : fx 0 = .int .i64 (jn : Nat) := hd.1 rfl
    have h5 : fx 5 = lnV x := hd.2.1 rfl
    have h6 : fx 6 = dgV s := hd.2.2.1 rfl
    have h7 : fx 7 = .slice A n c := hd.2.2.2.1 rfl
    refine wpList_build_shL rfl (.tmp 22) (.tmp 27) (.tmp 28) (.tmp 29) rfl (jn : Nat) x s A n c HSO.out.len h0 h5 h6 h7 ?_
    clear hd
    go_wp2_with fail
    exact ⟨_, by simp only [upd, h0, h5, h6, h7]; rfl, fun h => hC h, rfl, kP⟩
   ·have h8 : fx 8 = .agg (shCL (jn : Nat) x s A n c).toArray := hd.1 rfl
    have hb21 := hC hi
    have hrow := row_kept HR3.out hb21
    refine wpList_store_row rfl 48 (.tmp 4) (.tmp 30) rfl (w.heap.size + 1) (shCL (jn : Nat) x s A n c).toArray rfl h8 48 _ hrow HN1.out HN2.out (shCL_one _ _ _ _ _ _) ?_
    clear hd
    go_wp2_with fail
    refine ⟨undef, by simp only [upd, h8]; rfl, fun h => (updB_self h).elim, ⟨setRow_heap _ _ _ _ _ _ hrow, below_setRow (HB2.out.trans (hb21.mono HB2.out.size)) (by omega) _, (HIN.out.below hb21).setRow2 HFG.out⟩, fun j v t hj hu h => ?_⟩
    refine wSxL_pure j v ?_ h
    intro e; subst e; rw [hi] at hj; cases hj
   ·go_wp2_with fail
    exact ⟨_, rfl, fun h => hC h, rfl, kP⟩
  ·intro L fp w' hC hS
   have H9 := hid (hS 9 (by decide) rfl)
   have H10 := hid (hS 10 (by decide) rfl)
   have e10 : fp 10 = .int .i64 0 := H10.out
   rw [e10]
   clear hS hC e10 H10
   go_wp2_with fail
   have hl := run_loadVar_row (P := Tryz.prog) w' (w.heap.size + 1) 48 48 (shCL (jn : Nat) x s A n c).toArray (0, 0) _ H9.out.1 Tryz.underlying48 rfl HN1.out
   refine bodyPost_ret (v := .tuple #[.agg (shCL (jn : Nat) x s A n c).toArray, .int .i64 0]) ?_ rfl ⟨A, n, c, rfl, H9.out.2.2, H9.out.2.1⟩
   simp [results, Tryz.results19, asAddr, hl]
def wSzL (bt : Nat) (t : Tr) (p : TrP) (i : Int) : Nat → Value → World → Prop
 | 0, fv, _ => fv = .agg tabL
 | 1, fv, _ => fv = trV t p
 | 2, fv, _ => fv = .pointer (some { block := bt, off := 4 })
 | 3, fv, _ => fv = .slice p.A p.n p.c
 | 4, fv, _ => fv = .int .i64 i
 | 5, fv, _ => fv = .tuple #[dgV zeroD, .slice none 0 0, .int .i64 420]
 | 6, fv, _ => fv = .tuple #[dgV zeroD, .slice none 0 0, .int .i64 420]
 | 7, fv, _ => fv = dgV zeroD
 | 8, fv, _ => fv = .slice none 0 0
 | 9, fv, _ => fv = .int .i64 420
 | 10, fv, _ => fv = fv
 | 11, fv, _ => fv = fv
 | 12, fv, _ => fv = .slice none 0 0
 | 13, fv, _ => fv = .int .i64 420
 | _, _, _ => True
theorem wSzL_below {bt : Nat} {t : Tr} {p : TrP} {i : Int} {w w' : World} (hb : Below w.heap.size w w') : ∀ j v, wSzL bt t p i j v w → wSzL bt t p i j v w'
 | 0, v, h => h
 | 1, v, h => h
 | 2, v, h => h
 | 3, v, h => h
 | 4, v, h => h
 | 5, v, h => h
 | 6, v, h => h
 | 7, v, h => h
 | 8, v, h => h
 | 9, v, h => h
 | 10, v, h => h
 | 11, v, h => h
 | 12, v, h => h
 | 13, v, h => h
 | n + 14, v, h => trivial
theorem wSzL_all {bt : Nat} {t : Tr} {p : TrP} {i : Int} {w w' : World} : ∀ j v, wSzL bt t p i j v w → wSzL bt t p i j v w'
 | 0, v, h => h
 | 1, v, h => h
 | 2, v, h => h
 | 3, v, h => h
 | 4, v, h => h
 | 5, v, h => h
 | 6, v, h => h
 | 7, v, h => h
 | 8, v, h => h
 | 9, v, h => h
 | 10, v, h => h
 | 11, v, h => h
 | 12, v, h => h
 | 13, v, h => h
 | n + 14, v, h => trivial
theorem showL_no (t : Tr) (p : TrP) (i : Int) (w : World) (h : Hid (TrOk w t p)) (hT : Hid (Tabs w)) (hbad : trG t = false ∨ i < 0 ∨ (p.n : Int) ≤ i) :
  Calls Tryz.prog 60 #[.agg tabL, trV t p, .slice p.A p.n p.c, .int .i64 i] w fun e w' => e = .returned (.tuple #[dgV zeroD, .slice none 0 0, .int .i64 420]) ∧ Below w.heap.size w w' := by
 by_cases hg : trG t = true
 ·by_cases h0 : i < 0
  ·exact showL_1 t p i w h hT (hid hg) h0
  ·exact showL_2 t p i w h hT (hid hg) (by omega) (by rcases hbad with h1 | h1 | h1; rw [hg] at h1; cases h1; omega; exact h1)
 ·exact showL_0 t p i w h hT (hid (by simpa using hg))
theorem shwL_no (t : Tr) (p : TrP) (i : Int) (w : World) (h : Hid (TrOk w t p)) (hT : Hid (Tabs w)) (hbad : Hid (trG t = false ∨ i < 0 ∨ (p.n : Int) ≤ i)) :
  Calls Tryz.prog 19 #[trV t p, .int .i64 i] w fun e w' => e = .returned (.tuple #[.agg (shCL 0 ⟨0, 0, 0, 0, 0⟩ zeroD none 0 0).toArray, .int .i64 420]) ∧ Below w.heap.size w w' := by
 have HS1 := hid (dgC_info zeroD_ok)
 have HS2 := hid (dgC_size zeroD_ok)
 have HN1 := hid (shCL_info (i := 0) (x := ⟨0, 0, 0, 0, 0⟩) (A := none) (n := 0) (c := 0) zeroD_ok)
 have hb0 := ((Below.refl _ w).alloc (Nat.le_refl _) (.cells (trC t p).toArray 27)).alloc (by simp) (.cells (shCL 0 ⟨0, 0, 0, 0, 0⟩ zeroD none 0 0).toArray 48)
 have hr0 := (Below.heap_alloc (w.alloc (.cells (trC t p).toArray 27)) (.cells (shCL 0 ⟨0, 0, 0, 0, 0⟩ zeroD none 0 0).toArray 48) w.heap.size (by simp)).trans (heap_alloc_new w (.cells (trC t p).toArray 27))
 have hr1 := heap_alloc_new (w.alloc (.cells (trC t p).toArray 27)) (.cells (shCL 0 ⟨0, 0, 0, 0, 0⟩ zeroD none 0 0).toArray 48)
 rw [World.size_alloc] at hr1
 have HO1 := hid (h.out.below hb0)
 have hT1 := hid (hT.out.below hb0)
 rw [zshL] at hb0 hr0 HO1 hT1
 conv at hr1 => lhs; rw [zshL]
 have HB0 := hid hb0
 have HR0 := hid hr0
 have HR1 := hid hr1
 have HIT := hid (trV_info t p h.out.len)
 clear hb0 hr0 hr1
 rw [show trV t p = .agg (trC t p).toArray from rfl]
 go_enter Tryz.func19, Tryz.ntmps19
 go_wp2_with fail
 generalize ((w.alloc (.cells (trC t p).toArray 27)).alloc (.cells #[.int .i64 0, .int .i64 0, .int .i64 0, .int .i64 0, .int .i64 0, .int .i64 0, .int .u8 0, .int .u8 0, .int .u8 0, .int .u8 0, .int .u8 0, .int .u8 0, .int .u8 0, .int .u8 0, .int .u8 0, .int .u8 0, .int .u8 0, .int .u8 0, .int .u8 0, .int .u8 0, .int .u8 0, .int .u8 0, .int .u8 0, .int .u8 0, .int .u8 0, .int .u8 0, .int .u8 0, .int .u8 0, .int .u8 0, .int .u8 0, .int .u8 0, .int .u8 0, .int .u8 0, .int .u8 0, .int .u8 0, .int .u8 0, .int .u8 0, .int .u8 0, .slice none 0 0] 48)) = W1 at *
 refine region_flow4 (by kernel_rfl) (by kernel_rfl) (fun i => Nat.beq i 13) (fun i => i) (by kernel_rfl) (fun fx => #[.agg (trC t p).toArray, .int .i64 i, .pointer (some { block := w.heap.size, off := 0 }), undef, .pointer (some { block := w.heap.size + 1, off := 0 }), fx 13, fx 10, fx 12, fx 6, fx 0, fx 1, fx 2, fx 3, fx 4, fx 5, fx 7, fx 8, fx 9, undef, undef, undef, undef, undef, undef, undef, undef, undef, undef, undef, undef, undef]) (fun i => bif Nat.beq i 13 then Value.int .i64 0 else undef) (fun L fx w' => Below W1.heap.size W1 w' ∧ (L 10 = true → ∃ q, fx 10 = .pointer (some ⟨q, 0, none⟩) ∧ W1.heap.size ≤ q ∧ q < w'.heap.size ∧ w'.heap[q]? = some (.cells (dgC zeroD).toArray 25 (0, 0)))) (fun fi fv _ fw => wSzL w.heap.size t p i fi fv fw) ⟨(Below.refl _ _).drew, (fun h => by cases h)⟩ ?_ ?_
 ·refine ⟨?_, ?_, ?_, ?_, ?_, ?_, ?_, ?_, ?_, ?_, ?_, ?_, ?_, ?_, trivial⟩
  all_goals intro L fx w' hC hi hcl hdn hd
  ·go_wp2_with fail
   refine (lines_any w').mono ?_
   rintro e w2 ⟨rfl, hq⟩
   go_wp2_with fail
   exact ⟨_, rfl, ⟨hC.1.trans (hq.mono hC.1.size), fun h10 => by obtain ⟨q, e1, e2, e3, e4⟩ := hC.2 h10; exact ⟨q, e1, e2, Nat.lt_of_lt_of_le e3 hq.size, row_kept e4 hq⟩⟩, rfl, fun j v t _ _ h => wSzL_below hq j v h⟩
  ·have hrow := row_kept HR0.out hC.1
   refine wpList_load_row rfl 27 (.tmp 2) rfl w.heap.size rfl 27 _ (0, 0) _ hrow Tryz.underlying27 rfl HIT.out ?_
   clear hd
   go_wp2_with fail
   exact ⟨_, rfl, hC, rfl, kP⟩
  ·go_wp2_with fail
   exact ⟨_, rfl, hC, rfl, kP⟩
  ·have h2 : fx 2 = .pointer (some { block := w.heap.size, off := 4 }) := hd.1 rfl
   have hcc : w'.cell? ⟨w.heap.size, 4, none⟩ = some (.slice p.A p.n p.c) := by rw [cell_of_row _ _ _ _ _ _ (row_kept HR0.out hC.1)]; rfl
   go_wp2_with fail
   exact ⟨_, by simp only [upd, h2]; rfl, hC, rfl, kP⟩
  ·go_wp2_with fail
   exact ⟨_, rfl, hC, rfl, kP⟩
  ·have h0 : fx 0 = .agg tabL := hd.1 rfl
   have h1 : fx 1 = trV t p := hd.2.1 rfl
   have h3 : fx 3 = .slice p.A p.n p.c := hd.2.2.1 rfl
   have h4 : fx 4 = .int .i64 i := hd.2.2.2.1 rfl
   have HOK := hid (HO1.out.below hC.1)
   have HTK := hid (hT1.out.below hC.1)
   go_wp2_with fail
   refine (showL_no t p i w' HOK HTK hbad.out).mono ?_
   rintro e w2 ⟨rfl, hq⟩
   go_wp2_with fail
   exact ⟨Value.tuple #[dgV zeroD, .slice none 0 0, .int .i64 420], by simp only [upd, h0, h1, h3, h4]; rfl, ⟨hC.1.trans (hq.mono hC.1.size), fun h10 => by obtain ⟨q, e1, e2, e3, e4⟩ := hC.2 h10; exact ⟨q, e1, e2, Nat.lt_of_lt_of_le e3 hq.size, row_kept e4 hq⟩⟩, rfl, fun j v t _ _ h => wSzL_below hq j v h⟩
  ·have h5 : fx 5 = .tuple #[dgV zeroD, .slice none 0 0, .int .i64 420] := hd.1 rfl
   go_wp2_with fail
   exact ⟨_, by simp only [upd, h5]; rfl, hC, rfl, kP⟩
  ·have h6 : fx 6 = .tuple #[dgV zeroD, .slice none 0 0, .int .i64 420] := hd.1 rfl
   go_wp2_with fail
   exact ⟨_, by simp only [upd, h6]; rfl, hC, rfl, kP⟩
  ·have h6 : fx 6 = .tuple #[dgV zeroD, .slice none 0 0, .int .i64 420] := hd.1 rfl
   go_wp2_with fail
   exact ⟨_, by simp only [upd, h6]; rfl, hC, rfl, kP⟩
  ·have h6 : fx 6 = .tuple #[dgV zeroD, .slice none 0 0, .int .i64 420] := hd.1 rfl
   go_wp2_with fail
   exact ⟨_, by simp only [upd, h6]; rfl, hC, rfl, kP⟩
  ·go_wp2_with fail
   have hq : Below w'.heap.size w' (w'.alloc (.cells #[.int .u8 0, .int .u8 0, .int .u8 0, .int .u8 0, .int .u8 0, .int .u8 0, .int .u8 0, .int .u8 0, .int .u8 0, .int .u8 0, .int .u8 0, .int .u8 0, .int .u8 0, .int .u8 0, .int .u8 0, .int .u8 0, .int .u8 0, .int .u8 0, .int .u8 0, .int .u8 0, .int .u8 0, .int .u8 0, .int .u8 0, .int .u8 0, .int .u8 0, .int .u8 0, .int .u8 0, .int .u8 0, .int .u8 0, .int .u8 0, .int .u8 0, .int .u8 0] 25)) := (Below.refl _ _).alloc (Nat.le_refl _) _
   exact ⟨Value.pointer (some ⟨w'.heap.size, 0, none⟩), rfl, ⟨hC.1.trans (hq.mono hC.1.size), fun _ => ⟨w'.heap.size, rfl, hC.1.size, by simp, by rw [zeroD_cells]; exact heap_alloc_new w' _⟩⟩, rfl, fun j v t _ _ h => wSzL_below hq j v h⟩
  ·have H10 := hid (hd.1 rfl)
   have h7 : fx 7 = dgV zeroD := hd.2.1 rfl
   obtain ⟨q, e10, hq1, hq2, hrow⟩ := hC.2 (hdn 10 (by kernel_rfl))
   refine wpList_store_row rfl 25 (.tmp 6) (.tmp 15) rfl q (dgC zeroD).toArray e10 h7 25 _ hrow HS1.out HS2.out (dgC_one _) ?_
   clear hd
   go_wp2_with fail
   exact ⟨undef, by simp only [upd, h7, e10]; rfl, ⟨below_setRow hC.1 hq1 _, fun _ => ⟨q, e10, hq1, by rw [setRow_size]; exact hq2, setRow_heap _ _ _ _ _ _ hrow⟩⟩, rfl, fun j v t _ _ h => wSzL_all j v h⟩
  ·have h8 : fx 8 = .slice none 0 0 := hd.1 rfl
   go_wp2_with fail
   exact ⟨_, by simp only [upd, h8]; rfl, hC, rfl, kP⟩
  ·have h9 : fx 9 = .int .i64 420 := hd.1 rfl
   go_wp2_with fail
   exact ⟨_, by simp only [upd, h9]; rfl, hC, rfl, kP⟩
 ·intro L fo w' hC hS
  have H13 := hid (hS 13 (by decide) rfl)
  have e13 : fo 13 = .int .i64 420 := H13.out
  rw [e13]
  have HR3 := hid (row_kept HR1.out hC.1)
  have HB2 := hid (HB0.out.trans (hC.1.mono HB0.out.size))
  clear hS hC e13 H13
  go_wp2_with (first | (refine wpList_load_row rfl 48 (.tmp 4) rfl (w.heap.size + 1) rfl 48 _ (0, 0) _ HR3.out Tryz.underlying48 rfl HN1.out ?_) | (refine wpList_store_row rfl 48 (.tmp 4) (.tmp 20) rfl (w.heap.size + 1) (shCL 0 ⟨0, 0, 0, 0, 0⟩ zeroD none 0 0).toArray ?ha ?hb 48 _ HR3.out HN1.out rfl (shCL_one _ _ _ _ _ _) ?_))
  all_goals first | rfl | skip
  have hr := setRow_heap w' (w.heap.size + 1) _ (shCL 0 ⟨0, 0, 0, 0, 0⟩ zeroD none 0 0).toArray _ _ HR3.out
  have hl := run_loadVar_row (P := Tryz.prog) (World.setRow w' (w.heap.size + 1) (shCL 0 ⟨0, 0, 0, 0, 0⟩ zeroD none 0 0).toArray) (w.heap.size + 1) 48 48 (shCL 0 ⟨0, 0, 0, 0, 0⟩ zeroD none 0 0).toArray (0, 0) _ hr Tryz.underlying48 rfl HN1.out
  refine bodyPost_ret (v := .tuple #[.agg (shCL 0 ⟨0, 0, 0, 0, 0⟩ zeroD none 0 0).toArray, .int .i64 420]) ?_ rfl ⟨rfl, below_setRow HB2.out (by omega) _⟩
  simp [results, Tryz.results19, asAddr, hl]
def wSwK (W1 : World) (bt : Nat) (t : Tr) (p : TrP) (jn : Nat) (s : List Nat) (PP : List Dg) : Nat → Value → Value → World → Prop
 | 0, fv, _, _ => fv = .agg tabK
 | 1, fv, _, _ => fv = trV t p
 | 2, fv, _, _ => fv = .pointer (some { block := bt, off := 5 })
 | 3, fv, _, _ => fv = .slice p.A2 p.n2 p.c2
 | 4, fv, _, _ => fv = .int .i64 (jn : Nat)
 | 5, fv, _, _ => fv = fv
 | 6, fv, _, _ => fv = fv
 | 7, fv, _, _ => fv = dgV s
 | 8, fv, _, _ => fv = fv
 | 9, fv, _, _ => fv = .int .i64 0
 | 10, fv, _, _ => fv = fv
 | 11, fv, _, _ => fv = fv
 | 12, fv, fu, fw => ∃ A n c q, fv = .slice A n c ∧ fu = .pointer (some ⟨q, 0, none⟩) ∧ InD fw A n c PP ∧ fw.heap[q]? = some (.cells (dgC s).toArray 25 (0, 0)) ∧ Below W1.heap.size W1 fw ∧ (0 < PP.length → ∀ g off, A = some ⟨g, off, none⟩ → W1.heap.size ≤ g)
 | 13, fv, _, _ => fv = .int .i64 0
 | _, _, _, _ => True
theorem wSwK_below {W1 : World} {bt : Nat} {t : Tr} {p : TrP} {jn : Nat} {s : List Nat} {PP : List Dg} {w w' : World} (hb : Below w.heap.size w w') : ∀ j v u, wSwK W1 bt t p jn s PP j v u w → wSwK W1 bt t p jn s PP j v u w'
 | 0, v, u, h => h
 | 1, v, u, h => h
 | 2, v, u, h => h
 | 3, v, u, h => h
 | 4, v, u, h => h
 | 5, v, u, h => h
 | 6, v, u, h => h
 | 7, v, u, h => h
 | 8, v, u, h => h
 | 9, v, u, h => h
 | 10, v, u, h => h
 | 11, v, u, h => h
 | 12, v, u, ⟨A, n, c, q, h1, h2, h3, h4, h5, h6⟩ => ⟨A, n, c, q, h1, h2, h3.below hb, row_kept h4 hb, h5.trans (hb.mono h5.size), h6⟩
 | 13, v, u, h => h
 | n + 14, v, u, h => trivial
theorem wSwK_pure {W1 : World} {bt : Nat} {t : Tr} {p : TrP} {jn : Nat} {s : List Nat} {PP : List Dg} {w w' : World} : ∀ j v u, j ≠ 12 → wSwK W1 bt t p jn s PP j v u w → wSwK W1 bt t p jn s PP j v u w'
 | 0, v, u, _, h => h
 | 1, v, u, _, h => h
 | 2, v, u, _, h => h
 | 3, v, u, _, h => h
 | 4, v, u, _, h => h
 | 5, v, u, _, h => h
 | 6, v, u, _, h => h
 | 7, v, u, _, h => h
 | 8, v, u, _, h => h
 | 9, v, u, _, h => h
 | 10, v, u, _, h => h
 | 11, v, u, _, h => h
 | 12, v, u, hh, _ => absurd rfl hh
 | 13, v, u, _, h => h
 | n + 14, v, u, _, h => trivial
def wSxK (W0 : World) (bt : Nat) (br : Nat) (p : TrP) (g : Nat) (off : Nat) (jn : Nat) (x : Cl) (s : List Nat) (A : Option Addr) (n : Nat) (c : Nat) (PP : List Dg) : Nat → Value → World → Prop
 | 0, fv, _ => fv = .int .i64 (jn : Nat)
 | 1, fv, _ => fv = .pointer (some { block := bt, off := 5 })
 | 2, fv, _ => fv = .slice (some ⟨g, off, none⟩) p.n2 p.c2
 | 3, fv, _ => fv = .int .i64 (jn : Nat)
 | 4, fv, _ => fv = .pointer (some ⟨g, off + jn * 3, none⟩)
 | 5, fv, _ => fv = clV x
 | 6, fv, _ => fv = dgV s
 | 7, fv, _ => fv = .slice A n c
 | 8, fv, _ => fv = .agg (shCK (jn : Nat) x s A n c).toArray
 | 9, fv, fw => fw.heap[br]? = some (.cells (shCK (jn : Nat) x s A n c).toArray 58 (0, 0)) ∧ Below W0.heap.size W0 fw ∧ InD fw A n c PP
 | 10, fv, _ => fv = .int .i64 0
 | _, _, _ => True
theorem wSxK_pure {W0 : World} {bt : Nat} {br : Nat} {p : TrP} {g : Nat} {off : Nat} {jn : Nat} {x : Cl} {s : List Nat} {A : Option Addr} {n : Nat} {c : Nat} {PP : List Dg} {w w' : World} : ∀ j v, j ≠ 9 → wSxK W0 bt br p g off jn x s A n c PP j v w → wSxK W0 bt br p g off jn x s A n c PP j v w'
 | 0, v, _, h => h
 | 1, v, _, h => h
 | 2, v, _, h => h
 | 3, v, _, h => h
 | 4, v, _, h => h
 | 5, v, _, h => h
 | 6, v, _, h => h
 | 7, v, _, h => h
 | 8, v, _, h => h
 | 9, v, hh, _ => absurd rfl hh
 | 10, v, _, h => h
 | n + 11, v, _, h => trivial
def cSwK (W1 : World) (s : List Nat) (PP : List Dg) (L : Nat → Bool) (fx : Nat → Value) (w' : World) : Prop := Below W1.heap.size W1 w' ∧ (L 5 = true → ∃ A n c, fx 5 = .tuple #[dgV s, .slice A n c, .int .i64 0] ∧ InD w' A n c PP ∧ (L 6 = true → fx 6 = .tuple #[dgV s, .slice A n c, .int .i64 0]) ∧ (L 8 = true → fx 8 = .slice A n c) ∧ (L 10 = true → 0 < PP.length → ∀ q g off, fx 10 = .pointer (some ⟨q, 0, none⟩) → A = some ⟨g, off, none⟩ → g ≠ q) ∧ (0 < PP.length → ∀ g off, A = some ⟨g, off, none⟩ → W1.heap.size ≤ g)) ∧ (L 10 = true → ∃ q, fx 10 = .pointer (some ⟨q, 0, none⟩) ∧ W1.heap.size ≤ q ∧ q < w'.heap.size ∧ w'.heap[q]? = some (.cells (dgC (bif L 11 then s else zeroD)).toArray 25 (0, 0)))
theorem cSwK.below {W1 : World} {s : List Nat} {PP : List Dg} {L : Nat → Bool} {fx : Nat → Value} {w' w2 : World} (h : cSwK W1 s PP L fx w') (hb : Below w'.heap.size w' w2) : cSwK W1 s PP L fx w2 := by
 refine ⟨h.1.trans (hb.mono h.1.size), fun h5 => ?_, fun h10 => ?_⟩
 ·obtain ⟨A, n, c, e, hin, r⟩ := h.2.1 h5
  exact ⟨A, n, c, e, hin.below hb, r⟩
 ·obtain ⟨q, e, h1, h2, h3⟩ := h.2.2 h10
  exact ⟨q, e, h1, Nat.lt_of_lt_of_le h2 hb.size, row_kept h3 hb⟩
theorem zshK : (shCK 0 ⟨0, 0, false⟩ zeroD none 0 0).toArray = #[.int .i64 0, .int .i64 0, .int .i64 0, .bool false, .int .u8 0, .int .u8 0, .int .u8 0, .int .u8 0, .int .u8 0, .int .u8 0, .int .u8 0, .int .u8 0, .int .u8 0, .int .u8 0, .int .u8 0, .int .u8 0, .int .u8 0, .int .u8 0, .int .u8 0, .int .u8 0, .int .u8 0, .int .u8 0, .int .u8 0, .int .u8 0, .int .u8 0, .int .u8 0, .int .u8 0, .int .u8 0, .int .u8 0, .int .u8 0, .int .u8 0, .int .u8 0, .int .u8 0, .int .u8 0, .int .u8 0, .int .u8 0, .slice none 0 0] := by kernel_rfl
theorem shwK_yes (t : Tr) (p : TrP) (jn : Nat) (x : Cl) (w : World) (h : Hid (TrOk w t p)) (hT : Hid (Tabs w)) (hg : Hid (trG t = true)) (hj : jn < p.n2) (HX : Hid (t.cl[jn]? = some x)) :
  Calls Tryz.prog 25 #[trV t p, .int .i64 (jn : Nat)] w fun e w' => ∃ A' n' c', e = .returned (.tuple #[.agg (shCK (jn : Nat) x (saltN t.salt 2 (nCl x)) A' n' c').toArray, .int .i64 0]) ∧ InD w' A' n' c' (pathD (t.cl.map (lvK t.salt)) jn) ∧ Below w.heap.size w w' := by
 obtain ⟨s, HS⟩ : ∃ s, Hid (saltN t.salt 2 (nCl x) = s) := ⟨_, hid rfl⟩
 have HSO : Hid (DgOk s) := hid (by rw [← HS.out]; exact saltN_ok _ _ _)
 have HS1 := hid (dgC_info HSO.out)
 have HS2 := hid (dgC_size HSO.out)
 obtain ⟨PP, HPP⟩ : ∃ PP, Hid (pathD (t.cl.map (lvK t.salt)) jn = PP) := ⟨_, hid rfl⟩
 have HLN := hid (show t.cl.length = p.n2 from h.out.cl.len)
 have HII := hid (clC_infoL4 x)
 obtain ⟨g, off, eA, hgl, hr⟩ := h.out.cl.rd (by rw [HLN.out]; omega)
 have HR : Hid (w.rangeAt g (off + jn * 3) (clC x)) := hid (by
  obtain ⟨hjl, hx⟩ := List.getElem?_eq_some_iff.1 HX.out
  have := range_elem clC_len4 hr jn hjl
  rwa [hx] at this)
 have HEA := hid eA
 have d2 : decide (jn < p.n2) = true := eQ hj
 rw [HPP.out, HS.out]
 clear hr eA
 have hb0 := ((Below.refl _ w).alloc (Nat.le_refl _) (.cells (trC t p).toArray 27)).alloc (by simp) (.cells (shCK 0 ⟨0, 0, false⟩ zeroD none 0 0).toArray 58)
 have hr0 := (Below.heap_alloc (w.alloc (.cells (trC t p).toArray 27)) (.cells (shCK 0 ⟨0, 0, false⟩ zeroD none 0 0).toArray 58) w.heap.size (by simp)).trans (heap_alloc_new w (.cells (trC t p).toArray 27))
 have hr1 := heap_alloc_new (w.alloc (.cells (trC t p).toArray 27)) (.cells (shCK 0 ⟨0, 0, false⟩ zeroD none 0 0).toArray 58)
 rw [World.size_alloc] at hr1
 have HO1 := hid (h.out.below hb0)
 have hT1 := hid (hT.out.below hb0)
 rw [zshK] at hb0 hr0 HO1 hT1
 conv at hr1 => lhs; rw [zshK]
 have HB0 := hid hb0
 have HR0 := hid hr0
 have HR1 := hid hr1
 have HIT := hid (trV_info t p h.out.len)
 clear hb0 hr0 hr1
 rw [show trV t p = .agg (trC t p).toArray from rfl]
 go_enter Tryz.func25, Tryz.ntmps25
 go_wp2_with fail
 generalize ((w.alloc (.cells (trC t p).toArray 27)).alloc (.cells #[.int .i64 0, .int .i64 0, .int .i64 0, .bool false, .int .u8 0, .int .u8 0, .int .u8 0, .int .u8 0, .int .u8 0, .int .u8 0, .int .u8 0, .int .u8 0, .int .u8 0, .int .u8 0, .int .u8 0, .int .u8 0, .int .u8 0, .int .u8 0, .int .u8 0, .int .u8 0, .int .u8 0, .int .u8 0, .int .u8 0, .int .u8 0, .int .u8 0, .int .u8 0, .int .u8 0, .int .u8 0, .int .u8 0, .int .u8 0, .int .u8 0, .int .u8 0, .int .u8 0, .int .u8 0, .int .u8 0, .int .u8 0, .slice none 0 0] 58)) = W1 at *
 refine region_flow4 (by kernel_rfl) (by kernel_rfl) (fun i => Nat.beq i 12 || Nat.beq i 13) (fun i => bif Nat.beq i 12 then 10 else i) (by kernel_rfl) (fun fx => #[.agg (trC t p).toArray, .int .i64 (jn : Nat), .pointer (some { block := w.heap.size, off := 0 }), undef, .pointer (some { block := w.heap.size + 1, off := 0 }), fx 13, fx 10, fx 12, fx 6, fx 0, fx 1, fx 2, fx 3, fx 4, fx 5, fx 7, fx 8, fx 9, undef, undef, undef, undef, undef, undef, undef, undef, undef, undef, undef, undef, undef]) (fun i => bif Nat.beq i 13 then Value.int .i64 0 else undef) (fun L fx w' => cSwK W1 s PP L fx w') (fun fi fv fu fw => wSwK W1 w.heap.size t p jn s PP fi fv fu fw) ⟨(Below.refl _ _).drew, (fun h => by cases h), (fun h => by cases h)⟩ ?_ ?_
 ·refine ⟨?_, ?_, ?_, ?_, ?_, ?_, ?_, ?_, ?_, ?_, ?_, ?_, ?_, ?_, trivial⟩
  all_goals intro L fx w' hC hi hcl hdn hd
  ·go_wp2_with fail
   refine (claims_any w').mono ?_
   rintro e w2 ⟨rfl, hq⟩
   go_wp2_with fail
   exact ⟨_, rfl, hC.below hq, rfl, fun j v t _ _ h => wSwK_below hq j v t h⟩
  ·have hrow := row_kept HR0.out hC.1
   refine wpList_load_row rfl 27 (.tmp 2) rfl w.heap.size rfl 27 _ (0, 0) _ hrow Tryz.underlying27 rfl HIT.out ?_
   clear hd
   go_wp2_with fail
   exact ⟨_, rfl, hC, rfl, kP⟩
  ·go_wp2_with fail
   exact ⟨_, rfl, hC, rfl, kP⟩
  ·have h2 : fx 2 = .pointer (some { block := w.heap.size, off := 5 }) := hd.1 rfl
   have hcc : w'.cell? ⟨w.heap.size, 5, none⟩ = some (.slice p.A2 p.n2 p.c2) := by rw [cell_of_row _ _ _ _ _ _ (row_kept HR0.out hC.1)]; rfl
   go_wp2_with fail
   exact ⟨_, by simp only [upd, h2]; rfl, hC, rfl, kP⟩
  ·go_wp2_with fail
   exact ⟨_, rfl, hC, rfl, kP⟩
  ·have h0 : fx 0 = .agg tabK := hd.1 rfl
   have h1 : fx 1 = trV t p := hd.2.1 rfl
   have h3 : fx 3 = .slice p.A2 p.n2 p.c2 := hd.2.2.1 rfl
   have h4 : fx 4 = .int .i64 (jn : Nat) := hd.2.2.2.1 rfl
   have HOK := hid (HO1.out.below hC.1)
   have HTK := hid (hT1.out.below hC.1)
   go_wp2_with fail
   refine (showK_yes t p jn x w' HOK HTK hg hj HX).mono ?_
   rintro e w2 ⟨A, n, c, rfl, hin, hq, hfr⟩
   rw [HPP.out] at hin
   rw [HS.out]
   go_wp2_with fail
   have hbl := hC.below hq
   refine ⟨Value.tuple #[dgV s, .slice A n c, .int .i64 0], by simp only [upd, h0, h1, h3, h4]; rfl, ⟨hbl.1, fun _ => ⟨A, n, c, rfl, hin, (fun h => absurd (hcl 6 5 h (by kernel_rfl)) (by rw [hi]; exact Bool.false_ne_true)), (fun h => absurd (hcl 6 5 (hcl 8 6 h (by kernel_rfl)) (by kernel_rfl)) (by rw [hi]; exact Bool.false_ne_true)), fun h10 _ q g off e1 e2 => ?_, fun _ g off e2 => Nat.le_trans hC.1.size (hfr g (by rw [e2]; rfl))⟩, hbl.2.2⟩, rfl, fun j v t _ _ h => wSwK_below hq j v t h⟩
   obtain ⟨q', e3, _, hlt, _⟩ := hC.2.2 h10
   have e4 : Value.pointer (some ⟨q, 0, none⟩) = Value.pointer (some ⟨q', 0, none⟩) := (Eq.symm e1).trans e3
   injection e4 with e4; injection e4 with e4; injection e4 with e4
   have := hfr g (by rw [e2]; rfl)
   omega
  ·have H5 := hid (hd.1 rfl)
   obtain ⟨A, n, c, h5, hin, h6, h8, hne, hfg⟩ := hC.2.1 (hdn 5 (by kernel_rfl))
   go_wp2_with fail
   exact ⟨Value.tuple #[dgV s, .slice A n c, .int .i64 0], by simp only [upd, h5]; rfl, ⟨hC.1, fun _ => ⟨A, n, c, h5, hin, fun _ => rfl, h8, hne, hfg⟩, hC.2.2⟩, rfl, kP⟩
  ·have H6 := hid (hd.1 rfl)
   obtain ⟨A, n, c, h5, hin, h6, h8, hne, hfg⟩ := hC.2.1 (hcl 6 5 (hdn 6 (by kernel_rfl)) (by kernel_rfl))
   have h6' := h6 (hdn 6 (by kernel_rfl))
   go_wp2_with fail
   exact ⟨_, by simp only [upd, h6', h5]; rfl, hC, rfl, kP⟩
  ·have H6 := hid (hd.1 rfl)
   obtain ⟨A, n, c, h5, hin, h6, h8, hne, hfg⟩ := hC.2.1 (hcl 6 5 (hdn 6 (by kernel_rfl)) (by kernel_rfl))
   have h6' := h6 (hdn 6 (by kernel_rfl))
   go_wp2_with fail
   exact ⟨Value.slice A n c, by simp only [upd, h6', h5]; rfl, ⟨hC.1, fun _ => ⟨A, n, c, h5, hin, h6, fun _ => rfl, hne, hfg⟩, hC.2.2⟩, rfl, kP⟩
  ·have H6 := hid (hd.1 rfl)
   obtain ⟨A, n, c, h5, hin, h6, h8, hne, hfg⟩ := hC.2.1 (hcl 6 5 (hdn 6 (by kernel_rfl)) (by kernel_rfl))
   have h6' := h6 (hdn 6 (by kernel_rfl))
   go_wp2_with fail
   exact ⟨_, by simp only [upd, h6', h5]; rfl, hC, rfl, kP⟩
  ·have h11 : L 11 = false := nQ hi (fun h => hcl 11 10 h (by kernel_rfl))
   go_wp2_with fail
   have hq : Below w'.heap.size w' (w'.alloc (.cells #[.int .u8 0, .int .u8 0, .int .u8 0, .int .u8 0, .int .u8 0, .int .u8 0, .int .u8 0, .int .u8 0, .int .u8 0, .int .u8 0, .int .u8 0, .int .u8 0, .int .u8 0, .int .u8 0, .int .u8 0, .int .u8 0, .int .u8 0, .int .u8 0, .int .u8 0, .int .u8 0, .int .u8 0, .int .u8 0, .int .u8 0, .int .u8 0, .int .u8 0, .int .u8 0, .int .u8 0, .int .u8 0, .int .u8 0, .int .u8 0, .int .u8 0, .int .u8 0] 25)) := (Below.refl _ _).alloc (Nat.le_refl _) _
   have hbl := hC.below hq
   refine ⟨Value.pointer (some ⟨w'.heap.size, 0, none⟩), rfl, ⟨hbl.1, fun h5' => ?_, fun _ => ⟨w'.heap.size, rfl, hC.1.size, by simp, ?_⟩⟩, rfl, fun j v t _ _ h => wSwK_below hq j v t h⟩
   ·obtain ⟨A, n, c, h5, hin, h6, h8, hne, hfg⟩ := hC.2.1 h5'
    refine ⟨A, n, c, h5, hin.below hq, h6, h8, fun _ hp q g off e1 e2 => ?_, hfg⟩
    have e4 : Value.pointer (some ⟨w'.heap.size, 0, none⟩) = Value.pointer (some ⟨q, 0, none⟩) := e1
    injection e4 with e4; injection e4 with e4; injection e4 with e4
    obtain ⟨g', off', e', hg', _⟩ := hin.rd hp
    rw [e2] at e'; injection e' with e'; injection e' with e1' e2'
    omega
   ·show _ = some (Obj.cells (dgC (bif L 11 then s else zeroD)).toArray 25 (0, 0))
    rw [h11]
    show _ = some (Obj.cells (dgC zeroD).toArray 25 (0, 0))
    rw [zeroD_cells]
    exact heap_alloc_new w' _
  ·have H10 := hid (hd.1 rfl)
   have h7 : fx 7 = dgV s := hd.2.1 rfl
   obtain ⟨q, e10, hq1, hq2, hrow0⟩ := hC.2.2 (hdn 10 (by kernel_rfl))
   have hrow : w'.heap[q]? = some (.cells (dgC zeroD).toArray 25 (0, 0)) := by have := hrow0; rw [hi] at this; exact this
   refine wpList_store_row rfl 25 (.tmp 6) (.tmp 15) rfl q (dgC s).toArray e10 h7 25 _ hrow HS1.out HS2.out (dgC_one _) ?_
   clear hd
   go_wp2_with fail
   refine ⟨undef, by simp only [upd, h7, e10]; rfl, ⟨below_setRow hC.1 hq1 _, fun h5' => ?_, fun _ => ⟨q, e10, hq1, by rw [setRow_size]; exact hq2, setRow_heap _ _ _ _ _ _ hrow⟩⟩, rfl, fun j v t hj hu h => ?_⟩
   ·obtain ⟨A, n, c, h5, hin, h6, h8, hne, hfg⟩ := hC.2.1 h5'
    exact ⟨A, n, c, h5, hin.setRow2 (fun hp g off e => hne (hdn 10 (by kernel_rfl)) hp q g off e10 e), h6, h8, hne, hfg⟩
   ·by_cases e : j = 12
    ·subst e; exact absurd (hcl 12 11 hj (by kernel_rfl)) (by rw [hi]; exact Bool.false_ne_true)
    ·exact wSwK_pure j v t e h
  ·have H8 := hid (hd.1 rfl)
   obtain ⟨A, n, c, h5, hin, h6, h8, hne, hfg⟩ := hC.2.1 (hdn 5 (by kernel_rfl))
   have h8' := h8 (hdn 8 (by kernel_rfl))
   obtain ⟨q, e10, hq1, hq2, hrow0⟩ := hC.2.2 (hdn 10 (by kernel_rfl))
   rw [hdn 11 (by kernel_rfl)] at hrow0
   go_wp2_with fail
   exact ⟨Value.slice A n c, by simp only [upd, h8', h5, e10]; rfl, hC, ⟨A, n, c, q, rfl, e10, hin, hrow0, hC.1, hfg⟩, kP⟩
  ·have h9 : fx 9 = .int .i64 0 := hd.1 rfl
   go_wp2_with fail
   exact ⟨_, by simp only [upd, h9]; rfl, hC, rfl, kP⟩
 ·intro L fo w' hC hS
  have H12 := hid (hS 12 (by decide) rfl)
  have H13 := hid (hS 13 (by decide) rfl)
  obtain ⟨A, n, c, q, e12, e10, hin, hrow, hbw, hfg⟩ := H12.out
  have e10' : fo 10 = .pointer (some ⟨q, 0, none⟩) := e10
  have e13 : fo 13 = .int .i64 0 := H13.out
  rw [e12, e10', e13]
  have HIN := hid hin
  have HRQ := hid hrow
  have HBW := hid hbw
  have HR2 := hid (row_kept HR0.out hbw)
  have HR3 := hid (row_kept HR1.out hbw)
  have HB2 := hid (HB0.out.trans (hbw.mono HB0.out.size))
  have HFG : Hid (0 < PP.length → ∀ g off, A = some ⟨g, off, none⟩ → g ≠ w.heap.size + 1) := hid (fun hp g off e => by
   have h1 := hfg hp g off e
   have h2 := (Array.getElem?_eq_some_iff.1 HR1.out).1
   omega)
  have HRX := hid (rangeAt_below HR.out hgl HB2.out)
  have HGL : Hid (g < w'.heap.size) := hid (Nat.lt_of_lt_of_le hgl HB2.out.size)
  have HN1 := hid (shCK_info (i := (jn : Nat)) (x := x) (A := A) (n := n) (c := c) HSO.out)
  have HN2 : Hid ((shCK 0 ⟨0, 0, false⟩ zeroD none 0 0).toArray.size = (shCK (jn : Nat) x s A n c).toArray.size) := hid (by simp [shCK, dgC_len32 HSO.out, dgC_len32 zeroD_ok, clC])
  clear hS hC e12 e10 e10' e13 H12 H13 hin hrow hbw hfg
  go_wp2_with fail
  obtain ⟨W2, hW2⟩ : ∃ W, W = w' := ⟨_, rfl⟩
  subst hW2
  refine region_flow4 (by kernel_rfl) (by kernel_rfl) (fun i => Nat.beq i 9 || Nat.beq i 10) (fun i => i) (by kernel_rfl) (fun fx => #[.agg (trC t p).toArray, .int IntKind.i64 ↑jn, .pointer (some { block := w.heap.size, off := 0 }), undef, .pointer (some { block := w.heap.size + 1, off := 0 }), fx 10, .pointer (some { block := q, off := 0 }), .slice A n c, fo 6, fo 0, fo 1, fo 2, fo 3, fo 4, fo 5, fo 7, fo 8, fo 9, .int IntKind.i64 0, .bool false, undef, undef, fx 0, fx 1, fx 2, fx 3, fx 4, fx 5, fx 6, fx 7, fx 8]) (fun i => bif Nat.beq i 10 then Value.int IntKind.i64 0 else undef) (fun L fx w' => (L 9 = false → Below W2.heap.size W2 w')) (fun fi fv _ fw => wSxK w w.heap.size (w.heap.size + 1) p g off jn x s A n c PP fi fv fw) (fun _ => (Below.refl _ _).drew) ?_ ?_
  ·refine ⟨?_, ?_, ?_, ?_, ?_, ?_, ?_, ?_, ?_, ?_, ?_, trivial⟩
   all_goals intro L fx w' hC hi hcl hdn hd
   ·go_wp2_with fail
    exact ⟨_, rfl, fun h => hC h, rfl, kP⟩
   ·go_wp2_with fail
    exact ⟨_, rfl, fun h => hC h, rfl, kP⟩
   ·have h1 : fx 1 = .pointer (some { block := w.heap.size, off := 5 }) := hd.1 rfl
    have hnd : L 9 = false := nQ hi (fun h => hcl 9 2 h (by kernel_rfl))
    have hcc : w'.cell? ⟨w.heap.size, 5, none⟩ = some (.slice (some ⟨g, off, none⟩) p.n2 p.c2) := by rw [cell_of_row _ _ _ _ _ _ (row_kept HR2.out (hC hnd)), ← HEA.out]; rfl
    go_wp2_with fail
    exact ⟨_, by simp only [upd, h1]; rfl, fun h => hC h, rfl, kP⟩
   ·go_wp2_with fail
    exact ⟨_, rfl, fun h => hC h, rfl, kP⟩
   ·have h2 : fx 2 = .slice (some ⟨g, off, none⟩) p.n2 p.c2 := hd.1 rfl
    have h3 : fx 3 = .int .i64 (jn : Nat) := hd.2.1 rfl
    go_wp2_with fail
    exact ⟨_, by simp only [upd, h2, h3]; rfl, fun h => hC h, rfl, kP⟩
   ·have h4 : fx 4 = .pointer (some ⟨g, off + jn * 3, none⟩) := hd.1 rfl
    have hnd : L 9 = false := nQ hi (fun h => hcl 9 5 h (by kernel_rfl))
    have hrow := rangeAt_below HRX.out HGL.out (hC hnd)
    refine wpList_load_mid rfl 56 (.tmp 26) rfl g (off + jn * 3) h4 (clC x) _ hrow Tryz.underlying56 rfl HII.out ?_
    clear hd
    go_wp2_with fail
    exact ⟨_, by simp only [upd, h4]; rfl, fun h => hC h, rfl, kP⟩
   ·have hnd : L 9 = false := nQ hi (fun h => hcl 9 6 h (by kernel_rfl))
    have hrow := row_kept HRQ.out (hC hnd)
    refine wpList_load_row rfl 25 (.tmp 6) rfl q rfl 25 _ (0, 0) _ hrow Tryz.underlying25 rfl HS1.out ?_
    clear hd
    go_wp2_with fail
    exact ⟨_, rfl, fun h => hC h, rfl, kP⟩
   ·go_wp2_with fail
    exact ⟨_, rfl, fun h => hC h, rfl, kP⟩
   ·have h0 : fx 0 = .int .i64 (jn : Nat) := hd.1 rfl
    have h5 : fx 5 = clV x := hd.2.1 rfl
    have h6 : fx 6 = dgV s := hd.2.2.1 rfl
    have h7 : fx 7 = .slice A n c := hd.2.2.2.1 rfl
    refine wpList_build_shK rfl (.tmp 22) (.tmp 27) (.tmp 28) (.tmp 29) rfl (jn : Nat) x s A n c HSO.out.len h0 h5 h6 h7 ?_
    clear hd
    go_wp2_with fail
    exact ⟨_, by simp only [upd, h0, h5, h6, h7]; rfl, fun h => hC h, rfl, kP⟩
   ·have h8 : fx 8 = .agg (shCK (jn : Nat) x s A n c).toArray := hd.1 rfl
    have hb21 := hC hi
    have hrow := row_kept HR3.out hb21
    refine wpList_store_row rfl 58 (.tmp 4) (.tmp 30) rfl (w.heap.size + 1) (shCK (jn : Nat) x s A n c).toArray rfl h8 58 _ hrow HN1.out HN2.out (shCK_one _ _ _ _ _ _) ?_
    clear hd
    go_wp2_with fail
    refine ⟨undef, by simp only [upd, h8]; rfl, fun h => (updB_self h).elim, ⟨setRow_heap _ _ _ _ _ _ hrow, below_setRow (HB2.out.trans (hb21.mono HB2.out.size)) (by omega) _, (HIN.out.below hb21).setRow2 HFG.out⟩, fun j v t hj hu h => ?_⟩
    refine wSxK_pure j v ?_ h
    intro e; subst e; rw [hi] at hj; cases hj
   ·go_wp2_with fail
    exact ⟨_, rfl, fun h => hC h, rfl, kP⟩
  ·intro L fp w' hC hS
   have H9 := hid (hS 9 (by decide) rfl)
   have H10 := hid (hS 10 (by decide) rfl)
   have e10 : fp 10 = .int .i64 0 := H10.out
   rw [e10]
   clear hS hC e10 H10
   go_wp2_with fail
   have hl := run_loadVar_row (P := Tryz.prog) w' (w.heap.size + 1) 58 58 (shCK (jn : Nat) x s A n c).toArray (0, 0) _ H9.out.1 Tryz.underlying58 rfl HN1.out
   refine bodyPost_ret (v := .tuple #[.agg (shCK (jn : Nat) x s A n c).toArray, .int .i64 0]) ?_ rfl ⟨A, n, c, rfl, H9.out.2.2, H9.out.2.1⟩
   simp [results, Tryz.results25, asAddr, hl]
def wSzK (bt : Nat) (t : Tr) (p : TrP) (i : Int) : Nat → Value → World → Prop
 | 0, fv, _ => fv = .agg tabK
 | 1, fv, _ => fv = trV t p
 | 2, fv, _ => fv = .pointer (some { block := bt, off := 5 })
 | 3, fv, _ => fv = .slice p.A2 p.n2 p.c2
 | 4, fv, _ => fv = .int .i64 i
 | 5, fv, _ => fv = .tuple #[dgV zeroD, .slice none 0 0, .int .i64 420]
 | 6, fv, _ => fv = .tuple #[dgV zeroD, .slice none 0 0, .int .i64 420]
 | 7, fv, _ => fv = dgV zeroD
 | 8, fv, _ => fv = .slice none 0 0
 | 9, fv, _ => fv = .int .i64 420
 | 10, fv, _ => fv = fv
 | 11, fv, _ => fv = fv
 | 12, fv, _ => fv = .slice none 0 0
 | 13, fv, _ => fv = .int .i64 420
 | _, _, _ => True
theorem wSzK_below {bt : Nat} {t : Tr} {p : TrP} {i : Int} {w w' : World} (hb : Below w.heap.size w w') : ∀ j v, wSzK bt t p i j v w → wSzK bt t p i j v w'
 | 0, v, h => h
 | 1, v, h => h
 | 2, v, h => h
 | 3, v, h => h
 | 4, v, h => h
 | 5, v, h => h
 | 6, v, h => h
 | 7, v, h => h
 | 8, v, h => h
 | 9, v, h => h
 | 10, v, h => h
 | 11, v, h => h
 | 12, v, h => h
 | 13, v, h => h
 | n + 14, v, h => trivial
theorem wSzK_all {bt : Nat} {t : Tr} {p : TrP} {i : Int} {w w' : World} : ∀ j v, wSzK bt t p i j v w → wSzK bt t p i j v w'
 | 0, v, h => h
 | 1, v, h => h
 | 2, v, h => h
 | 3, v, h => h
 | 4, v, h => h
 | 5, v, h => h
 | 6, v, h => h
 | 7, v, h => h
 | 8, v, h => h
 | 9, v, h => h
 | 10, v, h => h
 | 11, v, h => h
 | 12, v, h => h
 | 13, v, h => h
 | n + 14, v, h => trivial
theorem showK_no (t : Tr) (p : TrP) (i : Int) (w : World) (h : Hid (TrOk w t p)) (hT : Hid (Tabs w)) (hbad : trG t = false ∨ i < 0 ∨ (p.n2 : Int) ≤ i) :
  Calls Tryz.prog 65 #[.agg tabK, trV t p, .slice p.A2 p.n2 p.c2, .int .i64 i] w fun e w' => e = .returned (.tuple #[dgV zeroD, .slice none 0 0, .int .i64 420]) ∧ Below w.heap.size w w' := by
 by_cases hg : trG t = true
 ·by_cases h0 : i < 0
  ·exact showK_1 t p i w h hT (hid hg) h0
  ·exact showK_2 t p i w h hT (hid hg) (by omega) (by rcases hbad with h1 | h1 | h1; rw [hg] at h1; cases h1; omega; exact h1)
 ·exact showK_0 t p i w h hT (hid (by simpa using hg))
theorem shwK_no (t : Tr) (p : TrP) (i : Int) (w : World) (h : Hid (TrOk w t p)) (hT : Hid (Tabs w)) (hbad : Hid (trG t = false ∨ i < 0 ∨ (p.n2 : Int) ≤ i)) :
  Calls Tryz.prog 25 #[trV t p, .int .i64 i] w fun e w' => e = .returned (.tuple #[.agg (shCK 0 ⟨0, 0, false⟩ zeroD none 0 0).toArray, .int .i64 420]) ∧ Below w.heap.size w w' := by
 have HS1 := hid (dgC_info zeroD_ok)
 have HS2 := hid (dgC_size zeroD_ok)
 have HN1 := hid (shCK_info (i := 0) (x := ⟨0, 0, false⟩) (A := none) (n := 0) (c := 0) zeroD_ok)
 have hb0 := ((Below.refl _ w).alloc (Nat.le_refl _) (.cells (trC t p).toArray 27)).alloc (by simp) (.cells (shCK 0 ⟨0, 0, false⟩ zeroD none 0 0).toArray 58)
 have hr0 := (Below.heap_alloc (w.alloc (.cells (trC t p).toArray 27)) (.cells (shCK 0 ⟨0, 0, false⟩ zeroD none 0 0).toArray 58) w.heap.size (by simp)).trans (heap_alloc_new w (.cells (trC t p).toArray 27))
 have hr1 := heap_alloc_new (w.alloc (.cells (trC t p).toArray 27)) (.cells (shCK 0 ⟨0, 0, false⟩ zeroD none 0 0).toArray 58)
 rw [World.size_alloc] at hr1
 have HO1 := hid (h.out.below hb0)
 have hT1 := hid (hT.out.below hb0)
 rw [zshK] at hb0 hr0 HO1 hT1
 conv at hr1 => lhs; rw [zshK]
 have HB0 := hid hb0
 have HR0 := hid hr0
 have HR1 := hid hr1
 have HIT := hid (trV_info t p h.out.len)
 clear hb0 hr0 hr1
 rw [show trV t p = .agg (trC t p).toArray from rfl]
 go_enter Tryz.func25, Tryz.ntmps25
 go_wp2_with fail
 generalize ((w.alloc (.cells (trC t p).toArray 27)).alloc (.cells #[.int .i64 0, .int .i64 0, .int .i64 0, .bool false, .int .u8 0, .int .u8 0, .int .u8 0, .int .u8 0, .int .u8 0, .int .u8 0, .int .u8 0, .int .u8 0, .int .u8 0, .int .u8 0, .int .u8 0, .int .u8 0, .int .u8 0, .int .u8 0, .int .u8 0, .int .u8 0, .int .u8 0, .int .u8 0, .int .u8 0, .int .u8 0, .int .u8 0, .int .u8 0, .int .u8 0, .int .u8 0, .int .u8 0, .int .u8 0, .int .u8 0, .int .u8 0, .int .u8 0, .int .u8 0, .int .u8 0, .int .u8 0, .slice none 0 0] 58)) = W1 at *
 refine region_flow4 (by kernel_rfl) (by kernel_rfl) (fun i => Nat.beq i 13) (fun i => i) (by kernel_rfl) (fun fx => #[.agg (trC t p).toArray, .int .i64 i, .pointer (some { block := w.heap.size, off := 0 }), undef, .pointer (some { block := w.heap.size + 1, off := 0 }), fx 13, fx 10, fx 12, fx 6, fx 0, fx 1, fx 2, fx 3, fx 4, fx 5, fx 7, fx 8, fx 9, undef, undef, undef, undef, undef, undef, undef, undef, undef, undef, undef, undef, undef]) (fun i => bif Nat.beq i 13 then Value.int .i64 0 else undef) (fun L fx w' => Below W1.heap.size W1 w' ∧ (L 10 = true → ∃ q, fx 10 = .pointer (some ⟨q, 0, none⟩) ∧ W1.heap.size ≤ q ∧ q < w'.heap.size ∧ w'.heap[q]? = some (.cells (dgC zeroD).toArray 25 (0, 0)))) (fun fi fv _ fw => wSzK w.heap.size t p i fi fv fw) ⟨(Below.refl _ _).drew, (fun h => by cases h)⟩ ?_ ?_
 ·refine ⟨?_, ?_, ?_, ?_, ?_, ?_, ?_, ?_, ?_, ?_, ?_, ?_, ?_, ?_, trivial⟩
  all_goals intro L fx w' hC hi hcl hdn hd
  ·go_wp2_with fail
   refine (claims_any w').mono ?_
   rintro e w2 ⟨rfl, hq⟩
   go_wp2_with fail
   exact ⟨_, rfl, ⟨hC.1.trans (hq.mono hC.1.size), fun h10 => by obtain ⟨q, e1, e2, e3, e4⟩ := hC.2 h10; exact ⟨q, e1, e2, Nat.lt_of_lt_of_le e3 hq.size, row_kept e4 hq⟩⟩, rfl, fun j v t _ _ h => wSzK_below hq j v h⟩
  ·have hrow := row_kept HR0.out hC.1
   refine wpList_load_row rfl 27 (.tmp 2) rfl w.heap.size rfl 27 _ (0, 0) _ hrow Tryz.underlying27 rfl HIT.out ?_
   clear hd
   go_wp2_with fail
   exact ⟨_, rfl, hC, rfl, kP⟩
  ·go_wp2_with fail
   exact ⟨_, rfl, hC, rfl, kP⟩
  ·have h2 : fx 2 = .pointer (some { block := w.heap.size, off := 5 }) := hd.1 rfl
   have hcc : w'.cell? ⟨w.heap.size, 5, none⟩ = some (.slice p.A2 p.n2 p.c2) := by rw [cell_of_row _ _ _ _ _ _ (row_kept HR0.out hC.1)]; rfl
   go_wp2_with fail
   exact ⟨_, by simp only [upd, h2]; rfl, hC, rfl, kP⟩
  ·go_wp2_with fail
   exact ⟨_, rfl, hC, rfl, kP⟩
  ·have h0 : fx 0 = .agg tabK := hd.1 rfl
   have h1 : fx 1 = trV t p := hd.2.1 rfl
   have h3 : fx 3 = .slice p.A2 p.n2 p.c2 := hd.2.2.1 rfl
   have h4 : fx 4 = .int .i64 i := hd.2.2.2.1 rfl
   have HOK := hid (HO1.out.below hC.1)
   have HTK := hid (hT1.out.below hC.1)
   go_wp2_with fail
   refine (showK_no t p i w' HOK HTK hbad.out).mono ?_
   rintro e w2 ⟨rfl, hq⟩
   go_wp2_with fail
   exact ⟨Value.tuple #[dgV zeroD, .slice none 0 0, .int .i64 420], by simp only [upd, h0, h1, h3, h4]; rfl, ⟨hC.1.trans (hq.mono hC.1.size), fun h10 => by obtain ⟨q, e1, e2, e3, e4⟩ := hC.2 h10; exact ⟨q, e1, e2, Nat.lt_of_lt_of_le e3 hq.size, row_kept e4 hq⟩⟩, rfl, fun j v t _ _ h => wSzK_below hq j v h⟩
  ·have h5 : fx 5 = .tuple #[dgV zeroD, .slice none 0 0, .int .i64 420] := hd.1 rfl
   go_wp2_with fail
   exact ⟨_, by simp only [upd, h5]; rfl, hC, rfl, kP⟩
  ·have h6 : fx 6 = .tuple #[dgV zeroD, .slice none 0 0, .int .i64 420] := hd.1 rfl
   go_wp2_with fail
   exact ⟨_, by simp only [upd, h6]; rfl, hC, rfl, kP⟩
  ·have h6 : fx 6 = .tuple #[dgV zeroD, .slice none 0 0, .int .i64 420] := hd.1 rfl
   go_wp2_with fail
   exact ⟨_, by simp only [upd, h6]; rfl, hC, rfl, kP⟩
  ·have h6 : fx 6 = .tuple #[dgV zeroD, .slice none 0 0, .int .i64 420] := hd.1 rfl
   go_wp2_with fail
   exact ⟨_, by simp only [upd, h6]; rfl, hC, rfl, kP⟩
  ·go_wp2_with fail
   have hq : Below w'.heap.size w' (w'.alloc (.cells #[.int .u8 0, .int .u8 0, .int .u8 0, .int .u8 0, .int .u8 0, .int .u8 0, .int .u8 0, .int .u8 0, .int .u8 0, .int .u8 0, .int .u8 0, .int .u8 0, .int .u8 0, .int .u8 0, .int .u8 0, .int .u8 0, .int .u8 0, .int .u8 0, .int .u8 0, .int .u8 0, .int .u8 0, .int .u8 0, .int .u8 0, .int .u8 0, .int .u8 0, .int .u8 0, .int .u8 0, .int .u8 0, .int .u8 0, .int .u8 0, .int .u8 0, .int .u8 0] 25)) := (Below.refl _ _).alloc (Nat.le_refl _) _
   exact ⟨Value.pointer (some ⟨w'.heap.size, 0, none⟩), rfl, ⟨hC.1.trans (hq.mono hC.1.size), fun _ => ⟨w'.heap.size, rfl, hC.1.size, by simp, by rw [zeroD_cells]; exact heap_alloc_new w' _⟩⟩, rfl, fun j v t _ _ h => wSzK_below hq j v h⟩
  ·have H10 := hid (hd.1 rfl)
   have h7 : fx 7 = dgV zeroD := hd.2.1 rfl
   obtain ⟨q, e10, hq1, hq2, hrow⟩ := hC.2 (hdn 10 (by kernel_rfl))
   refine wpList_store_row rfl 25 (.tmp 6) (.tmp 15) rfl q (dgC zeroD).toArray e10 h7 25 _ hrow HS1.out HS2.out (dgC_one _) ?_
   clear hd
   go_wp2_with fail
   exact ⟨undef, by simp only [upd, h7, e10]; rfl, ⟨below_setRow hC.1 hq1 _, fun _ => ⟨q, e10, hq1, by rw [setRow_size]; exact hq2, setRow_heap _ _ _ _ _ _ hrow⟩⟩, rfl, fun j v t _ _ h => wSzK_all j v h⟩
  ·have h8 : fx 8 = .slice none 0 0 := hd.1 rfl
   go_wp2_with fail
   exact ⟨_, by simp only [upd, h8]; rfl, hC, rfl, kP⟩
  ·have h9 : fx 9 = .int .i64 420 := hd.1 rfl
   go_wp2_with fail
   exact ⟨_, by simp only [upd, h9]; rfl, hC, rfl, kP⟩
 ·intro L fo w' hC hS
  have H13 := hid (hS 13 (by decide) rfl)
  have e13 : fo 13 = .int .i64 420 := H13.out
  rw [e13]
  have HR3 := hid (row_kept HR1.out hC.1)
  have HB2 := hid (HB0.out.trans (hC.1.mono HB0.out.size))
  clear hS hC e13 H13
  go_wp2_with (first | (refine wpList_load_row rfl 58 (.tmp 4) rfl (w.heap.size + 1) rfl 58 _ (0, 0) _ HR3.out Tryz.underlying58 rfl HN1.out ?_) | (refine wpList_store_row rfl 58 (.tmp 4) (.tmp 20) rfl (w.heap.size + 1) (shCK 0 ⟨0, 0, false⟩ zeroD none 0 0).toArray ?ha ?hb 58 _ HR3.out HN1.out rfl (shCK_one _ _ _ _ _ _) ?_))
  all_goals first | rfl | skip
  have hr := setRow_heap w' (w.heap.size + 1) _ (shCK 0 ⟨0, 0, false⟩ zeroD none 0 0).toArray _ _ HR3.out
  have hl := run_loadVar_row (P := Tryz.prog) (World.setRow w' (w.heap.size + 1) (shCK 0 ⟨0, 0, false⟩ zeroD none 0 0).toArray) (w.heap.size + 1) 58 58 (shCK 0 ⟨0, 0, false⟩ zeroD none 0 0).toArray (0, 0) _ hr Tryz.underlying58 rfl HN1.out
  refine bodyPost_ret (v := .tuple #[.agg (shCK 0 ⟨0, 0, false⟩ zeroD none 0 0).toArray, .int .i64 420]) ?_ rfl ⟨rfl, below_setRow HB2.out (by omega) _⟩
  simp [results, Tryz.results25, asAddr, hl]
def wVfL (b0 : Nat) (b1 : Nat) (r : Rt) (i : Int) (x : Ln) (s : List Nat) (A : Option Addr) (n : Nat) (c : Nat) (ve : Int) : Nat → Value → World → Prop
 | 0, fv, _ => fv = .agg tabL
 | 1, fv, _ => fv = .pointer (some { block := b1, off := 1 })
 | 2, fv, _ => fv = lnV x
 | 3, fv, _ => fv = .pointer (some { block := b1, off := 6 })
 | 4, fv, _ => fv = dgV s
 | 5, fv, _ => fv = .pointer (some { block := b1, off := 0 })
 | 6, fv, _ => fv = .int .i64 i
 | 7, fv, _ => fv = .pointer (some { block := b0, off := 4 })
 | 8, fv, _ => fv = .int .i64 r.lin
 | 9, fv, _ => fv = .pointer (some { block := b1, off := 38 })
 | 10, fv, _ => fv = .slice A n c
 | 11, fv, _ => fv = .pointer (some { block := b0, off := 40 })
 | 12, fv, _ => fv = dgV r.listed
 | 13, fv, _ => fv = .int .i64 ve
 | 14, fv, _ => fv = .int .i64 ve
 | _, _, _ => True
theorem wVfL_below {b0 : Nat} {b1 : Nat} {r : Rt} {i : Int} {x : Ln} {s : List Nat} {A : Option Addr} {n : Nat} {c : Nat} {ve : Int} {w w' : World} (hb : Below w.heap.size w w') : ∀ j v, wVfL b0 b1 r i x s A n c ve j v w → wVfL b0 b1 r i x s A n c ve j v w'
 | 0, v, h => h
 | 1, v, h => h
 | 2, v, h => h
 | 3, v, h => h
 | 4, v, h => h
 | 5, v, h => h
 | 6, v, h => h
 | 7, v, h => h
 | 8, v, h => h
 | 9, v, h => h
 | 10, v, h => h
 | 11, v, h => h
 | 12, v, h => h
 | 13, v, h => h
 | 14, v, h => h
 | n + 15, v, h => trivial
theorem verL (r : Rt) (i : Int) (x : Ln) (s : List Nat) (A : Option Addr) (n c : Nat) (ps : List Dg) (w : World) (hs : Hid (DgOk s)) (hr : Hid (RtOk r)) (hn : n ≤ 100000) (h : Hid (InD w A n c ps)) (hT : Hid (Tabs w)) :
  Calls Tryz.prog 22 #[.agg (rtC r).toArray, .agg (shCL i x s A n c).toArray] w fun e w' => e = .returned (.int .i64 (vfE (vLn x) (lfL x s) i r.lin ps r.listed)) ∧ Below w.heap.size w w' := by
 obtain ⟨ve, HVE⟩ : ∃ ve, Hid (vfE (vLn x) (lfL x s) i r.lin ps r.listed = ve) := ⟨_, hid rfl⟩
 have hb0 := ((Below.refl _ w).alloc (Nat.le_refl _) (.cells (rtC r).toArray 43)).alloc (by simp) (.cells (shCL i x s A n c).toArray 48)
 have hr0 := (Below.heap_alloc (w.alloc (.cells (rtC r).toArray 43)) (.cells (shCL i x s A n c).toArray 48) w.heap.size (by simp)).trans (heap_alloc_new w (.cells (rtC r).toArray 43))
 have hr1 := heap_alloc_new (w.alloc (.cells (rtC r).toArray 43)) (.cells (shCL i x s A n c).toArray 48)
 rw [World.size_alloc] at hr1
 have HB0 := hid hb0
 have HR0 := hid hr0
 have HR1 := hid hr1
 have HI1 := hid (h.out.below hb0)
 have hT1 := hid (hT.out.below hb0)
 have HII := hid (lnC_infoL4 x)
 have HSK := hid (dgC_infoK hs.out)
 have HRK := hid (dgC_infoK hr.out.listed)
 have HRO := hid hr.out.listed
 clear hb0 hr0 hr1
 rw [HVE.out]
 go_enter Tryz.func22, Tryz.ntmps22
 go_wp2_with fail
 generalize ((w.alloc (.cells (rtC r).toArray 43)).alloc (.cells (shCL i x s A n c).toArray 48)) = W1 at *
 refine region_flow3 (by kernel_rfl) (by kernel_rfl) (fun i => Nat.beq i 14) (fun i => i) (by kernel_rfl) (fun fx => #[.agg (rtC r).toArray, .agg (shCL i x s A n c).toArray, .pointer (some { block := w.heap.size, off := 0 }), .pointer (some { block := w.heap.size + 1, off := 0 }), fx 14, fx 0, fx 1, fx 2, fx 3, fx 4, fx 5, fx 6, fx 7, fx 8, fx 9, fx 10, fx 11, fx 12, fx 13]) (fun i => bif Nat.beq i 14 then Value.int .i64 0 else undef) (fun L fx w' => Below W1.heap.size W1 w') (fun fi fv _ fw => wVfL w.heap.size (w.heap.size + 1) r i x s A n c ve fi fv fw) (Below.refl _ _).drew ?_ ?_
 ·refine ⟨?_, ?_, ?_, ?_, ?_, ?_, ?_, ?_, ?_, ?_, ?_, ?_, ?_, ?_, ?_, trivial⟩
  all_goals intro L fx w' hC hi hcl hdn hd
  ·go_wp2_with fail
   refine (lines_any w').mono ?_
   rintro e w2 ⟨rfl, hq⟩
   go_wp2_with fail
   exact ⟨_, rfl, hC.trans (hq.mono hC.size), rfl, fun j v t _ _ h => wVfL_below hq j v h⟩
  ·go_wp2_with fail
   exact ⟨_, rfl, hC, rfl, kP⟩
  ·have h1 : fx 1 = .pointer (some { block := w.heap.size + 1, off := 1 }) := hd.1 rfl
   have hrow := shCL_x (row_kept HR1.out hC)
   refine wpList_load_mid rfl 45 (.tmp 6) rfl (w.heap.size + 1) 1 h1 (lnC x) _ hrow Tryz.underlying45 rfl HII.out ?_
   clear hd
   go_wp2_with fail
   exact ⟨_, by simp only [upd, h1]; rfl, hC, rfl, kP⟩
  ·go_wp2_with fail
   exact ⟨_, rfl, hC, rfl, kP⟩
  ·have h3 : fx 3 = .pointer (some { block := w.heap.size + 1, off := 6 }) := hd.1 rfl
   have hrow := shCL_s (row_kept HR1.out hC)
   refine wpList_load_mid rfl 25 (.tmp 8) rfl (w.heap.size + 1) 6 h3 (dgC s) _ hrow Tryz.underlying25 rfl HSK.out ?_
   clear hd
   go_wp2_with fail
   exact ⟨_, by simp only [upd, h3]; rfl, hC, rfl, kP⟩
  ·go_wp2_with fail
   exact ⟨_, rfl, hC, rfl, kP⟩
  ·have h5 : fx 5 = .pointer (some { block := w.heap.size + 1, off := 0 }) := hd.1 rfl
   have hcc : w'.cell? ⟨w.heap.size + 1, 0, none⟩ = some (.int .i64 i) := by rw [cell_of_row _ _ _ _ _ _ (row_kept HR1.out hC)]; rfl
   go_wp2_with fail
   exact ⟨_, by simp only [upd, h5]; rfl, hC, rfl, kP⟩
  ·go_wp2_with fail
   exact ⟨_, rfl, hC, rfl, kP⟩
  ·have h7 : fx 7 = .pointer (some { block := w.heap.size, off := 4 }) := hd.1 rfl
   have hcc : w'.cell? ⟨w.heap.size, 4, none⟩ = some (.int .i64 r.lin) := by rw [cell_of_row _ _ _ _ _ _ (row_kept HR0.out hC)]; rfl
   go_wp2_with fail
   exact ⟨_, by simp only [upd, h7]; rfl, hC, rfl, kP⟩
  ·go_wp2_with fail
   exact ⟨_, rfl, hC, rfl, kP⟩
  ·have h9 : fx 9 = .pointer (some { block := w.heap.size + 1, off := 38 }) := hd.1 rfl
   have hcc : w'.cell? ⟨w.heap.size + 1, 38, none⟩ = some (.slice A n c) := shCL_p hs.out (row_kept HR1.out hC)
   go_wp2_with fail
   exact ⟨_, by simp only [upd, h9]; rfl, hC, rfl, kP⟩
  ·go_wp2_with fail
   exact ⟨_, rfl, hC, rfl, kP⟩
  ·have h11 : fx 11 = .pointer (some { block := w.heap.size, off := 40 }) := hd.1 rfl
   have hrow := rt_listed hr.out (row_kept HR0.out hC)
   refine wpList_load_mid rfl 25 (.tmp 16) rfl (w.heap.size) 40 h11 (dgC r.listed) _ hrow Tryz.underlying25 rfl HRK.out ?_
   clear hd
   go_wp2_with fail
   exact ⟨_, by simp only [upd, h11]; rfl, hC, rfl, kP⟩
  ·have h0 : fx 0 = .agg tabL := hd.1 rfl
   have h2 : fx 2 = lnV x := hd.2.1 rfl
   have h4 : fx 4 = dgV s := hd.2.2.1 rfl
   have h6 : fx 6 = .int .i64 i := hd.2.2.2.1 rfl
   have h8 : fx 8 = .int .i64 r.lin := hd.2.2.2.2.1 rfl
   have h10 : fx 10 = .slice A n c := hd.2.2.2.2.2.1 rfl
   have h12 : fx 12 = dgV r.listed := hd.2.2.2.2.2.2.1 rfl
   have HIK := hid (HI1.out.below hC)
   have HTK := hid (hT1.out.below hC)
   go_wp2_with fail
   refine (verifyL x s i r.lin ps A n c r.listed w' hs HRO hn HIK HTK).mono ?_
   rintro e w2 ⟨rfl, hq⟩
   rw [HVE.out]
   go_wp2_with fail
   exact ⟨_, by simp only [upd, h0, h2, h4, h6, h8, h10, h12]; rfl, hC.trans (hq.mono hC.size), rfl, fun j v t _ _ h => wVfL_below hq j v h⟩
  ·have h13 : fx 13 = .int .i64 ve := hd.1 rfl
   go_wp2_with fail
   exact ⟨_, by simp only [upd, h13]; rfl, hC, rfl, kP⟩
 ·intro L fo w' hC hS
  have H14 := hid (hS 14 (by decide) rfl)
  have h14 : fo 14 = .int .i64 ve := H14.out
  rw [h14]
  have HBC := hid (HB0.out.trans (hC.mono HB0.out.size))
  clear hS hC h14 H14
  go_wp2_with fail
  go_ret
  exact ⟨rfl, HBC.out⟩
end Go.Proofs.YtmfmgeapecapiaaGreatDoor
