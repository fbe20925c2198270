/- sizar/sums.Verify: the join of a part that is cut. -/
import Derived.Test.YtmfmgeapecapiaaGreatDoorVS9
set_option maxHeartbeats 64000001
open Go.Lib (hid)
namespace Go.Proofs.SzTree
open SzSha
set_option linter.unusedVariables false
def vjD (a : Nd) (c1 p1 : Int) : Option VJt → Option VJt
 | none => none
 | some (b, r2, c2, p2) => if vL [a, b] then some (joinN a b, r2, c1 + c2, p1 + p2) else none
theorem vjC_none {g1 g2 : List Nd → Option VJt} {ls : List Nd} (h : g1 ls = none) : vjC g1 g2 ls = none := by unfold vjC; rw [h]
theorem vjC_some {g1 g2 : List Nd → Option VJt} {ls : List Nd} {a : Nd} {r : List Nd} {c p : Int} (h : g1 ls = some (a, r, c, p)) : vjC g1 g2 ls = vjD a c p (g2 r) := by
 unfold vjC vjD
 simp only [h]
 cases g2 r <;> rfl
theorem vj1_cons (ins : Bool) (x : Nd) (r : List Nd) : vj1 ins (x :: r) = if vN x then some (x, r, (if ins then x.c else 0), (if ins then x.p else 0)) else none := rfl
/-- bounds of what the join of a part leads to -/
def VB (f t lo hi : Nat) : Prop := ∀ ls n r c p, vj f t lo hi ls = some (n, r, c, p) → vN n = true ∧ 0 ≤ c ∧ c ≤ ((hi - lo : Nat) : Int) * 1073741824 ∧ 0 ≤ p ∧ p ≤ ((hi - lo : Nat) : Int) * 12884901888 ∧ r.length ≤ ls.length ∧ ∀ x ∈ r, x ∈ ls
theorem vL_pair43 (a b : Nd) : vL [a, b] = true ↔ (vN a = true ∧ vN b = true) ∧ a.c + b.c ≤ 1073741824 := by
 have h : sumC [a, b] = a.c + b.c := by simp [sumC]
 unfold vL
 rw [Bool.and_eq_true, decide_eq_true_eq, h]
 simp
theorem vN_join43 {a b : Nd} (h : vL [a, b] = true) : vN (joinN a b) = true := by
 have h2 := (vL_pair43 a b).1 h
 have h3 := vN_bd h2.1.1
 have h4 := vN_bd h2.1.2
 have e1 : (joinN a b).c = a.c + b.c := rfl
 have e2 : (joinN a b).p = a.p + b.p := rfl
 simp only [vN, Bool.and_eq_true, decide_eq_true_eq, e1, e2]; omega
theorem vj_bd {f t : Nat} (hft : f < t) (lo hi : Nat) (h : lo < hi) : VB f t lo hi :=
 parts_ind hft (M := VB f t) (fun lo hi hlt hc ls n r c p he => by
  rw [vj_leaf hlt hc] at he
  cases ls with
  | nil => cases he
  | cons x xs =>
   rw [vj1_cons] at he
   by_cases hv : vN x = true
   ·rw [if_pos hv] at he
    have hb := vN_bd hv
    simp only [Option.some.injEq, Prod.mk.injEq] at he
    obtain ⟨rfl, rfl, rfl, rfl⟩ := he
    refine ⟨hv, ?_, ?_, ?_, ?_, by simp, fun y hy => by simp [hy]⟩ <;> split <;> omega
   ·rw [if_neg hv] at he; cases he) (fun lo hi hlt hc h1 h2 i1 i2 ls n r c p he => by
  rw [vj_cut hlt hft hc] at he
  unfold vjC at he
  split at he
  ·cases he
  ·rename_i a r1 c1 p1 e1
   split at he
   ·cases he
   ·rename_i b r2 c2 p2 e2
    split at he
    ·rename_i hv
     simp only [Option.some.injEq, Prod.mk.injEq] at he
     obtain ⟨rfl, rfl, rfl, rfl⟩ := he
     obtain ⟨q1, q2, q3, q4, q5, q6, q7⟩ := i1 _ _ _ _ _ e1
     obtain ⟨s1, s2, s3, s4, s5, s6, s7⟩ := i2 _ _ _ _ _ e2
     refine ⟨vN_join43 hv, by omega, by omega, by omega, by omega, by omega, fun x hx => q7 x (s7 x hx)⟩
    ·cases he) (hi - lo) lo hi h (Nat.le_refl _)
end Go.Proofs.SzTree
namespace Go.Proofs.YtmfmgeapecapiaaGreatDoor
open Go.RowKit Go.Shelf SzSha SzTree
set_option linter.unusedVariables false
set_option maxRecDepth 100000
/-- the contract of the join of a part -/
def VM (f t lo hi : Nat) : Prop := ∀ (WB : World) (bw br bc bp bj : Nat), Hid (BX WB bw br bc bp bj) → Hid (Tabs WB) → ∀ (w : World) (ls : List Nd) (c p : Int), Hid (VJ WB bw br bc bp bj f t w ls c p) → ls.length ≤ 100000 → (0 ≤ c ∧ c ≤ (lo : Int) * 1073741824 ∧ 0 ≤ p ∧ p ≤ (lo : Int) * 12884901888) →
 Calls Tryz.prog 83 #[.agg #[.int .i64 (lo : Nat), .int .i64 (hi : Nat)], .pointer (some ⟨bw, 0, none⟩), .pointer (some ⟨br, 0, none⟩), .pointer (some ⟨bc, 0, none⟩), .pointer (some ⟨bp, 0, none⟩), .pointer (some ⟨bj, 0, none⟩)] w (VPost WB bw br bc bp bj f t w c p (vj f t lo hi ls))
theorem v2_leaf (f t lo hi : Nat) (hft : f < t) (hlt : lo < hi) (hhi : hi ≤ 4096) (hc : (insB f t lo hi || outB f t lo hi) = true) : VM f t lo hi := fun WB bw br bc bp bj hx hT w ls c p h hl hb => by
 rw [vj_leaf hlt hc]
 cases ls with
 | nil => exact v2_empty f t lo hi hft hlt hc WB bw br bc bp bj hx w c p h
 | cons x xs =>
  have hxl : xs.length ≤ 100000 := by simp at hl; omega
  rw [vj1_cons]
  by_cases hv : vN x = true
  ·rw [if_pos hv]
   cases hi0 : insB f t lo hi with
   | true => exact v2_in f t lo hi hft hlt hhi hc WB bw br bc bp bj hx w x xs c p h hT hxl hv hi0 (by omega)
   | false => exact v2_out f t lo hi hft hlt hhi hc WB bw br bc bp bj hx w x xs c p h hT hxl hv hi0
  ·rw [if_neg hv]
   exact v2_bad f t lo hi hft hlt hhi hc WB bw br bc bp bj hx w x xs c p h hT hxl (by simpa using hv)
theorem v2_cut_none (f t lo hi m : Nat) (hft : f < t) (hlt : lo < hi) (hhi : hi ≤ 4096) (hc : (insB f t lo hi || outB f t lo hi) = false) (HM : Hid (lo + half (hi - lo) = m)) (hm1 : lo < m) (hm2 : m < hi) (ih1 : VM f t lo m) (WB : World) (bw br bc bp bj : Nat) (hx : Hid (BX WB bw br bc bp bj)) (hT : Hid (Tabs WB)) (w : World) (ls : List Nd) (c p : Int) (h : Hid (VJ WB bw br bc bp bj f t w ls c p)) (hl : ls.length ≤ 100000) (hbd : 0 ≤ c ∧ c ≤ (lo : Int) * 1073741824 ∧ 0 ≤ p ∧ p ≤ (lo : Int) * 12884901888) (hv1 : vj f t lo m ls = none) :
  Calls Tryz.prog 83 #[.agg #[.int .i64 (lo : Nat), .int .i64 (hi : Nat)], .pointer (some ⟨bw, 0, none⟩), .pointer (some ⟨br, 0, none⟩), .pointer (some ⟨bc, 0, none⟩), .pointer (some ⟨bp, 0, none⟩), .pointer (some ⟨bj, 0, none⟩)] w (VPost WB bw br bc bp bj f t w c p none) := by
 obtain ⟨W1, HW1⟩ : ∃ V, Hid ((w.alloc (.cells #[.int .i64 (lo : Nat), .int .i64 (hi : Nat)] 119)).alloc (.cells (ndC zeroN).toArray 39) = V) := ⟨_, hid rfl⟩
 have hb := ((Below.refl _ w).alloc (Nat.le_refl _) (.cells #[.int .i64 (lo : Nat), .int .i64 (hi : Nat)] 119)).alloc (by simp) (.cells (ndC zeroN).toArray 39)
 have hr := (Below.heap_alloc (w.alloc (.cells #[.int .i64 (lo : Nat), .int .i64 (hi : Nat)] 119)) (.cells (ndC zeroN).toArray 39) w.heap.size (by simp)).trans (heap_alloc_new w (.cells #[.int .i64 (lo : Nat), .int .i64 (hi : Nat)] 119))
 have hz := heap_alloc_new (w.alloc (.cells #[.int .i64 (lo : Nat), .int .i64 (hi : Nat)] 119)) (.cells (ndC zeroN).toArray 39)
 rw [World.size_alloc] at hz
 have hs1 : W1.heap.size = w.heap.size + 2 := by rw [← HW1.out]; simp
 rw [HW1.out] at hb hr hz
 have hv := h.out.below hb
 have HV1 := hid hv
 have HK1 := hid (KJ.of_below (br := br) (bc := bc) (bp := bp) hb h.out.bel.size)
 have HR1 := hid hr
 have HZ1 := hid hz
 have HS1 := hid hs1
 have HLT := hid h.out.lt
 have cw0 := cell_of_row _ _ 0 _ _ _ hv.want
 have cw1 := cell_of_row _ _ 1 _ _ _ hv.want
 have ca0 := cell_of_row _ _ 0 _ _ _ hr
 have ca1 := cell_of_row _ _ 1 _ _ _ hr
 have cj0 := cell_of_row _ _ 0 _ _ _ hv.jn
 simp only [List.getElem?_toArray, List.getElem?_cons_zero] at cj0
 unfold jnV at cj0
 have C1 := hid (ih1 WB bw br bc bp bj hx hT W1 ls c p HV1 hl hbd)
 rw [zeroN_cells] at HW1 HZ1
 rw [hv1] at C1
 clear hb hr hz hv hs1 ih1 hbd hv1
 have hcx : (f ≤ lo ∧ ¬ hi ≤ t ∧ ¬ hi ≤ f ∧ ¬ t ≤ lo) ∨ (¬ f ≤ lo ∧ ¬ hi ≤ f ∧ ¬ t ≤ lo) := by
  unfold insB outB at hc
  simp only [Bool.or_eq_false_iff, Bool.and_eq_false_iff, decide_eq_false_iff_not] at hc
  omega
 clear hc
 have key : ∀ b : Bool, b = decide (f ≤ lo) → Calls Tryz.prog 83 #[.agg #[.int .i64 (lo : Nat), .int .i64 (hi : Nat)], .pointer (some ⟨bw, 0, none⟩), .pointer (some ⟨br, 0, none⟩), .pointer (some ⟨bc, 0, none⟩), .pointer (some ⟨bp, 0, none⟩), .pointer (some ⟨bj, 0, none⟩)] w (VPost WB bw br bc bp bj f t w c p none) := by
  intro b hbb
  have d0 := hbb.symm
  have d2 : decide (hi ≤ f) = false := dQ (by omega)
  have d3 : decide (t ≤ lo) = false := dQ (by omega)
  cases b with
  | false =>
   clear hcx hbb
   go_enter Tryz.func83, Tryz.ntmps83
   go_wp2_with (first | (rw [HW1.out]))
   refine (middle_any lo hi _ (by omega) (by omega)).mono ?_
   rintro e w' ⟨rfl, rfl⟩
   rw [HM.out]
   go_wp2_with fail
   refine C1.out.mono ?_
   rintro e W2 ⟨hk, rfl, ls', c', p', hv'⟩
   exact ⟨rfl, HK1.out.trans hk, rfl, _, _, _, hv'⟩
  | true =>
   have d1 : decide (hi ≤ t) = false := dQ (by simp at d0; omega)
   clear hcx hbb
   go_enter Tryz.func83, Tryz.ntmps83
   go_wp2_with (first | (rw [HW1.out]))
   refine (middle_any lo hi _ (by omega) (by omega)).mono ?_
   rintro e w' ⟨rfl, rfl⟩
   rw [HM.out]
   go_wp2_with fail
   refine C1.out.mono ?_
   rintro e W2 ⟨hk, rfl, ls', c', p', hv'⟩
   exact ⟨rfl, HK1.out.trans hk, rfl, _, _, _, hv'⟩
 exact key _ rfl
def s8 (q m hi M3 : Nat) (jn : Value) (a : Nd) (o2 : Option VJt) : Nat → Value → Value → World → Prop
 | 0, fv, _, _ => fv = ndV a
 | 1, fv, _, _ => fv = jn
 | 2, fv, _, _ => fv = .int .i64 (m : Nat)
 | 3, fv, _, _ => fv = .pointer (some ⟨q, 1, none⟩)
 | 4, fv, _, _ => fv = .int .i64 (hi : Nat)
 | 5, fv, _, _ => fv = .agg #[.int .i64 (m : Nat), .int .i64 (hi : Nat)]
 | 6, fv, _, _ => ∃ b r c p, o2 = some (b, r, c, p) ∧ NdOk b ∧ fv = ndV b
 | 7, fv, _, _ => ∃ b r c p, o2 = some (b, r, c, p) ∧ NdOk (joinR a b) ∧ fv = .tuple #[ndV (joinR a b), .int .i64 (joinE a b)]
 | 8, fv, _, _ => ∃ b r c p, o2 = some (b, r, c, p) ∧ NdOk (joinR a b) ∧ fv = .tuple #[ndV (joinR a b), .int .i64 (joinE a b)]
 | 9, fv, _, _ => ∃ b r c p, o2 = some (b, r, c, p) ∧ NdOk (joinR a b) ∧ fv = ndV (joinR a b)
 | 10, fv, _, _ => ∃ b r c p, o2 = some (b, r, c, p) ∧ fv = .int .i64 (joinE a b)
 | 11, fv, _, fw => ∃ k, fv = .pointer (some ⟨k, 0, none⟩) ∧ M3 ≤ k ∧ k < fw.heap.size ∧ fw.heap[k]? = some (.cells #[.int .u8 0, .int .u8 0, .int .u8 0, .int .u8 0, .int .u8 0, .int .u8 0, .int .u8 0, .int .u8 0, .int .u8 0, .int .u8 0, .int .u8 0, .int .u8 0, .int .u8 0, .int .u8 0, .int .u8 0, .int .u8 0, .int .u8 0, .int .u8 0, .int .u8 0, .int .u8 0, .int .u8 0, .int .u8 0, .int .u8 0, .int .u8 0, .int .u8 0, .int .u8 0, .int .u8 0, .int .u8 0, .int .u8 0, .int .u8 0, .int .u8 0, .int .u8 0, .int .i64 0, .int .i64 0] 39 (0, 0))
 | 12, _, fu, fw => ∃ k b r c p, fu = .pointer (some ⟨k, 0, none⟩) ∧ M3 ≤ k ∧ k < fw.heap.size ∧ o2 = some (b, r, c, p) ∧ NdOk (joinR a b) ∧ fw.heap[k]? = some (.cells (ndC (joinR a b)).toArray 39 (0, 0))
 | 13, fv, _, _ => ∃ b r c p, o2 = some (b, r, c, p) ∧ fv = .int .i64 (joinE a b)
 | _, _, _, _ => True
theorem s8_keep {q m hi M3 : Nat} {jn : Value} {a : Nd} {o2 : Option VJt} {w w' : World} (hs : w.heap.size ≤ w'.heap.size) (hk : ∀ k, M3 ≤ k → k < w.heap.size → w'.heap[k]? = w.heap[k]?) : ∀ j u t, s8 q m hi M3 jn a o2 j u t w → s8 q m hi M3 jn a o2 j u t w'
 | 0, u, t, h => h
 | 1, u, t, h => h
 | 2, u, t, h => h
 | 3, u, t, h => h
 | 4, u, t, h => h
 | 5, u, t, h => h
 | 6, u, t, h => h
 | 7, u, t, h => h
 | 8, u, t, h => h
 | 9, u, t, h => h
 | 10, u, t, h => h
 | 11, u, t, ⟨k, e, h1, h2, h3⟩ => ⟨k, e, h1, Nat.lt_of_lt_of_le h2 hs, (hk k h1 h2).trans h3⟩
 | 12, u, t, ⟨k, b, r, c, p, e, h1, h2, h4, h5, h3⟩ => ⟨k, b, r, c, p, e, h1, Nat.lt_of_lt_of_le h2 hs, h4, h5, (hk k h1 h2).trans h3⟩
 | 13, u, t, h => h
 | n + 14, u, t, h => trivial
theorem s8_keep12 {q m hi M3 : Nat} {jn : Value} {a : Nd} {o2 : Option VJt} {w w' : World} : ∀ j u t, j ≠ 11 → j ≠ 12 → s8 q m hi M3 jn a o2 j u t w → s8 q m hi M3 jn a o2 j u t w'
 | 0, u, t, _, _, h => h
 | 1, u, t, _, _, h => h
 | 2, u, t, _, _, h => h
 | 3, u, t, _, _, h => h
 | 4, u, t, _, _, h => h
 | 5, u, t, _, _, h => h
 | 6, u, t, _, _, h => h
 | 7, u, t, _, _, h => h
 | 8, u, t, _, _, h => h
 | 9, u, t, _, _, h => h
 | 10, u, t, _, _, h => h
 | 11, u, t, h, _, _ => absurd rfl h
 | 12, u, t, _, h, _ => absurd rfl h
 | 13, u, t, _, _, h => h
 | n + 14, u, t, _, _, h => trivial
/-- what holds throughout the region -/
def c8 (WB : World) (bw br bc bp bj f t : Nat) (W3 : World) (r1 : List Nd) (c p : Int) (o2 : Option VJt) (d : Bool) (w : World) : Prop :=
 KJ WB br bc bp W3 w ∧ (d = true → ∃ b r c' p', o2 = some (b, r, c', p') ∧ VJ WB bw br bc bp bj f t w r (c + c') (p + p')) ∧ (d = false → VJ WB bw br bc bp bj f t w r1 c p)
theorem c8.below {WB : World} {bw br bc bp bj f t : Nat} {W3 : World} {r1 : List Nd} {c p : Int} {o2 : Option VJt} {d : Bool} {w w' : World} (h : c8 WB bw br bc bp bj f t W3 r1 c p o2 d w) (hb : Below w.heap.size w w') (hs : WB.heap.size ≤ w.heap.size) : c8 WB bw br bc bp bj f t W3 r1 c p o2 d w' :=
 ⟨h.1.trans (KJ.of_below hb hs), fun e => let ⟨b, r, c', p', h1, h2⟩ := h.2.1 e; ⟨b, r, c', p', h1, h2.below hb⟩, fun e => (h.2.2 e).below hb⟩
theorem vpost_split {WB : World} {bw br bc bp bj f t : Nat} {w : World} {c p : Int} {o2 : Option VJt} {e : Ending} {w' : World} (h : VPost WB bw br bc bp bj f t w c p o2 e w') :
  KJ WB br bc bp w w' ∧ ((o2 = none ∧ e = .panicked (failP 430) ∧ ∃ ls c p, VJ WB bw br bc bp bj f t w' ls c p) ∨ ∃ b r dc dp, o2 = some (b, r, dc, dp) ∧ e = .returned (ndV b) ∧ VJ WB bw br bc bp bj f t w' r (c + dc) (p + dp)) := by
 cases o2 with
 | none => exact ⟨h.1, .inl ⟨rfl, h.2⟩⟩
 | some q => obtain ⟨b, r, dc, dp⟩ := q; exact ⟨h.1, .inr ⟨b, r, dc, dp, rfl, h.2⟩⟩
theorem joinR_ok43 {a b : Nd} (ha : NdOk a) (hb : NdOk b) : NdOk (joinR a b) := by
 unfold joinR
 split
 ·exact join_ok ha hb (by assumption)
 ·exact zeroN_ok
theorem c8.setRow {WB : World} {bw br bc bp bj f t k : Nat} {W3 : World} {r1 : List Nd} {c p : Int} {o2 : Option VJt} {d : Bool} {w : World} {cs : Array Value} (h : c8 WB bw br bc bp bj f t W3 r1 c p o2 d w) (hW : WB.heap.size ≤ W3.heap.size) (hk : W3.heap.size ≤ k) (hl : bw < W3.heap.size ∧ br < W3.heap.size ∧ bc < W3.heap.size ∧ bp < W3.heap.size ∧ bj < W3.heap.size) : c8 WB bw br bc bp bj f t W3 r1 c p o2 d (w.setRow k cs) :=
 ⟨h.1.setRow (by omega) hk, fun e => let ⟨b, r, c', p', h1, h2⟩ := h.2.1 e; ⟨b, r, c', p', h1, h2.setRow (by omega) (by omega) (by omega) (by omega) (by omega) (by omega)⟩, fun e => (h.2.2 e).setRow (by omega) (by omega) (by omega) (by omega) (by omega) (by omega)⟩
theorem v2_cut_some (f t lo hi m : Nat) (hft : f < t) (hlt : lo < hi) (hhi : hi ≤ 4096) (hc : (insB f t lo hi || outB f t lo hi) = false) (HM : Hid (lo + half (hi - lo) = m)) (hm1 : lo < m) (hm2 : m < hi) (ih1 : VM f t lo m) (ih2 : VM f t m hi) (WB : World) (bw br bc bp bj : Nat) (hx : Hid (BX WB bw br bc bp bj)) (hT : Hid (Tabs WB)) (w : World) (ls : List Nd) (c p : Int) (h : Hid (VJ WB bw br bc bp bj f t w ls c p)) (hl : ls.length ≤ 100000) (hbd : 0 ≤ c ∧ c ≤ (lo : Int) * 1073741824 ∧ 0 ≤ p ∧ p ≤ (lo : Int) * 12884901888) (a : Nd) (r1 : List Nd) (c1 p1 : Int) (hv1 : vj f t lo m ls = some (a, r1, c1, p1)) (HAK : Hid (NdOk a)) (o2 : Option VJt) (ho2 : vj f t m hi r1 = o2) (hok2 : ∀ b r2 c2 p2, o2 = some (b, r2, c2, p2) → NdOk b) :
  Calls Tryz.prog 83 #[.agg #[.int .i64 (lo : Nat), .int .i64 (hi : Nat)], .pointer (some ⟨bw, 0, none⟩), .pointer (some ⟨br, 0, none⟩), .pointer (some ⟨bc, 0, none⟩), .pointer (some ⟨bp, 0, none⟩), .pointer (some ⟨bj, 0, none⟩)] w (VPost WB bw br bc bp bj f t w c p (vjD a c1 p1 o2)) := by
 obtain ⟨W1, HW1⟩ : ∃ V, Hid ((w.alloc (.cells #[.int .i64 (lo : Nat), .int .i64 (hi : Nat)] 119)).alloc (.cells (ndC zeroN).toArray 39) = V) := ⟨_, hid rfl⟩
 have hb := ((Below.refl _ w).alloc (Nat.le_refl _) (.cells #[.int .i64 (lo : Nat), .int .i64 (hi : Nat)] 119)).alloc (by simp) (.cells (ndC zeroN).toArray 39)
 have hr := (Below.heap_alloc (w.alloc (.cells #[.int .i64 (lo : Nat), .int .i64 (hi : Nat)] 119)) (.cells (ndC zeroN).toArray 39) w.heap.size (by simp)).trans (heap_alloc_new w (.cells #[.int .i64 (lo : Nat), .int .i64 (hi : Nat)] 119))
 have hz := heap_alloc_new (w.alloc (.cells #[.int .i64 (lo : Nat), .int .i64 (hi : Nat)] 119)) (.cells (ndC zeroN).toArray 39)
 rw [World.size_alloc] at hz
 have hs1 : W1.heap.size = w.heap.size + 2 := by rw [← HW1.out]; simp
 rw [HW1.out] at hb hr hz
 have hv := h.out.below hb
 have HV1 := hid hv
 have HK1 := hid (KJ.of_below (br := br) (bc := bc) (bp := bp) hb h.out.bel.size)
 have HR1 := hid hr
 have HZ1 := hid hz
 have HS1 := hid hs1
 have HLT := hid h.out.lt
 have cw0 := cell_of_row _ _ 0 _ _ _ hv.want
 have cw1 := cell_of_row _ _ 1 _ _ _ hv.want
 have ca0 := cell_of_row _ _ 0 _ _ _ hr
 have ca1 := cell_of_row _ _ 1 _ _ _ hr
 have cj0 := cell_of_row _ _ 0 _ _ _ hv.jn
 simp only [List.getElem?_toArray, List.getElem?_cons_zero] at cj0
 unfold jnV at cj0
 have C1 := hid (ih1 WB bw br bc bp bj hx hT W1 ls c p HV1 hl hbd)
 rw [zeroN_cells] at HW1 HZ1
 rw [hv1] at C1
 have HBS : Hid (r1.length ≤ 100000 ∧ 0 ≤ c + c1 ∧ c + c1 ≤ (m : Int) * 1073741824 ∧ 0 ≤ p + p1 ∧ p + p1 ≤ (m : Int) * 12884901888) := hid (by obtain ⟨_, q1, q2, q3, q4, q5, _⟩ := vj_bd hft lo m hm1 ls a r1 c1 p1 hv1; omega)
 have C2 : Hid (∀ w', VJ WB bw br bc bp bj f t w' r1 (c + c1) (p + p1) → Calls Tryz.prog 83 #[.agg #[.int .i64 (m : Nat), .int .i64 (hi : Nat)], .pointer (some ⟨bw, 0, none⟩), .pointer (some ⟨br, 0, none⟩), .pointer (some ⟨bc, 0, none⟩), .pointer (some ⟨bp, 0, none⟩), .pointer (some ⟨bj, 0, none⟩)] w' (VPost WB bw br bc bp bj f t w' (c + c1) (p + p1) o2)) := hid (fun w' hv' => by rw [← ho2]; exact ih2 WB bw br bc bp bj hx hT w' r1 (c + c1) (p + p1) (hid hv') HBS.out.1 HBS.out.2)
 have HOK2 : Hid (∀ b r2 c2 p2, o2 = some (b, r2, c2, p2) → NdOk b) := hid (fun b r2 c2 p2 e => hok2 b r2 c2 p2 e)
 clear ih2 ho2 hok2
 clear hb hr hz hv hs1 ih1 hbd hv1
 have hcx : (f ≤ lo ∧ ¬ hi ≤ t ∧ ¬ hi ≤ f ∧ ¬ t ≤ lo) ∨ (¬ f ≤ lo ∧ ¬ hi ≤ f ∧ ¬ t ≤ lo) := by
  unfold insB outB at hc
  simp only [Bool.or_eq_false_iff, Bool.and_eq_false_iff, decide_eq_false_iff_not] at hc
  omega
 clear hc
 have key : ∀ b : Bool, b = decide (f ≤ lo) → Calls Tryz.prog 83 #[.agg #[.int .i64 (lo : Nat), .int .i64 (hi : Nat)], .pointer (some ⟨bw, 0, none⟩), .pointer (some ⟨br, 0, none⟩), .pointer (some ⟨bc, 0, none⟩), .pointer (some ⟨bp, 0, none⟩), .pointer (some ⟨bj, 0, none⟩)] w (VPost WB bw br bc bp bj f t w c p (vjD a c1 p1 o2)) := by
  intro b hbb
  have d0 := hbb.symm
  have d2 : decide (hi ≤ f) = false := dQ (by omega)
  have d3 : decide (t ≤ lo) = false := dQ (by omega)
  cases b with
  | false =>
   clear hcx hbb
   go_enter Tryz.func83, Tryz.ntmps83
   go_wp2_with (first | (rw [HW1.out]))
   refine (middle_any lo hi _ (by omega) (by omega)).mono ?_
   rintro e w' ⟨rfl, rfl⟩
   rw [HM.out]
   go_wp2_with fail
   refine C1.out.mono ?_
   rintro e W2 ⟨hk, rfl, hv2⟩
   have HV2 := hid hv2
   have HK2 := hid (HK1.out.trans hk)
   have hlt1 := HV1.out.lt
   have hlt0 := HLT.out
   have hsz := HS1.out
   have hr2 := hk.row HR1.out (by omega) (by omega) (by omega)
   have hz2 := hk.row HZ1.out (by omega) (by omega) (by omega)
   have hj2 := hv2.jn
   obtain ⟨W3, HW3⟩ : ∃ V, Hid ((W2.alloc (.cells (ndC zeroN).toArray 39)).setRow W2.heap.size (ndC a).toArray = V) := ⟨_, hid rfl⟩
   have HRZ3 := hid (heap_alloc_new W2 (.cells (ndC zeroN).toArray 39))
   have hl3 := laid_row W2 (ndC zeroN).toArray (ndC a).toArray 39
   rw [HW3.out] at hl3
   have HV3 := hid (hv2.below hl3.1)
   have HK3 := hid (HK2.out.trans (KJ.of_below (br := br) (bc := bc) (bp := bp) hl3.1 hv2.bel.size))
   have HR3 := hid (row_kept hr2 hl3.1)
   have HZ3 := hid (row_kept hz2 hl3.1)
   have HA3 := hid hl3.2.2
   have HS3 : Hid (w.heap.size + 2 ≤ W2.heap.size ∧ W3.heap.size = W2.heap.size + 1) := hid ⟨by have := hk.bel.size; omega, hl3.2.1⟩
   have HSA : Hid ((Tryz.prog.info? 39).map (·.size) = some (ndC a).toArray.size) := hid (by rw [size34 HAK.out]; simp)
   have HSA2 : Hid (34 = (ndC a).toArray.size) := hid (by simp [ndC_length HAK.out])
   rw [zeroN_cells] at HRZ3 HW3
   have cx0 := cell_of_row _ _ 0 _ _ _ hr2
   clear hk hv2 hlt1 hlt0 hsz hr2 hz2 hj2 hl3
   go_wp2_with (first | (refine wpList_store_row rfl 39 (.tmp 13) (.tmp 81) rfl W2.heap.size (ndC a).toArray rfl rfl 39 _ HRZ3.out HSA.out HSA2.out (ndC_one a) ?_; rw [HW3.out]))
   have NWr : w.heap.size ≠ br := by have := HLT.out; omega
   have NWc : w.heap.size ≠ bc := by have := HLT.out; omega
   have NWp : w.heap.size ≠ bp := by have := HLT.out; omega
   have NZr : w.heap.size + 1 ≠ br := by have := HLT.out; omega
   have NZc : w.heap.size + 1 ≠ bc := by have := HLT.out; omega
   have NZp : w.heap.size + 1 ≠ bp := by have := HLT.out; omega
   have HL3 := HV3.out.lt
   have HWW := HV3.out.bel.size
   have NEr : W2.heap.size ≠ br := by have := HV2.out.lt; omega
   have NEc : W2.heap.size ≠ bc := by have := HV2.out.lt; omega
   have NEp : W2.heap.size ≠ bp := by have := HV2.out.lt; omega
   have HC0 : Hid (c8 WB bw br bc bp bj f t W3 r1 (c + c1) (p + p1) o2 false W3.drew) := hid ((show c8 WB bw br bc bp bj f t W3 r1 (c + c1) (p + p1) o2 false W3 from ⟨KJ.of_below (Below.refl _ _) HV3.out.bel.size, (fun e => by cases e), (fun _ => HV3.out)⟩).below (Below.refl _ _).drew HV3.out.bel.size)
   dsimp only [Act.put]
   refine region_flow5 (by kernel_rfl) (by kernel_rfl) (fun i => Nat.beq i 12 || Nat.beq i 13) (fun i => bif Nat.beq i 12 then 11 else i) (by kernel_rfl) (fun fx => #[.agg #[.int IntKind.i64 (lo : Nat), .int IntKind.i64 (hi : Nat)], .pointer (some { block := bw, off := 0 }), .pointer (some { block := br, off := 0 }), .pointer (some { block := bc, off := 0 }), .pointer (some { block := bp, off := 0 }), .pointer (some { block := bj, off := 0 }), .pointer (some { block := w.heap.size, off := 0 }), .pointer (some { block := w.heap.size + 1, off := 0 }), .bool false, undef, undef, undef, .int IntKind.i64 (m : Nat), .pointer (some { block := W2.heap.size, off := 0 }), fx 11, fx 13, .pointer (some { block := bw, off := 0 }), .int IntKind.i64 (f : Nat), .pointer (some { block := w.heap.size, off := 0 }), .int IntKind.i64 (lo : Nat), .bool false, .bool false, undef, undef, undef, undef, undef, .bool false, .bool false, .bool false, .pointer (some { block := w.heap.size, off := 1 }), .int IntKind.i64 (hi : Nat), .pointer (some { block := bw, off := 0 }), .int IntKind.i64 (f : Nat), .bool false, .bool false, .bool false, .pointer (some { block := bw, off := 1 }), .int IntKind.i64 (t : Nat), .pointer (some { block := w.heap.size, off := 0 }), .int IntKind.i64 (lo : Nat), .bool false, .bool false, undef, undef, undef, undef, undef, undef, undef, undef, undef, undef, undef, undef, undef, undef, undef, undef, undef, undef, undef, undef, undef, undef, undef, undef, undef, undef, undef, undef, .pointer (some { block := w.heap.size, off := 0 }), .int IntKind.i64 (lo : Nat), .pointer (some { block := w.heap.size, off := 1 }), .int IntKind.i64 (hi : Nat), .int IntKind.i64 (m : Nat), .func (Fn.func 83) #[] #[.pointer (some { block := bw, off := 0 }), .pointer (some { block := br, off := 0 }), .pointer (some { block := bc, off := 0 }), .pointer (some { block := bp, off := 0 }), .pointer (some { block := bj, off := 0 })], .pointer (some { block := w.heap.size, off := 0 }), .int IntKind.i64 (lo : Nat), .int IntKind.i64 (m : Nat), .agg #[.int IntKind.i64 (lo : Nat), .int IntKind.i64 (m : Nat)], ndV a, fx 8, fx 0, fx 1, fx 2, fx 3, fx 4, fx 5, fx 6, fx 7, fx 9, fx 10, undef, undef, undef, undef]) (fun _ => undef) (fun L _ w' => c8 WB bw br bc bp bj f t W3 r1 (c + c1) (p + p1) o2 (L 6) w') (fun fi fv fu fw => s8 w.heap.size m hi W3.heap.size (jnV bw br bc bp bj) a o2 fi fv fu fw) (fun ch w' => ch = failP 430 ∧ o2 = none ∧ KJ WB br bc bp W3 w' ∧ ∃ ls c p, VJ WB bw br bc bp bj f t w' ls c p) HC0.out ?_ ?_ ?_
   ·refine ⟨?_, ?_, ?_, ?_, ?_, ?_, ?_, ?_, ?_, ?_, ?_, ?_, ?_, ?_, trivial⟩
    all_goals intro L fx w' hC hiL hcl hdn hd
    ·have hA := hC.1.row HA3.out NEr NEc NEp
     go_wp2_with (refine wpList_load_row rfl 39 (.tmp 13) rfl W2.heap.size rfl 39 _ (0, 0) _ hA Tryz.underlying39 rfl HSA.out ?_)
     exact ⟨_, rfl, hC, rfl, kP⟩
    ·have hj : w'.heap[bj]? = some (.cells #[jnV bw br bc bp bj] 132 (0, 0)) := by
      cases h6 : L 6 with
      | false => exact (hC.2.2 h6).jn
      | true => obtain ⟨_, _, _, _, _, hv⟩ := hC.2.1 h6; exact hv.jn
     have cj := cell_of_row _ _ 0 _ _ _ hj
     simp only [List.getElem?_toArray, List.getElem?_cons_zero] at cj
     go_wp2_with fail
     exact ⟨_, rfl, hC, rfl, kP⟩
    ·go_wp2_with fail
     exact ⟨_, rfl, hC, rfl, kP⟩
    ·go_wp2_with fail
     exact ⟨_, rfl, hC, rfl, kP⟩
    ·have h3 : fx 3 = .pointer (some ⟨w.heap.size, 1, none⟩) := hd.1 rfl
     have hr := hC.1.row HR3.out NWr NWc NWp
     have c1' := cell_of_row _ _ 1 _ _ _ hr
     go_wp2_with fail
     exact ⟨_, (by first | rfl | (show _ = Act.mk #[Value.agg #[Value.int IntKind.i64 (lo : Nat), Value.int IntKind.i64 (hi : Nat)], Value.pointer (some { block := bw, off := 0 }), Value.pointer (some { block := br, off := 0 }), Value.pointer (some { block := bc, off := 0 }), Value.pointer (some { block := bp, off := 0 }), Value.pointer (some { block := bj, off := 0 }), Value.pointer (some { block := w.heap.size, off := 0 }), Value.pointer (some { block := w.heap.size + 1, off := 0 }), Value.bool false, undef, undef, undef, Value.int IntKind.i64 (m : Nat), Value.pointer (some { block := W2.heap.size, off := 0 }), fx 11, fx 13, Value.pointer (some { block := bw, off := 0 }), Value.int IntKind.i64 (f : Nat), Value.pointer (some { block := w.heap.size, off := 0 }), Value.int IntKind.i64 (lo : Nat), Value.bool false, Value.bool false, undef, undef, undef, undef, undef, Value.bool false, Value.bool false, Value.bool false, Value.pointer (some { block := w.heap.size, off := 1 }), Value.int IntKind.i64 (hi : Nat), Value.pointer (some { block := bw, off := 0 }), Value.int IntKind.i64 (f : Nat), Value.bool false, Value.bool false, Value.bool false, Value.pointer (some { block := bw, off := 1 }), Value.int IntKind.i64 (t : Nat), Value.pointer (some { block := w.heap.size, off := 0 }), Value.int IntKind.i64 (lo : Nat), Value.bool false, Value.bool false, undef, undef, undef, undef, undef, undef, undef, undef, undef, undef, undef, undef, undef, undef, undef, undef, undef, undef, undef, undef, undef, undef, undef, undef, undef, undef, undef, undef, Value.pointer (some { block := w.heap.size, off := 0 }), Value.int IntKind.i64 (lo : Nat), Value.pointer (some { block := w.heap.size, off := 1 }), Value.int IntKind.i64 (hi : Nat), Value.int IntKind.i64 (m : Nat), Value.func (Fn.func 83) #[] #[Value.pointer (some { block := bw, off := 0 }), Value.pointer (some { block := br, off := 0 }), Value.pointer (some { block := bc, off := 0 }), Value.pointer (some { block := bp, off := 0 }), Value.pointer (some { block := bj, off := 0 })], Value.pointer (some { block := w.heap.size, off := 0 }), Value.int IntKind.i64 (lo : Nat), Value.int IntKind.i64 (m : Nat), Value.agg #[Value.int IntKind.i64 (lo : Nat), Value.int IntKind.i64 (m : Nat)], ndV a, fx 8, fx 0, fx 1, fx 2, fx 3, Value.int .i64 (hi : Nat), fx 5, fx 6, fx 7, fx 9, fx 10, undef, undef, undef, undef] []; rw [h3])), hC, rfl, kP⟩
    ·have h2 : fx 2 = .int .i64 (m : Nat) := hd.1 rfl
     have h4 : fx 4 = .int .i64 (hi : Nat) := hd.2.1 rfl
     go_wp2_with fail
     exact ⟨_, (by first | rfl | (show _ = Act.mk #[Value.agg #[Value.int IntKind.i64 (lo : Nat), Value.int IntKind.i64 (hi : Nat)], Value.pointer (some { block := bw, off := 0 }), Value.pointer (some { block := br, off := 0 }), Value.pointer (some { block := bc, off := 0 }), Value.pointer (some { block := bp, off := 0 }), Value.pointer (some { block := bj, off := 0 }), Value.pointer (some { block := w.heap.size, off := 0 }), Value.pointer (some { block := w.heap.size + 1, off := 0 }), Value.bool false, undef, undef, undef, Value.int IntKind.i64 (m : Nat), Value.pointer (some { block := W2.heap.size, off := 0 }), fx 11, fx 13, Value.pointer (some { block := bw, off := 0 }), Value.int IntKind.i64 (f : Nat), Value.pointer (some { block := w.heap.size, off := 0 }), Value.int IntKind.i64 (lo : Nat), Value.bool false, Value.bool false, undef, undef, undef, undef, undef, Value.bool false, Value.bool false, Value.bool false, Value.pointer (some { block := w.heap.size, off := 1 }), Value.int IntKind.i64 (hi : Nat), Value.pointer (some { block := bw, off := 0 }), Value.int IntKind.i64 (f : Nat), Value.bool false, Value.bool false, Value.bool false, Value.pointer (some { block := bw, off := 1 }), Value.int IntKind.i64 (t : Nat), Value.pointer (some { block := w.heap.size, off := 0 }), Value.int IntKind.i64 (lo : Nat), Value.bool false, Value.bool false, undef, undef, undef, undef, undef, undef, undef, undef, undef, undef, undef, undef, undef, undef, undef, undef, undef, undef, undef, undef, undef, undef, undef, undef, undef, undef, undef, undef, Value.pointer (some { block := w.heap.size, off := 0 }), Value.int IntKind.i64 (lo : Nat), Value.pointer (some { block := w.heap.size, off := 1 }), Value.int IntKind.i64 (hi : Nat), Value.int IntKind.i64 (m : Nat), Value.func (Fn.func 83) #[] #[Value.pointer (some { block := bw, off := 0 }), Value.pointer (some { block := br, off := 0 }), Value.pointer (some { block := bc, off := 0 }), Value.pointer (some { block := bp, off := 0 }), Value.pointer (some { block := bj, off := 0 })], Value.pointer (some { block := w.heap.size, off := 0 }), Value.int IntKind.i64 (lo : Nat), Value.int IntKind.i64 (m : Nat), Value.agg #[Value.int IntKind.i64 (lo : Nat), Value.int IntKind.i64 (m : Nat)], ndV a, fx 8, fx 0, fx 1, fx 2, fx 3, fx 4, Value.agg #[.int .i64 (m : Nat), .int .i64 (hi : Nat)], fx 6, fx 7, fx 9, fx 10, undef, undef, undef, undef] []; rw [h2, h4])), hC, rfl, kP⟩
    ·have h1 : fx 1 = jnV bw br bc bp bj := hd.1 rfl
     have h5 : fx 5 = .agg #[.int .i64 (m : Nat), .int .i64 (hi : Nat)] := hd.2.1 rfl
     unfold jnV at h1
     go_wp2_with fail
     refine (C2.out w' (hC.2.2 hiL)).mono ?_
     intro e w2 hq
     obtain ⟨hk, ⟨e2, rfl, hv⟩ | ⟨b, r2, c2, p2, e2, rfl, hv⟩⟩ := vpost_split hq
     ·exact ⟨rfl, rfl, e2, hC.1.trans hk, hv⟩
     ·have h1' : fx 1 = jnV bw br bc bp bj := h1
      go_wp2_with fail
      exact ⟨_, (by first | rfl | (show _ = Act.mk #[Value.agg #[Value.int IntKind.i64 (lo : Nat), Value.int IntKind.i64 (hi : Nat)], Value.pointer (some { block := bw, off := 0 }), Value.pointer (some { block := br, off := 0 }), Value.pointer (some { block := bc, off := 0 }), Value.pointer (some { block := bp, off := 0 }), Value.pointer (some { block := bj, off := 0 }), Value.pointer (some { block := w.heap.size, off := 0 }), Value.pointer (some { block := w.heap.size + 1, off := 0 }), Value.bool false, undef, undef, undef, Value.int IntKind.i64 (m : Nat), Value.pointer (some { block := W2.heap.size, off := 0 }), fx 11, fx 13, Value.pointer (some { block := bw, off := 0 }), Value.int IntKind.i64 (f : Nat), Value.pointer (some { block := w.heap.size, off := 0 }), Value.int IntKind.i64 (lo : Nat), Value.bool false, Value.bool false, undef, undef, undef, undef, undef, Value.bool false, Value.bool false, Value.bool false, Value.pointer (some { block := w.heap.size, off := 1 }), Value.int IntKind.i64 (hi : Nat), Value.pointer (some { block := bw, off := 0 }), Value.int IntKind.i64 (f : Nat), Value.bool false, Value.bool false, Value.bool false, Value.pointer (some { block := bw, off := 1 }), Value.int IntKind.i64 (t : Nat), Value.pointer (some { block := w.heap.size, off := 0 }), Value.int IntKind.i64 (lo : Nat), Value.bool false, Value.bool false, undef, undef, undef, undef, undef, undef, undef, undef, undef, undef, undef, undef, undef, undef, undef, undef, undef, undef, undef, undef, undef, undef, undef, undef, undef, undef, undef, undef, Value.pointer (some { block := w.heap.size, off := 0 }), Value.int IntKind.i64 (lo : Nat), Value.pointer (some { block := w.heap.size, off := 1 }), Value.int IntKind.i64 (hi : Nat), Value.int IntKind.i64 (m : Nat), Value.func (Fn.func 83) #[] #[Value.pointer (some { block := bw, off := 0 }), Value.pointer (some { block := br, off := 0 }), Value.pointer (some { block := bc, off := 0 }), Value.pointer (some { block := bp, off := 0 }), Value.pointer (some { block := bj, off := 0 })], Value.pointer (some { block := w.heap.size, off := 0 }), Value.int IntKind.i64 (lo : Nat), Value.int IntKind.i64 (m : Nat), Value.agg #[Value.int IntKind.i64 (lo : Nat), Value.int IntKind.i64 (m : Nat)], ndV a, fx 8, fx 0, fx 1, fx 2, fx 3, fx 4, fx 5, ndV b, fx 7, fx 9, fx 10, undef, undef, undef, undef] []; rw [h1, h5])), ⟨hC.1.trans hk, (fun _ => ⟨b, r2, c2, p2, e2, hv⟩), (fun e => by rw [updB_same] at e; cases e)⟩, ⟨b, r2, c2, p2, e2, HOK2.out _ _ _ _ e2, rfl⟩, fun j u t _ _ h => s8_keep hk.bel.size (fun k h1 h2 => hk.old k h2 (by omega) (by omega) (by omega)) j u t h⟩
    ·have h0 : fx 0 = ndV a := hd.1 rfl
     have H6 := hid (hd.2.1 rfl)
     obtain ⟨b, r2, c2, p2, e2, hbk, h6⟩ := H6.out
     obtain ⟨_, _, _, _, _, hvv⟩ := hC.2.1 (hdn 6 (by kernel_rfl))
     go_wp2_with fail
     refine (join_any a b w' HAK.out hbk (hid (hT.out.below hvv.bel))).mono ?_
     rintro e w2 ⟨rfl, hq⟩
     go_wp2_with fail
     exact ⟨_, (by first | rfl | (show _ = Act.mk #[Value.agg #[Value.int IntKind.i64 (lo : Nat), Value.int IntKind.i64 (hi : Nat)], Value.pointer (some { block := bw, off := 0 }), Value.pointer (some { block := br, off := 0 }), Value.pointer (some { block := bc, off := 0 }), Value.pointer (some { block := bp, off := 0 }), Value.pointer (some { block := bj, off := 0 }), Value.pointer (some { block := w.heap.size, off := 0 }), Value.pointer (some { block := w.heap.size + 1, off := 0 }), Value.bool false, undef, undef, undef, Value.int IntKind.i64 (m : Nat), Value.pointer (some { block := W2.heap.size, off := 0 }), fx 11, fx 13, Value.pointer (some { block := bw, off := 0 }), Value.int IntKind.i64 (f : Nat), Value.pointer (some { block := w.heap.size, off := 0 }), Value.int IntKind.i64 (lo : Nat), Value.bool false, Value.bool false, undef, undef, undef, undef, undef, Value.bool false, Value.bool false, Value.bool false, Value.pointer (some { block := w.heap.size, off := 1 }), Value.int IntKind.i64 (hi : Nat), Value.pointer (some { block := bw, off := 0 }), Value.int IntKind.i64 (f : Nat), Value.bool false, Value.bool false, Value.bool false, Value.pointer (some { block := bw, off := 1 }), Value.int IntKind.i64 (t : Nat), Value.pointer (some { block := w.heap.size, off := 0 }), Value.int IntKind.i64 (lo : Nat), Value.bool false, Value.bool false, undef, undef, undef, undef, undef, undef, undef, undef, undef, undef, undef, undef, undef, undef, undef, undef, undef, undef, undef, undef, undef, undef, undef, undef, undef, undef, undef, undef, Value.pointer (some { block := w.heap.size, off := 0 }), Value.int IntKind.i64 (lo : Nat), Value.pointer (some { block := w.heap.size, off := 1 }), Value.int IntKind.i64 (hi : Nat), Value.int IntKind.i64 (m : Nat), Value.func (Fn.func 83) #[] #[Value.pointer (some { block := bw, off := 0 }), Value.pointer (some { block := br, off := 0 }), Value.pointer (some { block := bc, off := 0 }), Value.pointer (some { block := bp, off := 0 }), Value.pointer (some { block := bj, off := 0 })], Value.pointer (some { block := w.heap.size, off := 0 }), Value.int IntKind.i64 (lo : Nat), Value.int IntKind.i64 (m : Nat), Value.agg #[Value.int IntKind.i64 (lo : Nat), Value.int IntKind.i64 (m : Nat)], ndV a, fx 8, fx 0, fx 1, fx 2, fx 3, fx 4, fx 5, fx 6, Value.tuple #[ndV (joinR a b), .int .i64 (joinE a b)], fx 9, fx 10, undef, undef, undef, undef] []; rw [h0, h6])), hC.below hq hvv.bel.size, ⟨b, r2, c2, p2, e2, joinR_ok43 HAK.out hbk, rfl⟩, fun j u t _ _ h => s8_keep hq.size (fun k _ h2 => hq.block k h2) j u t h⟩
    ·have H7 := hid (hd.1 rfl)
     obtain ⟨b, r2, c2, p2, e2, hok, h7⟩ := H7.out
     replace e2 := hid e2
     go_wp2_with fail
     exact ⟨_, (by first | rfl | (show _ = Act.mk #[Value.agg #[Value.int IntKind.i64 (lo : Nat), Value.int IntKind.i64 (hi : Nat)], Value.pointer (some { block := bw, off := 0 }), Value.pointer (some { block := br, off := 0 }), Value.pointer (some { block := bc, off := 0 }), Value.pointer (some { block := bp, off := 0 }), Value.pointer (some { block := bj, off := 0 }), Value.pointer (some { block := w.heap.size, off := 0 }), Value.pointer (some { block := w.heap.size + 1, off := 0 }), Value.bool false, undef, undef, undef, Value.int IntKind.i64 (m : Nat), Value.pointer (some { block := W2.heap.size, off := 0 }), fx 11, fx 13, Value.pointer (some { block := bw, off := 0 }), Value.int IntKind.i64 (f : Nat), Value.pointer (some { block := w.heap.size, off := 0 }), Value.int IntKind.i64 (lo : Nat), Value.bool false, Value.bool false, undef, undef, undef, undef, undef, Value.bool false, Value.bool false, Value.bool false, Value.pointer (some { block := w.heap.size, off := 1 }), Value.int IntKind.i64 (hi : Nat), Value.pointer (some { block := bw, off := 0 }), Value.int IntKind.i64 (f : Nat), Value.bool false, Value.bool false, Value.bool false, Value.pointer (some { block := bw, off := 1 }), Value.int IntKind.i64 (t : Nat), Value.pointer (some { block := w.heap.size, off := 0 }), Value.int IntKind.i64 (lo : Nat), Value.bool false, Value.bool false, undef, undef, undef, undef, undef, undef, undef, undef, undef, undef, undef, undef, undef, undef, undef, undef, undef, undef, undef, undef, undef, undef, undef, undef, undef, undef, undef, undef, Value.pointer (some { block := w.heap.size, off := 0 }), Value.int IntKind.i64 (lo : Nat), Value.pointer (some { block := w.heap.size, off := 1 }), Value.int IntKind.i64 (hi : Nat), Value.int IntKind.i64 (m : Nat), Value.func (Fn.func 83) #[] #[Value.pointer (some { block := bw, off := 0 }), Value.pointer (some { block := br, off := 0 }), Value.pointer (some { block := bc, off := 0 }), Value.pointer (some { block := bp, off := 0 }), Value.pointer (some { block := bj, off := 0 })], Value.pointer (some { block := w.heap.size, off := 0 }), Value.int IntKind.i64 (lo : Nat), Value.int IntKind.i64 (m : Nat), Value.agg #[Value.int IntKind.i64 (lo : Nat), Value.int IntKind.i64 (m : Nat)], ndV a, Value.tuple #[ndV (joinR a b), .int .i64 (joinE a b)], fx 0, fx 1, fx 2, fx 3, fx 4, fx 5, fx 6, fx 7, fx 9, fx 10, undef, undef, undef, undef] []; rw [h7])), hC, (by first | exact ⟨b, r2, c2, p2, e2.out, hok, rfl⟩ | exact ⟨b, r2, c2, p2, e2.out, hok, h7⟩), kP⟩
    ·have H8 := hid (hd.1 rfl)
     obtain ⟨b, r2, c2, p2, e2, hok, h8⟩ := H8.out
     replace e2 := hid e2
     go_wp2_with fail
     exact ⟨_, (by first | rfl | (show _ = Act.mk #[Value.agg #[Value.int IntKind.i64 (lo : Nat), Value.int IntKind.i64 (hi : Nat)], Value.pointer (some { block := bw, off := 0 }), Value.pointer (some { block := br, off := 0 }), Value.pointer (some { block := bc, off := 0 }), Value.pointer (some { block := bp, off := 0 }), Value.pointer (some { block := bj, off := 0 }), Value.pointer (some { block := w.heap.size, off := 0 }), Value.pointer (some { block := w.heap.size + 1, off := 0 }), Value.bool false, undef, undef, undef, Value.int IntKind.i64 (m : Nat), Value.pointer (some { block := W2.heap.size, off := 0 }), fx 11, fx 13, Value.pointer (some { block := bw, off := 0 }), Value.int IntKind.i64 (f : Nat), Value.pointer (some { block := w.heap.size, off := 0 }), Value.int IntKind.i64 (lo : Nat), Value.bool false, Value.bool false, undef, undef, undef, undef, undef, Value.bool false, Value.bool false, Value.bool false, Value.pointer (some { block := w.heap.size, off := 1 }), Value.int IntKind.i64 (hi : Nat), Value.pointer (some { block := bw, off := 0 }), Value.int IntKind.i64 (f : Nat), Value.bool false, Value.bool false, Value.bool false, Value.pointer (some { block := bw, off := 1 }), Value.int IntKind.i64 (t : Nat), Value.pointer (some { block := w.heap.size, off := 0 }), Value.int IntKind.i64 (lo : Nat), Value.bool false, Value.bool false, undef, undef, undef, undef, undef, undef, undef, undef, undef, undef, undef, undef, undef, undef, undef, undef, undef, undef, undef, undef, undef, undef, undef, undef, undef, undef, undef, undef, Value.pointer (some { block := w.heap.size, off := 0 }), Value.int IntKind.i64 (lo : Nat), Value.pointer (some { block := w.heap.size, off := 1 }), Value.int IntKind.i64 (hi : Nat), Value.int IntKind.i64 (m : Nat), Value.func (Fn.func 83) #[] #[Value.pointer (some { block := bw, off := 0 }), Value.pointer (some { block := br, off := 0 }), Value.pointer (some { block := bc, off := 0 }), Value.pointer (some { block := bp, off := 0 }), Value.pointer (some { block := bj, off := 0 })], Value.pointer (some { block := w.heap.size, off := 0 }), Value.int IntKind.i64 (lo : Nat), Value.int IntKind.i64 (m : Nat), Value.agg #[Value.int IntKind.i64 (lo : Nat), Value.int IntKind.i64 (m : Nat)], ndV a, fx 8, fx 0, fx 1, fx 2, fx 3, fx 4, fx 5, fx 6, fx 7, ndV (joinR a b), fx 10, undef, undef, undef, undef] []; rw [h8])), hC, ⟨b, r2, c2, p2, e2.out, hok, rfl⟩, kP⟩
    ·have H8 := hid (hd.1 rfl)
     obtain ⟨b, r2, c2, p2, e2, hok, h8⟩ := H8.out
     replace e2 := hid e2
     go_wp2_with fail
     exact ⟨_, (by first | rfl | (show _ = Act.mk #[Value.agg #[Value.int IntKind.i64 (lo : Nat), Value.int IntKind.i64 (hi : Nat)], Value.pointer (some { block := bw, off := 0 }), Value.pointer (some { block := br, off := 0 }), Value.pointer (some { block := bc, off := 0 }), Value.pointer (some { block := bp, off := 0 }), Value.pointer (some { block := bj, off := 0 }), Value.pointer (some { block := w.heap.size, off := 0 }), Value.pointer (some { block := w.heap.size + 1, off := 0 }), Value.bool false, undef, undef, undef, Value.int IntKind.i64 (m : Nat), Value.pointer (some { block := W2.heap.size, off := 0 }), fx 11, fx 13, Value.pointer (some { block := bw, off := 0 }), Value.int IntKind.i64 (f : Nat), Value.pointer (some { block := w.heap.size, off := 0 }), Value.int IntKind.i64 (lo : Nat), Value.bool false, Value.bool false, undef, undef, undef, undef, undef, Value.bool false, Value.bool false, Value.bool false, Value.pointer (some { block := w.heap.size, off := 1 }), Value.int IntKind.i64 (hi : Nat), Value.pointer (some { block := bw, off := 0 }), Value.int IntKind.i64 (f : Nat), Value.bool false, Value.bool false, Value.bool false, Value.pointer (some { block := bw, off := 1 }), Value.int IntKind.i64 (t : Nat), Value.pointer (some { block := w.heap.size, off := 0 }), Value.int IntKind.i64 (lo : Nat), Value.bool false, Value.bool false, undef, undef, undef, undef, undef, undef, undef, undef, undef, undef, undef, undef, undef, undef, undef, undef, undef, undef, undef, undef, undef, undef, undef, undef, undef, undef, undef, undef, Value.pointer (some { block := w.heap.size, off := 0 }), Value.int IntKind.i64 (lo : Nat), Value.pointer (some { block := w.heap.size, off := 1 }), Value.int IntKind.i64 (hi : Nat), Value.int IntKind.i64 (m : Nat), Value.func (Fn.func 83) #[] #[Value.pointer (some { block := bw, off := 0 }), Value.pointer (some { block := br, off := 0 }), Value.pointer (some { block := bc, off := 0 }), Value.pointer (some { block := bp, off := 0 }), Value.pointer (some { block := bj, off := 0 })], Value.pointer (some { block := w.heap.size, off := 0 }), Value.int IntKind.i64 (lo : Nat), Value.int IntKind.i64 (m : Nat), Value.agg #[Value.int IntKind.i64 (lo : Nat), Value.int IntKind.i64 (m : Nat)], ndV a, fx 8, fx 0, fx 1, fx 2, fx 3, fx 4, fx 5, fx 6, fx 7, fx 9, Value.int .i64 (joinE a b), undef, undef, undef, undef] []; rw [h8])), hC, ⟨b, r2, c2, p2, e2.out, rfl⟩, kP⟩
    ·have hbb : Below w'.heap.size w' (w'.alloc (.cells #[.int .u8 0, .int .u8 0, .int .u8 0, .int .u8 0, .int .u8 0, .int .u8 0, .int .u8 0, .int .u8 0, .int .u8 0, .int .u8 0, .int .u8 0, .int .u8 0, .int .u8 0, .int .u8 0, .int .u8 0, .int .u8 0, .int .u8 0, .int .u8 0, .int .u8 0, .int .u8 0, .int .u8 0, .int .u8 0, .int .u8 0, .int .u8 0, .int .u8 0, .int .u8 0, .int .u8 0, .int .u8 0, .int .u8 0, .int .u8 0, .int .u8 0, .int .u8 0, .int .i64 0, .int .i64 0] 39)) := (Below.refl _ _).alloc (Nat.le_refl _) _
     have hws := hC.1.bel.size
     go_wp2_with fail
     exact ⟨_, rfl, hC.below hbb (by omega), ⟨w'.heap.size, rfl, hws, by simp, heap_alloc_new _ _⟩, fun j u t _ _ h => s8_keep hbb.size (fun k _ h2 => hbb.block k h2) j u t h⟩
    ·have H11 := hid (hd.1 rfl)
     have H9 := hid (hd.2.1 rfl)
     obtain ⟨k, h11, hk1, hk2, hk3⟩ := H11.out
     obtain ⟨b, r2, c2, p2, e2, hok, h9⟩ := H9.out
     have HSJ : Hid ((Tryz.prog.info? 39).map (·.size) = some (ndC (joinR a b)).toArray.size) := hid (by rw [size34 hok]; simp)
     refine wpList_store_row rfl 39 (.tmp 14) (.tmp 91) rfl k (ndC (joinR a b)).toArray (by show fx 11 = _; exact h11) (by show fx 9 = _; exact h9) 39 _ hk3 HSJ.out (by simp [ndC_length hok]) (ndC_one _) ?_
     replace e2 := hid e2
     have G11 := hid h11
     clear h11 h9
     go_wp2_with fail
     exact ⟨undef, rfl, hC.setRow HWW hk1 HL3, ⟨k, b, r2, c2, p2, G11.out, hk1, by rw [setRow_size]; exact hk2, e2.out, hok, setRow_heap _ _ _ _ _ _ hk3⟩, fun j u t hLj hn h => by
        by_cases j11 : j = 11
        ·subst j11; exact absurd hn (not_needed (E := fun i => Nat.beq i 12 || Nat.beq i 13) (j := 11) [12] rfl (by kernel_rfl) (fun m hm hne => by simp at hm; exact absurd hm hne))
        ·by_cases j12 : j = 12
         ·subst j12; rw [hiL] at hLj; cases hLj
         ·exact s8_keep12 j u t j11 j12 h⟩
    ·have H10 := hid (hd.1 rfl)
     obtain ⟨b, r2, c2, p2, e2, h10⟩ := H10.out
     replace e2 := hid e2
     go_wp2_with fail
     exact ⟨_, (by first | rfl | (show _ = Act.mk #[Value.agg #[Value.int IntKind.i64 (lo : Nat), Value.int IntKind.i64 (hi : Nat)], Value.pointer (some { block := bw, off := 0 }), Value.pointer (some { block := br, off := 0 }), Value.pointer (some { block := bc, off := 0 }), Value.pointer (some { block := bp, off := 0 }), Value.pointer (some { block := bj, off := 0 }), Value.pointer (some { block := w.heap.size, off := 0 }), Value.pointer (some { block := w.heap.size + 1, off := 0 }), Value.bool false, undef, undef, undef, Value.int IntKind.i64 (m : Nat), Value.pointer (some { block := W2.heap.size, off := 0 }), fx 11, Value.int .i64 (joinE a b), Value.pointer (some { block := bw, off := 0 }), Value.int IntKind.i64 (f : Nat), Value.pointer (some { block := w.heap.size, off := 0 }), Value.int IntKind.i64 (lo : Nat), Value.bool false, Value.bool false, undef, undef, undef, undef, undef, Value.bool false, Value.bool false, Value.bool false, Value.pointer (some { block := w.heap.size, off := 1 }), Value.int IntKind.i64 (hi : Nat), Value.pointer (some { block := bw, off := 0 }), Value.int IntKind.i64 (f : Nat), Value.bool false, Value.bool false, Value.bool false, Value.pointer (some { block := bw, off := 1 }), Value.int IntKind.i64 (t : Nat), Value.pointer (some { block := w.heap.size, off := 0 }), Value.int IntKind.i64 (lo : Nat), Value.bool false, Value.bool false, undef, undef, undef, undef, undef, undef, undef, undef, undef, undef, undef, undef, undef, undef, undef, undef, undef, undef, undef, undef, undef, undef, undef, undef, undef, undef, undef, undef, Value.pointer (some { block := w.heap.size, off := 0 }), Value.int IntKind.i64 (lo : Nat), Value.pointer (some { block := w.heap.size, off := 1 }), Value.int IntKind.i64 (hi : Nat), Value.int IntKind.i64 (m : Nat), Value.func (Fn.func 83) #[] #[Value.pointer (some { block := bw, off := 0 }), Value.pointer (some { block := br, off := 0 }), Value.pointer (some { block := bc, off := 0 }), Value.pointer (some { block := bp, off := 0 }), Value.pointer (some { block := bj, off := 0 })], Value.pointer (some { block := w.heap.size, off := 0 }), Value.int IntKind.i64 (lo : Nat), Value.int IntKind.i64 (m : Nat), Value.agg #[Value.int IntKind.i64 (lo : Nat), Value.int IntKind.i64 (m : Nat)], ndV a, fx 8, fx 0, fx 1, fx 2, fx 3, fx 4, fx 5, fx 6, fx 7, fx 9, fx 10, undef, undef, undef, undef] []; rw [h10])), hC, (by first | exact ⟨b, r2, c2, p2, e2.out, rfl⟩ | exact ⟨b, r2, c2, p2, e2.out, h10⟩), kP⟩
   ·intro ch a' w' hdf hR
    obtain ⟨rfl, e2, hk, hv⟩ := hR
    exact ⟨hdf, HK3.out.trans hk, by rw [e2]; exact ⟨rfl, hv⟩⟩
   ·intro L fx w' hLA hC hS
    have H12 := hid (hS 12 (by decide) rfl)
    have H13 := hid (hS 13 (by decide) rfl)
    obtain ⟨k, b, r2, c2, p2, h11, hk1, hk2, e2, hok, hrow⟩ := H12.out
    obtain ⟨b', r2', c2', p2', e2', h13⟩ := H13.out
    have ebb : b' = b := by rw [e2] at e2'; cases e2'; rfl
    subst ebb
    obtain ⟨b3, r3, c3, p3, e3, hvj⟩ := hC.2.1 (hLA 6 (by decide))
    have e33 : r3 = r2 ∧ c3 = c2 ∧ p3 = p2 := by rw [e2] at e3; cases e3; exact ⟨rfl, rfl, rfl⟩
    obtain ⟨rfl, rfl, rfl⟩ := e33
    clear e2' e3
    have HVJ := hid hvj
    have HKW := hid (HK3.out.trans hC.1)
    have HE2 := hid e2
    have H13' := hid h13
    have HRK := hid hrow
    have HZW := hid (hC.1.row HZ3.out NZr NZc NZp)
    have HJK := hid hok
    have HSJ : Hid ((Tryz.prog.info? 39).map (·.size) = some (ndC (joinR a b')).toArray.size) := hid (by rw [size34 hok]; simp)
    have HSJ2 : Hid (34 = (ndC (joinR a b')).toArray.size) := hid (by simp [ndC_length hok])
    have HL3' := hid HL3
    clear hS hC e2 hrow hvj H12 H13 hLA hk2 hok
    by_cases hv : vL [a, b'] = true
    ·have ej : joinE a b' = 0 := by unfold joinE; rw [if_pos hv]
     have er : joinR a b' = joinN a b' := by unfold joinR; rw [if_pos hv]
     rw [ej] at h13
     have hz9 := HZW.out
     obtain ⟨W9, HW9⟩ : ∃ V, Hid (w'.setRow (w.heap.size + 1) (ndC (joinR a b')).toArray = V) := ⟨_, hid rfl⟩
     have hr9 := setRow_heap w' (w.heap.size + 1) _ (ndC (joinR a b')).toArray _ _ hz9
     rw [HW9.out] at hr9
     have HR9 := hid hr9
     have HV9 : Hid (VJ WB bw br bc bp bj f t W9 r3 (c + c1 + c3) (p + p1 + p3)) := hid (by rw [← HW9.out]; exact HVJ.out.setRow (by have := h.out.bel.size; omega) (by have := HLT.out; omega) (by have := HLT.out; omega) (by have := HLT.out; omega) (by have := HLT.out; omega) (by have := HLT.out; omega))
     have HK9 : Hid (KJ WB br bc bp w W9) := hid (by rw [← HW9.out]; exact HKW.out.setRow (by have := h.out.bel.size; omega) (by omega))
     have HRS : Hid (vjD a c1 p1 o2 = some (joinR a b', r3, c1 + c3, p1 + p3)) := hid (by rw [HE2.out, er]; unfold vjD; simp only [if_pos hv])
     clear hr9 hz9 H13' HL3 ej er hv
     go_wp2_with (first | (refine (demand_yes 430 _).mono ?_; rintro e w' ⟨rfl, rfl⟩) | (refine wpList_load_row rfl 39 (.tmp 14) (by rfl) k (by show fx 11 = _; exact h11) 39 _ (0, 0) _ HRK.out Tryz.underlying39 rfl HSJ.out ?_) | (refine wpList_store_row rfl 39 (.tmp 7) (.tmp 96) rfl (w.heap.size + 1) (ndC (joinR a b')).toArray rfl rfl 39 _ HZW.out HSJ.out HSJ2.out (ndC_one _) ?_; rw [HW9.out]))
     have hl := run_loadVar_row (P := Tryz.prog) W9 (w.heap.size + 1) 39 39 (ndC (joinR a b')).toArray (0, 0) _ HR9.out Tryz.underlying39 rfl HSJ.out
     exact ⟨rfl, ndV (joinR a b'), v2_results rfl hl, HK9.out, by rw [HRS.out]; exact ⟨rfl, by rw [← Int.add_assoc, ← Int.add_assoc]; exact HV9.out⟩⟩
    ·have ej : joinE a b' = 410 := by unfold joinE; rw [if_neg hv]
     rw [ej] at h13
     have HRS : Hid (vjD a c1 p1 o2 = none) := hid (by rw [HE2.out]; unfold vjD; simp only [if_neg hv])
     clear H13' HL3 ej hv
     go_wp2_with fail
     refine (demand_no 430 _).mono ?_
     rintro e w' ⟨rfl, rfl⟩
     exact ⟨rfl, HKW.out, by rw [HRS.out]; exact ⟨rfl, _, _, _, HVJ.out⟩⟩
  | true =>
   have d1 : decide (hi ≤ t) = false := dQ (by simp at d0; omega)
   clear hcx hbb
   go_enter Tryz.func83, Tryz.ntmps83
   go_wp2_with (first | (rw [HW1.out]))
   refine (middle_any lo hi _ (by omega) (by omega)).mono ?_
   rintro e w' ⟨rfl, rfl⟩
   rw [HM.out]
   go_wp2_with fail
   refine C1.out.mono ?_
   rintro e W2 ⟨hk, rfl, hv2⟩
   have HV2 := hid hv2
   have HK2 := hid (HK1.out.trans hk)
   have hlt1 := HV1.out.lt
   have hlt0 := HLT.out
   have hsz := HS1.out
   have hr2 := hk.row HR1.out (by omega) (by omega) (by omega)
   have hz2 := hk.row HZ1.out (by omega) (by omega) (by omega)
   have hj2 := hv2.jn
   obtain ⟨W3, HW3⟩ : ∃ V, Hid ((W2.alloc (.cells (ndC zeroN).toArray 39)).setRow W2.heap.size (ndC a).toArray = V) := ⟨_, hid rfl⟩
   have HRZ3 := hid (heap_alloc_new W2 (.cells (ndC zeroN).toArray 39))
   have hl3 := laid_row W2 (ndC zeroN).toArray (ndC a).toArray 39
   rw [HW3.out] at hl3
   have HV3 := hid (hv2.below hl3.1)
   have HK3 := hid (HK2.out.trans (KJ.of_below (br := br) (bc := bc) (bp := bp) hl3.1 hv2.bel.size))
   have HR3 := hid (row_kept hr2 hl3.1)
   have HZ3 := hid (row_kept hz2 hl3.1)
   have HA3 := hid hl3.2.2
   have HS3 : Hid (w.heap.size + 2 ≤ W2.heap.size ∧ W3.heap.size = W2.heap.size + 1) := hid ⟨by have := hk.bel.size; omega, hl3.2.1⟩
   have HSA : Hid ((Tryz.prog.info? 39).map (·.size) = some (ndC a).toArray.size) := hid (by rw [size34 HAK.out]; simp)
   have HSA2 : Hid (34 = (ndC a).toArray.size) := hid (by simp [ndC_length HAK.out])
   rw [zeroN_cells] at HRZ3 HW3
   have cx0 := cell_of_row _ _ 0 _ _ _ hr2
   clear hk hv2 hlt1 hlt0 hsz hr2 hz2 hj2 hl3
   go_wp2_with (first | (refine wpList_store_row rfl 39 (.tmp 13) (.tmp 81) rfl W2.heap.size (ndC a).toArray rfl rfl 39 _ HRZ3.out HSA.out HSA2.out (ndC_one a) ?_; rw [HW3.out]))
   have NWr : w.heap.size ≠ br := by have := HLT.out; omega
   have NWc : w.heap.size ≠ bc := by have := HLT.out; omega
   have NWp : w.heap.size ≠ bp := by have := HLT.out; omega
   have NZr : w.heap.size + 1 ≠ br := by have := HLT.out; omega
   have NZc : w.heap.size + 1 ≠ bc := by have := HLT.out; omega
   have NZp : w.heap.size + 1 ≠ bp := by have := HLT.out; omega
   have HL3 := HV3.out.lt
   have HWW := HV3.out.bel.size
   have NEr : W2.heap.size ≠ br := by have := HV2.out.lt; omega
   have NEc : W2.heap.size ≠ bc := by have := HV2.out.lt; omega
   have NEp : W2.heap.size ≠ bp := by have := HV2.out.lt; omega
   have HC0 : Hid (c8 WB bw br bc bp bj f t W3 r1 (c + c1) (p + p1) o2 false W3.drew) := hid ((show c8 WB bw br bc bp bj f t W3 r1 (c + c1) (p + p1) o2 false W3 from ⟨KJ.of_below (Below.refl _ _) HV3.out.bel.size, (fun e => by cases e), (fun _ => HV3.out)⟩).below (Below.refl _ _).drew HV3.out.bel.size)
   dsimp only [Act.put]
   refine region_flow5 (by kernel_rfl) (by kernel_rfl) (fun i => Nat.beq i 12 || Nat.beq i 13) (fun i => bif Nat.beq i 12 then 11 else i) (by kernel_rfl) (fun fx => #[.agg #[.int IntKind.i64 (lo : Nat), .int IntKind.i64 (hi : Nat)], .pointer (some { block := bw, off := 0 }), .pointer (some { block := br, off := 0 }), .pointer (some { block := bc, off := 0 }), .pointer (some { block := bp, off := 0 }), .pointer (some { block := bj, off := 0 }), .pointer (some { block := w.heap.size, off := 0 }), .pointer (some { block := w.heap.size + 1, off := 0 }), .bool false, undef, undef, undef, .int IntKind.i64 (m : Nat), .pointer (some { block := W2.heap.size, off := 0 }), fx 11, fx 13, .pointer (some { block := bw, off := 0 }), .int IntKind.i64 (f : Nat), .pointer (some { block := w.heap.size, off := 0 }), .int IntKind.i64 (lo : Nat), .bool true, .bool true, .pointer (some { block := w.heap.size, off := 1 }), .int IntKind.i64 (hi : Nat), .pointer (some { block := bw, off := 1 }), .int IntKind.i64 (t : Nat), .bool false, .bool false, .bool false, .bool false, .pointer (some { block := w.heap.size, off := 1 }), .int IntKind.i64 (hi : Nat), .pointer (some { block := bw, off := 0 }), .int IntKind.i64 (f : Nat), .bool false, .bool false, .bool false, .pointer (some { block := bw, off := 1 }), .int IntKind.i64 (t : Nat), .pointer (some { block := w.heap.size, off := 0 }), .int IntKind.i64 (lo : Nat), .bool false, .bool false, undef, undef, undef, undef, undef, undef, undef, undef, undef, undef, undef, undef, undef, undef, undef, undef, undef, undef, undef, undef, undef, undef, undef, undef, undef, undef, undef, undef, .pointer (some { block := w.heap.size, off := 0 }), .int IntKind.i64 (lo : Nat), .pointer (some { block := w.heap.size, off := 1 }), .int IntKind.i64 (hi : Nat), .int IntKind.i64 (m : Nat), .func (Fn.func 83) #[] #[.pointer (some { block := bw, off := 0 }), .pointer (some { block := br, off := 0 }), .pointer (some { block := bc, off := 0 }), .pointer (some { block := bp, off := 0 }), .pointer (some { block := bj, off := 0 })], .pointer (some { block := w.heap.size, off := 0 }), .int IntKind.i64 (lo : Nat), .int IntKind.i64 (m : Nat), .agg #[.int IntKind.i64 (lo : Nat), .int IntKind.i64 (m : Nat)], ndV a, fx 8, fx 0, fx 1, fx 2, fx 3, fx 4, fx 5, fx 6, fx 7, fx 9, fx 10, undef, undef, undef, undef]) (fun _ => undef) (fun L _ w' => c8 WB bw br bc bp bj f t W3 r1 (c + c1) (p + p1) o2 (L 6) w') (fun fi fv fu fw => s8 w.heap.size m hi W3.heap.size (jnV bw br bc bp bj) a o2 fi fv fu fw) (fun ch w' => ch = failP 430 ∧ o2 = none ∧ KJ WB br bc bp W3 w' ∧ ∃ ls c p, VJ WB bw br bc bp bj f t w' ls c p) HC0.out ?_ ?_ ?_
   ·refine ⟨?_, ?_, ?_, ?_, ?_, ?_, ?_, ?_, ?_, ?_, ?_, ?_, ?_, ?_, trivial⟩
    all_goals intro L fx w' hC hiL hcl hdn hd
    ·have hA := hC.1.row HA3.out NEr NEc NEp
     go_wp2_with (refine wpList_load_row rfl 39 (.tmp 13) rfl W2.heap.size rfl 39 _ (0, 0) _ hA Tryz.underlying39 rfl HSA.out ?_)
     exact ⟨_, rfl, hC, rfl, kP⟩
    ·have hj : w'.heap[bj]? = some (.cells #[jnV bw br bc bp bj] 132 (0, 0)) := by
      cases h6 : L 6 with
      | false => exact (hC.2.2 h6).jn
      | true => obtain ⟨_, _, _, _, _, hv⟩ := hC.2.1 h6; exact hv.jn
     have cj := cell_of_row _ _ 0 _ _ _ hj
     simp only [List.getElem?_toArray, List.getElem?_cons_zero] at cj
     go_wp2_with fail
     exact ⟨_, rfl, hC, rfl, kP⟩
    ·go_wp2_with fail
     exact ⟨_, rfl, hC, rfl, kP⟩
    ·go_wp2_with fail
     exact ⟨_, rfl, hC, rfl, kP⟩
    ·have h3 : fx 3 = .pointer (some ⟨w.heap.size, 1, none⟩) := hd.1 rfl
     have hr := hC.1.row HR3.out NWr NWc NWp
     have c1' := cell_of_row _ _ 1 _ _ _ hr
     go_wp2_with fail
     exact ⟨_, (by first | rfl | (show _ = Act.mk #[Value.agg #[Value.int IntKind.i64 (lo : Nat), Value.int IntKind.i64 (hi : Nat)], Value.pointer (some { block := bw, off := 0 }), Value.pointer (some { block := br, off := 0 }), Value.pointer (some { block := bc, off := 0 }), Value.pointer (some { block := bp, off := 0 }), Value.pointer (some { block := bj, off := 0 }), Value.pointer (some { block := w.heap.size, off := 0 }), Value.pointer (some { block := w.heap.size + 1, off := 0 }), Value.bool false, undef, undef, undef, Value.int IntKind.i64 (m : Nat), Value.pointer (some { block := W2.heap.size, off := 0 }), fx 11, fx 13, Value.pointer (some { block := bw, off := 0 }), Value.int IntKind.i64 (f : Nat), Value.pointer (some { block := w.heap.size, off := 0 }), Value.int IntKind.i64 (lo : Nat), Value.bool true, Value.bool true, Value.pointer (some { block := w.heap.size, off := 1 }), Value.int IntKind.i64 (hi : Nat), Value.pointer (some { block := bw, off := 1 }), Value.int IntKind.i64 (t : Nat), Value.bool false, Value.bool false, Value.bool false, Value.bool false, Value.pointer (some { block := w.heap.size, off := 1 }), Value.int IntKind.i64 (hi : Nat), Value.pointer (some { block := bw, off := 0 }), Value.int IntKind.i64 (f : Nat), Value.bool false, Value.bool false, Value.bool false, Value.pointer (some { block := bw, off := 1 }), Value.int IntKind.i64 (t : Nat), Value.pointer (some { block := w.heap.size, off := 0 }), Value.int IntKind.i64 (lo : Nat), Value.bool false, Value.bool false, undef, undef, undef, undef, undef, undef, undef, undef, undef, undef, undef, undef, undef, undef, undef, undef, undef, undef, undef, undef, undef, undef, undef, undef, undef, undef, undef, undef, Value.pointer (some { block := w.heap.size, off := 0 }), Value.int IntKind.i64 (lo : Nat), Value.pointer (some { block := w.heap.size, off := 1 }), Value.int IntKind.i64 (hi : Nat), Value.int IntKind.i64 (m : Nat), Value.func (Fn.func 83) #[] #[Value.pointer (some { block := bw, off := 0 }), Value.pointer (some { block := br, off := 0 }), Value.pointer (some { block := bc, off := 0 }), Value.pointer (some { block := bp, off := 0 }), Value.pointer (some { block := bj, off := 0 })], Value.pointer (some { block := w.heap.size, off := 0 }), Value.int IntKind.i64 (lo : Nat), Value.int IntKind.i64 (m : Nat), Value.agg #[Value.int IntKind.i64 (lo : Nat), Value.int IntKind.i64 (m : Nat)], ndV a, fx 8, fx 0, fx 1, fx 2, fx 3, Value.int .i64 (hi : Nat), fx 5, fx 6, fx 7, fx 9, fx 10, undef, undef, undef, undef] []; rw [h3])), hC, rfl, kP⟩
    ·have h2 : fx 2 = .int .i64 (m : Nat) := hd.1 rfl
     have h4 : fx 4 = .int .i64 (hi : Nat) := hd.2.1 rfl
     go_wp2_with fail
     exact ⟨_, (by first | rfl | (show _ = Act.mk #[Value.agg #[Value.int IntKind.i64 (lo : Nat), Value.int IntKind.i64 (hi : Nat)], Value.pointer (some { block := bw, off := 0 }), Value.pointer (some { block := br, off := 0 }), Value.pointer (some { block := bc, off := 0 }), Value.pointer (some { block := bp, off := 0 }), Value.pointer (some { block := bj, off := 0 }), Value.pointer (some { block := w.heap.size, off := 0 }), Value.pointer (some { block := w.heap.size + 1, off := 0 }), Value.bool false, undef, undef, undef, Value.int IntKind.i64 (m : Nat), Value.pointer (some { block := W2.heap.size, off := 0 }), fx 11, fx 13, Value.pointer (some { block := bw, off := 0 }), Value.int IntKind.i64 (f : Nat), Value.pointer (some { block := w.heap.size, off := 0 }), Value.int IntKind.i64 (lo : Nat), Value.bool true, Value.bool true, Value.pointer (some { block := w.heap.size, off := 1 }), Value.int IntKind.i64 (hi : Nat), Value.pointer (some { block := bw, off := 1 }), Value.int IntKind.i64 (t : Nat), Value.bool false, Value.bool false, Value.bool false, Value.bool false, Value.pointer (some { block := w.heap.size, off := 1 }), Value.int IntKind.i64 (hi : Nat), Value.pointer (some { block := bw, off := 0 }), Value.int IntKind.i64 (f : Nat), Value.bool false, Value.bool false, Value.bool false, Value.pointer (some { block := bw, off := 1 }), Value.int IntKind.i64 (t : Nat), Value.pointer (some { block := w.heap.size, off := 0 }), Value.int IntKind.i64 (lo : Nat), Value.bool false, Value.bool false, undef, undef, undef, undef, undef, undef, undef, undef, undef, undef, undef, undef, undef, undef, undef, undef, undef, undef, undef, undef, undef, undef, undef, undef, undef, undef, undef, undef, Value.pointer (some { block := w.heap.size, off := 0 }), Value.int IntKind.i64 (lo : Nat), Value.pointer (some { block := w.heap.size, off := 1 }), Value.int IntKind.i64 (hi : Nat), Value.int IntKind.i64 (m : Nat), Value.func (Fn.func 83) #[] #[Value.pointer (some { block := bw, off := 0 }), Value.pointer (some { block := br, off := 0 }), Value.pointer (some { block := bc, off := 0 }), Value.pointer (some { block := bp, off := 0 }), Value.pointer (some { block := bj, off := 0 })], Value.pointer (some { block := w.heap.size, off := 0 }), Value.int IntKind.i64 (lo : Nat), Value.int IntKind.i64 (m : Nat), Value.agg #[Value.int IntKind.i64 (lo : Nat), Value.int IntKind.i64 (m : Nat)], ndV a, fx 8, fx 0, fx 1, fx 2, fx 3, fx 4, Value.agg #[.int .i64 (m : Nat), .int .i64 (hi : Nat)], fx 6, fx 7, fx 9, fx 10, undef, undef, undef, undef] []; rw [h2, h4])), hC, rfl, kP⟩
    ·have h1 : fx 1 = jnV bw br bc bp bj := hd.1 rfl
     have h5 : fx 5 = .agg #[.int .i64 (m : Nat), .int .i64 (hi : Nat)] := hd.2.1 rfl
     unfold jnV at h1
     go_wp2_with fail
     refine (C2.out w' (hC.2.2 hiL)).mono ?_
     intro e w2 hq
     obtain ⟨hk, ⟨e2, rfl, hv⟩ | ⟨b, r2, c2, p2, e2, rfl, hv⟩⟩ := vpost_split hq
     ·exact ⟨rfl, rfl, e2, hC.1.trans hk, hv⟩
     ·have h1' : fx 1 = jnV bw br bc bp bj := h1
      go_wp2_with fail
      exact ⟨_, (by first | rfl | (show _ = Act.mk #[Value.agg #[Value.int IntKind.i64 (lo : Nat), Value.int IntKind.i64 (hi : Nat)], Value.pointer (some { block := bw, off := 0 }), Value.pointer (some { block := br, off := 0 }), Value.pointer (some { block := bc, off := 0 }), Value.pointer (some { block := bp, off := 0 }), Value.pointer (some { block := bj, off := 0 }), Value.pointer (some { block := w.heap.size, off := 0 }), Value.pointer (some { block := w.heap.size + 1, off := 0 }), Value.bool false, undef, undef, undef, Value.int IntKind.i64 (m : Nat), Value.pointer (some { block := W2.heap.size, off := 0 }), fx 11, fx 13, Value.pointer (some { block := bw, off := 0 }), Value.int IntKind.i64 (f : Nat), Value.pointer (some { block := w.heap.size, off := 0 }), Value.int IntKind.i64 (lo : Nat), Value.bool true, Value.bool true, Value.pointer (some { block := w.heap.size, off := 1 }), Value.int IntKind.i64 (hi : Nat), Value.pointer (some { block := bw, off := 1 }), Value.int IntKind.i64 (t : Nat), Value.bool false, Value.bool false, Value.bool false, Value.bool false, Value.pointer (some { block := w.heap.size, off := 1 }), Value.int IntKind.i64 (hi : Nat), Value.pointer (some { block := bw, off := 0 }), Value.int IntKind.i64 (f : Nat), Value.bool false, Value.bool false, Value.bool false, Value.pointer (some { block := bw, off := 1 }), Value.int IntKind.i64 (t : Nat), Value.pointer (some { block := w.heap.size, off := 0 }), Value.int IntKind.i64 (lo : Nat), Value.bool false, Value.bool false, undef, undef, undef, undef, undef, undef, undef, undef, undef, undef, undef, undef, undef, undef, undef, undef, undef, undef, undef, undef, undef, undef, undef, undef, undef, undef, undef, undef, Value.pointer (some { block := w.heap.size, off := 0 }), Value.int IntKind.i64 (lo : Nat), Value.pointer (some { block := w.heap.size, off := 1 }), Value.int IntKind.i64 (hi : Nat), Value.int IntKind.i64 (m : Nat), Value.func (Fn.func 83) #[] #[Value.pointer (some { block := bw, off := 0 }), Value.pointer (some { block := br, off := 0 }), Value.pointer (some { block := bc, off := 0 }), Value.pointer (some { block := bp, off := 0 }), Value.pointer (some { block := bj, off := 0 })], Value.pointer (some { block := w.heap.size, off := 0 }), Value.int IntKind.i64 (lo : Nat), Value.int IntKind.i64 (m : Nat), Value.agg #[Value.int IntKind.i64 (lo : Nat), Value.int IntKind.i64 (m : Nat)], ndV a, fx 8, fx 0, fx 1, fx 2, fx 3, fx 4, fx 5, ndV b, fx 7, fx 9, fx 10, undef, undef, undef, undef] []; rw [h1, h5])), ⟨hC.1.trans hk, (fun _ => ⟨b, r2, c2, p2, e2, hv⟩), (fun e => by rw [updB_same] at e; cases e)⟩, ⟨b, r2, c2, p2, e2, HOK2.out _ _ _ _ e2, rfl⟩, fun j u t _ _ h => s8_keep hk.bel.size (fun k h1 h2 => hk.old k h2 (by omega) (by omega) (by omega)) j u t h⟩
    ·have h0 : fx 0 = ndV a := hd.1 rfl
     have H6 := hid (hd.2.1 rfl)
     obtain ⟨b, r2, c2, p2, e2, hbk, h6⟩ := H6.out
     obtain ⟨_, _, _, _, _, hvv⟩ := hC.2.1 (hdn 6 (by kernel_rfl))
     go_wp2_with fail
     refine (join_any a b w' HAK.out hbk (hid (hT.out.below hvv.bel))).mono ?_
     rintro e w2 ⟨rfl, hq⟩
     go_wp2_with fail
     exact ⟨_, (by first | rfl | (show _ = Act.mk #[Value.agg #[Value.int IntKind.i64 (lo : Nat), Value.int IntKind.i64 (hi : Nat)], Value.pointer (some { block := bw, off := 0 }), Value.pointer (some { block := br, off := 0 }), Value.pointer (some { block := bc, off := 0 }), Value.pointer (some { block := bp, off := 0 }), Value.pointer (some { block := bj, off := 0 }), Value.pointer (some { block := w.heap.size, off := 0 }), Value.pointer (some { block := w.heap.size + 1, off := 0 }), Value.bool false, undef, undef, undef, Value.int IntKind.i64 (m : Nat), Value.pointer (some { block := W2.heap.size, off := 0 }), fx 11, fx 13, Value.pointer (some { block := bw, off := 0 }), Value.int IntKind.i64 (f : Nat), Value.pointer (some { block := w.heap.size, off := 0 }), Value.int IntKind.i64 (lo : Nat), Value.bool true, Value.bool true, Value.pointer (some { block := w.heap.size, off := 1 }), Value.int IntKind.i64 (hi : Nat), Value.pointer (some { block := bw, off := 1 }), Value.int IntKind.i64 (t : Nat), Value.bool false, Value.bool false, Value.bool false, Value.bool false, Value.pointer (some { block := w.heap.size, off := 1 }), Value.int IntKind.i64 (hi : Nat), Value.pointer (some { block := bw, off := 0 }), Value.int IntKind.i64 (f : Nat), Value.bool false, Value.bool false, Value.bool false, Value.pointer (some { block := bw, off := 1 }), Value.int IntKind.i64 (t : Nat), Value.pointer (some { block := w.heap.size, off := 0 }), Value.int IntKind.i64 (lo : Nat), Value.bool false, Value.bool false, undef, undef, undef, undef, undef, undef, undef, undef, undef, undef, undef, undef, undef, undef, undef, undef, undef, undef, undef, undef, undef, undef, undef, undef, undef, undef, undef, undef, Value.pointer (some { block := w.heap.size, off := 0 }), Value.int IntKind.i64 (lo : Nat), Value.pointer (some { block := w.heap.size, off := 1 }), Value.int IntKind.i64 (hi : Nat), Value.int IntKind.i64 (m : Nat), Value.func (Fn.func 83) #[] #[Value.pointer (some { block := bw, off := 0 }), Value.pointer (some { block := br, off := 0 }), Value.pointer (some { block := bc, off := 0 }), Value.pointer (some { block := bp, off := 0 }), Value.pointer (some { block := bj, off := 0 })], Value.pointer (some { block := w.heap.size, off := 0 }), Value.int IntKind.i64 (lo : Nat), Value.int IntKind.i64 (m : Nat), Value.agg #[Value.int IntKind.i64 (lo : Nat), Value.int IntKind.i64 (m : Nat)], ndV a, fx 8, fx 0, fx 1, fx 2, fx 3, fx 4, fx 5, fx 6, Value.tuple #[ndV (joinR a b), .int .i64 (joinE a b)], fx 9, fx 10, undef, undef, undef, undef] []; rw [h0, h6])), hC.below hq hvv.bel.size, ⟨b, r2, c2, p2, e2, joinR_ok43 HAK.out hbk, rfl⟩, fun j u t _ _ h => s8_keep hq.size (fun k _ h2 => hq.block k h2) j u t h⟩
    ·have H7 := hid (hd.1 rfl)
     obtain ⟨b, r2, c2, p2, e2, hok, h7⟩ := H7.out
     replace e2 := hid e2
     go_wp2_with fail
     exact ⟨_, (by first | rfl | (show _ = Act.mk #[Value.agg #[Value.int IntKind.i64 (lo : Nat), Value.int IntKind.i64 (hi : Nat)], Value.pointer (some { block := bw, off := 0 }), Value.pointer (some { block := br, off := 0 }), Value.pointer (some { block := bc, off := 0 }), Value.pointer (some { block := bp, off := 0 }), Value.pointer (some { block := bj, off := 0 }), Value.pointer (some { block := w.heap.size, off := 0 }), Value.pointer (some { block := w.heap.size + 1, off := 0 }), Value.bool false, undef, undef, undef, Value.int IntKind.i64 (m : Nat), Value.pointer (some { block := W2.heap.size, off := 0 }), fx 11, fx 13, Value.pointer (some { block := bw, off := 0 }), Value.int IntKind.i64 (f : Nat), Value.pointer (some { block := w.heap.size, off := 0 }), Value.int IntKind.i64 (lo : Nat), Value.bool true, Value.bool true, Value.pointer (some { block := w.heap.size, off := 1 }), Value.int IntKind.i64 (hi : Nat), Value.pointer (some { block := bw, off := 1 }), Value.int IntKind.i64 (t : Nat), Value.bool false, Value.bool false, Value.bool false, Value.bool false, Value.pointer (some { block := w.heap.size, off := 1 }), Value.int IntKind.i64 (hi : Nat), Value.pointer (some { block := bw, off := 0 }), Value.int IntKind.i64 (f : Nat), Value.bool false, Value.bool false, Value.bool false, Value.pointer (some { block := bw, off := 1 }), Value.int IntKind.i64 (t : Nat), Value.pointer (some { block := w.heap.size, off := 0 }), Value.int IntKind.i64 (lo : Nat), Value.bool false, Value.bool false, undef, undef, undef, undef, undef, undef, undef, undef, undef, undef, undef, undef, undef, undef, undef, undef, undef, undef, undef, undef, undef, undef, undef, undef, undef, undef, undef, undef, Value.pointer (some { block := w.heap.size, off := 0 }), Value.int IntKind.i64 (lo : Nat), Value.pointer (some { block := w.heap.size, off := 1 }), Value.int IntKind.i64 (hi : Nat), Value.int IntKind.i64 (m : Nat), Value.func (Fn.func 83) #[] #[Value.pointer (some { block := bw, off := 0 }), Value.pointer (some { block := br, off := 0 }), Value.pointer (some { block := bc, off := 0 }), Value.pointer (some { block := bp, off := 0 }), Value.pointer (some { block := bj, off := 0 })], Value.pointer (some { block := w.heap.size, off := 0 }), Value.int IntKind.i64 (lo : Nat), Value.int IntKind.i64 (m : Nat), Value.agg #[Value.int IntKind.i64 (lo : Nat), Value.int IntKind.i64 (m : Nat)], ndV a, Value.tuple #[ndV (joinR a b), .int .i64 (joinE a b)], fx 0, fx 1, fx 2, fx 3, fx 4, fx 5, fx 6, fx 7, fx 9, fx 10, undef, undef, undef, undef] []; rw [h7])), hC, (by first | exact ⟨b, r2, c2, p2, e2.out, hok, rfl⟩ | exact ⟨b, r2, c2, p2, e2.out, hok, h7⟩), kP⟩
    ·have H8 := hid (hd.1 rfl)
     obtain ⟨b, r2, c2, p2, e2, hok, h8⟩ := H8.out
     replace e2 := hid e2
     go_wp2_with fail
     exact ⟨_, (by first | rfl | (show _ = Act.mk #[Value.agg #[Value.int IntKind.i64 (lo : Nat), Value.int IntKind.i64 (hi : Nat)], Value.pointer (some { block := bw, off := 0 }), Value.pointer (some { block := br, off := 0 }), Value.pointer (some { block := bc, off := 0 }), Value.pointer (some { block := bp, off := 0 }), Value.pointer (some { block := bj, off := 0 }), Value.pointer (some { block := w.heap.size, off := 0 }), Value.pointer (some { block := w.heap.size + 1, off := 0 }), Value.bool false, undef, undef, undef, Value.int IntKind.i64 (m : Nat), Value.pointer (some { block := W2.heap.size, off := 0 }), fx 11, fx 13, Value.pointer (some { block := bw, off := 0 }), Value.int IntKind.i64 (f : Nat), Value.pointer (some { block := w.heap.size, off := 0 }), Value.int IntKind.i64 (lo : Nat), Value.bool true, Value.bool true, Value.pointer (some { block := w.heap.size, off := 1 }), Value.int IntKind.i64 (hi : Nat), Value.pointer (some { block := bw, off := 1 }), Value.int IntKind.i64 (t : Nat), Value.bool false, Value.bool false, Value.bool false, Value.bool false, Value.pointer (some { block := w.heap.size, off := 1 }), Value.int IntKind.i64 (hi : Nat), Value.pointer (some { block := bw, off := 0 }), Value.int IntKind.i64 (f : Nat), Value.bool false, Value.bool false, Value.bool false, Value.pointer (some { block := bw, off := 1 }), Value.int IntKind.i64 (t : Nat), Value.pointer (some { block := w.heap.size, off := 0 }), Value.int IntKind.i64 (lo : Nat), Value.bool false, Value.bool false, undef, undef, undef, undef, undef, undef, undef, undef, undef, undef, undef, undef, undef, undef, undef, undef, undef, undef, undef, undef, undef, undef, undef, undef, undef, undef, undef, undef, Value.pointer (some { block := w.heap.size, off := 0 }), Value.int IntKind.i64 (lo : Nat), Value.pointer (some { block := w.heap.size, off := 1 }), Value.int IntKind.i64 (hi : Nat), Value.int IntKind.i64 (m : Nat), Value.func (Fn.func 83) #[] #[Value.pointer (some { block := bw, off := 0 }), Value.pointer (some { block := br, off := 0 }), Value.pointer (some { block := bc, off := 0 }), Value.pointer (some { block := bp, off := 0 }), Value.pointer (some { block := bj, off := 0 })], Value.pointer (some { block := w.heap.size, off := 0 }), Value.int IntKind.i64 (lo : Nat), Value.int IntKind.i64 (m : Nat), Value.agg #[Value.int IntKind.i64 (lo : Nat), Value.int IntKind.i64 (m : Nat)], ndV a, fx 8, fx 0, fx 1, fx 2, fx 3, fx 4, fx 5, fx 6, fx 7, ndV (joinR a b), fx 10, undef, undef, undef, undef] []; rw [h8])), hC, ⟨b, r2, c2, p2, e2.out, hok, rfl⟩, kP⟩
    ·have H8 := hid (hd.1 rfl)
     obtain ⟨b, r2, c2, p2, e2, hok, h8⟩ := H8.out
     replace e2 := hid e2
     go_wp2_with fail
     exact ⟨_, (by first | rfl | (show _ = Act.mk #[Value.agg #[Value.int IntKind.i64 (lo : Nat), Value.int IntKind.i64 (hi : Nat)], Value.pointer (some { block := bw, off := 0 }), Value.pointer (some { block := br, off := 0 }), Value.pointer (some { block := bc, off := 0 }), Value.pointer (some { block := bp, off := 0 }), Value.pointer (some { block := bj, off := 0 }), Value.pointer (some { block := w.heap.size, off := 0 }), Value.pointer (some { block := w.heap.size + 1, off := 0 }), Value.bool false, undef, undef, undef, Value.int IntKind.i64 (m : Nat), Value.pointer (some { block := W2.heap.size, off := 0 }), fx 11, fx 13, Value.pointer (some { block := bw, off := 0 }), Value.int IntKind.i64 (f : Nat), Value.pointer (some { block := w.heap.size, off := 0 }), Value.int IntKind.i64 (lo : Nat), Value.bool true, Value.bool true, Value.pointer (some { block := w.heap.size, off := 1 }), Value.int IntKind.i64 (hi : Nat), Value.pointer (some { block := bw, off := 1 }), Value.int IntKind.i64 (t : Nat), Value.bool false, Value.bool false, Value.bool false, Value.bool false, Value.pointer (some { block := w.heap.size, off := 1 }), Value.int IntKind.i64 (hi : Nat), Value.pointer (some { block := bw, off := 0 }), Value.int IntKind.i64 (f : Nat), Value.bool false, Value.bool false, Value.bool false, Value.pointer (some { block := bw, off := 1 }), Value.int IntKind.i64 (t : Nat), Value.pointer (some { block := w.heap.size, off := 0 }), Value.int IntKind.i64 (lo : Nat), Value.bool false, Value.bool false, undef, undef, undef, undef, undef, undef, undef, undef, undef, undef, undef, undef, undef, undef, undef, undef, undef, undef, undef, undef, undef, undef, undef, undef, undef, undef, undef, undef, Value.pointer (some { block := w.heap.size, off := 0 }), Value.int IntKind.i64 (lo : Nat), Value.pointer (some { block := w.heap.size, off := 1 }), Value.int IntKind.i64 (hi : Nat), Value.int IntKind.i64 (m : Nat), Value.func (Fn.func 83) #[] #[Value.pointer (some { block := bw, off := 0 }), Value.pointer (some { block := br, off := 0 }), Value.pointer (some { block := bc, off := 0 }), Value.pointer (some { block := bp, off := 0 }), Value.pointer (some { block := bj, off := 0 })], Value.pointer (some { block := w.heap.size, off := 0 }), Value.int IntKind.i64 (lo : Nat), Value.int IntKind.i64 (m : Nat), Value.agg #[Value.int IntKind.i64 (lo : Nat), Value.int IntKind.i64 (m : Nat)], ndV a, fx 8, fx 0, fx 1, fx 2, fx 3, fx 4, fx 5, fx 6, fx 7, fx 9, Value.int .i64 (joinE a b), undef, undef, undef, undef] []; rw [h8])), hC, ⟨b, r2, c2, p2, e2.out, rfl⟩, kP⟩
    ·have hbb : Below w'.heap.size w' (w'.alloc (.cells #[.int .u8 0, .int .u8 0, .int .u8 0, .int .u8 0, .int .u8 0, .int .u8 0, .int .u8 0, .int .u8 0, .int .u8 0, .int .u8 0, .int .u8 0, .int .u8 0, .int .u8 0, .int .u8 0, .int .u8 0, .int .u8 0, .int .u8 0, .int .u8 0, .int .u8 0, .int .u8 0, .int .u8 0, .int .u8 0, .int .u8 0, .int .u8 0, .int .u8 0, .int .u8 0, .int .u8 0, .int .u8 0, .int .u8 0, .int .u8 0, .int .u8 0, .int .u8 0, .int .i64 0, .int .i64 0] 39)) := (Below.refl _ _).alloc (Nat.le_refl _) _
     have hws := hC.1.bel.size
     go_wp2_with fail
     exact ⟨_, rfl, hC.below hbb (by omega), ⟨w'.heap.size, rfl, hws, by simp, heap_alloc_new _ _⟩, fun j u t _ _ h => s8_keep hbb.size (fun k _ h2 => hbb.block k h2) j u t h⟩
    ·have H11 := hid (hd.1 rfl)
     have H9 := hid (hd.2.1 rfl)
     obtain ⟨k, h11, hk1, hk2, hk3⟩ := H11.out
     obtain ⟨b, r2, c2, p2, e2, hok, h9⟩ := H9.out
     have HSJ : Hid ((Tryz.prog.info? 39).map (·.size) = some (ndC (joinR a b)).toArray.size) := hid (by rw [size34 hok]; simp)
     refine wpList_store_row rfl 39 (.tmp 14) (.tmp 91) rfl k (ndC (joinR a b)).toArray (by show fx 11 = _; exact h11) (by show fx 9 = _; exact h9) 39 _ hk3 HSJ.out (by simp [ndC_length hok]) (ndC_one _) ?_
     replace e2 := hid e2
     have G11 := hid h11
     clear h11 h9
     go_wp2_with fail
     exact ⟨undef, rfl, hC.setRow HWW hk1 HL3, ⟨k, b, r2, c2, p2, G11.out, hk1, by rw [setRow_size]; exact hk2, e2.out, hok, setRow_heap _ _ _ _ _ _ hk3⟩, fun j u t hLj hn h => by
        by_cases j11 : j = 11
        ·subst j11; exact absurd hn (not_needed (E := fun i => Nat.beq i 12 || Nat.beq i 13) (j := 11) [12] rfl (by kernel_rfl) (fun m hm hne => by simp at hm; exact absurd hm hne))
        ·by_cases j12 : j = 12
         ·subst j12; rw [hiL] at hLj; cases hLj
         ·exact s8_keep12 j u t j11 j12 h⟩
    ·have H10 := hid (hd.1 rfl)
     obtain ⟨b, r2, c2, p2, e2, h10⟩ := H10.out
     replace e2 := hid e2
     go_wp2_with fail
     exact ⟨_, (by first | rfl | (show _ = Act.mk #[Value.agg #[Value.int IntKind.i64 (lo : Nat), Value.int IntKind.i64 (hi : Nat)], Value.pointer (some { block := bw, off := 0 }), Value.pointer (some { block := br, off := 0 }), Value.pointer (some { block := bc, off := 0 }), Value.pointer (some { block := bp, off := 0 }), Value.pointer (some { block := bj, off := 0 }), Value.pointer (some { block := w.heap.size, off := 0 }), Value.pointer (some { block := w.heap.size + 1, off := 0 }), Value.bool false, undef, undef, undef, Value.int IntKind.i64 (m : Nat), Value.pointer (some { block := W2.heap.size, off := 0 }), fx 11, Value.int .i64 (joinE a b), Value.pointer (some { block := bw, off := 0 }), Value.int IntKind.i64 (f : Nat), Value.pointer (some { block := w.heap.size, off := 0 }), Value.int IntKind.i64 (lo : Nat), Value.bool true, Value.bool true, Value.pointer (some { block := w.heap.size, off := 1 }), Value.int IntKind.i64 (hi : Nat), Value.pointer (some { block := bw, off := 1 }), Value.int IntKind.i64 (t : Nat), Value.bool false, Value.bool false, Value.bool false, Value.bool false, Value.pointer (some { block := w.heap.size, off := 1 }), Value.int IntKind.i64 (hi : Nat), Value.pointer (some { block := bw, off := 0 }), Value.int IntKind.i64 (f : Nat), Value.bool false, Value.bool false, Value.bool false, Value.pointer (some { block := bw, off := 1 }), Value.int IntKind.i64 (t : Nat), Value.pointer (some { block := w.heap.size, off := 0 }), Value.int IntKind.i64 (lo : Nat), Value.bool false, Value.bool false, undef, undef, undef, undef, undef, undef, undef, undef, undef, undef, undef, undef, undef, undef, undef, undef, undef, undef, undef, undef, undef, undef, undef, undef, undef, undef, undef, undef, Value.pointer (some { block := w.heap.size, off := 0 }), Value.int IntKind.i64 (lo : Nat), Value.pointer (some { block := w.heap.size, off := 1 }), Value.int IntKind.i64 (hi : Nat), Value.int IntKind.i64 (m : Nat), Value.func (Fn.func 83) #[] #[Value.pointer (some { block := bw, off := 0 }), Value.pointer (some { block := br, off := 0 }), Value.pointer (some { block := bc, off := 0 }), Value.pointer (some { block := bp, off := 0 }), Value.pointer (some { block := bj, off := 0 })], Value.pointer (some { block := w.heap.size, off := 0 }), Value.int IntKind.i64 (lo : Nat), Value.int IntKind.i64 (m : Nat), Value.agg #[Value.int IntKind.i64 (lo : Nat), Value.int IntKind.i64 (m : Nat)], ndV a, fx 8, fx 0, fx 1, fx 2, fx 3, fx 4, fx 5, fx 6, fx 7, fx 9, fx 10, undef, undef, undef, undef] []; rw [h10])), hC, (by first | exact ⟨b, r2, c2, p2, e2.out, rfl⟩ | exact ⟨b, r2, c2, p2, e2.out, h10⟩), kP⟩
   ·intro ch a' w' hdf hR
    obtain ⟨rfl, e2, hk, hv⟩ := hR
    exact ⟨hdf, HK3.out.trans hk, by rw [e2]; exact ⟨rfl, hv⟩⟩
   ·intro L fx w' hLA hC hS
    have H12 := hid (hS 12 (by decide) rfl)
    have H13 := hid (hS 13 (by decide) rfl)
    obtain ⟨k, b, r2, c2, p2, h11, hk1, hk2, e2, hok, hrow⟩ := H12.out
    obtain ⟨b', r2', c2', p2', e2', h13⟩ := H13.out
    have ebb : b' = b := by rw [e2] at e2'; cases e2'; rfl
    subst ebb
    obtain ⟨b3, r3, c3, p3, e3, hvj⟩ := hC.2.1 (hLA 6 (by decide))
    have e33 : r3 = r2 ∧ c3 = c2 ∧ p3 = p2 := by rw [e2] at e3; cases e3; exact ⟨rfl, rfl, rfl⟩
    obtain ⟨rfl, rfl, rfl⟩ := e33
    clear e2' e3
    have HVJ := hid hvj
    have HKW := hid (HK3.out.trans hC.1)
    have HE2 := hid e2
    have H13' := hid h13
    have HRK := hid hrow
    have HZW := hid (hC.1.row HZ3.out NZr NZc NZp)
    have HJK := hid hok
    have HSJ : Hid ((Tryz.prog.info? 39).map (·.size) = some (ndC (joinR a b')).toArray.size) := hid (by rw [size34 hok]; simp)
    have HSJ2 : Hid (34 = (ndC (joinR a b')).toArray.size) := hid (by simp [ndC_length hok])
    have HL3' := hid HL3
    clear hS hC e2 hrow hvj H12 H13 hLA hk2 hok
    by_cases hv : vL [a, b'] = true
    ·have ej : joinE a b' = 0 := by unfold joinE; rw [if_pos hv]
     have er : joinR a b' = joinN a b' := by unfold joinR; rw [if_pos hv]
     rw [ej] at h13
     have hz9 := HZW.out
     obtain ⟨W9, HW9⟩ : ∃ V, Hid (w'.setRow (w.heap.size + 1) (ndC (joinR a b')).toArray = V) := ⟨_, hid rfl⟩
     have hr9 := setRow_heap w' (w.heap.size + 1) _ (ndC (joinR a b')).toArray _ _ hz9
     rw [HW9.out] at hr9
     have HR9 := hid hr9
     have HV9 : Hid (VJ WB bw br bc bp bj f t W9 r3 (c + c1 + c3) (p + p1 + p3)) := hid (by rw [← HW9.out]; exact HVJ.out.setRow (by have := h.out.bel.size; omega) (by have := HLT.out; omega) (by have := HLT.out; omega) (by have := HLT.out; omega) (by have := HLT.out; omega) (by have := HLT.out; omega))
     have HK9 : Hid (KJ WB br bc bp w W9) := hid (by rw [← HW9.out]; exact HKW.out.setRow (by have := h.out.bel.size; omega) (by omega))
     have HRS : Hid (vjD a c1 p1 o2 = some (joinR a b', r3, c1 + c3, p1 + p3)) := hid (by rw [HE2.out, er]; unfold vjD; simp only [if_pos hv])
     clear hr9 hz9 H13' HL3 ej er hv
     go_wp2_with (first | (refine (demand_yes 430 _).mono ?_; rintro e w' ⟨rfl, rfl⟩) | (refine wpList_load_row rfl 39 (.tmp 14) (by rfl) k (by show fx 11 = _; exact h11) 39 _ (0, 0) _ HRK.out Tryz.underlying39 rfl HSJ.out ?_) | (refine wpList_store_row rfl 39 (.tmp 7) (.tmp 96) rfl (w.heap.size + 1) (ndC (joinR a b')).toArray rfl rfl 39 _ HZW.out HSJ.out HSJ2.out (ndC_one _) ?_; rw [HW9.out]))
     have hl := run_loadVar_row (P := Tryz.prog) W9 (w.heap.size + 1) 39 39 (ndC (joinR a b')).toArray (0, 0) _ HR9.out Tryz.underlying39 rfl HSJ.out
     exact ⟨rfl, ndV (joinR a b'), v2_results rfl hl, HK9.out, by rw [HRS.out]; exact ⟨rfl, by rw [← Int.add_assoc, ← Int.add_assoc]; exact HV9.out⟩⟩
    ·have ej : joinE a b' = 410 := by unfold joinE; rw [if_neg hv]
     rw [ej] at h13
     have HRS : Hid (vjD a c1 p1 o2 = none) := hid (by rw [HE2.out]; unfold vjD; simp only [if_neg hv])
     clear H13' HL3 ej hv
     go_wp2_with fail
     refine (demand_no 430 _).mono ?_
     rintro e w' ⟨rfl, rfl⟩
     exact ⟨rfl, HKW.out, by rw [HRS.out]; exact ⟨rfl, _, _, _, HVJ.out⟩⟩
 exact key _ rfl
theorem vj_okN {f t : Nat} (hft : f < t) (lo hi : Nat) (h : lo < hi) : ∀ ls n r c p, (∀ x ∈ ls, NdOk x) → vj f t lo hi ls = some (n, r, c, p) → NdOk n :=
 parts_ind hft (M := fun lo hi => ∀ ls n r c p, (∀ x ∈ ls, NdOk x) → vj f t lo hi ls = some (n, r, c, p) → NdOk n) (fun lo hi hlt hc ls n r c p ho he => by
  rw [vj_leaf hlt hc] at he
  cases ls with
  | nil => cases he
  | cons x xs =>
   rw [vj1_cons] at he
   split at he
   ·simp only [Option.some.injEq, Prod.mk.injEq] at he
    obtain ⟨rfl, _⟩ := he
    exact ho _ (by simp)
   ·cases he) (fun lo hi hlt hc h1 h2 i1 i2 ls n r c p ho he => by
  rw [vj_cut hlt hft hc] at he
  cases hv1 : vj f t lo (lo + half (hi - lo)) ls with
  | none => rw [vjC_none hv1] at he; cases he
  | some q =>
   obtain ⟨a, r1, c1, p1⟩ := q
   rw [vjC_some hv1] at he
   have hr := (vj_bd hft lo _ (by omega) _ _ _ _ _ hv1).2.2.2.2.2.2
   cases hv2 : vj f t (lo + half (hi - lo)) hi r1 with
   | none => rw [hv2] at he; cases he
   | some q =>
    obtain ⟨b, r2, c2, p2⟩ := q
    rw [hv2] at he
    unfold vjD at he
    simp only at he
    split at he
    ·rename_i hv
     simp only [Option.some.injEq, Prod.mk.injEq] at he
     obtain ⟨rfl, _⟩ := he
     exact join_ok (i1 _ _ _ _ _ ho hv1) (i2 _ _ _ _ _ (fun x hx => ho x (hr x hx)) hv2) hv
    ·cases he) (hi - lo) lo hi h (Nat.le_refl _)
/-- the join of every part -/
theorem v2_all (f t : Nat) (hft : f < t) (lo hi : Nat) (h : lo < hi) : hi ≤ 4096 → VM f t lo hi :=
 parts_ind hft (M := fun lo hi => hi ≤ 4096 → VM f t lo hi) (fun lo hi hlt hc hhi => v2_leaf f t lo hi hft hlt hhi hc) (fun lo hi hlt hc h1 h2 i1 i2 hhi => by
  intro WB bw br bc bp bj hx hT w ls c p h hl hbd
  rw [vj_cut hlt hft hc]
  have ho : ∀ x ∈ ls, NdOk x := by obtain ⟨_, _, _, _, hin⟩ := h.out.rest; exact hin.ok
  cases hv1 : vj f t lo (lo + half (hi - lo)) ls with
  | none =>
   rw [vjC_none hv1]
   exact v2_cut_none f t lo hi _ hft hlt hhi hc (hid rfl) (by omega) (by omega) (i1 (by omega)) WB bw br bc bp bj hx hT w ls c p h hl hbd hv1
  | some q =>
   obtain ⟨a, r1, c1, p1⟩ := q
   rw [vjC_some hv1]
   have hr := (vj_bd hft lo _ (by omega) _ _ _ _ _ hv1).2.2.2.2.2.2
   exact v2_cut_some f t lo hi _ hft hlt hhi hc (hid rfl) (by omega) (by omega) (i1 (by omega)) (i2 hhi) WB bw br bc bp bj hx hT w ls c p h hl hbd a r1 c1 p1 hv1 (hid (vj_okN hft lo _ (by omega) _ _ _ _ _ ho hv1)) _ rfl (fun b r2 c2 p2 e => vj_okN hft _ hi (by omega) _ _ _ _ _ (fun x hx => ho x (hr x hx)) e)) (hi - lo) lo hi h (Nat.le_refl _)
end Go.Proofs.YtmfmgeapecapiaaGreatDoor
