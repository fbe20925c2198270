/- sizarref42.Meets. sizarref42: SameNodes, SameDigests of equal lists. sizarref42: SameShown, SameMet of equal ones. sizarref42.Verify. sizarref42.VerifyMet. What is shown, as it comes in. A root, as it comes in. -/
import Derived.Test.YtmfmgeapecapiaaGreatDoorMS18
import Derived.Test.YtmfmgeapecapiaaGreatDoorMS10
import Derived.Test.YtmfmgeapecapiaaGreatDoorMS8
import Derived.Test.YtmfmgeapecapiaaGreatDoorMS3
import Derived.Test.YtmfmgeapecapiaaGreatDoorMS2
import Derived.Test.YtmfmgeapecapiaaGreatDoorMS1
import Derived.Test.YtmfmgeapecapiaaGreatDoorMS13
import Derived.Test.YtmfmgeapecapiaaGreatDoorMS17
set_option maxHeartbeats 64000001
open Go.Lib (hid)
namespace Go.Proofs.YtmfmgeapecapiaaGreatDoor
open Go.RowKit SzSha SzTree
set_option linter.unusedVariables false
set_option maxRecDepth 100000
theorem built_shCK0 : Tryz.prog.built 58 [] = some (shCK 0 ⟨0, 0, false⟩ zeroD none 0 0).toArray := by kernel_rfl
theorem rshK_no (t : Tr) (p : TrP) (i : Int) (w : World) (h : Hid (TrOk w t p)) (hbad : Hid (trG t = false ∨ i < 0 ∨ (p.n2 : Int) ≤ i)) :
  Calls Tryz.prog 26 #[trV t p, .int .i64 i] w fun e w' => e = .returned (.tuple #[.agg (shCK 0 ⟨0, 0, false⟩ zeroD none 0 0).toArray, .int .i64 420]) ∧ Below w.heap.size w w' := by
 have HKEY : Hid (trE t = 420 ∨ (trE t = 0 ∧ i < 0) ∨ (trE t = 0 ∧ ¬ i < 0 ∧ (p.n2 : Int) ≤ i)) := hid (by
  cases hg : trG t with
  | false => exact .inl (trE_no hg)
  | true =>
   rcases hbad.out with e | e | e
   ·rw [hg] at e; cases e
   ·exact .inr (.inl ⟨trE_yes hg, e⟩)
   ·by_cases h0 : i < 0
    ·exact .inr (.inl ⟨trE_yes hg, h0⟩)
    ·exact .inr (.inr ⟨trE_yes hg, h0, e⟩))
 clear hbad
 have HIT := hid (trV_info t p h.out.len)
 have HZI := hid (shCK_info (i := 0) (x := ⟨0, 0, false⟩) (A := none) (n := 0) (c := 0) zeroD_ok)
 have HZS : Hid ((#[.int .i64 0, .int .i64 0, .int .i64 0, .bool false, .int .u8 0, .int .u8 0, .int .u8 0, .int .u8 0, .int .u8 0, .int .u8 0, .int .u8 0, .int .u8 0, .int .u8 0, .int .u8 0, .int .u8 0, .int .u8 0, .int .u8 0, .int .u8 0, .int .u8 0, .int .u8 0, .int .u8 0, .int .u8 0, .int .u8 0, .int .u8 0, .int .u8 0, .int .u8 0, .int .u8 0, .int .u8 0, .int .u8 0, .int .u8 0, .int .u8 0, .int .u8 0, .int .u8 0, .int .u8 0, .int .u8 0, .int .u8 0, .slice none 0 0] : Array Value).size = (shCK 0 ⟨0, 0, false⟩ zeroD none 0 0).toArray.size) := hid (by rw [zshK])
 have hb0 := ((Below.refl _ w).alloc (Nat.le_refl _) (.cells (trC t p).toArray 27)).alloc (by simp) (.cells #[.int .i64 0, .int .i64 0, .int .i64 0, .bool false, .int .u8 0, .int .u8 0, .int .u8 0, .int .u8 0, .int .u8 0, .int .u8 0, .int .u8 0, .int .u8 0, .int .u8 0, .int .u8 0, .int .u8 0, .int .u8 0, .int .u8 0, .int .u8 0, .int .u8 0, .int .u8 0, .int .u8 0, .int .u8 0, .int .u8 0, .int .u8 0, .int .u8 0, .int .u8 0, .int .u8 0, .int .u8 0, .int .u8 0, .int .u8 0, .int .u8 0, .int .u8 0, .int .u8 0, .int .u8 0, .int .u8 0, .int .u8 0, .slice none 0 0] 58)
 have hr0 := (Below.heap_alloc (w.alloc (.cells (trC t p).toArray 27)) (.cells #[.int .i64 0, .int .i64 0, .int .i64 0, .bool false, .int .u8 0, .int .u8 0, .int .u8 0, .int .u8 0, .int .u8 0, .int .u8 0, .int .u8 0, .int .u8 0, .int .u8 0, .int .u8 0, .int .u8 0, .int .u8 0, .int .u8 0, .int .u8 0, .int .u8 0, .int .u8 0, .int .u8 0, .int .u8 0, .int .u8 0, .int .u8 0, .int .u8 0, .int .u8 0, .int .u8 0, .int .u8 0, .int .u8 0, .int .u8 0, .int .u8 0, .int .u8 0, .int .u8 0, .int .u8 0, .int .u8 0, .int .u8 0, .slice none 0 0] 58) w.heap.size (by simp)).trans (heap_alloc_new w (.cells (trC t p).toArray 27))
 have hr1 := heap_alloc_new (w.alloc (.cells (trC t p).toArray 27)) (.cells #[.int .i64 0, .int .i64 0, .int .i64 0, .bool false, .int .u8 0, .int .u8 0, .int .u8 0, .int .u8 0, .int .u8 0, .int .u8 0, .int .u8 0, .int .u8 0, .int .u8 0, .int .u8 0, .int .u8 0, .int .u8 0, .int .u8 0, .int .u8 0, .int .u8 0, .int .u8 0, .int .u8 0, .int .u8 0, .int .u8 0, .int .u8 0, .int .u8 0, .int .u8 0, .int .u8 0, .int .u8 0, .int .u8 0, .int .u8 0, .int .u8 0, .int .u8 0, .int .u8 0, .int .u8 0, .int .u8 0, .int .u8 0, .slice none 0 0] 58)
 rw [World.size_alloc] at hr1
 obtain ⟨VA, HVA⟩ : ∃ V, Hid ((w.alloc (.cells (trC t p).toArray 27)).alloc (.cells #[.int .i64 0, .int .i64 0, .int .i64 0, .bool false, .int .u8 0, .int .u8 0, .int .u8 0, .int .u8 0, .int .u8 0, .int .u8 0, .int .u8 0, .int .u8 0, .int .u8 0, .int .u8 0, .int .u8 0, .int .u8 0, .int .u8 0, .int .u8 0, .int .u8 0, .int .u8 0, .int .u8 0, .int .u8 0, .int .u8 0, .int .u8 0, .int .u8 0, .int .u8 0, .int .u8 0, .int .u8 0, .int .u8 0, .int .u8 0, .int .u8 0, .int .u8 0, .int .u8 0, .int .u8 0, .int .u8 0, .int .u8 0, .slice none 0 0] 58) = V) := ⟨_, hid rfl⟩
 rw [HVA.out] at hb0 hr0 hr1
 have HB0 := hid hb0
 have RT0 := hid hr0
 have RZ0 := hid hr1
 have KO0 := hid (h.out.below hb0)
 clear hb0 hr0 hr1
 rw [show trV t p = .agg (trC t p).toArray from rfl]
 go_enter Tryz.func26, Tryz.ntmps26
 go_wp2_with (first | (rw [HVA.out]) | (refine wpList_load_row rfl 27 (.tmp 2) rfl (w.heap.size) rfl 27 _ (0, 0) _ RT0.out Tryz.underlying27 rfl HIT.out ?_))
 rw [show Value.agg (trC t p).toArray = trV t p from rfl]
 refine (rcheck42_any t p _ KO0).mono ?_
 rintro e U1 ⟨rfl, hq⟩
 have HB2 := hid (HB0.out.trans (hq.mono HB0.out.size))
 have RT2 := hid (row_kept RT0.out hq)
 have RZ2 := hid (row_kept RZ0.out hq)
 have KO2 := hid (KO0.out.below hq)
 clear hq HB0 RT0 RZ0 KO0
 have kl : U1.cell? ⟨w.heap.size, 5, none⟩ = some (.slice p.A2 p.n2 p.c2) := by rw [cell_of_row _ _ _ _ _ _ RT2.out]; rfl
 rcases HKEY.out with e | ⟨e, hi⟩ | ⟨e, h0, hi⟩
 rotate_left
 have di : decide (i < 0) = true := eQ hi
 rotate_left
 have d0 : decide (i < 0) = false := dQ (by omega)
 have di : decide ((p.n2 : Int) ≤ i) = true := eQ hi
 all_goals
  rw [e]
  go_wp2_with (first | (refine wpList_build rfl _ _ rfl built_shCK0 ?_) | (refine wpList_store_row rfl 58 (.tmp 4) (.tmp 22) rfl (w.heap.size + 1) (shCK 0 ⟨0, 0, false⟩ zeroD none 0 0).toArray rfl rfl 58 _ RZ2.out HZI.out HZS.out (shCK_one _ _ _ _ _ _) ?_))
  have hl := run_loadVar_row (P := Tryz.prog) (World.setRow U1 (w.heap.size + 1) (shCK 0 ⟨0, 0, false⟩ zeroD none 0 0).toArray) (w.heap.size + 1) 58 58 (shCK 0 ⟨0, 0, false⟩ zeroD none 0 0).toArray (0, 0) _ (setRow_heap U1 (w.heap.size + 1) _ (shCK 0 ⟨0, 0, false⟩ zeroD none 0 0).toArray _ _ RZ2.out) Tryz.underlying58 rfl HZI.out
  refine bodyPost_ret (v := .tuple #[.agg (shCK 0 ⟨0, 0, false⟩ zeroD none 0 0).toArray, .int .i64 420]) ?_ rfl ⟨rfl, below_setRow HB2.out (Nat.le_succ _) _⟩
  simp [results, Tryz.results26, asAddr, hl]
def wR42y (W0 : World) (bt : Nat) (br : Nat) (g : Nat) (off : Nat) (m : Nat) (mc : Nat) (t : Tr) (jn : Nat) (x : Cl) (s : Dg) (A : Option Addr) (n : Nat) (c : Nat) : Nat → Value → World → Prop
 | 0, fv, _ => fv = .int .i64 ((jn : Nat))
 | 1, fv, _ => fv = .pointer (some { block := bt, off := 5 })
 | 2, fv, _ => fv = .slice (some ⟨g, off, none⟩) m mc
 | 3, fv, _ => fv = .int .i64 ((jn : Nat))
 | 4, fv, _ => fv = .pointer (some ⟨g, off + jn * 3, none⟩)
 | 5, fv, _ => fv = clV x
 | 6, fv, _ => fv = .pointer (some { block := bt, off := 6 })
 | 7, fv, _ => fv = dgV t.salt
 | 8, fv, _ => fv = .pointer (some { block := bt, off := 5 })
 | 9, fv, _ => fv = .slice (some ⟨g, off, none⟩) m mc
 | 10, fv, _ => fv = .int .i64 ((jn : Nat))
 | 11, fv, _ => fv = .pointer (some ⟨g, off + jn * 3, none⟩)
 | 12, fv, _ => fv = clV x
 | 13, fv, _ => fv = dgV s
 | 14, fv, _ => fv = .slice A n c
 | 15, fv, _ => fv = .agg (shCK (jn : Nat) x s A n c).toArray
 | 16, fv, fw => fw.heap[br]? = some (.cells (shCK (jn : Nat) x s A n c).toArray 58 (0, 0)) ∧ Below W0.heap.size W0 fw ∧ InD fw A n c (pathD (t.cl.map (lvK t.salt)) jn)
 | 17, fv, _ => fv = .int .i64 0
 | _, _, _ => True
theorem wR42y_below {W0 : World} {bt : Nat} {br : Nat} {g : Nat} {off : Nat} {m : Nat} {mc : Nat} {t : Tr} {jn : Nat} {x : Cl} {s : Dg} {A : Option Addr} {n : Nat} {c : Nat} {w w' : World} (hb : Below w.heap.size w w') : ∀ j v, wR42y W0 bt br g off m mc t jn x s A n c j v w → wR42y W0 bt br g off m mc t jn x s A n c j v w'
 | 0, v, h => h
 | 1, v, h => h
 | 2, v, h => h
 | 3, v, h => h
 | 4, v, h => h
 | 5, v, h => h
 | 6, v, h => h
 | 7, v, h => h
 | 8, v, h => h
 | 9, v, h => h
 | 10, v, h => h
 | 11, v, h => h
 | 12, v, h => h
 | 13, v, h => h
 | 14, v, h => h
 | 15, v, h => h
 | 16, v, h => ⟨row_kept h.1 hb, h.2.1.trans (hb.mono h.2.1.size), h.2.2.below hb⟩
 | 17, v, h => h
 | n + 18, v, h => trivial
theorem wR42y_pure {W0 : World} {bt : Nat} {br : Nat} {g : Nat} {off : Nat} {m : Nat} {mc : Nat} {t : Tr} {jn : Nat} {x : Cl} {s : Dg} {A : Option Addr} {n : Nat} {c : Nat} {w w' : World} : ∀ j v, j ≠ 16 → wR42y W0 bt br g off m mc t jn x s A n c j v w → wR42y W0 bt br g off m mc t jn x s A n c j v w'
 | 0, v, _, h => h
 | 1, v, _, h => h
 | 2, v, _, h => h
 | 3, v, _, h => h
 | 4, v, _, h => h
 | 5, v, _, h => h
 | 6, v, _, h => h
 | 7, v, _, h => h
 | 8, v, _, h => h
 | 9, v, _, h => h
 | 10, v, _, h => h
 | 11, v, _, h => h
 | 12, v, _, h => h
 | 13, v, _, h => h
 | 14, v, _, h => h
 | 15, v, _, h => h
 | 16, v, hh, _ => absurd rfl hh
 | 17, v, _, h => h
 | n + 18, v, _, h => trivial
theorem rshK_yes (t : Tr) (p : TrP) (jn : Nat) (x : Cl) (w : World) (h : Hid (TrOk w t p)) (hg : Hid (trG t = true)) (hj : jn < p.n2) (HX : Hid (t.cl[jn]? = some x)) :
  Calls Tryz.prog 26 #[trV t p, .int .i64 (jn : Nat)] w fun e w' => ∃ A' n' c', e = .returned (.tuple #[.agg (shCK (jn : Nat) x (saltN t.salt 2 (nCl x)) A' n' c').toArray, .int .i64 0]) ∧ InD w' A' n' c' (pathD (t.cl.map (lvK t.salt)) jn) ∧ Below w.heap.size w w' := by
 obtain ⟨s, HS⟩ : ∃ s, Hid (saltN t.salt 2 (nCl x) = s) := ⟨_, hid rfl⟩
 have HSO : Hid (DgOk s) := hid (by rw [← HS.out]; exact saltN_ok _ _ _)
 have HSA : Hid (DgOk t.salt) := hid ⟨h.out.len, h.out.bytes⟩
 have HSK := hid (dgC_infoK HSA.out)
 have HII := hid (clC_infoL4 x)
 have HN := hid (show t.cl.length = p.n2 from h.out.cl.len)
 have d0 : decide ((jn : Int) < 0) = false := dQ (by omega)
 have d1 : decide ((p.n2 : Int) ≤ (jn : Int)) = false := dQ (by omega)
 have d1n : decide (p.n2 ≤ jn) = false := dQ (by omega)
 have HJN := hid hj
 rw [HS.out]
 have HE := hid (trE_yes hg.out)
 have HNL : Hid (p.n2 ≤ 100000) := hid (by have := trG_cls hg.out; rw [h.out.cl.len] at this; exact this)
 have HIT := hid (trV_info t p h.out.len)
 have HZI := hid (shCK_info (i := 0) (x := ⟨0, 0, false⟩) (A := none) (n := 0) (c := 0) zeroD_ok)
 have HZS : Hid ((#[.int .i64 0, .int .i64 0, .int .i64 0, .bool false, .int .u8 0, .int .u8 0, .int .u8 0, .int .u8 0, .int .u8 0, .int .u8 0, .int .u8 0, .int .u8 0, .int .u8 0, .int .u8 0, .int .u8 0, .int .u8 0, .int .u8 0, .int .u8 0, .int .u8 0, .int .u8 0, .int .u8 0, .int .u8 0, .int .u8 0, .int .u8 0, .int .u8 0, .int .u8 0, .int .u8 0, .int .u8 0, .int .u8 0, .int .u8 0, .int .u8 0, .int .u8 0, .int .u8 0, .int .u8 0, .int .u8 0, .int .u8 0, .slice none 0 0] : Array Value).size = (shCK 0 ⟨0, 0, false⟩ zeroD none 0 0).toArray.size) := hid (by rw [zshK])
 have hb0 := ((Below.refl _ w).alloc (Nat.le_refl _) (.cells (trC t p).toArray 27)).alloc (by simp) (.cells #[.int .i64 0, .int .i64 0, .int .i64 0, .bool false, .int .u8 0, .int .u8 0, .int .u8 0, .int .u8 0, .int .u8 0, .int .u8 0, .int .u8 0, .int .u8 0, .int .u8 0, .int .u8 0, .int .u8 0, .int .u8 0, .int .u8 0, .int .u8 0, .int .u8 0, .int .u8 0, .int .u8 0, .int .u8 0, .int .u8 0, .int .u8 0, .int .u8 0, .int .u8 0, .int .u8 0, .int .u8 0, .int .u8 0, .int .u8 0, .int .u8 0, .int .u8 0, .int .u8 0, .int .u8 0, .int .u8 0, .int .u8 0, .slice none 0 0] 58)
 have hr0 := (Below.heap_alloc (w.alloc (.cells (trC t p).toArray 27)) (.cells #[.int .i64 0, .int .i64 0, .int .i64 0, .bool false, .int .u8 0, .int .u8 0, .int .u8 0, .int .u8 0, .int .u8 0, .int .u8 0, .int .u8 0, .int .u8 0, .int .u8 0, .int .u8 0, .int .u8 0, .int .u8 0, .int .u8 0, .int .u8 0, .int .u8 0, .int .u8 0, .int .u8 0, .int .u8 0, .int .u8 0, .int .u8 0, .int .u8 0, .int .u8 0, .int .u8 0, .int .u8 0, .int .u8 0, .int .u8 0, .int .u8 0, .int .u8 0, .int .u8 0, .int .u8 0, .int .u8 0, .int .u8 0, .slice none 0 0] 58) w.heap.size (by simp)).trans (heap_alloc_new w (.cells (trC t p).toArray 27))
 have hr1 := heap_alloc_new (w.alloc (.cells (trC t p).toArray 27)) (.cells #[.int .i64 0, .int .i64 0, .int .i64 0, .bool false, .int .u8 0, .int .u8 0, .int .u8 0, .int .u8 0, .int .u8 0, .int .u8 0, .int .u8 0, .int .u8 0, .int .u8 0, .int .u8 0, .int .u8 0, .int .u8 0, .int .u8 0, .int .u8 0, .int .u8 0, .int .u8 0, .int .u8 0, .int .u8 0, .int .u8 0, .int .u8 0, .int .u8 0, .int .u8 0, .int .u8 0, .int .u8 0, .int .u8 0, .int .u8 0, .int .u8 0, .int .u8 0, .int .u8 0, .int .u8 0, .int .u8 0, .int .u8 0, .slice none 0 0] 58)
 rw [World.size_alloc] at hr1
 obtain ⟨VA, HVA⟩ : ∃ V, Hid ((w.alloc (.cells (trC t p).toArray 27)).alloc (.cells #[.int .i64 0, .int .i64 0, .int .i64 0, .bool false, .int .u8 0, .int .u8 0, .int .u8 0, .int .u8 0, .int .u8 0, .int .u8 0, .int .u8 0, .int .u8 0, .int .u8 0, .int .u8 0, .int .u8 0, .int .u8 0, .int .u8 0, .int .u8 0, .int .u8 0, .int .u8 0, .int .u8 0, .int .u8 0, .int .u8 0, .int .u8 0, .int .u8 0, .int .u8 0, .int .u8 0, .int .u8 0, .int .u8 0, .int .u8 0, .int .u8 0, .int .u8 0, .int .u8 0, .int .u8 0, .int .u8 0, .int .u8 0, .slice none 0 0] 58) = V) := ⟨_, hid rfl⟩
 rw [HVA.out] at hb0 hr0 hr1
 have HB0 := hid hb0
 have RT0 := hid hr0
 have RZ0 := hid hr1
 have KO0 := hid (h.out.below hb0)
 clear hb0 hr0 hr1
 rw [show trV t p = .agg (trC t p).toArray from rfl]
 go_enter Tryz.func26, Tryz.ntmps26
 go_wp2_with (first | (rw [HVA.out]) | (refine wpList_load_row rfl 27 (.tmp 2) rfl (w.heap.size) rfl 27 _ (0, 0) _ RT0.out Tryz.underlying27 rfl HIT.out ?_))
 rw [show Value.agg (trC t p).toArray = trV t p from rfl]
 refine (rcheck42_any t p _ KO0).mono ?_
 rintro e U1 ⟨rfl, hq⟩
 rw [HE.out]
 have HB2 := hid (HB0.out.trans (hq.mono HB0.out.size))
 have RT2 := hid (row_kept RT0.out hq)
 have RZ2 := hid (row_kept RZ0.out hq)
 have KO2 := hid (KO0.out.below hq)
 clear hq HB0 RT0 RZ0 KO0
 have kl : U1.cell? ⟨w.heap.size, 5, none⟩ = some (.slice p.A2 p.n2 p.c2) := by rw [cell_of_row _ _ _ _ _ _ RT2.out]; rfl
 go_wp2_with (refine wpList_load_row rfl 27 (.tmp 2) rfl (w.heap.size) rfl 27 _ (0, 0) _ RT2.out Tryz.underlying27 rfl HIT.out ?_)
 clear kl
 rw [show Value.agg (trC t p).toArray = trV t p from rfl]
 refine (rcleaves_any t p _ KO2 HNL.out).mono ?_
 rintro e U3 ⟨A3, n3, c3, rfl, hin, hq⟩
 have KD0 := hid hin
 have HN3 : Hid (n3 = p.n2) := hid (by rw [← hin.len, List.length_map, HN.out])
 clear hin
 have HB4 := hid (HB2.out.trans (hq.mono HB2.out.size))
 have RT4 := hid (row_kept RT2.out hq)
 have RZ4 := hid (row_kept RZ2.out hq)
 have KO4 := hid (KO2.out.below hq)
 clear hq HB2 RT2 RZ2 KO2
 go_wp2_with fail
 have HPO : Hid (∀ y ∈ pathD (t.cl.map (lvK t.salt)) jn, DgOk y) := hid (fun y hy => ⟨(pathD_ok _ jn y hy).1, (pathD_ok _ jn y hy).2⟩)
 have HBZ := hid (Array.getElem?_eq_some_iff.1 RZ4.out).1
 refine (rPath02_own _ A3 n3 c3 jn _ (by rw [HN3.out]; exact HNL.out) (by rw [HN3.out]; exact hj) KD0).mono ?_
 rintro e U5 ⟨A, n, c, rfl, hin, hq⟩
 have KP0 := hid hin
 clear hin
 have HB6 := hid (HB4.out.trans (hq.mono HB4.out.size))
 have RT6 := hid (row_kept RT4.out hq)
 have RZ6 := hid (row_kept RZ4.out hq)
 have KO6 := hid (KO4.out.below hq)
 have KD6 := hid (KD0.out.below hq)
 clear hq HB4 RT4 RZ4 KO4 KD0
 have HS1 := hid (shCK_info (i := (jn : Nat)) (x := x) (A := A) (n := n) (c := c) HSO.out)
 have HS2 : Hid ((#[.int .i64 0, .int .i64 0, .int .i64 0, .bool false, .int .u8 0, .int .u8 0, .int .u8 0, .int .u8 0, .int .u8 0, .int .u8 0, .int .u8 0, .int .u8 0, .int .u8 0, .int .u8 0, .int .u8 0, .int .u8 0, .int .u8 0, .int .u8 0, .int .u8 0, .int .u8 0, .int .u8 0, .int .u8 0, .int .u8 0, .int .u8 0, .int .u8 0, .int .u8 0, .int .u8 0, .int .u8 0, .int .u8 0, .int .u8 0, .int .u8 0, .int .u8 0, .int .u8 0, .int .u8 0, .int .u8 0, .int .u8 0, .slice none 0 0] : Array Value).size = (shCK (jn : Nat) x s A n c).toArray.size) := hid (by have h1 := HZI.out; have h2 := HS1.out; rw [h1] at h2; rw [HZS.out]; exact (Option.some.inj h2))
 have hin := KO6.out.cl
 obtain ⟨g, off, ea, hgl, hr⟩ := hin.rd (by rw [hin.len]; omega)
 have hx : t.cl[jn]'(by rw [hin.len]; exact hj) = x := by have := HX.out; rw [List.getElem?_eq_getElem (by rw [hin.len]; exact hj)] at this; exact Option.some.inj this
 have hrx := range_elem clC_len4 hr jn (by rw [hin.len]; exact hj)
 rw [hx] at hrx
 have HR := hid hrx
 have HGL := hid hgl
 have HTC : Hid (U5.cell? ⟨w.heap.size, 5, none⟩ = some (.slice (some ⟨g, off, none⟩) p.n2 p.c2)) := hid (by rw [cell_of_row _ _ _ _ _ _ RT6.out, ← ea]; rfl)
 have HTB : Hid (w.heap.size < U5.heap.size) := hid (Array.getElem?_eq_some_iff.1 RT6.out).1
 clear hin hr hx hrx hgl ea
 go_wp2_with fail
 have HBL := hid (fun (a1 a2 : World) (hb : Below a1.heap.size a1 a2) => wR42y_below (W0 := w) (bt := w.heap.size) (br := w.heap.size + 1) (g := g) (off := off) (m := p.n2) (mc := p.c2) (t := t) (jn := jn) (x := x) (s := s) (A := A) (n := n) (c := c) hb)
 refine region_flow3 (by kernel_rfl) (by kernel_rfl) (fun i => Nat.beq i 16 || Nat.beq i 17) (fun i => i) (by kernel_rfl) (fun fx => #[trV t p, .int IntKind.i64 ↑jn, .pointer (some { block := w.heap.size, off := 0 }), undef, .pointer (some { block := w.heap.size + 1, off := 0 }), fx 17, .slice A n c, .int IntKind.i64 0, trV t p, .int IntKind.i64 0, .bool false, .bool false, .int IntKind.i64 ↑jn, .bool false, .bool false, .bool false, .int IntKind.i64 ↑jn, .pointer (some { block := w.heap.size, off := 5 }), .slice p.A2 p.n2 p.c2, .int IntKind.i64 ↑p.n2, .bool false, .bool false, undef, .tuple #[.slice A n c, .int IntKind.i64 0], trV t p, .slice A3 n3 c3, .int IntKind.i64 ↑jn, .tuple #[.slice A n c, .int IntKind.i64 0], .slice A n c, .int IntKind.i64 0, fx 0, fx 1, fx 2, fx 3, fx 4, fx 5, fx 6, fx 7, fx 8, fx 9, fx 10, fx 11, fx 12, fx 13, fx 14, fx 15]) (fun i => bif Nat.beq i 17 then Value.int IntKind.i64 0 else undef) (fun L fx w' => (L 16 = false → Below U5.heap.size U5 w')) (fun fi fv _ fw => wR42y w w.heap.size (w.heap.size + 1) g off p.n2 p.c2 t jn x s A n c fi fv fw) (fun _ => (Below.refl _ _).drew) ?_ ?_
 ·refine ⟨?_, ?_, ?_, ?_, ?_, ?_, ?_, ?_, ?_, ?_, ?_, ?_, ?_, ?_, ?_, ?_, ?_, ?_, trivial⟩
  all_goals intro L fx w' hC hi hcl hdn hd
  ·have hnd : L 16 = false := nQ hi (fun h => (hcl 15 0 (hcl 16 15 h (by kernel_rfl)) (by kernel_rfl)))
   have hb12 := hC hnd
   clear hd
   go_wp2_with fail
   exact ⟨_, rfl, fun _ => hb12, rfl, kP⟩
  ·have hnd : L 16 = false := nQ hi (fun h => (hcl 2 1 (hcl 4 2 (hcl 5 4 (hcl 15 5 (hcl 16 15 h (by kernel_rfl)) (by kernel_rfl)) (by kernel_rfl)) (by kernel_rfl)) (by kernel_rfl)))
   have hb12 := hC hnd
   clear hd
   go_wp2_with fail
   exact ⟨_, rfl, fun _ => hb12, rfl, kP⟩
  ·have h1 : fx 1 = .pointer (some { block := w.heap.size, off := 5 }) := hd.1 rfl
   have hnd : L 16 = false := nQ hi (fun h => (hcl 4 2 (hcl 5 4 (hcl 15 5 (hcl 16 15 h (by kernel_rfl)) (by kernel_rfl)) (by kernel_rfl)) (by kernel_rfl)))
   have hb12 := hC hnd
   have hcc := (hb12.cell (p := ⟨w.heap.size, 5, none⟩) HTB.out).trans HTC.out
   clear hd
   go_wp2_with fail
   exact ⟨_, by simp only [upd, h1]; rfl, fun _ => hb12, rfl, kP⟩
  ·have hnd : L 16 = false := nQ hi (fun h => (hcl 4 3 (hcl 5 4 (hcl 15 5 (hcl 16 15 h (by kernel_rfl)) (by kernel_rfl)) (by kernel_rfl)) (by kernel_rfl)))
   have hb12 := hC hnd
   clear hd
   go_wp2_with fail
   exact ⟨_, rfl, fun _ => hb12, rfl, kP⟩
  ·have h2 : fx 2 = .slice (some ⟨g, off, none⟩) p.n2 p.c2 := hd.1 rfl
   have h3 : fx 3 = .int .i64 ((jn : Nat)) := hd.2.1 rfl
   have hnd : L 16 = false := nQ hi (fun h => (hcl 5 4 (hcl 15 5 (hcl 16 15 h (by kernel_rfl)) (by kernel_rfl)) (by kernel_rfl)))
   have hb12 := hC hnd
   have hlt := HJN.out
   have hltn : decide (jn < p.n2) = true := eQ hlt
   clear hd
   go_wp2_with fail
   exact ⟨_, by simp only [upd, h2, h3]; rfl, fun _ => hb12, rfl, kP⟩
  ·have h4 : fx 4 = .pointer (some ⟨g, off + jn * 3, none⟩) := hd.1 rfl
   have hnd : L 16 = false := nQ hi (fun h => (hcl 15 5 (hcl 16 15 h (by kernel_rfl)) (by kernel_rfl)))
   have hb12 := hC hnd
   have hrow := rangeAt_below HR.out HGL.out hb12
   refine wpList_load_mid rfl 56 (.tmp 34) rfl g (off + jn * 3) h4 (clC x) _ hrow Tryz.underlying56 rfl HII.out ?_
   rw [show Value.agg (clC x).toArray = clV x from rfl]
   clear hd
   go_wp2_with fail
   exact ⟨_, by simp only [upd, h4]; rfl, fun _ => hb12, rfl, kP⟩
  ·have hnd : L 16 = false := nQ hi (fun h => (hcl 7 6 (hcl 13 7 (hcl 15 13 (hcl 16 15 h (by kernel_rfl)) (by kernel_rfl)) (by kernel_rfl)) (by kernel_rfl)))
   have hb12 := hC hnd
   clear hd
   go_wp2_with fail
   exact ⟨_, rfl, fun _ => hb12, rfl, kP⟩
  ·have h6 : fx 6 = .pointer (some { block := w.heap.size, off := 6 }) := hd.1 rfl
   have hnd : L 16 = false := nQ hi (fun h => (hcl 13 7 (hcl 15 13 (hcl 16 15 h (by kernel_rfl)) (by kernel_rfl)) (by kernel_rfl)))
   have hb12 := hC hnd
   have hrow := tr_salt (row_kept RT6.out hb12)
   refine wpList_load_mid rfl 25 (.tmp 36) rfl w.heap.size 6 h6 (dgC t.salt) _ hrow Tryz.underlying25 rfl HSK.out ?_
   clear hd
   go_wp2_with fail
   exact ⟨_, by simp only [upd, h6]; rfl, fun _ => hb12, rfl, kP⟩
  ·have hnd : L 16 = false := nQ hi (fun h => (hcl 9 8 (hcl 11 9 (hcl 12 11 (hcl 13 12 (hcl 15 13 (hcl 16 15 h (by kernel_rfl)) (by kernel_rfl)) (by kernel_rfl)) (by kernel_rfl)) (by kernel_rfl)) (by kernel_rfl)))
   have hb12 := hC hnd
   clear hd
   go_wp2_with fail
   exact ⟨_, rfl, fun _ => hb12, rfl, kP⟩
  ·have h8 : fx 8 = .pointer (some { block := w.heap.size, off := 5 }) := hd.1 rfl
   have hnd : L 16 = false := nQ hi (fun h => (hcl 11 9 (hcl 12 11 (hcl 13 12 (hcl 15 13 (hcl 16 15 h (by kernel_rfl)) (by kernel_rfl)) (by kernel_rfl)) (by kernel_rfl)) (by kernel_rfl)))
   have hb12 := hC hnd
   have hcc := (hb12.cell (p := ⟨w.heap.size, 5, none⟩) HTB.out).trans HTC.out
   clear hd
   go_wp2_with fail
   exact ⟨_, by simp only [upd, h8]; rfl, fun _ => hb12, rfl, kP⟩
  ·have hnd : L 16 = false := nQ hi (fun h => (hcl 11 10 (hcl 12 11 (hcl 13 12 (hcl 15 13 (hcl 16 15 h (by kernel_rfl)) (by kernel_rfl)) (by kernel_rfl)) (by kernel_rfl)) (by kernel_rfl)))
   have hb12 := hC hnd
   clear hd
   go_wp2_with fail
   exact ⟨_, rfl, fun _ => hb12, rfl, kP⟩
  ·have h9 : fx 9 = .slice (some ⟨g, off, none⟩) p.n2 p.c2 := hd.1 rfl
   have h10 : fx 10 = .int .i64 ((jn : Nat)) := hd.2.1 rfl
   have hnd : L 16 = false := nQ hi (fun h => (hcl 12 11 (hcl 13 12 (hcl 15 13 (hcl 16 15 h (by kernel_rfl)) (by kernel_rfl)) (by kernel_rfl)) (by kernel_rfl)))
   have hb12 := hC hnd
   have hlt := HJN.out
   have hltn : decide (jn < p.n2) = true := eQ hlt
   clear hd
   go_wp2_with fail
   exact ⟨_, by simp only [upd, h9, h10]; rfl, fun _ => hb12, rfl, kP⟩
  ·have h11 : fx 11 = .pointer (some ⟨g, off + jn * 3, none⟩) := hd.1 rfl
   have hnd : L 16 = false := nQ hi (fun h => (hcl 13 12 (hcl 15 13 (hcl 16 15 h (by kernel_rfl)) (by kernel_rfl)) (by kernel_rfl)))
   have hb12 := hC hnd
   have hrow := rangeAt_below HR.out HGL.out hb12
   refine wpList_load_mid rfl 56 (.tmp 41) rfl g (off + jn * 3) h11 (clC x) _ hrow Tryz.underlying56 rfl HII.out ?_
   rw [show Value.agg (clC x).toArray = clV x from rfl]
   clear hd
   go_wp2_with fail
   exact ⟨_, by simp only [upd, h11]; rfl, fun _ => hb12, rfl, kP⟩
  ·have h7 : fx 7 = dgV t.salt := hd.1 rfl
   have h12 : fx 12 = clV x := hd.2.1 rfl
   have hnd : L 16 = false := nQ hi (fun h => (hcl 15 13 (hcl 16 15 h (by kernel_rfl)) (by kernel_rfl)))
   have hb12 := hC hnd
   clear hd
   go_wp2_with fail
   refine (rsaltK t.salt x w' HSA).mono ?_
   rintro e w2 ⟨rfl, hq⟩
   rw [HS.out]
   go_wp2_with fail
   exact ⟨_, by simp only [upd, h7, h12]; rfl, fun _ => hb12.trans (hq.mono hb12.size), rfl, fun j v t _ _ h => HBL.out _ _ hq j v h⟩
  ·have hnd : L 16 = false := nQ hi (fun h => (hcl 15 14 (hcl 16 15 h (by kernel_rfl)) (by kernel_rfl)))
   have hb12 := hC hnd
   clear hd
   go_wp2_with fail
   exact ⟨_, rfl, fun _ => hb12, rfl, kP⟩
  ·have h0 : fx 0 = .int .i64 ((jn : Nat)) := hd.1 rfl
   have h5 : fx 5 = clV x := hd.2.1 rfl
   have h13 : fx 13 = dgV s := hd.2.2.1 rfl
   have h14 : fx 14 = .slice A n c := hd.2.2.2.1 rfl
   have hnd : L 16 = false := nQ hi (fun h => (hcl 16 15 h (by kernel_rfl)))
   have hb12 := hC hnd
   refine wpList_build_shK rfl (.tmp 30) (.tmp 35) (.tmp 43) (.tmp 44) rfl (jn : Nat) x s A n c HSO.out.len h0 h5 h13 h14 ?_
   clear hd
   go_wp2_with fail
   exact ⟨_, by simp only [upd, h0, h5, h13, h14]; rfl, fun _ => hb12, rfl, kP⟩
  ·have h15 : fx 15 = .agg (shCK (jn : Nat) x s A n c).toArray := hd.1 rfl
   have hb21 := hC hi
   have hrow := row_kept RZ6.out hb21
   refine wpList_store_row rfl 58 (.tmp 4) (.tmp 45) rfl (w.heap.size + 1) (shCK (jn : Nat) x s A n c).toArray rfl h15 58 _ hrow HS1.out HS2.out (shCK_one _ _ _ _ _ _) ?_
   clear hd
   go_wp2_with fail
   refine ⟨undef, by rw [← h15]; rfl, fun h => (updB_self h).elim, ⟨setRow_heap _ _ _ _ _ _ hrow, below_setRow (HB6.out.trans (hb21.mono HB6.out.size)) (Nat.le_succ _) _, ownD_setRow HBZ.out (KP0.out.below hb21) HPO.out _⟩, fun j v t hj hu h => ?_⟩
   refine wR42y_pure j v ?_ h
   intro e
   subst e
   rw [hi] at hj; cases hj
  ·clear hd
   go_wp2_with fail
   exact ⟨_, rfl, fun h => hC h, rfl, kP⟩
 ·intro L fo w' hC hS
  have H16 := hid (hS 16 (by decide) rfl)
  have H17 := hid (hS 17 (by decide) rfl)
  have h17 : fo 17 = .int .i64 0 := H17.out
  rw [h17]
  clear hS hC h17 H17
  go_wp2_with fail
  have hl := run_loadVar_row (P := Tryz.prog) w' (w.heap.size + 1) 58 58 (shCK (jn : Nat) x s A n c).toArray (0, 0) _ H16.out.1 Tryz.underlying58 rfl HS1.out
  refine bodyPost_ret (v := .tuple #[.agg (shCK (jn : Nat) x s A n c).toArray, .int .i64 0]) ?_ rfl ⟨_, _, _, rfl, H16.out.2.2, H16.out.2.1⟩
  simp [results, Tryz.results26, asAddr, hl]
def wR42n (g : Nat) (off : Nat) (n : Nat) (c : Nat) (g2 : Nat) (off2 : Nat) (c2 : Nat) (jn : Nat) (x : Nd) : Nat → Value → World → Prop
 | 0, fv, _ => fv = .slice (some ⟨g, off, none⟩) n c
 | 1, fv, _ => fv = .int .i64 ((jn : Nat))
 | 2, fv, _ => fv = .pointer (some ⟨g, off + jn * 34, none⟩)
 | 3, fv, _ => fv = ndV x
 | 4, fv, _ => fv = .slice (some ⟨g2, off2, none⟩) n c2
 | 5, fv, _ => fv = .int .i64 ((jn : Nat))
 | 6, fv, _ => fv = .pointer (some ⟨g2, off2 + jn * 34, none⟩)
 | 7, fv, _ => fv = ndV x
 | 8, fv, _ => fv = .bool false
 | _, _, _ => True
theorem rsameN (ls : List Nd) (A A2 : Option Addr) (n c c2 : Nat) (w : World) (hn : n ≤ 100000) (h : Hid (InN w A n c ls)) (h2 : Hid (InN w A2 n c2 ls)) :
  Calls Tryz.prog 16 #[.slice A n c, .slice A2 n c2] w fun e w' => e = .returned (.bool true) ∧ Below w.heap.size w w' := by
 have HN := hid (show ls.length = n from h.out.len)
 have HB0 := hid (Below.refl w.heap.size w)
 have dn : ((n : Int) == (n : Int)) = true := beq_self_eq_true _
 have dn2 : ((n : Int) != (n : Int)) = false := by simp
 go_enter Tryz.func16, Tryz.ntmps16
 go_wp2_with fail
 go_loopw [5] (fun i wr => ∃ (j : Nat), j ≤ n ∧ i = .int .i64 j ∧ Hid (Below w.heap.size w wr)) (fun i _ => n - (intOf i).toNat)
 case atStart => exact ⟨0, by omega, rfl, HB0⟩
 case round =>
  clear HB0
  obtain ⟨j, hj, rfl, HB⟩ := hrel
  by_cases hlt : j < n
  ·have d1 : decide ((j : Int) < (n : Int)) = true := eQ (by omega)
   have d2 : decide (j < n) = true := eQ hlt
   have HLT := hid hlt
   have hjl : j < ls.length := by rw [HN.out]; exact hlt
   obtain ⟨g, off, rfl, hg1, hr1⟩ := h.out.rd (by omega)
   obtain ⟨g2, off2, rfl, hg2, hr2⟩ := h2.out.rd (by omega)
   obtain ⟨x, hx⟩ : ∃ x, ls[j] = x := ⟨_, rfl⟩
   have HXO : Hid (NdOk x) := hid (by rw [← hx]; exact h.out.ok _ (List.getElem_mem hjl))
   have HR1 : Hid (wr.rangeAt g (off + j * 34) (ndC x)) := hid (by rw [← hx]; exact rangeAt_below (range_one hr1 h.out.ok j hjl) hg1 HB.out)
   have HR2 : Hid (wr.rangeAt g2 (off2 + j * 34) (ndC x)) := hid (by rw [← hx]; exact rangeAt_below (range_one hr2 h2.out.ok j hjl) hg2 HB.out)
   have HG1 : Hid (g < wr.heap.size) := hid (Nat.lt_of_lt_of_le hg1 HB.out.size)
   have HG2 : Hid (g2 < wr.heap.size) := hid (Nat.lt_of_lt_of_le hg2 HB.out.size)
   have HII := hid (size34 HXO.out)
   clear hr1 hr2 hx hg1 hg2 hjl
   go_wp2_with fail
   refine region_flow3 (by kernel_rfl) (by kernel_rfl) (fun i => Nat.beq i 8) (fun i => i) (by kernel_rfl) (fun fx => #[.slice (some { block := g, off := off }) n c, .slice (some { block := g2, off := off2 }) n c2, undef, undef, u4, .int IntKind.i64 ↑j, .slice (some { block := g, off := off }) n c, .int IntKind.i64 ↑n, .slice (some { block := g2, off := off2 }) n c2, .int IntKind.i64 ↑n, .bool false, .int IntKind.i64 ↑j, .slice (some { block := g, off := off }) n c, .int IntKind.i64 ↑n, .bool true, u15, u16, fx 0, fx 1, fx 2, fx 3, fx 4, fx 5, fx 6, fx 7, fx 8]) (fun i => bif Nat.beq i 0 then u17 else bif Nat.beq i 1 then u18 else bif Nat.beq i 2 then u19 else bif Nat.beq i 3 then u20 else bif Nat.beq i 4 then u21 else bif Nat.beq i 5 then u22 else bif Nat.beq i 6 then u23 else bif Nat.beq i 7 then u24 else bif Nat.beq i 8 then u25 else undef) (fun L fx w' => Below wr.heap.size wr w') (fun fi fv _ fw => wR42n g off n c g2 off2 c2 j x fi fv fw) (Below.refl _ _).drew ?_ ?_
   ·refine ⟨?_, ?_, ?_, ?_, ?_, ?_, ?_, ?_, ?_, trivial⟩
    all_goals intro L fx w' hC hi hcl hdn hd
    ·clear hd
     go_wp2_with fail
     exact ⟨_, rfl, hC, rfl, kP⟩
    ·clear hd
     go_wp2_with fail
     exact ⟨_, rfl, hC, rfl, kP⟩
    ·have h0 : fx 0 = .slice (some ⟨g, off, none⟩) n c := hd.1 rfl
     have h1 : fx 1 = .int .i64 ((j : Nat)) := hd.2.1 rfl
     have hlt := HLT.out
     have hltn : decide (j < n) = true := eQ hlt
     clear hd
     go_wp2_with fail
     exact ⟨_, by simp only [upd, h0, h1]; rfl, hC, rfl, kP⟩
    ·have h2 : fx 2 = .pointer (some ⟨g, off + j * 34, none⟩) := hd.1 rfl
     have hrow := rangeAt_below HR1.out HG1.out hC
     refine wpList_load_mid rfl 39 (.tmp 19) rfl g (off + j * 34) h2 (ndC x) _ hrow Tryz.underlying39 rfl HII.out ?_
     rw [show Value.agg (ndC x).toArray = ndV x from rfl]
     clear hd
     go_wp2_with fail
     exact ⟨_, by simp only [upd, h2]; rfl, hC, rfl, kP⟩
    ·clear hd
     go_wp2_with fail
     exact ⟨_, rfl, hC, rfl, kP⟩
    ·clear hd
     go_wp2_with fail
     exact ⟨_, rfl, hC, rfl, kP⟩
    ·have h4 : fx 4 = .slice (some ⟨g2, off2, none⟩) n c2 := hd.1 rfl
     have h5 : fx 5 = .int .i64 ((j : Nat)) := hd.2.1 rfl
     have hlt := HLT.out
     have hltn : decide (j < n) = true := eQ hlt
     clear hd
     go_wp2_with fail
     exact ⟨_, by simp only [upd, h4, h5]; rfl, hC, rfl, kP⟩
    ·have h6 : fx 6 = .pointer (some ⟨g2, off2 + j * 34, none⟩) := hd.1 rfl
     have hrow := rangeAt_below HR2.out HG2.out hC
     refine wpList_load_mid rfl 39 (.tmp 23) rfl g2 (off2 + j * 34) h6 (ndC x) _ hrow Tryz.underlying39 rfl HII.out ?_
     rw [show Value.agg (ndC x).toArray = ndV x from rfl]
     clear hd
     go_wp2_with fail
     exact ⟨_, by simp only [upd, h6]; rfl, hC, rfl, kP⟩
    ·have h3 : fx 3 = ndV x := hd.1 rfl
     have h7 : fx 7 = ndV x := hd.2.1 rfl
     refine wpList_neq_nd rfl (.tmp 20) (.tmp 24) _ rfl x x h3 h7 HXO.out HXO.out ?_
     rw [show (!(ndEq x x)) = false by rw [ndEq_refl]; rfl]
     clear hd
     go_wp2_with fail
     exact ⟨_, by simp only [upd, h3, h7]; rfl, hC, rfl, kP⟩
   ·intro L fo w' hC hS
    have H8 := hid (hS 8 (by decide) rfl)
    have h8 : fo 8 = .bool false := H8.out
    rw [h8]
    have HB5 := hid (HB.out.trans (hC.mono HB.out.size))
    clear hS hC h8 H8
    go_wp2_with fail
    go_roundw
    case rel => exact ⟨j + 1, by omega, by go_num, HB5⟩
    case measure => simp [intOf]; omega
  ·have d1 : decide ((j : Int) < (n : Int)) = false := dQ (by omega)
   have d1n : decide (j < n) = false := dQ hlt
   go_wp2_with fail
   go_ret
   exact ⟨rfl, HB.out⟩
def wR42d (g : Nat) (off : Nat) (n : Nat) (c : Nat) (g2 : Nat) (off2 : Nat) (c2 : Nat) (jn : Nat) (x : Dg) : Nat → Value → World → Prop
 | 0, fv, _ => fv = .slice (some ⟨g, off, none⟩) n c
 | 1, fv, _ => fv = .int .i64 ((jn : Nat))
 | 2, fv, _ => fv = .pointer (some ⟨g, off + jn * 32, none⟩)
 | 3, fv, _ => fv = dgV x
 | 4, fv, _ => fv = .slice (some ⟨g2, off2, none⟩) n c2
 | 5, fv, _ => fv = .int .i64 ((jn : Nat))
 | 6, fv, _ => fv = .pointer (some ⟨g2, off2 + jn * 32, none⟩)
 | 7, fv, _ => fv = dgV x
 | 8, fv, _ => fv = .bool false
 | _, _, _ => True
theorem rsameD (ls : List Dg) (A A2 : Option Addr) (n c c2 : Nat) (w : World) (hn : n ≤ 100000) (h : Hid (InD w A n c ls)) (h2 : Hid (InD w A2 n c2 ls)) :
  Calls Tryz.prog 62 #[.slice A n c, .slice A2 n c2] w fun e w' => e = .returned (.bool true) ∧ Below w.heap.size w w' := by
 have HN := hid (show ls.length = n from h.out.len)
 have HB0 := hid (Below.refl w.heap.size w)
 have dn : ((n : Int) == (n : Int)) = true := beq_self_eq_true _
 have dn2 : ((n : Int) != (n : Int)) = false := by simp
 go_enter Tryz.func62, Tryz.ntmps62
 go_wp2_with fail
 go_loopw [5] (fun i wr => ∃ (j : Nat), j ≤ n ∧ i = .int .i64 j ∧ Hid (Below w.heap.size w wr)) (fun i _ => n - (intOf i).toNat)
 case atStart => exact ⟨0, by omega, rfl, HB0⟩
 case round =>
  clear HB0
  obtain ⟨j, hj, rfl, HB⟩ := hrel
  by_cases hlt : j < n
  ·have d1 : decide ((j : Int) < (n : Int)) = true := eQ (by omega)
   have d2 : decide (j < n) = true := eQ hlt
   have HLT := hid hlt
   have hjl : j < ls.length := by rw [HN.out]; exact hlt
   obtain ⟨g, off, rfl, hg1, hr1⟩ := h.out.rd (by omega)
   obtain ⟨g2, off2, rfl, hg2, hr2⟩ := h2.out.rd (by omega)
   obtain ⟨x, hx⟩ : ∃ x, ls[j] = x := ⟨_, rfl⟩
   have HXO : Hid (DgOk x) := hid (by rw [← hx]; exact h.out.ok _ (List.getElem_mem hjl))
   have HR1 : Hid (wr.rangeAt g (off + j * 32) (dgC x)) := hid (by rw [← hx]; exact rangeAt_below (rangeD_one hr1 h.out.ok j hjl) hg1 HB.out)
   have HR2 : Hid (wr.rangeAt g2 (off2 + j * 32) (dgC x)) := hid (by rw [← hx]; exact rangeAt_below (rangeD_one hr2 h2.out.ok j hjl) hg2 HB.out)
   have HG1 : Hid (g < wr.heap.size) := hid (Nat.lt_of_lt_of_le hg1 HB.out.size)
   have HG2 : Hid (g2 < wr.heap.size) := hid (Nat.lt_of_lt_of_le hg2 HB.out.size)
   have HII := hid (dgC_infoL HXO.out)
   clear hr1 hr2 hx hg1 hg2 hjl
   go_wp2_with fail
   refine region_flow3 (by kernel_rfl) (by kernel_rfl) (fun i => Nat.beq i 8) (fun i => i) (by kernel_rfl) (fun fx => #[.slice (some { block := g, off := off }) n c, .slice (some { block := g2, off := off2 }) n c2, undef, undef, u4, .int IntKind.i64 ↑j, .slice (some { block := g, off := off }) n c, .int IntKind.i64 ↑n, .slice (some { block := g2, off := off2 }) n c2, .int IntKind.i64 ↑n, .bool false, .int IntKind.i64 ↑j, .slice (some { block := g, off := off }) n c, .int IntKind.i64 ↑n, .bool true, u15, u16, fx 0, fx 1, fx 2, fx 3, fx 4, fx 5, fx 6, fx 7, fx 8]) (fun i => bif Nat.beq i 0 then u17 else bif Nat.beq i 1 then u18 else bif Nat.beq i 2 then u19 else bif Nat.beq i 3 then u20 else bif Nat.beq i 4 then u21 else bif Nat.beq i 5 then u22 else bif Nat.beq i 6 then u23 else bif Nat.beq i 7 then u24 else bif Nat.beq i 8 then u25 else undef) (fun L fx w' => Below wr.heap.size wr w') (fun fi fv _ fw => wR42d g off n c g2 off2 c2 j x fi fv fw) (Below.refl _ _).drew ?_ ?_
   ·refine ⟨?_, ?_, ?_, ?_, ?_, ?_, ?_, ?_, ?_, trivial⟩
    all_goals intro L fx w' hC hi hcl hdn hd
    ·clear hd
     go_wp2_with fail
     exact ⟨_, rfl, hC, rfl, kP⟩
    ·clear hd
     go_wp2_with fail
     exact ⟨_, rfl, hC, rfl, kP⟩
    ·have h0 : fx 0 = .slice (some ⟨g, off, none⟩) n c := hd.1 rfl
     have h1 : fx 1 = .int .i64 ((j : Nat)) := hd.2.1 rfl
     have hlt := HLT.out
     have hltn : decide (j < n) = true := eQ hlt
     clear hd
     go_wp2_with fail
     exact ⟨_, by simp only [upd, h0, h1]; rfl, hC, rfl, kP⟩
    ·have h2 : fx 2 = .pointer (some ⟨g, off + j * 32, none⟩) := hd.1 rfl
     have hrow := rangeAt_below HR1.out HG1.out hC
     refine wpList_load_mid rfl 25 (.tmp 19) rfl g (off + j * 32) h2 (dgC x) _ hrow Tryz.underlying25 rfl HII.out ?_
     rw [show Value.agg (dgC x).toArray = dgV x from rfl]
     clear hd
     go_wp2_with fail
     exact ⟨_, by simp only [upd, h2]; rfl, hC, rfl, kP⟩
    ·clear hd
     go_wp2_with fail
     exact ⟨_, rfl, hC, rfl, kP⟩
    ·clear hd
     go_wp2_with fail
     exact ⟨_, rfl, hC, rfl, kP⟩
    ·have h4 : fx 4 = .slice (some ⟨g2, off2, none⟩) n c2 := hd.1 rfl
     have h5 : fx 5 = .int .i64 ((j : Nat)) := hd.2.1 rfl
     have hlt := HLT.out
     have hltn : decide (j < n) = true := eQ hlt
     clear hd
     go_wp2_with fail
     exact ⟨_, by simp only [upd, h4, h5]; rfl, hC, rfl, kP⟩
    ·have h6 : fx 6 = .pointer (some ⟨g2, off2 + j * 32, none⟩) := hd.1 rfl
     have hrow := rangeAt_below HR2.out HG2.out hC
     refine wpList_load_mid rfl 25 (.tmp 23) rfl g2 (off2 + j * 32) h6 (dgC x) _ hrow Tryz.underlying25 rfl HII.out ?_
     rw [show Value.agg (dgC x).toArray = dgV x from rfl]
     clear hd
     go_wp2_with fail
     exact ⟨_, by simp only [upd, h6]; rfl, hC, rfl, kP⟩
    ·have h3 : fx 3 = dgV x := hd.1 rfl
     have h7 : fx 7 = dgV x := hd.2.1 rfl
     refine wpList_neq_dg rfl (.tmp 20) (.tmp 24) _ rfl x x h3 h7 HXO.out HXO.out ?_
     rw [show (!(x == x)) = false by simp]
     clear hd
     go_wp2_with fail
     exact ⟨_, by simp only [upd, h3, h7]; rfl, hC, rfl, kP⟩
   ·intro L fo w' hC hS
    have H8 := hid (hS 8 (by decide) rfl)
    have h8 : fo 8 = .bool false := H8.out
    rw [h8]
    have HB5 := hid (HB.out.trans (hC.mono HB.out.size))
    clear hS hC h8 H8
    go_wp2_with fail
    go_roundw
    case rel => exact ⟨j + 1, by omega, by go_num, HB5⟩
    case measure => simp [intOf]; omega
  ·have d1 : decide ((j : Int) < (n : Int)) = false := dQ (by omega)
   have d1n : decide (j < n) = false := dQ hlt
   go_wp2_with fail
   go_ret
   exact ⟨rfl, HB.out⟩
theorem rsameShK (i : Int) (x : Cl) (s : Dg) (ls : List Dg) (A A2 : Option Addr) (n c c2 : Nat) (w : World) (hs : Hid (DgOk s)) (hn : n ≤ 100000) (h : Hid (InD w A n c ls)) (h2 : Hid (InD w A2 n c2 ls)) :
  Calls Tryz.prog 27 #[.agg (shCK i x s A n c).toArray, .agg (shCK i x s A2 n c2).toArray] w fun e w' => e = .returned (.bool true) ∧ Below w.heap.size w w' := by
 have HXX : Hid (clEq x x = true) := hid ((clEq_iff x x).2 rfl)
 have HSS : Hid ((s == s) = true) := hid (beq_self_eq_true _)
 have HSO := hs
 have HIX := hid (clC_infoL x)
 have HIS := hid (dgC_infoK hs.out)
 have dii : ((i : Int) == (i : Int)) = true := beq_self_eq_true _
 have hb0 := ((Below.refl _ w).alloc (Nat.le_refl _) (.cells (shCK i x s A n c).toArray 58)).alloc (by simp) (.cells (shCK i x s A2 n c2).toArray 58)
 have hr0 := (Below.heap_alloc (w.alloc (.cells (shCK i x s A n c).toArray 58)) (.cells (shCK i x s A2 n c2).toArray 58) w.heap.size (by simp)).trans (heap_alloc_new w (.cells (shCK i x s A n c).toArray 58))
 have hr1 := heap_alloc_new (w.alloc (.cells (shCK i x s A n c).toArray 58)) (.cells (shCK i x s A2 n c2).toArray 58)
 rw [World.size_alloc] at hr1
 obtain ⟨VA, HVA⟩ : ∃ V, Hid ((w.alloc (.cells (shCK i x s A n c).toArray 58)).alloc (.cells (shCK i x s A2 n c2).toArray 58) = V) := ⟨_, hid rfl⟩
 rw [HVA.out] at hb0 hr0 hr1
 have HB0 := hid hb0
 have KD1 := hid (h.out.below hb0)
 have KD2 := hid (h2.out.below hb0)
 have HX1 := hid (shCK_x hr0)
 have HX2 := hid (shCK_x hr1)
 have HS1 := hid (shCK_s hr0)
 have HS2 := hid (shCK_s hr1)
 have kp1 := shCK_p hs.out hr0
 have kp2 := shCK_p hs.out hr1
 have k1 : VA.cell? ⟨w.heap.size, 0, none⟩ = some (.int .i64 i) := by rw [cell_of_row _ _ _ _ _ _ hr0]; rfl
 have k2 : VA.cell? ⟨w.heap.size + 1, 0, none⟩ = some (.int .i64 i) := by rw [cell_of_row _ _ _ _ _ _ hr1]; rfl
 clear hb0 hr0 hr1
 go_enter Tryz.func27, Tryz.ntmps27
 go_wp2_with (first | (rw [HVA.out]) | (with_reducible refine wpList_here ?_; refine wpList_load_mid_g 56 (.tmp 11) rfl rfl w.heap.size 1 rfl (clC x) _ HX1.out Tryz.underlying56 rfl HIX.out ?_; rw [show Value.agg (clC x).toArray = clV x from rfl]) | (with_reducible refine wpList_here ?_; refine wpList_load_mid_g 56 (.tmp 13) rfl rfl (w.heap.size + 1) 1 rfl (clC x) _ HX2.out Tryz.underlying56 rfl HIX.out ?_; rw [show Value.agg (clC x).toArray = clV x from rfl]) | (with_reducible refine wpList_here ?_; refine wpList_unguard rfl ?_; refine wpList_eql_cl rfl (.tmp 12) (.tmp 14) _ rfl x x rfl rfl ?_; rw [HXX.out]) | (with_reducible refine wpList_here ?_; refine wpList_load_mid_g 25 (.tmp 18) rfl rfl w.heap.size 4 rfl (dgC s) _ HS1.out Tryz.underlying25 rfl HIS.out ?_; rw [show Value.agg (dgC s).toArray = dgV s from rfl]) | (with_reducible refine wpList_here ?_; refine wpList_load_mid_g 25 (.tmp 20) rfl rfl (w.heap.size + 1) 4 rfl (dgC s) _ HS2.out Tryz.underlying25 rfl HIS.out ?_; rw [show Value.agg (dgC s).toArray = dgV s from rfl]) | (with_reducible refine wpList_here ?_; refine wpList_eql_dg_g (.tmp 19) (.tmp 21) _ rfl rfl s s rfl rfl HSO.out.len HSO.out.len HSO.out.bytes HSO.out.bytes ?_; rw [HSS.out]))
 refine (rsameD ls A A2 n c c2 _ hn KD1 KD2).mono ?_
 rintro e W2 ⟨rfl, hq⟩
 have HB2 := hid (HB0.out.trans (hq.mono HB0.out.size))
 clear hq
 go_wp2_with fail
 go_ret
 exact ⟨rfl, HB2.out⟩
theorem wpList_neq_dg_g {w : World} {ops : Array Oper} {rest : List Oper} {o : Oper} {a : Act} {Q : Exit → Act → World → Prop} (x y : Operand) (t : TypeId) (hw : Region.wanted o (yielded ops a.tmps) = true)
  (ho : o.op = .binOp .neq 25 x y t) (l m : List Nat) (hx : a.eval x = dgV l) (hy : a.eval y = dgV m) (hl : DgOk l) (hm : DgOk m)
  (h : wpList Tryz.prog ops Q rest (a.put o.dst (.bool (!(l == m)))) w) : wpList Tryz.prog ops Q (o :: rest) a w :=
 wpList_unguard hw (wpList_neq_dg (o := { o with guard := none }) rfl x y t ho l m hx hy hl hm h)
def wR42v (W1 : World) (bs : Nat) (br : Nat) (r : Rt) (i : Int) (x : Cl) (s : Dg) (d : Dg) (A : Option Addr) (n : Nat) (c : Nat) (dr : Dg) (de : Int) : Nat → Value → Value → World → Prop
 | 0, fv, _, _ => fv = .pointer (some { block := bs, off := 1 })
 | 1, fv, _, _ => fv = clV x
 | 2, fv, _, _ => fv = .pointer (some { block := bs, off := 4 })
 | 3, fv, _, _ => fv = dgV s
 | 4, fv, _, _ => fv = dgV d
 | 5, fv, _, _ => fv = .pointer (some { block := bs, off := 0 })
 | 6, fv, _, _ => fv = .int .i64 (i)
 | 7, fv, _, _ => fv = .pointer (some { block := br, off := 5 })
 | 8, fv, _, _ => fv = .int .i64 (r.cla)
 | 9, fv, _, _ => fv = .pointer (some { block := bs, off := 36 })
 | 10, fv, _, _ => fv = .slice A n c
 | 11, fv, _, _ => fv = .tuple #[dgV dr, .int .i64 de]
 | 12, fv, _, _ => fv = .tuple #[dgV dr, .int .i64 de]
 | 13, fv, _, _ => fv = dgV dr
 | 14, fv, _, _ => fv = .int .i64 (de)
 | 15, fv, _, _ => fv = fv
 | 16, fv, _, _ => fv = fv
 | 17, fv, fu, fw => fv = .int .i64 de ∧ ∃ q, fu = .pointer (some ⟨q, 0, none⟩) ∧ fw.heap[q]? = some (.cells (dgC dr).toArray 25 (0, 0)) ∧ Below W1.heap.size W1 fw
 | _, _, _, _ => True
theorem wR42v_below {W1 : World} {bs : Nat} {br : Nat} {r : Rt} {i : Int} {x : Cl} {s : Dg} {d : Dg} {A : Option Addr} {n : Nat} {c : Nat} {dr : Dg} {de : Int} {w w' : World} (hb : Below w.heap.size w w') : ∀ j v u, wR42v W1 bs br r i x s d A n c dr de j v u w → wR42v W1 bs br r i x s d A n c dr de j v u w'
 | 0, v, u, h => h
 | 1, v, u, h => h
 | 2, v, u, h => h
 | 3, v, u, h => h
 | 4, v, u, h => h
 | 5, v, u, h => h
 | 6, v, u, h => h
 | 7, v, u, h => h
 | 8, v, u, h => h
 | 9, v, u, h => h
 | 10, v, u, h => h
 | 11, v, u, h => h
 | 12, v, u, h => h
 | 13, v, u, h => h
 | 14, v, u, h => h
 | 15, v, u, h => h
 | 16, v, u, h => h
 | 17, v, u, ⟨h0, q, h1, h2, h3⟩ => ⟨h0, q, h1, row_kept h2 hb, h3.trans (hb.mono h3.size)⟩
 | n + 18, v, u, h => trivial
theorem wR42v_pure {W1 : World} {bs : Nat} {br : Nat} {r : Rt} {i : Int} {x : Cl} {s : Dg} {d : Dg} {A : Option Addr} {n : Nat} {c : Nat} {dr : Dg} {de : Int} {w w' : World} : ∀ j v u, j ≠ 17 → wR42v W1 bs br r i x s d A n c dr de j v u w → wR42v W1 bs br r i x s d A n c dr de j v u w'
 | 0, v, u, _, h => h
 | 1, v, u, _, h => h
 | 2, v, u, _, h => h
 | 3, v, u, _, h => h
 | 4, v, u, _, h => h
 | 5, v, u, _, h => h
 | 6, v, u, _, h => h
 | 7, v, u, _, h => h
 | 8, v, u, _, h => h
 | 9, v, u, _, h => h
 | 10, v, u, _, h => h
 | 11, v, u, _, h => h
 | 12, v, u, _, h => h
 | 13, v, u, _, h => h
 | 14, v, u, _, h => h
 | 15, v, u, _, h => h
 | 16, v, u, _, h => h
 | 17, v, u, hh, _ => absurd rfl hh
 | n + 18, v, u, _, h => trivial
def cVm (W1 : World) (dr : Dg) (L : Nat → Bool) (fx : Nat → Value) (w' : World) : Prop := Below W1.heap.size W1 w' ∧ (L 15 = true → ∃ q, fx 15 = .pointer (some ⟨q, 0, none⟩) ∧ W1.heap.size ≤ q ∧ q < w'.heap.size ∧ w'.heap[q]? = some (.cells (dgC (bif L 16 then dr else zeroD)).toArray 25 (0, 0)))
theorem cVm.below {W1 : World} {dr : Dg} {L : Nat → Bool} {fx : Nat → Value} {w' w2 : World} (h : cVm W1 dr L fx w') (hb : Below w'.heap.size w' w2) : cVm W1 dr L fx w2 := by
 refine ⟨h.1.trans (hb.mono h.1.size), fun h10 => ?_⟩
 obtain ⟨q, e, h1, h2, h3⟩ := h.2 h10
 exact ⟨q, e, h1, Nat.lt_of_lt_of_le h2 hb.size, row_kept h3 hb⟩
theorem rvmet_0 (r : Rt) (i : Int) (x : Cl) (s : Dg) (A : Option Addr) (n c : Nat) (ps : List Dg) (w : World) (hx : Hid (ClOk x)) (hs : Hid (DgOk s)) (hr : Hid (RtOk r)) (hn : n ≤ 100000) (h : Hid (InD w A n c ps)) (hv : Hid (vCl x = false)) :
  Calls Tryz.prog 29 #[.agg (rtC r).toArray, .agg (shCK i x s A n c).toArray] w fun e w' => e = .returned (.int .i64 420) ∧ Below w.heap.size w w' := by
 have HLX := hid (clC_infoL4 x)
 have hb0 := ((Below.refl _ w).alloc (Nat.le_refl _) (.cells (rtC r).toArray 43)).alloc (by simp) (.cells (shCK i x s A n c).toArray 58)
 have hr0 := (Below.heap_alloc (w.alloc (.cells (rtC r).toArray 43)) (.cells (shCK i x s A n c).toArray 58) w.heap.size (by simp)).trans (heap_alloc_new w (.cells (rtC r).toArray 43))
 have hr1 := heap_alloc_new (w.alloc (.cells (rtC r).toArray 43)) (.cells (shCK i x s A n c).toArray 58)
 rw [World.size_alloc] at hr1
 obtain ⟨V1, HV1⟩ : ∃ V, Hid ((w.alloc (.cells (rtC r).toArray 43)).alloc (.cells (shCK i x s A n c).toArray 58) = V) := ⟨_, hid rfl⟩
 rw [HV1.out] at hb0 hr0 hr1
 have HB0 := hid hb0
 have RR0 := hid hr0
 have RS0 := hid hr1
 have KI0 := hid (h.out.below hb0)
 clear hb0 hr0 hr1
 go_enter Tryz.func29, Tryz.ntmps29
 have HMX := hid (shCK_x RS0.out)
 go_wp2_with (first | (rw [HV1.out]) | (with_reducible refine wpList_here ?_; refine wpList_load_mid rfl 56 (.tmp 7) rfl ((w.heap.size + 1)) 1 rfl (clC x) _ HMX.out Tryz.underlying56 rfl HLX.out ?_; rw [show Value.agg (clC x).toArray = clV x from rfl]))
 clear HMX
 refine (rvclaim_any x.p x.r x.m _).mono ?_
 rintro e U1 ⟨rfl, hq⟩
 rw [show decide (kOk x.p x.r) = vCl x from rfl, hv.out]
 have HB2 := hid (HB0.out.trans (hq.mono HB0.out.size))
 have RR2 := hid (row_kept RR0.out hq)
 have RS2 := hid (row_kept RS0.out hq)
 have KI2 := hid (KI0.out.below hq)
 clear hq HB0 RR0 RS0 KI0
 go_wp2_with fail
 go_ret
 exact ⟨rfl, HB2.out⟩
theorem rvmet_1 (r : Rt) (i : Int) (x : Cl) (s : Dg) (A : Option Addr) (n c : Nat) (ps : List Dg) (w : World) (hx : Hid (ClOk x)) (hs : Hid (DgOk s)) (hr : Hid (RtOk r)) (hn : n ≤ 100000) (h : Hid (InD w A n c ps)) (hv : Hid (vCl x = true)) (de : Int) (he : Hid (dclE i r.cla ps.length = de)) (dr : Dg) (HDR : Hid (dclR (lfK x s) i r.cla ps = dr)) (ve : Int) (hve : Hid (de = 1 ∧ ve = 420 ∨ de = 0 ∧ ve = if (dr == r.claimed) then 0 else 420)) :
  Calls Tryz.prog 29 #[.agg (rtC r).toArray, .agg (shCK i x s A n c).toArray] w fun e w' => e = .returned (.int .i64 ve) ∧ Below w.heap.size w w' := by
 have HLX := hid (clC_infoL4 x)
 have hb0 := ((Below.refl _ w).alloc (Nat.le_refl _) (.cells (rtC r).toArray 43)).alloc (by simp) (.cells (shCK i x s A n c).toArray 58)
 have hr0 := (Below.heap_alloc (w.alloc (.cells (rtC r).toArray 43)) (.cells (shCK i x s A n c).toArray 58) w.heap.size (by simp)).trans (heap_alloc_new w (.cells (rtC r).toArray 43))
 have hr1 := heap_alloc_new (w.alloc (.cells (rtC r).toArray 43)) (.cells (shCK i x s A n c).toArray 58)
 rw [World.size_alloc] at hr1
 obtain ⟨V1, HV1⟩ : ∃ V, Hid ((w.alloc (.cells (rtC r).toArray 43)).alloc (.cells (shCK i x s A n c).toArray 58) = V) := ⟨_, hid rfl⟩
 rw [HV1.out] at hb0 hr0 hr1
 have HB0 := hid hb0
 have RR0 := hid hr0
 have RS0 := hid hr1
 have KI0 := hid (h.out.below hb0)
 clear hb0 hr0 hr1
 go_enter Tryz.func29, Tryz.ntmps29
 have HMX := hid (shCK_x RS0.out)
 go_wp2_with (first | (rw [HV1.out]) | (with_reducible refine wpList_here ?_; refine wpList_load_mid rfl 56 (.tmp 7) rfl ((w.heap.size + 1)) 1 rfl (clC x) _ HMX.out Tryz.underlying56 rfl HLX.out ?_; rw [show Value.agg (clC x).toArray = clV x from rfl]))
 clear HMX
 refine (rvclaim_any x.p x.r x.m _).mono ?_
 rintro e U1 ⟨rfl, hq⟩
 rw [show decide (kOk x.p x.r) = vCl x from rfl, hv.out]
 have HB2 := hid (HB0.out.trans (hq.mono HB0.out.size))
 have RR2 := hid (row_kept RR0.out hq)
 have RS2 := hid (row_kept RS0.out hq)
 have KI2 := hid (KI0.out.below hq)
 clear hq HB0 RR0 RS0 KI0
 have HIS := hid (dgC_infoL hs.out)
 obtain ⟨d, HD⟩ : ∃ d, Hid (lfK x s = d) := ⟨_, hid rfl⟩
 have HDO : Hid (DgOk d) := hid (by rw [← HD.out]; exact lfK_ok x s)
 have HRO : Hid (DgOk dr) := hid (by rw [← HDR.out]; exact dclR_ok _ _ _ _)
 have HS1 := hid (dgC_info HRO.out)
 have HT32 : Hid ((dgC zeroD).toArray.size = (dgC dr).toArray.size) := hid (by rw [← dgC_size HRO.out, ← dgC_size zeroD_ok])
 rw [HD.out] at HDR
 have HPS : Hid (w.heap.size + 1 < U1.heap.size ∧ w.heap.size < U1.heap.size) := hid ⟨(Array.getElem?_eq_some_iff.1 RS2.out).1, (Array.getElem?_eq_some_iff.1 RR2.out).1⟩
 have HC5 : Hid (U1.cell? ⟨w.heap.size + 1, 0, none⟩ = some (.int .i64 i)) := hid (by rw [cell_of_row _ _ _ _ _ _ RS2.out]; rfl)
 have HC8 : Hid (U1.cell? ⟨w.heap.size, 5, none⟩ = some (.int .i64 r.cla)) := hid (by rw [cell_of_row _ _ _ _ _ _ RR2.out]; rfl)
 have HC10 := hid (shCK_p hs.out RS2.out)
 go_wp2_with fail
 have HBL := hid (fun (a1 a2 : World) (hb : Below a1.heap.size a1 a2) => wR42v_below (W1 := U1) (bs := w.heap.size + 1) (br := w.heap.size) (r := r) (i := i) (x := x) (s := s) (d := d) (A := A) (n := n) (c := c) (dr := dr) (de := de) hb)
 refine region_flow4 (by kernel_rfl) (by kernel_rfl) (fun i => Nat.beq i 17) (fun i => bif Nat.beq i 17 then 15 else i) (by kernel_rfl) (fun fx => #[.agg (rtC r).toArray, .agg (shCK i x s A n c).toArray, .pointer (some { block := w.heap.size, off := 0 }), .pointer (some { block := w.heap.size + 1, off := 0 }), .int IntKind.i64 0, fx 15, fx 17, .pointer (some { block := w.heap.size + 1, off := 1 }), clV x, .bool true, .bool false, fx 12, fx 0, fx 1, fx 2, fx 3, fx 4, fx 5, fx 6, fx 7, fx 8, fx 9, fx 10, fx 11, fx 13, fx 14, undef, undef, undef, undef, undef, undef, undef, undef]) (fun _ => undef) (fun L fx w' => cVm U1 dr L fx w') (fun fi fv fu fw => wR42v U1 (w.heap.size + 1) w.heap.size r i x s d A n c dr de fi fv fu fw) ⟨(Below.refl _ _).drew, (fun h => by cases h)⟩ ?_ ?_
 ·refine ⟨?_, ?_, ?_, ?_, ?_, ?_, ?_, ?_, ?_, ?_, ?_, ?_, ?_, ?_, ?_, ?_, ?_, ?_, trivial⟩
  all_goals intro L fx w' hC hi hcl hdn hd
  ·clear hd
   go_wp2_with fail
   exact ⟨_, rfl, hC, rfl, kP⟩
  ·have h0 : fx 0 = .pointer (some { block := w.heap.size + 1, off := 1 }) := hd.1 rfl
   have hrow := shCK_x (row_kept RS2.out hC.1)
   refine wpList_load_mid rfl 56 (.tmp 12) rfl (w.heap.size + 1) 1 h0 (clC x) _ hrow Tryz.underlying56 rfl HLX.out ?_
   rw [show Value.agg (clC x).toArray = clV x from rfl]
   clear hd
   go_wp2_with fail
   exact ⟨_, by simp only [upd, h0]; rfl, hC, rfl, kP⟩
  ·clear hd
   go_wp2_with fail
   exact ⟨_, rfl, hC, rfl, kP⟩
  ·have h2 : fx 2 = .pointer (some { block := w.heap.size + 1, off := 4 }) := hd.1 rfl
   have hrow := shCK_s (row_kept RS2.out hC.1)
   refine wpList_load_mid rfl 25 (.tmp 14) rfl (w.heap.size + 1) 4 h2 (dgC s) _ hrow Tryz.underlying25 rfl HIS.out ?_
   rw [show Value.agg (dgC s).toArray = dgV s from rfl]
   clear hd
   go_wp2_with fail
   exact ⟨_, by simp only [upd, h2]; rfl, hC, rfl, kP⟩
  ·have h1 : fx 1 = clV x := hd.1 rfl
   have h3 : fx 3 = dgV s := hd.2.1 rfl
   clear hd
   go_wp2_with fail
   refine (rleafK_any x s w' hx hs).mono ?_
   rintro e w2 ⟨rfl, hq⟩
   rw [HD.out]
   go_wp2_with fail
   exact ⟨_, by simp only [upd, h1, h3]; rfl, hC.below hq, rfl, fun i v u _ _ h => HBL.out _ _ hq i v u h⟩
  ·clear hd
   go_wp2_with fail
   exact ⟨_, rfl, hC, rfl, kP⟩
  ·have h5 : fx 5 = .pointer (some { block := w.heap.size + 1, off := 0 }) := hd.1 rfl
   have hcc := (hC.1.cell (p := ⟨w.heap.size + 1, 0, none⟩) HPS.out.1).trans HC5.out
   clear hd
   go_wp2_with fail
   exact ⟨_, by simp only [upd, h5]; rfl, hC, rfl, kP⟩
  ·clear hd
   go_wp2_with fail
   exact ⟨_, rfl, hC, rfl, kP⟩
  ·have h7 : fx 7 = .pointer (some { block := w.heap.size, off := 5 }) := hd.1 rfl
   have hcc := (hC.1.cell (p := ⟨w.heap.size, 5, none⟩) HPS.out.2).trans HC8.out
   clear hd
   go_wp2_with fail
   exact ⟨_, by simp only [upd, h7]; rfl, hC, rfl, kP⟩
  ·clear hd
   go_wp2_with fail
   exact ⟨_, rfl, hC, rfl, kP⟩
  ·have h9 : fx 9 = .pointer (some { block := w.heap.size + 1, off := 36 }) := hd.1 rfl
   have hcc := (hC.1.cell (p := ⟨w.heap.size + 1, 36, none⟩) HPS.out.1).trans HC10.out
   clear hd
   go_wp2_with fail
   exact ⟨_, by simp only [upd, h9]; rfl, hC, rfl, kP⟩
  ·have h4 : fx 4 = dgV d := hd.1 rfl
   have h6 : fx 6 = .int .i64 (i) := hd.2.1 rfl
   have h8 : fx 8 = .int .i64 (r.cla) := hd.2.2.1 rfl
   have h10 : fx 10 = .slice A n c := hd.2.2.2.1 rfl
   have HIk := hid (KI2.out.below hC.1)
   clear hd
   go_wp2_with fail
   refine (rClimb02_any d i r.cla ps A n c w' (by omega) HIk HDO).mono ?_
   rintro e w2 ⟨rfl, hq⟩
   rw [HDR.out, he.out]
   go_wp2_with fail
   exact ⟨_, by simp only [upd, h4, h6, h8, h10]; rfl, hC.below hq, rfl, fun i v u _ _ h => HBL.out _ _ hq i v u h⟩
  ·have h11 : fx 11 = .tuple #[dgV dr, .int .i64 de] := hd.1 rfl
   clear hd
   go_wp2_with fail
   exact ⟨_, by simp only [upd, h11]; rfl, hC, rfl, kP⟩
  ·have h12 : fx 12 = .tuple #[dgV dr, .int .i64 de] := hd.1 rfl
   clear hd
   go_wp2_with fail
   exact ⟨_, by simp only [upd, h12]; rfl, hC, rfl, kP⟩
  ·have h12 : fx 12 = .tuple #[dgV dr, .int .i64 de] := hd.1 rfl
   clear hd
   go_wp2_with fail
   exact ⟨_, by simp only [upd, h12]; rfl, hC, rfl, kP⟩
  ·have h11 : L 16 = false := nQ hi (fun h => hcl 16 15 h (by kernel_rfl))
   clear hd
   go_wp2_with fail
   rw [← zeroD_cells]
   have hq : Below w'.heap.size w' (w'.alloc (.cells (dgC zeroD).toArray 25)) := (Below.refl _ _).alloc (Nat.le_refl _) _
   refine ⟨Value.pointer (some ⟨w'.heap.size, 0, none⟩), rfl, ⟨(hC.below hq).1, fun _ => ⟨w'.heap.size, rfl, hC.1.size, by simp, ?_⟩⟩, rfl, fun i v u _ _ h => HBL.out _ _ hq i v u h⟩
   show _ = some (Obj.cells (dgC (bif L 16 then dr else zeroD)).toArray 25 (0, 0))
   rw [h11]
   exact heap_alloc_new w' _
  ·have H15 := hid (hd.1 rfl)
   have h13 : fx 13 = dgV dr := hd.2.1 rfl
   obtain ⟨q, e10, hq1, hq2, hrow0⟩ := hC.2 (hdn 15 (by kernel_rfl))
   have hrow : w'.heap[q]? = some (.cells (dgC zeroD).toArray 25 (0, 0)) := by have := hrow0; rw [hi] at this; exact this
   refine wpList_store_row rfl 25 (.tmp 5) (.tmp 24) rfl q (dgC dr).toArray e10 h13 25 _ hrow HS1.out HT32.out (dgC_one _) ?_
   clear hd
   go_wp2_with fail
   refine ⟨undef, by simp only [upd, h13, e10]; rfl, ⟨below_setRow hC.1 hq1 _, fun _ => ⟨q, e10, hq1, by rw [setRow_size]; exact hq2, setRow_heap _ _ _ _ _ _ hrow⟩⟩, rfl, fun j v t hj hu h => ?_⟩
   by_cases e : j = 17
   ·subst e; exact absurd (hcl 17 16 hj (by kernel_rfl)) (by rw [hi]; exact Bool.false_ne_true)
   ·exact wR42v_pure j v t e h
  ·have h14 : fx 14 = .int .i64 (de) := hd.1 rfl
   obtain ⟨q, e10, hq1, hq2, hrow0⟩ := hC.2 (hdn 15 (by kernel_rfl))
   rw [hdn 16 (by kernel_rfl)] at hrow0
   clear hd
   go_wp2_with fail
   exact ⟨Value.int .i64 de, by simp only [upd, h14, e10]; rfl, hC, ⟨rfl, q, e10, hrow0, hC.1⟩, kP⟩
 ·intro L fo w' hC hS
  have H17 := hid (hS 17 (by decide) rfl)
  obtain ⟨e12, q, e10, hrow, hbw⟩ := H17.out
  have e10' : fo 15 = .pointer (some ⟨q, 0, none⟩) := e10
  rw [e12, e10']
  have HQR := hid hrow
  have HB9 := hid (HB2.out.trans (hbw.mono HB2.out.size))
  have RR9 := hid (row_kept RR2.out hbw)
  have HML := hid (rt_claimed hr.out RR9.out)
  have HLI := hid (dgC_infoL hr.out.claimed)
  clear hS hC e12 e10 e10' H17 hrow hbw
  rcases hve.out with ⟨rfl, rfl⟩ | ⟨rfl, hve2⟩
  ·go_wp2_with fail
   go_ret
   exact ⟨rfl, HB9.out⟩
  ·cases hq : (dr == r.claimed) with
   | true =>
    rw [hq] at hve2
    have HVV := hid hve2
    clear hve2
    go_wp2_with (first | (with_reducible refine wpList_here ?_; refine wpList_load_row_g 25 (.tmp 5) rfl rfl q rfl 25 _ (0, 0) _ HQR.out Tryz.underlying25 rfl HS1.out ?_) | (with_reducible refine wpList_here ?_; refine wpList_load_mid_g 25 (.tmp 30) rfl rfl (w.heap.size) 72 rfl (dgC r.claimed) _ HML.out Tryz.underlying25 rfl HLI.out ?_; rw [show Value.agg (dgC r.claimed).toArray = dgV r.claimed from rfl]) | (with_reducible refine wpList_here ?_; refine wpList_neq_dg_g (.tmp 29) (.tmp 31) _ rfl rfl dr r.claimed rfl rfl HRO.out hr.out.claimed ?_; rw [hq]))
    go_ret
    exact ⟨by rw [HVV.out]; rfl, HB9.out⟩
   | false =>
    rw [hq] at hve2
    have HVV := hid hve2
    clear hve2
    go_wp2_with (first | (with_reducible refine wpList_here ?_; refine wpList_load_row_g 25 (.tmp 5) rfl rfl q rfl 25 _ (0, 0) _ HQR.out Tryz.underlying25 rfl HS1.out ?_) | (with_reducible refine wpList_here ?_; refine wpList_load_mid_g 25 (.tmp 30) rfl rfl (w.heap.size) 72 rfl (dgC r.claimed) _ HML.out Tryz.underlying25 rfl HLI.out ?_; rw [show Value.agg (dgC r.claimed).toArray = dgV r.claimed from rfl]) | (with_reducible refine wpList_here ?_; refine wpList_neq_dg_g (.tmp 29) (.tmp 31) _ rfl rfl dr r.claimed rfl rfl HRO.out hr.out.claimed ?_; rw [hq]))
    go_ret
    exact ⟨by rw [HVV.out]; rfl, HB9.out⟩
theorem rvmet_any (r : Rt) (i : Int) (x : Cl) (s : Dg) (A : Option Addr) (n c : Nat) (ps : List Dg) (w : World) (hx : Hid (ClOk x)) (hs : Hid (DgOk s)) (hr : Hid (RtOk r)) (hn : n ≤ 100000) (h : Hid (InD w A n c ps)) :
  Calls Tryz.prog 29 #[.agg (rtC r).toArray, .agg (shCK i x s A n c).toArray] w fun e w' => e = .returned (.int .i64 (vfE (vCl x) (lfK x s) i r.cla ps r.claimed)) ∧ Below w.heap.size w w' := by
 by_cases hv : vCl x = true
 case neg =>
  rw [vfE_0 _ _ _ _ _ (by simpa using hv)]
  exact rvmet_0 r i x s A n c ps w hx hs hr hn h (hid (by simpa using hv))
 refine rvmet_1 r i x s A n c ps w hx hs hr hn h (hid hv) _ (hid rfl) _ (hid rfl) _ (hid ?_)
 by_cases he : dArg i r.cla ps.length
 ·have e1 := (dcl_arg (d := lfK x s) he).2
  exact .inl ⟨e1, vfE_1 _ _ _ _ _ e1⟩
 ·have e1 := (dcl_yes (d := lfK x s) he).2
  refine .inr ⟨e1, ?_⟩
  cases hq : (dclR (lfK x s) i r.cla ps == r.claimed) with
  | false => rw [vfE_2 _ _ _ _ _ hq]; rfl
  | true => rw [vfE_3 _ _ _ _ _ hv e1 hq]; rfl
open Go.ChangeShapes Go.WideShapes Go.ChangeAt Go.Deep
section
variable {H : Type} {enc : TypeId × Value → H} {W : World} {base : Nat} {fuel : Nat}
theorem cells_dgs : Tryz.prog.cellsOf 46 = 1 := by kernel_rfl
theorem cells_cl2 : Tryz.prog.cellsOf 56 = 3 := by kernel_rfl
theorem cells_shL : Tryz.prog.cellsOf 48 = 39 := by kernel_rfl
theorem shL_fields : ∃ f0 f1 f2 f3 : Field, Tryz.prog.underlying 48 = some (.struct #[f0, f1, f2, f3]) ∧ (f0.type = 3 ∧ f0.offset = 0) ∧ (f1.type = 45 ∧ f1.offset = 1) ∧ (f2.type = 25 ∧ f2.offset = 6) ∧ f3.type = 46 ∧ f3.offset = 38 :=
 ⟨_, _, _, _, Tryz.underlying48, ⟨rfl, rfl⟩, ⟨rfl, rfl⟩, ⟨rfl, rfl⟩, rfl, rfl⟩
theorem arg_shL {v : Value} {d : DataW H} {p : List MemPlace} (hval : Value.okWide Tryz.prog W .any base 48 v) (h : DataW.Trod enc Tryz.prog W 0 (fun _ => true) true 48 v d p) : ∃ (i : Int) (x : Ln) (s : List Nat) (A : Option Addr) (n c : Nat) (ps : List Dg), v = .agg (shCL i x s A n c).toArray ∧ I64 i ∧ LnOk x ∧ DgOk s ∧ InD W A n c ps ∧ c ≤ maxLen := by
 obtain ⟨f0, f1, f2, f3, hu, ⟨t0, o0⟩, ⟨t1, o1⟩, ⟨t2, o2⟩, t3, o3⟩ := shL_fields
 obtain ⟨cs, rfl, hsz⟩ := okWide_struct hu hval
 obtain ⟨fuel, hf⟩ := h
 obtain ⟨xs, m, rfl, hx, hlen, hxl, hget⟩ := DataW.trod_struct hu hf
 rw [cells_shL] at hlen
 have hxl' : xs.length = 4 := hxl
 have g0 := hget 0 f0 rfl
 have g1 := hget 1 f1 rfl
 have g2 := hget 2 f2 rfl
 have g3 := hget 3 f3 rfl
 rw [t0, o0, cells_it, List.getElem?_eq_getElem (by omega)] at g0
 rw [t1, o1, cells_ln, List.getElem?_eq_getElem (by omega)] at g1
 rw [t2, o2, cells_dg, List.getElem?_eq_getElem (by omega)] at g2
 rw [t3, o3, cells_dgs, List.getElem?_eq_getElem (by omega)] at g3
 obtain ⟨z0, e0, h0⟩ := trod_it g0
 obtain ⟨x, e1, h1⟩ := trod_ln g1
 obtain ⟨s, e2, hs, hb⟩ := trod_dg g2
 obtain ⟨A, n, c, ps, e3, l1, l2, l3, l4, l5, l6⟩ := trod_rows (cells := dgC) (ok := DgOk) (k := 32) (by omega) Tryz.underlying46 cells_dg (fun x hx => dgC_len32 hx) (fun n cs y hy => by
  obtain ⟨l, el, hl, hbl⟩ := trod_dg hy
  exact ⟨l, el, hl, hbl⟩) g3
 refine ⟨z0, x, s, A, n, c, ps, ?_, h0, h1, ⟨hs, hb⟩, ⟨l1, l2, l3, l4, l5⟩, l6⟩
 congr 1
 rw [← Array.toArray_toList (xs := cs)]
 congr 1
 unfold shCL
 obtain ⟨L, hL⟩ : ∃ L, cs.toList = L := ⟨_, rfl⟩
 have hLl : L.length = 39 := by rw [← hL]; exact hlen
 simp only [Value.cells, hL] at e0 e1 e2 e3 ⊢
 have k1 : L = L.take 1 ++ ((L.drop 1).take 5 ++ ((L.drop 6).take 32 ++ L.drop 38)) := by
  have a1 := List.take_append_drop 1 L
  have a2 := List.take_append_drop 5 (L.drop 1)
  have a3 := List.take_append_drop 32 (L.drop 6)
  rw [List.drop_drop] at a2 a3
  rw [a3, a2, a1]
 have k2 : L.drop 38 = (L.drop 38).take 1 := by rw [List.take_of_length_le (by rw [List.length_drop]; omega)]
 rw [List.drop_zero] at e0
 rw [k1, k2, e0, e1, e2, e3]
 rfl
theorem cells_shK : Tryz.prog.cellsOf 58 = 37 := by kernel_rfl
theorem shK_fields : ∃ f0 f1 f2 f3 : Field, Tryz.prog.underlying 58 = some (.struct #[f0, f1, f2, f3]) ∧ (f0.type = 3 ∧ f0.offset = 0) ∧ (f1.type = 56 ∧ f1.offset = 1) ∧ (f2.type = 25 ∧ f2.offset = 4) ∧ f3.type = 46 ∧ f3.offset = 36 :=
 ⟨_, _, _, _, Tryz.underlying58, ⟨rfl, rfl⟩, ⟨rfl, rfl⟩, ⟨rfl, rfl⟩, rfl, rfl⟩
theorem arg_shK {v : Value} {d : DataW H} {p : List MemPlace} (hval : Value.okWide Tryz.prog W .any base 58 v) (h : DataW.Trod enc Tryz.prog W 0 (fun _ => true) true 58 v d p) : ∃ (i : Int) (x : Cl) (s : List Nat) (A : Option Addr) (n c : Nat) (ps : List Dg), v = .agg (shCK i x s A n c).toArray ∧ I64 i ∧ ClOk x ∧ DgOk s ∧ InD W A n c ps ∧ c ≤ maxLen := by
 obtain ⟨f0, f1, f2, f3, hu, ⟨t0, o0⟩, ⟨t1, o1⟩, ⟨t2, o2⟩, t3, o3⟩ := shK_fields
 obtain ⟨cs, rfl, hsz⟩ := okWide_struct hu hval
 obtain ⟨fuel, hf⟩ := h
 obtain ⟨xs, m, rfl, hx, hlen, hxl, hget⟩ := DataW.trod_struct hu hf
 rw [cells_shK] at hlen
 have hxl' : xs.length = 4 := hxl
 have g0 := hget 0 f0 rfl
 have g1 := hget 1 f1 rfl
 have g2 := hget 2 f2 rfl
 have g3 := hget 3 f3 rfl
 rw [t0, o0, cells_it, List.getElem?_eq_getElem (by omega)] at g0
 rw [t1, o1, cells_cl2, List.getElem?_eq_getElem (by omega)] at g1
 rw [t2, o2, cells_dg, List.getElem?_eq_getElem (by omega)] at g2
 rw [t3, o3, cells_dgs, List.getElem?_eq_getElem (by omega)] at g3
 obtain ⟨z0, e0, h0⟩ := trod_it g0
 obtain ⟨x, e1, h1⟩ := trod_cl g1
 obtain ⟨s, e2, hs, hb⟩ := trod_dg g2
 obtain ⟨A, n, c, ps, e3, l1, l2, l3, l4, l5, l6⟩ := trod_rows (cells := dgC) (ok := DgOk) (k := 32) (by omega) Tryz.underlying46 cells_dg (fun x hx => dgC_len32 hx) (fun n cs y hy => by
  obtain ⟨l, el, hl, hbl⟩ := trod_dg hy
  exact ⟨l, el, hl, hbl⟩) g3
 refine ⟨z0, x, s, A, n, c, ps, ?_, h0, h1, ⟨hs, hb⟩, ⟨l1, l2, l3, l4, l5⟩, l6⟩
 congr 1
 rw [← Array.toArray_toList (xs := cs)]
 congr 1
 unfold shCK
 obtain ⟨L, hL⟩ : ∃ L, cs.toList = L := ⟨_, rfl⟩
 have hLl : L.length = 37 := by rw [← hL]; exact hlen
 simp only [Value.cells, hL] at e0 e1 e2 e3 ⊢
 have k1 : L = L.take 1 ++ ((L.drop 1).take 3 ++ ((L.drop 4).take 32 ++ L.drop 36)) := by
  have a1 := List.take_append_drop 1 L
  have a2 := List.take_append_drop 3 (L.drop 1)
  have a3 := List.take_append_drop 32 (L.drop 4)
  rw [List.drop_drop] at a2 a3
  rw [a3, a2, a1]
 have k2 : L.drop 36 = (L.drop 36).take 1 := by rw [List.take_of_length_le (by rw [List.length_drop]; omega)]
 rw [List.drop_zero] at e0
 rw [k1, k2, e0, e1, e2, e3]
 rfl
end
section
variable {H : Type} {enc : TypeId × Value → H} {W : World} {base : Nat} {fuel : Nat}
theorem cells_rt : Tryz.prog.cellsOf 43 = 138 := by kernel_rfl
theorem cells_sg : Tryz.prog.cellsOf 41 = 2 := by kernel_rfl
theorem sg_fields : ∃ f0 f1 : Field, Tryz.prog.underlying 41 = some (.struct #[f0, f1]) ∧ (f0.type = 3 ∧ f0.offset = 0) ∧ f1.type = 3 ∧ f1.offset = 1 :=
 ⟨_, _, Tryz.underlying41, ⟨rfl, rfl⟩, rfl, rfl⟩
theorem trod_sg {spare : Nat → Bool} {held : Bool} {cs : List Value} {x : DataW H × List MemPlace} (hf : DataW.trod enc Tryz.prog W base spare held fuel 41 cs = some x) : ∃ a b : Int, cs = [.int .i64 a, .int .i64 b] ∧ I64 a ∧ I64 b := by
 obtain ⟨f0, f1, hu, ⟨t0, o0⟩, t1, o1⟩ := sg_fields
 obtain ⟨xs, m, rfl, hx, hlen, hxl, hget⟩ := DataW.trod_struct hu hf
 rw [cells_sg] at hlen
 have hxl' : xs.length = 2 := hxl
 have g0 := hget 0 f0 rfl
 have g1 := hget 1 f1 rfl
 rw [t0, o0, cells_it, List.getElem?_eq_getElem (by omega)] at g0
 rw [t1, o1, cells_it, List.getElem?_eq_getElem (by omega)] at g1
 obtain ⟨z0, e0, h0⟩ := trod_it g0
 obtain ⟨z1, e1, h1⟩ := trod_it g1
 refine ⟨z0, z1, ?_, h0, h1⟩
 match cs, hlen with
 | [a, b], _ =>
  simp at e0 e1
  rw [e0, e1]
theorem rt_fields : ∃ f0 f1 f2 f3 f4 f5 f6 f7 f8 f9 f10 : Field, Tryz.prog.underlying 43 = some (.struct #[f0, f1, f2, f3, f4, f5, f6, f7, f8, f9, f10]) ∧ (f0.type = 3 ∧ f0.offset = 0) ∧ (f1.type = 3 ∧ f1.offset = 1) ∧ (f2.type = 3 ∧ f2.offset = 2) ∧ (f3.type = 3 ∧ f3.offset = 3) ∧ (f4.type = 3 ∧ f4.offset = 4) ∧ (f5.type = 3 ∧ f5.offset = 5) ∧ (f6.type = 39 ∧ f6.offset = 6) ∧ (f7.type = 25 ∧ f7.offset = 40) ∧ (f8.type = 25 ∧ f8.offset = 72) ∧ (f9.type = 25 ∧ f9.offset = 104) ∧ (f10.type = 41 ∧ f10.offset = 136) :=
 ⟨_, _, _, _, _, _, _, _, _, _, _, Tryz.underlying43, ⟨rfl, rfl⟩, ⟨rfl, rfl⟩, ⟨rfl, rfl⟩, ⟨rfl, rfl⟩, ⟨rfl, rfl⟩, ⟨rfl, rfl⟩, ⟨rfl, rfl⟩, ⟨rfl, rfl⟩, ⟨rfl, rfl⟩, ⟨rfl, rfl⟩, ⟨rfl, rfl⟩⟩
theorem arg_rt {v : Value} {d : DataW H} {p : List MemPlace} (hval : Value.okWide Tryz.prog W .any base 43 v) (h : DataW.Trod enc Tryz.prog W 0 (fun _ => true) true 43 v d p) : ∃ r : Rt, v = .agg (rtC r).toArray ∧ RtOk r := by
 obtain ⟨f0, f1, f2, f3, f4, f5, f6, f7, f8, f9, f10, hu, ⟨t0, o0⟩, ⟨t1, o1⟩, ⟨t2, o2⟩, ⟨t3, o3⟩, ⟨t4, o4⟩, ⟨t5, o5⟩, ⟨t6, o6⟩, ⟨t7, o7⟩, ⟨t8, o8⟩, ⟨t9, o9⟩, ⟨t10, o10⟩⟩ := rt_fields
 obtain ⟨cs, rfl, hsz⟩ := okWide_struct hu hval
 obtain ⟨fuel, hf⟩ := h
 obtain ⟨xs, m, rfl, hx, hlen, hxl, hget⟩ := DataW.trod_struct hu hf
 rw [cells_rt] at hlen
 have hxl' : xs.length = 11 := hxl
 have g0 := hget 0 f0 rfl
 have g1 := hget 1 f1 rfl
 have g2 := hget 2 f2 rfl
 have g3 := hget 3 f3 rfl
 have g4 := hget 4 f4 rfl
 have g5 := hget 5 f5 rfl
 have g6 := hget 6 f6 rfl
 have g7 := hget 7 f7 rfl
 have g8 := hget 8 f8 rfl
 have g9 := hget 9 f9 rfl
 have g10 := hget 10 f10 rfl
 rw [t0, o0, cells_it, List.getElem?_eq_getElem (by omega)] at g0
 rw [t1, o1, cells_it, List.getElem?_eq_getElem (by omega)] at g1
 rw [t2, o2, cells_it, List.getElem?_eq_getElem (by omega)] at g2
 rw [t3, o3, cells_it, List.getElem?_eq_getElem (by omega)] at g3
 rw [t4, o4, cells_it, List.getElem?_eq_getElem (by omega)] at g4
 rw [t5, o5, cells_it, List.getElem?_eq_getElem (by omega)] at g5
 rw [t6, o6, cells_nd, List.getElem?_eq_getElem (by omega)] at g6
 rw [t7, o7, cells_dg, List.getElem?_eq_getElem (by omega)] at g7
 rw [t8, o8, cells_dg, List.getElem?_eq_getElem (by omega)] at g8
 rw [t9, o9, cells_dg, List.getElem?_eq_getElem (by omega)] at g9
 rw [t10, o10, cells_sg, List.getElem?_eq_getElem (by omega)] at g10
 obtain ⟨z0, e0, h0⟩ := trod_it g0
 obtain ⟨z1, e1, h1⟩ := trod_it g1
 obtain ⟨z2, e2, h2⟩ := trod_it g2
 obtain ⟨z3, e3, h3⟩ := trod_it g3
 obtain ⟨z4, e4, h4⟩ := trod_it g4
 obtain ⟨z5, e5, h5⟩ := trod_it g5
 obtain ⟨nd, e6, h6⟩ := trod_nd g6
 obtain ⟨s7, e7, u7, v7⟩ := trod_dg g7
 obtain ⟨s8, e8, u8, v8⟩ := trod_dg g8
 obtain ⟨s9, e9, u9, v9⟩ := trod_dg g9
 obtain ⟨z10, z11, e10, h10, h11⟩ := trod_sg g10
 refine ⟨⟨z0, z1, z2, z3, z4, z5, nd, s7, s8, s9, z10, z11⟩, ?_, ⟨h0, h1, h2, h3, h4, h5, h6, ⟨u7, v7⟩, ⟨u8, v8⟩, ⟨u9, v9⟩, h10, h11⟩⟩
 congr 1
 rw [← Array.toArray_toList (xs := cs)]
 congr 1
 unfold rtC
 obtain ⟨L, hL⟩ : ∃ L, cs.toList = L := ⟨_, rfl⟩
 have hLl : L.length = 138 := by rw [← hL]; exact hlen
 simp only [Value.cells, hL] at e0 e1 e2 e3 e4 e5 e6 e7 e8 e9 e10 ⊢
 have kk : ∀ (q k m : Nat), q + k = m → L.drop q = (L.drop q).take k ++ L.drop m := fun q k m e => by
  have a := List.take_append_drop k (L.drop q)
  rw [List.drop_drop, e] at a
  exact a.symm
 have ke : L.drop 136 = (L.drop 136).take 2 := by rw [List.take_of_length_le (by rw [List.length_drop]; omega)]
 rw [show L = L.drop 0 from List.drop_zero.symm, kk 0 1 1 rfl, kk 1 1 2 rfl, kk 2 1 3 rfl, kk 3 1 4 rfl, kk 4 1 5 rfl, kk 5 1 6 rfl, kk 6 34 40 rfl, kk 40 32 72 rfl, kk 72 32 104 rfl, kk 104 32 136 rfl, ke, e0, e1, e2, e3, e4, e5, e6, e7, e8, e9, e10]
 rfl
end
end Go.Proofs.YtmfmgeapecapiaaGreatDoor
