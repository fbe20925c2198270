/- sizarref42.Show. sizarref42: SameNodes, SameDigests of equal lists. sizarref42: SameShown, SameMet of equal ones. sizarref42.Verify. What is shown, as it comes in. A root, as it comes in. -/
import Derived.Test.YtmfmgeapecapiaaGreatDoorSS18
import Derived.Test.YtmfmgeapecapiaaGreatDoorSS10
import Derived.Test.YtmfmgeapecapiaaGreatDoorSS8
import Derived.Test.YtmfmgeapecapiaaGreatDoorSS3
import Derived.Test.YtmfmgeapecapiaaGreatDoorSS2
import Derived.Test.YtmfmgeapecapiaaGreatDoorSS1
import Derived.Test.YtmfmgeapecapiaaGreatDoorSS13
import Derived.Test.YtmfmgeapecapiaaGreatDoorSS17
set_option maxHeartbeats 64000001
open Go.Lib (hid)
namespace Go.Proofs.YtmfmgeapecapiaaGreatDoor
open Go.RowKit SzSha SzTree
set_option linter.unusedVariables false
set_option maxRecDepth 100000
theorem ownD_setRow {w : World} {base B : Nat} {A : Option Addr} {n c : Nat} {ls : List Dg} (hB : B < base) (h : OwnD w base (.slice A n c) ls) (ho : ∀ x ∈ ls, DgOk x) (cs : Array Value) : InD (w.setRow B cs) A n c ls := by
 have h2 : OwnD (w.setRow B cs) base (.slice A n c) ls := h.kept (fun g hg => setRow_other w B g cs (by have := (h.block g hg).1; omega))
 obtain ⟨A', n', c', e, hi, _⟩ := h2.slice ho
 cases e; exact hi
theorem rPath02_own (ls : List Dg) (A : Option Addr) (n c : Nat) (i : Nat) (w : World) (hn : n ≤ 100000) (hin : i < n) (h : Hid (InD w A n c ls)) :
  Calls Tryz.prog 61 #[.slice A n c, .int .i64 (i : Nat)] w fun e w' => ∃ A' n' c', e = .returned (.tuple #[.slice A' n' c', .int .i64 0]) ∧ OwnD w' w.heap.size (.slice A' n' c') (pathD ls i) ∧ Below w.heap.size w w' := by
 have d0 : decide ((i : Int) < 0) = false := dQ (by omega)
 have d1 : decide ((n : Int) ≤ (i : Int)) = false := dQ (by omega)
 have d11 : decide (n ≤ i) = false := dQ (by omega)
 go_enter Tryz.func61, Tryz.ntmps61
 go_wp2_with fail
 refine (rpath02_any n ls A n c i _ (Nat.le_refl _) (by omega) hn h hin).mono ?_
 rintro e W2 ⟨v2, rfl, ho, hq⟩
 obtain ⟨A2, n2, c2, rfl⟩ := ho.form
 have HO := hid ho
 have HB2 := hid hq
 clear ho hq
 go_wp2_with fail
 go_ret2
 exact ⟨_, _, _, rfl, HO.out, HB2.out⟩
theorem built_shCL0 : Tryz.prog.built 48 [] = some (shCL 0 ⟨0, 0, 0, 0, 0⟩ zeroD none 0 0).toArray := by kernel_rfl
theorem rnodes_e (t : Tr) (p : TrP) (w : World) (h : Hid (TrOk w t p)) :
  Calls Tryz.prog 11 #[trV t p] w fun e w' => ∃ A' n' c', e = .returned (.tuple #[.slice A' n' c', .int .i64 (trE t)]) ∧ Below w.heap.size w w' := by
 cases hg : trG t with
 | true => rw [trE_yes hg]; exact (rnodes_yes t p w h (hid hg)).mono fun e w' ⟨A, n, c, e1, _, hq⟩ => ⟨A, n, c, e1, hq⟩
 | false => rw [trE_no hg]; exact (rnodes_no t p w h (hid hg)).mono fun e w' ⟨e1, hq⟩ => ⟨none, 0, 0, e1, hq⟩
theorem rshL_no (t : Tr) (p : TrP) (i : Int) (w : World) (h : Hid (TrOk w t p)) (hbad : Hid (trG t = false ∨ i < 0 ∨ (p.n : Int) ≤ i)) :
  Calls Tryz.prog 20 #[trV t p, .int .i64 i] w fun e w' => e = .returned (.tuple #[.agg (shCL 0 ⟨0, 0, 0, 0, 0⟩ zeroD none 0 0).toArray, .int .i64 420]) ∧ Below w.heap.size w w' := by
 have HKEY : Hid (trE t = 420 ∨ (trE t = 0 ∧ i < 0) ∨ (trE t = 0 ∧ ¬ i < 0 ∧ (p.n : Int) ≤ i)) := hid (by
  cases hg : trG t with
  | false => exact .inl (trE_no hg)
  | true =>
   rcases hbad.out with e | e | e
   ·rw [hg] at e; cases e
   ·exact .inr (.inl ⟨trE_yes hg, e⟩)
   ·by_cases h0 : i < 0
    ·exact .inr (.inl ⟨trE_yes hg, h0⟩)
    ·exact .inr (.inr ⟨trE_yes hg, h0, e⟩))
 clear hbad
 have HIT := hid (trV_info t p h.out.len)
 have HZI := hid (shCL_info (i := 0) (x := ⟨0, 0, 0, 0, 0⟩) (A := none) (n := 0) (c := 0) zeroD_ok)
 have HZS : Hid ((#[.int .i64 0, .int .i64 0, .int .i64 0, .int .i64 0, .int .i64 0, .int .i64 0, .int .u8 0, .int .u8 0, .int .u8 0, .int .u8 0, .int .u8 0, .int .u8 0, .int .u8 0, .int .u8 0, .int .u8 0, .int .u8 0, .int .u8 0, .int .u8 0, .int .u8 0, .int .u8 0, .int .u8 0, .int .u8 0, .int .u8 0, .int .u8 0, .int .u8 0, .int .u8 0, .int .u8 0, .int .u8 0, .int .u8 0, .int .u8 0, .int .u8 0, .int .u8 0, .int .u8 0, .int .u8 0, .int .u8 0, .int .u8 0, .int .u8 0, .int .u8 0, .slice none 0 0] : Array Value).size = (shCL 0 ⟨0, 0, 0, 0, 0⟩ zeroD none 0 0).toArray.size) := hid (by rw [zshL])
 have hb0 := ((Below.refl _ w).alloc (Nat.le_refl _) (.cells (trC t p).toArray 27)).alloc (by simp) (.cells #[.int .i64 0, .int .i64 0, .int .i64 0, .int .i64 0, .int .i64 0, .int .i64 0, .int .u8 0, .int .u8 0, .int .u8 0, .int .u8 0, .int .u8 0, .int .u8 0, .int .u8 0, .int .u8 0, .int .u8 0, .int .u8 0, .int .u8 0, .int .u8 0, .int .u8 0, .int .u8 0, .int .u8 0, .int .u8 0, .int .u8 0, .int .u8 0, .int .u8 0, .int .u8 0, .int .u8 0, .int .u8 0, .int .u8 0, .int .u8 0, .int .u8 0, .int .u8 0, .int .u8 0, .int .u8 0, .int .u8 0, .int .u8 0, .int .u8 0, .int .u8 0, .slice none 0 0] 48)
 have hr0 := (Below.heap_alloc (w.alloc (.cells (trC t p).toArray 27)) (.cells #[.int .i64 0, .int .i64 0, .int .i64 0, .int .i64 0, .int .i64 0, .int .i64 0, .int .u8 0, .int .u8 0, .int .u8 0, .int .u8 0, .int .u8 0, .int .u8 0, .int .u8 0, .int .u8 0, .int .u8 0, .int .u8 0, .int .u8 0, .int .u8 0, .int .u8 0, .int .u8 0, .int .u8 0, .int .u8 0, .int .u8 0, .int .u8 0, .int .u8 0, .int .u8 0, .int .u8 0, .int .u8 0, .int .u8 0, .int .u8 0, .int .u8 0, .int .u8 0, .int .u8 0, .int .u8 0, .int .u8 0, .int .u8 0, .int .u8 0, .int .u8 0, .slice none 0 0] 48) w.heap.size (by simp)).trans (heap_alloc_new w (.cells (trC t p).toArray 27))
 have hr1 := heap_alloc_new (w.alloc (.cells (trC t p).toArray 27)) (.cells #[.int .i64 0, .int .i64 0, .int .i64 0, .int .i64 0, .int .i64 0, .int .i64 0, .int .u8 0, .int .u8 0, .int .u8 0, .int .u8 0, .int .u8 0, .int .u8 0, .int .u8 0, .int .u8 0, .int .u8 0, .int .u8 0, .int .u8 0, .int .u8 0, .int .u8 0, .int .u8 0, .int .u8 0, .int .u8 0, .int .u8 0, .int .u8 0, .int .u8 0, .int .u8 0, .int .u8 0, .int .u8 0, .int .u8 0, .int .u8 0, .int .u8 0, .int .u8 0, .int .u8 0, .int .u8 0, .int .u8 0, .int .u8 0, .int .u8 0, .int .u8 0, .slice none 0 0] 48)
 rw [World.size_alloc] at hr1
 obtain ⟨VA, HVA⟩ : ∃ V, Hid ((w.alloc (.cells (trC t p).toArray 27)).alloc (.cells #[.int .i64 0, .int .i64 0, .int .i64 0, .int .i64 0, .int .i64 0, .int .i64 0, .int .u8 0, .int .u8 0, .int .u8 0, .int .u8 0, .int .u8 0, .int .u8 0, .int .u8 0, .int .u8 0, .int .u8 0, .int .u8 0, .int .u8 0, .int .u8 0, .int .u8 0, .int .u8 0, .int .u8 0, .int .u8 0, .int .u8 0, .int .u8 0, .int .u8 0, .int .u8 0, .int .u8 0, .int .u8 0, .int .u8 0, .int .u8 0, .int .u8 0, .int .u8 0, .int .u8 0, .int .u8 0, .int .u8 0, .int .u8 0, .int .u8 0, .int .u8 0, .slice none 0 0] 48) = V) := ⟨_, hid rfl⟩
 rw [HVA.out] at hb0 hr0 hr1
 have HB0 := hid hb0
 have RT0 := hid hr0
 have RZ0 := hid hr1
 have KO0 := hid (h.out.below hb0)
 clear hb0 hr0 hr1
 rw [show trV t p = .agg (trC t p).toArray from rfl]
 go_enter Tryz.func20, Tryz.ntmps20
 go_wp2_with (first | (rw [HVA.out]) | (refine wpList_load_row rfl 27 (.tmp 2) rfl (w.heap.size) rfl 27 _ (0, 0) _ RT0.out Tryz.underlying27 rfl HIT.out ?_))
 rw [show Value.agg (trC t p).toArray = trV t p from rfl]
 refine (rnodes_e t p _ KO0).mono ?_
 rintro e U1 ⟨A2, n2, c2, rfl, hq⟩
 have HB2 := hid (HB0.out.trans (hq.mono HB0.out.size))
 have RT2 := hid (row_kept RT0.out hq)
 have RZ2 := hid (row_kept RZ0.out hq)
 have KO2 := hid (KO0.out.below hq)
 clear hq HB0 RT0 RZ0 KO0
 have kl : U1.cell? ⟨w.heap.size, 4, none⟩ = some (.slice p.A p.n p.c) := by rw [cell_of_row _ _ _ _ _ _ RT2.out]; rfl
 rcases HKEY.out with e | ⟨e, hi⟩ | ⟨e, h0, hi⟩
 rotate_left
 have di : decide (i < 0) = true := eQ hi
 rotate_left
 have d0 : decide (i < 0) = false := dQ (by omega)
 have di : decide ((p.n : Int) ≤ i) = true := eQ hi
 all_goals
  rw [e]
  go_wp2_with (first | (refine wpList_build rfl _ _ rfl built_shCL0 ?_) | (refine wpList_store_row rfl 48 (.tmp 4) (.tmp 28) rfl (w.heap.size + 1) (shCL 0 ⟨0, 0, 0, 0, 0⟩ zeroD none 0 0).toArray rfl rfl 48 _ RZ2.out HZI.out HZS.out (shCL_one _ _ _ _ _ _) ?_))
  have hl := run_loadVar_row (P := Tryz.prog) (World.setRow U1 (w.heap.size + 1) (shCL 0 ⟨0, 0, 0, 0, 0⟩ zeroD none 0 0).toArray) (w.heap.size + 1) 48 48 (shCL 0 ⟨0, 0, 0, 0, 0⟩ zeroD none 0 0).toArray (0, 0) _ (setRow_heap U1 (w.heap.size + 1) _ (shCL 0 ⟨0, 0, 0, 0, 0⟩ zeroD none 0 0).toArray _ _ RZ2.out) Tryz.underlying48 rfl HZI.out
  refine bodyPost_ret (v := .tuple #[.agg (shCL 0 ⟨0, 0, 0, 0, 0⟩ zeroD none 0 0).toArray, .int .i64 420]) ?_ rfl ⟨rfl, below_setRow HB2.out (Nat.le_succ _) _⟩
  simp [results, Tryz.results20, asAddr, hl]
def wR42x (W0 : World) (bt : Nat) (br : Nat) (g : Nat) (off : Nat) (m : Nat) (mc : Nat) (t : Tr) (jn : Nat) (x : Ln) (s : Dg) (A : Option Addr) (n : Nat) (c : Nat) : Nat → Value → World → Prop
 | 0, fv, _ => fv = .int .i64 ((jn : Nat))
 | 1, fv, _ => fv = .pointer (some { block := bt, off := 4 })
 | 2, fv, _ => fv = .slice (some ⟨g, off, none⟩) m mc
 | 3, fv, _ => fv = .int .i64 ((jn : Nat))
 | 4, fv, _ => fv = .pointer (some ⟨g, off + jn * 5, none⟩)
 | 5, fv, _ => fv = lnV x
 | 6, fv, _ => fv = .pointer (some { block := bt, off := 6 })
 | 7, fv, _ => fv = dgV t.salt
 | 8, fv, _ => fv = .pointer (some { block := bt, off := 4 })
 | 9, fv, _ => fv = .slice (some ⟨g, off, none⟩) m mc
 | 10, fv, _ => fv = .int .i64 ((jn : Nat))
 | 11, fv, _ => fv = .pointer (some ⟨g, off + jn * 5, none⟩)
 | 12, fv, _ => fv = lnV x
 | 13, fv, _ => fv = dgV s
 | 14, fv, _ => fv = .slice A n c
 | 15, fv, _ => fv = .agg (shCL (jn : Nat) x s A n c).toArray
 | 16, fv, fw => fw.heap[br]? = some (.cells (shCL (jn : Nat) x s A n c).toArray 48 (0, 0)) ∧ Below W0.heap.size W0 fw ∧ InD fw A n c (pathD (t.ln.map (lvL t.salt)) jn)
 | 17, fv, _ => fv = .int .i64 0
 | _, _, _ => True
theorem wR42x_below {W0 : World} {bt : Nat} {br : Nat} {g : Nat} {off : Nat} {m : Nat} {mc : Nat} {t : Tr} {jn : Nat} {x : Ln} {s : Dg} {A : Option Addr} {n : Nat} {c : Nat} {w w' : World} (hb : Below w.heap.size w w') : ∀ j v, wR42x W0 bt br g off m mc t jn x s A n c j v w → wR42x W0 bt br g off m mc t jn x s A n c j v w'
 | 0, v, h => h
 | 1, v, h => h
 | 2, v, h => h
 | 3, v, h => h
 | 4, v, h => h
 | 5, v, h => h
 | 6, v, h => h
 | 7, v, h => h
 | 8, v, h => h
 | 9, v, h => h
 | 10, v, h => h
 | 11, v, h => h
 | 12, v, h => h
 | 13, v, h => h
 | 14, v, h => h
 | 15, v, h => h
 | 16, v, h => ⟨row_kept h.1 hb, h.2.1.trans (hb.mono h.2.1.size), h.2.2.below hb⟩
 | 17, v, h => h
 | n + 18, v, h => trivial
theorem wR42x_pure {W0 : World} {bt : Nat} {br : Nat} {g : Nat} {off : Nat} {m : Nat} {mc : Nat} {t : Tr} {jn : Nat} {x : Ln} {s : Dg} {A : Option Addr} {n : Nat} {c : Nat} {w w' : World} : ∀ j v, j ≠ 16 → wR42x W0 bt br g off m mc t jn x s A n c j v w → wR42x W0 bt br g off m mc t jn x s A n c j v w'
 | 0, v, _, h => h
 | 1, v, _, h => h
 | 2, v, _, h => h
 | 3, v, _, h => h
 | 4, v, _, h => h
 | 5, v, _, h => h
 | 6, v, _, h => h
 | 7, v, _, h => h
 | 8, v, _, h => h
 | 9, v, _, h => h
 | 10, v, _, h => h
 | 11, v, _, h => h
 | 12, v, _, h => h
 | 13, v, _, h => h
 | 14, v, _, h => h
 | 15, v, _, h => h
 | 16, v, hh, _ => absurd rfl hh
 | 17, v, _, h => h
 | n + 18, v, _, h => trivial
theorem rshL_yes (t : Tr) (p : TrP) (jn : Nat) (x : Ln) (w : World) (h : Hid (TrOk w t p)) (hg : Hid (trG t = true)) (hj : jn < p.n) (HX : Hid (t.ln[jn]? = some x)) :
  Calls Tryz.prog 20 #[trV t p, .int .i64 (jn : Nat)] w fun e w' => ∃ A' n' c', e = .returned (.tuple #[.agg (shCL (jn : Nat) x (saltN t.salt 1 (nLn x)) A' n' c').toArray, .int .i64 0]) ∧ InD w' A' n' c' (pathD (t.ln.map (lvL t.salt)) jn) ∧ Below w.heap.size w w' := by
 obtain ⟨s, HS⟩ : ∃ s, Hid (saltN t.salt 1 (nLn x) = s) := ⟨_, hid rfl⟩
 have HSO : Hid (DgOk s) := hid (by rw [← HS.out]; exact saltN_ok _ _ _)
 have HSA : Hid (DgOk t.salt) := hid ⟨h.out.len, h.out.bytes⟩
 have HSK := hid (dgC_infoK HSA.out)
 have HII := hid (lnC_infoL4 x)
 have HN := hid (show t.ln.length = p.n from h.out.ln.len)
 have d0 : decide ((jn : Int) < 0) = false := dQ (by omega)
 have d1 : decide ((p.n : Int) ≤ (jn : Int)) = false := dQ (by omega)
 have d1n : decide (p.n ≤ jn) = false := dQ (by omega)
 have HJN := hid hj
 rw [HS.out]
 have HIT := hid (trV_info t p h.out.len)
 have HZI := hid (shCL_info (i := 0) (x := ⟨0, 0, 0, 0, 0⟩) (A := none) (n := 0) (c := 0) zeroD_ok)
 have HZS : Hid ((#[.int .i64 0, .int .i64 0, .int .i64 0, .int .i64 0, .int .i64 0, .int .i64 0, .int .u8 0, .int .u8 0, .int .u8 0, .int .u8 0, .int .u8 0, .int .u8 0, .int .u8 0, .int .u8 0, .int .u8 0, .int .u8 0, .int .u8 0, .int .u8 0, .int .u8 0, .int .u8 0, .int .u8 0, .int .u8 0, .int .u8 0, .int .u8 0, .int .u8 0, .int .u8 0, .int .u8 0, .int .u8 0, .int .u8 0, .int .u8 0, .int .u8 0, .int .u8 0, .int .u8 0, .int .u8 0, .int .u8 0, .int .u8 0, .int .u8 0, .int .u8 0, .slice none 0 0] : Array Value).size = (shCL 0 ⟨0, 0, 0, 0, 0⟩ zeroD none 0 0).toArray.size) := hid (by rw [zshL])
 have hb0 := ((Below.refl _ w).alloc (Nat.le_refl _) (.cells (trC t p).toArray 27)).alloc (by simp) (.cells #[.int .i64 0, .int .i64 0, .int .i64 0, .int .i64 0, .int .i64 0, .int .i64 0, .int .u8 0, .int .u8 0, .int .u8 0, .int .u8 0, .int .u8 0, .int .u8 0, .int .u8 0, .int .u8 0, .int .u8 0, .int .u8 0, .int .u8 0, .int .u8 0, .int .u8 0, .int .u8 0, .int .u8 0, .int .u8 0, .int .u8 0, .int .u8 0, .int .u8 0, .int .u8 0, .int .u8 0, .int .u8 0, .int .u8 0, .int .u8 0, .int .u8 0, .int .u8 0, .int .u8 0, .int .u8 0, .int .u8 0, .int .u8 0, .int .u8 0, .int .u8 0, .slice none 0 0] 48)
 have hr0 := (Below.heap_alloc (w.alloc (.cells (trC t p).toArray 27)) (.cells #[.int .i64 0, .int .i64 0, .int .i64 0, .int .i64 0, .int .i64 0, .int .i64 0, .int .u8 0, .int .u8 0, .int .u8 0, .int .u8 0, .int .u8 0, .int .u8 0, .int .u8 0, .int .u8 0, .int .u8 0, .int .u8 0, .int .u8 0, .int .u8 0, .int .u8 0, .int .u8 0, .int .u8 0, .int .u8 0, .int .u8 0, .int .u8 0, .int .u8 0, .int .u8 0, .int .u8 0, .int .u8 0, .int .u8 0, .int .u8 0, .int .u8 0, .int .u8 0, .int .u8 0, .int .u8 0, .int .u8 0, .int .u8 0, .int .u8 0, .int .u8 0, .slice none 0 0] 48) w.heap.size (by simp)).trans (heap_alloc_new w (.cells (trC t p).toArray 27))
 have hr1 := heap_alloc_new (w.alloc (.cells (trC t p).toArray 27)) (.cells #[.int .i64 0, .int .i64 0, .int .i64 0, .int .i64 0, .int .i64 0, .int .i64 0, .int .u8 0, .int .u8 0, .int .u8 0, .int .u8 0, .int .u8 0, .int .u8 0, .int .u8 0, .int .u8 0, .int .u8 0, .int .u8 0, .int .u8 0, .int .u8 0, .int .u8 0, .int .u8 0, .int .u8 0, .int .u8 0, .int .u8 0, .int .u8 0, .int .u8 0, .int .u8 0, .int .u8 0, .int .u8 0, .int .u8 0, .int .u8 0, .int .u8 0, .int .u8 0, .int .u8 0, .int .u8 0, .int .u8 0, .int .u8 0, .int .u8 0, .int .u8 0, .slice none 0 0] 48)
 rw [World.size_alloc] at hr1
 obtain ⟨VA, HVA⟩ : ∃ V, Hid ((w.alloc (.cells (trC t p).toArray 27)).alloc (.cells #[.int .i64 0, .int .i64 0, .int .i64 0, .int .i64 0, .int .i64 0, .int .i64 0, .int .u8 0, .int .u8 0, .int .u8 0, .int .u8 0, .int .u8 0, .int .u8 0, .int .u8 0, .int .u8 0, .int .u8 0, .int .u8 0, .int .u8 0, .int .u8 0, .int .u8 0, .int .u8 0, .int .u8 0, .int .u8 0, .int .u8 0, .int .u8 0, .int .u8 0, .int .u8 0, .int .u8 0, .int .u8 0, .int .u8 0, .int .u8 0, .int .u8 0, .int .u8 0, .int .u8 0, .int .u8 0, .int .u8 0, .int .u8 0, .int .u8 0, .int .u8 0, .slice none 0 0] 48) = V) := ⟨_, hid rfl⟩
 rw [HVA.out] at hb0 hr0 hr1
 have HB0 := hid hb0
 have RT0 := hid hr0
 have RZ0 := hid hr1
 have KO0 := hid (h.out.below hb0)
 clear hb0 hr0 hr1
 rw [show trV t p = .agg (trC t p).toArray from rfl]
 go_enter Tryz.func20, Tryz.ntmps20
 go_wp2_with (first | (rw [HVA.out]) | (refine wpList_load_row rfl 27 (.tmp 2) rfl (w.heap.size) rfl 27 _ (0, 0) _ RT0.out Tryz.underlying27 rfl HIT.out ?_))
 rw [show Value.agg (trC t p).toArray = trV t p from rfl]
 refine (rnodes_yes t p _ KO0 hg).mono ?_
 rintro e U1 ⟨A2, n2, c2, rfl, hin, hq⟩
 have KL0 := hid hin
 have HN2 : Hid (n2 = p.n) := hid (by rw [← hin.len, List.length_map, HN.out])
 clear hin
 have HB2 := hid (HB0.out.trans (hq.mono HB0.out.size))
 have RT2 := hid (row_kept RT0.out hq)
 have RZ2 := hid (row_kept RZ0.out hq)
 have KO2 := hid (KO0.out.below hq)
 clear hq HB0 RT0 RZ0 KO0
 have kl : U1.cell? ⟨w.heap.size, 4, none⟩ = some (.slice p.A p.n p.c) := by rw [cell_of_row _ _ _ _ _ _ RT2.out]; rfl
 go_wp2_with fail
 clear kl
 refine (rdigests_any _ A2 n2 c2 _ (by rw [HN2.out]; have := trG_lns hg.out; rw [HN.out] at this; exact this) KL0).mono ?_
 rintro e U3 ⟨A3, n3, c3, rfl, hin, hq⟩
 rw [List.map_map, show ((fun x : Nd => x.d) ∘ ndL t.salt) = lvL t.salt from funext (fun x => ndL_d t.salt x)] at hin
 have KD0 := hid hin
 have HN3 : Hid (n3 = p.n) := hid (by rw [← hin.len, List.length_map, HN.out])
 clear hin
 have HB4 := hid (HB2.out.trans (hq.mono HB2.out.size))
 have RT4 := hid (row_kept RT2.out hq)
 have RZ4 := hid (row_kept RZ2.out hq)
 have KO4 := hid (KO2.out.below hq)
 have KL4 := hid (KL0.out.below hq)
 clear hq HB2 RT2 RZ2 KO2 KL0
 go_wp2_with fail
 have HPO : Hid (∀ y ∈ pathD (t.ln.map (lvL t.salt)) jn, DgOk y) := hid (fun y hy => ⟨(pathD_ok _ jn y hy).1, (pathD_ok _ jn y hy).2⟩)
 have HBZ := hid (Array.getElem?_eq_some_iff.1 RZ4.out).1
 refine (rPath02_own _ A3 n3 c3 jn _ (by rw [HN3.out]; have := trG_lns hg.out; rw [HN.out] at this; exact this) (by rw [HN3.out]; exact hj) KD0).mono ?_
 rintro e U5 ⟨A, n, c, rfl, hin, hq⟩
 have KP0 := hid hin
 clear hin
 have HB6 := hid (HB4.out.trans (hq.mono HB4.out.size))
 have RT6 := hid (row_kept RT4.out hq)
 have RZ6 := hid (row_kept RZ4.out hq)
 have KO6 := hid (KO4.out.below hq)
 have KD6 := hid (KD0.out.below hq)
 clear hq HB4 RT4 RZ4 KO4 KD0
 have HS1 := hid (shCL_info (i := (jn : Nat)) (x := x) (A := A) (n := n) (c := c) HSO.out)
 have HS2 : Hid ((#[.int .i64 0, .int .i64 0, .int .i64 0, .int .i64 0, .int .i64 0, .int .i64 0, .int .u8 0, .int .u8 0, .int .u8 0, .int .u8 0, .int .u8 0, .int .u8 0, .int .u8 0, .int .u8 0, .int .u8 0, .int .u8 0, .int .u8 0, .int .u8 0, .int .u8 0, .int .u8 0, .int .u8 0, .int .u8 0, .int .u8 0, .int .u8 0, .int .u8 0, .int .u8 0, .int .u8 0, .int .u8 0, .int .u8 0, .int .u8 0, .int .u8 0, .int .u8 0, .int .u8 0, .int .u8 0, .int .u8 0, .int .u8 0, .int .u8 0, .int .u8 0, .slice none 0 0] : Array Value).size = (shCL (jn : Nat) x s A n c).toArray.size) := hid (by have h1 := HZI.out; have h2 := HS1.out; rw [h1] at h2; rw [HZS.out]; exact (Option.some.inj h2))
 have hin := KO6.out.ln
 obtain ⟨g, off, ea, hgl, hr⟩ := hin.rd (by rw [hin.len]; omega)
 have hx : t.ln[jn]'(by rw [hin.len]; exact hj) = x := by have := HX.out; rw [List.getElem?_eq_getElem (by rw [hin.len]; exact hj)] at this; exact Option.some.inj this
 have hrx := range_elem lnC_len4 hr jn (by rw [hin.len]; exact hj)
 rw [hx] at hrx
 have HR := hid hrx
 have HGL := hid hgl
 have HTC : Hid (U5.cell? ⟨w.heap.size, 4, none⟩ = some (.slice (some ⟨g, off, none⟩) p.n p.c)) := hid (by rw [cell_of_row _ _ _ _ _ _ RT6.out, ← ea]; rfl)
 have HTB : Hid (w.heap.size < U5.heap.size) := hid (Array.getElem?_eq_some_iff.1 RT6.out).1
 clear hin hr hx hrx hgl ea
 go_wp2_with fail
 have HBL := hid (fun (a1 a2 : World) (hb : Below a1.heap.size a1 a2) => wR42x_below (W0 := w) (bt := w.heap.size) (br := w.heap.size + 1) (g := g) (off := off) (m := p.n) (mc := p.c) (t := t) (jn := jn) (x := x) (s := s) (A := A) (n := n) (c := c) hb)
 refine region_flow3 (by kernel_rfl) (by kernel_rfl) (fun i => Nat.beq i 16 || Nat.beq i 17) (fun i => i) (by kernel_rfl) (fun fx => #[trV t p, .int IntKind.i64 ↑jn, .pointer (some { block := w.heap.size, off := 0 }), undef, .pointer (some { block := w.heap.size + 1, off := 0 }), fx 17, .slice A2 n2 c2, .int IntKind.i64 0, .slice A n c, .int IntKind.i64 0, .tuple #[.slice A2 n2 c2, .int IntKind.i64 0], trV t p, .tuple #[.slice A2 n2 c2, .int IntKind.i64 0], .slice A2 n2 c2, .int IntKind.i64 0, .int IntKind.i64 0, .bool false, .bool false, .int IntKind.i64 ↑jn, .bool false, .bool false, .bool false, .int IntKind.i64 ↑jn, .pointer (some { block := w.heap.size, off := 4 }), .slice p.A p.n p.c, .int IntKind.i64 ↑p.n, .bool false, .bool false, undef, .tuple #[.slice A n c, .int IntKind.i64 0], .slice A2 n2 c2, .slice A3 n3 c3, .int IntKind.i64 ↑jn, .tuple #[.slice A n c, .int IntKind.i64 0], .slice A n c, .int IntKind.i64 0, fx 0, fx 1, fx 2, fx 3, fx 4, fx 5, fx 6, fx 7, fx 8, fx 9, fx 10, fx 11, fx 12, fx 13, fx 14, fx 15]) (fun i => bif Nat.beq i 17 then Value.int IntKind.i64 0 else undef) (fun L fx w' => (L 16 = false → Below U5.heap.size U5 w')) (fun fi fv _ fw => wR42x w w.heap.size (w.heap.size + 1) g off p.n p.c t jn x s A n c fi fv fw) (fun _ => (Below.refl _ _).drew) ?_ ?_
 ·refine ⟨?_, ?_, ?_, ?_, ?_, ?_, ?_, ?_, ?_, ?_, ?_, ?_, ?_, ?_, ?_, ?_, ?_, ?_, trivial⟩
  all_goals intro L fx w' hC hi hcl hdn hd
  ·have hnd : L 16 = false := nQ hi (fun h => (hcl 15 0 (hcl 16 15 h (by kernel_rfl)) (by kernel_rfl)))
   have hb12 := hC hnd
   clear hd
   go_wp2_with fail
   exact ⟨_, rfl, fun _ => hb12, rfl, kP⟩
  ·have hnd : L 16 = false := nQ hi (fun h => (hcl 2 1 (hcl 4 2 (hcl 5 4 (hcl 15 5 (hcl 16 15 h (by kernel_rfl)) (by kernel_rfl)) (by kernel_rfl)) (by kernel_rfl)) (by kernel_rfl)))
   have hb12 := hC hnd
   clear hd
   go_wp2_with fail
   exact ⟨_, rfl, fun _ => hb12, rfl, kP⟩
  ·have h1 : fx 1 = .pointer (some { block := w.heap.size, off := 4 }) := hd.1 rfl
   have hnd : L 16 = false := nQ hi (fun h => (hcl 4 2 (hcl 5 4 (hcl 15 5 (hcl 16 15 h (by kernel_rfl)) (by kernel_rfl)) (by kernel_rfl)) (by kernel_rfl)))
   have hb12 := hC hnd
   have hcc := (hb12.cell (p := ⟨w.heap.size, 4, none⟩) HTB.out).trans HTC.out
   clear hd
   go_wp2_with fail
   exact ⟨_, by simp only [upd, h1]; rfl, fun _ => hb12, rfl, kP⟩
  ·have hnd : L 16 = false := nQ hi (fun h => (hcl 4 3 (hcl 5 4 (hcl 15 5 (hcl 16 15 h (by kernel_rfl)) (by kernel_rfl)) (by kernel_rfl)) (by kernel_rfl)))
   have hb12 := hC hnd
   clear hd
   go_wp2_with fail
   exact ⟨_, rfl, fun _ => hb12, rfl, kP⟩
  ·have h2 : fx 2 = .slice (some ⟨g, off, none⟩) p.n p.c := hd.1 rfl
   have h3 : fx 3 = .int .i64 ((jn : Nat)) := hd.2.1 rfl
   have hnd : L 16 = false := nQ hi (fun h => (hcl 5 4 (hcl 15 5 (hcl 16 15 h (by kernel_rfl)) (by kernel_rfl)) (by kernel_rfl)))
   have hb12 := hC hnd
   have hlt := HJN.out
   have hltn : decide (jn < p.n) = true := eQ hlt
   clear hd
   go_wp2_with fail
   exact ⟨_, by simp only [upd, h2, h3]; rfl, fun _ => hb12, rfl, kP⟩
  ·have h4 : fx 4 = .pointer (some ⟨g, off + jn * 5, none⟩) := hd.1 rfl
   have hnd : L 16 = false := nQ hi (fun h => (hcl 15 5 (hcl 16 15 h (by kernel_rfl)) (by kernel_rfl)))
   have hb12 := hC hnd
   have hrow := rangeAt_below HR.out HGL.out hb12
   refine wpList_load_mid rfl 45 (.tmp 40) rfl g (off + jn * 5) h4 (lnC x) _ hrow Tryz.underlying45 rfl HII.out ?_
   rw [show Value.agg (lnC x).toArray = lnV x from rfl]
   clear hd
   go_wp2_with fail
   exact ⟨_, by simp only [upd, h4]; rfl, fun _ => hb12, rfl, kP⟩
  ·have hnd : L 16 = false := nQ hi (fun h => (hcl 7 6 (hcl 13 7 (hcl 15 13 (hcl 16 15 h (by kernel_rfl)) (by kernel_rfl)) (by kernel_rfl)) (by kernel_rfl)))
   have hb12 := hC hnd
   clear hd
   go_wp2_with fail
   exact ⟨_, rfl, fun _ => hb12, rfl, kP⟩
  ·have h6 : fx 6 = .pointer (some { block := w.heap.size, off := 6 }) := hd.1 rfl
   have hnd : L 16 = false := nQ hi (fun h => (hcl 13 7 (hcl 15 13 (hcl 16 15 h (by kernel_rfl)) (by kernel_rfl)) (by kernel_rfl)))
   have hb12 := hC hnd
   have hrow := tr_salt (row_kept RT6.out hb12)
   refine wpList_load_mid rfl 25 (.tmp 42) rfl w.heap.size 6 h6 (dgC t.salt) _ hrow Tryz.underlying25 rfl HSK.out ?_
   clear hd
   go_wp2_with fail
   exact ⟨_, by simp only [upd, h6]; rfl, fun _ => hb12, rfl, kP⟩
  ·have hnd : L 16 = false := nQ hi (fun h => (hcl 9 8 (hcl 11 9 (hcl 12 11 (hcl 13 12 (hcl 15 13 (hcl 16 15 h (by kernel_rfl)) (by kernel_rfl)) (by kernel_rfl)) (by kernel_rfl)) (by kernel_rfl)) (by kernel_rfl)))
   have hb12 := hC hnd
   clear hd
   go_wp2_with fail
   exact ⟨_, rfl, fun _ => hb12, rfl, kP⟩
  ·have h8 : fx 8 = .pointer (some { block := w.heap.size, off := 4 }) := hd.1 rfl
   have hnd : L 16 = false := nQ hi (fun h => (hcl 11 9 (hcl 12 11 (hcl 13 12 (hcl 15 13 (hcl 16 15 h (by kernel_rfl)) (by kernel_rfl)) (by kernel_rfl)) (by kernel_rfl)) (by kernel_rfl)))
   have hb12 := hC hnd
   have hcc := (hb12.cell (p := ⟨w.heap.size, 4, none⟩) HTB.out).trans HTC.out
   clear hd
   go_wp2_with fail
   exact ⟨_, by simp only [upd, h8]; rfl, fun _ => hb12, rfl, kP⟩
  ·have hnd : L 16 = false := nQ hi (fun h => (hcl 11 10 (hcl 12 11 (hcl 13 12 (hcl 15 13 (hcl 16 15 h (by kernel_rfl)) (by kernel_rfl)) (by kernel_rfl)) (by kernel_rfl)) (by kernel_rfl)))
   have hb12 := hC hnd
   clear hd
   go_wp2_with fail
   exact ⟨_, rfl, fun _ => hb12, rfl, kP⟩
  ·have h9 : fx 9 = .slice (some ⟨g, off, none⟩) p.n p.c := hd.1 rfl
   have h10 : fx 10 = .int .i64 ((jn : Nat)) := hd.2.1 rfl
   have hnd : L 16 = false := nQ hi (fun h => (hcl 12 11 (hcl 13 12 (hcl 15 13 (hcl 16 15 h (by kernel_rfl)) (by kernel_rfl)) (by kernel_rfl)) (by kernel_rfl)))
   have hb12 := hC hnd
   have hlt := HJN.out
   have hltn : decide (jn < p.n) = true := eQ hlt
   clear hd
   go_wp2_with fail
   exact ⟨_, by simp only [upd, h9, h10]; rfl, fun _ => hb12, rfl, kP⟩
  ·have h11 : fx 11 = .pointer (some ⟨g, off + jn * 5, none⟩) := hd.1 rfl
   have hnd : L 16 = false := nQ hi (fun h => (hcl 13 12 (hcl 15 13 (hcl 16 15 h (by kernel_rfl)) (by kernel_rfl)) (by kernel_rfl)))
   have hb12 := hC hnd
   have hrow := rangeAt_below HR.out HGL.out hb12
   refine wpList_load_mid rfl 45 (.tmp 47) rfl g (off + jn * 5) h11 (lnC x) _ hrow Tryz.underlying45 rfl HII.out ?_
   rw [show Value.agg (lnC x).toArray = lnV x from rfl]
   clear hd
   go_wp2_with fail
   exact ⟨_, by simp only [upd, h11]; rfl, fun _ => hb12, rfl, kP⟩
  ·have h7 : fx 7 = dgV t.salt := hd.1 rfl
   have h12 : fx 12 = lnV x := hd.2.1 rfl
   have hnd : L 16 = false := nQ hi (fun h => (hcl 15 13 (hcl 16 15 h (by kernel_rfl)) (by kernel_rfl)))
   have hb12 := hC hnd
   clear hd
   go_wp2_with fail
   refine (rsaltL t.salt x w' HSA).mono ?_
   rintro e w2 ⟨rfl, hq⟩
   rw [HS.out]
   go_wp2_with fail
   exact ⟨_, by simp only [upd, h7, h12]; rfl, fun _ => hb12.trans (hq.mono hb12.size), rfl, fun j v t _ _ h => HBL.out _ _ hq j v h⟩
  ·have hnd : L 16 = false := nQ hi (fun h => (hcl 15 14 (hcl 16 15 h (by kernel_rfl)) (by kernel_rfl)))
   have hb12 := hC hnd
   clear hd
   go_wp2_with fail
   exact ⟨_, rfl, fun _ => hb12, rfl, kP⟩
  ·have h0 : fx 0 = .int .i64 ((jn : Nat)) := hd.1 rfl
   have h5 : fx 5 = lnV x := hd.2.1 rfl
   have h13 : fx 13 = dgV s := hd.2.2.1 rfl
   have h14 : fx 14 = .slice A n c := hd.2.2.2.1 rfl
   have hnd : L 16 = false := nQ hi (fun h => (hcl 16 15 h (by kernel_rfl)))
   have hb12 := hC hnd
   refine wpList_build_shL rfl (.tmp 36) (.tmp 41) (.tmp 49) (.tmp 50) rfl (jn : Nat) x s A n c HSO.out.len h0 h5 h13 h14 ?_
   clear hd
   go_wp2_with fail
   exact ⟨_, by simp only [upd, h0, h5, h13, h14]; rfl, fun _ => hb12, rfl, kP⟩
  ·have h15 : fx 15 = .agg (shCL (jn : Nat) x s A n c).toArray := hd.1 rfl
   have hb21 := hC hi
   have hrow := row_kept RZ6.out hb21
   refine wpList_store_row rfl 48 (.tmp 4) (.tmp 51) rfl (w.heap.size + 1) (shCL (jn : Nat) x s A n c).toArray rfl h15 48 _ hrow HS1.out HS2.out (shCL_one _ _ _ _ _ _) ?_
   clear hd
   go_wp2_with fail
   refine ⟨undef, by rw [← h15]; rfl, fun h => (updB_self h).elim, ⟨setRow_heap _ _ _ _ _ _ hrow, below_setRow (HB6.out.trans (hb21.mono HB6.out.size)) (Nat.le_succ _) _, ownD_setRow HBZ.out (KP0.out.below hb21) HPO.out _⟩, fun j v t hj hu h => ?_⟩
   refine wR42x_pure j v ?_ h
   intro e
   subst e
   rw [hi] at hj; cases hj
  ·clear hd
   go_wp2_with fail
   exact ⟨_, rfl, fun h => hC h, rfl, kP⟩
 ·intro L fo w' hC hS
  have H16 := hid (hS 16 (by decide) rfl)
  have H17 := hid (hS 17 (by decide) rfl)
  have h17 : fo 17 = .int .i64 0 := H17.out
  rw [h17]
  clear hS hC h17 H17
  go_wp2_with fail
  have hl := run_loadVar_row (P := Tryz.prog) w' (w.heap.size + 1) 48 48 (shCL (jn : Nat) x s A n c).toArray (0, 0) _ H16.out.1 Tryz.underlying48 rfl HS1.out
  refine bodyPost_ret (v := .tuple #[.agg (shCL (jn : Nat) x s A n c).toArray, .int .i64 0]) ?_ rfl ⟨_, _, _, rfl, H16.out.2.2, H16.out.2.1⟩
  simp [results, Tryz.results20, asAddr, hl]
def wR42n (g : Nat) (off : Nat) (n : Nat) (c : Nat) (g2 : Nat) (off2 : Nat) (c2 : Nat) (jn : Nat) (x : Nd) : Nat → Value → World → Prop
 | 0, fv, _ => fv = .slice (some ⟨g, off, none⟩) n c
 | 1, fv, _ => fv = .int .i64 ((jn : Nat))
 | 2, fv, _ => fv = .pointer (some ⟨g, off + jn * 34, none⟩)
 | 3, fv, _ => fv = ndV x
 | 4, fv, _ => fv = .slice (some ⟨g2, off2, none⟩) n c2
 | 5, fv, _ => fv = .int .i64 ((jn : Nat))
 | 6, fv, _ => fv = .pointer (some ⟨g2, off2 + jn * 34, none⟩)
 | 7, fv, _ => fv = ndV x
 | 8, fv, _ => fv = .bool false
 | _, _, _ => True
theorem rsameN (ls : List Nd) (A A2 : Option Addr) (n c c2 : Nat) (w : World) (hn : n ≤ 100000) (h : Hid (InN w A n c ls)) (h2 : Hid (InN w A2 n c2 ls)) :
  Calls Tryz.prog 16 #[.slice A n c, .slice A2 n c2] w fun e w' => e = .returned (.bool true) ∧ Below w.heap.size w w' := by
 have HN := hid (show ls.length = n from h.out.len)
 have HB0 := hid (Below.refl w.heap.size w)
 have dn : ((n : Int) == (n : Int)) = true := beq_self_eq_true _
 have dn2 : ((n : Int) != (n : Int)) = false := by simp
 go_enter Tryz.func16, Tryz.ntmps16
 go_wp2_with fail
 go_loopw [5] (fun i wr => ∃ (j : Nat), j ≤ n ∧ i = .int .i64 j ∧ Hid (Below w.heap.size w wr)) (fun i _ => n - (intOf i).toNat)
 case atStart => exact ⟨0, by omega, rfl, HB0⟩
 case round =>
  clear HB0
  obtain ⟨j, hj, rfl, HB⟩ := hrel
  by_cases hlt : j < n
  ·have d1 : decide ((j : Int) < (n : Int)) = true := eQ (by omega)
   have d2 : decide (j < n) = true := eQ hlt
   have HLT := hid hlt
   have hjl : j < ls.length := by rw [HN.out]; exact hlt
   obtain ⟨g, off, rfl, hg1, hr1⟩ := h.out.rd (by omega)
   obtain ⟨g2, off2, rfl, hg2, hr2⟩ := h2.out.rd (by omega)
   obtain ⟨x, hx⟩ : ∃ x, ls[j] = x := ⟨_, rfl⟩
   have HXO : Hid (NdOk x) := hid (by rw [← hx]; exact h.out.ok _ (List.getElem_mem hjl))
   have HR1 : Hid (wr.rangeAt g (off + j * 34) (ndC x)) := hid (by rw [← hx]; exact rangeAt_below (range_one hr1 h.out.ok j hjl) hg1 HB.out)
   have HR2 : Hid (wr.rangeAt g2 (off2 + j * 34) (ndC x)) := hid (by rw [← hx]; exact rangeAt_below (range_one hr2 h2.out.ok j hjl) hg2 HB.out)
   have HG1 : Hid (g < wr.heap.size) := hid (Nat.lt_of_lt_of_le hg1 HB.out.size)
   have HG2 : Hid (g2 < wr.heap.size) := hid (Nat.lt_of_lt_of_le hg2 HB.out.size)
   have HII := hid (size34 HXO.out)
   clear hr1 hr2 hx hg1 hg2 hjl
   go_wp2_with fail
   refine region_flow3 (by kernel_rfl) (by kernel_rfl) (fun i => Nat.beq i 8) (fun i => i) (by kernel_rfl) (fun fx => #[.slice (some { block := g, off := off }) n c, .slice (some { block := g2, off := off2 }) n c2, undef, undef, u4, .int IntKind.i64 ↑j, .slice (some { block := g, off := off }) n c, .int IntKind.i64 ↑n, .slice (some { block := g2, off := off2 }) n c2, .int IntKind.i64 ↑n, .bool false, .int IntKind.i64 ↑j, .slice (some { block := g, off := off }) n c, .int IntKind.i64 ↑n, .bool true, u15, u16, fx 0, fx 1, fx 2, fx 3, fx 4, fx 5, fx 6, fx 7, fx 8]) (fun i => bif Nat.beq i 0 then u17 else bif Nat.beq i 1 then u18 else bif Nat.beq i 2 then u19 else bif Nat.beq i 3 then u20 else bif Nat.beq i 4 then u21 else bif Nat.beq i 5 then u22 else bif Nat.beq i 6 then u23 else bif Nat.beq i 7 then u24 else bif Nat.beq i 8 then u25 else undef) (fun L fx w' => Below wr.heap.size wr w') (fun fi fv _ fw => wR42n g off n c g2 off2 c2 j x fi fv fw) (Below.refl _ _).drew ?_ ?_
   ·refine ⟨?_, ?_, ?_, ?_, ?_, ?_, ?_, ?_, ?_, trivial⟩
    all_goals intro L fx w' hC hi hcl hdn hd
    ·clear hd
     go_wp2_with fail
     exact ⟨_, rfl, hC, rfl, kP⟩
    ·clear hd
     go_wp2_with fail
     exact ⟨_, rfl, hC, rfl, kP⟩
    ·have h0 : fx 0 = .slice (some ⟨g, off, none⟩) n c := hd.1 rfl
     have h1 : fx 1 = .int .i64 ((j : Nat)) := hd.2.1 rfl
     have hlt := HLT.out
     have hltn : decide (j < n) = true := eQ hlt
     clear hd
     go_wp2_with fail
     exact ⟨_, by simp only [upd, h0, h1]; rfl, hC, rfl, kP⟩
    ·have h2 : fx 2 = .pointer (some ⟨g, off + j * 34, none⟩) := hd.1 rfl
     have hrow := rangeAt_below HR1.out HG1.out hC
     refine wpList_load_mid rfl 39 (.tmp 19) rfl g (off + j * 34) h2 (ndC x) _ hrow Tryz.underlying39 rfl HII.out ?_
     rw [show Value.agg (ndC x).toArray = ndV x from rfl]
     clear hd
     go_wp2_with fail
     exact ⟨_, by simp only [upd, h2]; rfl, hC, rfl, kP⟩
    ·clear hd
     go_wp2_with fail
     exact ⟨_, rfl, hC, rfl, kP⟩
    ·clear hd
     go_wp2_with fail
     exact ⟨_, rfl, hC, rfl, kP⟩
    ·have h4 : fx 4 = .slice (some ⟨g2, off2, none⟩) n c2 := hd.1 rfl
     have h5 : fx 5 = .int .i64 ((j : Nat)) := hd.2.1 rfl
     have hlt := HLT.out
     have hltn : decide (j < n) = true := eQ hlt
     clear hd
     go_wp2_with fail
     exact ⟨_, by simp only [upd, h4, h5]; rfl, hC, rfl, kP⟩
    ·have h6 : fx 6 = .pointer (some ⟨g2, off2 + j * 34, none⟩) := hd.1 rfl
     have hrow := rangeAt_below HR2.out HG2.out hC
     refine wpList_load_mid rfl 39 (.tmp 23) rfl g2 (off2 + j * 34) h6 (ndC x) _ hrow Tryz.underlying39 rfl HII.out ?_
     rw [show Value.agg (ndC x).toArray = ndV x from rfl]
     clear hd
     go_wp2_with fail
     exact ⟨_, by simp only [upd, h6]; rfl, hC, rfl, kP⟩
    ·have h3 : fx 3 = ndV x := hd.1 rfl
     have h7 : fx 7 = ndV x := hd.2.1 rfl
     refine wpList_neq_nd rfl (.tmp 20) (.tmp 24) _ rfl x x h3 h7 HXO.out HXO.out ?_
     rw [show (!(ndEq x x)) = false by rw [ndEq_refl]; rfl]
     clear hd
     go_wp2_with fail
     exact ⟨_, by simp only [upd, h3, h7]; rfl, hC, rfl, kP⟩
   ·intro L fo w' hC hS
    have H8 := hid (hS 8 (by decide) rfl)
    have h8 : fo 8 = .bool false := H8.out
    rw [h8]
    have HB5 := hid (HB.out.trans (hC.mono HB.out.size))
    clear hS hC h8 H8
    go_wp2_with fail
    go_roundw
    case rel => exact ⟨j + 1, by omega, by go_num, HB5⟩
    case measure => simp [intOf]; omega
  ·have d1 : decide ((j : Int) < (n : Int)) = false := dQ (by omega)
   have d1n : decide (j < n) = false := dQ hlt
   go_wp2_with fail
   go_ret
   exact ⟨rfl, HB.out⟩
def wR42d (g : Nat) (off : Nat) (n : Nat) (c : Nat) (g2 : Nat) (off2 : Nat) (c2 : Nat) (jn : Nat) (x : Dg) : Nat → Value → World → Prop
 | 0, fv, _ => fv = .slice (some ⟨g, off, none⟩) n c
 | 1, fv, _ => fv = .int .i64 ((jn : Nat))
 | 2, fv, _ => fv = .pointer (some ⟨g, off + jn * 32, none⟩)
 | 3, fv, _ => fv = dgV x
 | 4, fv, _ => fv = .slice (some ⟨g2, off2, none⟩) n c2
 | 5, fv, _ => fv = .int .i64 ((jn : Nat))
 | 6, fv, _ => fv = .pointer (some ⟨g2, off2 + jn * 32, none⟩)
 | 7, fv, _ => fv = dgV x
 | 8, fv, _ => fv = .bool false
 | _, _, _ => True
theorem rsameD (ls : List Dg) (A A2 : Option Addr) (n c c2 : Nat) (w : World) (hn : n ≤ 100000) (h : Hid (InD w A n c ls)) (h2 : Hid (InD w A2 n c2 ls)) :
  Calls Tryz.prog 62 #[.slice A n c, .slice A2 n c2] w fun e w' => e = .returned (.bool true) ∧ Below w.heap.size w w' := by
 have HN := hid (show ls.length = n from h.out.len)
 have HB0 := hid (Below.refl w.heap.size w)
 have dn : ((n : Int) == (n : Int)) = true := beq_self_eq_true _
 have dn2 : ((n : Int) != (n : Int)) = false := by simp
 go_enter Tryz.func62, Tryz.ntmps62
 go_wp2_with fail
 go_loopw [5] (fun i wr => ∃ (j : Nat), j ≤ n ∧ i = .int .i64 j ∧ Hid (Below w.heap.size w wr)) (fun i _ => n - (intOf i).toNat)
 case atStart => exact ⟨0, by omega, rfl, HB0⟩
 case round =>
  clear HB0
  obtain ⟨j, hj, rfl, HB⟩ := hrel
  by_cases hlt : j < n
  ·have d1 : decide ((j : Int) < (n : Int)) = true := eQ (by omega)
   have d2 : decide (j < n) = true := eQ hlt
   have HLT := hid hlt
   have hjl : j < ls.length := by rw [HN.out]; exact hlt
   obtain ⟨g, off, rfl, hg1, hr1⟩ := h.out.rd (by omega)
   obtain ⟨g2, off2, rfl, hg2, hr2⟩ := h2.out.rd (by omega)
   obtain ⟨x, hx⟩ : ∃ x, ls[j] = x := ⟨_, rfl⟩
   have HXO : Hid (DgOk x) := hid (by rw [← hx]; exact h.out.ok _ (List.getElem_mem hjl))
   have HR1 : Hid (wr.rangeAt g (off + j * 32) (dgC x)) := hid (by rw [← hx]; exact rangeAt_below (rangeD_one hr1 h.out.ok j hjl) hg1 HB.out)
   have HR2 : Hid (wr.rangeAt g2 (off2 + j * 32) (dgC x)) := hid (by rw [← hx]; exact rangeAt_below (rangeD_one hr2 h2.out.ok j hjl) hg2 HB.out)
   have HG1 : Hid (g < wr.heap.size) := hid (Nat.lt_of_lt_of_le hg1 HB.out.size)
   have HG2 : Hid (g2 < wr.heap.size) := hid (Nat.lt_of_lt_of_le hg2 HB.out.size)
   have HII := hid (dgC_infoL HXO.out)
   clear hr1 hr2 hx hg1 hg2 hjl
   go_wp2_with fail
   refine region_flow3 (by kernel_rfl) (by kernel_rfl) (fun i => Nat.beq i 8) (fun i => i) (by kernel_rfl) (fun fx => #[.slice (some { block := g, off := off }) n c, .slice (some { block := g2, off := off2 }) n c2, undef, undef, u4, .int IntKind.i64 ↑j, .slice (some { block := g, off := off }) n c, .int IntKind.i64 ↑n, .slice (some { block := g2, off := off2 }) n c2, .int IntKind.i64 ↑n, .bool false, .int IntKind.i64 ↑j, .slice (some { block := g, off := off }) n c, .int IntKind.i64 ↑n, .bool true, u15, u16, fx 0, fx 1, fx 2, fx 3, fx 4, fx 5, fx 6, fx 7, fx 8]) (fun i => bif Nat.beq i 0 then u17 else bif Nat.beq i 1 then u18 else bif Nat.beq i 2 then u19 else bif Nat.beq i 3 then u20 else bif Nat.beq i 4 then u21 else bif Nat.beq i 5 then u22 else bif Nat.beq i 6 then u23 else bif Nat.beq i 7 then u24 else bif Nat.beq i 8 then u25 else undef) (fun L fx w' => Below wr.heap.size wr w') (fun fi fv _ fw => wR42d g off n c g2 off2 c2 j x fi fv fw) (Below.refl _ _).drew ?_ ?_
   ·refine ⟨?_, ?_, ?_, ?_, ?_, ?_, ?_, ?_, ?_, trivial⟩
    all_goals intro L fx w' hC hi hcl hdn hd
    ·clear hd
     go_wp2_with fail
     exact ⟨_, rfl, hC, rfl, kP⟩
    ·clear hd
     go_wp2_with fail
     exact ⟨_, rfl, hC, rfl, kP⟩
    ·have h0 : fx 0 = .slice (some ⟨g, off, none⟩) n c := hd.1 rfl
     have h1 : fx 1 = .int .i64 ((j : Nat)) := hd.2.1 rfl
     have hlt := HLT.out
     have hltn : decide (j < n) = true := eQ hlt
     clear hd
     go_wp2_with fail
     exact ⟨_, by simp only [upd, h0, h1]; rfl, hC, rfl, kP⟩
    ·have h2 : fx 2 = .pointer (some ⟨g, off + j * 32, none⟩) := hd.1 rfl
     have hrow := rangeAt_below HR1.out HG1.out hC
     refine wpList_load_mid rfl 25 (.tmp 19) rfl g (off + j * 32) h2 (dgC x) _ hrow Tryz.underlying25 rfl HII.out ?_
     rw [show Value.agg (dgC x).toArray = dgV x from rfl]
     clear hd
     go_wp2_with fail
     exact ⟨_, by simp only [upd, h2]; rfl, hC, rfl, kP⟩
    ·clear hd
     go_wp2_with fail
     exact ⟨_, rfl, hC, rfl, kP⟩
    ·clear hd
     go_wp2_with fail
     exact ⟨_, rfl, hC, rfl, kP⟩
    ·have h4 : fx 4 = .slice (some ⟨g2, off2, none⟩) n c2 := hd.1 rfl
     have h5 : fx 5 = .int .i64 ((j : Nat)) := hd.2.1 rfl
     have hlt := HLT.out
     have hltn : decide (j < n) = true := eQ hlt
     clear hd
     go_wp2_with fail
     exact ⟨_, by simp only [upd, h4, h5]; rfl, hC, rfl, kP⟩
    ·have h6 : fx 6 = .pointer (some ⟨g2, off2 + j * 32, none⟩) := hd.1 rfl
     have hrow := rangeAt_below HR2.out HG2.out hC
     refine wpList_load_mid rfl 25 (.tmp 23) rfl g2 (off2 + j * 32) h6 (dgC x) _ hrow Tryz.underlying25 rfl HII.out ?_
     rw [show Value.agg (dgC x).toArray = dgV x from rfl]
     clear hd
     go_wp2_with fail
     exact ⟨_, by simp only [upd, h6]; rfl, hC, rfl, kP⟩
    ·have h3 : fx 3 = dgV x := hd.1 rfl
     have h7 : fx 7 = dgV x := hd.2.1 rfl
     refine wpList_neq_dg rfl (.tmp 20) (.tmp 24) _ rfl x x h3 h7 HXO.out HXO.out ?_
     rw [show (!(x == x)) = false by simp]
     clear hd
     go_wp2_with fail
     exact ⟨_, by simp only [upd, h3, h7]; rfl, hC, rfl, kP⟩
   ·intro L fo w' hC hS
    have H8 := hid (hS 8 (by decide) rfl)
    have h8 : fo 8 = .bool false := H8.out
    rw [h8]
    have HB5 := hid (HB.out.trans (hC.mono HB.out.size))
    clear hS hC h8 H8
    go_wp2_with fail
    go_roundw
    case rel => exact ⟨j + 1, by omega, by go_num, HB5⟩
    case measure => simp [intOf]; omega
  ·have d1 : decide ((j : Int) < (n : Int)) = false := dQ (by omega)
   have d1n : decide (j < n) = false := dQ hlt
   go_wp2_with fail
   go_ret
   exact ⟨rfl, HB.out⟩
theorem rsameShL (i : Int) (x : Ln) (s : Dg) (ls : List Dg) (A A2 : Option Addr) (n c c2 : Nat) (w : World) (hs : Hid (DgOk s)) (hn : n ≤ 100000) (h : Hid (InD w A n c ls)) (h2 : Hid (InD w A2 n c2 ls)) :
  Calls Tryz.prog 21 #[.agg (shCL i x s A n c).toArray, .agg (shCL i x s A2 n c2).toArray] w fun e w' => e = .returned (.bool true) ∧ Below w.heap.size w w' := by
 have HXX : Hid (lnEq x x = true) := hid ((lnEq_iff x x).2 rfl)
 have HSS : Hid ((s == s) = true) := hid (beq_self_eq_true _)
 have HSO := hs
 have HIX := hid (lnC_infoL x)
 have HIS := hid (dgC_infoK hs.out)
 have dii : ((i : Int) == (i : Int)) = true := beq_self_eq_true _
 have hb0 := ((Below.refl _ w).alloc (Nat.le_refl _) (.cells (shCL i x s A n c).toArray 48)).alloc (by simp) (.cells (shCL i x s A2 n c2).toArray 48)
 have hr0 := (Below.heap_alloc (w.alloc (.cells (shCL i x s A n c).toArray 48)) (.cells (shCL i x s A2 n c2).toArray 48) w.heap.size (by simp)).trans (heap_alloc_new w (.cells (shCL i x s A n c).toArray 48))
 have hr1 := heap_alloc_new (w.alloc (.cells (shCL i x s A n c).toArray 48)) (.cells (shCL i x s A2 n c2).toArray 48)
 rw [World.size_alloc] at hr1
 obtain ⟨VA, HVA⟩ : ∃ V, Hid ((w.alloc (.cells (shCL i x s A n c).toArray 48)).alloc (.cells (shCL i x s A2 n c2).toArray 48) = V) := ⟨_, hid rfl⟩
 rw [HVA.out] at hb0 hr0 hr1
 have HB0 := hid hb0
 have KD1 := hid (h.out.below hb0)
 have KD2 := hid (h2.out.below hb0)
 have HX1 := hid (shCL_x hr0)
 have HX2 := hid (shCL_x hr1)
 have HS1 := hid (shCL_s hr0)
 have HS2 := hid (shCL_s hr1)
 have kp1 := shCL_p hs.out hr0
 have kp2 := shCL_p hs.out hr1
 have k1 : VA.cell? ⟨w.heap.size, 0, none⟩ = some (.int .i64 i) := by rw [cell_of_row _ _ _ _ _ _ hr0]; rfl
 have k2 : VA.cell? ⟨w.heap.size + 1, 0, none⟩ = some (.int .i64 i) := by rw [cell_of_row _ _ _ _ _ _ hr1]; rfl
 clear hb0 hr0 hr1
 go_enter Tryz.func21, Tryz.ntmps21
 go_wp2_with (first | (rw [HVA.out]) | (with_reducible refine wpList_here ?_; refine wpList_load_mid_g 45 (.tmp 11) rfl rfl w.heap.size 1 rfl (lnC x) _ HX1.out Tryz.underlying45 rfl HIX.out ?_; rw [show Value.agg (lnC x).toArray = lnV x from rfl]) | (with_reducible refine wpList_here ?_; refine wpList_load_mid_g 45 (.tmp 13) rfl rfl (w.heap.size + 1) 1 rfl (lnC x) _ HX2.out Tryz.underlying45 rfl HIX.out ?_; rw [show Value.agg (lnC x).toArray = lnV x from rfl]) | (with_reducible refine wpList_here ?_; refine wpList_unguard rfl ?_; refine wpList_eql_ln rfl (.tmp 12) (.tmp 14) _ rfl x x rfl rfl ?_; rw [HXX.out]) | (with_reducible refine wpList_here ?_; refine wpList_load_mid_g 25 (.tmp 18) rfl rfl w.heap.size 6 rfl (dgC s) _ HS1.out Tryz.underlying25 rfl HIS.out ?_; rw [show Value.agg (dgC s).toArray = dgV s from rfl]) | (with_reducible refine wpList_here ?_; refine wpList_load_mid_g 25 (.tmp 20) rfl rfl (w.heap.size + 1) 6 rfl (dgC s) _ HS2.out Tryz.underlying25 rfl HIS.out ?_; rw [show Value.agg (dgC s).toArray = dgV s from rfl]) | (with_reducible refine wpList_here ?_; refine wpList_eql_dg_g (.tmp 19) (.tmp 21) _ rfl rfl s s rfl rfl HSO.out.len HSO.out.len HSO.out.bytes HSO.out.bytes ?_; rw [HSS.out]))
 refine (rsameD ls A A2 n c c2 _ hn KD1 KD2).mono ?_
 rintro e W2 ⟨rfl, hq⟩
 have HB2 := hid (HB0.out.trans (hq.mono HB0.out.size))
 clear hq
 go_wp2_with fail
 go_ret
 exact ⟨rfl, HB2.out⟩
theorem row_range {w : World} {g ty : Nat} {cs : List Value} (h : w.heap[g]? = some (.cells cs.toArray ty (0, 0))) : w.rangeAt g 0 cs := fun j v hj => by
 rw [Nat.zero_add, cell_of_row w g j _ _ _ h, List.getElem?_toArray]; exact hj
theorem wpList_neq_dg_g {w : World} {ops : Array Oper} {rest : List Oper} {o : Oper} {a : Act} {Q : Exit → Act → World → Prop} (x y : Operand) (t : TypeId) (hw : Region.wanted o (yielded ops a.tmps) = true)
  (ho : o.op = .binOp .neq 25 x y t) (l m : List Nat) (hx : a.eval x = dgV l) (hy : a.eval y = dgV m) (hl : DgOk l) (hm : DgOk m)
  (h : wpList Tryz.prog ops Q rest (a.put o.dst (.bool (!(l == m)))) w) : wpList Tryz.prog ops Q (o :: rest) a w :=
 wpList_unguard hw (wpList_neq_dg (o := { o with guard := none }) rfl x y t ho l m hx hy hl hm h)
theorem rver_any (r : Rt) (i : Int) (x : Ln) (s : Dg) (A : Option Addr) (n c : Nat) (ps : List Dg) (w : World) (hs : Hid (DgOk s)) (hr : Hid (RtOk r)) (hn : n ≤ 100000) (h : Hid (InD w A n c ps)) :
  Calls Tryz.prog 23 #[.agg (rtC r).toArray, .agg (shCL i x s A n c).toArray] w fun e w' => e = .returned (.int .i64 (vfE (vLn x) (lfL x s) i r.lin ps r.listed)) ∧ Below w.heap.size w w' := by
 have HLX := hid (lnC_infoL4 x)
 obtain ⟨v, hv⟩ : ∃ b, Hid (vLn x = b) := ⟨_, hid rfl⟩
 have hb0 := ((Below.refl _ w).alloc (Nat.le_refl _) (.cells (rtC r).toArray 43)).alloc (by simp) (.cells (shCL i x s A n c).toArray 48)
 have hr0 := (Below.heap_alloc (w.alloc (.cells (rtC r).toArray 43)) (.cells (shCL i x s A n c).toArray 48) w.heap.size (by simp)).trans (heap_alloc_new w (.cells (rtC r).toArray 43))
 have hr1 := heap_alloc_new (w.alloc (.cells (rtC r).toArray 43)) (.cells (shCL i x s A n c).toArray 48)
 rw [World.size_alloc] at hr1
 obtain ⟨V1, HV1⟩ : ∃ V, Hid ((w.alloc (.cells (rtC r).toArray 43)).alloc (.cells (shCL i x s A n c).toArray 48) = V) := ⟨_, hid rfl⟩
 rw [HV1.out] at hb0 hr0 hr1
 have HB0 := hid hb0
 have RR0 := hid hr0
 have RS0 := hid hr1
 have KI0 := hid (h.out.below hb0)
 clear hb0 hr0 hr1
 go_enter Tryz.func23, Tryz.ntmps23
 have HMX := hid (shCL_x RS0.out)
 go_wp2_with (first | (rw [HV1.out]) | (with_reducible refine wpList_here ?_; refine wpList_load_mid rfl 45 (.tmp 9) rfl ((w.heap.size + 1)) 1 rfl (lnC x) _ HMX.out Tryz.underlying45 rfl HLX.out ?_; rw [show Value.agg (lnC x).toArray = lnV x from rfl]))
 clear HMX
 refine (rvline_any x.c0 x.c1 x.c2 x.c3 x.c4 _).mono ?_
 rintro e U1 ⟨rfl, hq⟩
 rw [show decide (lOk x.c0 x.c1 x.c2 x.c3 x.c4) = vLn x from rfl, hv.out]
 have HB2 := hid (HB0.out.trans (hq.mono HB0.out.size))
 have RR2 := hid (row_kept RR0.out hq)
 have RS2 := hid (row_kept RS0.out hq)
 have KI2 := hid (KI0.out.below hq)
 clear hq HB0 RR0 RS0 KI0
 cases v
 ·go_wp2_with fail
  go_ret
  exact ⟨by rw [vfE_0 _ _ _ _ _ hv.out]; rfl, HB2.out⟩
 have HMX := hid (shCL_x RS2.out)
 have HMS := hid (shCL_s RS2.out)
 have HIS := hid (dgC_infoL hs.out)
 go_wp2_with (first | (with_reducible refine wpList_here ?_; refine wpList_load_mid rfl 45 (.tmp 14) rfl ((w.heap.size + 1)) 1 rfl (lnC x) _ HMX.out Tryz.underlying45 rfl HLX.out ?_; rw [show Value.agg (lnC x).toArray = lnV x from rfl]) | (with_reducible refine wpList_here ?_; refine wpList_load_mid rfl 25 (.tmp 16) rfl ((w.heap.size + 1)) 6 rfl (dgC s) _ HMS.out Tryz.underlying25 rfl HIS.out ?_; rw [show Value.agg (dgC s).toArray = dgV s from rfl]))
 clear HMX HMS
 obtain ⟨nd, HND⟩ : ∃ d, Hid (leafR x.c0 x.c1 x.c2 x.c3 x.c4 s = d) := ⟨_, hid rfl⟩
 have HNO : Hid (NdOk nd) := hid (by rw [← HND.out]; exact leafR_okL x s)
 have HN1 := hid (size34e HNO.out)
 have HN2 : Hid ((#[.int .u8 0, .int .u8 0, .int .u8 0, .int .u8 0, .int .u8 0, .int .u8 0, .int .u8 0, .int .u8 0, .int .u8 0, .int .u8 0, .int .u8 0, .int .u8 0, .int .u8 0, .int .u8 0, .int .u8 0, .int .u8 0, .int .u8 0, .int .u8 0, .int .u8 0, .int .u8 0, .int .u8 0, .int .u8 0, .int .u8 0, .int .u8 0, .int .u8 0, .int .u8 0, .int .u8 0, .int .u8 0, .int .u8 0, .int .u8 0, .int .u8 0, .int .u8 0, .int .i64 0, .int .i64 0] : Array Value).size = (ndC nd).toArray.size) := hid (by simp [ndC_length HNO.out])
 have HLF : Hid (lfL x s = nd.d) := hid (by rw [← HND.out]; rfl)
 have HDO := hid (ndOk_dg HNO.out)
 have HDI := hid (dgC_infoL HDO.out)
 refine (rleaf_x x s _ hs hv.out).mono ?_
 rintro e U3 ⟨rfl, hq⟩
 rw [HND.out]
 have HB4 := hid (HB2.out.trans (hq.mono HB2.out.size))
 have RR4 := hid (row_kept RR2.out hq)
 have RS4 := hid (row_kept RS2.out hq)
 have KI4 := hid (KI2.out.below hq)
 clear hq HB2 RR2 RS2 KI2
 rw [show ndV nd = .agg (ndC nd).toArray from rfl]
 obtain ⟨V5, HV5, hw, hb⟩ := lay_row U3 39 #[.int .u8 0, .int .u8 0, .int .u8 0, .int .u8 0, .int .u8 0, .int .u8 0, .int .u8 0, .int .u8 0, .int .u8 0, .int .u8 0, .int .u8 0, .int .u8 0, .int .u8 0, .int .u8 0, .int .u8 0, .int .u8 0, .int .u8 0, .int .u8 0, .int .u8 0, .int .u8 0, .int .u8 0, .int .u8 0, .int .u8 0, .int .u8 0, .int .u8 0, .int .u8 0, .int .u8 0, .int .u8 0, .int .u8 0, .int .u8 0, .int .u8 0, .int .u8 0, .int .i64 0, .int .i64 0] (ndC nd).toArray
 have HB6 := hid (HB4.out.trans (hb.mono HB4.out.size))
 have RR6 := hid (row_kept RR4.out hb)
 have RS6 := hid (row_kept RS4.out hb)
 have KI6 := hid (KI4.out.below hb)
 have RN5 := hid hw
 clear hw hb HB4 RR4 RS4 KI4
 have HMD := hid (range_dg (by have := row_range RN5.out; exact this))
 have k0 : V5.cell? ⟨w.heap.size + 1, 0, none⟩ = some (.int .i64 i) := by rw [cell_of_row _ _ _ _ _ _ RS6.out]; rfl
 have k1 : V5.cell? ⟨w.heap.size, 4, none⟩ = some (.int .i64 r.lin) := by rw [cell_of_row _ _ _ _ _ _ RR6.out]; rfl
 have k2 := shCL_p hs.out RS6.out
 go_wp2_with (first | (refine wpList_store_row rfl 39 (.tmp 5) (.tmp 19) rfl U3.heap.size (ndC nd).toArray rfl rfl 39 _ (heap_alloc_new U3 _) HN1.out HN2.out (ndC_one _) ?_; rw [HV5.out]) | (with_reducible refine wpList_here ?_; refine wpList_load_mid rfl 25 (.tmp 22) rfl (U3.heap.size) 0 rfl (dgC nd.d) _ HMD.out Tryz.underlying25 rfl HDI.out ?_; rw [show Value.agg (dgC nd.d).toArray = dgV nd.d from rfl]))
 clear k0 k1 k2 HMD
 obtain ⟨dr, HDR⟩ : ∃ d, Hid (dclR (lfL x s) i r.lin ps = d) := ⟨_, hid rfl⟩
 obtain ⟨de, HDE⟩ : ∃ d, Hid (dclE i r.lin ps.length = d) := ⟨_, hid rfl⟩
 have HRO : Hid (DgOk dr) := hid (by rw [← HDR.out]; exact dclR_ok _ _ _ _)
 have HS1 := hid (dgC_info HRO.out)
 have HS2 : Hid ((#[.int .u8 0, .int .u8 0, .int .u8 0, .int .u8 0, .int .u8 0, .int .u8 0, .int .u8 0, .int .u8 0, .int .u8 0, .int .u8 0, .int .u8 0, .int .u8 0, .int .u8 0, .int .u8 0, .int .u8 0, .int .u8 0, .int .u8 0, .int .u8 0, .int .u8 0, .int .u8 0, .int .u8 0, .int .u8 0, .int .u8 0, .int .u8 0, .int .u8 0, .int .u8 0, .int .u8 0, .int .u8 0, .int .u8 0, .int .u8 0, .int .u8 0, .int .u8 0] : Array Value).size = (dgC dr).toArray.size) := hid (by rw [← dgC_size HRO.out]; rfl)
 have HD2 : Hid (de = 1 ∨ de = 0) := hid (by
  rw [← HDE.out]
  by_cases he : dArg i r.lin ps.length
  ·exact .inl (dcl_arg (d := lfL x s) he).2
  ·exact .inr (dcl_yes (d := lfL x s) he).2)
 refine (rClimb02_any nd.d i r.lin ps A n c _ (by omega) KI6 HDO).mono ?_
 rintro e U7 ⟨rfl, hq⟩
 rw [← HLF.out, HDR.out, HDE.out, dgV_agg dr]
 have HB8 := hid (HB6.out.trans (hq.mono HB6.out.size))
 have RR8 := hid (row_kept RR6.out hq)
 have RS8 := hid (row_kept RS6.out hq)
 have RN8 := hid (row_kept RN5.out hq)
 have KI8 := hid (KI6.out.below hq)
 clear hq HB6 RR6 RS6 RN5 KI6
 obtain ⟨V9, HV9, hw, hb⟩ := lay_row U7 25 #[.int .u8 0, .int .u8 0, .int .u8 0, .int .u8 0, .int .u8 0, .int .u8 0, .int .u8 0, .int .u8 0, .int .u8 0, .int .u8 0, .int .u8 0, .int .u8 0, .int .u8 0, .int .u8 0, .int .u8 0, .int .u8 0, .int .u8 0, .int .u8 0, .int .u8 0, .int .u8 0, .int .u8 0, .int .u8 0, .int .u8 0, .int .u8 0, .int .u8 0, .int .u8 0, .int .u8 0, .int .u8 0, .int .u8 0, .int .u8 0, .int .u8 0, .int .u8 0] (dgC dr).toArray
 have HB10 := hid (HB8.out.trans (hb.mono HB8.out.size))
 have RR10 := hid (row_kept RR8.out hb)
 have RS10 := hid (row_kept RS8.out hb)
 have RN10 := hid (row_kept RN8.out hb)
 have KI10 := hid (KI8.out.below hb)
 have RC9 := hid hw
 clear hw hb HB8 RR8 RS8 RN8 KI8
 rcases HD2.out with e1 | e1 <;> subst e1
 ·go_wp2_with (refine wpList_store_row rfl 25 (.tmp 7) (.tmp 31) rfl U7.heap.size (dgC dr).toArray rfl rfl 25 _ (heap_alloc_new U7 _) HS1.out HS2.out (dgC_one _) ?_; rw [HV9.out])
  go_ret
  exact ⟨by rw [vfE_1 _ _ _ _ _ HDE.out]; rfl, HB10.out⟩
 obtain ⟨q, hq⟩ : ∃ b, Hid ((dr == r.listed) = b) := ⟨_, hid rfl⟩
 have HML := hid (rt_listed hr.out RR10.out)
 have HLI := hid (dgC_infoL hr.out.listed)
 cases q
 all_goals
  go_wp2_with (first | (refine wpList_store_row rfl 25 (.tmp 7) (.tmp 31) rfl U7.heap.size (dgC dr).toArray rfl rfl 25 _ (heap_alloc_new U7 _) HS1.out HS2.out (dgC_one _) ?_; rw [HV9.out]) | (with_reducible refine wpList_here ?_; refine wpList_load_row_g 25 (.tmp 7) rfl rfl (U7.heap.size) rfl 25 _ (0, 0) _ RC9.out Tryz.underlying25 rfl HS1.out ?_) | (with_reducible refine wpList_here ?_; refine wpList_load_mid_g 25 (.tmp 37) rfl rfl (w.heap.size) 40 rfl (dgC r.listed) _ HML.out Tryz.underlying25 rfl HLI.out ?_; rw [show Value.agg (dgC r.listed).toArray = dgV r.listed from rfl]) | (with_reducible refine wpList_here ?_; refine wpList_neq_dg_g (.tmp 36) (.tmp 38) _ rfl rfl dr r.listed rfl rfl HRO.out hr.out.listed ?_; rw [hq.out]))
  go_ret
 ·exact ⟨by rw [vfE_2 _ _ _ _ _ (by rw [HDR.out]; exact hq.out)]; rfl, HB10.out⟩
 ·exact ⟨by rw [vfE_3 _ _ _ _ _ hv.out HDE.out (by rw [HDR.out]; exact hq.out)]; rfl, HB10.out⟩
open Go.ChangeShapes Go.WideShapes Go.ChangeAt Go.Deep
section
variable {H : Type} {enc : TypeId × Value → H} {W : World} {base : Nat} {fuel : Nat}
theorem cells_dgs : Tryz.prog.cellsOf 46 = 1 := by kernel_rfl
theorem cells_shL : Tryz.prog.cellsOf 48 = 39 := by kernel_rfl
theorem shL_fields : ∃ f0 f1 f2 f3 : Field, Tryz.prog.underlying 48 = some (.struct #[f0, f1, f2, f3]) ∧ (f0.type = 3 ∧ f0.offset = 0) ∧ (f1.type = 45 ∧ f1.offset = 1) ∧ (f2.type = 25 ∧ f2.offset = 6) ∧ f3.type = 46 ∧ f3.offset = 38 :=
 ⟨_, _, _, _, Tryz.underlying48, ⟨rfl, rfl⟩, ⟨rfl, rfl⟩, ⟨rfl, rfl⟩, rfl, rfl⟩
theorem arg_shL {v : Value} {d : DataW H} {p : List MemPlace} (hval : Value.okWide Tryz.prog W .any base 48 v) (h : DataW.Trod enc Tryz.prog W 0 (fun _ => true) true 48 v d p) : ∃ (i : Int) (x : Ln) (s : List Nat) (A : Option Addr) (n c : Nat) (ps : List Dg), v = .agg (shCL i x s A n c).toArray ∧ I64 i ∧ LnOk x ∧ DgOk s ∧ InD W A n c ps ∧ c ≤ maxLen := by
 obtain ⟨f0, f1, f2, f3, hu, ⟨t0, o0⟩, ⟨t1, o1⟩, ⟨t2, o2⟩, t3, o3⟩ := shL_fields
 obtain ⟨cs, rfl, hsz⟩ := okWide_struct hu hval
 obtain ⟨fuel, hf⟩ := h
 obtain ⟨xs, m, rfl, hx, hlen, hxl, hget⟩ := DataW.trod_struct hu hf
 rw [cells_shL] at hlen
 have hxl' : xs.length = 4 := hxl
 have g0 := hget 0 f0 rfl
 have g1 := hget 1 f1 rfl
 have g2 := hget 2 f2 rfl
 have g3 := hget 3 f3 rfl
 rw [t0, o0, cells_it, List.getElem?_eq_getElem (by omega)] at g0
 rw [t1, o1, cells_ln, List.getElem?_eq_getElem (by omega)] at g1
 rw [t2, o2, cells_dg, List.getElem?_eq_getElem (by omega)] at g2
 rw [t3, o3, cells_dgs, List.getElem?_eq_getElem (by omega)] at g3
 obtain ⟨z0, e0, h0⟩ := trod_it g0
 obtain ⟨x, e1, h1⟩ := trod_ln g1
 obtain ⟨s, e2, hs, hb⟩ := trod_dg g2
 obtain ⟨A, n, c, ps, e3, l1, l2, l3, l4, l5, l6⟩ := trod_rows (cells := dgC) (ok := DgOk) (k := 32) (by omega) Tryz.underlying46 cells_dg (fun x hx => dgC_len32 hx) (fun n cs y hy => by
  obtain ⟨l, el, hl, hbl⟩ := trod_dg hy
  exact ⟨l, el, hl, hbl⟩) g3
 refine ⟨z0, x, s, A, n, c, ps, ?_, h0, h1, ⟨hs, hb⟩, ⟨l1, l2, l3, l4, l5⟩, l6⟩
 congr 1
 rw [← Array.toArray_toList (xs := cs)]
 congr 1
 unfold shCL
 obtain ⟨L, hL⟩ : ∃ L, cs.toList = L := ⟨_, rfl⟩
 have hLl : L.length = 39 := by rw [← hL]; exact hlen
 simp only [Value.cells, hL] at e0 e1 e2 e3 ⊢
 have k1 : L = L.take 1 ++ ((L.drop 1).take 5 ++ ((L.drop 6).take 32 ++ L.drop 38)) := by
  have a1 := List.take_append_drop 1 L
  have a2 := List.take_append_drop 5 (L.drop 1)
  have a3 := List.take_append_drop 32 (L.drop 6)
  rw [List.drop_drop] at a2 a3
  rw [a3, a2, a1]
 have k2 : L.drop 38 = (L.drop 38).take 1 := by rw [List.take_of_length_le (by rw [List.length_drop]; omega)]
 rw [List.drop_zero] at e0
 rw [k1, k2, e0, e1, e2, e3]
 rfl
end
section
variable {H : Type} {enc : TypeId × Value → H} {W : World} {base : Nat} {fuel : Nat}
theorem cells_rt : Tryz.prog.cellsOf 43 = 138 := by kernel_rfl
theorem cells_sg : Tryz.prog.cellsOf 41 = 2 := by kernel_rfl
theorem sg_fields : ∃ f0 f1 : Field, Tryz.prog.underlying 41 = some (.struct #[f0, f1]) ∧ (f0.type = 3 ∧ f0.offset = 0) ∧ f1.type = 3 ∧ f1.offset = 1 :=
 ⟨_, _, Tryz.underlying41, ⟨rfl, rfl⟩, rfl, rfl⟩
theorem trod_sg {spare : Nat → Bool} {held : Bool} {cs : List Value} {x : DataW H × List MemPlace} (hf : DataW.trod enc Tryz.prog W base spare held fuel 41 cs = some x) : ∃ a b : Int, cs = [.int .i64 a, .int .i64 b] ∧ I64 a ∧ I64 b := by
 obtain ⟨f0, f1, hu, ⟨t0, o0⟩, t1, o1⟩ := sg_fields
 obtain ⟨xs, m, rfl, hx, hlen, hxl, hget⟩ := DataW.trod_struct hu hf
 rw [cells_sg] at hlen
 have hxl' : xs.length = 2 := hxl
 have g0 := hget 0 f0 rfl
 have g1 := hget 1 f1 rfl
 rw [t0, o0, cells_it, List.getElem?_eq_getElem (by omega)] at g0
 rw [t1, o1, cells_it, List.getElem?_eq_getElem (by omega)] at g1
 obtain ⟨z0, e0, h0⟩ := trod_it g0
 obtain ⟨z1, e1, h1⟩ := trod_it g1
 refine ⟨z0, z1, ?_, h0, h1⟩
 match cs, hlen with
 | [a, b], _ =>
  simp at e0 e1
  rw [e0, e1]
theorem rt_fields : ∃ f0 f1 f2 f3 f4 f5 f6 f7 f8 f9 f10 : Field, Tryz.prog.underlying 43 = some (.struct #[f0, f1, f2, f3, f4, f5, f6, f7, f8, f9, f10]) ∧ (f0.type = 3 ∧ f0.offset = 0) ∧ (f1.type = 3 ∧ f1.offset = 1) ∧ (f2.type = 3 ∧ f2.offset = 2) ∧ (f3.type = 3 ∧ f3.offset = 3) ∧ (f4.type = 3 ∧ f4.offset = 4) ∧ (f5.type = 3 ∧ f5.offset = 5) ∧ (f6.type = 39 ∧ f6.offset = 6) ∧ (f7.type = 25 ∧ f7.offset = 40) ∧ (f8.type = 25 ∧ f8.offset = 72) ∧ (f9.type = 25 ∧ f9.offset = 104) ∧ (f10.type = 41 ∧ f10.offset = 136) :=
 ⟨_, _, _, _, _, _, _, _, _, _, _, Tryz.underlying43, ⟨rfl, rfl⟩, ⟨rfl, rfl⟩, ⟨rfl, rfl⟩, ⟨rfl, rfl⟩, ⟨rfl, rfl⟩, ⟨rfl, rfl⟩, ⟨rfl, rfl⟩, ⟨rfl, rfl⟩, ⟨rfl, rfl⟩, ⟨rfl, rfl⟩, ⟨rfl, rfl⟩⟩
theorem arg_rt {v : Value} {d : DataW H} {p : List MemPlace} (hval : Value.okWide Tryz.prog W .any base 43 v) (h : DataW.Trod enc Tryz.prog W 0 (fun _ => true) true 43 v d p) : ∃ r : Rt, v = .agg (rtC r).toArray ∧ RtOk r := by
 obtain ⟨f0, f1, f2, f3, f4, f5, f6, f7, f8, f9, f10, hu, ⟨t0, o0⟩, ⟨t1, o1⟩, ⟨t2, o2⟩, ⟨t3, o3⟩, ⟨t4, o4⟩, ⟨t5, o5⟩, ⟨t6, o6⟩, ⟨t7, o7⟩, ⟨t8, o8⟩, ⟨t9, o9⟩, ⟨t10, o10⟩⟩ := rt_fields
 obtain ⟨cs, rfl, hsz⟩ := okWide_struct hu hval
 obtain ⟨fuel, hf⟩ := h
 obtain ⟨xs, m, rfl, hx, hlen, hxl, hget⟩ := DataW.trod_struct hu hf
 rw [cells_rt] at hlen
 have hxl' : xs.length = 11 := hxl
 have g0 := hget 0 f0 rfl
 have g1 := hget 1 f1 rfl
 have g2 := hget 2 f2 rfl
 have g3 := hget 3 f3 rfl
 have g4 := hget 4 f4 rfl
 have g5 := hget 5 f5 rfl
 have g6 := hget 6 f6 rfl
 have g7 := hget 7 f7 rfl
 have g8 := hget 8 f8 rfl
 have g9 := hget 9 f9 rfl
 have g10 := hget 10 f10 rfl
 rw [t0, o0, cells_it, List.getElem?_eq_getElem (by omega)] at g0
 rw [t1, o1, cells_it, List.getElem?_eq_getElem (by omega)] at g1
 rw [t2, o2, cells_it, List.getElem?_eq_getElem (by omega)] at g2
 rw [t3, o3, cells_it, List.getElem?_eq_getElem (by omega)] at g3
 rw [t4, o4, cells_it, List.getElem?_eq_getElem (by omega)] at g4
 rw [t5, o5, cells_it, List.getElem?_eq_getElem (by omega)] at g5
 rw [t6, o6, cells_nd, List.getElem?_eq_getElem (by omega)] at g6
 rw [t7, o7, cells_dg, List.getElem?_eq_getElem (by omega)] at g7
 rw [t8, o8, cells_dg, List.getElem?_eq_getElem (by omega)] at g8
 rw [t9, o9, cells_dg, List.getElem?_eq_getElem (by omega)] at g9
 rw [t10, o10, cells_sg, List.getElem?_eq_getElem (by omega)] at g10
 obtain ⟨z0, e0, h0⟩ := trod_it g0
 obtain ⟨z1, e1, h1⟩ := trod_it g1
 obtain ⟨z2, e2, h2⟩ := trod_it g2
 obtain ⟨z3, e3, h3⟩ := trod_it g3
 obtain ⟨z4, e4, h4⟩ := trod_it g4
 obtain ⟨z5, e5, h5⟩ := trod_it g5
 obtain ⟨nd, e6, h6⟩ := trod_nd g6
 obtain ⟨s7, e7, u7, v7⟩ := trod_dg g7
 obtain ⟨s8, e8, u8, v8⟩ := trod_dg g8
 obtain ⟨s9, e9, u9, v9⟩ := trod_dg g9
 obtain ⟨z10, z11, e10, h10, h11⟩ := trod_sg g10
 refine ⟨⟨z0, z1, z2, z3, z4, z5, nd, s7, s8, s9, z10, z11⟩, ?_, ⟨h0, h1, h2, h3, h4, h5, h6, ⟨u7, v7⟩, ⟨u8, v8⟩, ⟨u9, v9⟩, h10, h11⟩⟩
 congr 1
 rw [← Array.toArray_toList (xs := cs)]
 congr 1
 unfold rtC
 obtain ⟨L, hL⟩ : ∃ L, cs.toList = L := ⟨_, rfl⟩
 have hLl : L.length = 138 := by rw [← hL]; exact hlen
 simp only [Value.cells, hL] at e0 e1 e2 e3 e4 e5 e6 e7 e8 e9 e10 ⊢
 have kk : ∀ (q k m : Nat), q + k = m → L.drop q = (L.drop q).take k ++ L.drop m := fun q k m e => by
  have a := List.take_append_drop k (L.drop q)
  rw [List.drop_drop, e] at a
  exact a.symm
 have ke : L.drop 136 = (L.drop 136).take 2 := by rw [List.take_of_length_le (by rw [List.length_drop]; omega)]
 rw [show L = L.drop 0 from List.drop_zero.symm, kk 0 1 1 rfl, kk 1 1 2 rfl, kk 2 1 3 rfl, kk 3 1 4 rfl, kk 4 1 5 rfl, kk 5 1 6 rfl, kk 6 34 40 rfl, kk 40 32 72 rfl, kk 72 32 104 rfl, kk 104 32 136 rfl, ke, e0, e1, e2, e3, e4, e5, e6, e7, e8, e9, e10]
 rfl
end
end Go.Proofs.YtmfmgeapecapiaaGreatDoor
