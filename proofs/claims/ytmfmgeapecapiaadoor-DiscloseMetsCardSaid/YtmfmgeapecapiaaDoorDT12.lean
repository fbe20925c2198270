/- sizarref42.Few. Slices of digests beside a row that is stored. sizar/disclose.show[sizar/api.Line]. sizar/disclose.show[sizar/api.Claim]. What is shown, as a struct literal. -/
import Derived.Test.YtmfmgeapecapiaaDoorDT11
import Derived.Test.YtmfmgeapecapiaaDoorDT10
namespace Go.Proofs.YtmfmgeapecapiaaDoor
open Go.RowKit SzSha SzTree
set_option linter.unusedVariables false
set_option maxRecDepth 100000
theorem few_yes (t : Tr) (p : TrP) (w : World) (h1 : p.n ≤ 12) (h2 : p.n2 ≤ 12) :
    Calls Tryd.prog 15 #[trV t p] w fun e w' => e = .returned (.bool true) ∧ Below w.heap.size w w' := by
  have HB0 := Lib.hid ((Below.refl _ w).alloc (Nat.le_refl _) (.cells (trC t p).toArray 27))
  have HR0 := heap_alloc_new w (.cells (trC t p).toArray 27)
  have d1 : decide ((p.n : Int) ≤ 12) = true := decide_eq_true (by omega)
  have d2 : decide ((p.n2 : Int) ≤ 12) = true := decide_eq_true (by omega)
  have k4 : (w.alloc (.cells (trC t p).toArray 27)).cell? ⟨w.heap.size, 4, none⟩ = some (.slice p.A p.n p.c) := by rw [cell_of_row _ _ _ _ _ _ HR0]; rfl
  have k5 : (w.alloc (.cells (trC t p).toArray 27)).cell? ⟨w.heap.size, 5, none⟩ = some (.slice p.A2 p.n2 p.c2) := by rw [cell_of_row _ _ _ _ _ _ HR0]; rfl
  clear HR0
  rw [show trV t p = .agg (trC t p).toArray from rfl]
  go_enter Tryd.func15, Tryd.ntmps15
  go_wp2_with fail
  go_ret
  exact ⟨rfl, HB0.out⟩
theorem few_no (t : Tr) (p : TrP) (w : World) (h : ¬ (p.n ≤ 12 ∧ p.n2 ≤ 12)) :
    Calls Tryd.prog 15 #[trV t p] w fun e w' => e = .returned (.bool false) ∧ Below w.heap.size w w' := by
  have HB0 := Lib.hid ((Below.refl _ w).alloc (Nat.le_refl _) (.cells (trC t p).toArray 27))
  have HR0 := heap_alloc_new w (.cells (trC t p).toArray 27)
  have k4 : (w.alloc (.cells (trC t p).toArray 27)).cell? ⟨w.heap.size, 4, none⟩ = some (.slice p.A p.n p.c) := by rw [cell_of_row _ _ _ _ _ _ HR0]; rfl
  have k5 : (w.alloc (.cells (trC t p).toArray 27)).cell? ⟨w.heap.size, 5, none⟩ = some (.slice p.A2 p.n2 p.c2) := by rw [cell_of_row _ _ _ _ _ _ HR0]; rfl
  clear HR0
  rw [show trV t p = .agg (trC t p).toArray from rfl]
  by_cases h1 : p.n ≤ 12
  · have d1 : decide ((p.n : Int) ≤ 12) = true := decide_eq_true (by omega)
    have d2 : decide ((p.n2 : Int) ≤ 12) = false := decide_eq_false (by omega)
    go_enter Tryd.func15, Tryd.ntmps15
    go_wp2_with fail
    go_ret
    exact ⟨rfl, HB0.out⟩
  · have d1 : decide ((p.n : Int) ≤ 12) = false := decide_eq_false (by omega)
    go_enter Tryd.func15, Tryd.ntmps15
    go_wp2_with fail
    go_ret
    exact ⟨rfl, HB0.out⟩
end Go.Proofs.YtmfmgeapecapiaaDoor
namespace Go.Proofs.YtmfmgeapecapiaaDoor
open Go.RowKit SzSha SzTree
set_option linter.unusedVariables false
set_option maxRecDepth 100000
theorem InD.setRow {w : World} {A : Option Addr} {n c b : Nat} {cs : Array Value} {ls : List Dg} (h : InD w A n c ls) (hne : ∀ g, (Value.slice A n c).ownBlock = some g → g ≠ b) : InD (w.setRow b cs) A n c ls :=
  ⟨h.len, h.cap, h.none_, h.ok, fun h0 => by
    obtain ⟨g, off, e, hg, hr⟩ := h.rd h0
    subst e
    refine ⟨g, off, rfl, by rw [setRow_size]; exact hg, fun j v hj => ?_⟩
    rw [World.cell?_of_block (a := ⟨g, off + j, none⟩) (setRow_other w b g cs (hne g rfl))]
    exact hr j v hj⟩
theorem InD.setRow2 {w : World} {A : Option Addr} {n c b : Nat} {cs : Array Value} {ls : List Dg} (h : InD w A n c ls) (hne : 0 < ls.length → ∀ g off, A = some ⟨g, off, none⟩ → g ≠ b) : InD (w.setRow b cs) A n c ls :=
  ⟨h.len, h.cap, h.none_, h.ok, fun h0 => by
    obtain ⟨g, off, e, hg, hr⟩ := h.rd h0
    refine ⟨g, off, e, by rw [setRow_size]; exact hg, fun j v hj => ?_⟩
    rw [World.cell?_of_block (a := ⟨g, off + j, none⟩) (setRow_other w b g cs (hne h0 g off e))]
    exact hr j v hj⟩
end Go.Proofs.YtmfmgeapecapiaaDoor
namespace Go.Proofs.YtmfmgeapecapiaaDoor
open Go.RowKit SzSha SzTree
set_option linter.unusedVariables false
set_option maxRecDepth 100000
def wShL (W0 : World) (bt : Nat) (br : Nat) (t : Tr) (p : TrP) (g : Nat) (off : Nat) (jn : Nat) (x : Ln) (s : List Nat) (A4 : Option Addr) (n4 : Nat) (c4 : Nat) (PP : List Dg) : Nat → Value → World → Prop
  | 0, fv, _ => fv = Value.agg tabL
  | 1, fv, _ => fv = Value.pointer (some { block := bt, off := 6 })
  | 2, fv, _ => fv = dgV t.salt
  | 3, fv, _ => fv = Value.slice (some ⟨g, off, none⟩) p.n p.c
  | 4, fv, _ => fv = Value.int .i64 (jn : Nat)
  | 5, fv, _ => fv = Value.pointer (some ⟨g, off + jn * 5, none⟩)
  | 6, fv, _ => fv = lnV x
  | 7, fv, _ => fv = dgV s
  | 8, fv, _ => fv = Value.slice A4 n4 c4
  | 9, fv, _ => fv = Value.int .i64 0
  | 10, fv, fw => fw.heap[br]? = some (.cells (dgC s).toArray 25 (0, 0)) ∧ Below W0.heap.size W0 fw ∧ InD fw A4 n4 c4 PP
  | 11, fv, _ => fv = Value.slice A4 n4 c4
  | 12, fv, _ => fv = Value.int .i64 0
  | _, _, _ => True
theorem wShL_below {W0 : World} {bt : Nat} {br : Nat} {t : Tr} {p : TrP} {g : Nat} {off : Nat} {jn : Nat} {x : Ln} {s : List Nat} {A4 : Option Addr} {n4 : Nat} {c4 : Nat} {PP : List Dg} {w w' : World} (hb : Below w.heap.size w w') : ∀ j v, wShL W0 bt br t p g off jn x s A4 n4 c4 PP j v w → wShL W0 bt br t p g off jn x s A4 n4 c4 PP j v w'
  | 0, v, h => h
  | 1, v, h => h
  | 2, v, h => h
  | 3, v, h => h
  | 4, v, h => h
  | 5, v, h => h
  | 6, v, h => h
  | 7, v, h => h
  | 8, v, h => h
  | 9, v, h => h
  | 10, v, h => ⟨row_kept h.1 hb, h.2.1.trans (hb.mono h.2.1.size), h.2.2.below hb⟩
  | 11, v, h => h
  | 12, v, h => h
  | n + 13, v, h => trivial
theorem wShL_pure {W0 : World} {bt : Nat} {br : Nat} {t : Tr} {p : TrP} {g : Nat} {off : Nat} {jn : Nat} {x : Ln} {s : List Nat} {A4 : Option Addr} {n4 : Nat} {c4 : Nat} {PP : List Dg} {w w' : World} : ∀ j v, j ≠ 10 → wShL W0 bt br t p g off jn x s A4 n4 c4 PP j v w → wShL W0 bt br t p g off jn x s A4 n4 c4 PP j v w'
  | 0, v, _, h => h
  | 1, v, _, h => h
  | 2, v, _, h => h
  | 3, v, _, h => h
  | 4, v, _, h => h
  | 5, v, _, h => h
  | 6, v, _, h => h
  | 7, v, _, h => h
  | 8, v, _, h => h
  | 9, v, _, h => h
  | 10, v, hh, _ => absurd rfl hh
  | 11, v, _, h => h
  | 12, v, _, h => h
  | n + 13, v, _, h => trivial
set_option maxHeartbeats 4000000 in
theorem showL_0 (t : Tr) (p : TrP) (i : Int) (w : World) (h : Hid (TrOk w t p)) (hT : Hid (Tabs w)) (hg : Hid (trG t = false)) :
    Calls Tryd.prog 51 #[.agg tabL, trV t p, .slice p.A p.n p.c, .int .i64 i] w fun e w' => e = .returned (.tuple #[dgV zeroD, .slice none 0 0, .int .i64 420]) ∧ Below w.heap.size w w' := by
  have HE : Hid (trE t = 420) := Lib.hid (trE_no hg.out)
  obtain ⟨t1, t2, t3, t4⟩ := rows_three w tabL (trC t p).toArray 106 27 (.cells (dgC zeroD).toArray 25)
  have HO1 := Lib.hid (h.out.below t1)
  have hT1 := Lib.hid (hT.out.below t1)
  rw [zeroD_cells] at t1 t2 t3 HO1 hT1
  conv at t4 => lhs; rw [zeroD_cells]
  have HB0 := Lib.hid t1
  have HR0 := Lib.hid t2
  have HR1 := Lib.hid t3
  have HRZ := Lib.hid t4
  have HIT := Lib.hid (trV_info t p h.out.len)
  have HSZD := Lib.hid (dgC_info zeroD_ok)
  have HSZ2 := Lib.hid (dgC_size zeroD_ok)
  clear t1 t2 t3 t4
  rw [show trV t p = .agg (trC t p).toArray from rfl]
  go_enter Tryd.func51, Tryd.ntmps51
  go_wp2_with (refine wpList_load_row rfl 27 (.tmp 5) rfl (w.heap.size + 1) rfl 27 _ (0, 0) _ HR1.out Tryd.underlying27 rfl HIT.out ?_)
  rw [show Value.agg (trC t p).toArray = trV t p from rfl]
  refine (check_any t p _ HO1).mono ?_
  rintro e w1 ⟨rfl, hq1⟩
  have HB1 := Lib.hid (HB0.out.trans (hq1.mono HB0.out.size))
  have HX0 := Lib.hid (row_kept HR0.out hq1)
  have HX1 := Lib.hid (row_kept HR1.out hq1)
  have HXZ := Lib.hid (row_kept HRZ.out hq1)
  have HO2 := Lib.hid (HO1.out.below hq1)
  have hT2 := Lib.hid (hT1.out.below hq1)
  clear hq1 HR0 HR1 HRZ HO1 hT1 HB0
  rw [HE.out]
  go_wp2_with (first | (refine wpList_load_row rfl 25 (.tmp 8) rfl (w.heap.size + 1 + 1) rfl 25 _ (0, 0) _ HXZ.out Tryd.underlying25 rfl HSZD.out ?_) | (refine wpList_store_row rfl 25 (.tmp 8) (.tmp 16) rfl (w.heap.size + 1 + 1) (dgC zeroD).toArray ?ha ?hb 25 _ HXZ.out HSZD.out HSZ2.out (dgC_one zeroD) ?_))
  all_goals first | rfl | skip
  have hr := setRow_heap w1 (w.heap.size + 1 + 1) _ (dgC zeroD).toArray _ _ HXZ.out
  have hl := run_loadVar_row (P := Tryd.prog) (World.setRow w1 (w.heap.size + 1 + 1) (dgC zeroD).toArray) (w.heap.size + 1 + 1) 25 25 (dgC zeroD).toArray (0, 0) _ hr Tryd.underlying25 rfl HSZD.out
  refine bodyPost_ret (v := .tuple #[dgV zeroD, .slice none 0 0, .int .i64 420]) ?_ rfl ⟨rfl, below_setRow HB1.out (by omega) _⟩
  rw [dgV_agg zeroD]
  simp [results, Tryd.results51, asAddr, hl]
set_option maxHeartbeats 4000000 in
theorem showL_1 (t : Tr) (p : TrP) (i : Int) (w : World) (h : Hid (TrOk w t p)) (hT : Hid (Tabs w)) (hg : Hid (trG t = true)) (hi : i < 0) :
    Calls Tryd.prog 51 #[.agg tabL, trV t p, .slice p.A p.n p.c, .int .i64 i] w fun e w' => e = .returned (.tuple #[dgV zeroD, .slice none 0 0, .int .i64 420]) ∧ Below w.heap.size w w' := by
  have HE : Hid (trE t = 0) := Lib.hid (trE_yes hg.out)
  have d0 : decide (i < 0) = true := decide_eq_true hi
  obtain ⟨t1, t2, t3, t4⟩ := rows_three w tabL (trC t p).toArray 106 27 (.cells (dgC zeroD).toArray 25)
  have HO1 := Lib.hid (h.out.below t1)
  have hT1 := Lib.hid (hT.out.below t1)
  rw [zeroD_cells] at t1 t2 t3 HO1 hT1
  conv at t4 => lhs; rw [zeroD_cells]
  have HB0 := Lib.hid t1
  have HR0 := Lib.hid t2
  have HR1 := Lib.hid t3
  have HRZ := Lib.hid t4
  have HIT := Lib.hid (trV_info t p h.out.len)
  have HSZD := Lib.hid (dgC_info zeroD_ok)
  have HSZ2 := Lib.hid (dgC_size zeroD_ok)
  clear t1 t2 t3 t4
  rw [show trV t p = .agg (trC t p).toArray from rfl]
  go_enter Tryd.func51, Tryd.ntmps51
  go_wp2_with (refine wpList_load_row rfl 27 (.tmp 5) rfl (w.heap.size + 1) rfl 27 _ (0, 0) _ HR1.out Tryd.underlying27 rfl HIT.out ?_)
  rw [show Value.agg (trC t p).toArray = trV t p from rfl]
  refine (check_any t p _ HO1).mono ?_
  rintro e w1 ⟨rfl, hq1⟩
  have HB1 := Lib.hid (HB0.out.trans (hq1.mono HB0.out.size))
  have HX0 := Lib.hid (row_kept HR0.out hq1)
  have HX1 := Lib.hid (row_kept HR1.out hq1)
  have HXZ := Lib.hid (row_kept HRZ.out hq1)
  have HO2 := Lib.hid (HO1.out.below hq1)
  have hT2 := Lib.hid (hT1.out.below hq1)
  clear hq1 HR0 HR1 HRZ HO1 hT1 HB0
  rw [HE.out]
  go_wp2_with (first | (refine wpList_load_row rfl 25 (.tmp 8) rfl (w.heap.size + 1 + 1) rfl 25 _ (0, 0) _ HXZ.out Tryd.underlying25 rfl HSZD.out ?_) | (refine wpList_store_row rfl 25 (.tmp 8) (.tmp 26) rfl (w.heap.size + 1 + 1) (dgC zeroD).toArray ?ha ?hb 25 _ HXZ.out HSZD.out HSZ2.out (dgC_one zeroD) ?_))
  all_goals first | rfl | skip
  have hr := setRow_heap w1 (w.heap.size + 1 + 1) _ (dgC zeroD).toArray _ _ HXZ.out
  have hl := run_loadVar_row (P := Tryd.prog) (World.setRow w1 (w.heap.size + 1 + 1) (dgC zeroD).toArray) (w.heap.size + 1 + 1) 25 25 (dgC zeroD).toArray (0, 0) _ hr Tryd.underlying25 rfl HSZD.out
  refine bodyPost_ret (v := .tuple #[dgV zeroD, .slice none 0 0, .int .i64 420]) ?_ rfl ⟨rfl, below_setRow HB1.out (by omega) _⟩
  rw [dgV_agg zeroD]
  simp [results, Tryd.results51, asAddr, hl]
set_option maxHeartbeats 4000000 in
theorem showL_2 (t : Tr) (p : TrP) (i : Int) (w : World) (h : Hid (TrOk w t p)) (hT : Hid (Tabs w)) (hg : Hid (trG t = true)) (hi : 0 ≤ i) (hi2 : (p.n : Int) ≤ i) :
    Calls Tryd.prog 51 #[.agg tabL, trV t p, .slice p.A p.n p.c, .int .i64 i] w fun e w' => e = .returned (.tuple #[dgV zeroD, .slice none 0 0, .int .i64 420]) ∧ Below w.heap.size w w' := by
  have HE : Hid (trE t = 0) := Lib.hid (trE_yes hg.out)
  have d0 : decide (i < 0) = false := decide_eq_false (by omega)
  have d1 : decide ((p.n : Int) ≤ i) = true := decide_eq_true hi2
  obtain ⟨t1, t2, t3, t4⟩ := rows_three w tabL (trC t p).toArray 106 27 (.cells (dgC zeroD).toArray 25)
  have HO1 := Lib.hid (h.out.below t1)
  have hT1 := Lib.hid (hT.out.below t1)
  rw [zeroD_cells] at t1 t2 t3 HO1 hT1
  conv at t4 => lhs; rw [zeroD_cells]
  have HB0 := Lib.hid t1
  have HR0 := Lib.hid t2
  have HR1 := Lib.hid t3
  have HRZ := Lib.hid t4
  have HIT := Lib.hid (trV_info t p h.out.len)
  have HSZD := Lib.hid (dgC_info zeroD_ok)
  have HSZ2 := Lib.hid (dgC_size zeroD_ok)
  clear t1 t2 t3 t4
  rw [show trV t p = .agg (trC t p).toArray from rfl]
  go_enter Tryd.func51, Tryd.ntmps51
  go_wp2_with (refine wpList_load_row rfl 27 (.tmp 5) rfl (w.heap.size + 1) rfl 27 _ (0, 0) _ HR1.out Tryd.underlying27 rfl HIT.out ?_)
  rw [show Value.agg (trC t p).toArray = trV t p from rfl]
  refine (check_any t p _ HO1).mono ?_
  rintro e w1 ⟨rfl, hq1⟩
  have HB1 := Lib.hid (HB0.out.trans (hq1.mono HB0.out.size))
  have HX0 := Lib.hid (row_kept HR0.out hq1)
  have HX1 := Lib.hid (row_kept HR1.out hq1)
  have HXZ := Lib.hid (row_kept HRZ.out hq1)
  have HO2 := Lib.hid (HO1.out.below hq1)
  have hT2 := Lib.hid (hT1.out.below hq1)
  clear hq1 HR0 HR1 HRZ HO1 hT1 HB0
  rw [HE.out]
  go_wp2_with (first | (refine wpList_load_row rfl 25 (.tmp 8) rfl (w.heap.size + 1 + 1) rfl 25 _ (0, 0) _ HXZ.out Tryd.underlying25 rfl HSZD.out ?_) | (refine wpList_store_row rfl 25 (.tmp 8) (.tmp 26) rfl (w.heap.size + 1 + 1) (dgC zeroD).toArray ?ha ?hb 25 _ HXZ.out HSZD.out HSZ2.out (dgC_one zeroD) ?_))
  all_goals first | rfl | skip
  have hr := setRow_heap w1 (w.heap.size + 1 + 1) _ (dgC zeroD).toArray _ _ HXZ.out
  have hl := run_loadVar_row (P := Tryd.prog) (World.setRow w1 (w.heap.size + 1 + 1) (dgC zeroD).toArray) (w.heap.size + 1 + 1) 25 25 (dgC zeroD).toArray (0, 0) _ hr Tryd.underlying25 rfl HSZD.out
  refine bodyPost_ret (v := .tuple #[dgV zeroD, .slice none 0 0, .int .i64 420]) ?_ rfl ⟨rfl, below_setRow HB1.out (by omega) _⟩
  rw [dgV_agg zeroD]
  simp [results, Tryd.results51, asAddr, hl]
set_option maxHeartbeats 8000000 in
theorem showL_yes (t : Tr) (p : TrP) (j : Nat) (x : Ln) (w : World) (h : Hid (TrOk w t p)) (hT : Hid (Tabs w)) (hg : Hid (trG t = true)) (hj : j < p.n) (HX : Hid (t.ln[j]? = some x)) :
    Calls Tryd.prog 51 #[.agg tabL, trV t p, .slice p.A p.n p.c, .int .i64 (j : Nat)] w fun e w' => ∃ A' n' c', e = .returned (.tuple #[dgV (saltN t.salt 1 (nLn x)), .slice A' n' c', .int .i64 0]) ∧ InD w' A' n' c' (pathD (t.ln.map (lvL t.salt)) j) ∧ Below w.heap.size w w' ∧ ∀ g, (Value.slice A' n' c').ownBlock = some g → w.heap.size ≤ g := by
  have HE : Hid (trE t = 0) := Lib.hid (trE_yes hg.out)
  obtain ⟨s, HS⟩ : ∃ s, Hid (saltN t.salt 1 (nLn x) = s) := ⟨_, Lib.hid rfl⟩
  have HSO : Hid (DgOk s) := Lib.hid (by rw [← HS.out]; exact saltN_ok _ _ _)
  have HS1 := Lib.hid (dgC_info HSO.out)
  have HS2 := Lib.hid (dgC_size HSO.out)
  obtain ⟨P, HP⟩ : ∃ P, Hid (t.ln.map (lvL t.salt) = P) := ⟨_, Lib.hid rfl⟩
  obtain ⟨PP, HPP⟩ : ∃ PP, Hid (pathD P j = PP) := ⟨_, Lib.hid rfl⟩
  have HLN := Lib.hid (show t.ln.length = p.n from h.out.ln.len)
  have HPL : Hid (P.length = p.n) := Lib.hid (by rw [← HP.out, List.length_map, HLN.out])
  have HNL : Hid (p.n ≤ 100000) := Lib.hid (by have := trG_lns hg.out; rw [HLN.out] at this; exact this)
  have HSA : Hid (DgOk t.salt) := Lib.hid ⟨h.out.len, h.out.bytes⟩
  have HSK := Lib.hid (dgC_infoK HSA.out)
  have HITB := Lib.hid tabL_info4
  have HII := Lib.hid (lnC_infoL4 x)
  obtain ⟨g, off, eA, hgl, hr⟩ := h.out.ln.rd (by rw [HLN.out]; omega)
  have HR : Hid (w.rangeAt g (off + j * 5) (lnC x)) := Lib.hid (by
    obtain ⟨hjl, hx⟩ := List.getElem?_eq_some_iff.1 HX.out
    have := range_elem lnC_len4 hr j hjl
    rwa [hx] at this)
  have d0 : decide ((j : Int) < 0) = false := decide_eq_false (by omega)
  have d1 : decide ((p.n : Int) ≤ (j : Int)) = false := decide_eq_false (by omega)
  have d2 : decide (j < p.n) = true := decide_eq_true hj
  rw [HP.out, HPP.out, HS.out]
  clear hr HX
  obtain ⟨t1, t2, t3, t4⟩ := rows_three w tabL (trC t p).toArray 106 27 (.cells (dgC zeroD).toArray 25)
  have HO1 := Lib.hid (h.out.below t1)
  have hT1 := Lib.hid (hT.out.below t1)
  rw [zeroD_cells] at t1 t2 t3 HO1 hT1
  conv at t4 => lhs; rw [zeroD_cells]
  have HB0 := Lib.hid t1
  have HR0 := Lib.hid t2
  have HR1 := Lib.hid t3
  have HRZ := Lib.hid t4
  have HIT := Lib.hid (trV_info t p h.out.len)
  have HSZD := Lib.hid (dgC_info zeroD_ok)
  have HSZ2 := Lib.hid (dgC_size zeroD_ok)
  clear t1 t2 t3 t4
  rw [show trV t p = .agg (trC t p).toArray from rfl]
  rw [eA]
  go_enter Tryd.func51, Tryd.ntmps51
  go_wp2_with (refine wpList_load_row rfl 27 (.tmp 5) rfl (w.heap.size + 1) rfl 27 _ (0, 0) _ HR1.out Tryd.underlying27 rfl HIT.out ?_)
  rw [show Value.agg (trC t p).toArray = trV t p from rfl]
  refine (check_any t p _ HO1).mono ?_
  rintro e w1 ⟨rfl, hq1⟩
  have HB1 := Lib.hid (HB0.out.trans (hq1.mono HB0.out.size))
  have HX0 := Lib.hid (row_kept HR0.out hq1)
  have HX1 := Lib.hid (row_kept HR1.out hq1)
  have HXZ := Lib.hid (row_kept HRZ.out hq1)
  have HO2 := Lib.hid (HO1.out.below hq1)
  have hT2 := Lib.hid (hT1.out.below hq1)
  clear hq1 HR0 HR1 HRZ HO1 hT1 HB0
  rw [HE.out]
  have HIL : Hid (InLn w1 (some ⟨g, off, none⟩) p.n p.c t.ln) := Lib.hid (by have := HO2.out.ln; rwa [eA] at this)
  go_wp2_with (first | (refine wpList_load_row rfl 106 (.tmp 4) rfl w.heap.size rfl 106 _ (0, 0) _ HX0.out Tryd.underlying106 rfl HITB.out ?_) | (refine wpList_load_mid rfl 25 (.tmp 29) rfl (w.heap.size + 1) 6 rfl (dgC t.salt) _ (tr_salt HX1.out) Tryd.underlying25 rfl HSK.out ?_))
  refine (leavesL t.salt t.ln (some ⟨g, off, none⟩) p.n p.c _ HNL.out HSA HIL hT2).mono ?_
  rintro e w2 ⟨A3, n3, c3, rfl, hin3, hq2⟩
  rw [HP.out] at hin3
  have HN3 : Hid (n3 = p.n) := Lib.hid (by rw [← hin3.len]; exact HPL.out)
  have HIN3 := Lib.hid hin3
  have hT3 := Lib.hid (hT2.out.below hq2)
  have HY0 := Lib.hid (row_kept HX0.out hq2)
  have HY1 := Lib.hid (row_kept HX1.out hq2)
  have HYZ := Lib.hid (row_kept HXZ.out hq2)
  have HB2 := Lib.hid (HB1.out.trans (hq2.mono HB1.out.size))
  clear hin3 hq2
  go_wp2_with fail
  refine (dpath_yes P A3 n3 c3 j _ (by rw [HN3.out]; exact HNL.out) (by rw [HN3.out]; exact hj) HIN3 hT3).mono ?_
  rintro e W1 ⟨A4, n4, c4, rfl, hin4, hq3, hown⟩
  rw [HPP.out] at hin4
  have HIN4 := Lib.hid hin4
  have hT4 := Lib.hid (hT3.out.below hq3)
  have HZ0 := Lib.hid (row_kept HY0.out hq3)
  have HZ1 := Lib.hid (row_kept HY1.out hq3)
  have HZZ := Lib.hid (row_kept HYZ.out hq3)
  have HOW : Hid (∀ g, (Value.slice A4 n4 c4).ownBlock = some g → g ≠ w.heap.size + 1 + 1) := Lib.hid (fun g hg e => by
    have h1 := hown g hg
    have h2 := (Array.getElem?_eq_some_iff.1 HYZ.out).1
    omega)
  have HWN : Hid (∀ g, (Value.slice A4 n4 c4).ownBlock = some g → w.heap.size ≤ g) := Lib.hid (fun g hg => Nat.le_trans HB2.out.size (hown g hg))
  have HB3 := Lib.hid (HB2.out.trans (hq3.mono HB2.out.size))
  have HR3 := Lib.hid (rangeAt_below HR.out hgl HB3.out)
  have HGL : Hid (g < W1.heap.size) := Lib.hid (Nat.lt_of_lt_of_le hgl HB3.out.size)
  clear hin4 hq3 hown HY0 HY1 HYZ HX0 HX1 HXZ
  go_wp2_with fail
  refine region_flow4 (by kernel_rfl) (by kernel_rfl) (fun i => Nat.beq i 10 || Nat.beq i 11 || Nat.beq i 12) (fun i => i) (by kernel_rfl) (fun fx => #[Value.agg tabL, trV t p, Value.slice (some { block := g, off := off }) p.n p.c, Value.int IntKind.i64 ↑j, Value.pointer (some { block := w.heap.size, off := 0 }), Value.pointer (some { block := w.heap.size + 1, off := 0 }), undef, undef, Value.pointer (some { block := w.heap.size + 1 + 1, off := 0 }), fx 11, fx 12, Value.int IntKind.i64 0, trV t p, Value.int IntKind.i64 0, Value.int IntKind.i64 0, Value.bool false, undef, undef, Value.int IntKind.i64 ↑j, Value.bool false, Value.bool false, Value.int IntKind.i64 ↑j, Value.slice (some { block := g, off := off }) p.n p.c, Value.int IntKind.i64 ↑p.n, Value.bool false, Value.bool false, undef, Value.tuple #[Value.slice A4 n4 c4, Value.int IntKind.i64 0], Value.agg tabL, Value.pointer (some { block := w.heap.size + 1, off := 6 }), Value.agg (dgC t.salt).toArray, Value.slice (some { block := g, off := off }) p.n p.c, Value.slice A3 n3 c3, Value.int IntKind.i64 ↑j, Value.tuple #[Value.slice A4 n4 c4, Value.int IntKind.i64 0], Value.slice A4 n4 c4, Value.int IntKind.i64 0, fx 0, fx 1, fx 2, fx 3, fx 4, fx 5, fx 6, fx 7, fx 8, fx 9]) (fun i => bif Nat.beq i 11 then Value.slice A4 n4 c4 else bif Nat.beq i 12 then Value.int IntKind.i64 0 else undef) (fun L fx w' => (L 11 = false → fx 11 = Value.slice A4 n4 c4) ∧ (L 12 = false → fx 12 = Value.int .i64 0) ∧ (L 10 = false → Below W1.heap.size W1 w')) (fun fi fv _ fw => wShL w (w.heap.size + 1) (w.heap.size + 1 + 1) t p g off j x s A4 n4 c4 PP fi fv fw) ⟨fun _ => rfl, fun _ => rfl, fun _ => (Below.refl _ _).drew⟩ ?_ ?_
  · refine ⟨?_, ?_, ?_, ?_, ?_, ?_, ?_, ?_, ?_, ?_, ?_, ?_, ?_, trivial⟩
    all_goals intro L fx w' hC hi hcl hdn hd
    · have hnd : L 10 = false := Bool.eq_false_iff.2 (fun h => by have := hcl 10 0 h (by kernel_rfl); rw [hi] at this; cases this)
      have hrow := row_kept HZ0.out (hC.2.2 hnd)
      refine wpList_load_row rfl 106 (.tmp 4) rfl w.heap.size rfl 106 _ (0, 0) _ hrow Tryd.underlying106 rfl HITB.out ?_
      clear hd
      go_wp2_with fail
      exact ⟨_, rfl, ⟨fun h => hC.1 h, fun h => hC.2.1 h, fun h => hC.2.2 h⟩, rfl, fun _ _ _ _ _ h => h⟩
    · have hnd : L 10 = false := Bool.eq_false_iff.2 (fun h => by have := hcl 10 1 h (by kernel_rfl); rw [hi] at this; cases this)
      go_wp2_with fail
      exact ⟨_, rfl, ⟨fun h => hC.1 h, fun h => hC.2.1 h, fun h => hC.2.2 h⟩, rfl, fun _ _ _ _ _ h => h⟩
    · have h1 : fx 1 = Value.pointer (some { block := w.heap.size + 1, off := 6 }) := hd.1 rfl
      have hnd : L 10 = false := Bool.eq_false_iff.2 (fun h => by have := hcl 10 2 h (by kernel_rfl); rw [hi] at this; cases this)
      have hrow := tr_salt (row_kept HZ1.out (hC.2.2 hnd))
      refine wpList_load_mid rfl 25 (.tmp 38) rfl (w.heap.size + 1) 6 h1 (dgC t.salt) _ hrow Tryd.underlying25 rfl HSK.out ?_
      clear hd
      go_wp2_with fail
      exact ⟨_, by simp only [upd, h1]; rfl, ⟨fun h => hC.1 h, fun h => hC.2.1 h, fun h => hC.2.2 h⟩, rfl, fun _ _ _ _ _ h => h⟩
    · have hnd : L 10 = false := Bool.eq_false_iff.2 (fun h => by have := hcl 10 3 h (by kernel_rfl); rw [hi] at this; cases this)
      go_wp2_with fail
      exact ⟨_, rfl, ⟨fun h => hC.1 h, fun h => hC.2.1 h, fun h => hC.2.2 h⟩, rfl, fun _ _ _ _ _ h => h⟩
    · have hnd : L 10 = false := Bool.eq_false_iff.2 (fun h => by have := hcl 10 4 h (by kernel_rfl); rw [hi] at this; cases this)
      go_wp2_with fail
      exact ⟨_, rfl, ⟨fun h => hC.1 h, fun h => hC.2.1 h, fun h => hC.2.2 h⟩, rfl, fun _ _ _ _ _ h => h⟩
    · have h3 : fx 3 = Value.slice (some ⟨g, off, none⟩) p.n p.c := hd.1 rfl
      have h4 : fx 4 = Value.int .i64 (j : Nat) := hd.2.1 rfl
      have hnd : L 10 = false := Bool.eq_false_iff.2 (fun h => by have := hcl 10 5 h (by kernel_rfl); rw [hi] at this; cases this)
      go_wp2_with fail
      exact ⟨_, by simp only [upd, h3, h4]; rfl, ⟨fun h => hC.1 h, fun h => hC.2.1 h, fun h => hC.2.2 h⟩, rfl, fun _ _ _ _ _ h => h⟩
    · have h5 : fx 5 = Value.pointer (some ⟨g, off + j * 5, none⟩) := hd.1 rfl
      have hnd : L 10 = false := Bool.eq_false_iff.2 (fun h => by have := hcl 10 6 h (by kernel_rfl); rw [hi] at this; cases this)
      have hrow := rangeAt_below HR3.out HGL.out (hC.2.2 hnd)
      refine wpList_load_mid rfl 41 (.tmp 42) rfl g (off + j * 5) h5 (lnC x) _ hrow Tryd.underlying41 rfl HII.out ?_
      clear hd
      go_wp2_with fail
      exact ⟨_, by simp only [upd, h5]; rfl, ⟨fun h => hC.1 h, fun h => hC.2.1 h, fun h => hC.2.2 h⟩, rfl, fun _ _ _ _ _ h => h⟩
    · have h0 : fx 0 = Value.agg tabL := hd.1 rfl
      have h2 : fx 2 = dgV t.salt := hd.2.1 rfl
      have h6 : fx 6 = lnV x := hd.2.2.1 rfl
      have hnd : L 10 = false := Bool.eq_false_iff.2 (fun h => by have := hcl 10 7 h (by kernel_rfl); rw [hi] at this; cases this)
      have hb12 := hC.2.2 hnd
      have HTK := Lib.hid (hT4.out.below hb12)
      go_wp2_with fail
      refine (saltL t.salt x w' HSA HTK).mono ?_
      rintro e w2 ⟨rfl, hq⟩
      rw [HS.out]
      go_wp2_with fail
      exact ⟨_, by simp only [upd, h0, h2, h6]; rfl, ⟨fun h => hC.1 h, fun h => hC.2.1 h, fun h => hb12.trans (hq.mono hb12.size)⟩, rfl, fun j v t _ _ h => wShL_below hq j v h⟩
    · have hN : L 11 = false := Bool.eq_false_iff.2 (fun h => by have := hcl 11 8 h (by kernel_rfl); rw [hi] at this; cases this)
      have he := hC.1 hN
      go_wp2_with fail
      exact ⟨_, by simp only [upd, he]; rfl, ⟨fun h => hC.1 h, fun h => hC.2.1 h, fun h => hC.2.2 h⟩, rfl, fun _ _ _ _ _ h => h⟩
    · have hN : L 12 = false := Bool.eq_false_iff.2 (fun h => by have := hcl 12 9 h (by kernel_rfl); rw [hi] at this; cases this)
      have he := hC.2.1 hN
      go_wp2_with fail
      exact ⟨_, by simp only [upd, he]; rfl, ⟨fun h => hC.1 h, fun h => hC.2.1 h, fun h => hC.2.2 h⟩, rfl, fun _ _ _ _ _ h => h⟩
    · have h7 : fx 7 = dgV s := hd.1 rfl
      have hb21 := hC.2.2 hi
      have hrow := row_kept HZZ.out hb21
      refine wpList_store_row rfl 25 (.tmp 8) (.tmp 44) rfl (w.heap.size + 1 + 1) (dgC s).toArray rfl h7 25 _ hrow HS1.out HS2.out (dgC_one _) ?_
      clear hd
      go_wp2_with fail
      refine ⟨undef, by rw [← h7]; rfl, ⟨fun h => hC.1 h, fun h => hC.2.1 h, fun h => (updB_self h).elim⟩, ⟨setRow_heap _ _ _ _ _ _ hrow, below_setRow (HB3.out.trans (hb21.mono HB3.out.size)) (by omega) _, (HIN4.out.below hb21).setRow HOW.out⟩, fun j v t hj hu h => ?_⟩
      refine wShL_pure j v ?_ h
      intro e; subst e; rw [hi] at hj; cases hj
    · have h8 : fx 8 = Value.slice A4 n4 c4 := hd.1 rfl
      go_wp2_with fail
      exact ⟨_, by simp only [upd, h8]; rfl, ⟨fun h => (updB_self h).elim, fun h => hC.2.1 h, fun h => hC.2.2 h⟩, rfl, fun _ _ _ _ _ h => h⟩
    · have h9 : fx 9 = Value.int .i64 0 := hd.1 rfl
      go_wp2_with fail
      exact ⟨_, by simp only [upd, h9]; rfl, ⟨fun h => hC.1 h, fun h => (updB_self h).elim, fun h => hC.2.2 h⟩, rfl, fun _ _ _ _ _ h => h⟩
  · intro L fo w' hC hS
    have H10 := Lib.hid (hS 10 (by decide) rfl)
    have H11 := Lib.hid (hS 11 (by decide) rfl)
    have H12 := Lib.hid (hS 12 (by decide) rfl)
    have h11 : fo 11 = Value.slice A4 n4 c4 := H11.out
    have h12 : fo 12 = .int .i64 0 := H12.out
    rw [h11, h12]
    clear hS hC h11 h12 H11 H12
    go_wp2_with fail
    have hl := run_loadVar_row (P := Tryd.prog) w' (w.heap.size + 1 + 1) 25 25 (dgC s).toArray (0, 0) _ H10.out.1 Tryd.underlying25 rfl HS1.out
    refine bodyPost_ret (v := .tuple #[dgV s, .slice A4 n4 c4, .int .i64 0]) ?_ rfl ⟨A4, n4, c4, rfl, H10.out.2.2, H10.out.2.1, HWN.out⟩
    rw [dgV_agg s]
    simp [results, Tryd.results51, asAddr, hl]
end Go.Proofs.YtmfmgeapecapiaaDoor
namespace Go.Proofs.YtmfmgeapecapiaaDoor
open Go.RowKit SzSha SzTree
set_option linter.unusedVariables false
set_option maxRecDepth 100000
def wShK (W0 : World) (bt : Nat) (br : Nat) (t : Tr) (p : TrP) (g : Nat) (off : Nat) (jn : Nat) (x : Cl) (s : List Nat) (A4 : Option Addr) (n4 : Nat) (c4 : Nat) (PP : List Dg) : Nat → Value → World → Prop
  | 0, fv, _ => fv = Value.agg tabK
  | 1, fv, _ => fv = Value.pointer (some { block := bt, off := 6 })
  | 2, fv, _ => fv = dgV t.salt
  | 3, fv, _ => fv = Value.slice (some ⟨g, off, none⟩) p.n2 p.c2
  | 4, fv, _ => fv = Value.int .i64 (jn : Nat)
  | 5, fv, _ => fv = Value.pointer (some ⟨g, off + jn * 3, none⟩)
  | 6, fv, _ => fv = clV x
  | 7, fv, _ => fv = dgV s
  | 8, fv, _ => fv = Value.slice A4 n4 c4
  | 9, fv, _ => fv = Value.int .i64 0
  | 10, fv, fw => fw.heap[br]? = some (.cells (dgC s).toArray 25 (0, 0)) ∧ Below W0.heap.size W0 fw ∧ InD fw A4 n4 c4 PP
  | 11, fv, _ => fv = Value.slice A4 n4 c4
  | 12, fv, _ => fv = Value.int .i64 0
  | _, _, _ => True
theorem wShK_below {W0 : World} {bt : Nat} {br : Nat} {t : Tr} {p : TrP} {g : Nat} {off : Nat} {jn : Nat} {x : Cl} {s : List Nat} {A4 : Option Addr} {n4 : Nat} {c4 : Nat} {PP : List Dg} {w w' : World} (hb : Below w.heap.size w w') : ∀ j v, wShK W0 bt br t p g off jn x s A4 n4 c4 PP j v w → wShK W0 bt br t p g off jn x s A4 n4 c4 PP j v w'
  | 0, v, h => h
  | 1, v, h => h
  | 2, v, h => h
  | 3, v, h => h
  | 4, v, h => h
  | 5, v, h => h
  | 6, v, h => h
  | 7, v, h => h
  | 8, v, h => h
  | 9, v, h => h
  | 10, v, h => ⟨row_kept h.1 hb, h.2.1.trans (hb.mono h.2.1.size), h.2.2.below hb⟩
  | 11, v, h => h
  | 12, v, h => h
  | n + 13, v, h => trivial
theorem wShK_pure {W0 : World} {bt : Nat} {br : Nat} {t : Tr} {p : TrP} {g : Nat} {off : Nat} {jn : Nat} {x : Cl} {s : List Nat} {A4 : Option Addr} {n4 : Nat} {c4 : Nat} {PP : List Dg} {w w' : World} : ∀ j v, j ≠ 10 → wShK W0 bt br t p g off jn x s A4 n4 c4 PP j v w → wShK W0 bt br t p g off jn x s A4 n4 c4 PP j v w'
  | 0, v, _, h => h
  | 1, v, _, h => h
  | 2, v, _, h => h
  | 3, v, _, h => h
  | 4, v, _, h => h
  | 5, v, _, h => h
  | 6, v, _, h => h
  | 7, v, _, h => h
  | 8, v, _, h => h
  | 9, v, _, h => h
  | 10, v, hh, _ => absurd rfl hh
  | 11, v, _, h => h
  | 12, v, _, h => h
  | n + 13, v, _, h => trivial
set_option maxHeartbeats 4000000 in
theorem showK_0 (t : Tr) (p : TrP) (i : Int) (w : World) (h : Hid (TrOk w t p)) (hT : Hid (Tabs w)) (hg : Hid (trG t = false)) :
    Calls Tryd.prog 53 #[.agg tabK, trV t p, .slice p.A2 p.n2 p.c2, .int .i64 i] w fun e w' => e = .returned (.tuple #[dgV zeroD, .slice none 0 0, .int .i64 420]) ∧ Below w.heap.size w w' := by
  have HE : Hid (trE t = 420) := Lib.hid (trE_no hg.out)
  obtain ⟨t1, t2, t3, t4⟩ := rows_three w tabK (trC t p).toArray 113 27 (.cells (dgC zeroD).toArray 25)
  have HO1 := Lib.hid (h.out.below t1)
  have hT1 := Lib.hid (hT.out.below t1)
  rw [zeroD_cells] at t1 t2 t3 HO1 hT1
  conv at t4 => lhs; rw [zeroD_cells]
  have HB0 := Lib.hid t1
  have HR0 := Lib.hid t2
  have HR1 := Lib.hid t3
  have HRZ := Lib.hid t4
  have HIT := Lib.hid (trV_info t p h.out.len)
  have HSZD := Lib.hid (dgC_info zeroD_ok)
  have HSZ2 := Lib.hid (dgC_size zeroD_ok)
  clear t1 t2 t3 t4
  rw [show trV t p = .agg (trC t p).toArray from rfl]
  go_enter Tryd.func53, Tryd.ntmps53
  go_wp2_with (refine wpList_load_row rfl 27 (.tmp 5) rfl (w.heap.size + 1) rfl 27 _ (0, 0) _ HR1.out Tryd.underlying27 rfl HIT.out ?_)
  rw [show Value.agg (trC t p).toArray = trV t p from rfl]
  refine (check_any t p _ HO1).mono ?_
  rintro e w1 ⟨rfl, hq1⟩
  have HB1 := Lib.hid (HB0.out.trans (hq1.mono HB0.out.size))
  have HX0 := Lib.hid (row_kept HR0.out hq1)
  have HX1 := Lib.hid (row_kept HR1.out hq1)
  have HXZ := Lib.hid (row_kept HRZ.out hq1)
  have HO2 := Lib.hid (HO1.out.below hq1)
  have hT2 := Lib.hid (hT1.out.below hq1)
  clear hq1 HR0 HR1 HRZ HO1 hT1 HB0
  rw [HE.out]
  go_wp2_with (first | (refine wpList_load_row rfl 25 (.tmp 8) rfl (w.heap.size + 1 + 1) rfl 25 _ (0, 0) _ HXZ.out Tryd.underlying25 rfl HSZD.out ?_) | (refine wpList_store_row rfl 25 (.tmp 8) (.tmp 16) rfl (w.heap.size + 1 + 1) (dgC zeroD).toArray ?ha ?hb 25 _ HXZ.out HSZD.out HSZ2.out (dgC_one zeroD) ?_))
  all_goals first | rfl | skip
  have hr := setRow_heap w1 (w.heap.size + 1 + 1) _ (dgC zeroD).toArray _ _ HXZ.out
  have hl := run_loadVar_row (P := Tryd.prog) (World.setRow w1 (w.heap.size + 1 + 1) (dgC zeroD).toArray) (w.heap.size + 1 + 1) 25 25 (dgC zeroD).toArray (0, 0) _ hr Tryd.underlying25 rfl HSZD.out
  refine bodyPost_ret (v := .tuple #[dgV zeroD, .slice none 0 0, .int .i64 420]) ?_ rfl ⟨rfl, below_setRow HB1.out (by omega) _⟩
  rw [dgV_agg zeroD]
  simp [results, Tryd.results53, asAddr, hl]
set_option maxHeartbeats 4000000 in
theorem showK_1 (t : Tr) (p : TrP) (i : Int) (w : World) (h : Hid (TrOk w t p)) (hT : Hid (Tabs w)) (hg : Hid (trG t = true)) (hi : i < 0) :
    Calls Tryd.prog 53 #[.agg tabK, trV t p, .slice p.A2 p.n2 p.c2, .int .i64 i] w fun e w' => e = .returned (.tuple #[dgV zeroD, .slice none 0 0, .int .i64 420]) ∧ Below w.heap.size w w' := by
  have HE : Hid (trE t = 0) := Lib.hid (trE_yes hg.out)
  have d0 : decide (i < 0) = true := decide_eq_true hi
  obtain ⟨t1, t2, t3, t4⟩ := rows_three w tabK (trC t p).toArray 113 27 (.cells (dgC zeroD).toArray 25)
  have HO1 := Lib.hid (h.out.below t1)
  have hT1 := Lib.hid (hT.out.below t1)
  rw [zeroD_cells] at t1 t2 t3 HO1 hT1
  conv at t4 => lhs; rw [zeroD_cells]
  have HB0 := Lib.hid t1
  have HR0 := Lib.hid t2
  have HR1 := Lib.hid t3
  have HRZ := Lib.hid t4
  have HIT := Lib.hid (trV_info t p h.out.len)
  have HSZD := Lib.hid (dgC_info zeroD_ok)
  have HSZ2 := Lib.hid (dgC_size zeroD_ok)
  clear t1 t2 t3 t4
  rw [show trV t p = .agg (trC t p).toArray from rfl]
  go_enter Tryd.func53, Tryd.ntmps53
  go_wp2_with (refine wpList_load_row rfl 27 (.tmp 5) rfl (w.heap.size + 1) rfl 27 _ (0, 0) _ HR1.out Tryd.underlying27 rfl HIT.out ?_)
  rw [show Value.agg (trC t p).toArray = trV t p from rfl]
  refine (check_any t p _ HO1).mono ?_
  rintro e w1 ⟨rfl, hq1⟩
  have HB1 := Lib.hid (HB0.out.trans (hq1.mono HB0.out.size))
  have HX0 := Lib.hid (row_kept HR0.out hq1)
  have HX1 := Lib.hid (row_kept HR1.out hq1)
  have HXZ := Lib.hid (row_kept HRZ.out hq1)
  have HO2 := Lib.hid (HO1.out.below hq1)
  have hT2 := Lib.hid (hT1.out.below hq1)
  clear hq1 HR0 HR1 HRZ HO1 hT1 HB0
  rw [HE.out]
  go_wp2_with (first | (refine wpList_load_row rfl 25 (.tmp 8) rfl (w.heap.size + 1 + 1) rfl 25 _ (0, 0) _ HXZ.out Tryd.underlying25 rfl HSZD.out ?_) | (refine wpList_store_row rfl 25 (.tmp 8) (.tmp 26) rfl (w.heap.size + 1 + 1) (dgC zeroD).toArray ?ha ?hb 25 _ HXZ.out HSZD.out HSZ2.out (dgC_one zeroD) ?_))
  all_goals first | rfl | skip
  have hr := setRow_heap w1 (w.heap.size + 1 + 1) _ (dgC zeroD).toArray _ _ HXZ.out
  have hl := run_loadVar_row (P := Tryd.prog) (World.setRow w1 (w.heap.size + 1 + 1) (dgC zeroD).toArray) (w.heap.size + 1 + 1) 25 25 (dgC zeroD).toArray (0, 0) _ hr Tryd.underlying25 rfl HSZD.out
  refine bodyPost_ret (v := .tuple #[dgV zeroD, .slice none 0 0, .int .i64 420]) ?_ rfl ⟨rfl, below_setRow HB1.out (by omega) _⟩
  rw [dgV_agg zeroD]
  simp [results, Tryd.results53, asAddr, hl]
set_option maxHeartbeats 4000000 in
theorem showK_2 (t : Tr) (p : TrP) (i : Int) (w : World) (h : Hid (TrOk w t p)) (hT : Hid (Tabs w)) (hg : Hid (trG t = true)) (hi : 0 ≤ i) (hi2 : (p.n2 : Int) ≤ i) :
    Calls Tryd.prog 53 #[.agg tabK, trV t p, .slice p.A2 p.n2 p.c2, .int .i64 i] w fun e w' => e = .returned (.tuple #[dgV zeroD, .slice none 0 0, .int .i64 420]) ∧ Below w.heap.size w w' := by
  have HE : Hid (trE t = 0) := Lib.hid (trE_yes hg.out)
  have d0 : decide (i < 0) = false := decide_eq_false (by omega)
  have d1 : decide ((p.n2 : Int) ≤ i) = true := decide_eq_true hi2
  obtain ⟨t1, t2, t3, t4⟩ := rows_three w tabK (trC t p).toArray 113 27 (.cells (dgC zeroD).toArray 25)
  have HO1 := Lib.hid (h.out.below t1)
  have hT1 := Lib.hid (hT.out.below t1)
  rw [zeroD_cells] at t1 t2 t3 HO1 hT1
  conv at t4 => lhs; rw [zeroD_cells]
  have HB0 := Lib.hid t1
  have HR0 := Lib.hid t2
  have HR1 := Lib.hid t3
  have HRZ := Lib.hid t4
  have HIT := Lib.hid (trV_info t p h.out.len)
  have HSZD := Lib.hid (dgC_info zeroD_ok)
  have HSZ2 := Lib.hid (dgC_size zeroD_ok)
  clear t1 t2 t3 t4
  rw [show trV t p = .agg (trC t p).toArray from rfl]
  go_enter Tryd.func53, Tryd.ntmps53
  go_wp2_with (refine wpList_load_row rfl 27 (.tmp 5) rfl (w.heap.size + 1) rfl 27 _ (0, 0) _ HR1.out Tryd.underlying27 rfl HIT.out ?_)
  rw [show Value.agg (trC t p).toArray = trV t p from rfl]
  refine (check_any t p _ HO1).mono ?_
  rintro e w1 ⟨rfl, hq1⟩
  have HB1 := Lib.hid (HB0.out.trans (hq1.mono HB0.out.size))
  have HX0 := Lib.hid (row_kept HR0.out hq1)
  have HX1 := Lib.hid (row_kept HR1.out hq1)
  have HXZ := Lib.hid (row_kept HRZ.out hq1)
  have HO2 := Lib.hid (HO1.out.below hq1)
  have hT2 := Lib.hid (hT1.out.below hq1)
  clear hq1 HR0 HR1 HRZ HO1 hT1 HB0
  rw [HE.out]
  go_wp2_with (first | (refine wpList_load_row rfl 25 (.tmp 8) rfl (w.heap.size + 1 + 1) rfl 25 _ (0, 0) _ HXZ.out Tryd.underlying25 rfl HSZD.out ?_) | (refine wpList_store_row rfl 25 (.tmp 8) (.tmp 26) rfl (w.heap.size + 1 + 1) (dgC zeroD).toArray ?ha ?hb 25 _ HXZ.out HSZD.out HSZ2.out (dgC_one zeroD) ?_))
  all_goals first | rfl | skip
  have hr := setRow_heap w1 (w.heap.size + 1 + 1) _ (dgC zeroD).toArray _ _ HXZ.out
  have hl := run_loadVar_row (P := Tryd.prog) (World.setRow w1 (w.heap.size + 1 + 1) (dgC zeroD).toArray) (w.heap.size + 1 + 1) 25 25 (dgC zeroD).toArray (0, 0) _ hr Tryd.underlying25 rfl HSZD.out
  refine bodyPost_ret (v := .tuple #[dgV zeroD, .slice none 0 0, .int .i64 420]) ?_ rfl ⟨rfl, below_setRow HB1.out (by omega) _⟩
  rw [dgV_agg zeroD]
  simp [results, Tryd.results53, asAddr, hl]
set_option maxHeartbeats 8000000 in
theorem showK_yes (t : Tr) (p : TrP) (j : Nat) (x : Cl) (w : World) (h : Hid (TrOk w t p)) (hT : Hid (Tabs w)) (hg : Hid (trG t = true)) (hj : j < p.n2) (HX : Hid (t.cl[j]? = some x)) :
    Calls Tryd.prog 53 #[.agg tabK, trV t p, .slice p.A2 p.n2 p.c2, .int .i64 (j : Nat)] w fun e w' => ∃ A' n' c', e = .returned (.tuple #[dgV (saltN t.salt 2 (nCl x)), .slice A' n' c', .int .i64 0]) ∧ InD w' A' n' c' (pathD (t.cl.map (lvK t.salt)) j) ∧ Below w.heap.size w w' ∧ ∀ g, (Value.slice A' n' c').ownBlock = some g → w.heap.size ≤ g := by
  have HE : Hid (trE t = 0) := Lib.hid (trE_yes hg.out)
  obtain ⟨s, HS⟩ : ∃ s, Hid (saltN t.salt 2 (nCl x) = s) := ⟨_, Lib.hid rfl⟩
  have HSO : Hid (DgOk s) := Lib.hid (by rw [← HS.out]; exact saltN_ok _ _ _)
  have HS1 := Lib.hid (dgC_info HSO.out)
  have HS2 := Lib.hid (dgC_size HSO.out)
  obtain ⟨P, HP⟩ : ∃ P, Hid (t.cl.map (lvK t.salt) = P) := ⟨_, Lib.hid rfl⟩
  obtain ⟨PP, HPP⟩ : ∃ PP, Hid (pathD P j = PP) := ⟨_, Lib.hid rfl⟩
  have HLN := Lib.hid (show t.cl.length = p.n2 from h.out.cl.len)
  have HPL : Hid (P.length = p.n2) := Lib.hid (by rw [← HP.out, List.length_map, HLN.out])
  have HNL : Hid (p.n2 ≤ 100000) := Lib.hid (by have := trG_cls hg.out; rw [HLN.out] at this; exact this)
  have HSA : Hid (DgOk t.salt) := Lib.hid ⟨h.out.len, h.out.bytes⟩
  have HSK := Lib.hid (dgC_infoK HSA.out)
  have HITB := Lib.hid tabK_info4
  have HII := Lib.hid (clC_infoL4 x)
  obtain ⟨g, off, eA, hgl, hr⟩ := h.out.cl.rd (by rw [HLN.out]; omega)
  have HR : Hid (w.rangeAt g (off + j * 3) (clC x)) := Lib.hid (by
    obtain ⟨hjl, hx⟩ := List.getElem?_eq_some_iff.1 HX.out
    have := range_elem clC_len4 hr j hjl
    rwa [hx] at this)
  have d0 : decide ((j : Int) < 0) = false := decide_eq_false (by omega)
  have d1 : decide ((p.n2 : Int) ≤ (j : Int)) = false := decide_eq_false (by omega)
  have d2 : decide (j < p.n2) = true := decide_eq_true hj
  rw [HP.out, HPP.out, HS.out]
  clear hr HX
  obtain ⟨t1, t2, t3, t4⟩ := rows_three w tabK (trC t p).toArray 113 27 (.cells (dgC zeroD).toArray 25)
  have HO1 := Lib.hid (h.out.below t1)
  have hT1 := Lib.hid (hT.out.below t1)
  rw [zeroD_cells] at t1 t2 t3 HO1 hT1
  conv at t4 => lhs; rw [zeroD_cells]
  have HB0 := Lib.hid t1
  have HR0 := Lib.hid t2
  have HR1 := Lib.hid t3
  have HRZ := Lib.hid t4
  have HIT := Lib.hid (trV_info t p h.out.len)
  have HSZD := Lib.hid (dgC_info zeroD_ok)
  have HSZ2 := Lib.hid (dgC_size zeroD_ok)
  clear t1 t2 t3 t4
  rw [show trV t p = .agg (trC t p).toArray from rfl]
  rw [eA]
  go_enter Tryd.func53, Tryd.ntmps53
  go_wp2_with (refine wpList_load_row rfl 27 (.tmp 5) rfl (w.heap.size + 1) rfl 27 _ (0, 0) _ HR1.out Tryd.underlying27 rfl HIT.out ?_)
  rw [show Value.agg (trC t p).toArray = trV t p from rfl]
  refine (check_any t p _ HO1).mono ?_
  rintro e w1 ⟨rfl, hq1⟩
  have HB1 := Lib.hid (HB0.out.trans (hq1.mono HB0.out.size))
  have HX0 := Lib.hid (row_kept HR0.out hq1)
  have HX1 := Lib.hid (row_kept HR1.out hq1)
  have HXZ := Lib.hid (row_kept HRZ.out hq1)
  have HO2 := Lib.hid (HO1.out.below hq1)
  have hT2 := Lib.hid (hT1.out.below hq1)
  clear hq1 HR0 HR1 HRZ HO1 hT1 HB0
  rw [HE.out]
  have HIL : Hid (InCl w1 (some ⟨g, off, none⟩) p.n2 p.c2 t.cl) := Lib.hid (by have := HO2.out.cl; rwa [eA] at this)
  go_wp2_with (first | (refine wpList_load_row rfl 113 (.tmp 4) rfl w.heap.size rfl 113 _ (0, 0) _ HX0.out Tryd.underlying113 rfl HITB.out ?_) | (refine wpList_load_mid rfl 25 (.tmp 29) rfl (w.heap.size + 1) 6 rfl (dgC t.salt) _ (tr_salt HX1.out) Tryd.underlying25 rfl HSK.out ?_))
  refine (leavesK t.salt t.cl (some ⟨g, off, none⟩) p.n2 p.c2 _ HNL.out HSA HIL hT2).mono ?_
  rintro e w2 ⟨A3, n3, c3, rfl, hin3, hq2⟩
  rw [HP.out] at hin3
  have HN3 : Hid (n3 = p.n2) := Lib.hid (by rw [← hin3.len]; exact HPL.out)
  have HIN3 := Lib.hid hin3
  have hT3 := Lib.hid (hT2.out.below hq2)
  have HY0 := Lib.hid (row_kept HX0.out hq2)
  have HY1 := Lib.hid (row_kept HX1.out hq2)
  have HYZ := Lib.hid (row_kept HXZ.out hq2)
  have HB2 := Lib.hid (HB1.out.trans (hq2.mono HB1.out.size))
  clear hin3 hq2
  go_wp2_with fail
  refine (dpath_yes P A3 n3 c3 j _ (by rw [HN3.out]; exact HNL.out) (by rw [HN3.out]; exact hj) HIN3 hT3).mono ?_
  rintro e W1 ⟨A4, n4, c4, rfl, hin4, hq3, hown⟩
  rw [HPP.out] at hin4
  have HIN4 := Lib.hid hin4
  have hT4 := Lib.hid (hT3.out.below hq3)
  have HZ0 := Lib.hid (row_kept HY0.out hq3)
  have HZ1 := Lib.hid (row_kept HY1.out hq3)
  have HZZ := Lib.hid (row_kept HYZ.out hq3)
  have HOW : Hid (∀ g, (Value.slice A4 n4 c4).ownBlock = some g → g ≠ w.heap.size + 1 + 1) := Lib.hid (fun g hg e => by
    have h1 := hown g hg
    have h2 := (Array.getElem?_eq_some_iff.1 HYZ.out).1
    omega)
  have HWN : Hid (∀ g, (Value.slice A4 n4 c4).ownBlock = some g → w.heap.size ≤ g) := Lib.hid (fun g hg => Nat.le_trans HB2.out.size (hown g hg))
  have HB3 := Lib.hid (HB2.out.trans (hq3.mono HB2.out.size))
  have HR3 := Lib.hid (rangeAt_below HR.out hgl HB3.out)
  have HGL : Hid (g < W1.heap.size) := Lib.hid (Nat.lt_of_lt_of_le hgl HB3.out.size)
  clear hin4 hq3 hown HY0 HY1 HYZ HX0 HX1 HXZ
  go_wp2_with fail
  refine region_flow4 (by kernel_rfl) (by kernel_rfl) (fun i => Nat.beq i 10 || Nat.beq i 11 || Nat.beq i 12) (fun i => i) (by kernel_rfl) (fun fx => #[Value.agg tabK, trV t p, Value.slice (some { block := g, off := off }) p.n2 p.c2, Value.int IntKind.i64 ↑j, Value.pointer (some { block := w.heap.size, off := 0 }), Value.pointer (some { block := w.heap.size + 1, off := 0 }), undef, undef, Value.pointer (some { block := w.heap.size + 1 + 1, off := 0 }), fx 11, fx 12, Value.int IntKind.i64 0, trV t p, Value.int IntKind.i64 0, Value.int IntKind.i64 0, Value.bool false, undef, undef, Value.int IntKind.i64 ↑j, Value.bool false, Value.bool false, Value.int IntKind.i64 ↑j, Value.slice (some { block := g, off := off }) p.n2 p.c2, Value.int IntKind.i64 ↑p.n2, Value.bool false, Value.bool false, undef, Value.tuple #[Value.slice A4 n4 c4, Value.int IntKind.i64 0], Value.agg tabK, Value.pointer (some { block := w.heap.size + 1, off := 6 }), Value.agg (dgC t.salt).toArray, Value.slice (some { block := g, off := off }) p.n2 p.c2, Value.slice A3 n3 c3, Value.int IntKind.i64 ↑j, Value.tuple #[Value.slice A4 n4 c4, Value.int IntKind.i64 0], Value.slice A4 n4 c4, Value.int IntKind.i64 0, fx 0, fx 1, fx 2, fx 3, fx 4, fx 5, fx 6, fx 7, fx 8, fx 9]) (fun i => bif Nat.beq i 11 then Value.slice A4 n4 c4 else bif Nat.beq i 12 then Value.int IntKind.i64 0 else undef) (fun L fx w' => (L 11 = false → fx 11 = Value.slice A4 n4 c4) ∧ (L 12 = false → fx 12 = Value.int .i64 0) ∧ (L 10 = false → Below W1.heap.size W1 w')) (fun fi fv _ fw => wShK w (w.heap.size + 1) (w.heap.size + 1 + 1) t p g off j x s A4 n4 c4 PP fi fv fw) ⟨fun _ => rfl, fun _ => rfl, fun _ => (Below.refl _ _).drew⟩ ?_ ?_
  · refine ⟨?_, ?_, ?_, ?_, ?_, ?_, ?_, ?_, ?_, ?_, ?_, ?_, ?_, trivial⟩
    all_goals intro L fx w' hC hi hcl hdn hd
    · have hnd : L 10 = false := Bool.eq_false_iff.2 (fun h => by have := hcl 10 0 h (by kernel_rfl); rw [hi] at this; cases this)
      have hrow := row_kept HZ0.out (hC.2.2 hnd)
      refine wpList_load_row rfl 113 (.tmp 4) rfl w.heap.size rfl 113 _ (0, 0) _ hrow Tryd.underlying113 rfl HITB.out ?_
      clear hd
      go_wp2_with fail
      exact ⟨_, rfl, ⟨fun h => hC.1 h, fun h => hC.2.1 h, fun h => hC.2.2 h⟩, rfl, fun _ _ _ _ _ h => h⟩
    · have hnd : L 10 = false := Bool.eq_false_iff.2 (fun h => by have := hcl 10 1 h (by kernel_rfl); rw [hi] at this; cases this)
      go_wp2_with fail
      exact ⟨_, rfl, ⟨fun h => hC.1 h, fun h => hC.2.1 h, fun h => hC.2.2 h⟩, rfl, fun _ _ _ _ _ h => h⟩
    · have h1 : fx 1 = Value.pointer (some { block := w.heap.size + 1, off := 6 }) := hd.1 rfl
      have hnd : L 10 = false := Bool.eq_false_iff.2 (fun h => by have := hcl 10 2 h (by kernel_rfl); rw [hi] at this; cases this)
      have hrow := tr_salt (row_kept HZ1.out (hC.2.2 hnd))
      refine wpList_load_mid rfl 25 (.tmp 38) rfl (w.heap.size + 1) 6 h1 (dgC t.salt) _ hrow Tryd.underlying25 rfl HSK.out ?_
      clear hd
      go_wp2_with fail
      exact ⟨_, by simp only [upd, h1]; rfl, ⟨fun h => hC.1 h, fun h => hC.2.1 h, fun h => hC.2.2 h⟩, rfl, fun _ _ _ _ _ h => h⟩
    · have hnd : L 10 = false := Bool.eq_false_iff.2 (fun h => by have := hcl 10 3 h (by kernel_rfl); rw [hi] at this; cases this)
      go_wp2_with fail
      exact ⟨_, rfl, ⟨fun h => hC.1 h, fun h => hC.2.1 h, fun h => hC.2.2 h⟩, rfl, fun _ _ _ _ _ h => h⟩
    · have hnd : L 10 = false := Bool.eq_false_iff.2 (fun h => by have := hcl 10 4 h (by kernel_rfl); rw [hi] at this; cases this)
      go_wp2_with fail
      exact ⟨_, rfl, ⟨fun h => hC.1 h, fun h => hC.2.1 h, fun h => hC.2.2 h⟩, rfl, fun _ _ _ _ _ h => h⟩
    · have h3 : fx 3 = Value.slice (some ⟨g, off, none⟩) p.n2 p.c2 := hd.1 rfl
      have h4 : fx 4 = Value.int .i64 (j : Nat) := hd.2.1 rfl
      have hnd : L 10 = false := Bool.eq_false_iff.2 (fun h => by have := hcl 10 5 h (by kernel_rfl); rw [hi] at this; cases this)
      go_wp2_with fail
      exact ⟨_, by simp only [upd, h3, h4]; rfl, ⟨fun h => hC.1 h, fun h => hC.2.1 h, fun h => hC.2.2 h⟩, rfl, fun _ _ _ _ _ h => h⟩
    · have h5 : fx 5 = Value.pointer (some ⟨g, off + j * 3, none⟩) := hd.1 rfl
      have hnd : L 10 = false := Bool.eq_false_iff.2 (fun h => by have := hcl 10 6 h (by kernel_rfl); rw [hi] at this; cases this)
      have hrow := rangeAt_below HR3.out HGL.out (hC.2.2 hnd)
      refine wpList_load_mid rfl 49 (.tmp 42) rfl g (off + j * 3) h5 (clC x) _ hrow Tryd.underlying49 rfl HII.out ?_
      clear hd
      go_wp2_with fail
      exact ⟨_, by simp only [upd, h5]; rfl, ⟨fun h => hC.1 h, fun h => hC.2.1 h, fun h => hC.2.2 h⟩, rfl, fun _ _ _ _ _ h => h⟩
    · have h0 : fx 0 = Value.agg tabK := hd.1 rfl
      have h2 : fx 2 = dgV t.salt := hd.2.1 rfl
      have h6 : fx 6 = clV x := hd.2.2.1 rfl
      have hnd : L 10 = false := Bool.eq_false_iff.2 (fun h => by have := hcl 10 7 h (by kernel_rfl); rw [hi] at this; cases this)
      have hb12 := hC.2.2 hnd
      have HTK := Lib.hid (hT4.out.below hb12)
      go_wp2_with fail
      refine (saltK t.salt x w' HSA HTK).mono ?_
      rintro e w2 ⟨rfl, hq⟩
      rw [HS.out]
      go_wp2_with fail
      exact ⟨_, by simp only [upd, h0, h2, h6]; rfl, ⟨fun h => hC.1 h, fun h => hC.2.1 h, fun h => hb12.trans (hq.mono hb12.size)⟩, rfl, fun j v t _ _ h => wShK_below hq j v h⟩
    · have hN : L 11 = false := Bool.eq_false_iff.2 (fun h => by have := hcl 11 8 h (by kernel_rfl); rw [hi] at this; cases this)
      have he := hC.1 hN
      go_wp2_with fail
      exact ⟨_, by simp only [upd, he]; rfl, ⟨fun h => hC.1 h, fun h => hC.2.1 h, fun h => hC.2.2 h⟩, rfl, fun _ _ _ _ _ h => h⟩
    · have hN : L 12 = false := Bool.eq_false_iff.2 (fun h => by have := hcl 12 9 h (by kernel_rfl); rw [hi] at this; cases this)
      have he := hC.2.1 hN
      go_wp2_with fail
      exact ⟨_, by simp only [upd, he]; rfl, ⟨fun h => hC.1 h, fun h => hC.2.1 h, fun h => hC.2.2 h⟩, rfl, fun _ _ _ _ _ h => h⟩
    · have h7 : fx 7 = dgV s := hd.1 rfl
      have hb21 := hC.2.2 hi
      have hrow := row_kept HZZ.out hb21
      refine wpList_store_row rfl 25 (.tmp 8) (.tmp 44) rfl (w.heap.size + 1 + 1) (dgC s).toArray rfl h7 25 _ hrow HS1.out HS2.out (dgC_one _) ?_
      clear hd
      go_wp2_with fail
      refine ⟨undef, by rw [← h7]; rfl, ⟨fun h => hC.1 h, fun h => hC.2.1 h, fun h => (updB_self h).elim⟩, ⟨setRow_heap _ _ _ _ _ _ hrow, below_setRow (HB3.out.trans (hb21.mono HB3.out.size)) (by omega) _, (HIN4.out.below hb21).setRow HOW.out⟩, fun j v t hj hu h => ?_⟩
      refine wShK_pure j v ?_ h
      intro e; subst e; rw [hi] at hj; cases hj
    · have h8 : fx 8 = Value.slice A4 n4 c4 := hd.1 rfl
      go_wp2_with fail
      exact ⟨_, by simp only [upd, h8]; rfl, ⟨fun h => (updB_self h).elim, fun h => hC.2.1 h, fun h => hC.2.2 h⟩, rfl, fun _ _ _ _ _ h => h⟩
    · have h9 : fx 9 = Value.int .i64 0 := hd.1 rfl
      go_wp2_with fail
      exact ⟨_, by simp only [upd, h9]; rfl, ⟨fun h => hC.1 h, fun h => (updB_self h).elim, fun h => hC.2.2 h⟩, rfl, fun _ _ _ _ _ h => h⟩
  · intro L fo w' hC hS
    have H10 := Lib.hid (hS 10 (by decide) rfl)
    have H11 := Lib.hid (hS 11 (by decide) rfl)
    have H12 := Lib.hid (hS 12 (by decide) rfl)
    have h11 : fo 11 = Value.slice A4 n4 c4 := H11.out
    have h12 : fo 12 = .int .i64 0 := H12.out
    rw [h11, h12]
    clear hS hC h11 h12 H11 H12
    go_wp2_with fail
    have hl := run_loadVar_row (P := Tryd.prog) w' (w.heap.size + 1 + 1) 25 25 (dgC s).toArray (0, 0) _ H10.out.1 Tryd.underlying25 rfl HS1.out
    refine bodyPost_ret (v := .tuple #[dgV s, .slice A4 n4 c4, .int .i64 0]) ?_ rfl ⟨A4, n4, c4, rfl, H10.out.2.2, H10.out.2.1, HWN.out⟩
    rw [dgV_agg s]
    simp [results, Tryd.results53, asAddr, hl]
end Go.Proofs.YtmfmgeapecapiaaDoor
namespace Go.Proofs.YtmfmgeapecapiaaDoor
open Go.RowKit SzSha SzTree
set_option linter.unusedVariables false
set_option maxRecDepth 100000
set_option maxHeartbeats 4000000 in
theorem built_shL (i : Int) (x : Ln) (s : List Nat) (h : s.length = 32) (A : Option Addr) (n c : Nat) : Tryd.prog.built 44 [(0, .int .i64 i), (1, lnV x), (2, dgV s), (3, .slice A n c)] = some (shCL i x s A n c).toArray := by
  rcases s with _ | ⟨x0, s⟩
  · simp at h
  rcases s with _ | ⟨x1, s⟩
  · simp at h
  rcases s with _ | ⟨x2, s⟩
  · simp at h
  rcases s with _ | ⟨x3, s⟩
  · simp at h
  rcases s with _ | ⟨x4, s⟩
  · simp at h
  rcases s with _ | ⟨x5, s⟩
  · simp at h
  rcases s with _ | ⟨x6, s⟩
  · simp at h
  rcases s with _ | ⟨x7, s⟩
  · simp at h
  rcases s with _ | ⟨x8, s⟩
  · simp at h
  rcases s with _ | ⟨x9, s⟩
  · simp at h
  rcases s with _ | ⟨x10, s⟩
  · simp at h
  rcases s with _ | ⟨x11, s⟩
  · simp at h
  rcases s with _ | ⟨x12, s⟩
  · simp at h
  rcases s with _ | ⟨x13, s⟩
  · simp at h
  rcases s with _ | ⟨x14, s⟩
  · simp at h
  rcases s with _ | ⟨x15, s⟩
  · simp at h
  rcases s with _ | ⟨x16, s⟩
  · simp at h
  rcases s with _ | ⟨x17, s⟩
  · simp at h
  rcases s with _ | ⟨x18, s⟩
  · simp at h
  rcases s with _ | ⟨x19, s⟩
  · simp at h
  rcases s with _ | ⟨x20, s⟩
  · simp at h
  rcases s with _ | ⟨x21, s⟩
  · simp at h
  rcases s with _ | ⟨x22, s⟩
  · simp at h
  rcases s with _ | ⟨x23, s⟩
  · simp at h
  rcases s with _ | ⟨x24, s⟩
  · simp at h
  rcases s with _ | ⟨x25, s⟩
  · simp at h
  rcases s with _ | ⟨x26, s⟩
  · simp at h
  rcases s with _ | ⟨x27, s⟩
  · simp at h
  rcases s with _ | ⟨x28, s⟩
  · simp at h
  rcases s with _ | ⟨x29, s⟩
  · simp at h
  rcases s with _ | ⟨x30, s⟩
  · simp at h
  rcases s with _ | ⟨x31, s⟩
  · simp at h
  rcases s with _ | ⟨y, s⟩
  · clear h
    kernel_rfl
  · simp at h
theorem wpList_build_shL {w : World} {ops : Array Oper} {rest : List Oper} {o : Oper} {a : Act} {Q : Exit → Act → World → Prop} (hg : o.guard = none) (u0 u1 u2 u3 : Operand)
    (ho : o.op = .build 44 #[(0, u0), (1, u1), (2, u2), (3, u3)]) (i : Int) (x : Ln) (s : List Nat) (A : Option Addr) (n c : Nat) (hs : s.length = 32) (h0 : a.eval u0 = .int .i64 i) (h1 : a.eval u1 = lnV x) (h2 : a.eval u2 = dgV s) (h3 : a.eval u3 = .slice A n c)
    (h : wpList Tryd.prog ops Q rest (a.put o.dst (.agg (shCL i x s A n c).toArray)) w) : wpList Tryd.prog ops Q (o :: rest) a w := by
  have e1 : (#[(0, u0), (1, u1), (2, u2), (3, u3)].map fun (i, x) => (i, a.eval x)).toList = [(0, .int .i64 i), (1, lnV x), (2, dgV s), (3, .slice A n c)] := by simp [h0, h1, h2, h3]
  refine wpList_build hg 44 _ ho (by rw [e1, built_shL i x s hs A n c]; rfl) ?_
  rw [e1, built_shL i x s hs A n c]
  exact h
theorem shCL_one (i : Int) (x : Ln) (s : List Nat) (A : Option Addr) (n c : Nat) : (shCL i x s A n c).toArray.all (·.oneCell') = true := by
  rw [Array.all_eq_true_iff_forall_mem]
  intro v hv
  have hv' : v ∈ shCL i x s A n c := by simpa using hv
  unfold shCL at hv'
  rcases List.mem_append.1 hv' with h | h
  · rw [List.mem_singleton.1 h]; rfl
  · rcases List.mem_append.1 h with h | h
    · unfold lnC at h
      simp only [List.mem_cons, List.not_mem_nil, or_false] at h
      rcases h with rfl | rfl | rfl | rfl | rfl <;> rfl
    · rcases List.mem_append.1 h with h | h
      · have := dgC_one s
        rw [Array.all_eq_true_iff_forall_mem] at this
        exact this v (by simpa using h)
      · rw [List.mem_singleton.1 h]; rfl
set_option maxHeartbeats 4000000 in
theorem built_shK (i : Int) (x : Cl) (s : List Nat) (h : s.length = 32) (A : Option Addr) (n c : Nat) : Tryd.prog.built 51 [(0, .int .i64 i), (1, clV x), (2, dgV s), (3, .slice A n c)] = some (shCK i x s A n c).toArray := by
  rcases s with _ | ⟨x0, s⟩
  · simp at h
  rcases s with _ | ⟨x1, s⟩
  · simp at h
  rcases s with _ | ⟨x2, s⟩
  · simp at h
  rcases s with _ | ⟨x3, s⟩
  · simp at h
  rcases s with _ | ⟨x4, s⟩
  · simp at h
  rcases s with _ | ⟨x5, s⟩
  · simp at h
  rcases s with _ | ⟨x6, s⟩
  · simp at h
  rcases s with _ | ⟨x7, s⟩
  · simp at h
  rcases s with _ | ⟨x8, s⟩
  · simp at h
  rcases s with _ | ⟨x9, s⟩
  · simp at h
  rcases s with _ | ⟨x10, s⟩
  · simp at h
  rcases s with _ | ⟨x11, s⟩
  · simp at h
  rcases s with _ | ⟨x12, s⟩
  · simp at h
  rcases s with _ | ⟨x13, s⟩
  · simp at h
  rcases s with _ | ⟨x14, s⟩
  · simp at h
  rcases s with _ | ⟨x15, s⟩
  · simp at h
  rcases s with _ | ⟨x16, s⟩
  · simp at h
  rcases s with _ | ⟨x17, s⟩
  · simp at h
  rcases s with _ | ⟨x18, s⟩
  · simp at h
  rcases s with _ | ⟨x19, s⟩
  · simp at h
  rcases s with _ | ⟨x20, s⟩
  · simp at h
  rcases s with _ | ⟨x21, s⟩
  · simp at h
  rcases s with _ | ⟨x22, s⟩
  · simp at h
  rcases s with _ | ⟨x23, s⟩
  · simp at h
  rcases s with _ | ⟨x24, s⟩
  · simp at h
  rcases s with _ | ⟨x25, s⟩
  · simp at h
  rcases s with _ | ⟨x26, s⟩
  · simp at h
  rcases s with _ | ⟨x27, s⟩
  · simp at h
  rcases s with _ | ⟨x28, s⟩
  · simp at h
  rcases s with _ | ⟨x29, s⟩
  · simp at h
  rcases s with _ | ⟨x30, s⟩
  · simp at h
  rcases s with _ | ⟨x31, s⟩
  · simp at h
  rcases s with _ | ⟨y, s⟩
  · clear h
    kernel_rfl
  · simp at h
theorem wpList_build_shK {w : World} {ops : Array Oper} {rest : List Oper} {o : Oper} {a : Act} {Q : Exit → Act → World → Prop} (hg : o.guard = none) (u0 u1 u2 u3 : Operand)
    (ho : o.op = .build 51 #[(0, u0), (1, u1), (2, u2), (3, u3)]) (i : Int) (x : Cl) (s : List Nat) (A : Option Addr) (n c : Nat) (hs : s.length = 32) (h0 : a.eval u0 = .int .i64 i) (h1 : a.eval u1 = clV x) (h2 : a.eval u2 = dgV s) (h3 : a.eval u3 = .slice A n c)
    (h : wpList Tryd.prog ops Q rest (a.put o.dst (.agg (shCK i x s A n c).toArray)) w) : wpList Tryd.prog ops Q (o :: rest) a w := by
  have e1 : (#[(0, u0), (1, u1), (2, u2), (3, u3)].map fun (i, x) => (i, a.eval x)).toList = [(0, .int .i64 i), (1, clV x), (2, dgV s), (3, .slice A n c)] := by simp [h0, h1, h2, h3]
  refine wpList_build hg 51 _ ho (by rw [e1, built_shK i x s hs A n c]; rfl) ?_
  rw [e1, built_shK i x s hs A n c]
  exact h
theorem shCK_one (i : Int) (x : Cl) (s : List Nat) (A : Option Addr) (n c : Nat) : (shCK i x s A n c).toArray.all (·.oneCell') = true := by
  rw [Array.all_eq_true_iff_forall_mem]
  intro v hv
  have hv' : v ∈ shCK i x s A n c := by simpa using hv
  unfold shCK at hv'
  rcases List.mem_append.1 hv' with h | h
  · rw [List.mem_singleton.1 h]; rfl
  · rcases List.mem_append.1 h with h | h
    · unfold clC at h
      simp only [List.mem_cons, List.not_mem_nil, or_false] at h
      rcases h with rfl | rfl | rfl <;> rfl
    · rcases List.mem_append.1 h with h | h
      · have := dgC_one s
        rw [Array.all_eq_true_iff_forall_mem] at this
        exact this v (by simpa using h)
      · rw [List.mem_singleton.1 h]; rfl
end Go.Proofs.YtmfmgeapecapiaaDoor
