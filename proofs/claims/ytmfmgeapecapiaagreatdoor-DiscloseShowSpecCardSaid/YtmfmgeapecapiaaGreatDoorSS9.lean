/- sizar/disclose.Listed. sizar/disclose.Claimed. sizarlaw42.root. sizarref42.Few. Slices of digests beside a row that is stored. sizar/disclose.show[sizar/api.Line]. sizar/disclose.show[sizar/api.Claim]. -/
import Derived.Test.YtmfmgeapecapiaaGreatDoorSS8
set_option maxHeartbeats 64000001
open Go.Lib (hid)
namespace Go.Proofs.YtmfmgeapecapiaaGreatDoor
open Go.RowKit SzSha SzTree
set_option linter.unusedVariables false
set_option maxRecDepth 100000
def wLiL (W0 : World) (bt : Nat) (br : Nat) (t : Tr) (p : TrP) (P : List Dg) (d : List Nat) : Nat → Value → World → Prop
 | 0, fv, _ => fv = .agg tabL
 | 1, fv, _ => fv = .pointer (some { block := bt, off := 6 })
 | 2, fv, _ => fv = dgV t.salt
 | 3, fv, _ => fv = .pointer (some { block := bt, off := 4 })
 | 4, fv, _ => fv = .slice p.A p.n p.c
 | 5, fv, fw => ∃ A' n' c', fv = .slice A' n' c' ∧ InD fw A' n' c' P
 | 6, fv, _ => fv = dgV d
 | 7, fv, fw => fw.heap[br]? = some (.cells (dgC d).toArray 25 (0, 0)) ∧ Below W0.heap.size W0 fw
 | 8, fv, _ => fv = .int .i64 0
 | _, _, _ => True
theorem wLiL_below {W0 : World} {bt : Nat} {br : Nat} {t : Tr} {p : TrP} {P : List Dg} {d : List Nat} {w w' : World} (hb : Below w.heap.size w w') : ∀ j v, wLiL W0 bt br t p P d j v w → wLiL W0 bt br t p P d j v w'
 | 0, v, h => h
 | 1, v, h => h
 | 2, v, h => h
 | 3, v, h => h
 | 4, v, h => h
 | 5, v, ⟨A', n', c', h1, h2⟩ => ⟨A', n', c', h1, h2.below hb⟩
 | 6, v, h => h
 | 7, v, h => ⟨row_kept h.1 hb, h.2.trans (hb.mono h.2.size)⟩
 | 8, v, h => h
 | n + 9, v, h => trivial
theorem wLiL_pure {W0 : World} {bt : Nat} {br : Nat} {t : Tr} {p : TrP} {P : List Dg} {d : List Nat} {w w' : World} : ∀ j v, j ≠ 5 → j ≠ 7 → wLiL W0 bt br t p P d j v w → wLiL W0 bt br t p P d j v w'
 | 0, v, _, _, h => h
 | 1, v, _, _, h => h
 | 2, v, _, _, h => h
 | 3, v, _, _, h => h
 | 4, v, _, _, h => h
 | 5, v, hh, _, _ => absurd rfl hh
 | 6, v, _, _, h => h
 | 7, v, _, hh, _ => absurd rfl hh
 | 8, v, _, _, h => h
 | n + 9, v, _, _, h => trivial
/-- the digest of a list -/
def lstL (t : Tr) : Dg := if trG t then treeD (t.ln.map (lvL t.salt)) else zeroD
theorem lstL_ok (t : Tr) : DgOk (lstL t) := by
 unfold lstL
 split
 ·exact treeD_okD _
 ·exact zeroD_ok
theorem lstL_no (t : Tr) (p : TrP) (w : World) (h : Hid (TrOk w t p)) (hT : Hid (Tabs w)) (hg : Hid (trG t = false)) :
  Calls Tryz.prog 12 #[trV t p] w fun e w' => e = .returned (.tuple #[dgV (lstL t), .int .i64 (trE t)]) ∧ Below w.heap.size w w' := by
 have HE : Hid (lstL t = zeroD ∧ trE t = 420) := hid ⟨by unfold lstL; rw [hg.out]; rfl, trE_no hg.out⟩
 have HSZD := hid (dgC_info zeroD_ok)
 have HSZ2 := hid (dgC_size zeroD_ok)
 have hb0 := ((Below.refl _ w).alloc (Nat.le_refl _) (.cells (trC t p).toArray 27)).alloc (by simp) (.cells (dgC zeroD).toArray 25)
 have hr0 := (Below.heap_alloc (w.alloc (.cells (trC t p).toArray 27)) (.cells (dgC zeroD).toArray 25) w.heap.size (by simp)).trans (heap_alloc_new w (.cells (trC t p).toArray 27))
 have hr1 := heap_alloc_new (w.alloc (.cells (trC t p).toArray 27)) (.cells (dgC zeroD).toArray 25)
 rw [World.size_alloc] at hr1
 have HO1 := hid (h.out.below hb0)
 have hT1 := hid (hT.out.below hb0)
 rw [zeroD_cells] at hb0 hr0 HO1 hT1
 conv at hr1 => lhs; rw [zeroD_cells]
 have HB0 := hid hb0
 have HR0 := hid hr0
 have HR1 := hid hr1
 have HIT := hid (trV_info t p h.out.len)
 clear hb0 hr0 hr1
 rw [show trV t p = .agg (trC t p).toArray from rfl]
 go_enter Tryz.func12, Tryz.ntmps12
 go_wp2_with (refine wpList_load_row rfl 27 (.tmp 1) rfl w.heap.size rfl 27 _ (0, 0) _ HR0.out Tryz.underlying27 rfl HIT.out ?_)
 rw [show Value.agg (trC t p).toArray = trV t p from rfl]
 refine (check_any t p _ HO1).mono ?_
 rintro e w1 ⟨rfl, hq1⟩
 have HB1 := hid (HB0.out.trans (hq1.mono HB0.out.size))
 have HR2 := hid (row_kept HR0.out hq1)
 have HR3 := hid (row_kept HR1.out hq1)
 have HO2 := hid (HO1.out.below hq1)
 have hT2 := hid (hT1.out.below hq1)
 clear hq1 HR0 HR1 HO1 hT1 HB0
 rw [HE.out.2]
 go_wp2_with (first | (refine wpList_load_row rfl 25 (.tmp 2) rfl (w.heap.size + 1) rfl 25 _ (0, 0) _ HR3.out Tryz.underlying25 rfl HSZD.out ?_) | (refine wpList_store_row rfl 25 (.tmp 2) (.tmp 9) rfl (w.heap.size + 1) (dgC zeroD).toArray ?ha ?hb 25 _ HR3.out HSZD.out HSZ2.out (dgC_one zeroD) ?_))
 all_goals first | rfl | skip
 have hr := setRow_heap w1 (w.heap.size + 1) _ (dgC zeroD).toArray _ _ HR3.out
 have hl := run_loadVar_row (P := Tryz.prog) (World.setRow w1 (w.heap.size + 1) (dgC zeroD).toArray) (w.heap.size + 1) 25 25 (dgC zeroD).toArray (0, 0) _ hr Tryz.underlying25 rfl HSZD.out
 refine bodyPost_ret (v := .tuple #[dgV zeroD, .int .i64 420]) ?_ rfl ⟨by rw [HE.out.1, HE.out.2], below_setRow HB1.out (Nat.le_succ _) _⟩
 rw [dgV_agg zeroD]
 simp [results, Tryz.results12, asAddr, hl]
theorem lstL_yes (t : Tr) (p : TrP) (w : World) (h : Hid (TrOk w t p)) (hT : Hid (Tabs w)) (hg : Hid (trG t = true)) :
  Calls Tryz.prog 12 #[trV t p] w fun e w' => e = .returned (.tuple #[dgV (lstL t), .int .i64 (trE t)]) ∧ Below w.heap.size w w' := by
 obtain ⟨d, HD⟩ : ∃ d, Hid (treeD (t.ln.map (lvL t.salt)) = d) := ⟨_, hid rfl⟩
 obtain ⟨P, HP⟩ : ∃ P, Hid (t.ln.map (lvL t.salt) = P) := ⟨_, hid rfl⟩
 have HE : Hid (lstL t = d ∧ trE t = 0) := hid ⟨by unfold lstL; rw [hg.out, ← HD.out]; rfl, trE_yes hg.out⟩
 have HDO : Hid (DgOk d) := hid (by rw [← HD.out]; exact treeD_okD _)
 have HS1 := hid (dgC_info HDO.out)
 have HS2 := hid (dgC_size HDO.out)
 have HSO : Hid (DgOk t.salt) := hid ⟨h.out.len, h.out.bytes⟩
 have HSK := hid (dgC_infoK HSO.out)
 have HNL : Hid (p.n ≤ 100000) := hid (by have := trG_lns hg.out; have e := h.out.ln.len; omega)
 have HPN : Hid (P.length ≤ 100000) := hid (by rw [← HP.out, List.length_map]; exact trG_lns hg.out)
 rw [HP.out] at HD
 have hb0 := ((Below.refl _ w).alloc (Nat.le_refl _) (.cells (trC t p).toArray 27)).alloc (by simp) (.cells (dgC zeroD).toArray 25)
 have hr0 := (Below.heap_alloc (w.alloc (.cells (trC t p).toArray 27)) (.cells (dgC zeroD).toArray 25) w.heap.size (by simp)).trans (heap_alloc_new w (.cells (trC t p).toArray 27))
 have hr1 := heap_alloc_new (w.alloc (.cells (trC t p).toArray 27)) (.cells (dgC zeroD).toArray 25)
 rw [World.size_alloc] at hr1
 have HO1 := hid (h.out.below hb0)
 have hT1 := hid (hT.out.below hb0)
 rw [zeroD_cells] at hb0 hr0 HO1 hT1
 conv at hr1 => lhs; rw [zeroD_cells]
 have HB0 := hid hb0
 have HR0 := hid hr0
 have HR1 := hid hr1
 have HIT := hid (trV_info t p h.out.len)
 clear hb0 hr0 hr1
 rw [show trV t p = .agg (trC t p).toArray from rfl]
 go_enter Tryz.func12, Tryz.ntmps12
 go_wp2_with (refine wpList_load_row rfl 27 (.tmp 1) rfl w.heap.size rfl 27 _ (0, 0) _ HR0.out Tryz.underlying27 rfl HIT.out ?_)
 rw [show Value.agg (trC t p).toArray = trV t p from rfl]
 refine (check_any t p _ HO1).mono ?_
 rintro e w1 ⟨rfl, hq1⟩
 have HB1 := hid (HB0.out.trans (hq1.mono HB0.out.size))
 have HR2 := hid (row_kept HR0.out hq1)
 have HR3 := hid (row_kept HR1.out hq1)
 have HO2 := hid (HO1.out.below hq1)
 have hT2 := hid (hT1.out.below hq1)
 clear hq1 HR0 HR1 HO1 hT1 HB0
 rw [HE.out.2]
 go_wp2_with fail
 obtain ⟨W1, hW1⟩ : ∃ W, W = w1 := ⟨_, rfl⟩
 subst hW1
 refine region_flow4 (by kernel_rfl) (by kernel_rfl) (fun i => Nat.beq i 7 || Nat.beq i 8) (fun i => i) (by kernel_rfl) (fun fx => #[trV t p, .pointer (some { block := w.heap.size, off := 0 }), .pointer (some { block := w.heap.size + 1, off := 0 }), fx 8, .int IntKind.i64 0, trV t p, .int IntKind.i64 0, .int IntKind.i64 0, .bool false, undef, undef, fx 0, fx 1, fx 2, fx 3, fx 4, fx 5, fx 6]) (fun i => bif Nat.beq i 8 then Value.int IntKind.i64 0 else undef) (fun L fx w' => (L 7 = false → Below W1.heap.size W1 w')) (fun fi fv _ fw => wLiL w w.heap.size (w.heap.size + 1) t p P d fi fv fw) (fun _ => (Below.refl _ _).drew) ?_ ?_
 ·refine ⟨?_, ?_, ?_, ?_, ?_, ?_, ?_, ?_, ?_, trivial⟩
  all_goals intro L fx w' hC hi hcl hdn hd
  ·have hnd : L 7 = false := nQ hi (fun h => hcl 7 0 h (by kernel_rfl))
   have hb12 := hC hnd
   go_wp2_with fail
   refine (lines_any w').mono ?_
   rintro e w2 ⟨rfl, hq⟩
   go_wp2_with fail
   exact ⟨_, rfl, fun _ => hb12.trans (hq.mono hb12.size), rfl, fun j v t _ _ h => wLiL_below hq j v h⟩
  ·have hnd : L 7 = false := nQ hi (fun h => hcl 7 1 h (by kernel_rfl))
   go_wp2_with fail
   exact ⟨_, rfl, (fun _ => hC hnd), rfl, kP⟩
  ·have h1 : fx 1 = .pointer (some { block := w.heap.size, off := 6 }) := hd.1 rfl
   have hnd : L 7 = false := nQ hi (fun h => hcl 7 2 h (by kernel_rfl))
   have hrow := tr_salt (row_kept HR2.out (hC hnd))
   refine wpList_load_mid rfl 25 (.tmp 12) rfl w.heap.size 6 h1 (dgC t.salt) _ hrow Tryz.underlying25 rfl HSK.out ?_
   clear hd
   go_wp2_with fail
   exact ⟨_, by simp only [upd, h1]; rfl, fun _ => hC hnd, rfl, kP⟩
  ·have hnd : L 7 = false := nQ hi (fun h => hcl 7 3 h (by kernel_rfl))
   go_wp2_with fail
   exact ⟨_, rfl, (fun _ => hC hnd), rfl, kP⟩
  ·have h3 : fx 3 = .pointer (some { block := w.heap.size, off := 4 }) := hd.1 rfl
   have hnd : L 7 = false := nQ hi (fun h => hcl 7 4 h (by kernel_rfl))
   have hcc : w'.cell? ⟨w.heap.size, 4, none⟩ = some (.slice p.A p.n p.c) := by rw [cell_of_row _ _ _ _ _ _ (row_kept HR2.out (hC hnd))]; rfl
   go_wp2_with fail
   exact ⟨_, by simp only [upd, h3]; rfl, (fun _ => hC hnd), rfl, kP⟩
  ·have h0 : fx 0 = .agg tabL := hd.1 rfl
   have h2 : fx 2 = dgV t.salt := hd.2.1 rfl
   have h4 : fx 4 = .slice p.A p.n p.c := hd.2.2.1 rfl
   have hnd : L 7 = false := nQ hi (fun h => hcl 7 5 h (by kernel_rfl))
   have hb12 := hC hnd
   have HIK := hid (HO2.out.ln.below hb12)
   have HTK := hid (hT2.out.below hb12)
   go_wp2_with fail
   refine (leavesL t.salt t.ln p.A p.n p.c w' HNL.out HSO HIK HTK).mono ?_
   rintro e w2 ⟨A', n', c', rfl, hin, hq⟩
   rw [HP.out] at hin
   go_wp2_with fail
   exact ⟨Value.slice A' n' c', by simp only [upd, h0, h2, h4]; rfl, fun _ => hb12.trans (hq.mono hb12.size), ⟨_, _, _, rfl, hin⟩, fun j v t _ _ h => wLiL_below hq j v h⟩
  ·have H5 := hid (hd.1 rfl)
   have hnd : L 7 = false := nQ hi (fun h => hcl 7 6 h (by kernel_rfl))
   have hb12 := hC hnd
   obtain ⟨A', n', c', h5, hin⟩ := H5.out
   have HIN := hid hin
   have hnn : n' ≤ 1099511627776 := by have e := hin.len; have := HPN.out; omega
   clear hin
   have HTK := hid (hT2.out.below hb12)
   go_wp2_with fail
   refine (dtree_any n' P A' n' c' w' (Nat.le_refl _) hnn HIN HTK).mono ?_
   rintro e w2 ⟨rfl, hq⟩
   rw [HD.out]
   go_wp2_with fail
   exact ⟨_, by first | rfl | (rw [← h5]; rfl), fun _ => hb12.trans (hq.mono hb12.size), rfl, fun j v t _ _ h => wLiL_below hq j v h⟩
  ·have h6 : fx 6 = dgV d := hd.1 rfl
   have hb21 := hC hi
   have hrow := row_kept HR3.out hb21
   refine wpList_store_row rfl 25 (.tmp 2) (.tmp 17) rfl (w.heap.size + 1) (dgC d).toArray rfl h6 25 _ hrow HS1.out HS2.out (dgC_one _) ?_
   clear hd
   go_wp2_with fail
   refine ⟨undef, by rw [← h6]; rfl, fun h => (updB_self h).elim, ⟨setRow_heap _ _ _ _ _ _ hrow, below_setRow (HB1.out.trans (hb21.mono HB1.out.size)) (by omega) _⟩, fun j v t hj hu h => ?_⟩
   refine wLiL_pure j v ?_ ?_ h <;> intro e <;> subst e
   ·refine absurd hu (not_needed (E := fun i => Nat.beq i 7 || Nat.beq i 8) (j := 5) [6] (by kernel_rfl) (by kernel_rfl) ?_)
    intro m hm hne; simp at hm; subst hm; exact hdn 6 (by kernel_rfl)
   ·rw [hi] at hj; cases hj
  ·go_wp2_with fail
   exact ⟨_, rfl, fun h => hC h, rfl, kP⟩
 ·intro L fo w' hC hS
  have H7 := hid (hS 7 (by decide) rfl)
  have H8 := hid (hS 8 (by decide) rfl)
  have h8 : fo 8 = .int .i64 0 := H8.out
  rw [h8]
  clear hS hC h8 H8
  go_wp2_with fail
  have hl := run_loadVar_row (P := Tryz.prog) w' (w.heap.size + 1) 25 25 (dgC d).toArray (0, 0) _ H7.out.1 Tryz.underlying25 rfl HS1.out
  refine bodyPost_ret (v := .tuple #[dgV d, .int .i64 0]) ?_ rfl ⟨by rw [HE.out.1, HE.out.2], H7.out.2⟩
  rw [dgV_agg d]
  simp [results, Tryz.results12, asAddr, hl]
theorem lstL_any (t : Tr) (p : TrP) (w : World) (h : Hid (TrOk w t p)) (hT : Hid (Tabs w)) :
  Calls Tryz.prog 12 #[trV t p] w fun e w' => e = .returned (.tuple #[dgV (lstL t), .int .i64 (trE t)]) ∧ Below w.heap.size w w' := by
 by_cases hg : trG t = true
 ·exact lstL_yes t p w h hT (hid hg)
 ·exact lstL_no t p w h hT (hid (by simpa using hg))
def wLiK (W0 : World) (bt : Nat) (br : Nat) (t : Tr) (p : TrP) (P : List Dg) (d : List Nat) : Nat → Value → World → Prop
 | 0, fv, _ => fv = .agg tabK
 | 1, fv, _ => fv = .pointer (some { block := bt, off := 6 })
 | 2, fv, _ => fv = dgV t.salt
 | 3, fv, _ => fv = .pointer (some { block := bt, off := 5 })
 | 4, fv, _ => fv = .slice p.A2 p.n2 p.c2
 | 5, fv, fw => ∃ A' n' c', fv = .slice A' n' c' ∧ InD fw A' n' c' P
 | 6, fv, _ => fv = dgV d
 | 7, fv, fw => fw.heap[br]? = some (.cells (dgC d).toArray 25 (0, 0)) ∧ Below W0.heap.size W0 fw
 | 8, fv, _ => fv = .int .i64 0
 | _, _, _ => True
theorem wLiK_below {W0 : World} {bt : Nat} {br : Nat} {t : Tr} {p : TrP} {P : List Dg} {d : List Nat} {w w' : World} (hb : Below w.heap.size w w') : ∀ j v, wLiK W0 bt br t p P d j v w → wLiK W0 bt br t p P d j v w'
 | 0, v, h => h
 | 1, v, h => h
 | 2, v, h => h
 | 3, v, h => h
 | 4, v, h => h
 | 5, v, ⟨A', n', c', h1, h2⟩ => ⟨A', n', c', h1, h2.below hb⟩
 | 6, v, h => h
 | 7, v, h => ⟨row_kept h.1 hb, h.2.trans (hb.mono h.2.size)⟩
 | 8, v, h => h
 | n + 9, v, h => trivial
theorem wLiK_pure {W0 : World} {bt : Nat} {br : Nat} {t : Tr} {p : TrP} {P : List Dg} {d : List Nat} {w w' : World} : ∀ j v, j ≠ 5 → j ≠ 7 → wLiK W0 bt br t p P d j v w → wLiK W0 bt br t p P d j v w'
 | 0, v, _, _, h => h
 | 1, v, _, _, h => h
 | 2, v, _, _, h => h
 | 3, v, _, _, h => h
 | 4, v, _, _, h => h
 | 5, v, hh, _, _ => absurd rfl hh
 | 6, v, _, _, h => h
 | 7, v, _, hh, _ => absurd rfl hh
 | 8, v, _, _, h => h
 | n + 9, v, _, _, h => trivial
/-- the digest of a list -/
def lstK (t : Tr) : Dg := if trG t then treeD (t.cl.map (lvK t.salt)) else zeroD
theorem lstK_ok (t : Tr) : DgOk (lstK t) := by
 unfold lstK
 split
 ·exact treeD_okD _
 ·exact zeroD_ok
theorem lstK_no (t : Tr) (p : TrP) (w : World) (h : Hid (TrOk w t p)) (hT : Hid (Tabs w)) (hg : Hid (trG t = false)) :
  Calls Tryz.prog 14 #[trV t p] w fun e w' => e = .returned (.tuple #[dgV (lstK t), .int .i64 (trE t)]) ∧ Below w.heap.size w w' := by
 have HE : Hid (lstK t = zeroD ∧ trE t = 420) := hid ⟨by unfold lstK; rw [hg.out]; rfl, trE_no hg.out⟩
 have HSZD := hid (dgC_info zeroD_ok)
 have HSZ2 := hid (dgC_size zeroD_ok)
 have hb0 := ((Below.refl _ w).alloc (Nat.le_refl _) (.cells (trC t p).toArray 27)).alloc (by simp) (.cells (dgC zeroD).toArray 25)
 have hr0 := (Below.heap_alloc (w.alloc (.cells (trC t p).toArray 27)) (.cells (dgC zeroD).toArray 25) w.heap.size (by simp)).trans (heap_alloc_new w (.cells (trC t p).toArray 27))
 have hr1 := heap_alloc_new (w.alloc (.cells (trC t p).toArray 27)) (.cells (dgC zeroD).toArray 25)
 rw [World.size_alloc] at hr1
 have HO1 := hid (h.out.below hb0)
 have hT1 := hid (hT.out.below hb0)
 rw [zeroD_cells] at hb0 hr0 HO1 hT1
 conv at hr1 => lhs; rw [zeroD_cells]
 have HB0 := hid hb0
 have HR0 := hid hr0
 have HR1 := hid hr1
 have HIT := hid (trV_info t p h.out.len)
 clear hb0 hr0 hr1
 rw [show trV t p = .agg (trC t p).toArray from rfl]
 go_enter Tryz.func14, Tryz.ntmps14
 go_wp2_with (refine wpList_load_row rfl 27 (.tmp 1) rfl w.heap.size rfl 27 _ (0, 0) _ HR0.out Tryz.underlying27 rfl HIT.out ?_)
 rw [show Value.agg (trC t p).toArray = trV t p from rfl]
 refine (check_any t p _ HO1).mono ?_
 rintro e w1 ⟨rfl, hq1⟩
 have HB1 := hid (HB0.out.trans (hq1.mono HB0.out.size))
 have HR2 := hid (row_kept HR0.out hq1)
 have HR3 := hid (row_kept HR1.out hq1)
 have HO2 := hid (HO1.out.below hq1)
 have hT2 := hid (hT1.out.below hq1)
 clear hq1 HR0 HR1 HO1 hT1 HB0
 rw [HE.out.2]
 go_wp2_with (first | (refine wpList_load_row rfl 25 (.tmp 2) rfl (w.heap.size + 1) rfl 25 _ (0, 0) _ HR3.out Tryz.underlying25 rfl HSZD.out ?_) | (refine wpList_store_row rfl 25 (.tmp 2) (.tmp 9) rfl (w.heap.size + 1) (dgC zeroD).toArray ?ha ?hb 25 _ HR3.out HSZD.out HSZ2.out (dgC_one zeroD) ?_))
 all_goals first | rfl | skip
 have hr := setRow_heap w1 (w.heap.size + 1) _ (dgC zeroD).toArray _ _ HR3.out
 have hl := run_loadVar_row (P := Tryz.prog) (World.setRow w1 (w.heap.size + 1) (dgC zeroD).toArray) (w.heap.size + 1) 25 25 (dgC zeroD).toArray (0, 0) _ hr Tryz.underlying25 rfl HSZD.out
 refine bodyPost_ret (v := .tuple #[dgV zeroD, .int .i64 420]) ?_ rfl ⟨by rw [HE.out.1, HE.out.2], below_setRow HB1.out (Nat.le_succ _) _⟩
 rw [dgV_agg zeroD]
 simp [results, Tryz.results14, asAddr, hl]
theorem lstK_yes (t : Tr) (p : TrP) (w : World) (h : Hid (TrOk w t p)) (hT : Hid (Tabs w)) (hg : Hid (trG t = true)) :
  Calls Tryz.prog 14 #[trV t p] w fun e w' => e = .returned (.tuple #[dgV (lstK t), .int .i64 (trE t)]) ∧ Below w.heap.size w w' := by
 obtain ⟨d, HD⟩ : ∃ d, Hid (treeD (t.cl.map (lvK t.salt)) = d) := ⟨_, hid rfl⟩
 obtain ⟨P, HP⟩ : ∃ P, Hid (t.cl.map (lvK t.salt) = P) := ⟨_, hid rfl⟩
 have HE : Hid (lstK t = d ∧ trE t = 0) := hid ⟨by unfold lstK; rw [hg.out, ← HD.out]; rfl, trE_yes hg.out⟩
 have HDO : Hid (DgOk d) := hid (by rw [← HD.out]; exact treeD_okD _)
 have HS1 := hid (dgC_info HDO.out)
 have HS2 := hid (dgC_size HDO.out)
 have HSO : Hid (DgOk t.salt) := hid ⟨h.out.len, h.out.bytes⟩
 have HSK := hid (dgC_infoK HSO.out)
 have HNL : Hid (p.n2 ≤ 100000) := hid (by have := trG_cls hg.out; have e := h.out.cl.len; omega)
 have HPN : Hid (P.length ≤ 100000) := hid (by rw [← HP.out, List.length_map]; exact trG_cls hg.out)
 rw [HP.out] at HD
 have hb0 := ((Below.refl _ w).alloc (Nat.le_refl _) (.cells (trC t p).toArray 27)).alloc (by simp) (.cells (dgC zeroD).toArray 25)
 have hr0 := (Below.heap_alloc (w.alloc (.cells (trC t p).toArray 27)) (.cells (dgC zeroD).toArray 25) w.heap.size (by simp)).trans (heap_alloc_new w (.cells (trC t p).toArray 27))
 have hr1 := heap_alloc_new (w.alloc (.cells (trC t p).toArray 27)) (.cells (dgC zeroD).toArray 25)
 rw [World.size_alloc] at hr1
 have HO1 := hid (h.out.below hb0)
 have hT1 := hid (hT.out.below hb0)
 rw [zeroD_cells] at hb0 hr0 HO1 hT1
 conv at hr1 => lhs; rw [zeroD_cells]
 have HB0 := hid hb0
 have HR0 := hid hr0
 have HR1 := hid hr1
 have HIT := hid (trV_info t p h.out.len)
 clear hb0 hr0 hr1
 rw [show trV t p = .agg (trC t p).toArray from rfl]
 go_enter Tryz.func14, Tryz.ntmps14
 go_wp2_with (refine wpList_load_row rfl 27 (.tmp 1) rfl w.heap.size rfl 27 _ (0, 0) _ HR0.out Tryz.underlying27 rfl HIT.out ?_)
 rw [show Value.agg (trC t p).toArray = trV t p from rfl]
 refine (check_any t p _ HO1).mono ?_
 rintro e w1 ⟨rfl, hq1⟩
 have HB1 := hid (HB0.out.trans (hq1.mono HB0.out.size))
 have HR2 := hid (row_kept HR0.out hq1)
 have HR3 := hid (row_kept HR1.out hq1)
 have HO2 := hid (HO1.out.below hq1)
 have hT2 := hid (hT1.out.below hq1)
 clear hq1 HR0 HR1 HO1 hT1 HB0
 rw [HE.out.2]
 go_wp2_with fail
 obtain ⟨W1, hW1⟩ : ∃ W, W = w1 := ⟨_, rfl⟩
 subst hW1
 refine region_flow4 (by kernel_rfl) (by kernel_rfl) (fun i => Nat.beq i 7 || Nat.beq i 8) (fun i => i) (by kernel_rfl) (fun fx => #[trV t p, .pointer (some { block := w.heap.size, off := 0 }), .pointer (some { block := w.heap.size + 1, off := 0 }), fx 8, .int IntKind.i64 0, trV t p, .int IntKind.i64 0, .int IntKind.i64 0, .bool false, undef, undef, fx 0, fx 1, fx 2, fx 3, fx 4, fx 5, fx 6]) (fun i => bif Nat.beq i 8 then Value.int IntKind.i64 0 else undef) (fun L fx w' => (L 7 = false → Below W1.heap.size W1 w')) (fun fi fv _ fw => wLiK w w.heap.size (w.heap.size + 1) t p P d fi fv fw) (fun _ => (Below.refl _ _).drew) ?_ ?_
 ·refine ⟨?_, ?_, ?_, ?_, ?_, ?_, ?_, ?_, ?_, trivial⟩
  all_goals intro L fx w' hC hi hcl hdn hd
  ·have hnd : L 7 = false := nQ hi (fun h => hcl 7 0 h (by kernel_rfl))
   have hb12 := hC hnd
   go_wp2_with fail
   refine (claims_any w').mono ?_
   rintro e w2 ⟨rfl, hq⟩
   go_wp2_with fail
   exact ⟨_, rfl, fun _ => hb12.trans (hq.mono hb12.size), rfl, fun j v t _ _ h => wLiK_below hq j v h⟩
  ·have hnd : L 7 = false := nQ hi (fun h => hcl 7 1 h (by kernel_rfl))
   go_wp2_with fail
   exact ⟨_, rfl, (fun _ => hC hnd), rfl, kP⟩
  ·have h1 : fx 1 = .pointer (some { block := w.heap.size, off := 6 }) := hd.1 rfl
   have hnd : L 7 = false := nQ hi (fun h => hcl 7 2 h (by kernel_rfl))
   have hrow := tr_salt (row_kept HR2.out (hC hnd))
   refine wpList_load_mid rfl 25 (.tmp 12) rfl w.heap.size 6 h1 (dgC t.salt) _ hrow Tryz.underlying25 rfl HSK.out ?_
   clear hd
   go_wp2_with fail
   exact ⟨_, by simp only [upd, h1]; rfl, fun _ => hC hnd, rfl, kP⟩
  ·have hnd : L 7 = false := nQ hi (fun h => hcl 7 3 h (by kernel_rfl))
   go_wp2_with fail
   exact ⟨_, rfl, (fun _ => hC hnd), rfl, kP⟩
  ·have h3 : fx 3 = .pointer (some { block := w.heap.size, off := 5 }) := hd.1 rfl
   have hnd : L 7 = false := nQ hi (fun h => hcl 7 4 h (by kernel_rfl))
   have hcc : w'.cell? ⟨w.heap.size, 5, none⟩ = some (.slice p.A2 p.n2 p.c2) := by rw [cell_of_row _ _ _ _ _ _ (row_kept HR2.out (hC hnd))]; rfl
   go_wp2_with fail
   exact ⟨_, by simp only [upd, h3]; rfl, (fun _ => hC hnd), rfl, kP⟩
  ·have h0 : fx 0 = .agg tabK := hd.1 rfl
   have h2 : fx 2 = dgV t.salt := hd.2.1 rfl
   have h4 : fx 4 = .slice p.A2 p.n2 p.c2 := hd.2.2.1 rfl
   have hnd : L 7 = false := nQ hi (fun h => hcl 7 5 h (by kernel_rfl))
   have hb12 := hC hnd
   have HIK := hid (HO2.out.cl.below hb12)
   have HTK := hid (hT2.out.below hb12)
   go_wp2_with fail
   refine (leavesK t.salt t.cl p.A2 p.n2 p.c2 w' HNL.out HSO HIK HTK).mono ?_
   rintro e w2 ⟨A', n', c', rfl, hin, hq⟩
   rw [HP.out] at hin
   go_wp2_with fail
   exact ⟨Value.slice A' n' c', by simp only [upd, h0, h2, h4]; rfl, fun _ => hb12.trans (hq.mono hb12.size), ⟨_, _, _, rfl, hin⟩, fun j v t _ _ h => wLiK_below hq j v h⟩
  ·have H5 := hid (hd.1 rfl)
   have hnd : L 7 = false := nQ hi (fun h => hcl 7 6 h (by kernel_rfl))
   have hb12 := hC hnd
   obtain ⟨A', n', c', h5, hin⟩ := H5.out
   have HIN := hid hin
   have hnn : n' ≤ 1099511627776 := by have e := hin.len; have := HPN.out; omega
   clear hin
   have HTK := hid (hT2.out.below hb12)
   go_wp2_with fail
   refine (dtree_any n' P A' n' c' w' (Nat.le_refl _) hnn HIN HTK).mono ?_
   rintro e w2 ⟨rfl, hq⟩
   rw [HD.out]
   go_wp2_with fail
   exact ⟨_, by first | rfl | (rw [← h5]; rfl), fun _ => hb12.trans (hq.mono hb12.size), rfl, fun j v t _ _ h => wLiK_below hq j v h⟩
  ·have h6 : fx 6 = dgV d := hd.1 rfl
   have hb21 := hC hi
   have hrow := row_kept HR3.out hb21
   refine wpList_store_row rfl 25 (.tmp 2) (.tmp 17) rfl (w.heap.size + 1) (dgC d).toArray rfl h6 25 _ hrow HS1.out HS2.out (dgC_one _) ?_
   clear hd
   go_wp2_with fail
   refine ⟨undef, by rw [← h6]; rfl, fun h => (updB_self h).elim, ⟨setRow_heap _ _ _ _ _ _ hrow, below_setRow (HB1.out.trans (hb21.mono HB1.out.size)) (by omega) _⟩, fun j v t hj hu h => ?_⟩
   refine wLiK_pure j v ?_ ?_ h <;> intro e <;> subst e
   ·refine absurd hu (not_needed (E := fun i => Nat.beq i 7 || Nat.beq i 8) (j := 5) [6] (by kernel_rfl) (by kernel_rfl) ?_)
    intro m hm hne; simp at hm; subst hm; exact hdn 6 (by kernel_rfl)
   ·rw [hi] at hj; cases hj
  ·go_wp2_with fail
   exact ⟨_, rfl, fun h => hC h, rfl, kP⟩
 ·intro L fo w' hC hS
  have H7 := hid (hS 7 (by decide) rfl)
  have H8 := hid (hS 8 (by decide) rfl)
  have h8 : fo 8 = .int .i64 0 := H8.out
  rw [h8]
  clear hS hC h8 H8
  go_wp2_with fail
  have hl := run_loadVar_row (P := Tryz.prog) w' (w.heap.size + 1) 25 25 (dgC d).toArray (0, 0) _ H7.out.1 Tryz.underlying25 rfl HS1.out
  refine bodyPost_ret (v := .tuple #[dgV d, .int .i64 0]) ?_ rfl ⟨by rw [HE.out.1, HE.out.2], H7.out.2⟩
  rw [dgV_agg d]
  simp [results, Tryz.results14, asAddr, hl]
theorem lstK_any (t : Tr) (p : TrP) (w : World) (h : Hid (TrOk w t p)) (hT : Hid (Tabs w)) :
  Calls Tryz.prog 14 #[trV t p] w fun e w' => e = .returned (.tuple #[dgV (lstK t), .int .i64 (trE t)]) ∧ Below w.heap.size w w' := by
 by_cases hg : trG t = true
 ·exact lstK_yes t p w h hT (hid hg)
 ·exact lstK_no t p w h hT (hid (by simpa using hg))
def rtOf (a b : Int) (x y : List Nat) : Rt := ⟨0, 0, 0, 0, a, b, zeroN, x, y, zeroD, 0, 0⟩
theorem built_rt (a b : Int) (x y : List Nat) (hx : x.length = 32) (hy : y.length = 32) : Tryz.prog.built 43 [(4, .int .i64 a), (5, .int .i64 b), (7, dgV x), (8, dgV y)] = some (rtC (rtOf a b x y)).toArray := by
 rcases x with _ | ⟨x0, x⟩
 ·simp at hx
 rcases x with _ | ⟨x1, x⟩
 ·simp at hx
 rcases x with _ | ⟨x2, x⟩
 ·simp at hx
 rcases x with _ | ⟨x3, x⟩
 ·simp at hx
 rcases x with _ | ⟨x4, x⟩
 ·simp at hx
 rcases x with _ | ⟨x5, x⟩
 ·simp at hx
 rcases x with _ | ⟨x6, x⟩
 ·simp at hx
 rcases x with _ | ⟨x7, x⟩
 ·simp at hx
 rcases x with _ | ⟨x8, x⟩
 ·simp at hx
 rcases x with _ | ⟨x9, x⟩
 ·simp at hx
 rcases x with _ | ⟨x10, x⟩
 ·simp at hx
 rcases x with _ | ⟨x11, x⟩
 ·simp at hx
 rcases x with _ | ⟨x12, x⟩
 ·simp at hx
 rcases x with _ | ⟨x13, x⟩
 ·simp at hx
 rcases x with _ | ⟨x14, x⟩
 ·simp at hx
 rcases x with _ | ⟨x15, x⟩
 ·simp at hx
 rcases x with _ | ⟨x16, x⟩
 ·simp at hx
 rcases x with _ | ⟨x17, x⟩
 ·simp at hx
 rcases x with _ | ⟨x18, x⟩
 ·simp at hx
 rcases x with _ | ⟨x19, x⟩
 ·simp at hx
 rcases x with _ | ⟨x20, x⟩
 ·simp at hx
 rcases x with _ | ⟨x21, x⟩
 ·simp at hx
 rcases x with _ | ⟨x22, x⟩
 ·simp at hx
 rcases x with _ | ⟨x23, x⟩
 ·simp at hx
 rcases x with _ | ⟨x24, x⟩
 ·simp at hx
 rcases x with _ | ⟨x25, x⟩
 ·simp at hx
 rcases x with _ | ⟨x26, x⟩
 ·simp at hx
 rcases x with _ | ⟨x27, x⟩
 ·simp at hx
 rcases x with _ | ⟨x28, x⟩
 ·simp at hx
 rcases x with _ | ⟨x29, x⟩
 ·simp at hx
 rcases x with _ | ⟨x30, x⟩
 ·simp at hx
 rcases x with _ | ⟨x31, x⟩
 ·simp at hx
 rcases x with _ | ⟨xz, x⟩
 rotate_left
 ·simp at hx
 rcases y with _ | ⟨y0, y⟩
 ·simp at hy
 rcases y with _ | ⟨y1, y⟩
 ·simp at hy
 rcases y with _ | ⟨y2, y⟩
 ·simp at hy
 rcases y with _ | ⟨y3, y⟩
 ·simp at hy
 rcases y with _ | ⟨y4, y⟩
 ·simp at hy
 rcases y with _ | ⟨y5, y⟩
 ·simp at hy
 rcases y with _ | ⟨y6, y⟩
 ·simp at hy
 rcases y with _ | ⟨y7, y⟩
 ·simp at hy
 rcases y with _ | ⟨y8, y⟩
 ·simp at hy
 rcases y with _ | ⟨y9, y⟩
 ·simp at hy
 rcases y with _ | ⟨y10, y⟩
 ·simp at hy
 rcases y with _ | ⟨y11, y⟩
 ·simp at hy
 rcases y with _ | ⟨y12, y⟩
 ·simp at hy
 rcases y with _ | ⟨y13, y⟩
 ·simp at hy
 rcases y with _ | ⟨y14, y⟩
 ·simp at hy
 rcases y with _ | ⟨y15, y⟩
 ·simp at hy
 rcases y with _ | ⟨y16, y⟩
 ·simp at hy
 rcases y with _ | ⟨y17, y⟩
 ·simp at hy
 rcases y with _ | ⟨y18, y⟩
 ·simp at hy
 rcases y with _ | ⟨y19, y⟩
 ·simp at hy
 rcases y with _ | ⟨y20, y⟩
 ·simp at hy
 rcases y with _ | ⟨y21, y⟩
 ·simp at hy
 rcases y with _ | ⟨y22, y⟩
 ·simp at hy
 rcases y with _ | ⟨y23, y⟩
 ·simp at hy
 rcases y with _ | ⟨y24, y⟩
 ·simp at hy
 rcases y with _ | ⟨y25, y⟩
 ·simp at hy
 rcases y with _ | ⟨y26, y⟩
 ·simp at hy
 rcases y with _ | ⟨y27, y⟩
 ·simp at hy
 rcases y with _ | ⟨y28, y⟩
 ·simp at hy
 rcases y with _ | ⟨y29, y⟩
 ·simp at hy
 rcases y with _ | ⟨y30, y⟩
 ·simp at hy
 rcases y with _ | ⟨y31, y⟩
 ·simp at hy
 rcases y with _ | ⟨yz, y⟩
 rotate_left
 ·simp at hy
 clear hx hy
 kernel_rfl
theorem wpList_build_rt {w : World} {ops : Array Oper} {rest : List Oper} {o : Oper} {a : Act} {Q : Exit → Act → World → Prop} (hg : o.guard = none) (u4 u5 u6 u7 : Operand)
  (ho : o.op = .build 43 #[(4, u4), (5, u5), (7, u6), (8, u7)]) (m n : Int) (x y : List Nat) (hx : x.length = 32) (hy : y.length = 32)
  (h4 : a.eval u4 = .int .i64 m) (h5 : a.eval u5 = .int .i64 n) (h6 : a.eval u6 = dgV x) (h7 : a.eval u7 = dgV y)
  (h : wpList Tryz.prog ops Q rest (a.put o.dst (.agg (rtC (rtOf m n x y)).toArray)) w) : wpList Tryz.prog ops Q (o :: rest) a w := by
 have e1 : (#[(4, u4), (5, u5), (7, u6), (8, u7)].map fun (i, x) => (i, a.eval x)).toList = [(4, .int .i64 m), (5, .int .i64 n), (7, dgV x), (8, dgV y)] := by simp [h4, h5, h6, h7]
 refine wpList_build hg 43 _ ho (by rw [e1, built_rt m n x y hx hy]; rfl) ?_
 rw [e1, built_rt m n x y hx hy]
 exact h
theorem rtOf_ok {a b : Int} {x y : List Nat} (ha : I64 a) (hb : I64 b) (hx : DgOk x) (hy : DgOk y) : RtOk (rtOf a b x y) := by
 have z : I64 0 := by unfold I64; omega
 exact ⟨z, z, z, z, ha, hb, zeroN_ok, hx, hy, zeroD_ok, z, z⟩
theorem rtC_one (r : Rt) : (rtC r).toArray.all (·.oneCell') = true := by
 rw [Array.all_eq_true_iff_forall_mem]
 intro v hv
 have hv' : v ∈ rtC r := by simpa using hv
 unfold rtC at hv'
 have dg : ∀ l : List Nat, v ∈ dgC l → v.oneCell' = true := fun l h => by
  obtain ⟨x, _, rfl⟩ := List.mem_map.1 h
  rfl
 rcases List.mem_append.1 hv' with h | h
 ·simp only [List.mem_cons, List.not_mem_nil, or_false] at h
  rcases h with rfl | rfl | rfl | rfl | rfl | rfl <;> rfl
 rcases List.mem_append.1 h with h | h
 ·have := ndC_one r.tree
  rw [Array.all_eq_true_iff_forall_mem] at this
  exact this v (by simpa using h)
 rcases List.mem_append.1 h with h | h
 ·exact dg _ h
 rcases List.mem_append.1 h with h | h
 ·exact dg _ h
 rcases List.mem_append.1 h with h | h
 ·exact dg _ h
 ·simp only [List.mem_cons, List.not_mem_nil, or_false] at h
  rcases h with rfl | rfl <;> rfl
theorem few_yes (t : Tr) (p : TrP) (w : World) (h1 : p.n ≤ 12) (h2 : p.n2 ≤ 12) :
  Calls Tryz.prog 9 #[trV t p] w fun e w' => e = .returned (.bool true) ∧ Below w.heap.size w w' := by
 have HB0 := hid ((Below.refl _ w).alloc (Nat.le_refl _) (.cells (trC t p).toArray 27))
 have HR0 := heap_alloc_new w (.cells (trC t p).toArray 27)
 have d1 : decide ((p.n : Int) ≤ 12) = true := eQ (by omega)
 have d2 : decide ((p.n2 : Int) ≤ 12) = true := eQ (by omega)
 have k4 : (w.alloc (.cells (trC t p).toArray 27)).cell? ⟨w.heap.size, 4, none⟩ = some (.slice p.A p.n p.c) := by rw [cell_of_row _ _ _ _ _ _ HR0]; rfl
 have k5 : (w.alloc (.cells (trC t p).toArray 27)).cell? ⟨w.heap.size, 5, none⟩ = some (.slice p.A2 p.n2 p.c2) := by rw [cell_of_row _ _ _ _ _ _ HR0]; rfl
 clear HR0
 rw [show trV t p = .agg (trC t p).toArray from rfl]
 go_enter Tryz.func9, Tryz.ntmps9
 go_wp2_with fail
 go_ret
 exact ⟨rfl, HB0.out⟩
theorem few_no (t : Tr) (p : TrP) (w : World) (h : ¬ (p.n ≤ 12 ∧ p.n2 ≤ 12)) :
  Calls Tryz.prog 9 #[trV t p] w fun e w' => e = .returned (.bool false) ∧ Below w.heap.size w w' := by
 have HB0 := hid ((Below.refl _ w).alloc (Nat.le_refl _) (.cells (trC t p).toArray 27))
 have HR0 := heap_alloc_new w (.cells (trC t p).toArray 27)
 have k4 : (w.alloc (.cells (trC t p).toArray 27)).cell? ⟨w.heap.size, 4, none⟩ = some (.slice p.A p.n p.c) := by rw [cell_of_row _ _ _ _ _ _ HR0]; rfl
 have k5 : (w.alloc (.cells (trC t p).toArray 27)).cell? ⟨w.heap.size, 5, none⟩ = some (.slice p.A2 p.n2 p.c2) := by rw [cell_of_row _ _ _ _ _ _ HR0]; rfl
 clear HR0
 rw [show trV t p = .agg (trC t p).toArray from rfl]
 by_cases h1 : p.n ≤ 12
 ·have d1 : decide ((p.n : Int) ≤ 12) = true := eQ (by omega)
  have d2 : decide ((p.n2 : Int) ≤ 12) = false := dQ (by omega)
  go_enter Tryz.func9, Tryz.ntmps9
  go_wp2_with fail
  go_ret
  exact ⟨rfl, HB0.out⟩
 ·have d1 : decide ((p.n : Int) ≤ 12) = false := dQ (by omega)
  go_enter Tryz.func9, Tryz.ntmps9
  go_wp2_with fail
  go_ret
  exact ⟨rfl, HB0.out⟩
theorem InD.setRow {w : World} {A : Option Addr} {n c b : Nat} {cs : Array Value} {ls : List Dg} (h : InD w A n c ls) (hne : ∀ g, (Value.slice A n c).ownBlock = some g → g ≠ b) : InD (w.setRow b cs) A n c ls :=
 ⟨h.len, h.cap, h.none_, h.ok, fun h0 => by
  obtain ⟨g, off, e, hg, hr⟩ := h.rd h0
  subst e
  refine ⟨g, off, rfl, by rw [setRow_size]; exact hg, fun j v hj => ?_⟩
  rw [World.cell?_of_block (a := ⟨g, off + j, none⟩) (setRow_other w b g cs (hne g rfl))]
  exact hr j v hj⟩
theorem InD.setRow2 {w : World} {A : Option Addr} {n c b : Nat} {cs : Array Value} {ls : List Dg} (h : InD w A n c ls) (hne : 0 < ls.length → ∀ g off, A = some ⟨g, off, none⟩ → g ≠ b) : InD (w.setRow b cs) A n c ls :=
 ⟨h.len, h.cap, h.none_, h.ok, fun h0 => by
  obtain ⟨g, off, e, hg, hr⟩ := h.rd h0
  refine ⟨g, off, e, by rw [setRow_size]; exact hg, fun j v hj => ?_⟩
  rw [World.cell?_of_block (a := ⟨g, off + j, none⟩) (setRow_other w b g cs (hne h0 g off e))]
  exact hr j v hj⟩
def wShL (W0 : World) (bt : Nat) (br : Nat) (t : Tr) (p : TrP) (g : Nat) (off : Nat) (jn : Nat) (x : Ln) (s : List Nat) (A4 : Option Addr) (n4 : Nat) (c4 : Nat) (PP : List Dg) : Nat → Value → World → Prop
 | 0, fv, _ => fv = .agg tabL
 | 1, fv, _ => fv = .pointer (some { block := bt, off := 6 })
 | 2, fv, _ => fv = dgV t.salt
 | 3, fv, _ => fv = .slice (some ⟨g, off, none⟩) p.n p.c
 | 4, fv, _ => fv = .int .i64 (jn : Nat)
 | 5, fv, _ => fv = .pointer (some ⟨g, off + jn * 5, none⟩)
 | 6, fv, _ => fv = lnV x
 | 7, fv, _ => fv = dgV s
 | 8, fv, _ => fv = .slice A4 n4 c4
 | 9, fv, _ => fv = .int .i64 0
 | 10, fv, fw => fw.heap[br]? = some (.cells (dgC s).toArray 25 (0, 0)) ∧ Below W0.heap.size W0 fw ∧ InD fw A4 n4 c4 PP
 | 11, fv, _ => fv = .slice A4 n4 c4
 | 12, fv, _ => fv = .int .i64 0
 | _, _, _ => True
theorem wShL_below {W0 : World} {bt : Nat} {br : Nat} {t : Tr} {p : TrP} {g : Nat} {off : Nat} {jn : Nat} {x : Ln} {s : List Nat} {A4 : Option Addr} {n4 : Nat} {c4 : Nat} {PP : List Dg} {w w' : World} (hb : Below w.heap.size w w') : ∀ j v, wShL W0 bt br t p g off jn x s A4 n4 c4 PP j v w → wShL W0 bt br t p g off jn x s A4 n4 c4 PP j v w'
 | 0, v, h => h
 | 1, v, h => h
 | 2, v, h => h
 | 3, v, h => h
 | 4, v, h => h
 | 5, v, h => h
 | 6, v, h => h
 | 7, v, h => h
 | 8, v, h => h
 | 9, v, h => h
 | 10, v, h => ⟨row_kept h.1 hb, h.2.1.trans (hb.mono h.2.1.size), h.2.2.below hb⟩
 | 11, v, h => h
 | 12, v, h => h
 | n + 13, v, h => trivial
theorem wShL_pure {W0 : World} {bt : Nat} {br : Nat} {t : Tr} {p : TrP} {g : Nat} {off : Nat} {jn : Nat} {x : Ln} {s : List Nat} {A4 : Option Addr} {n4 : Nat} {c4 : Nat} {PP : List Dg} {w w' : World} : ∀ j v, j ≠ 10 → wShL W0 bt br t p g off jn x s A4 n4 c4 PP j v w → wShL W0 bt br t p g off jn x s A4 n4 c4 PP j v w'
 | 0, v, _, h => h
 | 1, v, _, h => h
 | 2, v, _, h => h
 | 3, v, _, h => h
 | 4, v, _, h => h
 | 5, v, _, h => h
 | 6, v, _, h => h
 | 7, v, _, h => h
 | 8, v, _, h => h
 | 9, v, _, h => h
 | 10, v, hh, _ => absurd rfl hh
 | 11, v, _, h => h
 | 12, v, _, h => h
 | n + 13, v, _, h => trivial
theorem showL_0 (t : Tr) (p : TrP) (i : Int) (w : World) (h : Hid (TrOk w t p)) (hT : Hid (Tabs w)) (hg : Hid (trG t = false)) :
  Calls Tryz.prog 60 #[.agg tabL, trV t p, .slice p.A p.n p.c, .int .i64 i] w fun e w' => e = .returned (.tuple #[dgV zeroD, .slice none 0 0, .int .i64 420]) ∧ Below w.heap.size w w' := by
 have HE : Hid (trE t = 420) := hid (trE_no hg.out)
 obtain ⟨t1, t2, t3, t4⟩ := rows_three w tabL (trC t p).toArray 86 27 (.cells (dgC zeroD).toArray 25)
 have HO1 := hid (h.out.below t1)
 have hT1 := hid (hT.out.below t1)
 rw [zeroD_cells] at t1 t2 t3 HO1 hT1
 conv at t4 => lhs; rw [zeroD_cells]
 have HB0 := hid t1
 have HR0 := hid t2
 have HR1 := hid t3
 have HRZ := hid t4
 have HIT := hid (trV_info t p h.out.len)
 have HSZD := hid (dgC_info zeroD_ok)
 have HSZ2 := hid (dgC_size zeroD_ok)
 clear t1 t2 t3 t4
 rw [show trV t p = .agg (trC t p).toArray from rfl]
 go_enter Tryz.func60, Tryz.ntmps60
 go_wp2_with (refine wpList_load_row rfl 27 (.tmp 5) rfl (w.heap.size + 1) rfl 27 _ (0, 0) _ HR1.out Tryz.underlying27 rfl HIT.out ?_)
 rw [show Value.agg (trC t p).toArray = trV t p from rfl]
 refine (check_any t p _ HO1).mono ?_
 rintro e w1 ⟨rfl, hq1⟩
 have HB1 := hid (HB0.out.trans (hq1.mono HB0.out.size))
 have HX0 := hid (row_kept HR0.out hq1)
 have HX1 := hid (row_kept HR1.out hq1)
 have HXZ := hid (row_kept HRZ.out hq1)
 have HO2 := hid (HO1.out.below hq1)
 have hT2 := hid (hT1.out.below hq1)
 clear hq1 HR0 HR1 HRZ HO1 hT1 HB0
 rw [HE.out]
 go_wp2_with (first | (refine wpList_load_row rfl 25 (.tmp 8) rfl (w.heap.size + 1 + 1) rfl 25 _ (0, 0) _ HXZ.out Tryz.underlying25 rfl HSZD.out ?_) | (refine wpList_store_row rfl 25 (.tmp 8) (.tmp 16) rfl (w.heap.size + 1 + 1) (dgC zeroD).toArray ?ha ?hb 25 _ HXZ.out HSZD.out HSZ2.out (dgC_one zeroD) ?_))
 all_goals first | rfl | skip
 have hr := setRow_heap w1 (w.heap.size + 1 + 1) _ (dgC zeroD).toArray _ _ HXZ.out
 have hl := run_loadVar_row (P := Tryz.prog) (World.setRow w1 (w.heap.size + 1 + 1) (dgC zeroD).toArray) (w.heap.size + 1 + 1) 25 25 (dgC zeroD).toArray (0, 0) _ hr Tryz.underlying25 rfl HSZD.out
 refine bodyPost_ret (v := .tuple #[dgV zeroD, .slice none 0 0, .int .i64 420]) ?_ rfl ⟨rfl, below_setRow HB1.out (by omega) _⟩
 rw [dgV_agg zeroD]
 simp [results, Tryz.results60, asAddr, hl]
theorem showL_1 (t : Tr) (p : TrP) (i : Int) (w : World) (h : Hid (TrOk w t p)) (hT : Hid (Tabs w)) (hg : Hid (trG t = true)) (hi : i < 0) :
  Calls Tryz.prog 60 #[.agg tabL, trV t p, .slice p.A p.n p.c, .int .i64 i] w fun e w' => e = .returned (.tuple #[dgV zeroD, .slice none 0 0, .int .i64 420]) ∧ Below w.heap.size w w' := by
 have HE : Hid (trE t = 0) := hid (trE_yes hg.out)
 have d0 : decide (i < 0) = true := eQ hi
 obtain ⟨t1, t2, t3, t4⟩ := rows_three w tabL (trC t p).toArray 86 27 (.cells (dgC zeroD).toArray 25)
 have HO1 := hid (h.out.below t1)
 have hT1 := hid (hT.out.below t1)
 rw [zeroD_cells] at t1 t2 t3 HO1 hT1
 conv at t4 => lhs; rw [zeroD_cells]
 have HB0 := hid t1
 have HR0 := hid t2
 have HR1 := hid t3
 have HRZ := hid t4
 have HIT := hid (trV_info t p h.out.len)
 have HSZD := hid (dgC_info zeroD_ok)
 have HSZ2 := hid (dgC_size zeroD_ok)
 clear t1 t2 t3 t4
 rw [show trV t p = .agg (trC t p).toArray from rfl]
 go_enter Tryz.func60, Tryz.ntmps60
 go_wp2_with (refine wpList_load_row rfl 27 (.tmp 5) rfl (w.heap.size + 1) rfl 27 _ (0, 0) _ HR1.out Tryz.underlying27 rfl HIT.out ?_)
 rw [show Value.agg (trC t p).toArray = trV t p from rfl]
 refine (check_any t p _ HO1).mono ?_
 rintro e w1 ⟨rfl, hq1⟩
 have HB1 := hid (HB0.out.trans (hq1.mono HB0.out.size))
 have HX0 := hid (row_kept HR0.out hq1)
 have HX1 := hid (row_kept HR1.out hq1)
 have HXZ := hid (row_kept HRZ.out hq1)
 have HO2 := hid (HO1.out.below hq1)
 have hT2 := hid (hT1.out.below hq1)
 clear hq1 HR0 HR1 HRZ HO1 hT1 HB0
 rw [HE.out]
 go_wp2_with (first | (refine wpList_load_row rfl 25 (.tmp 8) rfl (w.heap.size + 1 + 1) rfl 25 _ (0, 0) _ HXZ.out Tryz.underlying25 rfl HSZD.out ?_) | (refine wpList_store_row rfl 25 (.tmp 8) (.tmp 26) rfl (w.heap.size + 1 + 1) (dgC zeroD).toArray ?ha ?hb 25 _ HXZ.out HSZD.out HSZ2.out (dgC_one zeroD) ?_))
 all_goals first | rfl | skip
 have hr := setRow_heap w1 (w.heap.size + 1 + 1) _ (dgC zeroD).toArray _ _ HXZ.out
 have hl := run_loadVar_row (P := Tryz.prog) (World.setRow w1 (w.heap.size + 1 + 1) (dgC zeroD).toArray) (w.heap.size + 1 + 1) 25 25 (dgC zeroD).toArray (0, 0) _ hr Tryz.underlying25 rfl HSZD.out
 refine bodyPost_ret (v := .tuple #[dgV zeroD, .slice none 0 0, .int .i64 420]) ?_ rfl ⟨rfl, below_setRow HB1.out (by omega) _⟩
 rw [dgV_agg zeroD]
 simp [results, Tryz.results60, asAddr, hl]
theorem showL_2 (t : Tr) (p : TrP) (i : Int) (w : World) (h : Hid (TrOk w t p)) (hT : Hid (Tabs w)) (hg : Hid (trG t = true)) (hi : 0 ≤ i) (hi2 : (p.n : Int) ≤ i) :
  Calls Tryz.prog 60 #[.agg tabL, trV t p, .slice p.A p.n p.c, .int .i64 i] w fun e w' => e = .returned (.tuple #[dgV zeroD, .slice none 0 0, .int .i64 420]) ∧ Below w.heap.size w w' := by
 have HE : Hid (trE t = 0) := hid (trE_yes hg.out)
 have d0 : decide (i < 0) = false := dQ (by omega)
 have d1 : decide ((p.n : Int) ≤ i) = true := eQ hi2
 obtain ⟨t1, t2, t3, t4⟩ := rows_three w tabL (trC t p).toArray 86 27 (.cells (dgC zeroD).toArray 25)
 have HO1 := hid (h.out.below t1)
 have hT1 := hid (hT.out.below t1)
 rw [zeroD_cells] at t1 t2 t3 HO1 hT1
 conv at t4 => lhs; rw [zeroD_cells]
 have HB0 := hid t1
 have HR0 := hid t2
 have HR1 := hid t3
 have HRZ := hid t4
 have HIT := hid (trV_info t p h.out.len)
 have HSZD := hid (dgC_info zeroD_ok)
 have HSZ2 := hid (dgC_size zeroD_ok)
 clear t1 t2 t3 t4
 rw [show trV t p = .agg (trC t p).toArray from rfl]
 go_enter Tryz.func60, Tryz.ntmps60
 go_wp2_with (refine wpList_load_row rfl 27 (.tmp 5) rfl (w.heap.size + 1) rfl 27 _ (0, 0) _ HR1.out Tryz.underlying27 rfl HIT.out ?_)
 rw [show Value.agg (trC t p).toArray = trV t p from rfl]
 refine (check_any t p _ HO1).mono ?_
 rintro e w1 ⟨rfl, hq1⟩
 have HB1 := hid (HB0.out.trans (hq1.mono HB0.out.size))
 have HX0 := hid (row_kept HR0.out hq1)
 have HX1 := hid (row_kept HR1.out hq1)
 have HXZ := hid (row_kept HRZ.out hq1)
 have HO2 := hid (HO1.out.below hq1)
 have hT2 := hid (hT1.out.below hq1)
 clear hq1 HR0 HR1 HRZ HO1 hT1 HB0
 rw [HE.out]
 go_wp2_with (first | (refine wpList_load_row rfl 25 (.tmp 8) rfl (w.heap.size + 1 + 1) rfl 25 _ (0, 0) _ HXZ.out Tryz.underlying25 rfl HSZD.out ?_) | (refine wpList_store_row rfl 25 (.tmp 8) (.tmp 26) rfl (w.heap.size + 1 + 1) (dgC zeroD).toArray ?ha ?hb 25 _ HXZ.out HSZD.out HSZ2.out (dgC_one zeroD) ?_))
 all_goals first | rfl | skip
 have hr := setRow_heap w1 (w.heap.size + 1 + 1) _ (dgC zeroD).toArray _ _ HXZ.out
 have hl := run_loadVar_row (P := Tryz.prog) (World.setRow w1 (w.heap.size + 1 + 1) (dgC zeroD).toArray) (w.heap.size + 1 + 1) 25 25 (dgC zeroD).toArray (0, 0) _ hr Tryz.underlying25 rfl HSZD.out
 refine bodyPost_ret (v := .tuple #[dgV zeroD, .slice none 0 0, .int .i64 420]) ?_ rfl ⟨rfl, below_setRow HB1.out (by omega) _⟩
 rw [dgV_agg zeroD]
 simp [results, Tryz.results60, asAddr, hl]
theorem showL_yes (t : Tr) (p : TrP) (j : Nat) (x : Ln) (w : World) (h : Hid (TrOk w t p)) (hT : Hid (Tabs w)) (hg : Hid (trG t = true)) (hj : j < p.n) (HX : Hid (t.ln[j]? = some x)) :
  Calls Tryz.prog 60 #[.agg tabL, trV t p, .slice p.A p.n p.c, .int .i64 (j : Nat)] w fun e w' => ∃ A' n' c', e = .returned (.tuple #[dgV (saltN t.salt 1 (nLn x)), .slice A' n' c', .int .i64 0]) ∧ InD w' A' n' c' (pathD (t.ln.map (lvL t.salt)) j) ∧ Below w.heap.size w w' ∧ ∀ g, (Value.slice A' n' c').ownBlock = some g → w.heap.size ≤ g := by
 have HE : Hid (trE t = 0) := hid (trE_yes hg.out)
 obtain ⟨s, HS⟩ : ∃ s, Hid (saltN t.salt 1 (nLn x) = s) := ⟨_, hid rfl⟩
 have HSO : Hid (DgOk s) := hid (by rw [← HS.out]; exact saltN_ok _ _ _)
 have HS1 := hid (dgC_info HSO.out)
 have HS2 := hid (dgC_size HSO.out)
 obtain ⟨P, HP⟩ : ∃ P, Hid (t.ln.map (lvL t.salt) = P) := ⟨_, hid rfl⟩
 obtain ⟨PP, HPP⟩ : ∃ PP, Hid (pathD P j = PP) := ⟨_, hid rfl⟩
 have HLN := hid (show t.ln.length = p.n from h.out.ln.len)
 have HPL : Hid (P.length = p.n) := hid (by rw [← HP.out, List.length_map, HLN.out])
 have HNL : Hid (p.n ≤ 100000) := hid (by have := trG_lns hg.out; rw [HLN.out] at this; exact this)
 have HSA : Hid (DgOk t.salt) := hid ⟨h.out.len, h.out.bytes⟩
 have HSK := hid (dgC_infoK HSA.out)
 have HITB := hid tabL_info4
 have HII := hid (lnC_infoL4 x)
 obtain ⟨g, off, eA, hgl, hr⟩ := h.out.ln.rd (by rw [HLN.out]; omega)
 have HR : Hid (w.rangeAt g (off + j * 5) (lnC x)) := hid (by
  obtain ⟨hjl, hx⟩ := List.getElem?_eq_some_iff.1 HX.out
  have := range_elem lnC_len4 hr j hjl
  rwa [hx] at this)
 have d0 : decide ((j : Int) < 0) = false := dQ (by omega)
 have d1 : decide ((p.n : Int) ≤ (j : Int)) = false := dQ (by omega)
 have d2 : decide (j < p.n) = true := eQ hj
 rw [HP.out, HPP.out, HS.out]
 clear hr HX
 obtain ⟨t1, t2, t3, t4⟩ := rows_three w tabL (trC t p).toArray 86 27 (.cells (dgC zeroD).toArray 25)
 have HO1 := hid (h.out.below t1)
 have hT1 := hid (hT.out.below t1)
 rw [zeroD_cells] at t1 t2 t3 HO1 hT1
 conv at t4 => lhs; rw [zeroD_cells]
 have HB0 := hid t1
 have HR0 := hid t2
 have HR1 := hid t3
 have HRZ := hid t4
 have HIT := hid (trV_info t p h.out.len)
 have HSZD := hid (dgC_info zeroD_ok)
 have HSZ2 := hid (dgC_size zeroD_ok)
 clear t1 t2 t3 t4
 rw [show trV t p = .agg (trC t p).toArray from rfl]
 rw [eA]
 go_enter Tryz.func60, Tryz.ntmps60
 go_wp2_with (refine wpList_load_row rfl 27 (.tmp 5) rfl (w.heap.size + 1) rfl 27 _ (0, 0) _ HR1.out Tryz.underlying27 rfl HIT.out ?_)
 rw [show Value.agg (trC t p).toArray = trV t p from rfl]
 refine (check_any t p _ HO1).mono ?_
 rintro e w1 ⟨rfl, hq1⟩
 have HB1 := hid (HB0.out.trans (hq1.mono HB0.out.size))
 have HX0 := hid (row_kept HR0.out hq1)
 have HX1 := hid (row_kept HR1.out hq1)
 have HXZ := hid (row_kept HRZ.out hq1)
 have HO2 := hid (HO1.out.below hq1)
 have hT2 := hid (hT1.out.below hq1)
 clear hq1 HR0 HR1 HRZ HO1 hT1 HB0
 rw [HE.out]
 have HIL : Hid (InLn w1 (some ⟨g, off, none⟩) p.n p.c t.ln) := hid (by have := HO2.out.ln; rwa [eA] at this)
 go_wp2_with (first | (refine wpList_load_row rfl 86 (.tmp 4) rfl w.heap.size rfl 86 _ (0, 0) _ HX0.out Tryz.underlying86 rfl HITB.out ?_) | (refine wpList_load_mid rfl 25 (.tmp 29) rfl (w.heap.size + 1) 6 rfl (dgC t.salt) _ (tr_salt HX1.out) Tryz.underlying25 rfl HSK.out ?_))
 refine (leavesL t.salt t.ln (some ⟨g, off, none⟩) p.n p.c _ HNL.out HSA HIL hT2).mono ?_
 rintro e w2 ⟨A3, n3, c3, rfl, hin3, hq2⟩
 rw [HP.out] at hin3
 have HN3 : Hid (n3 = p.n) := hid (by rw [← hin3.len]; exact HPL.out)
 have HIN3 := hid hin3
 have hT3 := hid (hT2.out.below hq2)
 have HY0 := hid (row_kept HX0.out hq2)
 have HY1 := hid (row_kept HX1.out hq2)
 have HYZ := hid (row_kept HXZ.out hq2)
 have HB2 := hid (HB1.out.trans (hq2.mono HB1.out.size))
 clear hin3 hq2
 go_wp2_with fail
 refine (dpath_yes P A3 n3 c3 j _ (by rw [HN3.out]; exact HNL.out) (by rw [HN3.out]; exact hj) HIN3 hT3).mono ?_
 rintro e W1 ⟨A4, n4, c4, rfl, hin4, hq3, hown⟩
 rw [HPP.out] at hin4
 have HIN4 := hid hin4
 have hT4 := hid (hT3.out.below hq3)
 have HZ0 := hid (row_kept HY0.out hq3)
 have HZ1 := hid (row_kept HY1.out hq3)
 have HZZ := hid (row_kept HYZ.out hq3)
 have HOW : Hid (∀ g, (Value.slice A4 n4 c4).ownBlock = some g → g ≠ w.heap.size + 1 + 1) := hid (fun g hg e => by
  have h1 := hown g hg
  have h2 := (Array.getElem?_eq_some_iff.1 HYZ.out).1
  omega)
 have HWN : Hid (∀ g, (Value.slice A4 n4 c4).ownBlock = some g → w.heap.size ≤ g) := hid (fun g hg => Nat.le_trans HB2.out.size (hown g hg))
 have HB3 := hid (HB2.out.trans (hq3.mono HB2.out.size))
 have HR3 := hid (rangeAt_below HR.out hgl HB3.out)
 have HGL : Hid (g < W1.heap.size) := hid (Nat.lt_of_lt_of_le hgl HB3.out.size)
 clear hin4 hq3 hown HY0 HY1 HYZ HX0 HX1 HXZ
 go_wp2_with fail
 refine region_flow4 (by kernel_rfl) (by kernel_rfl) (fun i => Nat.beq i 10 || Nat.beq i 11 || Nat.beq i 12) (fun i => i) (by kernel_rfl) (fun fx => #[.agg tabL, trV t p, .slice (some { block := g, off := off }) p.n p.c, .int IntKind.i64 ↑j, .pointer (some { block := w.heap.size, off := 0 }), .pointer (some { block := w.heap.size + 1, off := 0 }), undef, undef, .pointer (some { block := w.heap.size + 1 + 1, off := 0 }), fx 11, fx 12, .int IntKind.i64 0, trV t p, .int IntKind.i64 0, .int IntKind.i64 0, .bool false, undef, undef, .int IntKind.i64 ↑j, .bool false, .bool false, .int IntKind.i64 ↑j, .slice (some { block := g, off := off }) p.n p.c, .int IntKind.i64 ↑p.n, .bool false, .bool false, undef, .tuple #[.slice A4 n4 c4, .int IntKind.i64 0], .agg tabL, .pointer (some { block := w.heap.size + 1, off := 6 }), .agg (dgC t.salt).toArray, .slice (some { block := g, off := off }) p.n p.c, .slice A3 n3 c3, .int IntKind.i64 ↑j, .tuple #[.slice A4 n4 c4, .int IntKind.i64 0], .slice A4 n4 c4, .int IntKind.i64 0, fx 0, fx 1, fx 2, fx 3, fx 4, fx 5, fx 6, fx 7, fx 8, fx 9]) (fun i => bif Nat.beq i 11 then Value.slice A4 n4 c4 else bif Nat.beq i 12 then Value.int IntKind.i64 0 else undef) (fun L fx w' => (L 11 = false → fx 11 = .slice A4 n4 c4) ∧ (L 12 = false → fx 12 = .int .i64 0) ∧ (L 10 = false → Below W1.heap.size W1 w')) (fun fi fv _ fw => wShL w (w.heap.size + 1) (w.heap.size + 1 + 1) t p g off j x s A4 n4 c4 PP fi fv fw) ⟨fun _ => rfl, fun _ => rfl, fun _ => (Below.refl _ _).drew⟩ ?_ ?_
 ·refine ⟨?_, ?_, ?_, ?_, ?_, ?_, ?_, ?_, ?_, ?_, ?_, ?_, ?_, trivial⟩
  all_goals intro L fx w' hC hi hcl hdn hd
  ·have hnd : L 10 = false := nQ hi (fun h => hcl 10 0 h (by kernel_rfl))
   have hrow := row_kept HZ0.out (hC.2.2 hnd)
   refine wpList_load_row rfl 86 (.tmp 4) rfl w.heap.size rfl 86 _ (0, 0) _ hrow Tryz.underlying86 rfl HITB.out ?_
   clear hd
   go_wp2_with fail
   exact ⟨_, rfl, ⟨fun h => hC.1 h, fun h => hC.2.1 h, fun h => hC.2.2 h⟩, rfl, kP⟩
  ·have hnd : L 10 = false := nQ hi (fun h => hcl 10 1 h (by kernel_rfl))
   go_wp2_with fail
   exact ⟨_, rfl, ⟨fun h => hC.1 h, fun h => hC.2.1 h, fun h => hC.2.2 h⟩, rfl, kP⟩
  ·have h1 : fx 1 = .pointer (some { block := w.heap.size + 1, off := 6 }) := hd.1 rfl
   have hnd : L 10 = false := nQ hi (fun h => hcl 10 2 h (by kernel_rfl))
   have hrow := tr_salt (row_kept HZ1.out (hC.2.2 hnd))
   refine wpList_load_mid rfl 25 (.tmp 38) rfl (w.heap.size + 1) 6 h1 (dgC t.salt) _ hrow Tryz.underlying25 rfl HSK.out ?_
   clear hd
   go_wp2_with fail
   exact ⟨_, by simp only [upd, h1]; rfl, ⟨fun h => hC.1 h, fun h => hC.2.1 h, fun h => hC.2.2 h⟩, rfl, kP⟩
  ·have hnd : L 10 = false := nQ hi (fun h => hcl 10 3 h (by kernel_rfl))
   go_wp2_with fail
   exact ⟨_, rfl, ⟨fun h => hC.1 h, fun h => hC.2.1 h, fun h => hC.2.2 h⟩, rfl, kP⟩
  ·have hnd : L 10 = false := nQ hi (fun h => hcl 10 4 h (by kernel_rfl))
   go_wp2_with fail
   exact ⟨_, rfl, ⟨fun h => hC.1 h, fun h => hC.2.1 h, fun h => hC.2.2 h⟩, rfl, kP⟩
  ·have h3 : fx 3 = .slice (some ⟨g, off, none⟩) p.n p.c := hd.1 rfl
   have h4 : fx 4 = .int .i64 (j : Nat) := hd.2.1 rfl
   have hnd : L 10 = false := nQ hi (fun h => hcl 10 5 h (by kernel_rfl))
   go_wp2_with fail
   exact ⟨_, by simp only [upd, h3, h4]; rfl, ⟨fun h => hC.1 h, fun h => hC.2.1 h, fun h => hC.2.2 h⟩, rfl, kP⟩
  ·have h5 : fx 5 = .pointer (some ⟨g, off + j * 5, none⟩) := hd.1 rfl
   have hnd : L 10 = false := nQ hi (fun h => hcl 10 6 h (by kernel_rfl))
   have hrow := rangeAt_below HR3.out HGL.out (hC.2.2 hnd)
   refine wpList_load_mid rfl 45 (.tmp 42) rfl g (off + j * 5) h5 (lnC x) _ hrow Tryz.underlying45 rfl HII.out ?_
   clear hd
   go_wp2_with fail
   exact ⟨_, by simp only [upd, h5]; rfl, ⟨fun h => hC.1 h, fun h => hC.2.1 h, fun h => hC.2.2 h⟩, rfl, kP⟩
  ·have h0 : fx 0 = .agg tabL := hd.1 rfl
   have h2 : fx 2 = dgV t.salt := hd.2.1 rfl
   have h6 : fx 6 = lnV x := hd.2.2.1 rfl
   have hnd : L 10 = false := nQ hi (fun h => hcl 10 7 h (by kernel_rfl))
   have hb12 := hC.2.2 hnd
   have HTK := hid (hT4.out.below hb12)
   go_wp2_with fail
   refine (saltL t.salt x w' HSA HTK).mono ?_
   rintro e w2 ⟨rfl, hq⟩
   rw [HS.out]
   go_wp2_with fail
   exact ⟨_, by simp only [upd, h0, h2, h6]; rfl, ⟨fun h => hC.1 h, fun h => hC.2.1 h, fun h => hb12.trans (hq.mono hb12.size)⟩, rfl, fun j v t _ _ h => wShL_below hq j v h⟩
  ·have hN : L 11 = false := nQ hi (fun h => hcl 11 8 h (by kernel_rfl))
   have he := hC.1 hN
   go_wp2_with fail
   exact ⟨_, by simp only [upd, he]; rfl, ⟨fun h => hC.1 h, fun h => hC.2.1 h, fun h => hC.2.2 h⟩, rfl, kP⟩
  ·have hN : L 12 = false := nQ hi (fun h => hcl 12 9 h (by kernel_rfl))
   have he := hC.2.1 hN
   go_wp2_with fail
   exact ⟨_, by simp only [upd, he]; rfl, ⟨fun h => hC.1 h, fun h => hC.2.1 h, fun h => hC.2.2 h⟩, rfl, kP⟩
  ·have h7 : fx 7 = dgV s := hd.1 rfl
   have hb21 := hC.2.2 hi
   have hrow := row_kept HZZ.out hb21
   refine wpList_store_row rfl 25 (.tmp 8) (.tmp 44) rfl (w.heap.size + 1 + 1) (dgC s).toArray rfl h7 25 _ hrow HS1.out HS2.out (dgC_one _) ?_
   clear hd
   go_wp2_with fail
   refine ⟨undef, by rw [← h7]; rfl, ⟨fun h => hC.1 h, fun h => hC.2.1 h, fun h => (updB_self h).elim⟩, ⟨setRow_heap _ _ _ _ _ _ hrow, below_setRow (HB3.out.trans (hb21.mono HB3.out.size)) (by omega) _, (HIN4.out.below hb21).setRow HOW.out⟩, fun j v t hj hu h => ?_⟩
   refine wShL_pure j v ?_ h
   intro e; subst e; rw [hi] at hj; cases hj
  ·have h8 : fx 8 = .slice A4 n4 c4 := hd.1 rfl
   go_wp2_with fail
   exact ⟨_, by simp only [upd, h8]; rfl, ⟨fun h => (updB_self h).elim, fun h => hC.2.1 h, fun h => hC.2.2 h⟩, rfl, kP⟩
  ·have h9 : fx 9 = .int .i64 0 := hd.1 rfl
   go_wp2_with fail
   exact ⟨_, by simp only [upd, h9]; rfl, ⟨fun h => hC.1 h, fun h => (updB_self h).elim, fun h => hC.2.2 h⟩, rfl, kP⟩
 ·intro L fo w' hC hS
  have H10 := hid (hS 10 (by decide) rfl)
  have H11 := hid (hS 11 (by decide) rfl)
  have H12 := hid (hS 12 (by decide) rfl)
  have h11 : fo 11 = .slice A4 n4 c4 := H11.out
  have h12 : fo 12 = .int .i64 0 := H12.out
  rw [h11, h12]
  clear hS hC h11 h12 H11 H12
  go_wp2_with fail
  have hl := run_loadVar_row (P := Tryz.prog) w' (w.heap.size + 1 + 1) 25 25 (dgC s).toArray (0, 0) _ H10.out.1 Tryz.underlying25 rfl HS1.out
  refine bodyPost_ret (v := .tuple #[dgV s, .slice A4 n4 c4, .int .i64 0]) ?_ rfl ⟨A4, n4, c4, rfl, H10.out.2.2, H10.out.2.1, HWN.out⟩
  rw [dgV_agg s]
  simp [results, Tryz.results60, asAddr, hl]
def wShK (W0 : World) (bt : Nat) (br : Nat) (t : Tr) (p : TrP) (g : Nat) (off : Nat) (jn : Nat) (x : Cl) (s : List Nat) (A4 : Option Addr) (n4 : Nat) (c4 : Nat) (PP : List Dg) : Nat → Value → World → Prop
 | 0, fv, _ => fv = .agg tabK
 | 1, fv, _ => fv = .pointer (some { block := bt, off := 6 })
 | 2, fv, _ => fv = dgV t.salt
 | 3, fv, _ => fv = .slice (some ⟨g, off, none⟩) p.n2 p.c2
 | 4, fv, _ => fv = .int .i64 (jn : Nat)
 | 5, fv, _ => fv = .pointer (some ⟨g, off + jn * 3, none⟩)
 | 6, fv, _ => fv = clV x
 | 7, fv, _ => fv = dgV s
 | 8, fv, _ => fv = .slice A4 n4 c4
 | 9, fv, _ => fv = .int .i64 0
 | 10, fv, fw => fw.heap[br]? = some (.cells (dgC s).toArray 25 (0, 0)) ∧ Below W0.heap.size W0 fw ∧ InD fw A4 n4 c4 PP
 | 11, fv, _ => fv = .slice A4 n4 c4
 | 12, fv, _ => fv = .int .i64 0
 | _, _, _ => True
theorem wShK_below {W0 : World} {bt : Nat} {br : Nat} {t : Tr} {p : TrP} {g : Nat} {off : Nat} {jn : Nat} {x : Cl} {s : List Nat} {A4 : Option Addr} {n4 : Nat} {c4 : Nat} {PP : List Dg} {w w' : World} (hb : Below w.heap.size w w') : ∀ j v, wShK W0 bt br t p g off jn x s A4 n4 c4 PP j v w → wShK W0 bt br t p g off jn x s A4 n4 c4 PP j v w'
 | 0, v, h => h
 | 1, v, h => h
 | 2, v, h => h
 | 3, v, h => h
 | 4, v, h => h
 | 5, v, h => h
 | 6, v, h => h
 | 7, v, h => h
 | 8, v, h => h
 | 9, v, h => h
 | 10, v, h => ⟨row_kept h.1 hb, h.2.1.trans (hb.mono h.2.1.size), h.2.2.below hb⟩
 | 11, v, h => h
 | 12, v, h => h
 | n + 13, v, h => trivial
theorem wShK_pure {W0 : World} {bt : Nat} {br : Nat} {t : Tr} {p : TrP} {g : Nat} {off : Nat} {jn : Nat} {x : Cl} {s : List Nat} {A4 : Option Addr} {n4 : Nat} {c4 : Nat} {PP : List Dg} {w w' : World} : ∀ j v, j ≠ 10 → wShK W0 bt br t p g off jn x s A4 n4 c4 PP j v w → wShK W0 bt br t p g off jn x s A4 n4 c4 PP j v w'
 | 0, v, _, h => h
 | 1, v, _, h => h
 | 2, v, _, h => h
 | 3, v, _, h => h
 | 4, v, _, h => h
 | 5, v, _, h => h
 | 6, v, _, h => h
 | 7, v, _, h => h
 | 8, v, _, h => h
 | 9, v, _, h => h
 | 10, v, hh, _ => absurd rfl hh
 | 11, v, _, h => h
 | 12, v, _, h => h
 | n + 13, v, _, h => trivial
theorem showK_0 (t : Tr) (p : TrP) (i : Int) (w : World) (h : Hid (TrOk w t p)) (hT : Hid (Tabs w)) (hg : Hid (trG t = false)) :
  Calls Tryz.prog 65 #[.agg tabK, trV t p, .slice p.A2 p.n2 p.c2, .int .i64 i] w fun e w' => e = .returned (.tuple #[dgV zeroD, .slice none 0 0, .int .i64 420]) ∧ Below w.heap.size w w' := by
 have HE : Hid (trE t = 420) := hid (trE_no hg.out)
 obtain ⟨t1, t2, t3, t4⟩ := rows_three w tabK (trC t p).toArray 95 27 (.cells (dgC zeroD).toArray 25)
 have HO1 := hid (h.out.below t1)
 have hT1 := hid (hT.out.below t1)
 rw [zeroD_cells] at t1 t2 t3 HO1 hT1
 conv at t4 => lhs; rw [zeroD_cells]
 have HB0 := hid t1
 have HR0 := hid t2
 have HR1 := hid t3
 have HRZ := hid t4
 have HIT := hid (trV_info t p h.out.len)
 have HSZD := hid (dgC_info zeroD_ok)
 have HSZ2 := hid (dgC_size zeroD_ok)
 clear t1 t2 t3 t4
 rw [show trV t p = .agg (trC t p).toArray from rfl]
 go_enter Tryz.func65, Tryz.ntmps65
 go_wp2_with (refine wpList_load_row rfl 27 (.tmp 5) rfl (w.heap.size + 1) rfl 27 _ (0, 0) _ HR1.out Tryz.underlying27 rfl HIT.out ?_)
 rw [show Value.agg (trC t p).toArray = trV t p from rfl]
 refine (check_any t p _ HO1).mono ?_
 rintro e w1 ⟨rfl, hq1⟩
 have HB1 := hid (HB0.out.trans (hq1.mono HB0.out.size))
 have HX0 := hid (row_kept HR0.out hq1)
 have HX1 := hid (row_kept HR1.out hq1)
 have HXZ := hid (row_kept HRZ.out hq1)
 have HO2 := hid (HO1.out.below hq1)
 have hT2 := hid (hT1.out.below hq1)
 clear hq1 HR0 HR1 HRZ HO1 hT1 HB0
 rw [HE.out]
 go_wp2_with (first | (refine wpList_load_row rfl 25 (.tmp 8) rfl (w.heap.size + 1 + 1) rfl 25 _ (0, 0) _ HXZ.out Tryz.underlying25 rfl HSZD.out ?_) | (refine wpList_store_row rfl 25 (.tmp 8) (.tmp 16) rfl (w.heap.size + 1 + 1) (dgC zeroD).toArray ?ha ?hb 25 _ HXZ.out HSZD.out HSZ2.out (dgC_one zeroD) ?_))
 all_goals first | rfl | skip
 have hr := setRow_heap w1 (w.heap.size + 1 + 1) _ (dgC zeroD).toArray _ _ HXZ.out
 have hl := run_loadVar_row (P := Tryz.prog) (World.setRow w1 (w.heap.size + 1 + 1) (dgC zeroD).toArray) (w.heap.size + 1 + 1) 25 25 (dgC zeroD).toArray (0, 0) _ hr Tryz.underlying25 rfl HSZD.out
 refine bodyPost_ret (v := .tuple #[dgV zeroD, .slice none 0 0, .int .i64 420]) ?_ rfl ⟨rfl, below_setRow HB1.out (by omega) _⟩
 rw [dgV_agg zeroD]
 simp [results, Tryz.results65, asAddr, hl]
theorem showK_1 (t : Tr) (p : TrP) (i : Int) (w : World) (h : Hid (TrOk w t p)) (hT : Hid (Tabs w)) (hg : Hid (trG t = true)) (hi : i < 0) :
  Calls Tryz.prog 65 #[.agg tabK, trV t p, .slice p.A2 p.n2 p.c2, .int .i64 i] w fun e w' => e = .returned (.tuple #[dgV zeroD, .slice none 0 0, .int .i64 420]) ∧ Below w.heap.size w w' := by
 have HE : Hid (trE t = 0) := hid (trE_yes hg.out)
 have d0 : decide (i < 0) = true := eQ hi
 obtain ⟨t1, t2, t3, t4⟩ := rows_three w tabK (trC t p).toArray 95 27 (.cells (dgC zeroD).toArray 25)
 have HO1 := hid (h.out.below t1)
 have hT1 := hid (hT.out.below t1)
 rw [zeroD_cells] at t1 t2 t3 HO1 hT1
 conv at t4 => lhs; rw [zeroD_cells]
 have HB0 := hid t1
 have HR0 := hid t2
 have HR1 := hid t3
 have HRZ := hid t4
 have HIT := hid (trV_info t p h.out.len)
 have HSZD := hid (dgC_info zeroD_ok)
 have HSZ2 := hid (dgC_size zeroD_ok)
 clear t1 t2 t3 t4
 rw [show trV t p = .agg (trC t p).toArray from rfl]
 go_enter Tryz.func65, Tryz.ntmps65
 go_wp2_with (refine wpList_load_row rfl 27 (.tmp 5) rfl (w.heap.size + 1) rfl 27 _ (0, 0) _ HR1.out Tryz.underlying27 rfl HIT.out ?_)
 rw [show Value.agg (trC t p).toArray = trV t p from rfl]
 refine (check_any t p _ HO1).mono ?_
 rintro e w1 ⟨rfl, hq1⟩
 have HB1 := hid (HB0.out.trans (hq1.mono HB0.out.size))
 have HX0 := hid (row_kept HR0.out hq1)
 have HX1 := hid (row_kept HR1.out hq1)
 have HXZ := hid (row_kept HRZ.out hq1)
 have HO2 := hid (HO1.out.below hq1)
 have hT2 := hid (hT1.out.below hq1)
 clear hq1 HR0 HR1 HRZ HO1 hT1 HB0
 rw [HE.out]
 go_wp2_with (first | (refine wpList_load_row rfl 25 (.tmp 8) rfl (w.heap.size + 1 + 1) rfl 25 _ (0, 0) _ HXZ.out Tryz.underlying25 rfl HSZD.out ?_) | (refine wpList_store_row rfl 25 (.tmp 8) (.tmp 26) rfl (w.heap.size + 1 + 1) (dgC zeroD).toArray ?ha ?hb 25 _ HXZ.out HSZD.out HSZ2.out (dgC_one zeroD) ?_))
 all_goals first | rfl | skip
 have hr := setRow_heap w1 (w.heap.size + 1 + 1) _ (dgC zeroD).toArray _ _ HXZ.out
 have hl := run_loadVar_row (P := Tryz.prog) (World.setRow w1 (w.heap.size + 1 + 1) (dgC zeroD).toArray) (w.heap.size + 1 + 1) 25 25 (dgC zeroD).toArray (0, 0) _ hr Tryz.underlying25 rfl HSZD.out
 refine bodyPost_ret (v := .tuple #[dgV zeroD, .slice none 0 0, .int .i64 420]) ?_ rfl ⟨rfl, below_setRow HB1.out (by omega) _⟩
 rw [dgV_agg zeroD]
 simp [results, Tryz.results65, asAddr, hl]
theorem showK_2 (t : Tr) (p : TrP) (i : Int) (w : World) (h : Hid (TrOk w t p)) (hT : Hid (Tabs w)) (hg : Hid (trG t = true)) (hi : 0 ≤ i) (hi2 : (p.n2 : Int) ≤ i) :
  Calls Tryz.prog 65 #[.agg tabK, trV t p, .slice p.A2 p.n2 p.c2, .int .i64 i] w fun e w' => e = .returned (.tuple #[dgV zeroD, .slice none 0 0, .int .i64 420]) ∧ Below w.heap.size w w' := by
 have HE : Hid (trE t = 0) := hid (trE_yes hg.out)
 have d0 : decide (i < 0) = false := dQ (by omega)
 have d1 : decide ((p.n2 : Int) ≤ i) = true := eQ hi2
 obtain ⟨t1, t2, t3, t4⟩ := rows_three w tabK (trC t p).toArray 95 27 (.cells (dgC zeroD).toArray 25)
 have HO1 := hid (h.out.below t1)
 have hT1 := hid (hT.out.below t1)
 rw [zeroD_cells] at t1 t2 t3 HO1 hT1
 conv at t4 => lhs; rw [zeroD_cells]
 have HB0 := hid t1
 have HR0 := hid t2
 have HR1 := hid t3
 have HRZ := hid t4
 have HIT := hid (trV_info t p h.out.len)
 have HSZD := hid (dgC_info zeroD_ok)
 have HSZ2 := hid (dgC_size zeroD_ok)
 clear t1 t2 t3 t4
 rw [show trV t p = .agg (trC t p).toArray from rfl]
 go_enter Tryz.func65, Tryz.ntmps65
 go_wp2_with (refine wpList_load_row rfl 27 (.tmp 5) rfl (w.heap.size + 1) rfl 27 _ (0, 0) _ HR1.out Tryz.underlying27 rfl HIT.out ?_)
 rw [show Value.agg (trC t p).toArray = trV t p from rfl]
 refine (check_any t p _ HO1).mono ?_
 rintro e w1 ⟨rfl, hq1⟩
 have HB1 := hid (HB0.out.trans (hq1.mono HB0.out.size))
 have HX0 := hid (row_kept HR0.out hq1)
 have HX1 := hid (row_kept HR1.out hq1)
 have HXZ := hid (row_kept HRZ.out hq1)
 have HO2 := hid (HO1.out.below hq1)
 have hT2 := hid (hT1.out.below hq1)
 clear hq1 HR0 HR1 HRZ HO1 hT1 HB0
 rw [HE.out]
 go_wp2_with (first | (refine wpList_load_row rfl 25 (.tmp 8) rfl (w.heap.size + 1 + 1) rfl 25 _ (0, 0) _ HXZ.out Tryz.underlying25 rfl HSZD.out ?_) | (refine wpList_store_row rfl 25 (.tmp 8) (.tmp 26) rfl (w.heap.size + 1 + 1) (dgC zeroD).toArray ?ha ?hb 25 _ HXZ.out HSZD.out HSZ2.out (dgC_one zeroD) ?_))
 all_goals first | rfl | skip
 have hr := setRow_heap w1 (w.heap.size + 1 + 1) _ (dgC zeroD).toArray _ _ HXZ.out
 have hl := run_loadVar_row (P := Tryz.prog) (World.setRow w1 (w.heap.size + 1 + 1) (dgC zeroD).toArray) (w.heap.size + 1 + 1) 25 25 (dgC zeroD).toArray (0, 0) _ hr Tryz.underlying25 rfl HSZD.out
 refine bodyPost_ret (v := .tuple #[dgV zeroD, .slice none 0 0, .int .i64 420]) ?_ rfl ⟨rfl, below_setRow HB1.out (by omega) _⟩
 rw [dgV_agg zeroD]
 simp [results, Tryz.results65, asAddr, hl]
theorem showK_yes (t : Tr) (p : TrP) (j : Nat) (x : Cl) (w : World) (h : Hid (TrOk w t p)) (hT : Hid (Tabs w)) (hg : Hid (trG t = true)) (hj : j < p.n2) (HX : Hid (t.cl[j]? = some x)) :
  Calls Tryz.prog 65 #[.agg tabK, trV t p, .slice p.A2 p.n2 p.c2, .int .i64 (j : Nat)] w fun e w' => ∃ A' n' c', e = .returned (.tuple #[dgV (saltN t.salt 2 (nCl x)), .slice A' n' c', .int .i64 0]) ∧ InD w' A' n' c' (pathD (t.cl.map (lvK t.salt)) j) ∧ Below w.heap.size w w' ∧ ∀ g, (Value.slice A' n' c').ownBlock = some g → w.heap.size ≤ g := by
 have HE : Hid (trE t = 0) := hid (trE_yes hg.out)
 obtain ⟨s, HS⟩ : ∃ s, Hid (saltN t.salt 2 (nCl x) = s) := ⟨_, hid rfl⟩
 have HSO : Hid (DgOk s) := hid (by rw [← HS.out]; exact saltN_ok _ _ _)
 have HS1 := hid (dgC_info HSO.out)
 have HS2 := hid (dgC_size HSO.out)
 obtain ⟨P, HP⟩ : ∃ P, Hid (t.cl.map (lvK t.salt) = P) := ⟨_, hid rfl⟩
 obtain ⟨PP, HPP⟩ : ∃ PP, Hid (pathD P j = PP) := ⟨_, hid rfl⟩
 have HLN := hid (show t.cl.length = p.n2 from h.out.cl.len)
 have HPL : Hid (P.length = p.n2) := hid (by rw [← HP.out, List.length_map, HLN.out])
 have HNL : Hid (p.n2 ≤ 100000) := hid (by have := trG_cls hg.out; rw [HLN.out] at this; exact this)
 have HSA : Hid (DgOk t.salt) := hid ⟨h.out.len, h.out.bytes⟩
 have HSK := hid (dgC_infoK HSA.out)
 have HITB := hid tabK_info4
 have HII := hid (clC_infoL4 x)
 obtain ⟨g, off, eA, hgl, hr⟩ := h.out.cl.rd (by rw [HLN.out]; omega)
 have HR : Hid (w.rangeAt g (off + j * 3) (clC x)) := hid (by
  obtain ⟨hjl, hx⟩ := List.getElem?_eq_some_iff.1 HX.out
  have := range_elem clC_len4 hr j hjl
  rwa [hx] at this)
 have d0 : decide ((j : Int) < 0) = false := dQ (by omega)
 have d1 : decide ((p.n2 : Int) ≤ (j : Int)) = false := dQ (by omega)
 have d2 : decide (j < p.n2) = true := eQ hj
 rw [HP.out, HPP.out, HS.out]
 clear hr HX
 obtain ⟨t1, t2, t3, t4⟩ := rows_three w tabK (trC t p).toArray 95 27 (.cells (dgC zeroD).toArray 25)
 have HO1 := hid (h.out.below t1)
 have hT1 := hid (hT.out.below t1)
 rw [zeroD_cells] at t1 t2 t3 HO1 hT1
 conv at t4 => lhs; rw [zeroD_cells]
 have HB0 := hid t1
 have HR0 := hid t2
 have HR1 := hid t3
 have HRZ := hid t4
 have HIT := hid (trV_info t p h.out.len)
 have HSZD := hid (dgC_info zeroD_ok)
 have HSZ2 := hid (dgC_size zeroD_ok)
 clear t1 t2 t3 t4
 rw [show trV t p = .agg (trC t p).toArray from rfl]
 rw [eA]
 go_enter Tryz.func65, Tryz.ntmps65
 go_wp2_with (refine wpList_load_row rfl 27 (.tmp 5) rfl (w.heap.size + 1) rfl 27 _ (0, 0) _ HR1.out Tryz.underlying27 rfl HIT.out ?_)
 rw [show Value.agg (trC t p).toArray = trV t p from rfl]
 refine (check_any t p _ HO1).mono ?_
 rintro e w1 ⟨rfl, hq1⟩
 have HB1 := hid (HB0.out.trans (hq1.mono HB0.out.size))
 have HX0 := hid (row_kept HR0.out hq1)
 have HX1 := hid (row_kept HR1.out hq1)
 have HXZ := hid (row_kept HRZ.out hq1)
 have HO2 := hid (HO1.out.below hq1)
 have hT2 := hid (hT1.out.below hq1)
 clear hq1 HR0 HR1 HRZ HO1 hT1 HB0
 rw [HE.out]
 have HIL : Hid (InCl w1 (some ⟨g, off, none⟩) p.n2 p.c2 t.cl) := hid (by have := HO2.out.cl; rwa [eA] at this)
 go_wp2_with (first | (refine wpList_load_row rfl 95 (.tmp 4) rfl w.heap.size rfl 95 _ (0, 0) _ HX0.out Tryz.underlying95 rfl HITB.out ?_) | (refine wpList_load_mid rfl 25 (.tmp 29) rfl (w.heap.size + 1) 6 rfl (dgC t.salt) _ (tr_salt HX1.out) Tryz.underlying25 rfl HSK.out ?_))
 refine (leavesK t.salt t.cl (some ⟨g, off, none⟩) p.n2 p.c2 _ HNL.out HSA HIL hT2).mono ?_
 rintro e w2 ⟨A3, n3, c3, rfl, hin3, hq2⟩
 rw [HP.out] at hin3
 have HN3 : Hid (n3 = p.n2) := hid (by rw [← hin3.len]; exact HPL.out)
 have HIN3 := hid hin3
 have hT3 := hid (hT2.out.below hq2)
 have HY0 := hid (row_kept HX0.out hq2)
 have HY1 := hid (row_kept HX1.out hq2)
 have HYZ := hid (row_kept HXZ.out hq2)
 have HB2 := hid (HB1.out.trans (hq2.mono HB1.out.size))
 clear hin3 hq2
 go_wp2_with fail
 refine (dpath_yes P A3 n3 c3 j _ (by rw [HN3.out]; exact HNL.out) (by rw [HN3.out]; exact hj) HIN3 hT3).mono ?_
 rintro e W1 ⟨A4, n4, c4, rfl, hin4, hq3, hown⟩
 rw [HPP.out] at hin4
 have HIN4 := hid hin4
 have hT4 := hid (hT3.out.below hq3)
 have HZ0 := hid (row_kept HY0.out hq3)
 have HZ1 := hid (row_kept HY1.out hq3)
 have HZZ := hid (row_kept HYZ.out hq3)
 have HOW : Hid (∀ g, (Value.slice A4 n4 c4).ownBlock = some g → g ≠ w.heap.size + 1 + 1) := hid (fun g hg e => by
  have h1 := hown g hg
  have h2 := (Array.getElem?_eq_some_iff.1 HYZ.out).1
  omega)
 have HWN : Hid (∀ g, (Value.slice A4 n4 c4).ownBlock = some g → w.heap.size ≤ g) := hid (fun g hg => Nat.le_trans HB2.out.size (hown g hg))
 have HB3 := hid (HB2.out.trans (hq3.mono HB2.out.size))
 have HR3 := hid (rangeAt_below HR.out hgl HB3.out)
 have HGL : Hid (g < W1.heap.size) := hid (Nat.lt_of_lt_of_le hgl HB3.out.size)
 clear hin4 hq3 hown HY0 HY1 HYZ HX0 HX1 HXZ
 go_wp2_with fail
 refine region_flow4 (by kernel_rfl) (by kernel_rfl) (fun i => Nat.beq i 10 || Nat.beq i 11 || Nat.beq i 12) (fun i => i) (by kernel_rfl) (fun fx => #[.agg tabK, trV t p, .slice (some { block := g, off := off }) p.n2 p.c2, .int IntKind.i64 ↑j, .pointer (some { block := w.heap.size, off := 0 }), .pointer (some { block := w.heap.size + 1, off := 0 }), undef, undef, .pointer (some { block := w.heap.size + 1 + 1, off := 0 }), fx 11, fx 12, .int IntKind.i64 0, trV t p, .int IntKind.i64 0, .int IntKind.i64 0, .bool false, undef, undef, .int IntKind.i64 ↑j, .bool false, .bool false, .int IntKind.i64 ↑j, .slice (some { block := g, off := off }) p.n2 p.c2, .int IntKind.i64 ↑p.n2, .bool false, .bool false, undef, .tuple #[.slice A4 n4 c4, .int IntKind.i64 0], .agg tabK, .pointer (some { block := w.heap.size + 1, off := 6 }), .agg (dgC t.salt).toArray, .slice (some { block := g, off := off }) p.n2 p.c2, .slice A3 n3 c3, .int IntKind.i64 ↑j, .tuple #[.slice A4 n4 c4, .int IntKind.i64 0], .slice A4 n4 c4, .int IntKind.i64 0, fx 0, fx 1, fx 2, fx 3, fx 4, fx 5, fx 6, fx 7, fx 8, fx 9]) (fun i => bif Nat.beq i 11 then Value.slice A4 n4 c4 else bif Nat.beq i 12 then Value.int IntKind.i64 0 else undef) (fun L fx w' => (L 11 = false → fx 11 = .slice A4 n4 c4) ∧ (L 12 = false → fx 12 = .int .i64 0) ∧ (L 10 = false → Below W1.heap.size W1 w')) (fun fi fv _ fw => wShK w (w.heap.size + 1) (w.heap.size + 1 + 1) t p g off j x s A4 n4 c4 PP fi fv fw) ⟨fun _ => rfl, fun _ => rfl, fun _ => (Below.refl _ _).drew⟩ ?_ ?_
 ·refine ⟨?_, ?_, ?_, ?_, ?_, ?_, ?_, ?_, ?_, ?_, ?_, ?_, ?_, trivial⟩
  all_goals intro L fx w' hC hi hcl hdn hd
  ·have hnd : L 10 = false := nQ hi (fun h => hcl 10 0 h (by kernel_rfl))
   have hrow := row_kept HZ0.out (hC.2.2 hnd)
   refine wpList_load_row rfl 95 (.tmp 4) rfl w.heap.size rfl 95 _ (0, 0) _ hrow Tryz.underlying95 rfl HITB.out ?_
   clear hd
   go_wp2_with fail
   exact ⟨_, rfl, ⟨fun h => hC.1 h, fun h => hC.2.1 h, fun h => hC.2.2 h⟩, rfl, kP⟩
  ·have hnd : L 10 = false := nQ hi (fun h => hcl 10 1 h (by kernel_rfl))
   go_wp2_with fail
   exact ⟨_, rfl, ⟨fun h => hC.1 h, fun h => hC.2.1 h, fun h => hC.2.2 h⟩, rfl, kP⟩
  ·have h1 : fx 1 = .pointer (some { block := w.heap.size + 1, off := 6 }) := hd.1 rfl
   have hnd : L 10 = false := nQ hi (fun h => hcl 10 2 h (by kernel_rfl))
   have hrow := tr_salt (row_kept HZ1.out (hC.2.2 hnd))
   refine wpList_load_mid rfl 25 (.tmp 38) rfl (w.heap.size + 1) 6 h1 (dgC t.salt) _ hrow Tryz.underlying25 rfl HSK.out ?_
   clear hd
   go_wp2_with fail
   exact ⟨_, by simp only [upd, h1]; rfl, ⟨fun h => hC.1 h, fun h => hC.2.1 h, fun h => hC.2.2 h⟩, rfl, kP⟩
  ·have hnd : L 10 = false := nQ hi (fun h => hcl 10 3 h (by kernel_rfl))
   go_wp2_with fail
   exact ⟨_, rfl, ⟨fun h => hC.1 h, fun h => hC.2.1 h, fun h => hC.2.2 h⟩, rfl, kP⟩
  ·have hnd : L 10 = false := nQ hi (fun h => hcl 10 4 h (by kernel_rfl))
   go_wp2_with fail
   exact ⟨_, rfl, ⟨fun h => hC.1 h, fun h => hC.2.1 h, fun h => hC.2.2 h⟩, rfl, kP⟩
  ·have h3 : fx 3 = .slice (some ⟨g, off, none⟩) p.n2 p.c2 := hd.1 rfl
   have h4 : fx 4 = .int .i64 (j : Nat) := hd.2.1 rfl
   have hnd : L 10 = false := nQ hi (fun h => hcl 10 5 h (by kernel_rfl))
   go_wp2_with fail
   exact ⟨_, by simp only [upd, h3, h4]; rfl, ⟨fun h => hC.1 h, fun h => hC.2.1 h, fun h => hC.2.2 h⟩, rfl, kP⟩
  ·have h5 : fx 5 = .pointer (some ⟨g, off + j * 3, none⟩) := hd.1 rfl
   have hnd : L 10 = false := nQ hi (fun h => hcl 10 6 h (by kernel_rfl))
   have hrow := rangeAt_below HR3.out HGL.out (hC.2.2 hnd)
   refine wpList_load_mid rfl 56 (.tmp 42) rfl g (off + j * 3) h5 (clC x) _ hrow Tryz.underlying56 rfl HII.out ?_
   clear hd
   go_wp2_with fail
   exact ⟨_, by simp only [upd, h5]; rfl, ⟨fun h => hC.1 h, fun h => hC.2.1 h, fun h => hC.2.2 h⟩, rfl, kP⟩
  ·have h0 : fx 0 = .agg tabK := hd.1 rfl
   have h2 : fx 2 = dgV t.salt := hd.2.1 rfl
   have h6 : fx 6 = clV x := hd.2.2.1 rfl
   have hnd : L 10 = false := nQ hi (fun h => hcl 10 7 h (by kernel_rfl))
   have hb12 := hC.2.2 hnd
   have HTK := hid (hT4.out.below hb12)
   go_wp2_with fail
   refine (saltK t.salt x w' HSA HTK).mono ?_
   rintro e w2 ⟨rfl, hq⟩
   rw [HS.out]
   go_wp2_with fail
   exact ⟨_, by simp only [upd, h0, h2, h6]; rfl, ⟨fun h => hC.1 h, fun h => hC.2.1 h, fun h => hb12.trans (hq.mono hb12.size)⟩, rfl, fun j v t _ _ h => wShK_below hq j v h⟩
  ·have hN : L 11 = false := nQ hi (fun h => hcl 11 8 h (by kernel_rfl))
   have he := hC.1 hN
   go_wp2_with fail
   exact ⟨_, by simp only [upd, he]; rfl, ⟨fun h => hC.1 h, fun h => hC.2.1 h, fun h => hC.2.2 h⟩, rfl, kP⟩
  ·have hN : L 12 = false := nQ hi (fun h => hcl 12 9 h (by kernel_rfl))
   have he := hC.2.1 hN
   go_wp2_with fail
   exact ⟨_, by simp only [upd, he]; rfl, ⟨fun h => hC.1 h, fun h => hC.2.1 h, fun h => hC.2.2 h⟩, rfl, kP⟩
  ·have h7 : fx 7 = dgV s := hd.1 rfl
   have hb21 := hC.2.2 hi
   have hrow := row_kept HZZ.out hb21
   refine wpList_store_row rfl 25 (.tmp 8) (.tmp 44) rfl (w.heap.size + 1 + 1) (dgC s).toArray rfl h7 25 _ hrow HS1.out HS2.out (dgC_one _) ?_
   clear hd
   go_wp2_with fail
   refine ⟨undef, by rw [← h7]; rfl, ⟨fun h => hC.1 h, fun h => hC.2.1 h, fun h => (updB_self h).elim⟩, ⟨setRow_heap _ _ _ _ _ _ hrow, below_setRow (HB3.out.trans (hb21.mono HB3.out.size)) (by omega) _, (HIN4.out.below hb21).setRow HOW.out⟩, fun j v t hj hu h => ?_⟩
   refine wShK_pure j v ?_ h
   intro e; subst e; rw [hi] at hj; cases hj
  ·have h8 : fx 8 = .slice A4 n4 c4 := hd.1 rfl
   go_wp2_with fail
   exact ⟨_, by simp only [upd, h8]; rfl, ⟨fun h => (updB_self h).elim, fun h => hC.2.1 h, fun h => hC.2.2 h⟩, rfl, kP⟩
  ·have h9 : fx 9 = .int .i64 0 := hd.1 rfl
   go_wp2_with fail
   exact ⟨_, by simp only [upd, h9]; rfl, ⟨fun h => hC.1 h, fun h => (updB_self h).elim, fun h => hC.2.2 h⟩, rfl, kP⟩
 ·intro L fo w' hC hS
  have H10 := hid (hS 10 (by decide) rfl)
  have H11 := hid (hS 11 (by decide) rfl)
  have H12 := hid (hS 12 (by decide) rfl)
  have h11 : fo 11 = .slice A4 n4 c4 := H11.out
  have h12 : fo 12 = .int .i64 0 := H12.out
  rw [h11, h12]
  clear hS hC h11 h12 H11 H12
  go_wp2_with fail
  have hl := run_loadVar_row (P := Tryz.prog) w' (w.heap.size + 1 + 1) 25 25 (dgC s).toArray (0, 0) _ H10.out.1 Tryz.underlying25 rfl HS1.out
  refine bodyPost_ret (v := .tuple #[dgV s, .slice A4 n4 c4, .int .i64 0]) ?_ rfl ⟨A4, n4, c4, rfl, H10.out.2.2, H10.out.2.1, HWN.out⟩
  rw [dgV_agg s]
  simp [results, Tryz.results65, asAddr, hl]
end Go.Proofs.YtmfmgeapecapiaaGreatDoor
