/- DiscloseCheckSpec: for every transcript Check, Nodes, Listed and Claimed of the program are those of the reference. No conditions. -/
import Derived.Test.YtmfmgeapecapiaaGreatDoorCS12
import Derived.Test.YtmfmgeapecapiaaGreatDoorCS17
import Derived.Test.YtmfmgeapecapiaaGreatDoorCS8
import Derived.Test.YtmfmgeapecapiaaGreatDoorCS2
import Derived.Test.YtmfmgeapecapiaaGreatDoorCS10
import Derived.Test.YtmfmgeapecapiaaGreatDoorCS4
import Derived.Test.YtmfmgeapecapiaaGreatDoorCards
import Derived.Test.YtmfmgeapecapiaaGreatDoorTie
import Derived.Lib.SmallJoins
set_option maxHeartbeats 16000001
namespace Go.Proofs.YtmfmgeapecapiaaGreatDoor.discloseCheckSpec
open Go.ChangeShapes Go.WideShapes Go.ChangeAt Go.RowKit SzSha SzTree
set_option linter.unusedVariables false
set_option maxRecDepth 100000
def ndsL (t : Tr) : List Nd := if trG t then t.ln.map (ndL t.salt) else []
theorem inN_nil (w : World) : InN w none 0 0 [] := ⟨rfl, Nat.le_refl _, (fun _ => rfl), (fun x hx => by cases hx), fun h1 => by simp at h1⟩
theorem nodes_x (t : Tr) (p : TrP) (w : World) (h : Hid (TrOk w t p)) (hT : Hid (Tabs w)) :
  Calls Tryz.prog 10 #[trV t p] w fun e w' => ∃ A' n' c', e = .returned (.tuple #[.slice A' n' c', .int .i64 (trE t)]) ∧ InN w' A' n' c' (ndsL t) ∧ Below w.heap.size w w' := by
 cases hg : trG t with
 | true =>
  rw [trE_yes hg, show ndsL t = t.ln.map (ndL t.salt) from by unfold ndsL; rw [hg]; rfl]
  exact nodes_yes t p w h hT (Lib.hid hg)
 | false =>
  rw [trE_no hg, show ndsL t = [] from by unfold ndsL; rw [hg]; rfl]
  refine (nodes_no t p w h hT (Lib.hid hg)).mono ?_
  rintro e w2 ⟨rfl, hq⟩
  exact ⟨_, _, _, rfl, inN_nil _, hq⟩
theorem rnodes_x (t : Tr) (p : TrP) (w : World) (h : Hid (TrOk w t p)) :
  Calls Tryz.prog 11 #[trV t p] w fun e w' => ∃ A' n' c', e = .returned (.tuple #[.slice A' n' c', .int .i64 (trE t)]) ∧ InN w' A' n' c' (ndsL t) ∧ Below w.heap.size w w' := by
 cases hg : trG t with
 | true =>
  rw [trE_yes hg, show ndsL t = t.ln.map (ndL t.salt) from by unfold ndsL; rw [hg]; rfl]
  exact rnodes_yes t p w h (Lib.hid hg)
 | false =>
  rw [trE_no hg, show ndsL t = [] from by unfold ndsL; rw [hg]; rfl]
  refine (rnodes_no t p w h (Lib.hid hg)).mono ?_
  rintro e w2 ⟨rfl, hq⟩
  exact ⟨_, _, _, rfl, inN_nil _, hq⟩
theorem big (t : Tr) (p : TrP) (w : World) (h : Hid (TrOk w t p)) (hT : Hid (Tabs w)) (hf : ¬ (p.n ≤ 12 ∧ p.n2 ≤ 12)) :
  Calls Tryz.prog 3 #[trV t p] w fun e w' => e = .returned (.bool true) ∧ Below w.heap.size w w' := by
 have HIT : Hid ((Tryz.prog.info? 27).map (·.size) = some (trC t p).toArray.size) := Lib.hid (trV_info t p h.out.len)
 have hb0 := (Below.refl _ w).alloc (Nat.le_refl _) (.cells (trC t p).toArray 27)
 have RT0 := Lib.hid (heap_alloc_new w (.cells (trC t p).toArray 27))
 have KO0 := Lib.hid (h.out.below hb0)
 have KT0 := Lib.hid (hT.out.below hb0)
 have HB0 := Lib.hid hb0
 clear hb0
 rw [show trV t p = .agg (trC t p).toArray from rfl]
 go_enter Tryz.func3, Tryz.ntmps3
 go_wp2_with fail
 refine (sane42 _ KT0).mono ?_
 rintro e U1 ⟨rfl, hq⟩
 have HB2 := Lib.hid (HB0.out.trans (hq.mono HB0.out.size))
 have RT2 := Lib.hid (row_kept RT0.out hq)
 have KO2 := Lib.hid (KO0.out.below hq)
 have KT2 := Lib.hid (KT0.out.below hq)
 clear hq HB0 RT0 KO0 KT0
 go_wp2_with (refine wpList_load_row rfl 27 (.tmp 1) rfl (w.heap.size) rfl 27 _ (0, 0) _ RT2.out Tryz.underlying27 rfl HIT.out ?_)
 rw [show Value.agg (trC t p).toArray = trV t p from rfl]
 refine (few_no t p _ hf).mono ?_
 rintro e U3 ⟨rfl, hq⟩
 have HB4 := Lib.hid (HB2.out.trans (hq.mono HB2.out.size))
 have RT4 := Lib.hid (row_kept RT2.out hq)
 have KO4 := Lib.hid (KO2.out.below hq)
 have KT4 := Lib.hid (KT2.out.below hq)
 clear hq HB2 RT2 KO2 KT2
 go_wp2_with fail
 go_ret
 exact ⟨rfl, HB4.out⟩
def wCs (A1 : Option Addr) (n1 : Nat) (c1 : Nat) (A2 : Option Addr) (c2 : Nat) (X : Dg) (Y : Dg) (e0 : Int) (t : Tr) (p : TrP) : Nat → Value → World → Prop
 | 0, fv, _ => fv = .slice A1 n1 c1
 | 1, fv, _ => fv = .slice A2 n1 c2
 | 2, fv, _ => fv = .bool true
 | 3, fv, _ => fv = .bool true
 | 4, fv, _ => fv = .int .i64 e0
 | 5, fv, _ => fv = .int .i64 e0
 | 6, fv, _ => fv = .bool true
 | 7, fv, _ => fv = .bool true
 | 8, fv, _ => fv = .bool true
 | 9, fv, _ => fv = dgV X
 | 10, fv, _ => fv = dgV X
 | 11, fv, _ => fv = .bool true
 | 12, fv, _ => fv = .bool true
 | 13, fv, _ => fv = .bool true
 | 14, fv, _ => fv = .int .i64 e0
 | 15, fv, _ => fv = .int .i64 e0
 | 16, fv, _ => fv = .bool true
 | 17, fv, _ => fv = .bool true
 | 18, fv, _ => fv = .bool true
 | 19, fv, _ => fv = dgV Y
 | 20, fv, _ => fv = dgV Y
 | 21, fv, _ => fv = .bool true
 | 22, fv, _ => fv = .bool true
 | 23, fv, _ => fv = .bool true
 | 24, fv, _ => fv = .int .i64 e0
 | 25, fv, _ => fv = .int .i64 e0
 | 26, fv, _ => fv = .bool true
 | 27, fv, _ => fv = .bool true
 | 28, fv, _ => fv = .bool true
 | 29, fv, _ => fv = trV t p
 | 30, fv, _ => fv = .int .i64 e0
 | 31, fv, _ => fv = trV t p
 | 32, fv, _ => fv = .int .i64 e0
 | 33, fv, _ => fv = .bool true
 | 34, fv, _ => fv = .bool true
 | 35, fv, _ => fv = .bool true
 | _, _, _ => True
theorem wCs_below {A1 : Option Addr} {n1 : Nat} {c1 : Nat} {A2 : Option Addr} {c2 : Nat} {X : Dg} {Y : Dg} {e0 : Int} {t : Tr} {p : TrP} {w w' : World} (hb : Below w.heap.size w w') : ∀ j v, wCs A1 n1 c1 A2 c2 X Y e0 t p j v w → wCs A1 n1 c1 A2 c2 X Y e0 t p j v w'
 | 0, v, h => h
 | 1, v, h => h
 | 2, v, h => h
 | 3, v, h => h
 | 4, v, h => h
 | 5, v, h => h
 | 6, v, h => h
 | 7, v, h => h
 | 8, v, h => h
 | 9, v, h => h
 | 10, v, h => h
 | 11, v, h => h
 | 12, v, h => h
 | 13, v, h => h
 | 14, v, h => h
 | 15, v, h => h
 | 16, v, h => h
 | 17, v, h => h
 | 18, v, h => h
 | 19, v, h => h
 | 20, v, h => h
 | 21, v, h => h
 | 22, v, h => h
 | 23, v, h => h
 | 24, v, h => h
 | 25, v, h => h
 | 26, v, h => h
 | 27, v, h => h
 | 28, v, h => h
 | 29, v, h => h
 | 30, v, h => h
 | 31, v, h => h
 | 32, v, h => h
 | 33, v, h => h
 | 34, v, h => h
 | 35, v, h => h
 | n + 36, v, h => trivial
theorem good (t : Tr) (p : TrP) (w : World) (h : Hid (TrOk w t p)) (hT : Hid (Tabs w)) (h1 : p.n ≤ 12) (h2 : p.n2 ≤ 12) :
  Calls Tryz.prog 3 #[trV t p] w fun e w' => e = .returned (.bool true) ∧ Below w.heap.size w w' := by
 obtain ⟨X, HX⟩ : ∃ x, Hid (lstL t = x) := ⟨_, Lib.hid rfl⟩
 obtain ⟨Y, HY⟩ : ∃ x, Hid (lstK t = x) := ⟨_, Lib.hid rfl⟩
 obtain ⟨e0, HE⟩ : ∃ x, Hid (trE t = x) := ⟨_, Lib.hid rfl⟩
 obtain ⟨ls, HLS⟩ : ∃ x, Hid (ndsL t = x) := ⟨_, Lib.hid rfl⟩
 have HXO : Hid (DgOk X) := Lib.hid (by rw [← HX.out]; exact lstL_ok t)
 have HYO : Hid (DgOk Y) := Lib.hid (by rw [← HY.out]; exact lstK_ok t)
 have HLN : Hid (ls.length ≤ 100000) := Lib.hid (by
  rw [← HLS.out]; unfold ndsL
  split
  ·rw [List.length_map, h.out.ln.len]; omega
  ·simp)
 have HIX := Lib.hid (dgC_info HXO.out)
 have HIY := Lib.hid (dgC_info HYO.out)
 have HZX : Hid ((#[.int .u8 0, .int .u8 0, .int .u8 0, .int .u8 0, .int .u8 0, .int .u8 0, .int .u8 0, .int .u8 0, .int .u8 0, .int .u8 0, .int .u8 0, .int .u8 0, .int .u8 0, .int .u8 0, .int .u8 0, .int .u8 0, .int .u8 0, .int .u8 0, .int .u8 0, .int .u8 0, .int .u8 0, .int .u8 0, .int .u8 0, .int .u8 0, .int .u8 0, .int .u8 0, .int .u8 0, .int .u8 0, .int .u8 0, .int .u8 0, .int .u8 0, .int .u8 0] : Array Value).size = (dgC X).toArray.size) := Lib.hid (by rw [← dgC_size HXO.out]; rfl)
 have HZY : Hid ((#[.int .u8 0, .int .u8 0, .int .u8 0, .int .u8 0, .int .u8 0, .int .u8 0, .int .u8 0, .int .u8 0, .int .u8 0, .int .u8 0, .int .u8 0, .int .u8 0, .int .u8 0, .int .u8 0, .int .u8 0, .int .u8 0, .int .u8 0, .int .u8 0, .int .u8 0, .int .u8 0, .int .u8 0, .int .u8 0, .int .u8 0, .int .u8 0, .int .u8 0, .int .u8 0, .int .u8 0, .int .u8 0, .int .u8 0, .int .u8 0, .int .u8 0, .int .u8 0] : Array Value).size = (dgC Y).toArray.size) := Lib.hid (by rw [← dgC_size HYO.out]; rfl)
 have HTI := Lib.hid (trV_info t p h.out.len)
 have HIT : Hid ((Tryz.prog.info? 27).map (·.size) = some (trC t p).toArray.size) := Lib.hid (trV_info t p h.out.len)
 have hb0 := (Below.refl _ w).alloc (Nat.le_refl _) (.cells (trC t p).toArray 27)
 have RT0 := Lib.hid (heap_alloc_new w (.cells (trC t p).toArray 27))
 have KO0 := Lib.hid (h.out.below hb0)
 have KT0 := Lib.hid (hT.out.below hb0)
 have HB0 := Lib.hid hb0
 clear hb0
 rw [show trV t p = .agg (trC t p).toArray from rfl]
 go_enter Tryz.func3, Tryz.ntmps3
 go_wp2_with fail
 refine (sane42 _ KT0).mono ?_
 rintro e U1 ⟨rfl, hq⟩
 have HB2 := Lib.hid (HB0.out.trans (hq.mono HB0.out.size))
 have RT2 := Lib.hid (row_kept RT0.out hq)
 have KO2 := Lib.hid (KO0.out.below hq)
 have KT2 := Lib.hid (KT0.out.below hq)
 clear hq HB0 RT0 KO0 KT0
 go_wp2_with (refine wpList_load_row rfl 27 (.tmp 1) rfl (w.heap.size) rfl 27 _ (0, 0) _ RT2.out Tryz.underlying27 rfl HIT.out ?_)
 rw [show Value.agg (trC t p).toArray = trV t p from rfl]
 refine (few_yes t p _ h1 h2).mono ?_
 rintro e U3 ⟨rfl, hq⟩
 have HB4 := Lib.hid (HB2.out.trans (hq.mono HB2.out.size))
 have RT4 := Lib.hid (row_kept RT2.out hq)
 have KO4 := Lib.hid (KO2.out.below hq)
 have KT4 := Lib.hid (KT2.out.below hq)
 clear hq HB2 RT2 KO2 KT2
 go_wp2_with (refine wpList_load_row rfl 27 (.tmp 1) rfl (w.heap.size) rfl 27 _ (0, 0) _ RT4.out Tryz.underlying27 rfl HIT.out ?_)
 rw [show Value.agg (trC t p).toArray = trV t p from rfl]
 refine (nodes_x t p _ KO4 KT4).mono ?_
 rintro e U5 ⟨A1, n1, c1, rfl, hin, hq⟩
 rw [HE.out]
 rw [HLS.out] at hin
 have KL0 := Lib.hid hin
 clear hin
 have HB6 := Lib.hid (HB4.out.trans (hq.mono HB4.out.size))
 have RT6 := Lib.hid (row_kept RT4.out hq)
 have KO6 := Lib.hid (KO4.out.below hq)
 have KT6 := Lib.hid (KT4.out.below hq)
 clear hq HB4 RT4 KO4 KT4
 go_wp2_with (refine wpList_load_row rfl 27 (.tmp 1) rfl (w.heap.size) rfl 27 _ (0, 0) _ RT6.out Tryz.underlying27 rfl HIT.out ?_)
 rw [show Value.agg (trC t p).toArray = trV t p from rfl]
 refine (rnodes_x t p _ KO6).mono ?_
 rintro e U7 ⟨A2, n2, c2, rfl, hin, hq⟩
 rw [HE.out]
 rw [HLS.out] at hin
 have KM0 := Lib.hid hin
 clear hin
 have HB8 := Lib.hid (HB6.out.trans (hq.mono HB6.out.size))
 have RT8 := Lib.hid (row_kept RT6.out hq)
 have KO8 := Lib.hid (KO6.out.below hq)
 have KT8 := Lib.hid (KT6.out.below hq)
 have KL8 := Lib.hid (KL0.out.below hq)
 clear hq HB6 RT6 KO6 KT6 KL0
 have hnn : n1 = n2 := by rw [← KL8.out.len, ← KM0.out.len]
 subst hnn
 go_wp2_with (refine wpList_load_row rfl 27 (.tmp 1) rfl (w.heap.size) rfl 27 _ (0, 0) _ RT8.out Tryz.underlying27 rfl HIT.out ?_)
 rw [show Value.agg (trC t p).toArray = trV t p from rfl]
 refine (lstL_any t p _ KO8 KT8).mono ?_
 rintro e U9 ⟨rfl, hq⟩
 rw [HX.out, HE.out, dgV_agg X]
 have HB10 := Lib.hid (HB8.out.trans (hq.mono HB8.out.size))
 have RT10 := Lib.hid (row_kept RT8.out hq)
 have KO10 := Lib.hid (KO8.out.below hq)
 have KT10 := Lib.hid (KT8.out.below hq)
 have KL10 := Lib.hid (KL8.out.below hq)
 have KM10 := Lib.hid (KM0.out.below hq)
 clear hq HB8 RT8 KO8 KT8 KL8 KM0
 obtain ⟨V11, HV11⟩ : ∃ W, Hid ((U9.alloc (.cells #[.int .u8 0, .int .u8 0, .int .u8 0, .int .u8 0, .int .u8 0, .int .u8 0, .int .u8 0, .int .u8 0, .int .u8 0, .int .u8 0, .int .u8 0, .int .u8 0, .int .u8 0, .int .u8 0, .int .u8 0, .int .u8 0, .int .u8 0, .int .u8 0, .int .u8 0, .int .u8 0, .int .u8 0, .int .u8 0, .int .u8 0, .int .u8 0, .int .u8 0, .int .u8 0, .int .u8 0, .int .u8 0, .int .u8 0, .int .u8 0, .int .u8 0, .int .u8 0] 25)).setRow U9.heap.size (dgC X).toArray = W) := ⟨_, Lib.hid rfl⟩
 have hw := setRow_heap (U9.alloc (.cells #[.int .u8 0, .int .u8 0, .int .u8 0, .int .u8 0, .int .u8 0, .int .u8 0, .int .u8 0, .int .u8 0, .int .u8 0, .int .u8 0, .int .u8 0, .int .u8 0, .int .u8 0, .int .u8 0, .int .u8 0, .int .u8 0, .int .u8 0, .int .u8 0, .int .u8 0, .int .u8 0, .int .u8 0, .int .u8 0, .int .u8 0, .int .u8 0, .int .u8 0, .int .u8 0, .int .u8 0, .int .u8 0, .int .u8 0, .int .u8 0, .int .u8 0, .int .u8 0] 25)) U9.heap.size _ (dgC X).toArray _ _ (heap_alloc_new U9 _)
 have hb := below_setRow ((Below.refl _ U9).alloc (Nat.le_refl _) (.cells #[.int .u8 0, .int .u8 0, .int .u8 0, .int .u8 0, .int .u8 0, .int .u8 0, .int .u8 0, .int .u8 0, .int .u8 0, .int .u8 0, .int .u8 0, .int .u8 0, .int .u8 0, .int .u8 0, .int .u8 0, .int .u8 0, .int .u8 0, .int .u8 0, .int .u8 0, .int .u8 0, .int .u8 0, .int .u8 0, .int .u8 0, .int .u8 0, .int .u8 0, .int .u8 0, .int .u8 0, .int .u8 0, .int .u8 0, .int .u8 0, .int .u8 0, .int .u8 0] 25)) (Nat.le_refl _) (dgC X).toArray
 rw [HV11.out] at hw hb
 have HB12 := Lib.hid (HB10.out.trans (hb.mono HB10.out.size))
 have RT12 := Lib.hid (row_kept RT10.out hb)
 have KO12 := Lib.hid (KO10.out.below hb)
 have KT12 := Lib.hid (KT10.out.below hb)
 have KL12 := Lib.hid (KL10.out.below hb)
 have KM12 := Lib.hid (KM10.out.below hb)
 have RA11 := Lib.hid hw
 clear hw hb HB10 RT10 KO10 KT10 KL10 KM10
 go_wp2_with (first | (refine wpList_store_row rfl 25 (.tmp 7) (.tmp 33) rfl U9.heap.size (dgC X).toArray rfl rfl 25 _ (heap_alloc_new U9 _) HIX.out HZX.out (dgC_one _) ?_; rw [HV11.out]) | (refine wpList_load_row rfl 27 (.tmp 1) rfl (w.heap.size) rfl 27 _ (0, 0) _ RT12.out Tryz.underlying27 rfl HIT.out ?_))
 rw [show Value.agg (trC t p).toArray = trV t p from rfl]
 refine (rlisted_any t p _ KO12).mono ?_
 rintro e U13 ⟨rfl, hq⟩
 rw [HX.out, HE.out, dgV_agg X]
 have HB14 := Lib.hid (HB12.out.trans (hq.mono HB12.out.size))
 have RT14 := Lib.hid (row_kept RT12.out hq)
 have RA14 := Lib.hid (row_kept RA11.out hq)
 have KO14 := Lib.hid (KO12.out.below hq)
 have KT14 := Lib.hid (KT12.out.below hq)
 have KL14 := Lib.hid (KL12.out.below hq)
 have KM14 := Lib.hid (KM12.out.below hq)
 clear hq HB12 RT12 RA11 KO12 KT12 KL12 KM12
 obtain ⟨V15, HV15⟩ : ∃ W, Hid ((U13.alloc (.cells #[.int .u8 0, .int .u8 0, .int .u8 0, .int .u8 0, .int .u8 0, .int .u8 0, .int .u8 0, .int .u8 0, .int .u8 0, .int .u8 0, .int .u8 0, .int .u8 0, .int .u8 0, .int .u8 0, .int .u8 0, .int .u8 0, .int .u8 0, .int .u8 0, .int .u8 0, .int .u8 0, .int .u8 0, .int .u8 0, .int .u8 0, .int .u8 0, .int .u8 0, .int .u8 0, .int .u8 0, .int .u8 0, .int .u8 0, .int .u8 0, .int .u8 0, .int .u8 0] 25)).setRow U13.heap.size (dgC X).toArray = W) := ⟨_, Lib.hid rfl⟩
 have hw := setRow_heap (U13.alloc (.cells #[.int .u8 0, .int .u8 0, .int .u8 0, .int .u8 0, .int .u8 0, .int .u8 0, .int .u8 0, .int .u8 0, .int .u8 0, .int .u8 0, .int .u8 0, .int .u8 0, .int .u8 0, .int .u8 0, .int .u8 0, .int .u8 0, .int .u8 0, .int .u8 0, .int .u8 0, .int .u8 0, .int .u8 0, .int .u8 0, .int .u8 0, .int .u8 0, .int .u8 0, .int .u8 0, .int .u8 0, .int .u8 0, .int .u8 0, .int .u8 0, .int .u8 0, .int .u8 0] 25)) U13.heap.size _ (dgC X).toArray _ _ (heap_alloc_new U13 _)
 have hb := below_setRow ((Below.refl _ U13).alloc (Nat.le_refl _) (.cells #[.int .u8 0, .int .u8 0, .int .u8 0, .int .u8 0, .int .u8 0, .int .u8 0, .int .u8 0, .int .u8 0, .int .u8 0, .int .u8 0, .int .u8 0, .int .u8 0, .int .u8 0, .int .u8 0, .int .u8 0, .int .u8 0, .int .u8 0, .int .u8 0, .int .u8 0, .int .u8 0, .int .u8 0, .int .u8 0, .int .u8 0, .int .u8 0, .int .u8 0, .int .u8 0, .int .u8 0, .int .u8 0, .int .u8 0, .int .u8 0, .int .u8 0, .int .u8 0] 25)) (Nat.le_refl _) (dgC X).toArray
 rw [HV15.out] at hw hb
 have HB16 := Lib.hid (HB14.out.trans (hb.mono HB14.out.size))
 have RT16 := Lib.hid (row_kept RT14.out hb)
 have RA16 := Lib.hid (row_kept RA14.out hb)
 have KO16 := Lib.hid (KO14.out.below hb)
 have KT16 := Lib.hid (KT14.out.below hb)
 have KL16 := Lib.hid (KL14.out.below hb)
 have KM16 := Lib.hid (KM14.out.below hb)
 have RB15 := Lib.hid hw
 clear hw hb HB14 RT14 RA14 KO14 KT14 KL14 KM14
 go_wp2_with (first | (refine wpList_store_row rfl 25 (.tmp 9) (.tmp 38) rfl U13.heap.size (dgC X).toArray rfl rfl 25 _ (heap_alloc_new U13 _) HIX.out HZX.out (dgC_one _) ?_; rw [HV15.out]) | (refine wpList_load_row rfl 27 (.tmp 1) rfl (w.heap.size) rfl 27 _ (0, 0) _ RT16.out Tryz.underlying27 rfl HIT.out ?_))
 rw [show Value.agg (trC t p).toArray = trV t p from rfl]
 refine (lstK_any t p _ KO16 KT16).mono ?_
 rintro e U17 ⟨rfl, hq⟩
 rw [HY.out, HE.out, dgV_agg Y]
 have HB18 := Lib.hid (HB16.out.trans (hq.mono HB16.out.size))
 have RT18 := Lib.hid (row_kept RT16.out hq)
 have RA18 := Lib.hid (row_kept RA16.out hq)
 have RB18 := Lib.hid (row_kept RB15.out hq)
 have KO18 := Lib.hid (KO16.out.below hq)
 have KT18 := Lib.hid (KT16.out.below hq)
 have KL18 := Lib.hid (KL16.out.below hq)
 have KM18 := Lib.hid (KM16.out.below hq)
 clear hq HB16 RT16 RA16 RB15 KO16 KT16 KL16 KM16
 obtain ⟨V19, HV19⟩ : ∃ W, Hid ((U17.alloc (.cells #[.int .u8 0, .int .u8 0, .int .u8 0, .int .u8 0, .int .u8 0, .int .u8 0, .int .u8 0, .int .u8 0, .int .u8 0, .int .u8 0, .int .u8 0, .int .u8 0, .int .u8 0, .int .u8 0, .int .u8 0, .int .u8 0, .int .u8 0, .int .u8 0, .int .u8 0, .int .u8 0, .int .u8 0, .int .u8 0, .int .u8 0, .int .u8 0, .int .u8 0, .int .u8 0, .int .u8 0, .int .u8 0, .int .u8 0, .int .u8 0, .int .u8 0, .int .u8 0] 25)).setRow U17.heap.size (dgC Y).toArray = W) := ⟨_, Lib.hid rfl⟩
 have hw := setRow_heap (U17.alloc (.cells #[.int .u8 0, .int .u8 0, .int .u8 0, .int .u8 0, .int .u8 0, .int .u8 0, .int .u8 0, .int .u8 0, .int .u8 0, .int .u8 0, .int .u8 0, .int .u8 0, .int .u8 0, .int .u8 0, .int .u8 0, .int .u8 0, .int .u8 0, .int .u8 0, .int .u8 0, .int .u8 0, .int .u8 0, .int .u8 0, .int .u8 0, .int .u8 0, .int .u8 0, .int .u8 0, .int .u8 0, .int .u8 0, .int .u8 0, .int .u8 0, .int .u8 0, .int .u8 0] 25)) U17.heap.size _ (dgC Y).toArray _ _ (heap_alloc_new U17 _)
 have hb := below_setRow ((Below.refl _ U17).alloc (Nat.le_refl _) (.cells #[.int .u8 0, .int .u8 0, .int .u8 0, .int .u8 0, .int .u8 0, .int .u8 0, .int .u8 0, .int .u8 0, .int .u8 0, .int .u8 0, .int .u8 0, .int .u8 0, .int .u8 0, .int .u8 0, .int .u8 0, .int .u8 0, .int .u8 0, .int .u8 0, .int .u8 0, .int .u8 0, .int .u8 0, .int .u8 0, .int .u8 0, .int .u8 0, .int .u8 0, .int .u8 0, .int .u8 0, .int .u8 0, .int .u8 0, .int .u8 0, .int .u8 0, .int .u8 0] 25)) (Nat.le_refl _) (dgC Y).toArray
 rw [HV19.out] at hw hb
 have HB20 := Lib.hid (HB18.out.trans (hb.mono HB18.out.size))
 have RT20 := Lib.hid (row_kept RT18.out hb)
 have RA20 := Lib.hid (row_kept RA18.out hb)
 have RB20 := Lib.hid (row_kept RB18.out hb)
 have KO20 := Lib.hid (KO18.out.below hb)
 have KT20 := Lib.hid (KT18.out.below hb)
 have KL20 := Lib.hid (KL18.out.below hb)
 have KM20 := Lib.hid (KM18.out.below hb)
 have RC19 := Lib.hid hw
 clear hw hb HB18 RT18 RA18 RB18 KO18 KT18 KL18 KM18
 go_wp2_with (first | (refine wpList_store_row rfl 25 (.tmp 11) (.tmp 43) rfl U17.heap.size (dgC Y).toArray rfl rfl 25 _ (heap_alloc_new U17 _) HIY.out HZY.out (dgC_one _) ?_; rw [HV19.out]) | (refine wpList_load_row rfl 27 (.tmp 1) rfl (w.heap.size) rfl 27 _ (0, 0) _ RT20.out Tryz.underlying27 rfl HIT.out ?_))
 rw [show Value.agg (trC t p).toArray = trV t p from rfl]
 refine (rclaimed_any t p _ KO20).mono ?_
 rintro e U21 ⟨rfl, hq⟩
 rw [HY.out, HE.out, dgV_agg Y]
 have HB22 := Lib.hid (HB20.out.trans (hq.mono HB20.out.size))
 have RT22 := Lib.hid (row_kept RT20.out hq)
 have RA22 := Lib.hid (row_kept RA20.out hq)
 have RB22 := Lib.hid (row_kept RB20.out hq)
 have RC22 := Lib.hid (row_kept RC19.out hq)
 have KO22 := Lib.hid (KO20.out.below hq)
 have KT22 := Lib.hid (KT20.out.below hq)
 have KL22 := Lib.hid (KL20.out.below hq)
 have KM22 := Lib.hid (KM20.out.below hq)
 clear hq HB20 RT20 RA20 RB20 RC19 KO20 KT20 KL20 KM20
 obtain ⟨V23, HV23⟩ : ∃ W, Hid ((U21.alloc (.cells #[.int .u8 0, .int .u8 0, .int .u8 0, .int .u8 0, .int .u8 0, .int .u8 0, .int .u8 0, .int .u8 0, .int .u8 0, .int .u8 0, .int .u8 0, .int .u8 0, .int .u8 0, .int .u8 0, .int .u8 0, .int .u8 0, .int .u8 0, .int .u8 0, .int .u8 0, .int .u8 0, .int .u8 0, .int .u8 0, .int .u8 0, .int .u8 0, .int .u8 0, .int .u8 0, .int .u8 0, .int .u8 0, .int .u8 0, .int .u8 0, .int .u8 0, .int .u8 0] 25)).setRow U21.heap.size (dgC Y).toArray = W) := ⟨_, Lib.hid rfl⟩
 have hw := setRow_heap (U21.alloc (.cells #[.int .u8 0, .int .u8 0, .int .u8 0, .int .u8 0, .int .u8 0, .int .u8 0, .int .u8 0, .int .u8 0, .int .u8 0, .int .u8 0, .int .u8 0, .int .u8 0, .int .u8 0, .int .u8 0, .int .u8 0, .int .u8 0, .int .u8 0, .int .u8 0, .int .u8 0, .int .u8 0, .int .u8 0, .int .u8 0, .int .u8 0, .int .u8 0, .int .u8 0, .int .u8 0, .int .u8 0, .int .u8 0, .int .u8 0, .int .u8 0, .int .u8 0, .int .u8 0] 25)) U21.heap.size _ (dgC Y).toArray _ _ (heap_alloc_new U21 _)
 have hb := below_setRow ((Below.refl _ U21).alloc (Nat.le_refl _) (.cells #[.int .u8 0, .int .u8 0, .int .u8 0, .int .u8 0, .int .u8 0, .int .u8 0, .int .u8 0, .int .u8 0, .int .u8 0, .int .u8 0, .int .u8 0, .int .u8 0, .int .u8 0, .int .u8 0, .int .u8 0, .int .u8 0, .int .u8 0, .int .u8 0, .int .u8 0, .int .u8 0, .int .u8 0, .int .u8 0, .int .u8 0, .int .u8 0, .int .u8 0, .int .u8 0, .int .u8 0, .int .u8 0, .int .u8 0, .int .u8 0, .int .u8 0, .int .u8 0] 25)) (Nat.le_refl _) (dgC Y).toArray
 rw [HV23.out] at hw hb
 have HB24 := Lib.hid (HB22.out.trans (hb.mono HB22.out.size))
 have RT24 := Lib.hid (row_kept RT22.out hb)
 have RA24 := Lib.hid (row_kept RA22.out hb)
 have RB24 := Lib.hid (row_kept RB22.out hb)
 have RC24 := Lib.hid (row_kept RC22.out hb)
 have KO24 := Lib.hid (KO22.out.below hb)
 have KT24 := Lib.hid (KT22.out.below hb)
 have KL24 := Lib.hid (KL22.out.below hb)
 have KM24 := Lib.hid (KM22.out.below hb)
 have RE23 := Lib.hid hw
 clear hw hb HB22 RT22 RA22 RB22 RC22 KO22 KT22 KL22 KM22
 go_wp2_with (refine wpList_store_row rfl 25 (.tmp 13) (.tmp 48) rfl U21.heap.size (dgC Y).toArray rfl rfl 25 _ (heap_alloc_new U21 _) HIY.out HZY.out (dgC_one _) ?_; rw [HV23.out])
 have HN1 : Hid (n1 ≤ 100000) := Lib.hid (by rw [← KL24.out.len]; exact HLN.out)
 have HBL := Lib.hid (fun (a1 a2 : World) (hb : Below a1.heap.size a1 a2) => wCs_below (A1 := A1) (n1 := n1) (c1 := c1) (A2 := A2) (c2 := c2) (X := X) (Y := Y) (e0 := e0) (t := t) (p := p) hb)
 refine region_flow3 (by kernel_rfl) (by kernel_rfl) (fun i => Nat.beq i 35) (fun i => i) (by kernel_rfl) (fun fx => #[trV t p, .pointer (some { block := w.heap.size, off := 0 }), fx 35, .slice A1 n1 c1, .int IntKind.i64 e0, .slice A2 n1 c2, .int IntKind.i64 e0, .pointer (some { block := U9.heap.size, off := 0 }), .int IntKind.i64 e0, .pointer (some { block := U13.heap.size, off := 0 }), .int IntKind.i64 e0, .pointer (some { block := U17.heap.size, off := 0 }), .int IntKind.i64 e0, .pointer (some { block := U21.heap.size, off := 0 }), .int IntKind.i64 e0, .bool true, .bool false, trV t p, .bool true, .bool false, .tuple #[.slice A1 n1 c1, .int IntKind.i64 e0], trV t p, .tuple #[.slice A1 n1 c1, .int IntKind.i64 e0], .slice A1 n1 c1, .int IntKind.i64 e0, .tuple #[.slice A2 n1 c2, .int IntKind.i64 e0], trV t p, .tuple #[.slice A2 n1 c2, .int IntKind.i64 e0], .slice A2 n1 c2, .int IntKind.i64 e0, .tuple #[.agg (dgC X).toArray, .int IntKind.i64 e0], trV t p, .tuple #[.agg (dgC X).toArray, .int IntKind.i64 e0], .agg (dgC X).toArray, .int IntKind.i64 e0, .tuple #[.agg (dgC X).toArray, .int IntKind.i64 e0], trV t p, .tuple #[.agg (dgC X).toArray, .int IntKind.i64 e0], .agg (dgC X).toArray, .int IntKind.i64 e0, .tuple #[.agg (dgC Y).toArray, .int IntKind.i64 e0], trV t p, .tuple #[.agg (dgC Y).toArray, .int IntKind.i64 e0], .agg (dgC Y).toArray, .int IntKind.i64 e0, .tuple #[.agg (dgC Y).toArray, .int IntKind.i64 e0], trV t p, .tuple #[.agg (dgC Y).toArray, .int IntKind.i64 e0], .agg (dgC Y).toArray, .int IntKind.i64 e0, fx 0, fx 1, fx 2, fx 3, fx 4, fx 5, fx 6, fx 7, fx 8, fx 9, fx 10, fx 11, fx 12, fx 13, fx 14, fx 15, fx 16, fx 17, fx 18, fx 19, fx 20, fx 21, fx 22, fx 23, fx 24, fx 25, fx 26, fx 27, fx 28, fx 29, fx 30, fx 31, fx 32, fx 33, fx 34]) (fun i => bif Nat.beq i 35 then Value.bool false else undef) (fun L fx w' => Below V23.heap.size V23 w') (fun fi fv _ fw => wCs A1 n1 c1 A2 c2 X Y e0 t p fi fv fw) (Below.refl _ _).drew ?_ ?_
 ·refine ⟨?_, ?_, ?_, ?_, ?_, ?_, ?_, ?_, ?_, ?_, ?_, ?_, ?_, ?_, ?_, ?_, ?_, ?_, ?_, ?_, ?_, ?_, ?_, ?_, ?_, ?_, ?_, ?_, ?_, ?_, ?_, ?_, ?_, ?_, ?_, ?_, trivial⟩
  all_goals intro L fx w' hC hi hcl hdn hd
  ·clear hd
   go_wp2_with fail
   exact ⟨_, rfl, hC, rfl, kP⟩
  ·clear hd
   go_wp2_with fail
   exact ⟨_, rfl, hC, rfl, kP⟩
  ·have h0 : fx 0 = .slice A1 n1 c1 := hd.1 rfl
   have h1 : fx 1 = .slice A2 n1 c2 := hd.2.1 rfl
   have HLk := Lib.hid (KL24.out.below hC)
   have HMk := Lib.hid (KM24.out.below hC)
   go_wp2_with fail
   refine (rsameN ls A1 A2 n1 c1 c2 w' HN1.out HLk HMk).mono ?_
   rintro e w2 ⟨rfl, hq⟩
   go_wp2_with fail
   exact ⟨_, by simp only [upd, h0, h1]; rfl, hC.trans (hq.mono hC.size), rfl, fun j v t _ _ h => HBL.out _ _ hq j v h⟩
  ·have h2 : fx 2 = .bool true := hd.1 rfl
   clear hd
   go_wp2_with fail
   exact ⟨_, by simp only [upd, h2]; rfl, hC, rfl, kP⟩
  ·have h3 : fx 3 = .bool true := hd.1 rfl
   clear hd
   go_wp2_with fail
   exact ⟨_, by simp only [upd, h3]; rfl, hC, rfl, kP⟩
  ·have h3 : fx 3 = .bool true := hd.1 rfl
   clear hd
   go_wp2_with fail
   exact ⟨_, by simp only [upd, h3]; rfl, hC, rfl, kP⟩
  ·have h4 : fx 4 = .int .i64 e0 := hd.1 rfl
   have h5 : fx 5 = .int .i64 e0 := hd.2.1 rfl
   have h3 : fx 3 = .bool true := hd.2.2.1 rfl
   have de : (e0 == e0) = true := beq_self_eq_true e0
   clear hd
   go_wp2_with fail
   exact ⟨_, by simp only [upd, h4, h5, h3]; rfl, hC, rfl, kP⟩
  ·have h3 : fx 3 = .bool true := hd.1 rfl
   have h6 : fx 6 = .bool true := hd.2.1 rfl
   clear hd
   go_wp2_with fail
   exact ⟨_, by simp only [upd, h3, h6]; rfl, hC, rfl, kP⟩
  ·have h7 : fx 7 = .bool true := hd.1 rfl
   clear hd
   go_wp2_with fail
   exact ⟨_, by simp only [upd, h7]; rfl, hC, rfl, kP⟩
  ·have h8 : fx 8 = .bool true := hd.1 rfl
   have hrow := row_kept RA24.out hC
   dsimp only
   rw [h8]
   refine wpList_unguard rfl ?_
   refine wpList_load_row rfl 25 (.tmp 7) rfl (U9.heap.size) rfl 25 _ (0, 0) _ hrow Tryz.underlying25 rfl HIX.out ?_
   rw [show Value.agg (dgC X).toArray = dgV X from rfl]
   clear hd
   go_wp2_with fail
   exact ⟨_, by simp only [upd, h8]; rfl, hC, rfl, kP⟩
  ·have h8 : fx 8 = .bool true := hd.1 rfl
   have hrow := row_kept RB24.out hC
   dsimp only
   rw [h8]
   refine wpList_unguard rfl ?_
   refine wpList_load_row rfl 25 (.tmp 9) rfl (U13.heap.size) rfl 25 _ (0, 0) _ hrow Tryz.underlying25 rfl HIX.out ?_
   rw [show Value.agg (dgC X).toArray = dgV X from rfl]
   clear hd
   go_wp2_with fail
   exact ⟨_, by simp only [upd, h8]; rfl, hC, rfl, kP⟩
  ·have h9 : fx 9 = dgV X := hd.1 rfl
   have h10 : fx 10 = dgV X := hd.2.1 rfl
   have h8 : fx 8 = .bool true := hd.2.2.1 rfl
   dsimp only
   rw [h8]
   refine wpList_unguard rfl ?_
   refine wpList_eql_dg rfl (.tmp 59) (.tmp 60) _ rfl X X h9 h10 HXO.out.len HXO.out.len HXO.out.bytes HXO.out.bytes ?_
   rw [beq_self_eq_true]
   clear hd
   go_wp2_with fail
   exact ⟨_, by simp only [upd, h9, h10, h8]; rfl, hC, rfl, kP⟩
  ·have h8 : fx 8 = .bool true := hd.1 rfl
   have h11 : fx 11 = .bool true := hd.2.1 rfl
   clear hd
   go_wp2_with fail
   exact ⟨_, by simp only [upd, h8, h11]; rfl, hC, rfl, kP⟩
  ·have h12 : fx 12 = .bool true := hd.1 rfl
   clear hd
   go_wp2_with fail
   exact ⟨_, by simp only [upd, h12]; rfl, hC, rfl, kP⟩
  ·have h13 : fx 13 = .bool true := hd.1 rfl
   clear hd
   go_wp2_with fail
   exact ⟨_, by simp only [upd, h13]; rfl, hC, rfl, kP⟩
  ·have h13 : fx 13 = .bool true := hd.1 rfl
   clear hd
   go_wp2_with fail
   exact ⟨_, by simp only [upd, h13]; rfl, hC, rfl, kP⟩
  ·have h14 : fx 14 = .int .i64 e0 := hd.1 rfl
   have h15 : fx 15 = .int .i64 e0 := hd.2.1 rfl
   have h13 : fx 13 = .bool true := hd.2.2.1 rfl
   have de : (e0 == e0) = true := beq_self_eq_true e0
   clear hd
   go_wp2_with fail
   exact ⟨_, by simp only [upd, h14, h15, h13]; rfl, hC, rfl, kP⟩
  ·have h13 : fx 13 = .bool true := hd.1 rfl
   have h16 : fx 16 = .bool true := hd.2.1 rfl
   clear hd
   go_wp2_with fail
   exact ⟨_, by simp only [upd, h13, h16]; rfl, hC, rfl, kP⟩
  ·have h17 : fx 17 = .bool true := hd.1 rfl
   clear hd
   go_wp2_with fail
   exact ⟨_, by simp only [upd, h17]; rfl, hC, rfl, kP⟩
  ·have h18 : fx 18 = .bool true := hd.1 rfl
   have hrow := row_kept RC24.out hC
   dsimp only
   rw [h18]
   refine wpList_unguard rfl ?_
   refine wpList_load_row rfl 25 (.tmp 11) rfl (U17.heap.size) rfl 25 _ (0, 0) _ hrow Tryz.underlying25 rfl HIY.out ?_
   rw [show Value.agg (dgC Y).toArray = dgV Y from rfl]
   clear hd
   go_wp2_with fail
   exact ⟨_, by simp only [upd, h18]; rfl, hC, rfl, kP⟩
  ·have h18 : fx 18 = .bool true := hd.1 rfl
   have hrow := row_kept RE23.out hC
   dsimp only
   rw [h18]
   refine wpList_unguard rfl ?_
   refine wpList_load_row rfl 25 (.tmp 13) rfl (U21.heap.size) rfl 25 _ (0, 0) _ hrow Tryz.underlying25 rfl HIY.out ?_
   rw [show Value.agg (dgC Y).toArray = dgV Y from rfl]
   clear hd
   go_wp2_with fail
   exact ⟨_, by simp only [upd, h18]; rfl, hC, rfl, kP⟩
  ·have h19 : fx 19 = dgV Y := hd.1 rfl
   have h20 : fx 20 = dgV Y := hd.2.1 rfl
   have h18 : fx 18 = .bool true := hd.2.2.1 rfl
   dsimp only
   rw [h18]
   refine wpList_unguard rfl ?_
   refine wpList_eql_dg rfl (.tmp 69) (.tmp 70) _ rfl Y Y h19 h20 HYO.out.len HYO.out.len HYO.out.bytes HYO.out.bytes ?_
   rw [beq_self_eq_true]
   clear hd
   go_wp2_with fail
   exact ⟨_, by simp only [upd, h19, h20, h18]; rfl, hC, rfl, kP⟩
  ·have h18 : fx 18 = .bool true := hd.1 rfl
   have h21 : fx 21 = .bool true := hd.2.1 rfl
   clear hd
   go_wp2_with fail
   exact ⟨_, by simp only [upd, h18, h21]; rfl, hC, rfl, kP⟩
  ·have h22 : fx 22 = .bool true := hd.1 rfl
   clear hd
   go_wp2_with fail
   exact ⟨_, by simp only [upd, h22]; rfl, hC, rfl, kP⟩
  ·have h23 : fx 23 = .bool true := hd.1 rfl
   clear hd
   go_wp2_with fail
   exact ⟨_, by simp only [upd, h23]; rfl, hC, rfl, kP⟩
  ·have h23 : fx 23 = .bool true := hd.1 rfl
   clear hd
   go_wp2_with fail
   exact ⟨_, by simp only [upd, h23]; rfl, hC, rfl, kP⟩
  ·have h24 : fx 24 = .int .i64 e0 := hd.1 rfl
   have h25 : fx 25 = .int .i64 e0 := hd.2.1 rfl
   have h23 : fx 23 = .bool true := hd.2.2.1 rfl
   have de : (e0 == e0) = true := beq_self_eq_true e0
   clear hd
   go_wp2_with fail
   exact ⟨_, by simp only [upd, h24, h25, h23]; rfl, hC, rfl, kP⟩
  ·have h23 : fx 23 = .bool true := hd.1 rfl
   have h26 : fx 26 = .bool true := hd.2.1 rfl
   clear hd
   go_wp2_with fail
   exact ⟨_, by simp only [upd, h23, h26]; rfl, hC, rfl, kP⟩
  ·have h27 : fx 27 = .bool true := hd.1 rfl
   clear hd
   go_wp2_with fail
   exact ⟨_, by simp only [upd, h27]; rfl, hC, rfl, kP⟩
  ·have h28 : fx 28 = .bool true := hd.1 rfl
   have hrow := row_kept RT24.out hC
   dsimp only
   rw [h28]
   refine wpList_unguard rfl ?_
   refine wpList_load_row rfl 27 (.tmp 1) rfl w.heap.size rfl 27 _ (0, 0) _ hrow Tryz.underlying27 rfl HTI.out ?_
   rw [show Value.agg (trC t p).toArray = trV t p from rfl]
   clear hd
   go_wp2_with fail
   exact ⟨_, by simp only [upd, h28]; rfl, hC, rfl, kP⟩
  ·have h29 : fx 29 = trV t p := hd.1 rfl
   have h28 : fx 28 = .bool true := hd.2.2.1 rfl
   have HOk := Lib.hid (KO24.out.below hC)
   go_wp2_with fail
   refine (check_any t p w' HOk).mono ?_
   rintro e w2 ⟨rfl, hq⟩
   rw [HE.out]
   go_wp2_with fail
   exact ⟨_, by simp only [upd, h29, h28]; rfl, hC.trans (hq.mono hC.size), rfl, fun j v t _ _ h => HBL.out _ _ hq j v h⟩
  ·have h28 : fx 28 = .bool true := hd.1 rfl
   have hrow := row_kept RT24.out hC
   dsimp only
   rw [h28]
   refine wpList_unguard rfl ?_
   refine wpList_load_row rfl 27 (.tmp 1) rfl w.heap.size rfl 27 _ (0, 0) _ hrow Tryz.underlying27 rfl HTI.out ?_
   rw [show Value.agg (trC t p).toArray = trV t p from rfl]
   clear hd
   go_wp2_with fail
   exact ⟨_, by simp only [upd, h28]; rfl, hC, rfl, kP⟩
  ·have h31 : fx 31 = trV t p := hd.1 rfl
   have h28 : fx 28 = .bool true := hd.2.2.1 rfl
   have HOk := Lib.hid (KO24.out.below hC)
   go_wp2_with fail
   refine (rcheck42_any t p w' HOk).mono ?_
   rintro e w2 ⟨rfl, hq⟩
   rw [HE.out]
   go_wp2_with fail
   exact ⟨_, by simp only [upd, h31, h28]; rfl, hC.trans (hq.mono hC.size), rfl, fun j v t _ _ h => HBL.out _ _ hq j v h⟩
  ·have h30 : fx 30 = .int .i64 e0 := hd.1 rfl
   have h32 : fx 32 = .int .i64 e0 := hd.2.1 rfl
   have h28 : fx 28 = .bool true := hd.2.2.1 rfl
   have de : (e0 == e0) = true := beq_self_eq_true e0
   clear hd
   go_wp2_with fail
   exact ⟨_, by simp only [upd, h30, h32, h28]; rfl, hC, rfl, kP⟩
  ·have h28 : fx 28 = .bool true := hd.1 rfl
   have h33 : fx 33 = .bool true := hd.2.1 rfl
   clear hd
   go_wp2_with fail
   exact ⟨_, by simp only [upd, h28, h33]; rfl, hC, rfl, kP⟩
  ·have h34 : fx 34 = .bool true := hd.1 rfl
   clear hd
   go_wp2_with fail
   exact ⟨_, by simp only [upd, h34]; rfl, hC, rfl, kP⟩
 ·intro L fo w' hC hS
  have H35 := Lib.hid (hS 35 (by decide) rfl)
  have h35 : fo 35 = .bool true := H35.out
  rw [h35]
  have HBF := Lib.hid (HB24.out.trans (hC.mono HB24.out.size))
  clear hS hC h35 H35
  go_wp2_with fail
  go_ret
  exact ⟨rfl, HBF.out⟩
theorem walk (w : World) (hT : Tabs w) (t : Tr) (p : TrP) (h : TrOk w t p) :
  Calls Tryz.prog 3 #[trV t p] w fun e w' => e = .returned (.bool true) ∧ Below w.heap.size w w' := by
 by_cases hf : p.n ≤ 12 ∧ p.n2 ≤ 12
 ·exact good t p w (Lib.hid h) (Lib.hid hT) hf.1 hf.2
 ·exact big t p w (Lib.hid h) (Lib.hid hT) hf
set_option maxRecDepth 100000 in
theorem lifted (os : Os) (started : os.Started) (H : Type) (enc : TypeId × Value → H) :
  ReturnsInHanded {} Tryz.checked os 3 .any (fun w args => (Rows.discloseCheckSpecSpec.pre enc Tryz.prog Tryz.f3 [] false w args ∧ laidMetH Tryz.prog laidL w) ∧ sizedMet enc Tryz.prog Tryz.f3 (OpenSpec.ofChange Rows.discloseCheckSpecSpec) false w args)
   (Rows.discloseCheckSpecSpec.post enc Tryz.prog Tryz.f3 false true false false) := by
 refine returnsInHanded_of_change_and (C := Tryz.checked) (X := fun w _ => laidMetH Tryz.prog laidL w) (fun _ _ _ hh h => h.of_heap hh) own started (by kernel_rfl) Tryz.func3
  (ChangeSpec.witness_shaped (enc := enc) (C := Tryz.checked) (os := os) (X := fun w _ => laidMetH Tryz.prog laidL w) false (World.doorLaid Tryz.prog 400 os) #[.agg (#[.int .i64 0, .int .i64 0, .int .i64 0, .int .i64 0, .slice none 0 0, .slice none 0 0] ++ Array.replicate 32 (.int .u8 0))] 8 rfl (World.shaped_of_RefB (by kernel_rfl) (by kernel_rfl)) (by kernel_rfl) (by kernel_rfl) (by kernel_rfl) (door_met os _)) ?_
 intro W base args ds gs before hval0 hW _ hsz0 hL _
 have hval : ∀ (j : Nat) t v, Tryz.f3.params[j]? = some t → args[j]? = some v → Value.okWide Tryz.prog W .any base t v := hval0
 have hW' := hW
 obtain ⟨p, q, hA0, hV, rfl, hfz, hnd⟩ := hW
 have hA : DataW.TrodAll enc Tryz.prog W 0 (fun _ => true) true Tryz.f3.params.toList args.toList ds p := hA0
 have hsz : (DataW.weightsEach Tryz.prog (Tryz.f3.params.toList ++ Rows.discloseCheckSpecSpec.plain.varTypes Tryz.prog) (ds ++ gs)).all (· ≤ reachBytes) = true := hsz0
 rw [Tryz.params3] at hA hval hsz
 obtain ⟨v0, vs0, d0, ds0, p0, q0, hargs, rfl, rfl, h0, r0⟩ := trodAll_cons hA
 obtain ⟨rfl, rfl, rfl⟩ := trodAll_nil r0
 obtain rfl : args = #[v0] := by cases args; simp_all
 obtain ⟨rfl, rfl⟩ := trodVars_none hV
 obtain ⟨l0, y0, rfl, e0⟩ := arg_tr (hval 0 27 v0 rfl rfl) h0
 refine (walk W (tabs_of hL) l0 y0 e0).mono fun e W' ⟨he, hg⟩ => ?_
 subst he
 exact ⟨_, rfl, law_post (by kernel_rfl) rfl rfl (fun _ => ⟨rfl, rfl, rfl⟩) hW' hg⟩
theorem over : Rows.discloseCheckSpecRow.holds Tryz.pinned (OpenSpec.ofChange Rows.discloseCheckSpecSpec) :=
 OpenClaim.holds_of_wide 3 Tryz.f3 rfl rfl rfl rfl rfl rfl rfl ⟨rfl, rfl, rfl, rfl, rfl⟩ rfl rfl rfl rfl rfl (by kernel_rfl) Tryz.func3 (by kernel_rfl)
  (of_decide_eq_true (by kernel_rfl)) (by unfold Func.isWrapper; first | (rw [if_pos (by decide +kernel)]; kernel_rfl) | (rw [if_neg (by decide +kernel)]; exact ⟨rfl, rfl⟩))
  (fun os started H enc _ => lifted os started H enc)
/-- THE STATEMENT: the card -/
theorem proved : Rows.DiscloseCheckSpecCardSaid :=
 Claim7.holds_tied_plain_at .later [] [.data, .data] true Rows.discloseCheckSpecCard.stood.harness true
  over (fun _ h => by cases h) (by kernel_rfl) (fun _ h => by cases h) discloseCheckSpec_row_tie rfl ⟨rfl, rfl⟩ (by kernel_rfl) rfl
  (fun f fn hf hfn => by
   obtain rfl : f = 3 := Option.some.inj ((show Tryz.prog.funcNamed "sizar/sizarlaw42.DiscloseCheckSpec" = some 3 by kernel_rfl).symm.trans hf) |>.symm
   obtain rfl : fn = Tryz.f3 := (Option.some.inj (Tryz.func3.symm.trans hfn)).symm
   exact ⟨by kernel_rfl, fun j t ht => stands_of (show Tryz.f3.params.all (fun t => !Tryz.prog.wantsStandIn t) = true by kernel_rfl) ht⟩)
  (by kernel_rfl)
#print axioms proved
end Go.Proofs.YtmfmgeapecapiaaGreatDoor.discloseCheckSpec
