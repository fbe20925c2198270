/- DiscloseStable: for every two transcripts the law returns true: with one salt a line has one leaf and one salt in both. No conditions. -/
import Derived.Test.YtmfmgeapecapiaaDoorDB17
import Derived.Test.YtmfmgeapecapiaaDoorDB3
import Derived.Test.YtmfmgeapecapiaaDoorDB19
import Derived.Test.YtmfmgeapecapiaaDoorCards
import Derived.Test.YtmfmgeapecapiaaDoorTie
import Derived.Lib.SmallJoins
namespace Go.Proofs.YtmfmgeapecapiaaDoor.discloseStable
open Go.ChangeShapes Go.WideShapes Go.ChangeAt Go.RowKit SzSha SzTree
set_option linter.unusedVariables false
set_option maxRecDepth 100000
set_option maxHeartbeats 8000000 in
theorem big1 (t : Tr) (p : TrP) (u : Tr) (q : TrP) (w : World) (h : Hid (TrOk w t p)) (k : Hid (TrOk w u q)) (hT : Hid (Tabs w)) (hf : ¬ (p.n ≤ 12 ∧ p.n2 ≤ 12)) :
    Calls Tryd.prog 6 #[trV t p, trV u q] w fun e w' => e = .returned (.bool true) ∧ Below w.heap.size w w' := by
  have HIT : Hid ((Tryd.prog.info? 27).map (·.size) = some (trC t p).toArray.size) := Lib.hid (trV_info t p h.out.len)
  have HIU : Hid ((Tryd.prog.info? 27).map (·.size) = some (trC u q).toArray.size) := Lib.hid (trV_info u q k.out.len)
  have hb0 := (Below.refl _ w).alloc (Nat.le_refl _) (.cells (trC t p).toArray 27)
  have hb1 := (Below.refl _ (w.alloc (.cells (trC t p).toArray 27))).alloc (Nat.le_refl _) (.cells (trC u q).toArray 27)
  have RT0 := Lib.hid (row_kept (heap_alloc_new w (.cells (trC t p).toArray 27)) hb1)
  have hu := heap_alloc_new (w.alloc (.cells (trC t p).toArray 27)) (.cells (trC u q).toArray 27)
  rw [World.size_alloc] at hu
  have RU0 := Lib.hid hu
  have hbb := hb0.trans (hb1.mono hb0.size)
  have KO0 := Lib.hid (h.out.below hbb)
  have KP0 := Lib.hid (k.out.below hbb)
  have KT0 := Lib.hid (hT.out.below hbb)
  have HB0 := Lib.hid hbb
  clear hb0 hb1 hu hbb
  rw [show trV t p = .agg (trC t p).toArray from rfl, show trV u q = .agg (trC u q).toArray from rfl]
  go_enter Tryd.func6, Tryd.ntmps6
  go_wp2_with fail
  refine (sane42 _ KT0).mono ?_
  rintro e U1 ⟨rfl, hq⟩
  have HB2 := Lib.hid (HB0.out.trans (hq.mono HB0.out.size))
  have RT2 := Lib.hid (row_kept RT0.out hq)
  have RU2 := Lib.hid (row_kept RU0.out hq)
  have KO2 := Lib.hid (KO0.out.below hq)
  have KP2 := Lib.hid (KP0.out.below hq)
  have KT2 := Lib.hid (KT0.out.below hq)
  clear hq HB0 RT0 RU0 KO0 KP0 KT0
  go_wp2_with (refine wpList_load_row rfl 27 (.tmp 2) rfl (w.heap.size) rfl 27 _ (0, 0) _ RT2.out Tryd.underlying27 rfl HIT.out ?_)
  rw [show Value.agg (trC t p).toArray = trV t p from rfl]
  refine (few_no t p _ hf).mono ?_
  rintro e U3 ⟨rfl, hq⟩
  have HB4 := Lib.hid (HB2.out.trans (hq.mono HB2.out.size))
  have RT4 := Lib.hid (row_kept RT2.out hq)
  have RU4 := Lib.hid (row_kept RU2.out hq)
  have KO4 := Lib.hid (KO2.out.below hq)
  have KP4 := Lib.hid (KP2.out.below hq)
  have KT4 := Lib.hid (KT2.out.below hq)
  clear hq HB2 RT2 RU2 KO2 KP2 KT2
  go_wp2_with fail
  go_ret
  exact ⟨rfl, HB4.out⟩
set_option maxHeartbeats 8000000 in
theorem big2 (t : Tr) (p : TrP) (u : Tr) (q : TrP) (w : World) (h : Hid (TrOk w t p)) (k : Hid (TrOk w u q)) (hT : Hid (Tabs w)) (h1 : p.n ≤ 12) (h2 : p.n2 ≤ 12) (hf : ¬ (q.n ≤ 12 ∧ q.n2 ≤ 12)) :
    Calls Tryd.prog 6 #[trV t p, trV u q] w fun e w' => e = .returned (.bool true) ∧ Below w.heap.size w w' := by
  have HIT : Hid ((Tryd.prog.info? 27).map (·.size) = some (trC t p).toArray.size) := Lib.hid (trV_info t p h.out.len)
  have HIU : Hid ((Tryd.prog.info? 27).map (·.size) = some (trC u q).toArray.size) := Lib.hid (trV_info u q k.out.len)
  have hb0 := (Below.refl _ w).alloc (Nat.le_refl _) (.cells (trC t p).toArray 27)
  have hb1 := (Below.refl _ (w.alloc (.cells (trC t p).toArray 27))).alloc (Nat.le_refl _) (.cells (trC u q).toArray 27)
  have RT0 := Lib.hid (row_kept (heap_alloc_new w (.cells (trC t p).toArray 27)) hb1)
  have hu := heap_alloc_new (w.alloc (.cells (trC t p).toArray 27)) (.cells (trC u q).toArray 27)
  rw [World.size_alloc] at hu
  have RU0 := Lib.hid hu
  have hbb := hb0.trans (hb1.mono hb0.size)
  have KO0 := Lib.hid (h.out.below hbb)
  have KP0 := Lib.hid (k.out.below hbb)
  have KT0 := Lib.hid (hT.out.below hbb)
  have HB0 := Lib.hid hbb
  clear hb0 hb1 hu hbb
  rw [show trV t p = .agg (trC t p).toArray from rfl, show trV u q = .agg (trC u q).toArray from rfl]
  go_enter Tryd.func6, Tryd.ntmps6
  go_wp2_with fail
  refine (sane42 _ KT0).mono ?_
  rintro e U1 ⟨rfl, hq⟩
  have HB2 := Lib.hid (HB0.out.trans (hq.mono HB0.out.size))
  have RT2 := Lib.hid (row_kept RT0.out hq)
  have RU2 := Lib.hid (row_kept RU0.out hq)
  have KO2 := Lib.hid (KO0.out.below hq)
  have KP2 := Lib.hid (KP0.out.below hq)
  have KT2 := Lib.hid (KT0.out.below hq)
  clear hq HB0 RT0 RU0 KO0 KP0 KT0
  go_wp2_with (refine wpList_load_row rfl 27 (.tmp 2) rfl (w.heap.size) rfl 27 _ (0, 0) _ RT2.out Tryd.underlying27 rfl HIT.out ?_)
  rw [show Value.agg (trC t p).toArray = trV t p from rfl]
  refine (few_yes t p _ h1 h2).mono ?_
  rintro e U3 ⟨rfl, hq⟩
  have HB4 := Lib.hid (HB2.out.trans (hq.mono HB2.out.size))
  have RT4 := Lib.hid (row_kept RT2.out hq)
  have RU4 := Lib.hid (row_kept RU2.out hq)
  have KO4 := Lib.hid (KO2.out.below hq)
  have KP4 := Lib.hid (KP2.out.below hq)
  have KT4 := Lib.hid (KT2.out.below hq)
  clear hq HB2 RT2 RU2 KO2 KP2 KT2
  go_wp2_with (refine wpList_unguard rfl ?_; refine wpList_load_row rfl 27 (.tmp 3) rfl ((w.heap.size + 1)) rfl 27 _ (0, 0) _ RU4.out Tryd.underlying27 rfl HIU.out ?_)
  rw [show Value.agg (trC u q).toArray = trV u q from rfl]
  refine (few_no u q _ hf).mono ?_
  rintro e U5 ⟨rfl, hq⟩
  have HB6 := Lib.hid (HB4.out.trans (hq.mono HB4.out.size))
  have RT6 := Lib.hid (row_kept RT4.out hq)
  have RU6 := Lib.hid (row_kept RU4.out hq)
  have KO6 := Lib.hid (KO4.out.below hq)
  have KP6 := Lib.hid (KP4.out.below hq)
  have KT6 := Lib.hid (KT4.out.below hq)
  clear hq HB4 RT4 RU4 KO4 KP4 KT4
  go_wp2_with fail
  go_ret
  exact ⟨rfl, HB6.out⟩
set_option maxHeartbeats 8000000 in
theorem bad1 (t : Tr) (p : TrP) (u : Tr) (q : TrP) (w : World) (h : Hid (TrOk w t p)) (k : Hid (TrOk w u q)) (hT : Hid (Tabs w)) (h1 : p.n ≤ 12) (h2 : p.n2 ≤ 12) (g1 : q.n ≤ 12) (g2 : q.n2 ≤ 12) (hg : Hid (trG t = false)) :
    Calls Tryd.prog 6 #[trV t p, trV u q] w fun e w' => e = .returned (.bool true) ∧ Below w.heap.size w w' := by
  have HIT : Hid ((Tryd.prog.info? 27).map (·.size) = some (trC t p).toArray.size) := Lib.hid (trV_info t p h.out.len)
  have HIU : Hid ((Tryd.prog.info? 27).map (·.size) = some (trC u q).toArray.size) := Lib.hid (trV_info u q k.out.len)
  have hb0 := (Below.refl _ w).alloc (Nat.le_refl _) (.cells (trC t p).toArray 27)
  have hb1 := (Below.refl _ (w.alloc (.cells (trC t p).toArray 27))).alloc (Nat.le_refl _) (.cells (trC u q).toArray 27)
  have RT0 := Lib.hid (row_kept (heap_alloc_new w (.cells (trC t p).toArray 27)) hb1)
  have hu := heap_alloc_new (w.alloc (.cells (trC t p).toArray 27)) (.cells (trC u q).toArray 27)
  rw [World.size_alloc] at hu
  have RU0 := Lib.hid hu
  have hbb := hb0.trans (hb1.mono hb0.size)
  have KO0 := Lib.hid (h.out.below hbb)
  have KP0 := Lib.hid (k.out.below hbb)
  have KT0 := Lib.hid (hT.out.below hbb)
  have HB0 := Lib.hid hbb
  clear hb0 hb1 hu hbb
  rw [show trV t p = .agg (trC t p).toArray from rfl, show trV u q = .agg (trC u q).toArray from rfl]
  go_enter Tryd.func6, Tryd.ntmps6
  go_wp2_with fail
  refine (sane42 _ KT0).mono ?_
  rintro e U1 ⟨rfl, hq⟩
  have HB2 := Lib.hid (HB0.out.trans (hq.mono HB0.out.size))
  have RT2 := Lib.hid (row_kept RT0.out hq)
  have RU2 := Lib.hid (row_kept RU0.out hq)
  have KO2 := Lib.hid (KO0.out.below hq)
  have KP2 := Lib.hid (KP0.out.below hq)
  have KT2 := Lib.hid (KT0.out.below hq)
  clear hq HB0 RT0 RU0 KO0 KP0 KT0
  go_wp2_with (refine wpList_load_row rfl 27 (.tmp 2) rfl (w.heap.size) rfl 27 _ (0, 0) _ RT2.out Tryd.underlying27 rfl HIT.out ?_)
  rw [show Value.agg (trC t p).toArray = trV t p from rfl]
  refine (few_yes t p _ h1 h2).mono ?_
  rintro e U3 ⟨rfl, hq⟩
  have HB4 := Lib.hid (HB2.out.trans (hq.mono HB2.out.size))
  have RT4 := Lib.hid (row_kept RT2.out hq)
  have RU4 := Lib.hid (row_kept RU2.out hq)
  have KO4 := Lib.hid (KO2.out.below hq)
  have KP4 := Lib.hid (KP2.out.below hq)
  have KT4 := Lib.hid (KT2.out.below hq)
  clear hq HB2 RT2 RU2 KO2 KP2 KT2
  go_wp2_with (refine wpList_unguard rfl ?_; refine wpList_load_row rfl 27 (.tmp 3) rfl ((w.heap.size + 1)) rfl 27 _ (0, 0) _ RU4.out Tryd.underlying27 rfl HIU.out ?_)
  rw [show Value.agg (trC u q).toArray = trV u q from rfl]
  refine (few_yes u q _ g1 g2).mono ?_
  rintro e U5 ⟨rfl, hq⟩
  have HB6 := Lib.hid (HB4.out.trans (hq.mono HB4.out.size))
  have RT6 := Lib.hid (row_kept RT4.out hq)
  have RU6 := Lib.hid (row_kept RU4.out hq)
  have KO6 := Lib.hid (KO4.out.below hq)
  have KP6 := Lib.hid (KP4.out.below hq)
  have KT6 := Lib.hid (KT4.out.below hq)
  clear hq HB4 RT4 RU4 KO4 KP4 KT4
  have HSA : Hid (DgOk t.salt) := Lib.hid ⟨h.out.len, h.out.bytes⟩
  have HSI2 := Lib.hid (dgC_infoK HSA.out)
  have HSI3 := Lib.hid (dgC_info HSA.out)
  have KS5 := Lib.hid (tr_salt RT6.out)
  obtain ⟨W5, HW5⟩ : ∃ W, Hid (U5.setCells (w.heap.size + 1) 6 (dgC t.salt) = W) := ⟨_, Lib.hid rfl⟩
  have HTH := Lib.hid (tr_there k.out.len RU6.out)
  have hs := tr_salted k.out.len h.out.len RU6.out
  have hbw := hs.2 w.heap.size w HB6.out (by omega)
  have hru := hs.1
  have hrt := ((hs.2 (w.heap.size + 1) U5 (Below.refl _ _) (Nat.le_refl _)).block w.heap.size (by omega)).trans RT6.out
  rw [HW5.out] at hbw hru hrt
  have HB5 := Lib.hid hbw
  have RT5 := Lib.hid hrt
  have RU5 := Lib.hid hru
  have KO5 := Lib.hid (h.out.below hbw)
  have KP5 : Hid (TrOk W5 (trS u t.salt) q) := Lib.hid (trS_ok (k.out.below hbw) HSA.out)
  have KT5 := Lib.hid (hT.out.below hbw)
  have HIV : Hid ((Tryd.prog.info? 27).map (·.size) = some (trC (trS u t.salt) q).toArray.size) := Lib.hid (trV_info (trS u t.salt) q h.out.len)
  clear hs hbw hru hrt
  go_wp2_with (first | (refine wpList_load_mid rfl 25 (.tmp 29) rfl (w.heap.size) 6 rfl (dgC t.salt) _ KS5.out Tryd.underlying25 rfl HSI2.out ?_) | (refine wpList_store_mid rfl 25 (.tmp 31) (.tmp 30) rfl (w.heap.size + 1) 6 (dgC t.salt).toArray rfl rfl (by rw [← dgC_size HSA.out]; exact HTH.out) HSI3.out (dgC_one _) ?_; rw [HW5.out]) | (refine wpList_load_row rfl 27 (.tmp 2) rfl (w.heap.size) rfl 27 _ (0, 0) _ RT5.out Tryd.underlying27 rfl HIT.out ?_))
  clear HB6 RT6 RU6 KO6 KP6 KT6 KS5 HTH
  rw [show Value.agg (trC t p).toArray = trV t p from rfl]
  refine (nodes_no t p _ KO5 KT5 hg).mono ?_
  rintro e U7 ⟨rfl, hq⟩
  have HB8 := Lib.hid (HB5.out.trans (hq.mono HB5.out.size))
  have RT8 := Lib.hid (row_kept RT5.out hq)
  have RU8 := Lib.hid (row_kept RU5.out hq)
  have KO8 := Lib.hid (KO5.out.below hq)
  have KP8 := Lib.hid (KP5.out.below hq)
  have KT8 := Lib.hid (KT5.out.below hq)
  clear hq HB5 RT5 RU5 KO5 KP5 KT5
  go_wp2_with (refine wpList_load_row rfl 27 (.tmp 3) rfl ((w.heap.size + 1)) rfl 27 _ (0, 0) _ RU8.out Tryd.underlying27 rfl HIV.out ?_)
  rw [show Value.agg (trC (trS u t.salt) q).toArray = trV (trS u t.salt) q from rfl]
  refine (nodes_some (trS u t.salt) q _ KP8 KT8).mono ?_
  rintro e U9 ⟨A2, n2, c2, z, rfl, hq⟩
  have HB10 := Lib.hid (HB8.out.trans (hq.mono HB8.out.size))
  have RT10 := Lib.hid (row_kept RT8.out hq)
  have RU10 := Lib.hid (row_kept RU8.out hq)
  have KO10 := Lib.hid (KO8.out.below hq)
  have KP10 := Lib.hid (KP8.out.below hq)
  have KT10 := Lib.hid (KT8.out.below hq)
  clear hq HB8 RT8 RU8 KO8 KP8 KT8
  go_wp2_with fail
  go_ret
  exact ⟨rfl, HB10.out⟩
set_option maxHeartbeats 8000000 in
theorem bad2 (t : Tr) (p : TrP) (u : Tr) (q : TrP) (w : World) (h : Hid (TrOk w t p)) (k : Hid (TrOk w u q)) (hT : Hid (Tabs w)) (h1 : p.n ≤ 12) (h2 : p.n2 ≤ 12) (g1 : q.n ≤ 12) (g2 : q.n2 ≤ 12) (hg : Hid (trG t = true)) (hgu : Hid (trG (trS u t.salt) = false)) :
    Calls Tryd.prog 6 #[trV t p, trV u q] w fun e w' => e = .returned (.bool true) ∧ Below w.heap.size w w' := by
  have HIT : Hid ((Tryd.prog.info? 27).map (·.size) = some (trC t p).toArray.size) := Lib.hid (trV_info t p h.out.len)
  have HIU : Hid ((Tryd.prog.info? 27).map (·.size) = some (trC u q).toArray.size) := Lib.hid (trV_info u q k.out.len)
  have hb0 := (Below.refl _ w).alloc (Nat.le_refl _) (.cells (trC t p).toArray 27)
  have hb1 := (Below.refl _ (w.alloc (.cells (trC t p).toArray 27))).alloc (Nat.le_refl _) (.cells (trC u q).toArray 27)
  have RT0 := Lib.hid (row_kept (heap_alloc_new w (.cells (trC t p).toArray 27)) hb1)
  have hu := heap_alloc_new (w.alloc (.cells (trC t p).toArray 27)) (.cells (trC u q).toArray 27)
  rw [World.size_alloc] at hu
  have RU0 := Lib.hid hu
  have hbb := hb0.trans (hb1.mono hb0.size)
  have KO0 := Lib.hid (h.out.below hbb)
  have KP0 := Lib.hid (k.out.below hbb)
  have KT0 := Lib.hid (hT.out.below hbb)
  have HB0 := Lib.hid hbb
  clear hb0 hb1 hu hbb
  rw [show trV t p = .agg (trC t p).toArray from rfl, show trV u q = .agg (trC u q).toArray from rfl]
  go_enter Tryd.func6, Tryd.ntmps6
  go_wp2_with fail
  refine (sane42 _ KT0).mono ?_
  rintro e U1 ⟨rfl, hq⟩
  have HB2 := Lib.hid (HB0.out.trans (hq.mono HB0.out.size))
  have RT2 := Lib.hid (row_kept RT0.out hq)
  have RU2 := Lib.hid (row_kept RU0.out hq)
  have KO2 := Lib.hid (KO0.out.below hq)
  have KP2 := Lib.hid (KP0.out.below hq)
  have KT2 := Lib.hid (KT0.out.below hq)
  clear hq HB0 RT0 RU0 KO0 KP0 KT0
  go_wp2_with (refine wpList_load_row rfl 27 (.tmp 2) rfl (w.heap.size) rfl 27 _ (0, 0) _ RT2.out Tryd.underlying27 rfl HIT.out ?_)
  rw [show Value.agg (trC t p).toArray = trV t p from rfl]
  refine (few_yes t p _ h1 h2).mono ?_
  rintro e U3 ⟨rfl, hq⟩
  have HB4 := Lib.hid (HB2.out.trans (hq.mono HB2.out.size))
  have RT4 := Lib.hid (row_kept RT2.out hq)
  have RU4 := Lib.hid (row_kept RU2.out hq)
  have KO4 := Lib.hid (KO2.out.below hq)
  have KP4 := Lib.hid (KP2.out.below hq)
  have KT4 := Lib.hid (KT2.out.below hq)
  clear hq HB2 RT2 RU2 KO2 KP2 KT2
  go_wp2_with (refine wpList_unguard rfl ?_; refine wpList_load_row rfl 27 (.tmp 3) rfl ((w.heap.size + 1)) rfl 27 _ (0, 0) _ RU4.out Tryd.underlying27 rfl HIU.out ?_)
  rw [show Value.agg (trC u q).toArray = trV u q from rfl]
  refine (few_yes u q _ g1 g2).mono ?_
  rintro e U5 ⟨rfl, hq⟩
  have HB6 := Lib.hid (HB4.out.trans (hq.mono HB4.out.size))
  have RT6 := Lib.hid (row_kept RT4.out hq)
  have RU6 := Lib.hid (row_kept RU4.out hq)
  have KO6 := Lib.hid (KO4.out.below hq)
  have KP6 := Lib.hid (KP4.out.below hq)
  have KT6 := Lib.hid (KT4.out.below hq)
  clear hq HB4 RT4 RU4 KO4 KP4 KT4
  have HSA : Hid (DgOk t.salt) := Lib.hid ⟨h.out.len, h.out.bytes⟩
  have HSI2 := Lib.hid (dgC_infoK HSA.out)
  have HSI3 := Lib.hid (dgC_info HSA.out)
  have KS5 := Lib.hid (tr_salt RT6.out)
  obtain ⟨W5, HW5⟩ : ∃ W, Hid (U5.setCells (w.heap.size + 1) 6 (dgC t.salt) = W) := ⟨_, Lib.hid rfl⟩
  have HTH := Lib.hid (tr_there k.out.len RU6.out)
  have hs := tr_salted k.out.len h.out.len RU6.out
  have hbw := hs.2 w.heap.size w HB6.out (by omega)
  have hru := hs.1
  have hrt := ((hs.2 (w.heap.size + 1) U5 (Below.refl _ _) (Nat.le_refl _)).block w.heap.size (by omega)).trans RT6.out
  rw [HW5.out] at hbw hru hrt
  have HB5 := Lib.hid hbw
  have RT5 := Lib.hid hrt
  have RU5 := Lib.hid hru
  have KO5 := Lib.hid (h.out.below hbw)
  have KP5 : Hid (TrOk W5 (trS u t.salt) q) := Lib.hid (trS_ok (k.out.below hbw) HSA.out)
  have KT5 := Lib.hid (hT.out.below hbw)
  have HIV : Hid ((Tryd.prog.info? 27).map (·.size) = some (trC (trS u t.salt) q).toArray.size) := Lib.hid (trV_info (trS u t.salt) q h.out.len)
  clear hs hbw hru hrt
  go_wp2_with (first | (refine wpList_load_mid rfl 25 (.tmp 29) rfl (w.heap.size) 6 rfl (dgC t.salt) _ KS5.out Tryd.underlying25 rfl HSI2.out ?_) | (refine wpList_store_mid rfl 25 (.tmp 31) (.tmp 30) rfl (w.heap.size + 1) 6 (dgC t.salt).toArray rfl rfl (by rw [← dgC_size HSA.out]; exact HTH.out) HSI3.out (dgC_one _) ?_; rw [HW5.out]) | (refine wpList_load_row rfl 27 (.tmp 2) rfl (w.heap.size) rfl 27 _ (0, 0) _ RT5.out Tryd.underlying27 rfl HIT.out ?_))
  clear HB6 RT6 RU6 KO6 KP6 KT6 KS5 HTH
  rw [show Value.agg (trC t p).toArray = trV t p from rfl]
  refine (nodes_yes t p _ KO5 KT5 hg).mono ?_
  rintro e U7 ⟨A1, n1, c1, rfl, hin, hq⟩
  clear hin
  have HB8 := Lib.hid (HB5.out.trans (hq.mono HB5.out.size))
  have RT8 := Lib.hid (row_kept RT5.out hq)
  have RU8 := Lib.hid (row_kept RU5.out hq)
  have KO8 := Lib.hid (KO5.out.below hq)
  have KP8 := Lib.hid (KP5.out.below hq)
  have KT8 := Lib.hid (KT5.out.below hq)
  clear hq HB5 RT5 RU5 KO5 KP5 KT5
  go_wp2_with (refine wpList_load_row rfl 27 (.tmp 3) rfl ((w.heap.size + 1)) rfl 27 _ (0, 0) _ RU8.out Tryd.underlying27 rfl HIV.out ?_)
  rw [show Value.agg (trC (trS u t.salt) q).toArray = trV (trS u t.salt) q from rfl]
  refine (nodes_no (trS u t.salt) q _ KP8 KT8 hgu).mono ?_
  rintro e U9 ⟨rfl, hq⟩
  have HB10 := Lib.hid (HB8.out.trans (hq.mono HB8.out.size))
  have RT10 := Lib.hid (row_kept RT8.out hq)
  have RU10 := Lib.hid (row_kept RU8.out hq)
  have KO10 := Lib.hid (KO8.out.below hq)
  have KP10 := Lib.hid (KP8.out.below hq)
  have KT10 := Lib.hid (KT8.out.below hq)
  clear hq HB8 RT8 RU8 KO8 KP8 KT8
  go_wp2_with fail
  go_ret
  exact ⟨rfl, HB10.out⟩
def wSt (g1 o1 c1 j : Nat) (p : TrP) (t : Tr) (x : Ln) (s : List Nat) (y : Nd) (bS bT bX : Nat) : Nat → Value → Prop
  | 0, fv => fv = Value.int .i64 0
  | 1, fv => fv = Value.bool false
  | 2, fv => fv = Value.bool false
  | 3, fv => fv = Value.int .i64 0
  | 4, fv => fv = Value.bool false
  | 5, fv => fv = Value.bool false
  | 6, fv => fv = Value.bool false
  | 7, fv => fv = ndV y
  | 8, fv => fv = Value.slice (some ⟨g1, o1, none⟩) p.n c1
  | 9, fv => fv = Value.int .i64 ((j : Nat))
  | 10, fv => fv = Value.pointer (some ⟨g1, o1 + j * 34, none⟩)
  | 11, fv => fv = ndV y
  | 12, fv => fv = Value.bool false
  | 13, fv => fv = Value.bool false
  | 14, fv => fv = Value.bool false
  | 15, fv => fv = Value.pointer (some ⟨bS, 6, none⟩)
  | 16, fv => fv = dgV s
  | 17, fv => fv = Value.pointer (some ⟨bT, 6, none⟩)
  | 18, fv => fv = dgV t.salt
  | 19, fv => fv = Value.pointer (some ⟨bX, 1, none⟩)
  | 20, fv => fv = Value.int .i64 (x.c1)
  | 21, fv => fv = Value.int .i64 (4096 * x.c1)
  | 22, fv => fv = Value.pointer (some ⟨bX, 0, none⟩)
  | 23, fv => fv = Value.int .i64 (x.c0)
  | 24, fv => fv = Value.int .i64 (4096 * x.c1 + x.c0)
  | 25, fv => fv = dgV s
  | 26, fv => fv = Value.bool false
  | 27, fv => fv = Value.bool false
  | _, _ => True
def wSu (g2 o2 c2 k1 g3 o3 c1 j : Nat) (p q : TrP) (s : List Nat) (y : Nd) (bQ bS : Nat) : Nat → Value → Prop
  | 0, fv => fv = Value.int .i64 0
  | 1, fv => fv = Value.bool false
  | 2, fv => fv = Value.bool false
  | 3, fv => fv = Value.pointer (some ⟨bQ, 6, none⟩)
  | 4, fv => fv = dgV s
  | 5, fv => fv = Value.pointer (some ⟨bS, 6, none⟩)
  | 6, fv => fv = dgV s
  | 7, fv => fv = Value.bool false
  | 8, fv => fv = Value.bool false
  | 9, fv => fv = Value.bool false
  | 10, fv => fv = Value.slice (some ⟨g2, o2, none⟩) q.n c2
  | 11, fv => fv = Value.int .i64 ((k1 : Nat))
  | 12, fv => fv = Value.pointer (some ⟨g2, o2 + k1 * 34, none⟩)
  | 13, fv => fv = ndV y
  | 14, fv => fv = Value.slice (some ⟨g3, o3, none⟩) p.n c1
  | 15, fv => fv = Value.int .i64 ((j : Nat))
  | 16, fv => fv = Value.pointer (some ⟨g3, o3 + j * 34, none⟩)
  | 17, fv => fv = ndV y
  | 18, fv => fv = Value.bool false
  | 19, fv => fv = Value.bool false
  | _, _ => True
set_option maxHeartbeats 8000000 in
theorem good (t : Tr) (p : TrP) (u : Tr) (q : TrP) (w : World) (h : Hid (TrOk w t p)) (k : Hid (TrOk w u q)) (hT : Hid (Tabs w)) (h1 : p.n ≤ 12) (h2 : p.n2 ≤ 12) (g1 : q.n ≤ 12) (g2 : q.n2 ≤ 12) (hg : Hid (trG t = true)) (hgu : Hid (trG (trS u t.salt) = true)) :
    Calls Tryd.prog 6 #[trV t p, trV u q] w fun e w' => e = .returned (.bool true) ∧ Below w.heap.size w w' := by
  have HN : Hid (t.ln.length = p.n) := Lib.hid h.out.ln.len
  have HNU : Hid (u.ln.length = q.n) := Lib.hid k.out.ln.len
  have HVA : Hid (∀ x ∈ t.ln, vLn x = true) := Lib.hid (chkE_all _ _ (trG_parts hg.out).2.1)
  have HIT : Hid ((Tryd.prog.info? 27).map (·.size) = some (trC t p).toArray.size) := Lib.hid (trV_info t p h.out.len)
  have HIU : Hid ((Tryd.prog.info? 27).map (·.size) = some (trC u q).toArray.size) := Lib.hid (trV_info u q k.out.len)
  have hb0 := (Below.refl _ w).alloc (Nat.le_refl _) (.cells (trC t p).toArray 27)
  have hb1 := (Below.refl _ (w.alloc (.cells (trC t p).toArray 27))).alloc (Nat.le_refl _) (.cells (trC u q).toArray 27)
  have RT0 := Lib.hid (row_kept (heap_alloc_new w (.cells (trC t p).toArray 27)) hb1)
  have hu := heap_alloc_new (w.alloc (.cells (trC t p).toArray 27)) (.cells (trC u q).toArray 27)
  rw [World.size_alloc] at hu
  have RU0 := Lib.hid hu
  have hbb := hb0.trans (hb1.mono hb0.size)
  have KO0 := Lib.hid (h.out.below hbb)
  have KP0 := Lib.hid (k.out.below hbb)
  have KT0 := Lib.hid (hT.out.below hbb)
  have HB0 := Lib.hid hbb
  clear hb0 hb1 hu hbb
  rw [show trV t p = .agg (trC t p).toArray from rfl, show trV u q = .agg (trC u q).toArray from rfl]
  go_enter Tryd.func6, Tryd.ntmps6
  go_wp2_with fail
  refine (sane42 _ KT0).mono ?_
  rintro e U1 ⟨rfl, hq⟩
  have HB2 := Lib.hid (HB0.out.trans (hq.mono HB0.out.size))
  have RT2 := Lib.hid (row_kept RT0.out hq)
  have RU2 := Lib.hid (row_kept RU0.out hq)
  have KO2 := Lib.hid (KO0.out.below hq)
  have KP2 := Lib.hid (KP0.out.below hq)
  have KT2 := Lib.hid (KT0.out.below hq)
  clear hq HB0 RT0 RU0 KO0 KP0 KT0
  go_wp2_with (refine wpList_load_row rfl 27 (.tmp 2) rfl (w.heap.size) rfl 27 _ (0, 0) _ RT2.out Tryd.underlying27 rfl HIT.out ?_)
  rw [show Value.agg (trC t p).toArray = trV t p from rfl]
  refine (few_yes t p _ h1 h2).mono ?_
  rintro e U3 ⟨rfl, hq⟩
  have HB4 := Lib.hid (HB2.out.trans (hq.mono HB2.out.size))
  have RT4 := Lib.hid (row_kept RT2.out hq)
  have RU4 := Lib.hid (row_kept RU2.out hq)
  have KO4 := Lib.hid (KO2.out.below hq)
  have KP4 := Lib.hid (KP2.out.below hq)
  have KT4 := Lib.hid (KT2.out.below hq)
  clear hq HB2 RT2 RU2 KO2 KP2 KT2
  go_wp2_with (refine wpList_unguard rfl ?_; refine wpList_load_row rfl 27 (.tmp 3) rfl ((w.heap.size + 1)) rfl 27 _ (0, 0) _ RU4.out Tryd.underlying27 rfl HIU.out ?_)
  rw [show Value.agg (trC u q).toArray = trV u q from rfl]
  refine (few_yes u q _ g1 g2).mono ?_
  rintro e U5 ⟨rfl, hq⟩
  have HB6 := Lib.hid (HB4.out.trans (hq.mono HB4.out.size))
  have RT6 := Lib.hid (row_kept RT4.out hq)
  have RU6 := Lib.hid (row_kept RU4.out hq)
  have KO6 := Lib.hid (KO4.out.below hq)
  have KP6 := Lib.hid (KP4.out.below hq)
  have KT6 := Lib.hid (KT4.out.below hq)
  clear hq HB4 RT4 RU4 KO4 KP4 KT4
  have HSA : Hid (DgOk t.salt) := Lib.hid ⟨h.out.len, h.out.bytes⟩
  have HSI2 := Lib.hid (dgC_infoK HSA.out)
  have HSI3 := Lib.hid (dgC_info HSA.out)
  have KS5 := Lib.hid (tr_salt RT6.out)
  obtain ⟨W5, HW5⟩ : ∃ W, Hid (U5.setCells (w.heap.size + 1) 6 (dgC t.salt) = W) := ⟨_, Lib.hid rfl⟩
  have HTH := Lib.hid (tr_there k.out.len RU6.out)
  have hs := tr_salted k.out.len h.out.len RU6.out
  have hbw := hs.2 w.heap.size w HB6.out (by omega)
  have hru := hs.1
  have hrt := ((hs.2 (w.heap.size + 1) U5 (Below.refl _ _) (Nat.le_refl _)).block w.heap.size (by omega)).trans RT6.out
  rw [HW5.out] at hbw hru hrt
  have HB5 := Lib.hid hbw
  have RT5 := Lib.hid hrt
  have RU5 := Lib.hid hru
  have KO5 := Lib.hid (h.out.below hbw)
  have KP5 : Hid (TrOk W5 (trS u t.salt) q) := Lib.hid (trS_ok (k.out.below hbw) HSA.out)
  have KT5 := Lib.hid (hT.out.below hbw)
  have HIV : Hid ((Tryd.prog.info? 27).map (·.size) = some (trC (trS u t.salt) q).toArray.size) := Lib.hid (trV_info (trS u t.salt) q h.out.len)
  clear hs hbw hru hrt
  go_wp2_with (first | (refine wpList_load_mid rfl 25 (.tmp 29) rfl (w.heap.size) 6 rfl (dgC t.salt) _ KS5.out Tryd.underlying25 rfl HSI2.out ?_) | (refine wpList_store_mid rfl 25 (.tmp 31) (.tmp 30) rfl (w.heap.size + 1) 6 (dgC t.salt).toArray rfl rfl (by rw [← dgC_size HSA.out]; exact HTH.out) HSI3.out (dgC_one _) ?_; rw [HW5.out]) | (refine wpList_load_row rfl 27 (.tmp 2) rfl (w.heap.size) rfl 27 _ (0, 0) _ RT5.out Tryd.underlying27 rfl HIT.out ?_))
  clear HB6 RT6 RU6 KO6 KP6 KT6 KS5 HTH
  rw [show Value.agg (trC t p).toArray = trV t p from rfl]
  refine (nodes_yes t p _ KO5 KT5 hg).mono ?_
  rintro e U7 ⟨A1, n1, c1, rfl, hin, hq⟩
  have KA0 := Lib.hid hin
  have HNN1 : Hid (n1 = p.n) := Lib.hid (by have h9 := hin.len; rw [List.length_map] at h9; rw [← h9]; exact HN.out)
  clear hin
  have HB8 := Lib.hid (HB5.out.trans (hq.mono HB5.out.size))
  have RT8 := Lib.hid (row_kept RT5.out hq)
  have RU8 := Lib.hid (row_kept RU5.out hq)
  have KO8 := Lib.hid (KO5.out.below hq)
  have KP8 := Lib.hid (KP5.out.below hq)
  have KT8 := Lib.hid (KT5.out.below hq)
  clear hq HB5 RT5 RU5 KO5 KP5 KT5
  have e9 := HNN1.out
  subst e9
  clear HNN1
  go_wp2_with (refine wpList_load_row rfl 27 (.tmp 3) rfl ((w.heap.size + 1)) rfl 27 _ (0, 0) _ RU8.out Tryd.underlying27 rfl HIV.out ?_)
  rw [show Value.agg (trC (trS u t.salt) q).toArray = trV (trS u t.salt) q from rfl]
  refine (nodes_yes (trS u t.salt) q _ KP8 KT8 hgu).mono ?_
  rintro e U9 ⟨A2, n2, c2, rfl, hin, hq⟩
  have KC0 := Lib.hid hin
  have HNN2 : Hid (n2 = q.n) := Lib.hid (by have h9 := hin.len; rw [List.length_map] at h9; rw [← h9]; exact HNU.out)
  clear hin
  have HB10 := Lib.hid (HB8.out.trans (hq.mono HB8.out.size))
  have RT10 := Lib.hid (row_kept RT8.out hq)
  have RU10 := Lib.hid (row_kept RU8.out hq)
  have KO10 := Lib.hid (KO8.out.below hq)
  have KP10 := Lib.hid (KP8.out.below hq)
  have KT10 := Lib.hid (KT8.out.below hq)
  have KA10 := Lib.hid (KA0.out.below hq)
  clear hq HB8 RT8 RU8 KO8 KP8 KT8 KA0
  have e9 := HNN2.out
  subst e9
  clear HNN2
  have kl : U9.cell? ⟨w.heap.size, 4, none⟩ = some (.slice p.A p.n p.c) := by rw [cell_of_row _ _ _ _ _ _ RT10.out]; rfl
  have ku : U9.cell? ⟨(w.heap.size + 1), 4, none⟩ = some (.slice q.A q.n q.c) := by rw [cell_of_row _ _ _ _ _ _ RU10.out]; rfl
  have dn1 : ((p.n : Int) != (p.n : Int)) = false := by simp
  have dn2 : ((q.n : Int) != (q.n : Int)) = false := by simp
  go_wp2_with fail
  clear kl ku dn1 dn2
  go_loopw [65] (fun s1 wr => ∃ j : Nat, j ≤ p.n ∧ s1 = .int .i64 (j : Nat) ∧ Hid (Below U9.heap.size U9 wr)) (fun s1 _ => p.n - (intOf s1).toNat)
  case atStart => exact ⟨0, by omega, rfl, Lib.hid (Below.refl _ _)⟩
  case round =>
    obtain ⟨j, hj, rfl, HBW⟩ := hrel
    obtain ⟨WO, hWO⟩ : ∃ W, W = wr := ⟨_, rfl⟩
    subst hWO
    have HB11 := Lib.hid (HB10.out.trans (HBW.out.mono HB10.out.size))
    have RT11 := Lib.hid (row_kept RT10.out HBW.out)
    have RU11 := Lib.hid (row_kept RU10.out HBW.out)
    have KO11 := Lib.hid (KO10.out.below HBW.out)
    have KP11 := Lib.hid (KP10.out.below HBW.out)
    have KT11 := Lib.hid (KT10.out.below HBW.out)
    have KA11 := Lib.hid (KA10.out.below HBW.out)
    have KC11 := Lib.hid (KC0.out.below HBW.out)
    have HBR := HBW
    clear HBW
    by_cases hlt : j < p.n
    · have d1 : decide ((j : Int) < (p.n : Int)) = true := decide_eq_true (by omega)
      have d2 : decide (j < p.n) = true := decide_eq_true hlt
      have hjl : j < t.ln.length := by have := HN.out; omega
      obtain ⟨gj, oj, eA, hgl, hr⟩ := KO11.out.ln.rd (by omega)
      obtain ⟨x, HX1⟩ : ∃ x, Hid (t.ln[j] = x) := ⟨_, Lib.hid rfl⟩
      have HXj : Hid (t.ln[j]? = some x) := Lib.hid (by rw [List.getElem?_eq_getElem hjl, HX1.out])
      have KXj : Hid (WO.rangeAt gj (oj + j * 5) (lnC x)) := Lib.hid (by rw [← HX1.out]; exact range_elem (k := 5) (cells := lnC) (fun _ => rfl) hr j hjl)
      have HVX : Hid (vLn x = true) := Lib.hid (by rw [← HX1.out]; exact HVA.out _ (List.getElem_mem hjl))
      have HIIj := Lib.hid (lnC_infoL x)
      have HIAj := Lib.hid (lnC_info x)
      clear hgl hr HX1 hjl
      rw [eA]
      obtain ⟨V12, HV12⟩ : ∃ W, Hid ((WO.alloc (.cells #[.int .i64 0, .int .i64 0, .int .i64 0, .int .i64 0, .int .i64 0] 41)).setRow WO.heap.size (lnC x).toArray = W) := ⟨_, Lib.hid rfl⟩
      have hw := setRow_heap (WO.alloc (.cells #[.int .i64 0, .int .i64 0, .int .i64 0, .int .i64 0, .int .i64 0] 41)) WO.heap.size _ (lnC x).toArray _ _ (heap_alloc_new WO _)
      have hb := below_setRow ((Below.refl _ WO).alloc (Nat.le_refl _) (.cells #[.int .i64 0, .int .i64 0, .int .i64 0, .int .i64 0, .int .i64 0] 41)) (Nat.le_refl _) (lnC x).toArray
      rw [HV12.out] at hw hb
      have HB13 := Lib.hid (HB11.out.trans (hb.mono HB11.out.size))
      have RT13 := Lib.hid (row_kept RT11.out hb)
      have RU13 := Lib.hid (row_kept RU11.out hb)
      have KO13 := Lib.hid (KO11.out.below hb)
      have KP13 := Lib.hid (KP11.out.below hb)
      have KT13 := Lib.hid (KT11.out.below hb)
      have KA13 := Lib.hid (KA11.out.below hb)
      have KC13 := Lib.hid (KC11.out.below hb)
      have KBR13 := Lib.hid (HBR.out.trans (hb.mono HBR.out.size))
      have RX12 := Lib.hid hw
      clear hw hb HB11 RT11 RU11 KO11 KP11 KT11 KA11 KC11 HBR
      go_wp2_with (first | (refine wpList_load_mid rfl 41 (.tmp 68) rfl (gj) (oj + j * 5) rfl (lnC x) _ KXj.out Tryd.underlying41 rfl HIIj.out ?_) | (refine wpList_store_row rfl 41 (.tmp 10) (.tmp 69) rfl WO.heap.size (lnC x).toArray rfl rfl 41 _ (heap_alloc_new WO _) HIAj.out rfl (lnC_one x) ?_; rw [HV12.out]) | (refine wpList_load_row rfl 27 (.tmp 2) rfl (w.heap.size) rfl 27 _ (0, 0) _ RT13.out Tryd.underlying27 rfl HIT.out ?_))
      rw [show Value.agg (trC t p).toArray = trV t p from rfl]
      obtain ⟨s, HS⟩ : ∃ s, Hid (saltN t.salt 1 (nLn x) = s) := ⟨_, Lib.hid rfl⟩
      have HSO : Hid (DgOk s) := Lib.hid (by rw [← HS.out]; exact saltN_ok _ _ _)
      refine (shwL_yes t p j x _ KO13 KT13 hg hlt HXj).mono ?_
      rintro e U14 ⟨As, ns, cs, rfl, hin, hq⟩
      rw [HS.out]
      clear hin
      have HB15 := Lib.hid (HB13.out.trans (hq.mono HB13.out.size))
      have RT15 := Lib.hid (row_kept RT13.out hq)
      have RU15 := Lib.hid (row_kept RU13.out hq)
      have RX15 := Lib.hid (row_kept RX12.out hq)
      have KO15 := Lib.hid (KO13.out.below hq)
      have KP15 := Lib.hid (KP13.out.below hq)
      have KT15 := Lib.hid (KT13.out.below hq)
      have KA15 := Lib.hid (KA13.out.below hq)
      have KC15 := Lib.hid (KC13.out.below hq)
      have KBR15 := Lib.hid (KBR13.out.trans (hq.mono KBR13.out.size))
      clear hq HB13 RT13 RU13 RX12 KO13 KP13 KT13 KA13 KC13 KBR13
      have HSI : Hid ((Tryd.prog.info? 44).map (·.size) = some (shCL (j : Nat) x s As ns cs).toArray.size) := Lib.hid (shCL_info HSO.out)
      have HSH : Hid (39 = (shCL (j : Nat) x s As ns cs).toArray.size) := Lib.hid (by simp [shCL, lnC, dgC_len32 HSO.out])
      have HSD := Lib.hid (dgC_infoK HSO.out)
      obtain ⟨V16, HV16⟩ : ∃ W, Hid ((U14.alloc (.cells #[.int .i64 0, .int .i64 0, .int .i64 0, .int .i64 0, .int .i64 0, .int .i64 0, .int .u8 0, .int .u8 0, .int .u8 0, .int .u8 0, .int .u8 0, .int .u8 0, .int .u8 0, .int .u8 0, .int .u8 0, .int .u8 0, .int .u8 0, .int .u8 0, .int .u8 0, .int .u8 0, .int .u8 0, .int .u8 0, .int .u8 0, .int .u8 0, .int .u8 0, .int .u8 0, .int .u8 0, .int .u8 0, .int .u8 0, .int .u8 0, .int .u8 0, .int .u8 0, .int .u8 0, .int .u8 0, .int .u8 0, .int .u8 0, .int .u8 0, .int .u8 0, .slice none 0 0] 44)).setRow U14.heap.size (shCL (j : Nat) x s As ns cs).toArray = W) := ⟨_, Lib.hid rfl⟩
      have hw := setRow_heap (U14.alloc (.cells #[.int .i64 0, .int .i64 0, .int .i64 0, .int .i64 0, .int .i64 0, .int .i64 0, .int .u8 0, .int .u8 0, .int .u8 0, .int .u8 0, .int .u8 0, .int .u8 0, .int .u8 0, .int .u8 0, .int .u8 0, .int .u8 0, .int .u8 0, .int .u8 0, .int .u8 0, .int .u8 0, .int .u8 0, .int .u8 0, .int .u8 0, .int .u8 0, .int .u8 0, .int .u8 0, .int .u8 0, .int .u8 0, .int .u8 0, .int .u8 0, .int .u8 0, .int .u8 0, .int .u8 0, .int .u8 0, .int .u8 0, .int .u8 0, .int .u8 0, .int .u8 0, .slice none 0 0] 44)) U14.heap.size _ (shCL (j : Nat) x s As ns cs).toArray _ _ (heap_alloc_new U14 _)
      have hb := below_setRow ((Below.refl _ U14).alloc (Nat.le_refl _) (.cells #[.int .i64 0, .int .i64 0, .int .i64 0, .int .i64 0, .int .i64 0, .int .i64 0, .int .u8 0, .int .u8 0, .int .u8 0, .int .u8 0, .int .u8 0, .int .u8 0, .int .u8 0, .int .u8 0, .int .u8 0, .int .u8 0, .int .u8 0, .int .u8 0, .int .u8 0, .int .u8 0, .int .u8 0, .int .u8 0, .int .u8 0, .int .u8 0, .int .u8 0, .int .u8 0, .int .u8 0, .int .u8 0, .int .u8 0, .int .u8 0, .int .u8 0, .int .u8 0, .int .u8 0, .int .u8 0, .int .u8 0, .int .u8 0, .int .u8 0, .int .u8 0, .slice none 0 0] 44)) (Nat.le_refl _) (shCL (j : Nat) x s As ns cs).toArray
      rw [HV16.out] at hw hb
      have HB17 := Lib.hid (HB15.out.trans (hb.mono HB15.out.size))
      have RT17 := Lib.hid (row_kept RT15.out hb)
      have RU17 := Lib.hid (row_kept RU15.out hb)
      have RX17 := Lib.hid (row_kept RX15.out hb)
      have KO17 := Lib.hid (KO15.out.below hb)
      have KP17 := Lib.hid (KP15.out.below hb)
      have KT17 := Lib.hid (KT15.out.below hb)
      have KA17 := Lib.hid (KA15.out.below hb)
      have KC17 := Lib.hid (KC15.out.below hb)
      have KBR17 := Lib.hid (KBR15.out.trans (hb.mono KBR15.out.size))
      have RS16 := Lib.hid hw
      clear hw hb HB15 RT15 RU15 RX15 KO15 KP15 KT15 KA15 KC15 KBR15
      have KS16 := Lib.hid (shCL_s RS16.out)
      go_wp2_with (first | (refine wpList_store_row rfl 44 (.tmp 11) (.tmp 74) rfl U14.heap.size (shCL (j : Nat) x s As ns cs).toArray rfl rfl 44 _ (heap_alloc_new U14 _) HSI.out HSH.out (shCL_one _ _ _ _ _ _) ?_; rw [HV16.out]) | (refine wpList_load_row rfl 41 (.tmp 10) rfl (WO.heap.size) rfl 41 _ (0, 0) _ RX17.out Tryd.underlying41 rfl HIAj.out ?_) | (refine wpList_load_mid rfl 25 (.tmp 78) rfl (U14.heap.size) 6 rfl (dgC s) _ KS16.out Tryd.underlying25 rfl HSD.out ?_))
      clear KS16
      rw [show Value.agg (lnC x).toArray = lnV x from rfl, ← dgV_agg s]
      obtain ⟨y, HY⟩ : ∃ y, Hid (leafR x.c0 x.c1 x.c2 x.c3 x.c4 s = y) := ⟨_, Lib.hid rfl⟩
      have HYO : Hid (NdOk y) := Lib.hid (by rw [← HY.out]; exact leafR_okL x s)
      refine (leaf_x x s _ HSO KT17 HVX.out).mono ?_
      rintro e U18 ⟨rfl, hq⟩
      rw [HY.out]
      have HB19 := Lib.hid (HB17.out.trans (hq.mono HB17.out.size))
      have RT19 := Lib.hid (row_kept RT17.out hq)
      have RU19 := Lib.hid (row_kept RU17.out hq)
      have RX19 := Lib.hid (row_kept RX17.out hq)
      have RS19 := Lib.hid (row_kept RS16.out hq)
      have KO19 := Lib.hid (KO17.out.below hq)
      have KP19 := Lib.hid (KP17.out.below hq)
      have KT19 := Lib.hid (KT17.out.below hq)
      have KA19 := Lib.hid (KA17.out.below hq)
      have KC19 := Lib.hid (KC17.out.below hq)
      have KBR19 := Lib.hid (KBR17.out.trans (hq.mono KBR17.out.size))
      clear hq HB17 RT17 RU17 RX17 RS16 KO17 KP17 KT17 KA17 KC17 KBR17
      have HS34 := Lib.hid (size34e HYO.out)
      have HT34 : Hid ((#[.int .u8 0, .int .u8 0, .int .u8 0, .int .u8 0, .int .u8 0, .int .u8 0, .int .u8 0, .int .u8 0, .int .u8 0, .int .u8 0, .int .u8 0, .int .u8 0, .int .u8 0, .int .u8 0, .int .u8 0, .int .u8 0, .int .u8 0, .int .u8 0, .int .u8 0, .int .u8 0, .int .u8 0, .int .u8 0, .int .u8 0, .int .u8 0, .int .u8 0, .int .u8 0, .int .u8 0, .int .u8 0, .int .u8 0, .int .u8 0, .int .u8 0, .int .u8 0, .int .i64 0, .int .i64 0] : Array Value).size = (ndC y).toArray.size) := Lib.hid (by simp [ndC_length HYO.out])
      have HSL := Lib.hid (size34 HYO.out)
      rw [show ndV y = .agg (ndC y).toArray from rfl]
      obtain ⟨V20, HV20⟩ : ∃ W, Hid ((U18.alloc (.cells #[.int .u8 0, .int .u8 0, .int .u8 0, .int .u8 0, .int .u8 0, .int .u8 0, .int .u8 0, .int .u8 0, .int .u8 0, .int .u8 0, .int .u8 0, .int .u8 0, .int .u8 0, .int .u8 0, .int .u8 0, .int .u8 0, .int .u8 0, .int .u8 0, .int .u8 0, .int .u8 0, .int .u8 0, .int .u8 0, .int .u8 0, .int .u8 0, .int .u8 0, .int .u8 0, .int .u8 0, .int .u8 0, .int .u8 0, .int .u8 0, .int .u8 0, .int .u8 0, .int .i64 0, .int .i64 0] 31)).setRow U18.heap.size (ndC y).toArray = W) := ⟨_, Lib.hid rfl⟩
      have hw := setRow_heap (U18.alloc (.cells #[.int .u8 0, .int .u8 0, .int .u8 0, .int .u8 0, .int .u8 0, .int .u8 0, .int .u8 0, .int .u8 0, .int .u8 0, .int .u8 0, .int .u8 0, .int .u8 0, .int .u8 0, .int .u8 0, .int .u8 0, .int .u8 0, .int .u8 0, .int .u8 0, .int .u8 0, .int .u8 0, .int .u8 0, .int .u8 0, .int .u8 0, .int .u8 0, .int .u8 0, .int .u8 0, .int .u8 0, .int .u8 0, .int .u8 0, .int .u8 0, .int .u8 0, .int .u8 0, .int .i64 0, .int .i64 0] 31)) U18.heap.size _ (ndC y).toArray _ _ (heap_alloc_new U18 _)
      have hb := below_setRow ((Below.refl _ U18).alloc (Nat.le_refl _) (.cells #[.int .u8 0, .int .u8 0, .int .u8 0, .int .u8 0, .int .u8 0, .int .u8 0, .int .u8 0, .int .u8 0, .int .u8 0, .int .u8 0, .int .u8 0, .int .u8 0, .int .u8 0, .int .u8 0, .int .u8 0, .int .u8 0, .int .u8 0, .int .u8 0, .int .u8 0, .int .u8 0, .int .u8 0, .int .u8 0, .int .u8 0, .int .u8 0, .int .u8 0, .int .u8 0, .int .u8 0, .int .u8 0, .int .u8 0, .int .u8 0, .int .u8 0, .int .u8 0, .int .i64 0, .int .i64 0] 31)) (Nat.le_refl _) (ndC y).toArray
      rw [HV20.out] at hw hb
      have HB21 := Lib.hid (HB19.out.trans (hb.mono HB19.out.size))
      have RT21 := Lib.hid (row_kept RT19.out hb)
      have RU21 := Lib.hid (row_kept RU19.out hb)
      have RX21 := Lib.hid (row_kept RX19.out hb)
      have RS21 := Lib.hid (row_kept RS19.out hb)
      have KO21 := Lib.hid (KO19.out.below hb)
      have KP21 := Lib.hid (KP19.out.below hb)
      have KT21 := Lib.hid (KT19.out.below hb)
      have KA21 := Lib.hid (KA19.out.below hb)
      have KC21 := Lib.hid (KC19.out.below hb)
      have KBR21 := Lib.hid (KBR19.out.trans (hb.mono KBR19.out.size))
      have RN20 := Lib.hid hw
      clear hw hb HB19 RT19 RU19 RX19 RS19 KO19 KP19 KT19 KA19 KC19 KBR19
      go_wp2_with (refine wpList_store_row rfl 31 (.tmp 13) (.tmp 81) rfl U18.heap.size (ndC y).toArray rfl rfl 31 _ (heap_alloc_new U18 _) HS34.out HT34.out (ndC_one _) ?_; rw [HV20.out])
      have KN17 : Hid (∃ g1 o1, A1 = some ⟨g1, o1, none⟩ ∧ V20.rangeAt g1 (o1 + j * 34) (ndC y)) := Lib.hid (node_at KA21.out HXj.out HS.out HY.out)
      obtain ⟨g1, o1, rfl, hk17⟩ := KN17.out
      have KN := Lib.hid hk17
      clear KN17 hk17
      obtain ⟨hv0, hv1, hv2, hv3, hvn⟩ := nLn_valid HVX.out
      refine region_flow (by kernel_rfl) (by kernel_rfl) (fun i => i) (by kernel_rfl) (fun fx => #[trV t p, trV u q, Value.pointer (some { block := w.heap.size, off := 0 }), Value.pointer (some { block := w.heap.size + 1, off := 0 }), u4, Value.slice (some { block := g1, off := o1 }) p.n c1, Value.int IntKind.i64 0, Value.slice A2 q.n c2, Value.int IntKind.i64 0, Value.int IntKind.i64 ↑j, Value.pointer (some { block := WO.heap.size, off := 0 }), Value.pointer (some { block := U14.heap.size, off := 0 }), Value.int IntKind.i64 0, Value.pointer (some { block := U18.heap.size, off := 0 }), Value.int IntKind.i64 0, u15, u16, u17, u18, Value.bool true, Value.bool false, trV t p, Value.bool true, Value.bool false, Value.bool false, trV u q, Value.bool true, Value.bool false, Value.bool false, Value.pointer (some { block := w.heap.size, off := 6 }), Value.agg (dgC t.salt).toArray, Value.pointer (some { block := w.heap.size + 1, off := 6 }), Value.tuple #[Value.slice (some { block := g1, off := o1 }) p.n c1, Value.int IntKind.i64 0], trV t p, Value.tuple #[Value.slice (some { block := g1, off := o1 }) p.n c1, Value.int IntKind.i64 0], Value.slice (some { block := g1, off := o1 }) p.n c1, Value.int IntKind.i64 0, Value.tuple #[Value.slice A2 q.n c2, Value.int IntKind.i64 0], trV (trS u t.salt) q, Value.tuple #[Value.slice A2 q.n c2, Value.int IntKind.i64 0], Value.slice A2 q.n c2, Value.int IntKind.i64 0, Value.int IntKind.i64 0, Value.bool false, Value.bool false, Value.int IntKind.i64 0, Value.bool false, Value.bool false, Value.slice (some { block := g1, off := o1 }) p.n c1, Value.int IntKind.i64 ↑p.n, Value.pointer (some { block := w.heap.size, off := 4 }), Value.slice (some { block := gj, off := oj }) p.n p.c, Value.int IntKind.i64 ↑p.n, Value.bool false, Value.bool false, Value.slice A2 q.n c2, Value.int IntKind.i64 ↑q.n, Value.pointer (some { block := w.heap.size + 1, off := 4 }), Value.slice q.A q.n q.c, Value.int IntKind.i64 ↑q.n, Value.bool false, Value.bool false, Value.pointer (some { block := w.heap.size, off := 4 }), Value.slice (some { block := gj, off := oj }) p.n p.c, Value.int IntKind.i64 ↑p.n, Value.int IntKind.i64 ↑j, Value.bool true, Value.int IntKind.i64 ↑j, Value.pointer (some { block := gj, off := oj + j * 5 }), lnV x, Value.tuple #[Value.agg (shCL (↑j) x s As ns cs).toArray, Value.int IntKind.i64 0], trV t p, Value.int IntKind.i64 ↑j, Value.tuple #[Value.agg (shCL (↑j) x s As ns cs).toArray, Value.int IntKind.i64 0], Value.agg (shCL (↑j) x s As ns cs).toArray, Value.int IntKind.i64 0, Value.tuple #[Value.agg (ndC y).toArray, Value.int IntKind.i64 0], lnV x, Value.pointer (some { block := U14.heap.size, off := 6 }), dgV s, Value.tuple #[Value.agg (ndC y).toArray, Value.int IntKind.i64 0], Value.agg (ndC y).toArray, Value.int IntKind.i64 0, fx 0, fx 1, fx 2, fx 3, fx 4, fx 5, fx 6, fx 7, fx 8, fx 9, fx 10, fx 11, fx 12, fx 13, fx 14, fx 15, fx 16, fx 17, fx 18, fx 19, fx 20, fx 21, fx 22, fx 23, fx 24, fx 25, fx 26, fx 27, u111, u112, u113, u114, u115, u116, u117, u118, u119, u120, u121, u122, u123, u124, u125, u126, u127, u128, u129, u130, u131, u132, u133, u134, u135, u136, u137, u138, u139, u140, u141, u142, u143, u144, u145, u146, u147, u148, u149]) (fun i => bif Nat.beq i 0 then u83 else bif Nat.beq i 1 then u84 else bif Nat.beq i 2 then u85 else bif Nat.beq i 3 then u86 else bif Nat.beq i 4 then u87 else bif Nat.beq i 5 then u88 else bif Nat.beq i 6 then u89 else bif Nat.beq i 7 then u90 else bif Nat.beq i 8 then u91 else bif Nat.beq i 9 then u92 else bif Nat.beq i 10 then u93 else bif Nat.beq i 11 then u94 else bif Nat.beq i 12 then u95 else bif Nat.beq i 13 then u96 else bif Nat.beq i 14 then u97 else bif Nat.beq i 15 then u98 else bif Nat.beq i 16 then u99 else bif Nat.beq i 17 then u100 else bif Nat.beq i 18 then u101 else bif Nat.beq i 19 then u102 else bif Nat.beq i 20 then u103 else bif Nat.beq i 21 then u104 else bif Nat.beq i 22 then u105 else bif Nat.beq i 23 then u106 else bif Nat.beq i 24 then u107 else bif Nat.beq i 25 then u108 else bif Nat.beq i 26 then u109 else bif Nat.beq i 27 then u110 else undef) (fun w' => Below V20.heap.size V20 w') (fun fi fv _ _ => wSt g1 o1 c1 j p t x s y U14.heap.size w.heap.size WO.heap.size fi fv) (Lib.hid ((Below.refl V20.heap.size V20).drew)).out ?_ ?_
      · refine ⟨?_, ?_, ?_, ?_, ?_, ?_, ?_, ?_, ?_, ?_, ?_, ?_, ?_, ?_, ?_, ?_, ?_, ?_, ?_, ?_, ?_, ?_, ?_, ?_, ?_, ?_, ?_, ?_, trivial⟩
        all_goals intro fx w' hC hd
        · go_wp2_with fail
          exact ⟨_, rfl, hC, rfl, fun _ _ _ _ h => h⟩
        · have h0 : fx 0 = Value.int .i64 0 := hd.1 rfl
          go_wp2_with fail
          exact ⟨_, (by simp only [upd, h0]; rfl), hC, rfl, fun _ _ _ _ h => h⟩
        · have h1 : fx 1 = Value.bool false := hd.1 rfl
          go_wp2_with fail
          exact ⟨_, (by simp only [upd, h1]; rfl), hC, rfl, fun _ _ _ _ h => h⟩
        · have h2 : fx 2 = Value.bool false := hd.1 rfl
          go_wp2_with fail
          exact ⟨_, (by simp only [upd, h2]; rfl), hC, rfl, fun _ _ _ _ h => h⟩
        · have h3 : fx 3 = Value.int .i64 0 := hd.1 rfl
          have h2 : fx 2 = Value.bool false := hd.2.1 rfl
          go_wp2_with fail
          exact ⟨_, (by simp only [upd, h3, h2]; rfl), hC, rfl, fun _ _ _ _ h => h⟩
        · have h2 : fx 2 = Value.bool false := hd.1 rfl
          have h4 : fx 4 = Value.bool false := hd.2.1 rfl
          go_wp2_with fail
          exact ⟨_, (by simp only [upd, h2, h4]; rfl), hC, rfl, fun _ _ _ _ h => h⟩
        · have h5 : fx 5 = Value.bool false := hd.1 rfl
          go_wp2_with fail
          exact ⟨_, (by simp only [upd, h5]; rfl), hC, rfl, fun _ _ _ _ h => h⟩
        · have h6 : fx 6 = Value.bool false := hd.1 rfl
          dsimp only
          rw [h6]
          refine wpList_unguard rfl ?_
          have hrow := row_kept RN20.out hC
          refine wpList_load_row rfl 31 (.tmp 13) rfl (U18.heap.size) rfl 31 _ (0, 0) _ hrow Tryd.underlying31 rfl HS34.out ?_
          rw [show Value.agg (ndC y).toArray = ndV y from rfl]
          go_wp2_with fail
          exact ⟨_, (by simp only [upd, h6]; rfl), hC, rfl, fun _ _ _ _ h => h⟩
        · have h6 : fx 6 = Value.bool false := hd.1 rfl
          go_wp2_with fail
          exact ⟨_, (by simp only [upd, h6]; rfl), hC, rfl, fun _ _ _ _ h => h⟩
        · have h6 : fx 6 = Value.bool false := hd.1 rfl
          go_wp2_with fail
          exact ⟨_, (by simp only [upd, h6]; rfl), hC, rfl, fun _ _ _ _ h => h⟩
        · have h8 : fx 8 = Value.slice (some ⟨g1, o1, none⟩) p.n c1 := hd.1 rfl
          have h9 : fx 9 = Value.int .i64 ((j : Nat)) := hd.2.1 rfl
          have h6 : fx 6 = Value.bool false := hd.2.2.1 rfl
          go_wp2_with fail
          exact ⟨_, (by simp only [upd, h8, h9, h6]; rfl), hC, rfl, fun _ _ _ _ h => h⟩
        · have h10 : fx 10 = Value.pointer (some ⟨g1, o1 + j * 34, none⟩) := hd.1 rfl
          have h6 : fx 6 = Value.bool false := hd.2.1 rfl
          dsimp only
          rw [h6]
          refine wpList_unguard rfl ?_
          have hrow := rangeAt_below KN.out (block_lt_of_cell (KN.out 32 _ (ndC_c HYO.out))) hC
          refine wpList_load_mid rfl 31 (.tmp 93) rfl g1 (o1 + j * 34) h10 (ndC y) _ hrow Tryd.underlying31 rfl HSL.out ?_
          rw [show Value.agg (ndC y).toArray = ndV y from rfl]
          go_wp2_with fail
          exact ⟨_, (by simp only [upd, h10, h6]; rfl), hC, rfl, fun _ _ _ _ h => h⟩
        · have h7 : fx 7 = ndV y := hd.1 rfl
          have h11 : fx 11 = ndV y := hd.2.1 rfl
          have h6 : fx 6 = Value.bool false := hd.2.2.1 rfl
          dsimp only
          rw [h6]
          refine wpList_unguard rfl ?_
          refine wpList_neq_nd rfl (.tmp 90) (.tmp 94) _ rfl y y h7 h11 HYO.out HYO.out ?_
          rw [ndEq_refl]
          go_wp2_with fail
          exact ⟨_, (by simp only [upd, h7, h11, h6]; rfl), hC, rfl, fun _ _ _ _ h => h⟩
        · have h6 : fx 6 = Value.bool false := hd.1 rfl
          have h12 : fx 12 = Value.bool false := hd.2.1 rfl
          go_wp2_with fail
          exact ⟨_, (by simp only [upd, h6, h12]; rfl), hC, rfl, fun _ _ _ _ h => h⟩
        · have h13 : fx 13 = Value.bool false := hd.1 rfl
          go_wp2_with fail
          exact ⟨_, (by simp only [upd, h13]; rfl), hC, rfl, fun _ _ _ _ h => h⟩
        · have h14 : fx 14 = Value.bool false := hd.1 rfl
          go_wp2_with fail
          exact ⟨_, (by simp only [upd, h14]; rfl), hC, rfl, fun _ _ _ _ h => h⟩
        · have h15 : fx 15 = Value.pointer (some ⟨U14.heap.size, 6, none⟩) := hd.1 rfl
          have h14 : fx 14 = Value.bool false := hd.2.1 rfl
          dsimp only
          rw [h14]
          refine wpList_unguard rfl ?_
          have hrow := shCL_s (row_kept RS21.out hC)
          refine wpList_load_mid rfl 25 (.tmp 98) rfl (U14.heap.size) 6 h15 (dgC s) _ hrow Tryd.underlying25 rfl HSD.out ?_
          rw [← dgV_agg s]
          go_wp2_with fail
          exact ⟨_, (by simp only [upd, h15, h14]; rfl), hC, rfl, fun _ _ _ _ h => h⟩
        · have h14 : fx 14 = Value.bool false := hd.1 rfl
          go_wp2_with fail
          exact ⟨_, (by simp only [upd, h14]; rfl), hC, rfl, fun _ _ _ _ h => h⟩
        · have h17 : fx 17 = Value.pointer (some ⟨w.heap.size, 6, none⟩) := hd.1 rfl
          have h14 : fx 14 = Value.bool false := hd.2.1 rfl
          dsimp only
          rw [h14]
          refine wpList_unguard rfl ?_
          have hrow := tr_salt (row_kept RT21.out hC)
          refine wpList_load_mid rfl 25 (.tmp 100) rfl (w.heap.size) 6 h17 (dgC t.salt) _ hrow Tryd.underlying25 rfl HSI2.out ?_
          rw [← dgV_agg t.salt]
          go_wp2_with fail
          exact ⟨_, (by simp only [upd, h17, h14]; rfl), hC, rfl, fun _ _ _ _ h => h⟩
        · have h14 : fx 14 = Value.bool false := hd.1 rfl
          go_wp2_with fail
          exact ⟨_, (by simp only [upd, h14]; rfl), hC, rfl, fun _ _ _ _ h => h⟩
        · have h19 : fx 19 = Value.pointer (some ⟨WO.heap.size, 1, none⟩) := hd.1 rfl
          have h14 : fx 14 = Value.bool false := hd.2.1 rfl
          have hm : w'.cell? ⟨WO.heap.size, 1, none⟩ = some (.int .i64 x.c1) := by rw [cell_of_row _ _ _ _ _ _ (row_kept RX21.out hC)]; rfl
          go_wp2_with fail
          exact ⟨_, (by simp only [upd, h19, h14]; rfl), hC, rfl, fun _ _ _ _ h => h⟩
        · have h20 : fx 20 = Value.int .i64 (x.c1) := hd.1 rfl
          have h14 : fx 14 = Value.bool false := hd.2.1 rfl
          have hw4 : IntKind.i64.wrap (4096 * x.c1) = 4096 * x.c1 := IntWalk.i64_in _ (by omega)
          go_wp2_with fail
          exact ⟨_, (by simp only [upd, h20, h14]; rfl), hC, rfl, fun _ _ _ _ h => h⟩
        · have h14 : fx 14 = Value.bool false := hd.1 rfl
          go_wp2_with fail
          exact ⟨_, (by simp only [upd, h14]; rfl), hC, rfl, fun _ _ _ _ h => h⟩
        · have h22 : fx 22 = Value.pointer (some ⟨WO.heap.size, 0, none⟩) := hd.1 rfl
          have h14 : fx 14 = Value.bool false := hd.2.1 rfl
          have hm : w'.cell? ⟨WO.heap.size, 0, none⟩ = some (.int .i64 x.c0) := by rw [cell_of_row _ _ _ _ _ _ (row_kept RX21.out hC)]; rfl
          go_wp2_with fail
          exact ⟨_, (by simp only [upd, h22, h14]; rfl), hC, rfl, fun _ _ _ _ h => h⟩
        · have h21 : fx 21 = Value.int .i64 (4096 * x.c1) := hd.1 rfl
          have h23 : fx 23 = Value.int .i64 (x.c0) := hd.2.1 rfl
          have h14 : fx 14 = Value.bool false := hd.2.2.1 rfl
          have hw4 : IntKind.i64.wrap (4096 * x.c1 + x.c0) = 4096 * x.c1 + x.c0 := IntWalk.i64_in _ (by omega)
          go_wp2_with fail
          exact ⟨_, (by simp only [upd, h21, h23, h14]; rfl), hC, rfl, fun _ _ _ _ h => h⟩
        · have h18 : fx 18 = dgV t.salt := hd.1 rfl
          have h24 : fx 24 = Value.int .i64 (4096 * x.c1 + x.c0) := hd.2.1 rfl
          have h14 : fx 14 = Value.bool false := hd.2.2.2.1 rfl
          have HTK := Lib.hid (KT21.out.below hC)
          have HSL32 : Hid (t.salt.length = 32) := Lib.hid HSA.out.len
          have HSB : Hid (Bytes t.salt) := Lib.hid HSA.out.bytes
          go_wp2_with fail
          refine (salt_any t.salt 1 (4096 * x.c1 + x.c0) w' HSL32 HSB (by omega) (by omega) (by omega) (by omega) HTK).mono ?_
          rintro e w2 ⟨rfl, hq⟩
          rw [show saltN t.salt 1 (4096 * x.c1 + x.c0) = s by rw [← hvn]; exact HS.out]
          go_wp2_with fail
          exact ⟨_, (by simp only [upd, h18, h24, h14]; rfl), hC.trans (hq.mono hC.size), rfl, fun _ _ _ _ h => h⟩
        · have h16 : fx 16 = dgV s := hd.1 rfl
          have h25 : fx 25 = dgV s := hd.2.1 rfl
          have h14 : fx 14 = Value.bool false := hd.2.2.1 rfl
          dsimp only
          rw [h14]
          refine wpList_unguard rfl ?_
          refine wpList_neq_dg rfl (.tmp 99) (.tmp 108) _ rfl s s h16 h25 HSO.out HSO.out ?_
          rw [beq_self_eq_true]
          go_wp2_with fail
          exact ⟨_, (by simp only [upd, h16, h25, h14]; rfl), hC, rfl, fun _ _ _ _ h => h⟩
        · have h14 : fx 14 = Value.bool false := hd.1 rfl
          have h26 : fx 26 = Value.bool false := hd.2.1 rfl
          go_wp2_with fail
          exact ⟨_, (by simp only [upd, h14, h26]; rfl), hC, rfl, fun _ _ _ _ h => h⟩
      · intro fx w' hC hS
        have h0 : fx 0 = Value.int .i64 0 := hS 0 (by decide)
        have h1 : fx 1 = Value.bool false := hS 1 (by decide)
        have h2 : fx 2 = Value.bool false := hS 2 (by decide)
        have h3 : fx 3 = Value.int .i64 0 := hS 3 (by decide)
        have h4 : fx 4 = Value.bool false := hS 4 (by decide)
        have h5 : fx 5 = Value.bool false := hS 5 (by decide)
        have h6 : fx 6 = Value.bool false := hS 6 (by decide)
        have h7 : fx 7 = ndV y := hS 7 (by decide)
        have h8 : fx 8 = Value.slice (some ⟨g1, o1, none⟩) p.n c1 := hS 8 (by decide)
        have h9 : fx 9 = Value.int .i64 ((j : Nat)) := hS 9 (by decide)
        have h10 : fx 10 = Value.pointer (some ⟨g1, o1 + j * 34, none⟩) := hS 10 (by decide)
        have h11 : fx 11 = ndV y := hS 11 (by decide)
        have h12 : fx 12 = Value.bool false := hS 12 (by decide)
        have h13 : fx 13 = Value.bool false := hS 13 (by decide)
        have h14 : fx 14 = Value.bool false := hS 14 (by decide)
        have h15 : fx 15 = Value.pointer (some ⟨U14.heap.size, 6, none⟩) := hS 15 (by decide)
        have h16 : fx 16 = dgV s := hS 16 (by decide)
        have h17 : fx 17 = Value.pointer (some ⟨w.heap.size, 6, none⟩) := hS 17 (by decide)
        have h18 : fx 18 = dgV t.salt := hS 18 (by decide)
        have h19 : fx 19 = Value.pointer (some ⟨WO.heap.size, 1, none⟩) := hS 19 (by decide)
        have h20 : fx 20 = Value.int .i64 (x.c1) := hS 20 (by decide)
        have h21 : fx 21 = Value.int .i64 (4096 * x.c1) := hS 21 (by decide)
        have h22 : fx 22 = Value.pointer (some ⟨WO.heap.size, 0, none⟩) := hS 22 (by decide)
        have h23 : fx 23 = Value.int .i64 (x.c0) := hS 23 (by decide)
        have h24 : fx 24 = Value.int .i64 (4096 * x.c1 + x.c0) := hS 24 (by decide)
        have h25 : fx 25 = dgV s := hS 25 (by decide)
        have h26 : fx 26 = Value.bool false := hS 26 (by decide)
        have h27 : fx 27 = Value.bool false := hS 27 (by decide)
        rw [h0, h1, h2, h3, h4, h5, h6, h7, h8, h9, h10, h11, h12, h13, h14, h15, h16, h17, h18, h19, h20, h21, h22, h23, h24, h25, h26, h27]
        clear h0 h1 h2 h3 h4 h5 h6 h7 h8 h9 h10 h11 h12 h13 h14 h15 h16 h17 h18 h19 h20 h21 h22 h23 h24 h25 h26 h27 hS
        have HB22 := Lib.hid (HB21.out.trans (hC.mono HB21.out.size))
        have RT22 := Lib.hid (row_kept RT21.out hC)
        have RU22 := Lib.hid (row_kept RU21.out hC)
        have RX22 := Lib.hid (row_kept RX21.out hC)
        have RS22 := Lib.hid (row_kept RS21.out hC)
        have RN22 := Lib.hid (row_kept RN20.out hC)
        have KO22 := Lib.hid (KO21.out.below hC)
        have KP22 := Lib.hid (KP21.out.below hC)
        have KT22 := Lib.hid (KT21.out.below hC)
        have KA22 := Lib.hid (KA21.out.below hC)
        have KC22 := Lib.hid (KC21.out.below hC)
        have KBR22 := Lib.hid (KBR21.out.trans (hC.mono KBR21.out.size))
        clear hC HB21 RT21 RU21 RX21 RS21 RN20 KO21 KP21 KT21 KA21 KC21 KBR21
        have ku : w'.cell? ⟨(w.heap.size + 1), 4, none⟩ = some (.slice q.A q.n q.c) := by rw [cell_of_row _ _ _ _ _ _ RU22.out]; rfl
        go_wp2_with fail
        clear ku d1 d2
        generalize w' = W7 at *
        go_loopw [114] (fun s1 wr => ∃ k1 : Nat, k1 ≤ q.n ∧ s1 = .int .i64 (k1 : Nat) ∧ Hid (Below W7.heap.size W7 wr)) (fun s1 _ => q.n - (intOf s1).toNat)
        case atStart => exact ⟨0, by omega, rfl, Lib.hid (Below.refl _ _)⟩
        case round =>
          obtain ⟨k1, hk1, rfl, HBW⟩ := hrel
          have HB23 := Lib.hid (HB22.out.trans (HBW.out.mono HB22.out.size))
          have RT23 := Lib.hid (row_kept RT22.out HBW.out)
          have RU23 := Lib.hid (row_kept RU22.out HBW.out)
          have RX23 := Lib.hid (row_kept RX22.out HBW.out)
          have RS23 := Lib.hid (row_kept RS22.out HBW.out)
          have RN23 := Lib.hid (row_kept RN22.out HBW.out)
          have KO23 := Lib.hid (KO22.out.below HBW.out)
          have KP23 := Lib.hid (KP22.out.below HBW.out)
          have KT23 := Lib.hid (KT22.out.below HBW.out)
          have KA23 := Lib.hid (KA22.out.below HBW.out)
          have KC23 := Lib.hid (KC22.out.below HBW.out)
          have KBR23 := Lib.hid (KBR22.out.trans (HBW.out.mono KBR22.out.size))
          have HBQ := HBW
          clear HBW
          by_cases hlt2 : k1 < q.n
          · have d1 : decide ((k1 : Int) < (q.n : Int)) = true := decide_eq_true (by omega)
            have d2 : decide (k1 < q.n) = true := decide_eq_true hlt2
            have hjl : k1 < u.ln.length := by have := HNU.out; omega
            obtain ⟨gk1, ok1, eA, hgl, hr⟩ := KP23.out.ln.rd (by show 0 < u.ln.length; omega)
            obtain ⟨v, HX1⟩ : ∃ x, Hid (u.ln[k1] = x) := ⟨_, Lib.hid rfl⟩
            have HXk1 : Hid (u.ln[k1]? = some v) := Lib.hid (by rw [List.getElem?_eq_getElem hjl, HX1.out])
            have KXk1 : Hid (wr.rangeAt gk1 (ok1 + k1 * 5) (lnC v)) := Lib.hid (by rw [← HX1.out]; exact range_elem (k := 5) (cells := lnC) (fun _ => rfl) hr k1 hjl)
            have HIIk1 := Lib.hid (lnC_infoL v)
            have HIAk1 := Lib.hid (lnC_info v)
            clear hgl hr HX1 hjl
            rw [eA]
            obtain ⟨V24, HV24⟩ : ∃ W, Hid ((wr.alloc (.cells #[.int .i64 0, .int .i64 0, .int .i64 0, .int .i64 0, .int .i64 0] 41)).setRow wr.heap.size (lnC v).toArray = W) := ⟨_, Lib.hid rfl⟩
            have hw := setRow_heap (wr.alloc (.cells #[.int .i64 0, .int .i64 0, .int .i64 0, .int .i64 0, .int .i64 0] 41)) wr.heap.size _ (lnC v).toArray _ _ (heap_alloc_new wr _)
            have hb := below_setRow ((Below.refl _ wr).alloc (Nat.le_refl _) (.cells #[.int .i64 0, .int .i64 0, .int .i64 0, .int .i64 0, .int .i64 0] 41)) (Nat.le_refl _) (lnC v).toArray
            rw [HV24.out] at hw hb
            have HB25 := Lib.hid (HB23.out.trans (hb.mono HB23.out.size))
            have RT25 := Lib.hid (row_kept RT23.out hb)
            have RU25 := Lib.hid (row_kept RU23.out hb)
            have RX25 := Lib.hid (row_kept RX23.out hb)
            have RS25 := Lib.hid (row_kept RS23.out hb)
            have RN25 := Lib.hid (row_kept RN23.out hb)
            have KO25 := Lib.hid (KO23.out.below hb)
            have KP25 := Lib.hid (KP23.out.below hb)
            have KT25 := Lib.hid (KT23.out.below hb)
            have KA25 := Lib.hid (KA23.out.below hb)
            have KC25 := Lib.hid (KC23.out.below hb)
            have KBR25 := Lib.hid (KBR23.out.trans (hb.mono KBR23.out.size))
            have KBQ25 := Lib.hid (HBQ.out.trans (hb.mono HBQ.out.size))
            have RY24 := Lib.hid hw
            clear hw hb HB23 RT23 RU23 RX23 RS23 RN23 KO23 KP23 KT23 KA23 KC23 KBR23 HBQ
            by_cases hxv : lnEq x v = true
            · have hnle : (!lnEq x v) = false := by rw [hxv]; rfl
              have hexv := (lnEq_iff x v).1 hxv
              subst hexv
              go_wp2_with (first | (refine wpList_load_mid rfl 41 (.tmp 117) rfl (gk1) (ok1 + k1 * 5) rfl (lnC x) _ KXk1.out Tryd.underlying41 rfl HIIk1.out ?_) | (refine wpList_store_row rfl 41 (.tmp 16) (.tmp 118) rfl wr.heap.size (lnC x).toArray rfl rfl 41 _ (heap_alloc_new wr _) HIAk1.out rfl (lnC_one x) ?_; rw [HV24.out]) | (refine wpList_load_row rfl 41 (.tmp 10) rfl (WO.heap.size) rfl 41 _ (0, 0) _ RX25.out Tryd.underlying41 rfl HIAj.out ?_) | (refine wpList_load_row rfl 41 (.tmp 16) rfl (wr.heap.size) rfl 41 _ (0, 0) _ RY24.out Tryd.underlying41 rfl HIAk1.out ?_) | (refine wpList_neq_ln rfl (.tmp 119) (.tmp 120) _ rfl x x rfl rfl ?_; rw [hnle]) | (refine wpList_load_row rfl 27 (.tmp 3) rfl ((w.heap.size + 1)) rfl 27 _ (0, 0) _ RU25.out Tryd.underlying27 rfl HIV.out ?_))
              rw [show Value.agg (trC (trS u t.salt) q).toArray = trV (trS u t.salt) q from rfl]
              refine (shwL_yes (trS u t.salt) q k1 x _ KP25 KT25 hgu hlt2 HXk1).mono ?_
              rintro e U26 ⟨Bs, ms, ds, rfl, hin, hq⟩
              rw [show saltN (trS u t.salt).salt 1 (nLn x) = s from HS.out]
              clear hin
              have HB27 := Lib.hid (HB25.out.trans (hq.mono HB25.out.size))
              have RT27 := Lib.hid (row_kept RT25.out hq)
              have RU27 := Lib.hid (row_kept RU25.out hq)
              have RX27 := Lib.hid (row_kept RX25.out hq)
              have RS27 := Lib.hid (row_kept RS25.out hq)
              have RN27 := Lib.hid (row_kept RN25.out hq)
              have RY27 := Lib.hid (row_kept RY24.out hq)
              have KO27 := Lib.hid (KO25.out.below hq)
              have KP27 := Lib.hid (KP25.out.below hq)
              have KT27 := Lib.hid (KT25.out.below hq)
              have KA27 := Lib.hid (KA25.out.below hq)
              have KC27 := Lib.hid (KC25.out.below hq)
              have KBR27 := Lib.hid (KBR25.out.trans (hq.mono KBR25.out.size))
              have KBQ27 := Lib.hid (KBQ25.out.trans (hq.mono KBQ25.out.size))
              clear hq HB25 RT25 RU25 RX25 RS25 RN25 RY24 KO25 KP25 KT25 KA25 KC25 KBR25 KBQ25
              have HQI : Hid ((Tryd.prog.info? 44).map (·.size) = some (shCL (k1 : Nat) x s Bs ms ds).toArray.size) := Lib.hid (shCL_info HSO.out)
              have HQH : Hid (39 = (shCL (k1 : Nat) x s Bs ms ds).toArray.size) := Lib.hid (by simp [shCL, lnC, dgC_len32 HSO.out])
              obtain ⟨V28, HV28⟩ : ∃ W, Hid ((U26.alloc (.cells #[.int .i64 0, .int .i64 0, .int .i64 0, .int .i64 0, .int .i64 0, .int .i64 0, .int .u8 0, .int .u8 0, .int .u8 0, .int .u8 0, .int .u8 0, .int .u8 0, .int .u8 0, .int .u8 0, .int .u8 0, .int .u8 0, .int .u8 0, .int .u8 0, .int .u8 0, .int .u8 0, .int .u8 0, .int .u8 0, .int .u8 0, .int .u8 0, .int .u8 0, .int .u8 0, .int .u8 0, .int .u8 0, .int .u8 0, .int .u8 0, .int .u8 0, .int .u8 0, .int .u8 0, .int .u8 0, .int .u8 0, .int .u8 0, .int .u8 0, .int .u8 0, .slice none 0 0] 44)).setRow U26.heap.size (shCL (k1 : Nat) x s Bs ms ds).toArray = W) := ⟨_, Lib.hid rfl⟩
              have hw := setRow_heap (U26.alloc (.cells #[.int .i64 0, .int .i64 0, .int .i64 0, .int .i64 0, .int .i64 0, .int .i64 0, .int .u8 0, .int .u8 0, .int .u8 0, .int .u8 0, .int .u8 0, .int .u8 0, .int .u8 0, .int .u8 0, .int .u8 0, .int .u8 0, .int .u8 0, .int .u8 0, .int .u8 0, .int .u8 0, .int .u8 0, .int .u8 0, .int .u8 0, .int .u8 0, .int .u8 0, .int .u8 0, .int .u8 0, .int .u8 0, .int .u8 0, .int .u8 0, .int .u8 0, .int .u8 0, .int .u8 0, .int .u8 0, .int .u8 0, .int .u8 0, .int .u8 0, .int .u8 0, .slice none 0 0] 44)) U26.heap.size _ (shCL (k1 : Nat) x s Bs ms ds).toArray _ _ (heap_alloc_new U26 _)
              have hb := below_setRow ((Below.refl _ U26).alloc (Nat.le_refl _) (.cells #[.int .i64 0, .int .i64 0, .int .i64 0, .int .i64 0, .int .i64 0, .int .i64 0, .int .u8 0, .int .u8 0, .int .u8 0, .int .u8 0, .int .u8 0, .int .u8 0, .int .u8 0, .int .u8 0, .int .u8 0, .int .u8 0, .int .u8 0, .int .u8 0, .int .u8 0, .int .u8 0, .int .u8 0, .int .u8 0, .int .u8 0, .int .u8 0, .int .u8 0, .int .u8 0, .int .u8 0, .int .u8 0, .int .u8 0, .int .u8 0, .int .u8 0, .int .u8 0, .int .u8 0, .int .u8 0, .int .u8 0, .int .u8 0, .int .u8 0, .int .u8 0, .slice none 0 0] 44)) (Nat.le_refl _) (shCL (k1 : Nat) x s Bs ms ds).toArray
              rw [HV28.out] at hw hb
              have HB29 := Lib.hid (HB27.out.trans (hb.mono HB27.out.size))
              have RT29 := Lib.hid (row_kept RT27.out hb)
              have RU29 := Lib.hid (row_kept RU27.out hb)
              have RX29 := Lib.hid (row_kept RX27.out hb)
              have RS29 := Lib.hid (row_kept RS27.out hb)
              have RN29 := Lib.hid (row_kept RN27.out hb)
              have RY29 := Lib.hid (row_kept RY27.out hb)
              have KO29 := Lib.hid (KO27.out.below hb)
              have KP29 := Lib.hid (KP27.out.below hb)
              have KT29 := Lib.hid (KT27.out.below hb)
              have KA29 := Lib.hid (KA27.out.below hb)
              have KC29 := Lib.hid (KC27.out.below hb)
              have KBR29 := Lib.hid (KBR27.out.trans (hb.mono KBR27.out.size))
              have KBQ29 := Lib.hid (KBQ27.out.trans (hb.mono KBQ27.out.size))
              have RQ28 := Lib.hid hw
              clear hw hb HB27 RT27 RU27 RX27 RS27 RN27 RY27 KO27 KP27 KT27 KA27 KC27 KBR27 KBQ27
              go_wp2_with (refine wpList_store_row rfl 44 (.tmp 17) (.tmp 126) rfl U26.heap.size (shCL (k1 : Nat) x s Bs ms ds).toArray rfl rfl 44 _ (heap_alloc_new U26 _) HQI.out HQH.out (shCL_one _ _ _ _ _ _) ?_; rw [HV28.out])
              have KM24 : Hid (∃ g2 o2, A2 = some ⟨g2, o2, none⟩ ∧ V28.rangeAt g2 (o2 + k1 * 34) (ndC y)) := Lib.hid (node_at (t := trS u t.salt) KC29.out HXk1.out HS.out HY.out)
              obtain ⟨g2, o2, rfl, hk24⟩ := KM24.out
              have KM := Lib.hid hk24
              clear KM24 hk24
              obtain ⟨g3, o3, e3, hk3⟩ := node_at KA29.out HXj.out HS.out HY.out
              have e4 : g3 = g1 ∧ o3 = o1 := by simp only [Option.some.injEq, Addr.mk.injEq] at e3; exact ⟨e3.1.symm, e3.2.1.symm⟩
              obtain ⟨rfl, rfl⟩ := e4
              have KN2 := Lib.hid hk3
              clear e3 hk3
              refine region_flow (by kernel_rfl) (by kernel_rfl) (fun i => i) (by kernel_rfl) (fun fx => #[trV t p, trV u q, Value.pointer (some { block := w.heap.size, off := 0 }), Value.pointer (some { block := w.heap.size + 1, off := 0 }), u4, Value.slice (some { block := g3, off := o3 }) p.n c1, Value.int IntKind.i64 0, Value.slice (some { block := g2, off := o2 }) q.n c2, Value.int IntKind.i64 0, Value.int IntKind.i64 ↑j, Value.pointer (some { block := WO.heap.size, off := 0 }), Value.pointer (some { block := U14.heap.size, off := 0 }), Value.int IntKind.i64 0, Value.pointer (some { block := U18.heap.size, off := 0 }), Value.int IntKind.i64 0, Value.int IntKind.i64 ↑k1, Value.pointer (some { block := wr.heap.size, off := 0 }), Value.pointer (some { block := U26.heap.size, off := 0 }), Value.int IntKind.i64 0, Value.bool true, Value.bool false, trV t p, Value.bool true, Value.bool false, Value.bool false, trV u q, Value.bool true, Value.bool false, Value.bool false, Value.pointer (some { block := w.heap.size, off := 6 }), Value.agg (dgC t.salt).toArray, Value.pointer (some { block := w.heap.size + 1, off := 6 }), Value.tuple #[Value.slice (some { block := g3, off := o3 }) p.n c1, Value.int IntKind.i64 0], trV t p, Value.tuple #[Value.slice (some { block := g3, off := o3 }) p.n c1, Value.int IntKind.i64 0], Value.slice (some { block := g3, off := o3 }) p.n c1, Value.int IntKind.i64 0, Value.tuple #[Value.slice (some { block := g2, off := o2 }) q.n c2, Value.int IntKind.i64 0], trV (trS u t.salt) q, Value.tuple #[Value.slice (some { block := g2, off := o2 }) q.n c2, Value.int IntKind.i64 0], Value.slice (some { block := g2, off := o2 }) q.n c2, Value.int IntKind.i64 0, Value.int IntKind.i64 0, Value.bool false, Value.bool false, Value.int IntKind.i64 0, Value.bool false, Value.bool false, Value.slice (some { block := g3, off := o3 }) p.n c1, Value.int IntKind.i64 ↑p.n, Value.pointer (some { block := w.heap.size, off := 4 }), Value.slice (some { block := gj, off := oj }) p.n p.c, Value.int IntKind.i64 ↑p.n, Value.bool false, Value.bool false, Value.slice (some { block := g2, off := o2 }) q.n c2, Value.int IntKind.i64 ↑q.n, Value.pointer (some { block := w.heap.size + 1, off := 4 }), Value.slice (some { block := gk1, off := ok1 }) q.n q.c, Value.int IntKind.i64 ↑q.n, Value.bool false, Value.bool false, Value.pointer (some { block := w.heap.size, off := 4 }), Value.slice (some { block := gj, off := oj }) p.n p.c, Value.int IntKind.i64 ↑p.n, Value.int IntKind.i64 ↑j, Value.bool true, Value.int IntKind.i64 ↑j, Value.pointer (some { block := gj, off := oj + j * 5 }), lnV x, Value.tuple #[Value.agg (shCL (↑j) x s As ns cs).toArray, Value.int IntKind.i64 0], trV t p, Value.int IntKind.i64 ↑j, Value.tuple #[Value.agg (shCL (↑j) x s As ns cs).toArray, Value.int IntKind.i64 0], Value.agg (shCL (↑j) x s As ns cs).toArray, Value.int IntKind.i64 0, Value.tuple #[Value.agg (ndC y).toArray, Value.int IntKind.i64 0], lnV x, Value.pointer (some { block := U14.heap.size, off := 6 }), dgV s, Value.tuple #[Value.agg (ndC y).toArray, Value.int IntKind.i64 0], Value.agg (ndC y).toArray, Value.int IntKind.i64 0, Value.int IntKind.i64 0, Value.bool false, Value.bool false, Value.int IntKind.i64 0, Value.bool false, Value.bool false, Value.bool false, ndV y, Value.slice (some { block := g3, off := o3 }) p.n c1, Value.int IntKind.i64 ↑j, Value.pointer (some { block := g3, off := o3 + j * 34 }), ndV y, Value.bool false, Value.bool false, Value.bool false, Value.pointer (some { block := U14.heap.size, off := 6 }), dgV s, Value.pointer (some { block := w.heap.size, off := 6 }), dgV t.salt, Value.pointer (some { block := WO.heap.size, off := 1 }), Value.int IntKind.i64 x.c1, Value.int IntKind.i64 (4096 * x.c1), Value.pointer (some { block := WO.heap.size, off := 0 }), Value.int IntKind.i64 x.c0, Value.int IntKind.i64 (4096 * x.c1 + x.c0), dgV s, Value.bool false, Value.bool false, Value.pointer (some { block := w.heap.size + 1, off := 4 }), Value.slice (some { block := gk1, off := ok1 }) q.n q.c, Value.int IntKind.i64 ↑q.n, Value.int IntKind.i64 ↑k1, Value.bool true, Value.int IntKind.i64 ↑k1, Value.pointer (some { block := gk1, off := ok1 + k1 * 5 }), Value.agg (lnC x).toArray, Value.agg (lnC x).toArray, Value.agg (lnC x).toArray, Value.bool false, Value.tuple #[Value.agg (shCL (↑k1) x s Bs ms ds).toArray, Value.int IntKind.i64 0], trV (trS u t.salt) q, Value.int IntKind.i64 ↑k1, Value.tuple #[Value.agg (shCL (↑k1) x s Bs ms ds).toArray, Value.int IntKind.i64 0], Value.agg (shCL (↑k1) x s Bs ms ds).toArray, Value.int IntKind.i64 0, fx 0, fx 1, fx 2, fx 3, fx 4, fx 5, fx 6, fx 7, fx 8, fx 9, fx 10, fx 11, fx 12, fx 13, fx 14, fx 15, fx 16, fx 17, fx 18, fx 19, u148, u149]) (fun i => bif Nat.beq i 0 then u128 else bif Nat.beq i 1 then u129 else bif Nat.beq i 2 then u130 else bif Nat.beq i 3 then u131 else bif Nat.beq i 4 then u132 else bif Nat.beq i 5 then u133 else bif Nat.beq i 6 then u134 else bif Nat.beq i 7 then u135 else bif Nat.beq i 8 then u136 else bif Nat.beq i 9 then u137 else bif Nat.beq i 10 then u138 else bif Nat.beq i 11 then u139 else bif Nat.beq i 12 then u140 else bif Nat.beq i 13 then u141 else bif Nat.beq i 14 then u142 else bif Nat.beq i 15 then u143 else bif Nat.beq i 16 then u144 else bif Nat.beq i 17 then u145 else bif Nat.beq i 18 then u146 else bif Nat.beq i 19 then u147 else undef) (fun w' => Below V28.heap.size V28 w') (fun fi fv _ _ => wSu g2 o2 c2 k1 g3 o3 c1 j p q s y U26.heap.size U14.heap.size fi fv) (Lib.hid ((Below.refl V28.heap.size V28).drew)).out ?_ ?_
              · refine ⟨?_, ?_, ?_, ?_, ?_, ?_, ?_, ?_, ?_, ?_, ?_, ?_, ?_, ?_, ?_, ?_, ?_, ?_, ?_, ?_, trivial⟩
                all_goals intro fx w' hC hd
                · go_wp2_with fail
                  exact ⟨_, rfl, hC, rfl, fun _ _ _ _ h => h⟩
                · have h0 : fx 0 = Value.int .i64 0 := hd.1 rfl
                  go_wp2_with fail
                  exact ⟨_, (by simp only [upd, h0]; rfl), hC, rfl, fun _ _ _ _ h => h⟩
                · have h1 : fx 1 = Value.bool false := hd.1 rfl
                  go_wp2_with fail
                  exact ⟨_, (by simp only [upd, h1]; rfl), hC, rfl, fun _ _ _ _ h => h⟩
                · have h2 : fx 2 = Value.bool false := hd.1 rfl
                  go_wp2_with fail
                  exact ⟨_, (by simp only [upd, h2]; rfl), hC, rfl, fun _ _ _ _ h => h⟩
                · have h3 : fx 3 = Value.pointer (some ⟨U26.heap.size, 6, none⟩) := hd.1 rfl
                  have h2 : fx 2 = Value.bool false := hd.2.1 rfl
                  dsimp only
                  rw [h2]
                  refine wpList_unguard rfl ?_
                  have hrow := shCL_s (row_kept RQ28.out hC)
                  refine wpList_load_mid rfl 25 (.tmp 131) rfl (U26.heap.size) 6 h3 (dgC s) _ hrow Tryd.underlying25 rfl HSD.out ?_
                  rw [← dgV_agg s]
                  go_wp2_with fail
                  exact ⟨_, (by simp only [upd, h3, h2]; rfl), hC, rfl, fun _ _ _ _ h => h⟩
                · have h2 : fx 2 = Value.bool false := hd.1 rfl
                  go_wp2_with fail
                  exact ⟨_, (by simp only [upd, h2]; rfl), hC, rfl, fun _ _ _ _ h => h⟩
                · have h5 : fx 5 = Value.pointer (some ⟨U14.heap.size, 6, none⟩) := hd.1 rfl
                  have h2 : fx 2 = Value.bool false := hd.2.1 rfl
                  dsimp only
                  rw [h2]
                  refine wpList_unguard rfl ?_
                  have hrow := shCL_s (row_kept RS29.out hC)
                  refine wpList_load_mid rfl 25 (.tmp 133) rfl (U14.heap.size) 6 h5 (dgC s) _ hrow Tryd.underlying25 rfl HSD.out ?_
                  rw [← dgV_agg s]
                  go_wp2_with fail
                  exact ⟨_, (by simp only [upd, h5, h2]; rfl), hC, rfl, fun _ _ _ _ h => h⟩
                · have h4 : fx 4 = dgV s := hd.1 rfl
                  have h6 : fx 6 = dgV s := hd.2.1 rfl
                  have h2 : fx 2 = Value.bool false := hd.2.2.1 rfl
                  dsimp only
                  rw [h2]
                  refine wpList_unguard rfl ?_
                  refine wpList_neq_dg rfl (.tmp 132) (.tmp 134) _ rfl s s h4 h6 HSO.out HSO.out ?_
                  rw [beq_self_eq_true]
                  go_wp2_with fail
                  exact ⟨_, (by simp only [upd, h4, h6, h2]; rfl), hC, rfl, fun _ _ _ _ h => h⟩
                · have h2 : fx 2 = Value.bool false := hd.1 rfl
                  have h7 : fx 7 = Value.bool false := hd.2.1 rfl
                  go_wp2_with fail
                  exact ⟨_, (by simp only [upd, h2, h7]; rfl), hC, rfl, fun _ _ _ _ h => h⟩
                · have h8 : fx 8 = Value.bool false := hd.1 rfl
                  go_wp2_with fail
                  exact ⟨_, (by simp only [upd, h8]; rfl), hC, rfl, fun _ _ _ _ h => h⟩
                · have h9 : fx 9 = Value.bool false := hd.1 rfl
                  go_wp2_with fail
                  exact ⟨_, (by simp only [upd, h9]; rfl), hC, rfl, fun _ _ _ _ h => h⟩
                · have h9 : fx 9 = Value.bool false := hd.1 rfl
                  go_wp2_with fail
                  exact ⟨_, (by simp only [upd, h9]; rfl), hC, rfl, fun _ _ _ _ h => h⟩
                · have h10 : fx 10 = Value.slice (some ⟨g2, o2, none⟩) q.n c2 := hd.1 rfl
                  have h11 : fx 11 = Value.int .i64 ((k1 : Nat)) := hd.2.1 rfl
                  have h9 : fx 9 = Value.bool false := hd.2.2.1 rfl
                  go_wp2_with fail
                  exact ⟨_, (by simp only [upd, h10, h11, h9]; rfl), hC, rfl, fun _ _ _ _ h => h⟩
                · have h12 : fx 12 = Value.pointer (some ⟨g2, o2 + k1 * 34, none⟩) := hd.1 rfl
                  have h9 : fx 9 = Value.bool false := hd.2.1 rfl
                  dsimp only
                  rw [h9]
                  refine wpList_unguard rfl ?_
                  have hrow := rangeAt_below KM.out (block_lt_of_cell (KM.out 32 _ (ndC_c HYO.out))) hC
                  refine wpList_load_mid rfl 31 (.tmp 140) rfl g2 (o2 + k1 * 34) h12 (ndC y) _ hrow Tryd.underlying31 rfl HSL.out ?_
                  rw [show Value.agg (ndC y).toArray = ndV y from rfl]
                  go_wp2_with fail
                  exact ⟨_, (by simp only [upd, h12, h9]; rfl), hC, rfl, fun _ _ _ _ h => h⟩
                · have h9 : fx 9 = Value.bool false := hd.1 rfl
                  go_wp2_with fail
                  exact ⟨_, (by simp only [upd, h9]; rfl), hC, rfl, fun _ _ _ _ h => h⟩
                · have h9 : fx 9 = Value.bool false := hd.1 rfl
                  go_wp2_with fail
                  exact ⟨_, (by simp only [upd, h9]; rfl), hC, rfl, fun _ _ _ _ h => h⟩
                · have h14 : fx 14 = Value.slice (some ⟨g3, o3, none⟩) p.n c1 := hd.1 rfl
                  have h15 : fx 15 = Value.int .i64 ((j : Nat)) := hd.2.1 rfl
                  have h9 : fx 9 = Value.bool false := hd.2.2.1 rfl
                  go_wp2_with fail
                  exact ⟨_, (by simp only [upd, h14, h15, h9]; rfl), hC, rfl, fun _ _ _ _ h => h⟩
                · have h16 : fx 16 = Value.pointer (some ⟨g3, o3 + j * 34, none⟩) := hd.1 rfl
                  have h9 : fx 9 = Value.bool false := hd.2.1 rfl
                  dsimp only
                  rw [h9]
                  refine wpList_unguard rfl ?_
                  have hrow := rangeAt_below KN2.out (block_lt_of_cell (KN2.out 32 _ (ndC_c HYO.out))) hC
                  refine wpList_load_mid rfl 31 (.tmp 144) rfl g3 (o3 + j * 34) h16 (ndC y) _ hrow Tryd.underlying31 rfl HSL.out ?_
                  rw [show Value.agg (ndC y).toArray = ndV y from rfl]
                  go_wp2_with fail
                  exact ⟨_, (by simp only [upd, h16, h9]; rfl), hC, rfl, fun _ _ _ _ h => h⟩
                · have h13 : fx 13 = ndV y := hd.1 rfl
                  have h17 : fx 17 = ndV y := hd.2.1 rfl
                  have h9 : fx 9 = Value.bool false := hd.2.2.1 rfl
                  dsimp only
                  rw [h9]
                  refine wpList_unguard rfl ?_
                  refine wpList_neq_nd rfl (.tmp 141) (.tmp 145) _ rfl y y h13 h17 HYO.out HYO.out ?_
                  rw [ndEq_refl]
                  go_wp2_with fail
                  exact ⟨_, (by simp only [upd, h13, h17, h9]; rfl), hC, rfl, fun _ _ _ _ h => h⟩
                · have h9 : fx 9 = Value.bool false := hd.1 rfl
                  have h18 : fx 18 = Value.bool false := hd.2.1 rfl
                  go_wp2_with fail
                  exact ⟨_, (by simp only [upd, h9, h18]; rfl), hC, rfl, fun _ _ _ _ h => h⟩
              · intro fx w' hC hS
                have h0 : fx 0 = Value.int .i64 0 := hS 0 (by decide)
                have h1 : fx 1 = Value.bool false := hS 1 (by decide)
                have h2 : fx 2 = Value.bool false := hS 2 (by decide)
                have h3 : fx 3 = Value.pointer (some ⟨U26.heap.size, 6, none⟩) := hS 3 (by decide)
                have h4 : fx 4 = dgV s := hS 4 (by decide)
                have h5 : fx 5 = Value.pointer (some ⟨U14.heap.size, 6, none⟩) := hS 5 (by decide)
                have h6 : fx 6 = dgV s := hS 6 (by decide)
                have h7 : fx 7 = Value.bool false := hS 7 (by decide)
                have h8 : fx 8 = Value.bool false := hS 8 (by decide)
                have h9 : fx 9 = Value.bool false := hS 9 (by decide)
                have h10 : fx 10 = Value.slice (some ⟨g2, o2, none⟩) q.n c2 := hS 10 (by decide)
                have h11 : fx 11 = Value.int .i64 ((k1 : Nat)) := hS 11 (by decide)
                have h12 : fx 12 = Value.pointer (some ⟨g2, o2 + k1 * 34, none⟩) := hS 12 (by decide)
                have h13 : fx 13 = ndV y := hS 13 (by decide)
                have h14 : fx 14 = Value.slice (some ⟨g3, o3, none⟩) p.n c1 := hS 14 (by decide)
                have h15 : fx 15 = Value.int .i64 ((j : Nat)) := hS 15 (by decide)
                have h16 : fx 16 = Value.pointer (some ⟨g3, o3 + j * 34, none⟩) := hS 16 (by decide)
                have h17 : fx 17 = ndV y := hS 17 (by decide)
                have h18 : fx 18 = Value.bool false := hS 18 (by decide)
                have h19 : fx 19 = Value.bool false := hS 19 (by decide)
                rw [h0, h1, h2, h3, h4, h5, h6, h7, h8, h9, h10, h11, h12, h13, h14, h15, h16, h17, h18, h19]
                clear h0 h1 h2 h3 h4 h5 h6 h7 h8 h9 h10 h11 h12 h13 h14 h15 h16 h17 h18 h19 hS
                have HB30 := Lib.hid (HB29.out.trans (hC.mono HB29.out.size))
                have RT30 := Lib.hid (row_kept RT29.out hC)
                have RU30 := Lib.hid (row_kept RU29.out hC)
                have RX30 := Lib.hid (row_kept RX29.out hC)
                have RS30 := Lib.hid (row_kept RS29.out hC)
                have RN30 := Lib.hid (row_kept RN29.out hC)
                have RY30 := Lib.hid (row_kept RY29.out hC)
                have RQ30 := Lib.hid (row_kept RQ28.out hC)
                have KO30 := Lib.hid (KO29.out.below hC)
                have KP30 := Lib.hid (KP29.out.below hC)
                have KT30 := Lib.hid (KT29.out.below hC)
                have KA30 := Lib.hid (KA29.out.below hC)
                have KC30 := Lib.hid (KC29.out.below hC)
                have KBR30 := Lib.hid (KBR29.out.trans (hC.mono KBR29.out.size))
                have KBQ30 := Lib.hid (KBQ29.out.trans (hC.mono KBQ29.out.size))
                clear hC HB29 RT29 RU29 RX29 RS29 RN29 RY29 RQ28 KO29 KP29 KT29 KA29 KC29 KBR29 KBQ29
                go_wp2_with fail
                go_roundw
                case rel => exact ⟨k1 + 1, by omega, by go_num, KBQ30⟩
                case measure => first | (simp [intOf]; done) | (simp [intOf]; omega)
            · have hnle : (!lnEq x v) = true := by rw [show lnEq x v = false by simpa using hxv]; rfl
              go_wp2_with (first | (refine wpList_load_mid rfl 41 (.tmp 117) rfl (gk1) (ok1 + k1 * 5) rfl (lnC v) _ KXk1.out Tryd.underlying41 rfl HIIk1.out ?_) | (refine wpList_store_row rfl 41 (.tmp 16) (.tmp 118) rfl wr.heap.size (lnC v).toArray rfl rfl 41 _ (heap_alloc_new wr _) HIAk1.out rfl (lnC_one v) ?_; rw [HV24.out]) | (refine wpList_load_row rfl 41 (.tmp 10) rfl (WO.heap.size) rfl 41 _ (0, 0) _ RX25.out Tryd.underlying41 rfl HIAj.out ?_) | (refine wpList_load_row rfl 41 (.tmp 16) rfl (wr.heap.size) rfl 41 _ (0, 0) _ RY24.out Tryd.underlying41 rfl HIAk1.out ?_) | (refine wpList_neq_ln rfl (.tmp 119) (.tmp 120) _ rfl x v rfl rfl ?_; rw [hnle]))
              go_roundw
              case rel => exact ⟨k1 + 1, by omega, by go_num, KBQ25⟩
              case measure => first | (simp [intOf]; done) | (simp [intOf]; omega)
          · have d1 : decide ((k1 : Int) < (q.n : Int)) = false := decide_eq_false (by omega)
            have d2 : decide (k1 < q.n) = false := decide_eq_false hlt2
            go_wp2_with fail
            go_roundw
            case rel => exact ⟨j + 1, by omega, by go_num, Lib.hid (KBR22.out.trans (HBQ.out.mono KBR22.out.size))⟩
            case measure => first | (simp [intOf]; done) | (simp [intOf]; omega)
    · have d1 : decide ((j : Int) < (p.n : Int)) = false := decide_eq_false (by omega)
      have d2 : decide (j < p.n) = false := decide_eq_false hlt
      go_wp2_with fail
      go_ret
      exact ⟨rfl, HB11.out⟩
theorem walk (w : World) (hT : Tabs w) (t : Tr) (p : TrP) (h : TrOk w t p) (u : Tr) (q : TrP) (k : TrOk w u q) :
    Calls Tryd.prog 6 #[trV t p, trV u q] w fun e w' => e = .returned (.bool true) ∧ Below w.heap.size w w' := by
  by_cases hf : p.n ≤ 12 ∧ p.n2 ≤ 12
  · by_cases hk : q.n ≤ 12 ∧ q.n2 ≤ 12
    · by_cases hg : trG t = true
      · by_cases hgu : trG (trS u t.salt) = true
        · exact good t p u q w (Lib.hid h) (Lib.hid k) (Lib.hid hT) hf.1 hf.2 hk.1 hk.2 (Lib.hid hg) (Lib.hid hgu)
        · exact bad2 t p u q w (Lib.hid h) (Lib.hid k) (Lib.hid hT) hf.1 hf.2 hk.1 hk.2 (Lib.hid hg) (Lib.hid (by simpa using hgu))
      · exact bad1 t p u q w (Lib.hid h) (Lib.hid k) (Lib.hid hT) hf.1 hf.2 hk.1 hk.2 (Lib.hid (by simpa using hg))
    · exact big2 t p u q w (Lib.hid h) (Lib.hid k) (Lib.hid hT) hf.1 hf.2 hk
  · exact big1 t p u q w (Lib.hid h) (Lib.hid k) (Lib.hid hT) hf
set_option maxRecDepth 100000 in
theorem lifted (os : Os) (started : os.Started) (H : Type) (enc : TypeId × Value → H) :
    ReturnsInHanded {} Tryd.checked os 6 .any (fun w args => (Rows.discloseStableSpec.pre enc Tryd.prog Tryd.f6 [] false w args ∧ laidMetH Tryd.prog laidL w) ∧ sizedMet enc Tryd.prog Tryd.f6 (OpenSpec.ofChange Rows.discloseStableSpec) false w args)
      (Rows.discloseStableSpec.post enc Tryd.prog Tryd.f6 false true false false) := by
  refine returnsInHanded_of_change_and (C := Tryd.checked) (X := fun w _ => laidMetH Tryd.prog laidL w) (fun _ _ _ hh h => h.of_heap hh) own started (by kernel_rfl) Tryd.func6
    (ChangeSpec.witness_shaped (enc := enc) (C := Tryd.checked) (os := os) (X := fun w _ => laidMetH Tryd.prog laidL w) false (World.doorLaid Tryd.prog 400 os) #[.agg (#[.int .i64 0, .int .i64 0, .int .i64 0, .int .i64 0, .slice none 0 0, .slice none 0 0] ++ Array.replicate 32 (.int .u8 0)), .agg (#[.int .i64 0, .int .i64 0, .int .i64 0, .int .i64 0, .slice none 0 0, .slice none 0 0] ++ Array.replicate 32 (.int .u8 0))] 8 rfl (World.shaped_of_RefB (by kernel_rfl) (by kernel_rfl)) (by kernel_rfl) (by kernel_rfl) (by kernel_rfl) (door_met os _)) ?_
  intro W base args ds gs before hval0 hW _ hsz0 hL _
  have hval : ∀ (j : Nat) t v, Tryd.f6.params[j]? = some t → args[j]? = some v → Value.okWide Tryd.prog W .any base t v := hval0
  have hW' := hW
  obtain ⟨p, q, hA0, hV, rfl, hfz, hnd⟩ := hW
  have hA : DataW.TrodAll enc Tryd.prog W 0 (fun _ => true) true Tryd.f6.params.toList args.toList ds p := hA0
  have hsz : (DataW.weightsEach Tryd.prog (Tryd.f6.params.toList ++ Rows.discloseStableSpec.plain.varTypes Tryd.prog) (ds ++ gs)).all (· ≤ reachBytes) = true := hsz0
  rw [Tryd.params6] at hA hval hsz
  obtain ⟨v0, vs0, d0, ds0, p0, q0, hargs, rfl, rfl, h0, r0⟩ := trodAll_cons hA
  obtain ⟨v1, vs1, d1, ds1, p1, q1, rfl, rfl, rfl, h1, r1⟩ := trodAll_cons r0
  obtain ⟨rfl, rfl, rfl⟩ := trodAll_nil r1
  obtain rfl : args = #[v0, v1] := by cases args; simp_all
  obtain ⟨rfl, rfl⟩ := trodVars_none hV
  obtain ⟨l0, y0, rfl, e0⟩ := arg_tr (hval 0 27 v0 rfl rfl) h0
  obtain ⟨l1, y1, rfl, e1⟩ := arg_tr (hval 1 27 v1 rfl rfl) h1
  refine (walk W (tabs_of hL) l0 y0 e0 l1 y1 e1).mono fun e W' ⟨he, hg⟩ => ?_
  subst he
  exact ⟨_, rfl, law_post (by kernel_rfl) rfl rfl (fun _ => ⟨rfl, rfl, rfl⟩) hW' hg⟩
theorem over : Rows.discloseStableRow.holds Tryd.pinned (OpenSpec.ofChange Rows.discloseStableSpec) :=
  OpenClaim.holds_of_wide 6 Tryd.f6 rfl rfl rfl rfl rfl rfl rfl ⟨rfl, rfl, rfl, rfl, rfl⟩ rfl rfl rfl rfl rfl (by kernel_rfl) Tryd.func6 (by kernel_rfl)
    (of_decide_eq_true (by kernel_rfl)) (by unfold Func.isWrapper; first | (rw [if_pos (by decide +kernel)]; kernel_rfl) | (rw [if_neg (by decide +kernel)]; exact ⟨rfl, rfl⟩))
    (fun os started H enc _ => lifted os started H enc)
/-- THE STATEMENT: the card -/
theorem proved : Rows.DiscloseStableCardSaid :=
  Claim7.holds_tied_plain_at .later [] [.data, .data] true Rows.discloseStableCard.stood.harness true
    over (fun _ h => by cases h) (by kernel_rfl) (fun _ h => by cases h) discloseStable_row_tie rfl ⟨rfl, rfl⟩ (by kernel_rfl) rfl
    (fun f fn hf hfn => by
      obtain rfl : f = 6 := Option.some.inj ((show Tryd.prog.funcNamed "sizar/sizarlaw42.DiscloseStable" = some 6 by kernel_rfl).symm.trans hf) |>.symm
      obtain rfl : fn = Tryd.f6 := (Option.some.inj (Tryd.func6.symm.trans hfn)).symm
      exact ⟨by kernel_rfl, fun j t ht => stands_of (show Tryd.f6.params.all (fun t => !Tryd.prog.wantsStandIn t) = true by kernel_rfl) ht⟩)
    (by kernel_rfl)
#print axioms proved
end Go.Proofs.YtmfmgeapecapiaaDoor.discloseStable
