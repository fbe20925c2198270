/- TreeClimbs: for all lines the law returns true: Climb leads from each leaf along its path to the root, with the sums of all lines. No conditions. -/
import Derived.Test.YtgcmbiegbclhmaaDoorArgNd
import Derived.Test.YtgcmbiegbclhmaaDoorTreeLawKit
import Derived.Lib.SmallJoins
import Derived.Test.YtgcmbiegbclhmaaDoorTreeApp
import Derived.Test.YtgcmbiegbclhmaaDoorCards
import Derived.Test.YtgcmbiegbclhmaaDoorTie
namespace Go.Proofs.YtgcmbiegbclhmaaDoor.treeClimbs
open Go.ChangeShapes Go.WideShapes Go.ChangeAt Go.RowKit SzSha SzTree
set_option linter.unusedVariables false
def wC3 (M : Nat) (q : Nd) (z : Nat) (g1 : Nat) (o1 : Nat) (n1 : Nat) (c1 : Nat) (A3 : Option Addr) (n3 : Nat) (c3 : Nat) (ps : List Nd) : Nat → Value → World → Prop
  | 0, fv, _ => fv = ndV q
  | 1, fv, _ => fv = Value.int .i64 ((z : Nat))
  | 2, fv, _ => fv = Value.slice (some ⟨g1, o1, none⟩) n1 c1
  | 3, fv, _ => fv = Value.int .i64 ((n1 : Nat))
  | 4, fv, fw => ∃ g, fv = .slice (some ⟨g, 0, none⟩) 0 0 ∧ M ≤ g ∧ fw.heap[g]? = some (.cells #[] 26 (0, 0))
  | 5, fv, _ => fv = Value.slice A3 n3 c3
  | 6, fv, fw => OwnN fw M fv ps
  | 7, fv, _ => fv = ndV q
  | 8, fv, fw => ∃ g, fv = .slice (some ⟨g, 0, none⟩) 1 1 ∧ M ≤ g ∧ fw.heap[g]? = some (.cells (flatN [q]).toArray 26 (0, 0))
  | 9, fv, fw => OwnN fw M fv (ps ++ [q])
  | 10, fv, _ => fv = Value.tuple #[ndV zeroN, .int .i64 1]
  | 11, fv, _ => fv = Value.tuple #[ndV zeroN, .int .i64 1]
  | 12, fv, _ => fv = ndV zeroN
  | 13, fv, _ => fv = Value.int .i64 (1)
  | 14, fv, fw => True
  | 15, fv, fw => True
  | 16, fv, _ => fv = Value.int .i64 (1)
  | _, _, _ => True
theorem wC3_below {M : Nat} {q : Nd} {z : Nat} {g1 : Nat} {o1 : Nat} {n1 : Nat} {c1 : Nat} {A3 : Option Addr} {n3 : Nat} {c3 : Nat} {ps : List Nd} {w w' : World} (hb : Below w.heap.size w w') : ∀ j v, wC3 M q z g1 o1 n1 c1 A3 n3 c3 ps j v w → wC3 M q z g1 o1 n1 c1 A3 n3 c3 ps j v w'
  | 0, v, h => h
  | 1, v, h => h
  | 2, v, h => h
  | 3, v, h => h
  | 4, v, ⟨g, h1, h2, h3⟩ => ⟨g, h1, h2, row_kept h3 hb⟩
  | 5, v, h => h
  | 6, v, h => h.below hb
  | 7, v, h => h
  | 8, v, ⟨g, h1, h2, h3⟩ => ⟨g, h1, h2, row_kept h3 hb⟩
  | 9, v, h => h.below hb
  | 10, v, h => h
  | 11, v, h => h
  | 12, v, h => h
  | 13, v, h => h
  | 14, v, h => h
  | 15, v, h => h
  | 16, v, h => h
  | n + 17, v, h => trivial
theorem wC3_pure {M : Nat} {q : Nd} {z : Nat} {g1 : Nat} {o1 : Nat} {n1 : Nat} {c1 : Nat} {A3 : Option Addr} {n3 : Nat} {c3 : Nat} {ps : List Nd} {w w' : World} : ∀ j v, j ≠ 4 → j ≠ 6 → j ≠ 8 → j ≠ 9 → j ≠ 14 → j ≠ 15 → wC3 M q z g1 o1 n1 c1 A3 n3 c3 ps j v w → wC3 M q z g1 o1 n1 c1 A3 n3 c3 ps j v w'
  | 0, v, _, _, _, _, _, _, h => h
  | 1, v, _, _, _, _, _, _, h => h
  | 2, v, _, _, _, _, _, _, h => h
  | 3, v, _, _, _, _, _, _, h => h
  | 4, v, hh, _, _, _, _, _, _ => absurd rfl hh
  | 5, v, _, _, _, _, _, _, h => h
  | 6, v, _, hh, _, _, _, _, _ => absurd rfl hh
  | 7, v, _, _, _, _, _, _, h => h
  | 8, v, _, _, hh, _, _, _, _ => absurd rfl hh
  | 9, v, _, _, _, hh, _, _, _ => absurd rfl hh
  | 10, v, _, _, _, _, _, _, h => h
  | 11, v, _, _, _, _, _, _, h => h
  | 12, v, _, _, _, _, _, _, h => h
  | 13, v, _, _, _, _, _, _, h => h
  | 14, v, _, _, _, _, hh, _, _ => absurd rfl hh
  | 15, v, _, _, _, _, _, hh, _ => absurd rfl hh
  | 16, v, _, _, _, _, _, _, h => h
  | n + 17, v, _, _, _, _, _, _, h => trivial
def wC7 (A5 : Option Addr) (q : Nd) (z : Nat) (g1 : Nat) (o1 : Nat) (n1 : Nat) (c1 : Nat) (g3 : Nat) (o3 : Nat) (n3 : Nat) (c3 : Nat) : Nat → Value → World → Prop
  | 0, fv, _ => fv = ndV q
  | 1, fv, _ => fv = Value.int .i64 ((z : Nat))
  | 2, fv, _ => fv = Value.slice (some ⟨g1, o1, none⟩) n1 c1
  | 3, fv, _ => fv = Value.int .i64 ((n1 : Nat))
  | 4, fv, _ => fv = Value.slice (some ⟨g3, o3, none⟩) n3 c3
  | 5, fv, _ => fv = Value.slice A5 (n3 - 1) (c3 - 1)
  | 6, fv, _ => fv = Value.tuple #[ndV zeroN, .int .i64 1]
  | 7, fv, _ => fv = Value.tuple #[ndV zeroN, .int .i64 1]
  | 8, fv, _ => fv = ndV zeroN
  | 9, fv, _ => fv = Value.int .i64 (1)
  | 10, fv, fw => True
  | 11, fv, fw => True
  | 12, fv, _ => fv = Value.int .i64 (1)
  | _, _, _ => True
theorem wC7_below {A5 : Option Addr} {q : Nd} {z : Nat} {g1 : Nat} {o1 : Nat} {n1 : Nat} {c1 : Nat} {g3 : Nat} {o3 : Nat} {n3 : Nat} {c3 : Nat} {w w' : World} (hb : Below w.heap.size w w') : ∀ j v, wC7 A5 q z g1 o1 n1 c1 g3 o3 n3 c3 j v w → wC7 A5 q z g1 o1 n1 c1 g3 o3 n3 c3 j v w'
  | 0, v, h => h
  | 1, v, h => h
  | 2, v, h => h
  | 3, v, h => h
  | 4, v, h => h
  | 5, v, h => h
  | 6, v, h => h
  | 7, v, h => h
  | 8, v, h => h
  | 9, v, h => h
  | 10, v, h => h
  | 11, v, h => h
  | 12, v, h => h
  | n + 13, v, h => trivial
theorem wC7_pure {A5 : Option Addr} {q : Nd} {z : Nat} {g1 : Nat} {o1 : Nat} {n1 : Nat} {c1 : Nat} {g3 : Nat} {o3 : Nat} {n3 : Nat} {c3 : Nat} {w w' : World} : ∀ j v, j ≠ 10 → j ≠ 11 → wC7 A5 q z g1 o1 n1 c1 g3 o3 n3 c3 j v w → wC7 A5 q z g1 o1 n1 c1 g3 o3 n3 c3 j v w'
  | 0, v, _, _, h => h
  | 1, v, _, _, h => h
  | 2, v, _, _, h => h
  | 3, v, _, _, h => h
  | 4, v, _, _, h => h
  | 5, v, _, _, h => h
  | 6, v, _, _, h => h
  | 7, v, _, _, h => h
  | 8, v, _, _, h => h
  | 9, v, _, _, h => h
  | 10, v, hh, _, _ => absurd rfl hh
  | 11, v, _, hh, _ => absurd rfl hh
  | 12, v, _, _, h => h
  | n + 13, v, _, _, h => trivial
set_option maxRecDepth 100000 in
set_option maxHeartbeats 8000000 in
theorem big (ls : List Ln) (A : Option Addr) (n c : Nat) (p : List Nat) (w : World) (HI : Hid (InLn w A n c ls)) (hp : Hid (p.length = 32)) (bp : Hid (Bytes p)) (hT : Hid (Tabs w)) (h : 24 < n) :
    Calls Tryd.prog 9 #[.slice A n c, dgV p] w fun e w' => e = .returned (.bool true) ∧ Below w.heap.size w w' := by
  have d0 : decide ((24 : Int) < (n : Int)) = true := decide_eq_true (by omega)
  have d00 : decide (24 < n) = true := decide_eq_true h
  have HNE := Lib.hid HI.out.len
  have hcap := HI.out.cap
  obtain ⟨X, HX⟩ : ∃ X, Hid ((p.map fun y => Value.int .u8 (y : Nat)).toArray = X) := ⟨_, Lib.hid rfl⟩
  have HDX : Hid (dgV p = .agg X) := Lib.hid (by unfold dgV; rw [HX.out])
  have HSX : Hid ((Tryd.prog.info? 24).map (·.size) = some X.size) := Lib.hid (by rw [← HX.out]; exact size32 _ hp.out)
  have HB0 := Lib.hid ((Below.refl _ w).alloc (Nat.le_refl _) (.cells X 24))
  have QA := Lib.hid (heap_alloc_new w (.cells X 24))
  clear HX
  rw [HDX.out]
  go_enter Tryd.func9, Tryd.ntmps9
  go_wp2_with fail
  refine (sane_any _ (Lib.hid (hT.out.below HB0.out))).mono ?_
  rintro e U1 ⟨rfl, hq⟩
  have HB1 := Lib.hid (HB0.out.trans (hq.mono HB0.out.size))
  have QA_1 := Lib.hid (row_kept QA.out hq)
  clear hq HB0 QA
  go_wp2_with fail
  go_ret
  exact ⟨rfl, HB1.out⟩
set_option maxRecDepth 100000 in
set_option maxHeartbeats 8000000 in
theorem bad (ls : List Ln) (A : Option Addr) (n c : Nat) (p : List Nat) (w : World) (HI : Hid (InLn w A n c ls)) (hp : Hid (p.length = 32)) (bp : Hid (Bytes p)) (hT : Hid (Tabs w)) (h : n ≤ 24) (hls : lsB ls = false) :
    Calls Tryd.prog 9 #[.slice A n c, dgV p] w fun e w' => e = .returned (.bool true) ∧ Below w.heap.size w w' := by
  have d0 : decide ((24 : Int) < (n : Int)) = false := decide_eq_false (by omega)
  have d00 : decide (24 < n) = false := decide_eq_false (by omega)
  have HLS := Lib.hid hls
  clear hls
  have HNE := Lib.hid HI.out.len
  have hcap := HI.out.cap
  obtain ⟨X, HX⟩ : ∃ X, Hid ((p.map fun y => Value.int .u8 (y : Nat)).toArray = X) := ⟨_, Lib.hid rfl⟩
  have HDX : Hid (dgV p = .agg X) := Lib.hid (by unfold dgV; rw [HX.out])
  have HSX : Hid ((Tryd.prog.info? 24).map (·.size) = some X.size) := Lib.hid (by rw [← HX.out]; exact size32 _ hp.out)
  have HB0 := Lib.hid ((Below.refl _ w).alloc (Nat.le_refl _) (.cells X 24))
  have QA := Lib.hid (heap_alloc_new w (.cells X 24))
  clear HX
  rw [HDX.out]
  go_enter Tryd.func9, Tryd.ntmps9
  go_wp2_with fail
  refine (sane_any _ (Lib.hid (hT.out.below HB0.out))).mono ?_
  rintro e U1 ⟨rfl, hq⟩
  have HB1 := Lib.hid (HB0.out.trans (hq.mono HB0.out.size))
  have QA_1 := Lib.hid (row_kept QA.out hq)
  clear hq HB0 QA
  go_wp2_with (refine wpList_load_row rfl 24 (.tmp 3) rfl w.heap.size rfl 24 _ (0, 0) _ QA_1.out Tryd.underlying24 rfl HSX.out ?_; rw [← HDX.out])
  refine (leaves_any ls p A n c _ (by omega) (Lib.hid (HI.out.below HB1.out)) hp bp (Lib.hid (hT.out.below HB1.out))).mono ?_
  rintro e U2 ⟨A1, n1, c1, rfl, hin1, hq⟩
  rw [HLS.out]
  rw [HLS.out] at hin1
  have HI1 := Lib.hid hin1
  clear hin1
  have HB2 := Lib.hid (HB1.out.trans (hq.mono HB1.out.size))
  have QA_2 := Lib.hid (row_kept QA_1.out hq)
  clear hq HB1 QA_1
  go_wp2_with fail
  go_ret
  exact ⟨rfl, HB2.out⟩
set_option maxRecDepth 100000 in
set_option maxHeartbeats 8000000 in
theorem good (ls : List Ln) (A : Option Addr) (n c : Nat) (p : List Nat) (w : World) (HI : Hid (InLn w A n c ls)) (hp : Hid (p.length = 32)) (bp : Hid (Bytes p)) (hT : Hid (Tabs w)) (h : n ≤ 24) (hls : lsB ls = true) :
    Calls Tryd.prog 9 #[.slice A n c, dgV p] w fun e w' => e = .returned (.bool true) ∧ Below w.heap.size w w' := by
  have d0 : decide ((24 : Int) < (n : Int)) = false := decide_eq_false (by omega)
  have d00 : decide (24 < n) = false := decide_eq_false (by omega)
  have HLS := Lib.hid hls
  have hn1000 : ls.length ≤ 1000 := by rw [HI.out.len]; omega
  have HVP : Hid (rootE (lvs ls p) = 0) := Lib.hid (rootE_lvs p hls hn1000)
  have HOP := Lib.hid (lvs_ok p hls)
  have HVL := Lib.hid (vL_lvs p hls hn1000)
  have HSU := Lib.hid (rootR_sums (l := lvs ls p) (by rw [lvs_length]; omega) (vL_lvs p hls hn1000))
  have HLL : Hid ((lvs ls p).length = n) := Lib.hid (by rw [lvs_length]; exact HI.out.len)
  obtain ⟨x, HXR⟩ : ∃ x, Hid (rootR (lvs ls p) = x) := ⟨_, Lib.hid rfl⟩
  have HXO : Hid (NdOk x) := Lib.hid (by rw [← HXR.out]; exact rootR_ok HOP.out)
  rw [HXR.out] at HSU
  clear hls hn1000
  have HNE := Lib.hid HI.out.len
  have hcap := HI.out.cap
  obtain ⟨X, HX⟩ : ∃ X, Hid ((p.map fun y => Value.int .u8 (y : Nat)).toArray = X) := ⟨_, Lib.hid rfl⟩
  have HDX : Hid (dgV p = .agg X) := Lib.hid (by unfold dgV; rw [HX.out])
  have HSX : Hid ((Tryd.prog.info? 24).map (·.size) = some X.size) := Lib.hid (by rw [← HX.out]; exact size32 _ hp.out)
  have HB0 := Lib.hid ((Below.refl _ w).alloc (Nat.le_refl _) (.cells X 24))
  have QA := Lib.hid (heap_alloc_new w (.cells X 24))
  clear HX
  rw [HDX.out]
  go_enter Tryd.func9, Tryd.ntmps9
  go_wp2_with fail
  refine (sane_any _ (Lib.hid (hT.out.below HB0.out))).mono ?_
  rintro e U1 ⟨rfl, hq⟩
  have HB1 := Lib.hid (HB0.out.trans (hq.mono HB0.out.size))
  have QA_1 := Lib.hid (row_kept QA.out hq)
  clear hq HB0 QA
  go_wp2_with (refine wpList_load_row rfl 24 (.tmp 3) rfl w.heap.size rfl 24 _ (0, 0) _ QA_1.out Tryd.underlying24 rfl HSX.out ?_; rw [← HDX.out])
  refine (leaves_any ls p A n c _ (by omega) (Lib.hid (HI.out.below HB1.out)) hp bp (Lib.hid (hT.out.below HB1.out))).mono ?_
  rintro e U2 ⟨A1, n1, c1, rfl, hin1, hq⟩
  rw [HLS.out]
  rw [HLS.out] at hin1
  have HI1 := Lib.hid hin1
  clear hin1
  have HB2 := Lib.hid (HB1.out.trans (hq.mono HB1.out.size))
  have QA_2 := Lib.hid (row_kept QA_1.out hq)
  clear hq HB1 QA_1
  have HN1 : Hid (n1 = n) := Lib.hid (by have h := HI1.out.len; simp only [cond_true, lvs_length] at h; rw [← h]; exact HNE.out)
  have e1 := HN1.out
  subst e1
  clear HN1
  have HIL := HI1
  simp only [cond_true] at HIL
  clear HI1
  obtain ⟨LL, HL⟩ : ∃ LL, Hid (lvs ls p = LL) := ⟨_, Lib.hid rfl⟩
  have HLG : Hid (∀ j (h1 : j < ls.length) (h2 : j < LL.length), LL[j] = lnLeaf ls[j] (saltN p 1 j)) := Lib.hid (fun j h1 h2 => by have e := HL.out; clear HL; subst e; exact lvs_get ls p j h1)
  rw [HL.out] at HVP HOP HVL HSU HLL HXR HIL
  go_wp2_with fail
  refine (root_any LL A1 _ c1 _ (by omega) HIL (Lib.hid (hT.out.below HB2.out))).mono ?_
  rintro e U3 ⟨rfl, hq⟩
  rw [HXR.out, HVP.out]
  have HB3 := Lib.hid (HB2.out.trans (hq.mono HB2.out.size))
  have QA_3 := Lib.hid (row_kept QA_2.out hq)
  have HIL_3 := Lib.hid (HIL.out.below hq)
  clear hq HB2 QA_2 HIL
  obtain ⟨V3, HV3⟩ : ∃ V, Hid ((U3.alloc (.cells (ndC zeroN).toArray 26)).setRow U3.heap.size (ndC x).toArray = V) := ⟨_, Lib.hid rfl⟩
  have hlr := laid_row U3 (ndC zeroN).toArray (ndC x).toArray 26
  rw [HV3.out] at hlr
  have HZ3 := Lib.hid (heap_alloc_new U3 (.cells (ndC zeroN).toArray 26))
  have HT3 : Hid (34 = (ndC x).toArray.size) := Lib.hid (by simp [ndC_length HXO.out])
  rw [zeroN_cells] at HZ3 HV3
  have hq := hlr.1
  have HB4 := Lib.hid (HB3.out.trans (hq.mono HB3.out.size))
  have QA_4 := Lib.hid (row_kept QA_3.out hq)
  have HIL_4 := Lib.hid (HIL_3.out.below hq)
  have R7_n := Lib.hid hlr.2.2
  clear hq hlr HB3 QA_3 HIL_3
  go_wp2_with (refine wpList_store_row rfl 26 (.tmp 7) (.tmp 41) rfl U3.heap.size (ndC x).toArray rfl rfl 26 _ HZ3.out (size34' HXO.out) HT3.out (ndC_one x) ?_; rw [HV3.out])
  have HBD : Hid (∀ j, j ≤ n1 → 0 ≤ sumC (LL.take j) ∧ sumC (LL.take j) ≤ 10000 ∧ 0 ≤ sumP (LL.take j) ∧ sumP (LL.take j) ≤ 120000) := Lib.hid (fun j hj => by
    have hv := HVL.out
    have ha : LL.all vN = true := by unfold vL at hv; rw [Bool.and_eq_true] at hv; exact hv.1
    have hb : (LL.take j).all vN = true := List.all_eq_true.2 fun y hy => List.all_eq_true.1 ha y (List.mem_of_mem_take hy)
    have h1 := sums_bd hb
    have h2 : sumC (LL.take j) ≤ 60 * ((LL.take j).length : Int) := sumC_60 _ fun y hy => by
      have hy2 := List.mem_of_mem_take hy
      rw [← HL.out] at hy2
      obtain ⟨l, s, h1, rfl⟩ := lvs_mem HLS.out hy2
      unfold lnOk lOk at h1
      show l.c3 ≤ 60
      omega
    rw [List.length_take] at h2
    omega)
  go_loopw [9, 10, 45] (fun s1 s2 t wr => ∃ j : Nat, j ≤ n1 ∧ t = .int .i64 (j : Nat) ∧ s1 = .int .i64 (sumC (LL.take j)) ∧ s2 = .int .i64 (sumP (LL.take j)) ∧ Hid (Below V3.heap.size V3 wr)) (fun _ _ t _ => n1 - (intOf t).toNat)
  case atStart => exact ⟨0, by omega, rfl, rfl, rfl, Lib.hid (Below.refl _ _)⟩
  case round =>
    obtain ⟨j, hj, rfl, rfl, rfl, HBW⟩ := hrel
    by_cases hlt : j < n1
    · have d6 : decide ((j : Int) < (n1 : Int)) = true := decide_eq_true (by omega)
      have d7 : decide (j < n1) = true := decide_eq_true hlt
      have hi0 := HI.out.below (HB4.out.trans (HBW.out.mono HB4.out.size))
      have hl0 : j < ls.length := by rw [HNE.out]; exact hlt
      obtain ⟨g0, o0, rfl, hg0, hr0⟩ := hi0.rd (by omega)
      have hx := ln_range hr0 j hl0
      obtain ⟨l, HLX⟩ : ∃ l, Hid (ls[j] = l) := ⟨_, Lib.hid rfl⟩
      have hlk : lnOk l := by rw [← HLX.out]; exact lsB_get HLS.out j hl0
      rw [HLX.out] at hx
      have HRX := Lib.hid hx
      have HRZ := Lib.hid (heap_alloc_new wr (.cells #[.int .i64 0, .int .i64 0, .int .i64 0, .int .i64 0, .int .i64 0] 49))
      obtain ⟨W1, HW1⟩ : ∃ W, Hid ((wr.alloc (.cells #[.int .i64 0, .int .i64 0, .int .i64 0, .int .i64 0, .int .i64 0] 49)).setRow wr.heap.size (lnC l).toArray = W) := ⟨_, Lib.hid rfl⟩
      have hlr := laid_row wr #[.int .i64 0, .int .i64 0, .int .i64 0, .int .i64 0, .int .i64 0] (lnC l).toArray 49
      rw [HW1.out] at hlr
      have HB2 := Lib.hid (HBW.out.trans (hlr.1.mono HBW.out.size))
      have HS5 := Lib.hid (size5 l)
      have m0 : W1.cell? ⟨wr.heap.size, 3, none⟩ = some (.int .i64 l.c3) := by rw [cell_of_row _ _ _ _ _ _ hlr.2.2]; rfl
      have m1 : W1.cell? ⟨wr.heap.size, 2, none⟩ = some (.int .i64 l.c2) := by rw [cell_of_row _ _ _ _ _ _ hlr.2.2]; rfl
      have hbd := HBD.out j (by omega)
      unfold lnOk lOk at hlk
      have hm := mul_leaf (a := l.c2) (b := l.c3) (by omega) (by omega) (by omega) (by omega)
      have HTK : Hid (LL.take (j + 1) = LL.take j ++ [lnLeaf l (saltN p 1 j)]) := Lib.hid (by
        have h2 : j < LL.length := by rw [HLL.out]; exact hlt
        rw [List.take_succ_eq_append_getElem h2, HLG.out j hl0 h2, HLX.out])
      have hw1 : IntKind.i64.wrap (l.c3 * l.c2) = l.c2 * l.c3 := by rw [Int.mul_comm]; exact IntWalk.i64_in _ (by omega)
      have hw2 : IntKind.i64.wrap (sumC (LL.take j) + l.c3) = sumC (LL.take (j + 1)) := by rw [IntWalk.i64_in _ (by omega), HTK.out, sumC_append]; simp only [sumC, lnLeaf, leafN]; omega
      have hw3 : IntKind.i64.wrap (sumP (LL.take j) + l.c2 * l.c3) = sumP (LL.take (j + 1)) := by rw [IntWalk.i64_in _ (by omega), HTK.out, sumP_append]; simp only [sumP, lnLeaf, leafN]; omega
      clear hi0 hg0 hr0 hx hlr hlk hm hbd HTK
      go_wp2_with (first | (with_reducible refine wpList_load_mid rfl 49 (.tmp 47) rfl g0 (o0 + j * 5) rfl (lnC l) _ HRX.out Tryd.underlying49 rfl (size5' l) ?_) | (refine wpList_store_row rfl 49 (.tmp 12) (.tmp 48) rfl wr.heap.size (lnC l).toArray rfl rfl 49 _ HRZ.out HS5.out rfl (lnC_one l) ?_; rw [HW1.out]))
      go_roundw
      case rel => exact ⟨j + 1, by omega, by go_num, rfl, rfl, HB2⟩
      case measure => first | (simp [intOf]; done) | (simp [intOf]; omega)
    · have hjn : j = n1 := by omega
      have d6 : decide ((j : Int) < (n1 : Int)) = false := decide_eq_false (by omega)
      have d7 : decide (j < n1) = false := decide_eq_false hlt
      have HTL : Hid (LL.take j = LL) := Lib.hid (List.take_of_length_le (by rw [HLL.out]; omega))
      rw [HTL.out]
      clear hjn hlt HBD HTL hj
      have HB5 := Lib.hid (HB4.out.trans (HBW.out.mono HB4.out.size))
      have R7_5 := Lib.hid (row_kept R7_n.out HBW.out)
      have QA_5 := Lib.hid (row_kept QA_4.out HBW.out)
      have HIL_5 := Lib.hid (HIL_4.out.below HBW.out)
      clear HBW HB4 R7_n QA_4 HIL_4
      have mzc : wr.cell? ⟨U3.heap.size, 32, none⟩ = some (.int .i64 (sumC LL)) := by have h := cell_c HXO.out R7_5.out; rw [HSU.out.1] at h; exact h
      have mzp : wr.cell? ⟨U3.heap.size, 33, none⟩ = some (.int .i64 (sumP LL)) := by have h := cell_p HXO.out R7_5.out; rw [HSU.out.2] at h; exact h
      go_wp2_with fail
      clear mzc mzp
      generalize wr = WV at *
      go_loopw [77] (fun t wq => ∃ j : Nat, j ≤ n1 ∧ t = .int .i64 (j : Nat) ∧ Hid (Below WV.heap.size WV wq)) (fun t _ => n1 - (intOf t).toNat)
      case atStart => exact ⟨0, by omega, rfl, Lib.hid (Below.refl _ _)⟩
      case round =>
        obtain ⟨i, hi, rfl, HBQ⟩ := hrel
        by_cases hlt : i < n1
        · have d6 : decide ((i : Int) < (n1 : Int)) = true := decide_eq_true (by omega)
          have d7 : decide (i < n1) = true := decide_eq_true hlt
          have HB6 := Lib.hid (HB5.out.trans (HBQ.out.mono HB5.out.size))
          have R7_6 := Lib.hid (row_kept R7_5.out HBQ.out)
          have QA_6 := Lib.hid (row_kept QA_5.out HBQ.out)
          have HIL_6 := Lib.hid (HIL_5.out.below HBQ.out)
          have hil := HIL_6.out
          obtain ⟨g1, o1, rfl, hg1, hr1⟩ := hil.rd (by rw [HLL.out]; omega)
          have hiL : i < LL.length := by rw [HLL.out]; exact hlt
          obtain ⟨q, HQ⟩ : ∃ q, Hid (LL[i] = q) := ⟨_, Lib.hid rfl⟩
          have HQO : Hid (NdOk q) := Lib.hid (by rw [← HQ.out]; exact HOP.out _ (List.getElem_mem _))
          have HRQ := Lib.hid (range_one hr1 HOP.out i hiL)
          rw [HQ.out] at HRQ
          have HRL : Hid (rootR LL = root LL) := Lib.hid (rootR_yes (by rw [HLL.out]; omega) HVL.out (by rw [HLL.out]; omega)).1
          have HPA : Hid (pathR LL (i : Int) = pathN LL i ∧ pathE LL (i : Int) = 0) := Lib.hid (by
            have h := pathR_yes (ls := LL) (i := (i : Int)) HVP.out (by rw [HLL.out]; omega)
            rwa [Int.toNat_natCast] at h)
          obtain ⟨ps, HPS⟩ : ∃ ps, Hid (pathN LL i = ps) := ⟨_, Lib.hid rfl⟩
          have HPL : Hid (ps.length = (way i n1).length) := Lib.hid (by rw [← HPS.out, pathN_length, HLL.out]; simp [sidesN])
          have HPB : Hid (ps.length ≤ 24) := Lib.hid (by rw [HPL.out]; have := wayF_length n1 i 0 n1; unfold way; omega)
          rw [HPS.out] at HPA
          have HVQ : Hid (vN q = true) := Lib.hid (by
            have hv := HVL.out
            unfold vL at hv
            rw [Bool.and_eq_true] at hv
            rw [← HQ.out]
            exact List.all_eq_true.1 hv.1 _ (List.getElem_mem _))
          have HARG : Hid (∀ m, climbArg (i : Int) (n1 : Int) m ↔ m ≠ ps.length) := Lib.hid (fun m => by unfold climbArg; simp only [Int.toNat_natCast]; rw [← HPL.out]; omega)
          have HCL := Lib.hid (climbR_some (n := q) (x := x) (i := (i : Int)) (many := (n1 : Int)) (ps := ps) (fun hh => (HARG.out _).1 hh rfl) HVQ.out (by
            unfold climbO
            simp only [Int.toNat_natCast]
            have h := climb_path LL HVL.out i hiL
            rw [HLL.out, HPS.out, HQ.out, ← HRL.out, HXR.out] at h
            exact h))
          have HC2 := Lib.hid (climbR_arg (n := q) (i := (i : Int)) (many := (n1 : Int)) (ps := ps ++ [q]) ((HARG.out _).2 (by simp)))
          have HC3 : Hid (0 < ps.length → climbR q (i : Int) (n1 : Int) (ps.drop 1) = zeroN ∧ climbE q (i : Int) (n1 : Int) (ps.drop 1) = 1) := Lib.hid (fun h0 => climbR_arg ((HARG.out _).2 (by rw [List.length_drop]; omega)))
          have HZO := Lib.hid zeroN_ok
          have hcl := hil.cap
          clear hil hg1 hr1 HRL HARG HPL
          obtain ⟨V4, HV4⟩ : ∃ V, Hid ((wr.alloc (.cells (ndC zeroN).toArray 26)).setRow wr.heap.size (ndC q).toArray = V) := ⟨_, Lib.hid rfl⟩
          have hlr := laid_row wr (ndC zeroN).toArray (ndC q).toArray 26
          rw [HV4.out] at hlr
          have HZ4 := Lib.hid (heap_alloc_new wr (.cells (ndC zeroN).toArray 26))
          have HT4 : Hid (34 = (ndC q).toArray.size) := Lib.hid (by simp [ndC_length HQO.out])
          rw [zeroN_cells] at HZ4 HV4
          have hq := hlr.1
          have HB7 := Lib.hid (HB6.out.trans (hq.mono HB6.out.size))
          have R7_7 := Lib.hid (row_kept R7_6.out hq)
          have QA_7 := Lib.hid (row_kept QA_6.out hq)
          have HIL_7 := Lib.hid (HIL_6.out.below hq)
          have HBQ_7 := Lib.hid (HBQ.out.trans (hq.mono HBQ.out.size))
          have R14_n := Lib.hid hlr.2.2
          clear hq hlr HB6 R7_6 QA_6 HIL_6 HBQ
          go_wp2_with (first | (refine wpList_store_row rfl 26 (.tmp 14) (.tmp 81) rfl wr.heap.size (ndC q).toArray rfl rfl 26 _ HZ4.out (size34' HQO.out) HT4.out (ndC_one q) ?_; rw [HV4.out]) | (with_reducible refine wpList_load_mid rfl 26 (.tmp 80) rfl g1 (o1 + i * 34) rfl (ndC q) _ HRQ.out Tryd.underlying26 rfl (size34 HQO.out) ?_))
          refine (path_any LL _ _ c1 (i : Int) _ (by omega) HIL_7 (Lib.hid (hT.out.below HB7.out))).mono ?_
          rintro e U5 ⟨A3, n3, c3, rfl, hin, hq⟩
          rw [HPA.out.2]
          rw [HPA.out.1] at hin
          have HPI := Lib.hid hin
          have HN3 := Lib.hid hin.len
          clear hin
          have HB8 := Lib.hid (HB7.out.trans (hq.mono HB7.out.size))
          have R7_8 := Lib.hid (row_kept R7_7.out hq)
          have R14_8 := Lib.hid (row_kept R14_n.out hq)
          have QA_8 := Lib.hid (row_kept QA_7.out hq)
          have HIL_8 := Lib.hid (HIL_7.out.below hq)
          have HBQ_8 := Lib.hid (HBQ_7.out.trans (hq.mono HBQ_7.out.size))
          clear hq HB7 R7_7 R14_n QA_7 HIL_7 HBQ_7
          have hn3 : n3 ≤ 24 := by rw [← HN3.out]; exact HPB.out
          go_wp2_with (refine wpList_load_row rfl 26 (.tmp 14) rfl wr.heap.size rfl 26 _ (0, 0) _ R14_8.out Tryd.underlying26 rfl (size34' HQO.out) ?_)
          refine (climb_any q (i : Int) (n1 : Int) ps A3 n3 c3 _ HQO.out (by omega) (by omega) (by omega) HPI (Lib.hid (hT.out.below HB8.out))).mono ?_
          rintro e U6 ⟨rfl, hq⟩
          rw [HCL.out.1, HCL.out.2]
          have HB9 := Lib.hid (HB8.out.trans (hq.mono HB8.out.size))
          have R7_9 := Lib.hid (row_kept R7_8.out hq)
          have R14_9 := Lib.hid (row_kept R14_8.out hq)
          have QA_9 := Lib.hid (row_kept QA_8.out hq)
          have HIL_9 := Lib.hid (HIL_8.out.below hq)
          have HBQ_9 := Lib.hid (HBQ_8.out.trans (hq.mono HBQ_8.out.size))
          have HPI_9 := Lib.hid (HPI.out.below hq)
          clear hq HB8 R7_8 R14_8 QA_8 HIL_8 HBQ_8 HPI
          obtain ⟨V6, HV6⟩ : ∃ V, Hid ((U6.alloc (.cells (ndC zeroN).toArray 26)).setRow U6.heap.size (ndC x).toArray = V) := ⟨_, Lib.hid rfl⟩
          have hlr := laid_row U6 (ndC zeroN).toArray (ndC x).toArray 26
          rw [HV6.out] at hlr
          have HZ6 := Lib.hid (heap_alloc_new U6 (.cells (ndC zeroN).toArray 26))
          have HT6 : Hid (34 = (ndC x).toArray.size) := Lib.hid (by simp [ndC_length HXO.out])
          rw [zeroN_cells] at HZ6 HV6
          have hq := hlr.1
          have HB10 := Lib.hid (HB9.out.trans (hq.mono HB9.out.size))
          have R7_10 := Lib.hid (row_kept R7_9.out hq)
          have R14_10 := Lib.hid (row_kept R14_9.out hq)
          have QA_10 := Lib.hid (row_kept QA_9.out hq)
          have HIL_10 := Lib.hid (HIL_9.out.below hq)
          have HBQ_10 := Lib.hid (HBQ_9.out.trans (hq.mono HBQ_9.out.size))
          have HPI_10 := Lib.hid (HPI_9.out.below hq)
          have R17_n := Lib.hid hlr.2.2
          clear hq hlr HB9 R7_9 R14_9 QA_9 HIL_9 HBQ_9 HPI_9
          go_wp2_with (refine wpList_store_row rfl 26 (.tmp 17) (.tmp 95) rfl U6.heap.size (ndC x).toArray rfl rfl 26 _ HZ6.out (size34' HXO.out) HT6.out (ndC_one x) ?_; rw [HV6.out])
          have HOA : Hid (∀ y ∈ ps ++ [q], NdOk y) := Lib.hid (fun y hy => by
            rcases List.mem_append.1 hy with h | h
            · exact HPI_10.out.ok y h
            · have : y = q := by simpa using h
              subst this; exact HQO.out)
          refine region_flow3 (by kernel_rfl) (by kernel_rfl) (fun i => Nat.beq i 16) (fun i => i) (by kernel_rfl) (fun fx => #[Value.slice A n1 c, dgV p, undef, Value.pointer (some { block := w.heap.size, off := 0 }), u4, Value.slice (some { block := g1, off := o1 }) n1 c1, Value.bool true, Value.pointer (some { block := U3.heap.size, off := 0 }), Value.int IntKind.i64 0, Value.int IntKind.i64 (sumC LL), Value.int IntKind.i64 (sumP LL), undef, u12, Value.int IntKind.i64 ↑i, Value.pointer (some { block := wr.heap.size, off := 0 }), Value.slice A3 n3 c3, Value.int IntKind.i64 0, Value.pointer (some { block := U6.heap.size, off := 0 }), Value.int IntKind.i64 0, fx 14, fx 16, u21, u22, undef, undef, Value.bool true, Value.bool false, Value.slice A n1 c, Value.int IntKind.i64 ↑n1, Value.bool false, Value.tuple #[Value.slice (some { block := g1, off := o1 }) n1 c1, Value.bool true], Value.slice A n1 c, dgV p, Value.tuple #[Value.slice (some { block := g1, off := o1 }) n1 c1, Value.bool true], Value.slice (some { block := g1, off := o1 }) n1 c1, Value.bool true, Value.bool true, Value.bool false, Value.tuple #[ndV x, Value.int IntKind.i64 0], Value.slice (some { block := g1, off := o1 }) n1 c1, Value.tuple #[ndV x, Value.int IntKind.i64 0], ndV x, Value.int IntKind.i64 0, Value.slice A n1 c, Value.int IntKind.i64 ↑n1, Value.int IntKind.i64 ↑j, Value.bool false, u47, u48, u49, u50, u51, u52, u53, u54, u55, u56, u57, u58, u59, u60, Value.int IntKind.i64 0, Value.bool false, Value.bool false, Value.pointer (some { block := U3.heap.size, off := 32 }), Value.int IntKind.i64 (sumC LL), Value.int IntKind.i64 (sumC LL), Value.bool false, Value.bool false, Value.bool false, Value.pointer (some { block := U3.heap.size, off := 33 }), Value.int IntKind.i64 (sumP LL), Value.int IntKind.i64 (sumP LL), Value.bool false, Value.bool false, Value.slice (some { block := g1, off := o1 }) n1 c1, Value.int IntKind.i64 ↑n1, Value.int IntKind.i64 ↑i, Value.bool true, Value.int IntKind.i64 ↑i, Value.pointer (some { block := g1, off := o1 + i * 34 }), Value.agg (ndC q).toArray, Value.tuple #[Value.slice A3 n3 c3, Value.int IntKind.i64 0], Value.slice (some { block := g1, off := o1 }) n1 c1, Value.int IntKind.i64 ↑i, Value.tuple #[Value.slice A3 n3 c3, Value.int IntKind.i64 0], Value.slice A3 n3 c3, Value.int IntKind.i64 0, Value.tuple #[ndV x, Value.int IntKind.i64 0], Value.agg (ndC q).toArray, Value.int IntKind.i64 ↑i, Value.slice (some { block := g1, off := o1 }) n1 c1, Value.int IntKind.i64 ↑n1, Value.slice A3 n3 c3, Value.tuple #[ndV x, Value.int IntKind.i64 0], ndV x, Value.int IntKind.i64 0, fx 11, fx 0, fx 1, fx 2, fx 3, fx 4, fx 5, fx 6, fx 7, fx 8, fx 9, fx 10, fx 12, fx 13, u111, u112, u113, u114, u115, u116, u117, u118, u119, u120, u121, u122, u123, u124, u125, u126, u127, u128, u129, u130, u131, u132, u133, u134, u135, u136, u137, u138, u139, u140, u141, undef, undef, undef, undef, undef, undef, undef, undef, undef]) (fun i => bif Nat.beq i 0 then u98 else bif Nat.beq i 1 then u99 else bif Nat.beq i 2 then u100 else bif Nat.beq i 3 then u101 else bif Nat.beq i 4 then u102 else bif Nat.beq i 5 then u103 else bif Nat.beq i 6 then u104 else bif Nat.beq i 7 then u105 else bif Nat.beq i 8 then u106 else bif Nat.beq i 9 then u107 else bif Nat.beq i 10 then u108 else bif Nat.beq i 11 then u97 else bif Nat.beq i 12 then u109 else bif Nat.beq i 13 then u110 else bif Nat.beq i 14 then u19 else bif Nat.beq i 16 then u20 else undef) (fun L fx w' => Below V6.heap.size V6 w' ∧ (L 6 = true → OB V6.heap.size (fx 6) w') ∧ (L 14 = true → L 15 = false → NewZ V6.heap.size (fx 14) (fx 6) (L 6) w')) (fun fi fv _ fw => wC3 V6.heap.size q i g1 o1 n1 c1 A3 n3 c3 ps fi fv fw) ⟨(Below.refl _ _).drew, (fun h => by cases h), (fun h => by cases h)⟩ ?_ ?_
          · refine ⟨?_, ?_, ?_, ?_, ?_, ?_, ?_, ?_, ?_, ?_, ?_, ?_, ?_, ?_, ?_, ?_, ?_, trivial⟩
            all_goals intro L fx w' hC hi hcl hdn hd
            · have hrow := row_kept R14_10.out hC.1
              refine wpList_load_row rfl 26 (.tmp 14) rfl wr.heap.size rfl 26 _ (0, 0) _ hrow Tryd.underlying26 rfl (size34' HQO.out) ?_
              clear hd
              go_wp2_with fail
              exact ⟨_, rfl, ⟨hC.1, fun h => hC.2.1 h, fun h h2 => hC.2.2 h h2⟩, rfl, fun _ _ _ _ _ h => h⟩
            · go_wp2_with fail
              exact ⟨_, rfl, ⟨hC.1, fun h => hC.2.1 h, fun h h2 => hC.2.2 h h2⟩, rfl, fun _ _ _ _ _ h => h⟩
            · go_wp2_with fail
              exact ⟨_, rfl, ⟨hC.1, fun h => hC.2.1 h, fun h h2 => hC.2.2 h h2⟩, rfl, fun _ _ _ _ _ h => h⟩
            · have h2 : fx 2 = Value.slice (some ⟨g1, o1, none⟩) n1 c1 := hd.1 rfl
              go_wp2_with fail
              exact ⟨_, by show _ = Act.mk #[Value.slice A n1 c, dgV p, undef, Value.pointer (some { block := w.heap.size, off := 0 }), u4, Value.slice (some { block := g1, off := o1 }) n1 c1, Value.bool true, Value.pointer (some { block := U3.heap.size, off := 0 }), Value.int IntKind.i64 0, Value.int IntKind.i64 (sumC LL), Value.int IntKind.i64 (sumP LL), undef, u12, Value.int IntKind.i64 ↑i, Value.pointer (some { block := wr.heap.size, off := 0 }), Value.slice A3 n3 c3, Value.int IntKind.i64 0, Value.pointer (some { block := U6.heap.size, off := 0 }), Value.int IntKind.i64 0, fx 14, fx 16, u21, u22, undef, undef, Value.bool true, Value.bool false, Value.slice A n1 c, Value.int IntKind.i64 ↑n1, Value.bool false, Value.tuple #[Value.slice (some { block := g1, off := o1 }) n1 c1, Value.bool true], Value.slice A n1 c, dgV p, Value.tuple #[Value.slice (some { block := g1, off := o1 }) n1 c1, Value.bool true], Value.slice (some { block := g1, off := o1 }) n1 c1, Value.bool true, Value.bool true, Value.bool false, Value.tuple #[ndV x, Value.int IntKind.i64 0], Value.slice (some { block := g1, off := o1 }) n1 c1, Value.tuple #[ndV x, Value.int IntKind.i64 0], ndV x, Value.int IntKind.i64 0, Value.slice A n1 c, Value.int IntKind.i64 ↑n1, Value.int IntKind.i64 ↑j, Value.bool false, u47, u48, u49, u50, u51, u52, u53, u54, u55, u56, u57, u58, u59, u60, Value.int IntKind.i64 0, Value.bool false, Value.bool false, Value.pointer (some { block := U3.heap.size, off := 32 }), Value.int IntKind.i64 (sumC LL), Value.int IntKind.i64 (sumC LL), Value.bool false, Value.bool false, Value.bool false, Value.pointer (some { block := U3.heap.size, off := 33 }), Value.int IntKind.i64 (sumP LL), Value.int IntKind.i64 (sumP LL), Value.bool false, Value.bool false, Value.slice (some { block := g1, off := o1 }) n1 c1, Value.int IntKind.i64 ↑n1, Value.int IntKind.i64 ↑i, Value.bool true, Value.int IntKind.i64 ↑i, Value.pointer (some { block := g1, off := o1 + i * 34 }), Value.agg (ndC q).toArray, Value.tuple #[Value.slice A3 n3 c3, Value.int IntKind.i64 0], Value.slice (some { block := g1, off := o1 }) n1 c1, Value.int IntKind.i64 ↑i, Value.tuple #[Value.slice A3 n3 c3, Value.int IntKind.i64 0], Value.slice A3 n3 c3, Value.int IntKind.i64 0, Value.tuple #[ndV x, Value.int IntKind.i64 0], Value.agg (ndC q).toArray, Value.int IntKind.i64 ↑i, Value.slice (some { block := g1, off := o1 }) n1 c1, Value.int IntKind.i64 ↑n1, Value.slice A3 n3 c3, Value.tuple #[ndV x, Value.int IntKind.i64 0], ndV x, Value.int IntKind.i64 0, fx 11, fx 0, fx 1, fx 2, Value.int .i64 ((n1 : Nat)), fx 4, fx 5, fx 6, fx 7, fx 8, fx 9, fx 10, fx 12, fx 13, u111, u112, u113, u114, u115, u116, u117, u118, u119, u120, u121, u122, u123, u124, u125, u126, u127, u128, u129, u130, u131, u132, u133, u134, u135, u136, u137, u138, u139, u140, u141, undef, undef, undef, undef, undef, undef, undef, undef, undef] []; rw [h2] <;> rfl, ⟨hC.1, fun h => hC.2.1 h, fun h h2 => hC.2.2 h h2⟩, rfl, fun _ _ _ _ _ h => h⟩
            · go_wp2_with fail
              have hbb : Below w'.heap.size w' (w'.alloc (.cells #[] 26)) := (Below.refl _ _).alloc (Nat.le_refl _) _
              exact ⟨_, rfl, ⟨hC.1.trans (hbb.mono hC.1.size), fun h => (hC.2.1 h).mono hbb.size, fun h h2 => (hC.2.2 h h2).below hbb⟩, ⟨_, rfl, hC.1.size, heap_alloc_new _ _⟩, fun j v t _ _ h => wC3_below hbb j v h⟩
            · go_wp2_with fail
              exact ⟨_, rfl, ⟨hC.1, fun h => hC.2.1 h, fun h h2 => hC.2.2 h h2⟩, rfl, fun _ _ _ _ _ h => h⟩
            · have H4 := Lib.hid (hd.1 rfl)
              have h5 : fx 5 = Value.slice A3 n3 c3 := hd.2.1 rfl
              obtain ⟨g4, h4, hM4, hr4⟩ := H4.out
              have HO4 := Lib.hid (own_empty hr4 hM4)
              have HI6 := Lib.hid (HPI_10.out.below hC.1)
              have hsz := hC.1.size
              refine wpList_append_nodes rfl (.tmp 102) (.tmp 103) rfl V6.heap.size _ [] ps A3 n3 c3 h4 HO4 h5 HI6 (by simp) (by omega) hsz ?_
              intro v2 w2 HO2 HG2 HW2
              rw [List.nil_append] at HO2
              have hg2 : w'.grownBy w2 (some g4) := HG2.out
              have hb2 : v2.ownBlock = some g4 ∨ v2.ownBlock = some w'.heap.size := HW2.out
              clear hd
              go_wp2_with fail
              refine ⟨v2, by show _ = Act.mk #[Value.slice A n1 c, dgV p, undef, Value.pointer (some { block := w.heap.size, off := 0 }), u4, Value.slice (some { block := g1, off := o1 }) n1 c1, Value.bool true, Value.pointer (some { block := U3.heap.size, off := 0 }), Value.int IntKind.i64 0, Value.int IntKind.i64 (sumC LL), Value.int IntKind.i64 (sumP LL), undef, u12, Value.int IntKind.i64 ↑i, Value.pointer (some { block := wr.heap.size, off := 0 }), Value.slice A3 n3 c3, Value.int IntKind.i64 0, Value.pointer (some { block := U6.heap.size, off := 0 }), Value.int IntKind.i64 0, fx 14, fx 16, u21, u22, undef, undef, Value.bool true, Value.bool false, Value.slice A n1 c, Value.int IntKind.i64 ↑n1, Value.bool false, Value.tuple #[Value.slice (some { block := g1, off := o1 }) n1 c1, Value.bool true], Value.slice A n1 c, dgV p, Value.tuple #[Value.slice (some { block := g1, off := o1 }) n1 c1, Value.bool true], Value.slice (some { block := g1, off := o1 }) n1 c1, Value.bool true, Value.bool true, Value.bool false, Value.tuple #[ndV x, Value.int IntKind.i64 0], Value.slice (some { block := g1, off := o1 }) n1 c1, Value.tuple #[ndV x, Value.int IntKind.i64 0], ndV x, Value.int IntKind.i64 0, Value.slice A n1 c, Value.int IntKind.i64 ↑n1, Value.int IntKind.i64 ↑j, Value.bool false, u47, u48, u49, u50, u51, u52, u53, u54, u55, u56, u57, u58, u59, u60, Value.int IntKind.i64 0, Value.bool false, Value.bool false, Value.pointer (some { block := U3.heap.size, off := 32 }), Value.int IntKind.i64 (sumC LL), Value.int IntKind.i64 (sumC LL), Value.bool false, Value.bool false, Value.bool false, Value.pointer (some { block := U3.heap.size, off := 33 }), Value.int IntKind.i64 (sumP LL), Value.int IntKind.i64 (sumP LL), Value.bool false, Value.bool false, Value.slice (some { block := g1, off := o1 }) n1 c1, Value.int IntKind.i64 ↑n1, Value.int IntKind.i64 ↑i, Value.bool true, Value.int IntKind.i64 ↑i, Value.pointer (some { block := g1, off := o1 + i * 34 }), Value.agg (ndC q).toArray, Value.tuple #[Value.slice A3 n3 c3, Value.int IntKind.i64 0], Value.slice (some { block := g1, off := o1 }) n1 c1, Value.int IntKind.i64 ↑i, Value.tuple #[Value.slice A3 n3 c3, Value.int IntKind.i64 0], Value.slice A3 n3 c3, Value.int IntKind.i64 0, Value.tuple #[ndV x, Value.int IntKind.i64 0], Value.agg (ndC q).toArray, Value.int IntKind.i64 ↑i, Value.slice (some { block := g1, off := o1 }) n1 c1, Value.int IntKind.i64 ↑n1, Value.slice A3 n3 c3, Value.tuple #[ndV x, Value.int IntKind.i64 0], ndV x, Value.int IntKind.i64 0, fx 11, fx 0, fx 1, fx 2, fx 3, fx 4, fx 5, v2, fx 7, fx 8, fx 9, fx 10, fx 12, fx 13, u111, u112, u113, u114, u115, u116, u117, u118, u119, u120, u121, u122, u123, u124, u125, u126, u127, u128, u129, u130, u131, u132, u133, u134, u135, u136, u137, u138, u139, u140, u141, undef, undef, undef, undef, undef, undef, undef, undef, undef] []; rw [h5, h4] <;> rfl, ⟨below_grown hC.1 hg2 (fun k hk => by cases hk; exact hM4) (Nat.le_refl _), fun _ => HO2.out.ob, fun h14 h15 => ?_⟩, HO2.out, fun j v t hj hu h => ?_⟩
              · obtain ⟨z, hz1, hz2, hz3, _⟩ := hC.2.2 h14 h15
                have hne : z ≠ g4 := rows_differ hz3 hr4 (by rw [zero_size]; simp)
                refine ⟨z, hz1, hz2, row_grown hz3 hg2 (fun e => hne (by cases e; rfl)), fun _ e => ?_⟩
                have hzl := (Array.getElem?_eq_some_iff.1 hz3).1
                have e' : v2.ownBlock = some z := e
                rcases hb2 with e2 | e2
                · rw [e2] at e'; cases e'; exact hne rfl
                · rw [e2] at e'; cases e'; omega
              · by_cases e8 : j = 8
                · subst e8
                  obtain ⟨g8, h8, hM8, hr8⟩ := h
                  exact ⟨g8, h8, hM8, row_grown hr8 hg2 (fun e => rows_differ hr8 hr4 (by rw [flat1_size HQO.out]; simp) (by cases e; rfl))⟩
                · by_cases e4 : j = 4
                  · subst e4; refine absurd hu (not_needed (E := fun i => Nat.beq i 16) (j := 4) [6] (by kernel_rfl) (by kernel_rfl) (fun m hm hne => by simp at hm; subst hm; omega))
                  · by_cases e9 : j = 9
                    · subst e9; have := hcl 9 6 hj (by kernel_rfl); rw [hi] at this; cases this
                    · by_cases e6 : j = 6
                      · subst e6; rw [hi] at hj; cases hj
                      · by_cases e14 : j = 14
                        · subst e14; trivial
                        · by_cases e15 : j = 15
                          · subst e15; trivial
                          · exact wC3_pure j v e4 e6 e8 e9 e14 e15 h
            · have hrow := row_kept R14_10.out hC.1
              refine wpList_load_row rfl 26 (.tmp 14) rfl wr.heap.size rfl 26 _ (0, 0) _ hrow Tryd.underlying26 rfl (size34' HQO.out) ?_
              clear hd
              go_wp2_with fail
              exact ⟨_, rfl, ⟨hC.1, fun h => hC.2.1 h, fun h h2 => hC.2.2 h h2⟩, rfl, fun _ _ _ _ _ h => h⟩
            · have h7 : fx 7 = ndV q := hd.1 rfl
              refine wpList_build_nodes1 rfl (.tmp 105) rfl q h7 HQO.out ?_
              have hbb : Below w'.heap.size w' (w'.alloc (.cells (flatN [q]).toArray 26)) := (Below.refl _ _).alloc (Nat.le_refl _) _
              clear hd
              go_wp2_with fail
              exact ⟨_, by show _ = Act.mk #[Value.slice A n1 c, dgV p, undef, Value.pointer (some { block := w.heap.size, off := 0 }), u4, Value.slice (some { block := g1, off := o1 }) n1 c1, Value.bool true, Value.pointer (some { block := U3.heap.size, off := 0 }), Value.int IntKind.i64 0, Value.int IntKind.i64 (sumC LL), Value.int IntKind.i64 (sumP LL), undef, u12, Value.int IntKind.i64 ↑i, Value.pointer (some { block := wr.heap.size, off := 0 }), Value.slice A3 n3 c3, Value.int IntKind.i64 0, Value.pointer (some { block := U6.heap.size, off := 0 }), Value.int IntKind.i64 0, fx 14, fx 16, u21, u22, undef, undef, Value.bool true, Value.bool false, Value.slice A n1 c, Value.int IntKind.i64 ↑n1, Value.bool false, Value.tuple #[Value.slice (some { block := g1, off := o1 }) n1 c1, Value.bool true], Value.slice A n1 c, dgV p, Value.tuple #[Value.slice (some { block := g1, off := o1 }) n1 c1, Value.bool true], Value.slice (some { block := g1, off := o1 }) n1 c1, Value.bool true, Value.bool true, Value.bool false, Value.tuple #[ndV x, Value.int IntKind.i64 0], Value.slice (some { block := g1, off := o1 }) n1 c1, Value.tuple #[ndV x, Value.int IntKind.i64 0], ndV x, Value.int IntKind.i64 0, Value.slice A n1 c, Value.int IntKind.i64 ↑n1, Value.int IntKind.i64 ↑j, Value.bool false, u47, u48, u49, u50, u51, u52, u53, u54, u55, u56, u57, u58, u59, u60, Value.int IntKind.i64 0, Value.bool false, Value.bool false, Value.pointer (some { block := U3.heap.size, off := 32 }), Value.int IntKind.i64 (sumC LL), Value.int IntKind.i64 (sumC LL), Value.bool false, Value.bool false, Value.bool false, Value.pointer (some { block := U3.heap.size, off := 33 }), Value.int IntKind.i64 (sumP LL), Value.int IntKind.i64 (sumP LL), Value.bool false, Value.bool false, Value.slice (some { block := g1, off := o1 }) n1 c1, Value.int IntKind.i64 ↑n1, Value.int IntKind.i64 ↑i, Value.bool true, Value.int IntKind.i64 ↑i, Value.pointer (some { block := g1, off := o1 + i * 34 }), Value.agg (ndC q).toArray, Value.tuple #[Value.slice A3 n3 c3, Value.int IntKind.i64 0], Value.slice (some { block := g1, off := o1 }) n1 c1, Value.int IntKind.i64 ↑i, Value.tuple #[Value.slice A3 n3 c3, Value.int IntKind.i64 0], Value.slice A3 n3 c3, Value.int IntKind.i64 0, Value.tuple #[ndV x, Value.int IntKind.i64 0], Value.agg (ndC q).toArray, Value.int IntKind.i64 ↑i, Value.slice (some { block := g1, off := o1 }) n1 c1, Value.int IntKind.i64 ↑n1, Value.slice A3 n3 c3, Value.tuple #[ndV x, Value.int IntKind.i64 0], ndV x, Value.int IntKind.i64 0, fx 11, fx 0, fx 1, fx 2, fx 3, fx 4, fx 5, fx 6, fx 7, Value.slice (some ⟨w'.heap.size, 0, none⟩) 1 1, fx 9, fx 10, fx 12, fx 13, u111, u112, u113, u114, u115, u116, u117, u118, u119, u120, u121, u122, u123, u124, u125, u126, u127, u128, u129, u130, u131, u132, u133, u134, u135, u136, u137, u138, u139, u140, u141, undef, undef, undef, undef, undef, undef, undef, undef, undef] []; rw [h7] <;> rfl, ⟨hC.1.trans (hbb.mono hC.1.size), fun h => (hC.2.1 h).mono hbb.size, fun h h2 => (hC.2.2 h h2).below hbb⟩, ⟨_, rfl, hC.1.size, heap_alloc_new _ _⟩, fun j v t _ _ h => wC3_below hbb j v h⟩
            · have H6 := Lib.hid (hd.1 rfl)
              have H8 := Lib.hid (hd.2.1 rfl)
              obtain ⟨g8, h8, hM8, hr8⟩ := H8.out
              have HR8 := Lib.hid hr8
              have hL6 := hdn 6 (by kernel_rfl)
              obtain ⟨A6, n6, c6, h6⟩ := H6.out.form
              have HO6 : Hid (OwnN w' V6.heap.size (.slice A6 n6 c6) ps) := Lib.hid (by rw [← h6]; exact H6.out)
              have hob : ∀ gk, (Value.slice A6 n6 c6).ownBlock = some gk → V6.heap.size ≤ gk := fun gk hk => (HO6.out.block gk hk).1
              have hsz := hC.1.size
              have hps : ps.length ≤ 100000 := by have := HPB.out; omega
              refine wpList_append_node rfl (.tmp 104) (.tmp 106) rfl V6.heap.size _ ps q h6 HO6 HQO.out g8 h8 HR8 hps hsz ?_
              intro v2 w2 HO2 HG2
              clear hd
              go_wp2_with fail
              refine ⟨v2, by show _ = Act.mk #[Value.slice A n1 c, dgV p, undef, Value.pointer (some { block := w.heap.size, off := 0 }), u4, Value.slice (some { block := g1, off := o1 }) n1 c1, Value.bool true, Value.pointer (some { block := U3.heap.size, off := 0 }), Value.int IntKind.i64 0, Value.int IntKind.i64 (sumC LL), Value.int IntKind.i64 (sumP LL), undef, u12, Value.int IntKind.i64 ↑i, Value.pointer (some { block := wr.heap.size, off := 0 }), Value.slice A3 n3 c3, Value.int IntKind.i64 0, Value.pointer (some { block := U6.heap.size, off := 0 }), Value.int IntKind.i64 0, fx 14, fx 16, u21, u22, undef, undef, Value.bool true, Value.bool false, Value.slice A n1 c, Value.int IntKind.i64 ↑n1, Value.bool false, Value.tuple #[Value.slice (some { block := g1, off := o1 }) n1 c1, Value.bool true], Value.slice A n1 c, dgV p, Value.tuple #[Value.slice (some { block := g1, off := o1 }) n1 c1, Value.bool true], Value.slice (some { block := g1, off := o1 }) n1 c1, Value.bool true, Value.bool true, Value.bool false, Value.tuple #[ndV x, Value.int IntKind.i64 0], Value.slice (some { block := g1, off := o1 }) n1 c1, Value.tuple #[ndV x, Value.int IntKind.i64 0], ndV x, Value.int IntKind.i64 0, Value.slice A n1 c, Value.int IntKind.i64 ↑n1, Value.int IntKind.i64 ↑j, Value.bool false, u47, u48, u49, u50, u51, u52, u53, u54, u55, u56, u57, u58, u59, u60, Value.int IntKind.i64 0, Value.bool false, Value.bool false, Value.pointer (some { block := U3.heap.size, off := 32 }), Value.int IntKind.i64 (sumC LL), Value.int IntKind.i64 (sumC LL), Value.bool false, Value.bool false, Value.bool false, Value.pointer (some { block := U3.heap.size, off := 33 }), Value.int IntKind.i64 (sumP LL), Value.int IntKind.i64 (sumP LL), Value.bool false, Value.bool false, Value.slice (some { block := g1, off := o1 }) n1 c1, Value.int IntKind.i64 ↑n1, Value.int IntKind.i64 ↑i, Value.bool true, Value.int IntKind.i64 ↑i, Value.pointer (some { block := g1, off := o1 + i * 34 }), Value.agg (ndC q).toArray, Value.tuple #[Value.slice A3 n3 c3, Value.int IntKind.i64 0], Value.slice (some { block := g1, off := o1 }) n1 c1, Value.int IntKind.i64 ↑i, Value.tuple #[Value.slice A3 n3 c3, Value.int IntKind.i64 0], Value.slice A3 n3 c3, Value.int IntKind.i64 0, Value.tuple #[ndV x, Value.int IntKind.i64 0], Value.agg (ndC q).toArray, Value.int IntKind.i64 ↑i, Value.slice (some { block := g1, off := o1 }) n1 c1, Value.int IntKind.i64 ↑n1, Value.slice A3 n3 c3, Value.tuple #[ndV x, Value.int IntKind.i64 0], ndV x, Value.int IntKind.i64 0, fx 11, fx 0, fx 1, fx 2, fx 3, fx 4, fx 5, fx 6, fx 7, fx 8, v2, fx 10, fx 12, fx 13, u111, u112, u113, u114, u115, u116, u117, u118, u119, u120, u121, u122, u123, u124, u125, u126, u127, u128, u129, u130, u131, u132, u133, u134, u135, u136, u137, u138, u139, u140, u141, undef, undef, undef, undef, undef, undef, undef, undef, undef] []; rw [h6, h8] <;> rfl, ⟨below_grown hC.1 HG2.out (fun k hk => hob k hk) (Nat.le_refl _), fun h => (hC.2.1 h).mono HG2.out.size, fun h14 h15 => ?_⟩, HO2.out, fun j v t hj hu h => ?_⟩
              · obtain ⟨z, hz1, hz2, hz3, hz4⟩ := hC.2.2 h14 h15
                refine ⟨z, hz1, hz2, row_grown hz3 HG2.out (fun e => hz4 hL6 (by rw [h6]; exact e.symm)), hz4⟩
              · by_cases e8 : j = 8
                · subst e8; refine absurd hu (not_needed (E := fun i => Nat.beq i 16) (j := 8) [9] (by kernel_rfl) (by kernel_rfl) (fun m hm hne => by simp at hm; subst hm; omega))
                · by_cases e4 : j = 4
                  · subst e4; refine absurd hu (not_needed (E := fun i => Nat.beq i 16) (j := 4) [6] (by kernel_rfl) (by kernel_rfl) (fun m hm hne => by simp at hm; subst hm; exact hL6))
                  · by_cases e9 : j = 9
                    · subst e9; rw [hi] at hj; cases hj
                    · by_cases e6 : j = 6
                      · subst e6; refine absurd hu (not_needed (E := fun i => Nat.beq i 16) (j := 6) [9] (by kernel_rfl) (by kernel_rfl) (fun m hm hne => by simp at hm; subst hm; omega))
                      · by_cases e14 : j = 14
                        · subst e14; trivial
                        · by_cases e15 : j = 15
                          · subst e15; trivial
                          · exact wC3_pure j v e4 e6 e8 e9 e14 e15 h
            · have h0 : fx 0 = ndV q := hd.1 rfl
              have h1 : fx 1 = Value.int .i64 ((i : Nat)) := hd.2.1 rfl
              have h3 : fx 3 = Value.int .i64 ((n1 : Nat)) := hd.2.2.1 rfl
              have H9 := Lib.hid (hd.2.2.2.1 rfl)
              have HTk := Lib.hid (hT.out.below (HB10.out.trans (hC.1.mono HB10.out.size)))
              have HOK9 : ∀ y ∈ ps ++ [q], NdOk y := HOA.out
              obtain ⟨A9, n9, c9, h9, hin9, _⟩ := H9.out.slice HOK9
              have HI9 := Lib.hid hin9
              have hn9 : n9 ≤ 100 := by rw [← hin9.len]; have := HPB.out; simp; omega
              clear hin9
              go_wp2_with fail
              refine (climb_any q (i : Int) (n1 : Int) (ps ++ [q]) A9 n9 c9 w' HQO.out (by omega) (by omega) (by omega) HI9 HTk).mono ?_
              rintro e w2 ⟨rfl, hq⟩
              rw [HC2.out.1, HC2.out.2]
              go_wp2_with fail
              exact ⟨_, by show _ = Act.mk #[Value.slice A n1 c, dgV p, undef, Value.pointer (some { block := w.heap.size, off := 0 }), u4, Value.slice (some { block := g1, off := o1 }) n1 c1, Value.bool true, Value.pointer (some { block := U3.heap.size, off := 0 }), Value.int IntKind.i64 0, Value.int IntKind.i64 (sumC LL), Value.int IntKind.i64 (sumP LL), undef, u12, Value.int IntKind.i64 ↑i, Value.pointer (some { block := wr.heap.size, off := 0 }), Value.slice A3 n3 c3, Value.int IntKind.i64 0, Value.pointer (some { block := U6.heap.size, off := 0 }), Value.int IntKind.i64 0, fx 14, fx 16, u21, u22, undef, undef, Value.bool true, Value.bool false, Value.slice A n1 c, Value.int IntKind.i64 ↑n1, Value.bool false, Value.tuple #[Value.slice (some { block := g1, off := o1 }) n1 c1, Value.bool true], Value.slice A n1 c, dgV p, Value.tuple #[Value.slice (some { block := g1, off := o1 }) n1 c1, Value.bool true], Value.slice (some { block := g1, off := o1 }) n1 c1, Value.bool true, Value.bool true, Value.bool false, Value.tuple #[ndV x, Value.int IntKind.i64 0], Value.slice (some { block := g1, off := o1 }) n1 c1, Value.tuple #[ndV x, Value.int IntKind.i64 0], ndV x, Value.int IntKind.i64 0, Value.slice A n1 c, Value.int IntKind.i64 ↑n1, Value.int IntKind.i64 ↑j, Value.bool false, u47, u48, u49, u50, u51, u52, u53, u54, u55, u56, u57, u58, u59, u60, Value.int IntKind.i64 0, Value.bool false, Value.bool false, Value.pointer (some { block := U3.heap.size, off := 32 }), Value.int IntKind.i64 (sumC LL), Value.int IntKind.i64 (sumC LL), Value.bool false, Value.bool false, Value.bool false, Value.pointer (some { block := U3.heap.size, off := 33 }), Value.int IntKind.i64 (sumP LL), Value.int IntKind.i64 (sumP LL), Value.bool false, Value.bool false, Value.slice (some { block := g1, off := o1 }) n1 c1, Value.int IntKind.i64 ↑n1, Value.int IntKind.i64 ↑i, Value.bool true, Value.int IntKind.i64 ↑i, Value.pointer (some { block := g1, off := o1 + i * 34 }), Value.agg (ndC q).toArray, Value.tuple #[Value.slice A3 n3 c3, Value.int IntKind.i64 0], Value.slice (some { block := g1, off := o1 }) n1 c1, Value.int IntKind.i64 ↑i, Value.tuple #[Value.slice A3 n3 c3, Value.int IntKind.i64 0], Value.slice A3 n3 c3, Value.int IntKind.i64 0, Value.tuple #[ndV x, Value.int IntKind.i64 0], Value.agg (ndC q).toArray, Value.int IntKind.i64 ↑i, Value.slice (some { block := g1, off := o1 }) n1 c1, Value.int IntKind.i64 ↑n1, Value.slice A3 n3 c3, Value.tuple #[ndV x, Value.int IntKind.i64 0], ndV x, Value.int IntKind.i64 0, fx 11, fx 0, fx 1, fx 2, fx 3, fx 4, fx 5, fx 6, fx 7, fx 8, fx 9, Value.tuple #[ndV zeroN, .int .i64 1], fx 12, fx 13, u111, u112, u113, u114, u115, u116, u117, u118, u119, u120, u121, u122, u123, u124, u125, u126, u127, u128, u129, u130, u131, u132, u133, u134, u135, u136, u137, u138, u139, u140, u141, undef, undef, undef, undef, undef, undef, undef, undef, undef] []; rw [h0, h1, h3, h9] <;> rfl, ⟨hC.1.trans (hq.mono hC.1.size), fun h => (hC.2.1 h).mono hq.size, fun h h2 => (hC.2.2 h h2).below hq⟩, rfl, fun j v t _ _ h => wC3_below hq j v h⟩
            · have h10 : fx 10 = Value.tuple #[ndV zeroN, .int .i64 1] := hd.1 rfl
              go_wp2_with fail
              exact ⟨_, by show _ = Act.mk #[Value.slice A n1 c, dgV p, undef, Value.pointer (some { block := w.heap.size, off := 0 }), u4, Value.slice (some { block := g1, off := o1 }) n1 c1, Value.bool true, Value.pointer (some { block := U3.heap.size, off := 0 }), Value.int IntKind.i64 0, Value.int IntKind.i64 (sumC LL), Value.int IntKind.i64 (sumP LL), undef, u12, Value.int IntKind.i64 ↑i, Value.pointer (some { block := wr.heap.size, off := 0 }), Value.slice A3 n3 c3, Value.int IntKind.i64 0, Value.pointer (some { block := U6.heap.size, off := 0 }), Value.int IntKind.i64 0, fx 14, fx 16, u21, u22, undef, undef, Value.bool true, Value.bool false, Value.slice A n1 c, Value.int IntKind.i64 ↑n1, Value.bool false, Value.tuple #[Value.slice (some { block := g1, off := o1 }) n1 c1, Value.bool true], Value.slice A n1 c, dgV p, Value.tuple #[Value.slice (some { block := g1, off := o1 }) n1 c1, Value.bool true], Value.slice (some { block := g1, off := o1 }) n1 c1, Value.bool true, Value.bool true, Value.bool false, Value.tuple #[ndV x, Value.int IntKind.i64 0], Value.slice (some { block := g1, off := o1 }) n1 c1, Value.tuple #[ndV x, Value.int IntKind.i64 0], ndV x, Value.int IntKind.i64 0, Value.slice A n1 c, Value.int IntKind.i64 ↑n1, Value.int IntKind.i64 ↑j, Value.bool false, u47, u48, u49, u50, u51, u52, u53, u54, u55, u56, u57, u58, u59, u60, Value.int IntKind.i64 0, Value.bool false, Value.bool false, Value.pointer (some { block := U3.heap.size, off := 32 }), Value.int IntKind.i64 (sumC LL), Value.int IntKind.i64 (sumC LL), Value.bool false, Value.bool false, Value.bool false, Value.pointer (some { block := U3.heap.size, off := 33 }), Value.int IntKind.i64 (sumP LL), Value.int IntKind.i64 (sumP LL), Value.bool false, Value.bool false, Value.slice (some { block := g1, off := o1 }) n1 c1, Value.int IntKind.i64 ↑n1, Value.int IntKind.i64 ↑i, Value.bool true, Value.int IntKind.i64 ↑i, Value.pointer (some { block := g1, off := o1 + i * 34 }), Value.agg (ndC q).toArray, Value.tuple #[Value.slice A3 n3 c3, Value.int IntKind.i64 0], Value.slice (some { block := g1, off := o1 }) n1 c1, Value.int IntKind.i64 ↑i, Value.tuple #[Value.slice A3 n3 c3, Value.int IntKind.i64 0], Value.slice A3 n3 c3, Value.int IntKind.i64 0, Value.tuple #[ndV x, Value.int IntKind.i64 0], Value.agg (ndC q).toArray, Value.int IntKind.i64 ↑i, Value.slice (some { block := g1, off := o1 }) n1 c1, Value.int IntKind.i64 ↑n1, Value.slice A3 n3 c3, Value.tuple #[ndV x, Value.int IntKind.i64 0], ndV x, Value.int IntKind.i64 0, Value.tuple #[ndV zeroN, .int .i64 1], fx 0, fx 1, fx 2, fx 3, fx 4, fx 5, fx 6, fx 7, fx 8, fx 9, fx 10, fx 12, fx 13, u111, u112, u113, u114, u115, u116, u117, u118, u119, u120, u121, u122, u123, u124, u125, u126, u127, u128, u129, u130, u131, u132, u133, u134, u135, u136, u137, u138, u139, u140, u141, undef, undef, undef, undef, undef, undef, undef, undef, undef] []; rw [h10] <;> rfl, ⟨hC.1, fun h => hC.2.1 h, fun h h2 => hC.2.2 h h2⟩, rfl, fun _ _ _ _ _ h => h⟩
            · have h11 : fx 11 = Value.tuple #[ndV zeroN, .int .i64 1] := hd.1 rfl
              go_wp2_with fail
              exact ⟨_, by show _ = Act.mk #[Value.slice A n1 c, dgV p, undef, Value.pointer (some { block := w.heap.size, off := 0 }), u4, Value.slice (some { block := g1, off := o1 }) n1 c1, Value.bool true, Value.pointer (some { block := U3.heap.size, off := 0 }), Value.int IntKind.i64 0, Value.int IntKind.i64 (sumC LL), Value.int IntKind.i64 (sumP LL), undef, u12, Value.int IntKind.i64 ↑i, Value.pointer (some { block := wr.heap.size, off := 0 }), Value.slice A3 n3 c3, Value.int IntKind.i64 0, Value.pointer (some { block := U6.heap.size, off := 0 }), Value.int IntKind.i64 0, fx 14, fx 16, u21, u22, undef, undef, Value.bool true, Value.bool false, Value.slice A n1 c, Value.int IntKind.i64 ↑n1, Value.bool false, Value.tuple #[Value.slice (some { block := g1, off := o1 }) n1 c1, Value.bool true], Value.slice A n1 c, dgV p, Value.tuple #[Value.slice (some { block := g1, off := o1 }) n1 c1, Value.bool true], Value.slice (some { block := g1, off := o1 }) n1 c1, Value.bool true, Value.bool true, Value.bool false, Value.tuple #[ndV x, Value.int IntKind.i64 0], Value.slice (some { block := g1, off := o1 }) n1 c1, Value.tuple #[ndV x, Value.int IntKind.i64 0], ndV x, Value.int IntKind.i64 0, Value.slice A n1 c, Value.int IntKind.i64 ↑n1, Value.int IntKind.i64 ↑j, Value.bool false, u47, u48, u49, u50, u51, u52, u53, u54, u55, u56, u57, u58, u59, u60, Value.int IntKind.i64 0, Value.bool false, Value.bool false, Value.pointer (some { block := U3.heap.size, off := 32 }), Value.int IntKind.i64 (sumC LL), Value.int IntKind.i64 (sumC LL), Value.bool false, Value.bool false, Value.bool false, Value.pointer (some { block := U3.heap.size, off := 33 }), Value.int IntKind.i64 (sumP LL), Value.int IntKind.i64 (sumP LL), Value.bool false, Value.bool false, Value.slice (some { block := g1, off := o1 }) n1 c1, Value.int IntKind.i64 ↑n1, Value.int IntKind.i64 ↑i, Value.bool true, Value.int IntKind.i64 ↑i, Value.pointer (some { block := g1, off := o1 + i * 34 }), Value.agg (ndC q).toArray, Value.tuple #[Value.slice A3 n3 c3, Value.int IntKind.i64 0], Value.slice (some { block := g1, off := o1 }) n1 c1, Value.int IntKind.i64 ↑i, Value.tuple #[Value.slice A3 n3 c3, Value.int IntKind.i64 0], Value.slice A3 n3 c3, Value.int IntKind.i64 0, Value.tuple #[ndV x, Value.int IntKind.i64 0], Value.agg (ndC q).toArray, Value.int IntKind.i64 ↑i, Value.slice (some { block := g1, off := o1 }) n1 c1, Value.int IntKind.i64 ↑n1, Value.slice A3 n3 c3, Value.tuple #[ndV x, Value.int IntKind.i64 0], ndV x, Value.int IntKind.i64 0, fx 11, fx 0, fx 1, fx 2, fx 3, fx 4, fx 5, fx 6, fx 7, fx 8, fx 9, fx 10, ndV zeroN, fx 13, u111, u112, u113, u114, u115, u116, u117, u118, u119, u120, u121, u122, u123, u124, u125, u126, u127, u128, u129, u130, u131, u132, u133, u134, u135, u136, u137, u138, u139, u140, u141, undef, undef, undef, undef, undef, undef, undef, undef, undef] []; rw [h11] <;> rfl, ⟨hC.1, fun h => hC.2.1 h, fun h h2 => hC.2.2 h h2⟩, rfl, fun _ _ _ _ _ h => h⟩
            · have h11 : fx 11 = Value.tuple #[ndV zeroN, .int .i64 1] := hd.1 rfl
              go_wp2_with fail
              exact ⟨_, by show _ = Act.mk #[Value.slice A n1 c, dgV p, undef, Value.pointer (some { block := w.heap.size, off := 0 }), u4, Value.slice (some { block := g1, off := o1 }) n1 c1, Value.bool true, Value.pointer (some { block := U3.heap.size, off := 0 }), Value.int IntKind.i64 0, Value.int IntKind.i64 (sumC LL), Value.int IntKind.i64 (sumP LL), undef, u12, Value.int IntKind.i64 ↑i, Value.pointer (some { block := wr.heap.size, off := 0 }), Value.slice A3 n3 c3, Value.int IntKind.i64 0, Value.pointer (some { block := U6.heap.size, off := 0 }), Value.int IntKind.i64 0, fx 14, fx 16, u21, u22, undef, undef, Value.bool true, Value.bool false, Value.slice A n1 c, Value.int IntKind.i64 ↑n1, Value.bool false, Value.tuple #[Value.slice (some { block := g1, off := o1 }) n1 c1, Value.bool true], Value.slice A n1 c, dgV p, Value.tuple #[Value.slice (some { block := g1, off := o1 }) n1 c1, Value.bool true], Value.slice (some { block := g1, off := o1 }) n1 c1, Value.bool true, Value.bool true, Value.bool false, Value.tuple #[ndV x, Value.int IntKind.i64 0], Value.slice (some { block := g1, off := o1 }) n1 c1, Value.tuple #[ndV x, Value.int IntKind.i64 0], ndV x, Value.int IntKind.i64 0, Value.slice A n1 c, Value.int IntKind.i64 ↑n1, Value.int IntKind.i64 ↑j, Value.bool false, u47, u48, u49, u50, u51, u52, u53, u54, u55, u56, u57, u58, u59, u60, Value.int IntKind.i64 0, Value.bool false, Value.bool false, Value.pointer (some { block := U3.heap.size, off := 32 }), Value.int IntKind.i64 (sumC LL), Value.int IntKind.i64 (sumC LL), Value.bool false, Value.bool false, Value.bool false, Value.pointer (some { block := U3.heap.size, off := 33 }), Value.int IntKind.i64 (sumP LL), Value.int IntKind.i64 (sumP LL), Value.bool false, Value.bool false, Value.slice (some { block := g1, off := o1 }) n1 c1, Value.int IntKind.i64 ↑n1, Value.int IntKind.i64 ↑i, Value.bool true, Value.int IntKind.i64 ↑i, Value.pointer (some { block := g1, off := o1 + i * 34 }), Value.agg (ndC q).toArray, Value.tuple #[Value.slice A3 n3 c3, Value.int IntKind.i64 0], Value.slice (some { block := g1, off := o1 }) n1 c1, Value.int IntKind.i64 ↑i, Value.tuple #[Value.slice A3 n3 c3, Value.int IntKind.i64 0], Value.slice A3 n3 c3, Value.int IntKind.i64 0, Value.tuple #[ndV x, Value.int IntKind.i64 0], Value.agg (ndC q).toArray, Value.int IntKind.i64 ↑i, Value.slice (some { block := g1, off := o1 }) n1 c1, Value.int IntKind.i64 ↑n1, Value.slice A3 n3 c3, Value.tuple #[ndV x, Value.int IntKind.i64 0], ndV x, Value.int IntKind.i64 0, fx 11, fx 0, fx 1, fx 2, fx 3, fx 4, fx 5, fx 6, fx 7, fx 8, fx 9, fx 10, fx 12, Value.int .i64 (1), u111, u112, u113, u114, u115, u116, u117, u118, u119, u120, u121, u122, u123, u124, u125, u126, u127, u128, u129, u130, u131, u132, u133, u134, u135, u136, u137, u138, u139, u140, u141, undef, undef, undef, undef, undef, undef, undef, undef, undef] []; rw [h11] <;> rfl, ⟨hC.1, fun h => hC.2.1 h, fun h h2 => hC.2.2 h h2⟩, rfl, fun _ _ _ _ _ h => h⟩
            · go_wp2_with fail
              rw [← zeroN_cells]
              have hbb : Below w'.heap.size w' (w'.alloc (.cells (ndC zeroN).toArray 26)) := (Below.refl _ _).alloc (Nat.le_refl _) _
              exact ⟨_, rfl, ⟨hC.1.trans (hbb.mono hC.1.size), fun h => (hC.2.1 h).mono hbb.size, fun _ _ => ⟨_, rfl, hC.1.size, heap_alloc_new _ _, fun h6 e => by have := (hC.2.1 h6 _ e).2; omega⟩⟩, trivial, fun j v t _ _ h => wC3_below hbb j v h⟩
            · have H14 := Lib.hid (hd.1 rfl)
              have h12 : fx 12 = ndV zeroN := hd.2.1 rfl
              obtain ⟨z, h14, hq, hrow, _⟩ := hC.2.2 (hdn 14 (by kernel_rfl)) hi
              have hL9 := hcl 10 9 (hcl 11 10 (hcl 12 11 (hdn 12 (by kernel_rfl)) (by kernel_rfl)) (by kernel_rfl)) (by kernel_rfl)
              have hL10 := hcl 11 10 (hcl 12 11 (hdn 12 (by kernel_rfl)) (by kernel_rfl)) (by kernel_rfl)
              have hL6 := hcl 9 6 hL9 (by kernel_rfl)
              refine wpList_store_row rfl 26 (.tmp 19) (.tmp 109) rfl z (ndC zeroN).toArray h14 h12 26 _ hrow (size34' HZO.out) rfl (ndC_one _) ?_
              clear hd
              go_wp2_with fail
              refine ⟨undef, by show _ = Act.mk #[Value.slice A n1 c, dgV p, undef, Value.pointer (some { block := w.heap.size, off := 0 }), u4, Value.slice (some { block := g1, off := o1 }) n1 c1, Value.bool true, Value.pointer (some { block := U3.heap.size, off := 0 }), Value.int IntKind.i64 0, Value.int IntKind.i64 (sumC LL), Value.int IntKind.i64 (sumP LL), undef, u12, Value.int IntKind.i64 ↑i, Value.pointer (some { block := wr.heap.size, off := 0 }), Value.slice A3 n3 c3, Value.int IntKind.i64 0, Value.pointer (some { block := U6.heap.size, off := 0 }), Value.int IntKind.i64 0, fx 14, fx 16, u21, u22, undef, undef, Value.bool true, Value.bool false, Value.slice A n1 c, Value.int IntKind.i64 ↑n1, Value.bool false, Value.tuple #[Value.slice (some { block := g1, off := o1 }) n1 c1, Value.bool true], Value.slice A n1 c, dgV p, Value.tuple #[Value.slice (some { block := g1, off := o1 }) n1 c1, Value.bool true], Value.slice (some { block := g1, off := o1 }) n1 c1, Value.bool true, Value.bool true, Value.bool false, Value.tuple #[ndV x, Value.int IntKind.i64 0], Value.slice (some { block := g1, off := o1 }) n1 c1, Value.tuple #[ndV x, Value.int IntKind.i64 0], ndV x, Value.int IntKind.i64 0, Value.slice A n1 c, Value.int IntKind.i64 ↑n1, Value.int IntKind.i64 ↑j, Value.bool false, u47, u48, u49, u50, u51, u52, u53, u54, u55, u56, u57, u58, u59, u60, Value.int IntKind.i64 0, Value.bool false, Value.bool false, Value.pointer (some { block := U3.heap.size, off := 32 }), Value.int IntKind.i64 (sumC LL), Value.int IntKind.i64 (sumC LL), Value.bool false, Value.bool false, Value.bool false, Value.pointer (some { block := U3.heap.size, off := 33 }), Value.int IntKind.i64 (sumP LL), Value.int IntKind.i64 (sumP LL), Value.bool false, Value.bool false, Value.slice (some { block := g1, off := o1 }) n1 c1, Value.int IntKind.i64 ↑n1, Value.int IntKind.i64 ↑i, Value.bool true, Value.int IntKind.i64 ↑i, Value.pointer (some { block := g1, off := o1 + i * 34 }), Value.agg (ndC q).toArray, Value.tuple #[Value.slice A3 n3 c3, Value.int IntKind.i64 0], Value.slice (some { block := g1, off := o1 }) n1 c1, Value.int IntKind.i64 ↑i, Value.tuple #[Value.slice A3 n3 c3, Value.int IntKind.i64 0], Value.slice A3 n3 c3, Value.int IntKind.i64 0, Value.tuple #[ndV x, Value.int IntKind.i64 0], Value.agg (ndC q).toArray, Value.int IntKind.i64 ↑i, Value.slice (some { block := g1, off := o1 }) n1 c1, Value.int IntKind.i64 ↑n1, Value.slice A3 n3 c3, Value.tuple #[ndV x, Value.int IntKind.i64 0], ndV x, Value.int IntKind.i64 0, fx 11, fx 0, fx 1, fx 2, fx 3, fx 4, fx 5, fx 6, fx 7, fx 8, fx 9, fx 10, fx 12, fx 13, u111, u112, u113, u114, u115, u116, u117, u118, u119, u120, u121, u122, u123, u124, u125, u126, u127, u128, u129, u130, u131, u132, u133, u134, u135, u136, u137, u138, u139, u140, u141, undef, undef, undef, undef, undef, undef, undef, undef, undef] []; rw [h12, h14] <;> rfl, ⟨below_setRow hC.1 hq _, fun h => (hC.2.1 h).mono (by simp), fun _ h => (updB_self h).elim⟩, trivial, fun j v t hj hu h => ?_⟩
              by_cases e8 : j = 8
              · subst e8; refine absurd hu (not_needed (E := fun i => Nat.beq i 16) (j := 8) [9] (by kernel_rfl) (by kernel_rfl) (fun m hm hne => by simp at hm; subst hm; exact hL9))
              · by_cases e4 : j = 4
                · subst e4; refine absurd hu (not_needed (E := fun i => Nat.beq i 16) (j := 4) [6] (by kernel_rfl) (by kernel_rfl) (fun m hm hne => by simp at hm; subst hm; exact hL6))
                · by_cases e9 : j = 9
                  · subst e9; refine absurd hu (not_needed (E := fun i => Nat.beq i 16) (j := 9) [10] (by kernel_rfl) (by kernel_rfl) (fun m hm hne => by simp at hm; subst hm; exact hL10))
                  · by_cases e6 : j = 6
                    · subst e6; refine absurd hu (not_needed (E := fun i => Nat.beq i 16) (j := 6) [9] (by kernel_rfl) (by kernel_rfl) (fun m hm hne => by simp at hm; subst hm; exact hL9))
                    · by_cases e14 : j = 14
                      · subst e14; trivial
                      · by_cases e15 : j = 15
                        · subst e15; trivial
                        · exact wC3_pure j v e4 e6 e8 e9 e14 e15 h
            · have h13 : fx 13 = Value.int .i64 (1) := hd.1 rfl
              go_wp2_with fail
              exact ⟨_, by show _ = Act.mk #[Value.slice A n1 c, dgV p, undef, Value.pointer (some { block := w.heap.size, off := 0 }), u4, Value.slice (some { block := g1, off := o1 }) n1 c1, Value.bool true, Value.pointer (some { block := U3.heap.size, off := 0 }), Value.int IntKind.i64 0, Value.int IntKind.i64 (sumC LL), Value.int IntKind.i64 (sumP LL), undef, u12, Value.int IntKind.i64 ↑i, Value.pointer (some { block := wr.heap.size, off := 0 }), Value.slice A3 n3 c3, Value.int IntKind.i64 0, Value.pointer (some { block := U6.heap.size, off := 0 }), Value.int IntKind.i64 0, fx 14, Value.int .i64 (1), u21, u22, undef, undef, Value.bool true, Value.bool false, Value.slice A n1 c, Value.int IntKind.i64 ↑n1, Value.bool false, Value.tuple #[Value.slice (some { block := g1, off := o1 }) n1 c1, Value.bool true], Value.slice A n1 c, dgV p, Value.tuple #[Value.slice (some { block := g1, off := o1 }) n1 c1, Value.bool true], Value.slice (some { block := g1, off := o1 }) n1 c1, Value.bool true, Value.bool true, Value.bool false, Value.tuple #[ndV x, Value.int IntKind.i64 0], Value.slice (some { block := g1, off := o1 }) n1 c1, Value.tuple #[ndV x, Value.int IntKind.i64 0], ndV x, Value.int IntKind.i64 0, Value.slice A n1 c, Value.int IntKind.i64 ↑n1, Value.int IntKind.i64 ↑j, Value.bool false, u47, u48, u49, u50, u51, u52, u53, u54, u55, u56, u57, u58, u59, u60, Value.int IntKind.i64 0, Value.bool false, Value.bool false, Value.pointer (some { block := U3.heap.size, off := 32 }), Value.int IntKind.i64 (sumC LL), Value.int IntKind.i64 (sumC LL), Value.bool false, Value.bool false, Value.bool false, Value.pointer (some { block := U3.heap.size, off := 33 }), Value.int IntKind.i64 (sumP LL), Value.int IntKind.i64 (sumP LL), Value.bool false, Value.bool false, Value.slice (some { block := g1, off := o1 }) n1 c1, Value.int IntKind.i64 ↑n1, Value.int IntKind.i64 ↑i, Value.bool true, Value.int IntKind.i64 ↑i, Value.pointer (some { block := g1, off := o1 + i * 34 }), Value.agg (ndC q).toArray, Value.tuple #[Value.slice A3 n3 c3, Value.int IntKind.i64 0], Value.slice (some { block := g1, off := o1 }) n1 c1, Value.int IntKind.i64 ↑i, Value.tuple #[Value.slice A3 n3 c3, Value.int IntKind.i64 0], Value.slice A3 n3 c3, Value.int IntKind.i64 0, Value.tuple #[ndV x, Value.int IntKind.i64 0], Value.agg (ndC q).toArray, Value.int IntKind.i64 ↑i, Value.slice (some { block := g1, off := o1 }) n1 c1, Value.int IntKind.i64 ↑n1, Value.slice A3 n3 c3, Value.tuple #[ndV x, Value.int IntKind.i64 0], ndV x, Value.int IntKind.i64 0, fx 11, fx 0, fx 1, fx 2, fx 3, fx 4, fx 5, fx 6, fx 7, fx 8, fx 9, fx 10, fx 12, fx 13, u111, u112, u113, u114, u115, u116, u117, u118, u119, u120, u121, u122, u123, u124, u125, u126, u127, u128, u129, u130, u131, u132, u133, u134, u135, u136, u137, u138, u139, u140, u141, undef, undef, undef, undef, undef, undef, undef, undef, undef] []; rw [h13] <;> rfl, ⟨hC.1, fun h => hC.2.1 h, fun h h2 => hC.2.2 h h2⟩, rfl, fun _ _ _ _ _ h => h⟩
          · intro L fo w' hC hS
            have H16 := Lib.hid (hS 16 (by decide) rfl)
            have h16 : fo 16 = .int .i64 1 := H16.out
            rw [h16]
            have hbq := hC.1
            clear hS hC H16 h16
            have HB11 := Lib.hid (HB10.out.trans (hbq.mono HB10.out.size))
            have R7_11 := Lib.hid (row_kept R7_10.out hbq)
            have R14_11 := Lib.hid (row_kept R14_10.out hbq)
            have R17_11 := Lib.hid (row_kept R17_n.out hbq)
            have QA_11 := Lib.hid (row_kept QA_10.out hbq)
            have HIL_11 := Lib.hid (HIL_10.out.below hbq)
            have HBQ_11 := Lib.hid (HBQ_10.out.trans (hbq.mono HBQ_10.out.size))
            have HPI_11 := Lib.hid (HPI_10.out.below hbq)
            clear hbq HB10 R7_10 R14_10 R17_n QA_10 HIL_10 HBQ_10 HPI_10
            by_cases h30 : 0 < n3
            · have d10 : decide ((0 : Int) < (n3 : Int)) = true := decide_eq_true (by omega)
              obtain ⟨g3, o3, rfl, hg3, hr3⟩ := HPI_11.out.rd (by rw [HN3.out]; exact h30)
              clear hg3 hr3
              have hc3 := HPI_11.out.cap
              have hc3' : 1 ≤ c3 := by omega
              obtain ⟨A5, hA1, hA2, HI4⟩ : ∃ A5 : Option Addr, Hid (c3 = 1 → A5 = some ⟨g3, o3, none⟩) ∧ Hid (c3 ≠ 1 → A5 = some ⟨g3, o3 + 34, none⟩) ∧ Hid (InN w' A5 (n3 - 1) (c3 - 1) (ps.drop 1)) := by
                by_cases hc5 : c3 = 1
                · exact ⟨_, Lib.hid (fun _ => rfl), Lib.hid (fun h => absurd hc5 h), Lib.hid ⟨by rw [List.length_drop]; have := HPI_11.out.len; omega, by omega, (fun e => by cases e), fun x hx => HPI_11.out.ok x (List.mem_of_mem_drop hx), fun h0 => absurd h0 (by rw [List.length_drop]; have := HN3.out; omega)⟩⟩
                · exact ⟨_, Lib.hid (fun h => absurd h hc5), Lib.hid (fun _ => rfl), Lib.hid (HPI_11.out.drop 1 (by omega))⟩
              have HC4 := Lib.hid (HC3.out (by rw [HN3.out]; exact h30))
              go_wp2_with (first | (refine wpList_unguard rfl ?_; refine wpList_load_row rfl 26 (.tmp 17) rfl U6.heap.size rfl 26 _ (0, 0) _ R17_11.out Tryd.underlying26 rfl (size34' HXO.out) ?_) | (refine wpList_unguard rfl ?_; refine wpList_load_row rfl 26 (.tmp 7) rfl U3.heap.size rfl 26 _ (0, 0) _ R7_11.out Tryd.underlying26 rfl (size34' HXO.out) ?_) | (refine wpList_unguard rfl ?_; refine wpList_neq_nd rfl (.tmp 118) (.tmp 119) _ rfl x x rfl rfl HXO.out HXO.out ?_; rw [ndEq_refl]))
              refine region_flow3 (by kernel_rfl) (by kernel_rfl) (fun i => Nat.beq i 12) (fun i => i) (by kernel_rfl) (fun fx => #[Value.slice A n1 c, dgV p, undef, Value.pointer (some { block := w.heap.size, off := 0 }), u4, Value.slice (some { block := g1, off := o1 }) n1 c1, Value.bool true, Value.pointer (some { block := U3.heap.size, off := 0 }), Value.int IntKind.i64 0, Value.int IntKind.i64 (sumC LL), Value.int IntKind.i64 (sumP LL), undef, u12, Value.int IntKind.i64 ↑i, Value.pointer (some { block := wr.heap.size, off := 0 }), Value.slice (some { block := g3, off := o3 }) n3 c3, Value.int IntKind.i64 0, Value.pointer (some { block := U6.heap.size, off := 0 }), Value.int IntKind.i64 0, fo 14, Value.int IntKind.i64 1, fx 10, fx 12, undef, undef, Value.bool true, Value.bool false, Value.slice A n1 c, Value.int IntKind.i64 ↑n1, Value.bool false, Value.tuple #[Value.slice (some { block := g1, off := o1 }) n1 c1, Value.bool true], Value.slice A n1 c, dgV p, Value.tuple #[Value.slice (some { block := g1, off := o1 }) n1 c1, Value.bool true], Value.slice (some { block := g1, off := o1 }) n1 c1, Value.bool true, Value.bool true, Value.bool false, Value.tuple #[ndV x, Value.int IntKind.i64 0], Value.slice (some { block := g1, off := o1 }) n1 c1, Value.tuple #[ndV x, Value.int IntKind.i64 0], ndV x, Value.int IntKind.i64 0, Value.slice A n1 c, Value.int IntKind.i64 ↑n1, Value.int IntKind.i64 ↑j, Value.bool false, u47, u48, u49, u50, u51, u52, u53, u54, u55, u56, u57, u58, u59, u60, Value.int IntKind.i64 0, Value.bool false, Value.bool false, Value.pointer (some { block := U3.heap.size, off := 32 }), Value.int IntKind.i64 (sumC LL), Value.int IntKind.i64 (sumC LL), Value.bool false, Value.bool false, Value.bool false, Value.pointer (some { block := U3.heap.size, off := 33 }), Value.int IntKind.i64 (sumP LL), Value.int IntKind.i64 (sumP LL), Value.bool false, Value.bool false, Value.slice (some { block := g1, off := o1 }) n1 c1, Value.int IntKind.i64 ↑n1, Value.int IntKind.i64 ↑i, Value.bool true, Value.int IntKind.i64 ↑i, Value.pointer (some { block := g1, off := o1 + i * 34 }), Value.agg (ndC q).toArray, Value.tuple #[Value.slice (some { block := g3, off := o3 }) n3 c3, Value.int IntKind.i64 0], Value.slice (some { block := g1, off := o1 }) n1 c1, Value.int IntKind.i64 ↑i, Value.tuple #[Value.slice (some { block := g3, off := o3 }) n3 c3, Value.int IntKind.i64 0], Value.slice (some { block := g3, off := o3 }) n3 c3, Value.int IntKind.i64 0, Value.tuple #[ndV x, Value.int IntKind.i64 0], Value.agg (ndC q).toArray, Value.int IntKind.i64 ↑i, Value.slice (some { block := g1, off := o1 }) n1 c1, Value.int IntKind.i64 ↑n1, Value.slice (some { block := g3, off := o3 }) n3 c3, Value.tuple #[ndV x, Value.int IntKind.i64 0], ndV x, Value.int IntKind.i64 0, fo 11, fo 0, fo 1, fo 2, fo 3, fo 4, fo 5, fo 6, fo 7, fo 8, fo 9, fo 10, fo 12, fo 13, Value.int IntKind.i64 0, Value.bool false, Value.bool false, Value.int IntKind.i64 0, Value.bool false, Value.bool false, Value.bool false, Value.agg (ndC x).toArray, Value.agg (ndC x).toArray, Value.bool false, Value.bool false, Value.bool false, Value.int IntKind.i64 1, Value.bool false, Value.bool false, Value.slice (some { block := g3, off := o3 }) n3 c3, Value.int IntKind.i64 ↑n3, Value.bool true, fx 7, fx 0, fx 1, fx 2, fx 3, fx 4, fx 5, fx 6, fx 8, fx 9, u139, u140, u141, undef, undef, undef, undef, undef, undef, undef, undef, undef]) (fun i => bif Nat.beq i 0 then u130 else bif Nat.beq i 1 then u131 else bif Nat.beq i 2 then u132 else bif Nat.beq i 3 then u133 else bif Nat.beq i 4 then u134 else bif Nat.beq i 5 then u135 else bif Nat.beq i 6 then u136 else bif Nat.beq i 7 then u129 else bif Nat.beq i 8 then u137 else bif Nat.beq i 9 then u138 else bif Nat.beq i 10 then u21 else bif Nat.beq i 12 then u22 else undef) (fun L fx w'' => Below w'.heap.size w' w'' ∧ (L 10 = true → L 11 = false → NewN w'.heap.size (fx 10) w'')) (fun fi fv _ fw => wC7 A5 q i g1 o1 n1 c1 g3 o3 n3 c3 fi fv fw) ⟨(Below.refl _ _).drew, fun h => by cases h⟩ ?_ ?_
              · refine ⟨?_, ?_, ?_, ?_, ?_, ?_, ?_, ?_, ?_, ?_, ?_, ?_, ?_, trivial⟩
                all_goals intro L fx w' hC hi hcl hdn hd
                · have hrow := row_kept R14_11.out hC.1
                  refine wpList_load_row rfl 26 (.tmp 14) rfl wr.heap.size rfl 26 _ (0, 0) _ hrow Tryd.underlying26 rfl (size34' HQO.out) ?_
                  clear hd
                  go_wp2_with fail
                  exact ⟨_, rfl, ⟨hC.1, fun h h2 => hC.2 h h2⟩, rfl, fun _ _ _ _ _ h => h⟩
                · go_wp2_with fail
                  exact ⟨_, rfl, ⟨hC.1, fun h h2 => hC.2 h h2⟩, rfl, fun _ _ _ _ _ h => h⟩
                · go_wp2_with fail
                  exact ⟨_, rfl, ⟨hC.1, fun h h2 => hC.2 h h2⟩, rfl, fun _ _ _ _ _ h => h⟩
                · have h2 : fx 2 = Value.slice (some ⟨g1, o1, none⟩) n1 c1 := hd.1 rfl
                  go_wp2_with fail
                  exact ⟨_, by show _ = Act.mk #[Value.slice A n1 c, dgV p, undef, Value.pointer (some { block := w.heap.size, off := 0 }), u4, Value.slice (some { block := g1, off := o1 }) n1 c1, Value.bool true, Value.pointer (some { block := U3.heap.size, off := 0 }), Value.int IntKind.i64 0, Value.int IntKind.i64 (sumC LL), Value.int IntKind.i64 (sumP LL), undef, u12, Value.int IntKind.i64 ↑i, Value.pointer (some { block := wr.heap.size, off := 0 }), Value.slice (some { block := g3, off := o3 }) n3 c3, Value.int IntKind.i64 0, Value.pointer (some { block := U6.heap.size, off := 0 }), Value.int IntKind.i64 0, fo 14, Value.int IntKind.i64 1, fx 10, fx 12, undef, undef, Value.bool true, Value.bool false, Value.slice A n1 c, Value.int IntKind.i64 ↑n1, Value.bool false, Value.tuple #[Value.slice (some { block := g1, off := o1 }) n1 c1, Value.bool true], Value.slice A n1 c, dgV p, Value.tuple #[Value.slice (some { block := g1, off := o1 }) n1 c1, Value.bool true], Value.slice (some { block := g1, off := o1 }) n1 c1, Value.bool true, Value.bool true, Value.bool false, Value.tuple #[ndV x, Value.int IntKind.i64 0], Value.slice (some { block := g1, off := o1 }) n1 c1, Value.tuple #[ndV x, Value.int IntKind.i64 0], ndV x, Value.int IntKind.i64 0, Value.slice A n1 c, Value.int IntKind.i64 ↑n1, Value.int IntKind.i64 ↑j, Value.bool false, u47, u48, u49, u50, u51, u52, u53, u54, u55, u56, u57, u58, u59, u60, Value.int IntKind.i64 0, Value.bool false, Value.bool false, Value.pointer (some { block := U3.heap.size, off := 32 }), Value.int IntKind.i64 (sumC LL), Value.int IntKind.i64 (sumC LL), Value.bool false, Value.bool false, Value.bool false, Value.pointer (some { block := U3.heap.size, off := 33 }), Value.int IntKind.i64 (sumP LL), Value.int IntKind.i64 (sumP LL), Value.bool false, Value.bool false, Value.slice (some { block := g1, off := o1 }) n1 c1, Value.int IntKind.i64 ↑n1, Value.int IntKind.i64 ↑i, Value.bool true, Value.int IntKind.i64 ↑i, Value.pointer (some { block := g1, off := o1 + i * 34 }), Value.agg (ndC q).toArray, Value.tuple #[Value.slice (some { block := g3, off := o3 }) n3 c3, Value.int IntKind.i64 0], Value.slice (some { block := g1, off := o1 }) n1 c1, Value.int IntKind.i64 ↑i, Value.tuple #[Value.slice (some { block := g3, off := o3 }) n3 c3, Value.int IntKind.i64 0], Value.slice (some { block := g3, off := o3 }) n3 c3, Value.int IntKind.i64 0, Value.tuple #[ndV x, Value.int IntKind.i64 0], Value.agg (ndC q).toArray, Value.int IntKind.i64 ↑i, Value.slice (some { block := g1, off := o1 }) n1 c1, Value.int IntKind.i64 ↑n1, Value.slice (some { block := g3, off := o3 }) n3 c3, Value.tuple #[ndV x, Value.int IntKind.i64 0], ndV x, Value.int IntKind.i64 0, fo 11, fo 0, fo 1, fo 2, fo 3, fo 4, fo 5, fo 6, fo 7, fo 8, fo 9, fo 10, fo 12, fo 13, Value.int IntKind.i64 0, Value.bool false, Value.bool false, Value.int IntKind.i64 0, Value.bool false, Value.bool false, Value.bool false, Value.agg (ndC x).toArray, Value.agg (ndC x).toArray, Value.bool false, Value.bool false, Value.bool false, Value.int IntKind.i64 1, Value.bool false, Value.bool false, Value.slice (some { block := g3, off := o3 }) n3 c3, Value.int IntKind.i64 ↑n3, Value.bool true, fx 7, fx 0, fx 1, fx 2, Value.int .i64 ((n1 : Nat)), fx 4, fx 5, fx 6, fx 8, fx 9, u139, u140, u141, undef, undef, undef, undef, undef, undef, undef, undef, undef] []; rw [h2] <;> rfl, ⟨hC.1, fun h h2 => hC.2 h h2⟩, rfl, fun _ _ _ _ _ h => h⟩
                · go_wp2_with fail
                  exact ⟨_, rfl, ⟨hC.1, fun h h2 => hC.2 h h2⟩, rfl, fun _ _ _ _ _ h => h⟩
                · have h4 : fx 4 = Value.slice (some ⟨g3, o3, none⟩) n3 c3 := hd.1 rfl
                  have hn31 : 1 ≤ n3 := h30
                  by_cases hc5 : c3 = 1
                  · subst hc5
                    have E5 := Lib.hid (hA1.out rfl)
                    clear hA1 hA2
                    go_wp2_with fail
                    exact ⟨_, by show _ = Act.mk #[Value.slice A n1 c, dgV p, undef, Value.pointer (some { block := w.heap.size, off := 0 }), u4, Value.slice (some { block := g1, off := o1 }) n1 c1, Value.bool true, Value.pointer (some { block := U3.heap.size, off := 0 }), Value.int IntKind.i64 0, Value.int IntKind.i64 (sumC LL), Value.int IntKind.i64 (sumP LL), undef, u12, Value.int IntKind.i64 ↑i, Value.pointer (some { block := wr.heap.size, off := 0 }), Value.slice (some { block := g3, off := o3 }) n3 1, Value.int IntKind.i64 0, Value.pointer (some { block := U6.heap.size, off := 0 }), Value.int IntKind.i64 0, fo 14, Value.int IntKind.i64 1, fx 10, fx 12, undef, undef, Value.bool true, Value.bool false, Value.slice A n1 c, Value.int IntKind.i64 ↑n1, Value.bool false, Value.tuple #[Value.slice (some { block := g1, off := o1 }) n1 c1, Value.bool true], Value.slice A n1 c, dgV p, Value.tuple #[Value.slice (some { block := g1, off := o1 }) n1 c1, Value.bool true], Value.slice (some { block := g1, off := o1 }) n1 c1, Value.bool true, Value.bool true, Value.bool false, Value.tuple #[ndV x, Value.int IntKind.i64 0], Value.slice (some { block := g1, off := o1 }) n1 c1, Value.tuple #[ndV x, Value.int IntKind.i64 0], ndV x, Value.int IntKind.i64 0, Value.slice A n1 c, Value.int IntKind.i64 ↑n1, Value.int IntKind.i64 ↑j, Value.bool false, u47, u48, u49, u50, u51, u52, u53, u54, u55, u56, u57, u58, u59, u60, Value.int IntKind.i64 0, Value.bool false, Value.bool false, Value.pointer (some { block := U3.heap.size, off := 32 }), Value.int IntKind.i64 (sumC LL), Value.int IntKind.i64 (sumC LL), Value.bool false, Value.bool false, Value.bool false, Value.pointer (some { block := U3.heap.size, off := 33 }), Value.int IntKind.i64 (sumP LL), Value.int IntKind.i64 (sumP LL), Value.bool false, Value.bool false, Value.slice (some { block := g1, off := o1 }) n1 c1, Value.int IntKind.i64 ↑n1, Value.int IntKind.i64 ↑i, Value.bool true, Value.int IntKind.i64 ↑i, Value.pointer (some { block := g1, off := o1 + i * 34 }), Value.agg (ndC q).toArray, Value.tuple #[Value.slice (some { block := g3, off := o3 }) n3 1, Value.int IntKind.i64 0], Value.slice (some { block := g1, off := o1 }) n1 c1, Value.int IntKind.i64 ↑i, Value.tuple #[Value.slice (some { block := g3, off := o3 }) n3 1, Value.int IntKind.i64 0], Value.slice (some { block := g3, off := o3 }) n3 1, Value.int IntKind.i64 0, Value.tuple #[ndV x, Value.int IntKind.i64 0], Value.agg (ndC q).toArray, Value.int IntKind.i64 ↑i, Value.slice (some { block := g1, off := o1 }) n1 c1, Value.int IntKind.i64 ↑n1, Value.slice (some { block := g3, off := o3 }) n3 1, Value.tuple #[ndV x, Value.int IntKind.i64 0], ndV x, Value.int IntKind.i64 0, fo 11, fo 0, fo 1, fo 2, fo 3, fo 4, fo 5, fo 6, fo 7, fo 8, fo 9, fo 10, fo 12, fo 13, Value.int IntKind.i64 0, Value.bool false, Value.bool false, Value.int IntKind.i64 0, Value.bool false, Value.bool false, Value.bool false, Value.agg (ndC x).toArray, Value.agg (ndC x).toArray, Value.bool false, Value.bool false, Value.bool false, Value.int IntKind.i64 1, Value.bool false, Value.bool false, Value.slice (some { block := g3, off := o3 }) n3 1, Value.int IntKind.i64 ↑n3, Value.bool true, fx 7, fx 0, fx 1, fx 2, fx 3, fx 4, Value.slice (some ⟨g3, o3, none⟩) 0 0, fx 6, fx 8, fx 9, u139, u140, u141, undef, undef, undef, undef, undef, undef, undef, undef, undef] []; rw [h4] <;> rfl, ⟨hC.1, fun h h2 => hC.2 h h2⟩, (by show Value.slice _ 0 0 = Value.slice A5 (n3 - 1) (1 - 1); rw [E5.out, show n3 - 1 = 0 by omega]), fun _ _ _ _ _ h => h⟩
                  · go_wp2_with fail
                    exact ⟨_, by show _ = Act.mk #[Value.slice A n1 c, dgV p, undef, Value.pointer (some { block := w.heap.size, off := 0 }), u4, Value.slice (some { block := g1, off := o1 }) n1 c1, Value.bool true, Value.pointer (some { block := U3.heap.size, off := 0 }), Value.int IntKind.i64 0, Value.int IntKind.i64 (sumC LL), Value.int IntKind.i64 (sumP LL), undef, u12, Value.int IntKind.i64 ↑i, Value.pointer (some { block := wr.heap.size, off := 0 }), Value.slice (some { block := g3, off := o3 }) n3 c3, Value.int IntKind.i64 0, Value.pointer (some { block := U6.heap.size, off := 0 }), Value.int IntKind.i64 0, fo 14, Value.int IntKind.i64 1, fx 10, fx 12, undef, undef, Value.bool true, Value.bool false, Value.slice A n1 c, Value.int IntKind.i64 ↑n1, Value.bool false, Value.tuple #[Value.slice (some { block := g1, off := o1 }) n1 c1, Value.bool true], Value.slice A n1 c, dgV p, Value.tuple #[Value.slice (some { block := g1, off := o1 }) n1 c1, Value.bool true], Value.slice (some { block := g1, off := o1 }) n1 c1, Value.bool true, Value.bool true, Value.bool false, Value.tuple #[ndV x, Value.int IntKind.i64 0], Value.slice (some { block := g1, off := o1 }) n1 c1, Value.tuple #[ndV x, Value.int IntKind.i64 0], ndV x, Value.int IntKind.i64 0, Value.slice A n1 c, Value.int IntKind.i64 ↑n1, Value.int IntKind.i64 ↑j, Value.bool false, u47, u48, u49, u50, u51, u52, u53, u54, u55, u56, u57, u58, u59, u60, Value.int IntKind.i64 0, Value.bool false, Value.bool false, Value.pointer (some { block := U3.heap.size, off := 32 }), Value.int IntKind.i64 (sumC LL), Value.int IntKind.i64 (sumC LL), Value.bool false, Value.bool false, Value.bool false, Value.pointer (some { block := U3.heap.size, off := 33 }), Value.int IntKind.i64 (sumP LL), Value.int IntKind.i64 (sumP LL), Value.bool false, Value.bool false, Value.slice (some { block := g1, off := o1 }) n1 c1, Value.int IntKind.i64 ↑n1, Value.int IntKind.i64 ↑i, Value.bool true, Value.int IntKind.i64 ↑i, Value.pointer (some { block := g1, off := o1 + i * 34 }), Value.agg (ndC q).toArray, Value.tuple #[Value.slice (some { block := g3, off := o3 }) n3 c3, Value.int IntKind.i64 0], Value.slice (some { block := g1, off := o1 }) n1 c1, Value.int IntKind.i64 ↑i, Value.tuple #[Value.slice (some { block := g3, off := o3 }) n3 c3, Value.int IntKind.i64 0], Value.slice (some { block := g3, off := o3 }) n3 c3, Value.int IntKind.i64 0, Value.tuple #[ndV x, Value.int IntKind.i64 0], Value.agg (ndC q).toArray, Value.int IntKind.i64 ↑i, Value.slice (some { block := g1, off := o1 }) n1 c1, Value.int IntKind.i64 ↑n1, Value.slice (some { block := g3, off := o3 }) n3 c3, Value.tuple #[ndV x, Value.int IntKind.i64 0], ndV x, Value.int IntKind.i64 0, fo 11, fo 0, fo 1, fo 2, fo 3, fo 4, fo 5, fo 6, fo 7, fo 8, fo 9, fo 10, fo 12, fo 13, Value.int IntKind.i64 0, Value.bool false, Value.bool false, Value.int IntKind.i64 0, Value.bool false, Value.bool false, Value.bool false, Value.agg (ndC x).toArray, Value.agg (ndC x).toArray, Value.bool false, Value.bool false, Value.bool false, Value.int IntKind.i64 1, Value.bool false, Value.bool false, Value.slice (some { block := g3, off := o3 }) n3 c3, Value.int IntKind.i64 ↑n3, Value.bool true, fx 7, fx 0, fx 1, fx 2, fx 3, fx 4, Value.slice (some ⟨g3, o3 + 34, none⟩) (n3 - 1) (c3 - 1), fx 6, fx 8, fx 9, u139, u140, u141, undef, undef, undef, undef, undef, undef, undef, undef, undef] []; rw [h4] <;> rfl, ⟨hC.1, fun h h2 => hC.2 h h2⟩, (by show Value.slice _ _ _ = Value.slice A5 _ _; rw [hA2.out hc5]), fun _ _ _ _ _ h => h⟩
                · have h0 : fx 0 = ndV q := hd.1 rfl
                  have h1 : fx 1 = Value.int .i64 ((i : Nat)) := hd.2.1 rfl
                  have h3 : fx 3 = Value.int .i64 ((n1 : Nat)) := hd.2.2.1 rfl
                  have h5 : fx 5 = Value.slice A5 (n3 - 1) (c3 - 1) := hd.2.2.2.1 rfl
                  have HTk := Lib.hid (hT.out.below (HB11.out.trans (hC.1.mono HB11.out.size)))
                  have HI5 := Lib.hid (HI4.out.below hC.1)
                  go_wp2_with fail
                  refine (climb_any q (i : Int) (n1 : Int) (ps.drop 1) _ (n3 - 1) (c3 - 1) w' HQO.out (by omega) (by omega) (by omega) HI5 HTk).mono ?_
                  rintro e w2 ⟨rfl, hq⟩
                  rw [HC4.out.1, HC4.out.2]
                  go_wp2_with fail
                  exact ⟨_, by show _ = Act.mk #[Value.slice A n1 c, dgV p, undef, Value.pointer (some { block := w.heap.size, off := 0 }), u4, Value.slice (some { block := g1, off := o1 }) n1 c1, Value.bool true, Value.pointer (some { block := U3.heap.size, off := 0 }), Value.int IntKind.i64 0, Value.int IntKind.i64 (sumC LL), Value.int IntKind.i64 (sumP LL), undef, u12, Value.int IntKind.i64 ↑i, Value.pointer (some { block := wr.heap.size, off := 0 }), Value.slice (some { block := g3, off := o3 }) n3 c3, Value.int IntKind.i64 0, Value.pointer (some { block := U6.heap.size, off := 0 }), Value.int IntKind.i64 0, fo 14, Value.int IntKind.i64 1, fx 10, fx 12, undef, undef, Value.bool true, Value.bool false, Value.slice A n1 c, Value.int IntKind.i64 ↑n1, Value.bool false, Value.tuple #[Value.slice (some { block := g1, off := o1 }) n1 c1, Value.bool true], Value.slice A n1 c, dgV p, Value.tuple #[Value.slice (some { block := g1, off := o1 }) n1 c1, Value.bool true], Value.slice (some { block := g1, off := o1 }) n1 c1, Value.bool true, Value.bool true, Value.bool false, Value.tuple #[ndV x, Value.int IntKind.i64 0], Value.slice (some { block := g1, off := o1 }) n1 c1, Value.tuple #[ndV x, Value.int IntKind.i64 0], ndV x, Value.int IntKind.i64 0, Value.slice A n1 c, Value.int IntKind.i64 ↑n1, Value.int IntKind.i64 ↑j, Value.bool false, u47, u48, u49, u50, u51, u52, u53, u54, u55, u56, u57, u58, u59, u60, Value.int IntKind.i64 0, Value.bool false, Value.bool false, Value.pointer (some { block := U3.heap.size, off := 32 }), Value.int IntKind.i64 (sumC LL), Value.int IntKind.i64 (sumC LL), Value.bool false, Value.bool false, Value.bool false, Value.pointer (some { block := U3.heap.size, off := 33 }), Value.int IntKind.i64 (sumP LL), Value.int IntKind.i64 (sumP LL), Value.bool false, Value.bool false, Value.slice (some { block := g1, off := o1 }) n1 c1, Value.int IntKind.i64 ↑n1, Value.int IntKind.i64 ↑i, Value.bool true, Value.int IntKind.i64 ↑i, Value.pointer (some { block := g1, off := o1 + i * 34 }), Value.agg (ndC q).toArray, Value.tuple #[Value.slice (some { block := g3, off := o3 }) n3 c3, Value.int IntKind.i64 0], Value.slice (some { block := g1, off := o1 }) n1 c1, Value.int IntKind.i64 ↑i, Value.tuple #[Value.slice (some { block := g3, off := o3 }) n3 c3, Value.int IntKind.i64 0], Value.slice (some { block := g3, off := o3 }) n3 c3, Value.int IntKind.i64 0, Value.tuple #[ndV x, Value.int IntKind.i64 0], Value.agg (ndC q).toArray, Value.int IntKind.i64 ↑i, Value.slice (some { block := g1, off := o1 }) n1 c1, Value.int IntKind.i64 ↑n1, Value.slice (some { block := g3, off := o3 }) n3 c3, Value.tuple #[ndV x, Value.int IntKind.i64 0], ndV x, Value.int IntKind.i64 0, fo 11, fo 0, fo 1, fo 2, fo 3, fo 4, fo 5, fo 6, fo 7, fo 8, fo 9, fo 10, fo 12, fo 13, Value.int IntKind.i64 0, Value.bool false, Value.bool false, Value.int IntKind.i64 0, Value.bool false, Value.bool false, Value.bool false, Value.agg (ndC x).toArray, Value.agg (ndC x).toArray, Value.bool false, Value.bool false, Value.bool false, Value.int IntKind.i64 1, Value.bool false, Value.bool false, Value.slice (some { block := g3, off := o3 }) n3 c3, Value.int IntKind.i64 ↑n3, Value.bool true, fx 7, fx 0, fx 1, fx 2, fx 3, fx 4, fx 5, Value.tuple #[ndV zeroN, .int .i64 1], fx 8, fx 9, u139, u140, u141, undef, undef, undef, undef, undef, undef, undef, undef, undef] []; rw [h0, h1, h3, h5] <;> rfl, ⟨hC.1.trans (hq.mono hC.1.size), fun h h2 => (hC.2 h h2).below hq⟩, rfl, fun j v t _ _ h => wC7_below hq j v h⟩
                · have h6 : fx 6 = Value.tuple #[ndV zeroN, .int .i64 1] := hd.1 rfl
                  go_wp2_with fail
                  exact ⟨_, by show _ = Act.mk #[Value.slice A n1 c, dgV p, undef, Value.pointer (some { block := w.heap.size, off := 0 }), u4, Value.slice (some { block := g1, off := o1 }) n1 c1, Value.bool true, Value.pointer (some { block := U3.heap.size, off := 0 }), Value.int IntKind.i64 0, Value.int IntKind.i64 (sumC LL), Value.int IntKind.i64 (sumP LL), undef, u12, Value.int IntKind.i64 ↑i, Value.pointer (some { block := wr.heap.size, off := 0 }), Value.slice (some { block := g3, off := o3 }) n3 c3, Value.int IntKind.i64 0, Value.pointer (some { block := U6.heap.size, off := 0 }), Value.int IntKind.i64 0, fo 14, Value.int IntKind.i64 1, fx 10, fx 12, undef, undef, Value.bool true, Value.bool false, Value.slice A n1 c, Value.int IntKind.i64 ↑n1, Value.bool false, Value.tuple #[Value.slice (some { block := g1, off := o1 }) n1 c1, Value.bool true], Value.slice A n1 c, dgV p, Value.tuple #[Value.slice (some { block := g1, off := o1 }) n1 c1, Value.bool true], Value.slice (some { block := g1, off := o1 }) n1 c1, Value.bool true, Value.bool true, Value.bool false, Value.tuple #[ndV x, Value.int IntKind.i64 0], Value.slice (some { block := g1, off := o1 }) n1 c1, Value.tuple #[ndV x, Value.int IntKind.i64 0], ndV x, Value.int IntKind.i64 0, Value.slice A n1 c, Value.int IntKind.i64 ↑n1, Value.int IntKind.i64 ↑j, Value.bool false, u47, u48, u49, u50, u51, u52, u53, u54, u55, u56, u57, u58, u59, u60, Value.int IntKind.i64 0, Value.bool false, Value.bool false, Value.pointer (some { block := U3.heap.size, off := 32 }), Value.int IntKind.i64 (sumC LL), Value.int IntKind.i64 (sumC LL), Value.bool false, Value.bool false, Value.bool false, Value.pointer (some { block := U3.heap.size, off := 33 }), Value.int IntKind.i64 (sumP LL), Value.int IntKind.i64 (sumP LL), Value.bool false, Value.bool false, Value.slice (some { block := g1, off := o1 }) n1 c1, Value.int IntKind.i64 ↑n1, Value.int IntKind.i64 ↑i, Value.bool true, Value.int IntKind.i64 ↑i, Value.pointer (some { block := g1, off := o1 + i * 34 }), Value.agg (ndC q).toArray, Value.tuple #[Value.slice (some { block := g3, off := o3 }) n3 c3, Value.int IntKind.i64 0], Value.slice (some { block := g1, off := o1 }) n1 c1, Value.int IntKind.i64 ↑i, Value.tuple #[Value.slice (some { block := g3, off := o3 }) n3 c3, Value.int IntKind.i64 0], Value.slice (some { block := g3, off := o3 }) n3 c3, Value.int IntKind.i64 0, Value.tuple #[ndV x, Value.int IntKind.i64 0], Value.agg (ndC q).toArray, Value.int IntKind.i64 ↑i, Value.slice (some { block := g1, off := o1 }) n1 c1, Value.int IntKind.i64 ↑n1, Value.slice (some { block := g3, off := o3 }) n3 c3, Value.tuple #[ndV x, Value.int IntKind.i64 0], ndV x, Value.int IntKind.i64 0, fo 11, fo 0, fo 1, fo 2, fo 3, fo 4, fo 5, fo 6, fo 7, fo 8, fo 9, fo 10, fo 12, fo 13, Value.int IntKind.i64 0, Value.bool false, Value.bool false, Value.int IntKind.i64 0, Value.bool false, Value.bool false, Value.bool false, Value.agg (ndC x).toArray, Value.agg (ndC x).toArray, Value.bool false, Value.bool false, Value.bool false, Value.int IntKind.i64 1, Value.bool false, Value.bool false, Value.slice (some { block := g3, off := o3 }) n3 c3, Value.int IntKind.i64 ↑n3, Value.bool true, Value.tuple #[ndV zeroN, .int .i64 1], fx 0, fx 1, fx 2, fx 3, fx 4, fx 5, fx 6, fx 8, fx 9, u139, u140, u141, undef, undef, undef, undef, undef, undef, undef, undef, undef] []; rw [h6] <;> rfl, ⟨hC.1, fun h h2 => hC.2 h h2⟩, rfl, fun _ _ _ _ _ h => h⟩
                · have h7 : fx 7 = Value.tuple #[ndV zeroN, .int .i64 1] := hd.1 rfl
                  go_wp2_with fail
                  exact ⟨_, by show _ = Act.mk #[Value.slice A n1 c, dgV p, undef, Value.pointer (some { block := w.heap.size, off := 0 }), u4, Value.slice (some { block := g1, off := o1 }) n1 c1, Value.bool true, Value.pointer (some { block := U3.heap.size, off := 0 }), Value.int IntKind.i64 0, Value.int IntKind.i64 (sumC LL), Value.int IntKind.i64 (sumP LL), undef, u12, Value.int IntKind.i64 ↑i, Value.pointer (some { block := wr.heap.size, off := 0 }), Value.slice (some { block := g3, off := o3 }) n3 c3, Value.int IntKind.i64 0, Value.pointer (some { block := U6.heap.size, off := 0 }), Value.int IntKind.i64 0, fo 14, Value.int IntKind.i64 1, fx 10, fx 12, undef, undef, Value.bool true, Value.bool false, Value.slice A n1 c, Value.int IntKind.i64 ↑n1, Value.bool false, Value.tuple #[Value.slice (some { block := g1, off := o1 }) n1 c1, Value.bool true], Value.slice A n1 c, dgV p, Value.tuple #[Value.slice (some { block := g1, off := o1 }) n1 c1, Value.bool true], Value.slice (some { block := g1, off := o1 }) n1 c1, Value.bool true, Value.bool true, Value.bool false, Value.tuple #[ndV x, Value.int IntKind.i64 0], Value.slice (some { block := g1, off := o1 }) n1 c1, Value.tuple #[ndV x, Value.int IntKind.i64 0], ndV x, Value.int IntKind.i64 0, Value.slice A n1 c, Value.int IntKind.i64 ↑n1, Value.int IntKind.i64 ↑j, Value.bool false, u47, u48, u49, u50, u51, u52, u53, u54, u55, u56, u57, u58, u59, u60, Value.int IntKind.i64 0, Value.bool false, Value.bool false, Value.pointer (some { block := U3.heap.size, off := 32 }), Value.int IntKind.i64 (sumC LL), Value.int IntKind.i64 (sumC LL), Value.bool false, Value.bool false, Value.bool false, Value.pointer (some { block := U3.heap.size, off := 33 }), Value.int IntKind.i64 (sumP LL), Value.int IntKind.i64 (sumP LL), Value.bool false, Value.bool false, Value.slice (some { block := g1, off := o1 }) n1 c1, Value.int IntKind.i64 ↑n1, Value.int IntKind.i64 ↑i, Value.bool true, Value.int IntKind.i64 ↑i, Value.pointer (some { block := g1, off := o1 + i * 34 }), Value.agg (ndC q).toArray, Value.tuple #[Value.slice (some { block := g3, off := o3 }) n3 c3, Value.int IntKind.i64 0], Value.slice (some { block := g1, off := o1 }) n1 c1, Value.int IntKind.i64 ↑i, Value.tuple #[Value.slice (some { block := g3, off := o3 }) n3 c3, Value.int IntKind.i64 0], Value.slice (some { block := g3, off := o3 }) n3 c3, Value.int IntKind.i64 0, Value.tuple #[ndV x, Value.int IntKind.i64 0], Value.agg (ndC q).toArray, Value.int IntKind.i64 ↑i, Value.slice (some { block := g1, off := o1 }) n1 c1, Value.int IntKind.i64 ↑n1, Value.slice (some { block := g3, off := o3 }) n3 c3, Value.tuple #[ndV x, Value.int IntKind.i64 0], ndV x, Value.int IntKind.i64 0, fo 11, fo 0, fo 1, fo 2, fo 3, fo 4, fo 5, fo 6, fo 7, fo 8, fo 9, fo 10, fo 12, fo 13, Value.int IntKind.i64 0, Value.bool false, Value.bool false, Value.int IntKind.i64 0, Value.bool false, Value.bool false, Value.bool false, Value.agg (ndC x).toArray, Value.agg (ndC x).toArray, Value.bool false, Value.bool false, Value.bool false, Value.int IntKind.i64 1, Value.bool false, Value.bool false, Value.slice (some { block := g3, off := o3 }) n3 c3, Value.int IntKind.i64 ↑n3, Value.bool true, fx 7, fx 0, fx 1, fx 2, fx 3, fx 4, fx 5, fx 6, ndV zeroN, fx 9, u139, u140, u141, undef, undef, undef, undef, undef, undef, undef, undef, undef] []; rw [h7] <;> rfl, ⟨hC.1, fun h h2 => hC.2 h h2⟩, rfl, fun _ _ _ _ _ h => h⟩
                · have h7 : fx 7 = Value.tuple #[ndV zeroN, .int .i64 1] := hd.1 rfl
                  go_wp2_with fail
                  exact ⟨_, by show _ = Act.mk #[Value.slice A n1 c, dgV p, undef, Value.pointer (some { block := w.heap.size, off := 0 }), u4, Value.slice (some { block := g1, off := o1 }) n1 c1, Value.bool true, Value.pointer (some { block := U3.heap.size, off := 0 }), Value.int IntKind.i64 0, Value.int IntKind.i64 (sumC LL), Value.int IntKind.i64 (sumP LL), undef, u12, Value.int IntKind.i64 ↑i, Value.pointer (some { block := wr.heap.size, off := 0 }), Value.slice (some { block := g3, off := o3 }) n3 c3, Value.int IntKind.i64 0, Value.pointer (some { block := U6.heap.size, off := 0 }), Value.int IntKind.i64 0, fo 14, Value.int IntKind.i64 1, fx 10, fx 12, undef, undef, Value.bool true, Value.bool false, Value.slice A n1 c, Value.int IntKind.i64 ↑n1, Value.bool false, Value.tuple #[Value.slice (some { block := g1, off := o1 }) n1 c1, Value.bool true], Value.slice A n1 c, dgV p, Value.tuple #[Value.slice (some { block := g1, off := o1 }) n1 c1, Value.bool true], Value.slice (some { block := g1, off := o1 }) n1 c1, Value.bool true, Value.bool true, Value.bool false, Value.tuple #[ndV x, Value.int IntKind.i64 0], Value.slice (some { block := g1, off := o1 }) n1 c1, Value.tuple #[ndV x, Value.int IntKind.i64 0], ndV x, Value.int IntKind.i64 0, Value.slice A n1 c, Value.int IntKind.i64 ↑n1, Value.int IntKind.i64 ↑j, Value.bool false, u47, u48, u49, u50, u51, u52, u53, u54, u55, u56, u57, u58, u59, u60, Value.int IntKind.i64 0, Value.bool false, Value.bool false, Value.pointer (some { block := U3.heap.size, off := 32 }), Value.int IntKind.i64 (sumC LL), Value.int IntKind.i64 (sumC LL), Value.bool false, Value.bool false, Value.bool false, Value.pointer (some { block := U3.heap.size, off := 33 }), Value.int IntKind.i64 (sumP LL), Value.int IntKind.i64 (sumP LL), Value.bool false, Value.bool false, Value.slice (some { block := g1, off := o1 }) n1 c1, Value.int IntKind.i64 ↑n1, Value.int IntKind.i64 ↑i, Value.bool true, Value.int IntKind.i64 ↑i, Value.pointer (some { block := g1, off := o1 + i * 34 }), Value.agg (ndC q).toArray, Value.tuple #[Value.slice (some { block := g3, off := o3 }) n3 c3, Value.int IntKind.i64 0], Value.slice (some { block := g1, off := o1 }) n1 c1, Value.int IntKind.i64 ↑i, Value.tuple #[Value.slice (some { block := g3, off := o3 }) n3 c3, Value.int IntKind.i64 0], Value.slice (some { block := g3, off := o3 }) n3 c3, Value.int IntKind.i64 0, Value.tuple #[ndV x, Value.int IntKind.i64 0], Value.agg (ndC q).toArray, Value.int IntKind.i64 ↑i, Value.slice (some { block := g1, off := o1 }) n1 c1, Value.int IntKind.i64 ↑n1, Value.slice (some { block := g3, off := o3 }) n3 c3, Value.tuple #[ndV x, Value.int IntKind.i64 0], ndV x, Value.int IntKind.i64 0, fo 11, fo 0, fo 1, fo 2, fo 3, fo 4, fo 5, fo 6, fo 7, fo 8, fo 9, fo 10, fo 12, fo 13, Value.int IntKind.i64 0, Value.bool false, Value.bool false, Value.int IntKind.i64 0, Value.bool false, Value.bool false, Value.bool false, Value.agg (ndC x).toArray, Value.agg (ndC x).toArray, Value.bool false, Value.bool false, Value.bool false, Value.int IntKind.i64 1, Value.bool false, Value.bool false, Value.slice (some { block := g3, off := o3 }) n3 c3, Value.int IntKind.i64 ↑n3, Value.bool true, fx 7, fx 0, fx 1, fx 2, fx 3, fx 4, fx 5, fx 6, fx 8, Value.int .i64 (1), u139, u140, u141, undef, undef, undef, undef, undef, undef, undef, undef, undef] []; rw [h7] <;> rfl, ⟨hC.1, fun h h2 => hC.2 h h2⟩, rfl, fun _ _ _ _ _ h => h⟩
                · go_wp2_with fail
                  rw [← zeroN_cells]
                  have hbb : Below w'.heap.size w' (w'.alloc (.cells (ndC zeroN).toArray 26)) := (Below.refl _ _).alloc (Nat.le_refl _) _
                  exact ⟨_, rfl, ⟨hC.1.trans (hbb.mono hC.1.size), fun _ _ => ⟨_, rfl, hC.1.size, heap_alloc_new _ _⟩⟩, trivial, fun j v t _ _ h => wC7_below hbb j v h⟩
                · have H10 := Lib.hid (hd.1 rfl)
                  have h8 : fx 8 = ndV zeroN := hd.2.1 rfl
                  obtain ⟨z, h10, hq, hrow⟩ := hC.2 (hdn 10 (by kernel_rfl)) hi
                  refine wpList_store_row rfl 26 (.tmp 21) (.tmp 137) rfl z (ndC zeroN).toArray h10 h8 26 _ hrow (size34' HZO.out) rfl (ndC_one _) ?_
                  clear hd
                  go_wp2_with fail
                  refine ⟨undef, by show _ = Act.mk #[Value.slice A n1 c, dgV p, undef, Value.pointer (some { block := w.heap.size, off := 0 }), u4, Value.slice (some { block := g1, off := o1 }) n1 c1, Value.bool true, Value.pointer (some { block := U3.heap.size, off := 0 }), Value.int IntKind.i64 0, Value.int IntKind.i64 (sumC LL), Value.int IntKind.i64 (sumP LL), undef, u12, Value.int IntKind.i64 ↑i, Value.pointer (some { block := wr.heap.size, off := 0 }), Value.slice (some { block := g3, off := o3 }) n3 c3, Value.int IntKind.i64 0, Value.pointer (some { block := U6.heap.size, off := 0 }), Value.int IntKind.i64 0, fo 14, Value.int IntKind.i64 1, fx 10, fx 12, undef, undef, Value.bool true, Value.bool false, Value.slice A n1 c, Value.int IntKind.i64 ↑n1, Value.bool false, Value.tuple #[Value.slice (some { block := g1, off := o1 }) n1 c1, Value.bool true], Value.slice A n1 c, dgV p, Value.tuple #[Value.slice (some { block := g1, off := o1 }) n1 c1, Value.bool true], Value.slice (some { block := g1, off := o1 }) n1 c1, Value.bool true, Value.bool true, Value.bool false, Value.tuple #[ndV x, Value.int IntKind.i64 0], Value.slice (some { block := g1, off := o1 }) n1 c1, Value.tuple #[ndV x, Value.int IntKind.i64 0], ndV x, Value.int IntKind.i64 0, Value.slice A n1 c, Value.int IntKind.i64 ↑n1, Value.int IntKind.i64 ↑j, Value.bool false, u47, u48, u49, u50, u51, u52, u53, u54, u55, u56, u57, u58, u59, u60, Value.int IntKind.i64 0, Value.bool false, Value.bool false, Value.pointer (some { block := U3.heap.size, off := 32 }), Value.int IntKind.i64 (sumC LL), Value.int IntKind.i64 (sumC LL), Value.bool false, Value.bool false, Value.bool false, Value.pointer (some { block := U3.heap.size, off := 33 }), Value.int IntKind.i64 (sumP LL), Value.int IntKind.i64 (sumP LL), Value.bool false, Value.bool false, Value.slice (some { block := g1, off := o1 }) n1 c1, Value.int IntKind.i64 ↑n1, Value.int IntKind.i64 ↑i, Value.bool true, Value.int IntKind.i64 ↑i, Value.pointer (some { block := g1, off := o1 + i * 34 }), Value.agg (ndC q).toArray, Value.tuple #[Value.slice (some { block := g3, off := o3 }) n3 c3, Value.int IntKind.i64 0], Value.slice (some { block := g1, off := o1 }) n1 c1, Value.int IntKind.i64 ↑i, Value.tuple #[Value.slice (some { block := g3, off := o3 }) n3 c3, Value.int IntKind.i64 0], Value.slice (some { block := g3, off := o3 }) n3 c3, Value.int IntKind.i64 0, Value.tuple #[ndV x, Value.int IntKind.i64 0], Value.agg (ndC q).toArray, Value.int IntKind.i64 ↑i, Value.slice (some { block := g1, off := o1 }) n1 c1, Value.int IntKind.i64 ↑n1, Value.slice (some { block := g3, off := o3 }) n3 c3, Value.tuple #[ndV x, Value.int IntKind.i64 0], ndV x, Value.int IntKind.i64 0, fo 11, fo 0, fo 1, fo 2, fo 3, fo 4, fo 5, fo 6, fo 7, fo 8, fo 9, fo 10, fo 12, fo 13, Value.int IntKind.i64 0, Value.bool false, Value.bool false, Value.int IntKind.i64 0, Value.bool false, Value.bool false, Value.bool false, Value.agg (ndC x).toArray, Value.agg (ndC x).toArray, Value.bool false, Value.bool false, Value.bool false, Value.int IntKind.i64 1, Value.bool false, Value.bool false, Value.slice (some { block := g3, off := o3 }) n3 c3, Value.int IntKind.i64 ↑n3, Value.bool true, fx 7, fx 0, fx 1, fx 2, fx 3, fx 4, fx 5, fx 6, fx 8, fx 9, u139, u140, u141, undef, undef, undef, undef, undef, undef, undef, undef, undef] []; rw [h8, h10] <;> rfl, ⟨below_setRow hC.1 hq _, fun _ h => (updB_self h).elim⟩, trivial, fun j v t hj hu h => ?_⟩
                  by_cases e10 : j = 10
                  · subst e10; trivial
                  · by_cases e11 : j = 11
                    · subst e11; trivial
                    · exact wC7_pure j v e10 e11 h
                · have h9 : fx 9 = Value.int .i64 (1) := hd.1 rfl
                  go_wp2_with fail
                  exact ⟨_, by show _ = Act.mk #[Value.slice A n1 c, dgV p, undef, Value.pointer (some { block := w.heap.size, off := 0 }), u4, Value.slice (some { block := g1, off := o1 }) n1 c1, Value.bool true, Value.pointer (some { block := U3.heap.size, off := 0 }), Value.int IntKind.i64 0, Value.int IntKind.i64 (sumC LL), Value.int IntKind.i64 (sumP LL), undef, u12, Value.int IntKind.i64 ↑i, Value.pointer (some { block := wr.heap.size, off := 0 }), Value.slice (some { block := g3, off := o3 }) n3 c3, Value.int IntKind.i64 0, Value.pointer (some { block := U6.heap.size, off := 0 }), Value.int IntKind.i64 0, fo 14, Value.int IntKind.i64 1, fx 10, Value.int .i64 (1), undef, undef, Value.bool true, Value.bool false, Value.slice A n1 c, Value.int IntKind.i64 ↑n1, Value.bool false, Value.tuple #[Value.slice (some { block := g1, off := o1 }) n1 c1, Value.bool true], Value.slice A n1 c, dgV p, Value.tuple #[Value.slice (some { block := g1, off := o1 }) n1 c1, Value.bool true], Value.slice (some { block := g1, off := o1 }) n1 c1, Value.bool true, Value.bool true, Value.bool false, Value.tuple #[ndV x, Value.int IntKind.i64 0], Value.slice (some { block := g1, off := o1 }) n1 c1, Value.tuple #[ndV x, Value.int IntKind.i64 0], ndV x, Value.int IntKind.i64 0, Value.slice A n1 c, Value.int IntKind.i64 ↑n1, Value.int IntKind.i64 ↑j, Value.bool false, u47, u48, u49, u50, u51, u52, u53, u54, u55, u56, u57, u58, u59, u60, Value.int IntKind.i64 0, Value.bool false, Value.bool false, Value.pointer (some { block := U3.heap.size, off := 32 }), Value.int IntKind.i64 (sumC LL), Value.int IntKind.i64 (sumC LL), Value.bool false, Value.bool false, Value.bool false, Value.pointer (some { block := U3.heap.size, off := 33 }), Value.int IntKind.i64 (sumP LL), Value.int IntKind.i64 (sumP LL), Value.bool false, Value.bool false, Value.slice (some { block := g1, off := o1 }) n1 c1, Value.int IntKind.i64 ↑n1, Value.int IntKind.i64 ↑i, Value.bool true, Value.int IntKind.i64 ↑i, Value.pointer (some { block := g1, off := o1 + i * 34 }), Value.agg (ndC q).toArray, Value.tuple #[Value.slice (some { block := g3, off := o3 }) n3 c3, Value.int IntKind.i64 0], Value.slice (some { block := g1, off := o1 }) n1 c1, Value.int IntKind.i64 ↑i, Value.tuple #[Value.slice (some { block := g3, off := o3 }) n3 c3, Value.int IntKind.i64 0], Value.slice (some { block := g3, off := o3 }) n3 c3, Value.int IntKind.i64 0, Value.tuple #[ndV x, Value.int IntKind.i64 0], Value.agg (ndC q).toArray, Value.int IntKind.i64 ↑i, Value.slice (some { block := g1, off := o1 }) n1 c1, Value.int IntKind.i64 ↑n1, Value.slice (some { block := g3, off := o3 }) n3 c3, Value.tuple #[ndV x, Value.int IntKind.i64 0], ndV x, Value.int IntKind.i64 0, fo 11, fo 0, fo 1, fo 2, fo 3, fo 4, fo 5, fo 6, fo 7, fo 8, fo 9, fo 10, fo 12, fo 13, Value.int IntKind.i64 0, Value.bool false, Value.bool false, Value.int IntKind.i64 0, Value.bool false, Value.bool false, Value.bool false, Value.agg (ndC x).toArray, Value.agg (ndC x).toArray, Value.bool false, Value.bool false, Value.bool false, Value.int IntKind.i64 1, Value.bool false, Value.bool false, Value.slice (some { block := g3, off := o3 }) n3 c3, Value.int IntKind.i64 ↑n3, Value.bool true, fx 7, fx 0, fx 1, fx 2, fx 3, fx 4, fx 5, fx 6, fx 8, fx 9, u139, u140, u141, undef, undef, undef, undef, undef, undef, undef, undef, undef] []; rw [h9] <;> rfl, ⟨hC.1, fun h h2 => hC.2 h h2⟩, rfl, fun _ _ _ _ _ h => h⟩
              · intro L fx w' hC hS
                have H12 := Lib.hid (hS 12 (by decide) rfl)
                have h12 : fx 12 = .int .i64 1 := H12.out
                rw [h12]
                have hbq := hC.1
                clear hS hC H12 h12
                have HB12 := Lib.hid (HB11.out.trans (hbq.mono HB11.out.size))
                have R7_12 := Lib.hid (row_kept R7_11.out hbq)
                have R14_12 := Lib.hid (row_kept R14_11.out hbq)
                have R17_12 := Lib.hid (row_kept R17_11.out hbq)
                have QA_12 := Lib.hid (row_kept QA_11.out hbq)
                have HIL_12 := Lib.hid (HIL_11.out.below hbq)
                have HBQ_12 := Lib.hid (HBQ_11.out.trans (hbq.mono HBQ_11.out.size))
                have HPI_12 := Lib.hid (HPI_11.out.below hbq)
                have HI4_12 := Lib.hid (HI4.out.below hbq)
                clear hbq HB11 R7_11 R14_11 R17_11 QA_11 HIL_11 HBQ_11 HPI_11
                go_wp2_with fail
                go_roundw
                case rel => exact ⟨i + 1, by omega, by go_num, HBQ_12⟩
                case measure => first | (simp [intOf]; done) | (simp [intOf]; omega)
            · have h3e : n3 = 0 := by omega
              have d10 : decide ((0 : Int) < (n3 : Int)) = false := decide_eq_false (by omega)
              have d11 : decide (0 < n3) = false := decide_eq_false h30
              clear h3e
              go_wp2_with (first | (refine wpList_unguard rfl ?_; refine wpList_load_row rfl 26 (.tmp 17) rfl U6.heap.size rfl 26 _ (0, 0) _ R17_11.out Tryd.underlying26 rfl (size34' HXO.out) ?_) | (refine wpList_unguard rfl ?_; refine wpList_load_row rfl 26 (.tmp 7) rfl U3.heap.size rfl 26 _ (0, 0) _ R7_11.out Tryd.underlying26 rfl (size34' HXO.out) ?_) | (refine wpList_unguard rfl ?_; refine wpList_neq_nd rfl (.tmp 118) (.tmp 119) _ rfl x x rfl rfl HXO.out HXO.out ?_; rw [ndEq_refl]))
              go_roundw
              case rel => exact ⟨i + 1, by omega, by go_num, HBQ_11⟩
              case measure => first | (simp [intOf]; done) | (simp [intOf]; omega)
        · have hin : i = n1 := by omega
          have d6 : decide ((i : Int) < (n1 : Int)) = false := decide_eq_false (by omega)
          have d7 : decide (i < n1) = false := decide_eq_false hlt
          clear hin hlt hi
          have HPZ := Lib.hid (pathR_arg (ls := LL) (i := (n1 : Int)) HVP.out (.inr (by rw [HLL.out]; omega)))
          have HB6 := Lib.hid (HB5.out.trans (HBQ.out.mono HB5.out.size))
          have R7_6 := Lib.hid (row_kept R7_5.out HBQ.out)
          have QA_6 := Lib.hid (row_kept QA_5.out HBQ.out)
          have HIL_6 := Lib.hid (HIL_5.out.below HBQ.out)
          clear HBQ HB5 R7_5 QA_5 HIL_5
          go_wp2_with fail
          refine (path_any LL _ _ c1 (n1 : Int) _ (by omega) HIL_6 (Lib.hid (hT.out.below HB6.out))).mono ?_
          rintro e U4 ⟨A3, n3, c3, rfl, hin, hq⟩
          rw [HPZ.out.2]
          clear hin
          have HB7 := Lib.hid (HB6.out.trans (hq.mono HB6.out.size))
          have R7_7 := Lib.hid (row_kept R7_6.out hq)
          have QA_7 := Lib.hid (row_kept QA_6.out hq)
          have HIL_7 := Lib.hid (HIL_6.out.below hq)
          clear hq HB6 R7_6 QA_6 HIL_6
          go_wp2_with fail
          go_ret
          exact ⟨rfl, HB7.out⟩
theorem walk (w : World) (hT : Tabs w) (A : Option Addr) (n c : Nat) (ls : List Ln) (hi : InLn w A n c ls) (hm : n ≤ maxLen) (p : List Nat) (hp : p.length = 32) (bp : Bytes p) :
    Calls Tryd.prog 9 #[.slice A n c, dgV p] w fun e w' => e = .returned (.bool true) ∧ Below w.heap.size w w' := by
  by_cases h : 24 < n
  · exact big ls A n c p w (Lib.hid hi) (Lib.hid hp) (Lib.hid bp) (Lib.hid hT) h
  · by_cases hl : lsB ls = true
    · exact good ls A n c p w (Lib.hid hi) (Lib.hid hp) (Lib.hid bp) (Lib.hid hT) (by omega) hl
    · exact bad ls A n c p w (Lib.hid hi) (Lib.hid hp) (Lib.hid bp) (Lib.hid hT) (by omega) (by simpa using hl)
set_option maxRecDepth 100000 in
theorem lifted (os : Os) (started : os.Started) (H : Type) (enc : TypeId × Value → H) :
    ReturnsInHanded {} Tryd.checked os 9 .any (fun w args => (Rows.treeClimbsSpec.pre enc Tryd.prog Tryd.f9 [] false w args ∧ laidMetH Tryd.prog laidL w) ∧ sizedMet enc Tryd.prog Tryd.f9 (OpenSpec.ofChange Rows.treeClimbsSpec) false w args)
      (Rows.treeClimbsSpec.post enc Tryd.prog Tryd.f9 false true false false) := by
  refine returnsInHanded_of_change_and (C := Tryd.checked) (X := fun w _ => laidMetH Tryd.prog laidL w) (fun _ _ _ hh h => h.of_heap hh) own started (by kernel_rfl) Tryd.func9
    (ChangeSpec.witness_shaped (enc := enc) (C := Tryd.checked) (os := os) (X := fun w _ => laidMetH Tryd.prog laidL w) false (World.doorLaid Tryd.prog 400 os) #[.slice none 0 0, .agg (Array.replicate 32 (.int .u8 0))] 8 rfl (World.shaped_of_RefB (by kernel_rfl) (by kernel_rfl)) (by kernel_rfl) (by kernel_rfl) (by kernel_rfl) (door_met os _)) ?_
  intro W base args ds gs before hval0 hW _ hsz0 hL _
  have hval : ∀ (j : Nat) t v, Tryd.f9.params[j]? = some t → args[j]? = some v → Value.okWide Tryd.prog W .any base t v := hval0
  have hW' := hW
  obtain ⟨p, q, hA0, hV, rfl, hfz, hnd⟩ := hW
  have hA : DataW.TrodAll enc Tryd.prog W 0 (fun _ => true) true Tryd.f9.params.toList args.toList ds p := hA0
  have hsz : (DataW.weightsEach Tryd.prog (Tryd.f9.params.toList ++ Rows.treeClimbsSpec.plain.varTypes Tryd.prog) (ds ++ gs)).all (· ≤ reachBytes) = true := hsz0
  rw [Tryd.params9] at hA hval hsz
  obtain ⟨v0, vs0, d0, ds0, p0, q0, hargs, rfl, rfl, h0, r0⟩ := trodAll_cons hA
  obtain ⟨v1, vs1, d1, ds1, p1, q1, rfl, rfl, rfl, h1, r1⟩ := trodAll_cons r0
  obtain ⟨rfl, rfl, rfl⟩ := trodAll_nil r1
  obtain rfl : args = #[v0, v1] := by cases args; simp_all
  obtain ⟨rfl, rfl⟩ := trodVars_none hV
  obtain ⟨A0, n0, c0, l0, rfl, e0, f0⟩ := arg_lns (hval 0 53 v0 rfl rfl) h0
  obtain ⟨l1, rfl, e1, y1⟩ := arg_dig (hval 1 24 v1 rfl rfl) h1
  refine (walk W (tabs_of hL) A0 n0 c0 l0 e0 f0 l1 e1 y1).mono fun e W' ⟨he, hg⟩ => ?_
  subst he
  exact ⟨_, rfl, law_post (by kernel_rfl) rfl rfl (fun _ => ⟨rfl, rfl, rfl⟩) hW' hg⟩
theorem over : Rows.treeClimbsRow.holds Tryd.pinned (OpenSpec.ofChange Rows.treeClimbsSpec) :=
  OpenClaim.holds_of_wide 9 Tryd.f9 rfl rfl rfl rfl rfl rfl rfl ⟨rfl, rfl, rfl, rfl, rfl⟩ rfl rfl rfl rfl rfl (by kernel_rfl) Tryd.func9 (by kernel_rfl)
    (of_decide_eq_true (by kernel_rfl)) (by unfold Func.isWrapper; first | (rw [if_pos (by decide +kernel)]; kernel_rfl) | (rw [if_neg (by decide +kernel)]; exact ⟨rfl, rfl⟩))
    (fun os started H enc _ => lifted os started H enc)
/-- THE STATEMENT: the card -/
theorem proved : Rows.TreeClimbsCardSaid :=
  Claim7.holds_tied_plain_at .later [] [.data, .data] true Rows.treeClimbsCard.stood.harness false
    over (fun _ h => by cases h) (by kernel_rfl) (fun _ h => by cases h) treeClimbs_row_tie rfl ⟨rfl, rfl⟩ (by kernel_rfl) rfl
    (fun f fn hf hfn => by
      obtain rfl : f = 9 := Option.some.inj ((show Tryd.prog.funcNamed "sizar/sizarlaw41.TreeClimbs" = some 9 by kernel_rfl).symm.trans hf) |>.symm
      obtain rfl : fn = Tryd.f9 := (Option.some.inj (Tryd.func9.symm.trans hfn)).symm
      exact ⟨by kernel_rfl, fun j t ht => stands_of (show Tryd.f9.params.all (fun t => !Tryd.prog.wantsStandIn t) = true by kernel_rfl) ht⟩)
    (by kernel_rfl)
#print axioms proved
end Go.Proofs.YtgcmbiegbclhmaaDoor.treeClimbs
