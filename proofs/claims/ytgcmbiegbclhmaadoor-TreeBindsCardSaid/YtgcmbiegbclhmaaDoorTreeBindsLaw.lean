/- The law TreeBinds holds: two leaves that lead to one root at one place are the same, or two different inputs have one hash. -/
import Derived.Test.YtgcmbiegbclhmaaDoorTreeBinds0
import Derived.Test.YtgcmbiegbclhmaaDoorArgNd
import Derived.Test.YtgcmbiegbclhmaaDoorTreeLawKit
import Derived.Lib.SmallJoins
import Derived.Test.YtgcmbiegbclhmaaDoorCards
import Derived.Test.YtgcmbiegbclhmaaDoorTie
namespace Go.Proofs.YtgcmbiegbclhmaaDoor.treeBinds
open Go.ChangeShapes Go.WideShapes Go.ChangeAt Go.RowKit SzSha SzTree
set_option linter.unusedVariables false
set_option maxRecDepth 100000
def wB11 (M : Nat) (a : Nd) (b : Nd) (iN : Nat) (mN : Nat) (A : Option Addr) (n : Nat) (c : Nat) (A2 : Option Addr) (n2 : Nat) (c2 : Nat) (LA : NdPairs) (LB : NdPairs) : Nat → Value → World → Prop
  | 0, fv, _ => fv = ndV a
  | 1, fv, _ => fv = Value.int .i64 ((iN : Nat))
  | 2, fv, _ => fv = Value.int .i64 ((mN : Nat))
  | 3, fv, _ => fv = Value.slice A n c
  | 4, fv, fw => OwnQ fw M fv LA
  | 5, fv, _ => fv = ndV b
  | 6, fv, _ => fv = Value.int .i64 ((iN : Nat))
  | 7, fv, _ => fv = Value.int .i64 ((mN : Nat))
  | 8, fv, _ => fv = Value.slice A2 n2 c2
  | 9, fv, fw => OwnQ fw M fv LB
  | 10, fv, fw => OwnQ fw M fv LA
  | 11, fv, fw => OwnQ fw M fv LB
  | _, _, _ => True
theorem wB11_below {M : Nat} {a : Nd} {b : Nd} {iN : Nat} {mN : Nat} {A : Option Addr} {n : Nat} {c : Nat} {A2 : Option Addr} {n2 : Nat} {c2 : Nat} {LA : NdPairs} {LB : NdPairs} {w w' : World} (hb : Below w.heap.size w w') : ∀ j v, wB11 M a b iN mN A n c A2 n2 c2 LA LB j v w → wB11 M a b iN mN A n c A2 n2 c2 LA LB j v w'
  | 0, v, h => h
  | 1, v, h => h
  | 2, v, h => h
  | 3, v, h => h
  | 4, v, h => h.below hb
  | 5, v, h => h
  | 6, v, h => h
  | 7, v, h => h
  | 8, v, h => h
  | 9, v, h => h.below hb
  | 10, v, h => h.below hb
  | 11, v, h => h.below hb
  | n + 12, v, h => trivial
theorem wB11_pure {M : Nat} {a : Nd} {b : Nd} {iN : Nat} {mN : Nat} {A : Option Addr} {n : Nat} {c : Nat} {A2 : Option Addr} {n2 : Nat} {c2 : Nat} {LA : NdPairs} {LB : NdPairs} {w w' : World} : ∀ j v, j ≠ 4 → j ≠ 9 → j ≠ 10 → j ≠ 11 → wB11 M a b iN mN A n c A2 n2 c2 LA LB j v w → wB11 M a b iN mN A n c A2 n2 c2 LA LB j v w'
  | 0, v, _, _, _, _, h => h
  | 1, v, _, _, _, _, h => h
  | 2, v, _, _, _, _, h => h
  | 3, v, _, _, _, _, h => h
  | 4, v, hh, _, _, _, _ => absurd rfl hh
  | 5, v, _, _, _, _, h => h
  | 6, v, _, _, _, _, h => h
  | 7, v, _, _, _, _, h => h
  | 8, v, _, _, _, _, h => h
  | 9, v, _, hh, _, _, _ => absurd rfl hh
  | 10, v, _, _, hh, _, _ => absurd rfl hh
  | 11, v, _, _, _, hh, _ => absurd rfl hh
  | n + 12, v, _, _, _, _, h => trivial
def wB17 (jj : Nat) (g3 : Nat) (g4 : Nat) (n3 : Nat) (c3 : Nat) (c4 : Nat) (r1 : Nd) (r2 : Nd) (t1 : Nd) (t2 : Nd) (sA : ByteArray) (sB : ByteArray) : Nat → Value → World → Prop
  | 0, fv, _ => fv = Value.slice (some ⟨g3, 0, none⟩) n3 c3
  | 1, fv, _ => fv = Value.int .i64 ((jj : Nat))
  | 2, fv, _ => fv = Value.pointer (some ⟨g3, jj * 68, none⟩)
  | 3, fv, _ => fv = Value.pointer (some ⟨g3, jj * 68, none⟩)
  | 4, fv, _ => fv = ndV r1
  | 5, fv, _ => fv = Value.slice (some ⟨g3, 0, none⟩) n3 c3
  | 6, fv, _ => fv = Value.int .i64 ((jj : Nat))
  | 7, fv, _ => fv = Value.pointer (some ⟨g3, jj * 68, none⟩)
  | 8, fv, _ => fv = Value.pointer (some ⟨g3, jj * 68 + 34, none⟩)
  | 9, fv, _ => fv = ndV r2
  | 10, fv, _ => fv = Value.string sA
  | 11, fv, _ => fv = Value.slice (some ⟨g4, 0, none⟩) n3 c4
  | 12, fv, _ => fv = Value.int .i64 ((jj : Nat))
  | 13, fv, _ => fv = Value.pointer (some ⟨g4, jj * 68, none⟩)
  | 14, fv, _ => fv = Value.pointer (some ⟨g4, jj * 68, none⟩)
  | 15, fv, _ => fv = ndV t1
  | 16, fv, _ => fv = Value.slice (some ⟨g4, 0, none⟩) n3 c4
  | 17, fv, _ => fv = Value.int .i64 ((jj : Nat))
  | 18, fv, _ => fv = Value.pointer (some ⟨g4, jj * 68, none⟩)
  | 19, fv, _ => fv = Value.pointer (some ⟨g4, jj * 68 + 34, none⟩)
  | 20, fv, _ => fv = ndV t2
  | 21, fv, _ => fv = Value.string sB
  | 22, fv, fw => fv = Value.string sA
  | 23, fv, _ => fv = Value.string sB
  | _, _, _ => True
theorem wB17_below {jj : Nat} {g3 : Nat} {g4 : Nat} {n3 : Nat} {c3 : Nat} {c4 : Nat} {r1 : Nd} {r2 : Nd} {t1 : Nd} {t2 : Nd} {sA : ByteArray} {sB : ByteArray} {w w' : World} (hb : Below w.heap.size w w') : ∀ j v, wB17 jj g3 g4 n3 c3 c4 r1 r2 t1 t2 sA sB j v w → wB17 jj g3 g4 n3 c3 c4 r1 r2 t1 t2 sA sB j v w'
  | 0, v, h => h
  | 1, v, h => h
  | 2, v, h => h
  | 3, v, h => h
  | 4, v, h => h
  | 5, v, h => h
  | 6, v, h => h
  | 7, v, h => h
  | 8, v, h => h
  | 9, v, h => h
  | 10, v, h => h
  | 11, v, h => h
  | 12, v, h => h
  | 13, v, h => h
  | 14, v, h => h
  | 15, v, h => h
  | 16, v, h => h
  | 17, v, h => h
  | 18, v, h => h
  | 19, v, h => h
  | 20, v, h => h
  | 21, v, h => h
  | 22, v, h => h
  | 23, v, h => h
  | n + 24, v, h => trivial
theorem wB17_pure {jj : Nat} {g3 : Nat} {g4 : Nat} {n3 : Nat} {c3 : Nat} {c4 : Nat} {r1 : Nd} {r2 : Nd} {t1 : Nd} {t2 : Nd} {sA : ByteArray} {sB : ByteArray} {w w' : World} : ∀ j v, j ≠ 22 → wB17 jj g3 g4 n3 c3 c4 r1 r2 t1 t2 sA sB j v w → wB17 jj g3 g4 n3 c3 c4 r1 r2 t1 t2 sA sB j v w'
  | 0, v, _, h => h
  | 1, v, _, h => h
  | 2, v, _, h => h
  | 3, v, _, h => h
  | 4, v, _, h => h
  | 5, v, _, h => h
  | 6, v, _, h => h
  | 7, v, _, h => h
  | 8, v, _, h => h
  | 9, v, _, h => h
  | 10, v, _, h => h
  | 11, v, _, h => h
  | 12, v, _, h => h
  | 13, v, _, h => h
  | 14, v, _, h => h
  | 15, v, _, h => h
  | 16, v, _, h => h
  | 17, v, _, h => h
  | 18, v, _, h => h
  | 19, v, _, h => h
  | 20, v, _, h => h
  | 21, v, _, h => h
  | 22, v, hh, _ => absurd rfl hh
  | 23, v, _, h => h
  | n + 24, v, _, h => trivial
theorem climbE_zero {n : Nd} {i m : Int} {ps : List Nd} (h : climbE n i m ps = 0) : ∃ iN mN : Nat, i = (iN : Int) ∧ m = (mN : Int) ∧ 1 ≤ mN ∧ mN ≤ 4096 ∧ iN < mN ∧ ps.length = (dirsN iN mN).length ∧ vN n = true ∧ climbF (dirsN iN mN).reverse ps n = some (climbR n i m ps) := by
  by_cases hc : climbArg i m ps.length
  · have := (climbR_arg (n := n) hc).2; omega
  · by_cases hv : vN n = true
    · cases hx : climbO n i m ps with
      | none => have := (climbR_none hc hv hx).2; omega
      | some x =>
        have e := (climbR_some hc hv hx).1
        unfold climbArg at hc
        refine ⟨i.toNat, m.toNat, by omega, by omega, by omega, by omega, by omega, ?_, hv, ?_⟩
        · rw [← way_dirsN]; omega
        · rw [e, ← hx]; unfold climbO; rw [sidesN_dirs]; rfl
    · have := (climbR_bad hc (by simpa using hv)).2; omega
set_option maxRecDepth 100000 in
set_option maxHeartbeats 8000000 in
theorem walk1 (a b : Nd) (i mm : Int) (ps qs : List Nd) (A A2 : Option Addr) (n c n2 c2 : Nat) (w : World) (HA : Hid (NdOk a)) (HBo : Hid (NdOk b)) (hi : -9223372036854775808 ≤ i ∧ i ≤ 9223372036854775807) (hm : -9223372036854775808 ≤ mm ∧ mm ≤ 9223372036854775807) (HP : Hid (InN w A n c ps)) (HQ : Hid (InN w A2 n2 c2 qs)) (hT : Hid (Tabs w)) :
    Calls Tryd.prog 5 #[ndV a, ndV b, .int .i64 i, .int .i64 mm, .slice A n c, .slice A2 n2 c2] w fun e w' => e = .returned (.bool true) ∧ Below w.heap.size w w' := by
  have hb0 := ((Below.refl _ w).alloc (Nat.le_refl _) (.cells (ndC a).toArray 26)).alloc (by simp) (.cells (ndC b).toArray 26)
  have hr0 := (Below.heap_alloc (w.alloc (.cells (ndC a).toArray 26)) (.cells (ndC b).toArray 26) w.heap.size (by simp)).trans (heap_alloc_new w (.cells (ndC a).toArray 26))
  have hr1 := heap_alloc_new (w.alloc (.cells (ndC a).toArray 26)) (.cells (ndC b).toArray 26)
  rw [World.size_alloc] at hr1
  have HB0 := Lib.hid hb0
  have RA := Lib.hid hr0
  have RB := Lib.hid hr1
  have HP0 := Lib.hid (HP.out.below hb0)
  have HQ0 := Lib.hid (HQ.out.below hb0)
  have HPN := Lib.hid HP.out.len
  have HQN := Lib.hid HQ.out.len
  obtain ⟨x, HX⟩ : ∃ x, Hid (climbR a i mm ps = x) := ⟨_, Lib.hid rfl⟩
  obtain ⟨y, HY⟩ : ∃ x, Hid (climbR b i mm qs = x) := ⟨_, Lib.hid rfl⟩
  obtain ⟨e1, HE1⟩ : ∃ x, Hid (climbE a i mm ps = x) := ⟨_, Lib.hid rfl⟩
  obtain ⟨e2, HE2⟩ : ∃ x, Hid (climbE b i mm qs = x) := ⟨_, Lib.hid rfl⟩
  have HXO : Hid (NdOk x) := Lib.hid (by rw [← HX.out]; exact climbR_okN HA.out HP.out.ok)
  have HYO : Hid (NdOk y) := Lib.hid (by rw [← HY.out]; exact climbR_okN HBo.out HQ.out.ok)
  clear hb0 hr0 hr1
  rw [show ndV a = .agg (ndC a).toArray from rfl, show ndV b = .agg (ndC b).toArray from rfl]
  go_enter Tryd.func5, Tryd.ntmps5
  go_wp2_with fail
  refine (sane_any _ (Lib.hid (hT.out.below HB0.out))).mono ?_
  rintro e U1 ⟨rfl, hq⟩
  have HB1 := Lib.hid (HB0.out.trans (hq.mono HB0.out.size))
  have R6_1 := Lib.hid (row_kept RA.out hq)
  have R7_1 := Lib.hid (row_kept RB.out hq)
  have HP0_1 := Lib.hid (HP0.out.below hq)
  have HQ0_1 := Lib.hid (HQ0.out.below hq)
  clear hq HB0 RA RB HP0 HQ0
  by_cases h1 : 12 < n
  · have d0 : decide ((12 : Int) < (n : Int)) = true := decide_eq_true (by omega)
    have d00 : decide (12 < n) = true := decide_eq_true h1
    go_wp2_with fail
    go_ret
    exact ⟨rfl, HB1.out⟩
  · have d0 : decide ((12 : Int) < (n : Int)) = false := decide_eq_false (by omega)
    have d00 : decide (12 < n) = false := decide_eq_false h1
    by_cases h2 : 12 < n2
    · have d1 : decide ((12 : Int) < (n2 : Int)) = true := decide_eq_true (by omega)
      have d11 : decide (12 < n2) = true := decide_eq_true h2
      go_wp2_with fail
      go_ret
      exact ⟨rfl, HB1.out⟩
    · have d1 : decide ((12 : Int) < (n2 : Int)) = false := decide_eq_false (by omega)
      have d11 : decide (12 < n2) = false := decide_eq_false h2
      go_wp2_with (refine wpList_load_row rfl 26 (.tmp 6) rfl w.heap.size rfl 26 _ (0, 0) _ R6_1.out Tryd.underlying26 rfl (size34' HA.out) ?_)
      refine (climb_any a i mm ps A n c _ HA.out hi hm (by omega) HP0_1 (Lib.hid (hT.out.below HB1.out))).mono ?_
      rintro e U2 ⟨rfl, hq⟩
      rw [HX.out, HE1.out]
      have HB2 := Lib.hid (HB1.out.trans (hq.mono HB1.out.size))
      have R6_2 := Lib.hid (row_kept R6_1.out hq)
      have R7_2 := Lib.hid (row_kept R7_1.out hq)
      have HP0_2 := Lib.hid (HP0_1.out.below hq)
      have HQ0_2 := Lib.hid (HQ0_1.out.below hq)
      clear hq HB1 R6_1 R7_1 HP0_1 HQ0_1
      obtain ⟨V2, HV2⟩ : ∃ V, Hid ((U2.alloc (.cells (ndC zeroN).toArray 26)).setRow U2.heap.size (ndC x).toArray = V) := ⟨_, Lib.hid rfl⟩
      have hlr := laid_row U2 (ndC zeroN).toArray (ndC x).toArray 26
      rw [HV2.out] at hlr
      have HZ2 := Lib.hid (heap_alloc_new U2 (.cells (ndC zeroN).toArray 26))
      have HT2 : Hid (34 = (ndC x).toArray.size) := Lib.hid (by simp [ndC_length HXO.out])
      rw [zeroN_cells] at HZ2 HV2
      have hq := hlr.1
      have HB3 := Lib.hid (HB2.out.trans (hq.mono HB2.out.size))
      have R6_3 := Lib.hid (row_kept R6_2.out hq)
      have R7_3 := Lib.hid (row_kept R7_2.out hq)
      have HP0_3 := Lib.hid (HP0_2.out.below hq)
      have HQ0_3 := Lib.hid (HQ0_2.out.below hq)
      have R13_n := Lib.hid hlr.2.2
      clear hq hlr HB2 R6_2 R7_2 HP0_2 HQ0_2
      go_wp2_with (first | (refine wpList_store_row rfl 26 (.tmp 13) (.tmp 38) rfl U2.heap.size (ndC x).toArray rfl rfl 26 _ HZ2.out (size34' HXO.out) HT2.out (ndC_one x) ?_; rw [HV2.out]) | (refine wpList_load_row rfl 26 (.tmp 7) rfl (w.heap.size + 1) rfl 26 _ (0, 0) _ R7_3.out Tryd.underlying26 rfl (size34' HBo.out) ?_))
      refine (climb_any b i mm qs A2 n2 c2 _ HBo.out hi hm (by omega) HQ0_3 (Lib.hid (hT.out.below HB3.out))).mono ?_
      rintro e U3 ⟨rfl, hq⟩
      rw [HY.out, HE2.out]
      have HB4 := Lib.hid (HB3.out.trans (hq.mono HB3.out.size))
      have R6_4 := Lib.hid (row_kept R6_3.out hq)
      have R7_4 := Lib.hid (row_kept R7_3.out hq)
      have R13_4 := Lib.hid (row_kept R13_n.out hq)
      have HP0_4 := Lib.hid (HP0_3.out.below hq)
      have HQ0_4 := Lib.hid (HQ0_3.out.below hq)
      clear hq HB3 R6_3 R7_3 R13_n HP0_3 HQ0_3
      obtain ⟨V3, HV3⟩ : ∃ V, Hid ((U3.alloc (.cells (ndC zeroN).toArray 26)).setRow U3.heap.size (ndC y).toArray = V) := ⟨_, Lib.hid rfl⟩
      have hlr := laid_row U3 (ndC zeroN).toArray (ndC y).toArray 26
      rw [HV3.out] at hlr
      have HZ3 := Lib.hid (heap_alloc_new U3 (.cells (ndC zeroN).toArray 26))
      have HT3 : Hid (34 = (ndC y).toArray.size) := Lib.hid (by simp [ndC_length HYO.out])
      rw [zeroN_cells] at HZ3 HV3
      have hq := hlr.1
      have HB5 := Lib.hid (HB4.out.trans (hq.mono HB4.out.size))
      have R6_5 := Lib.hid (row_kept R6_4.out hq)
      have R7_5 := Lib.hid (row_kept R7_4.out hq)
      have R13_5 := Lib.hid (row_kept R13_4.out hq)
      have HP0_5 := Lib.hid (HP0_4.out.below hq)
      have HQ0_5 := Lib.hid (HQ0_4.out.below hq)
      have R15_n := Lib.hid hlr.2.2
      clear hq hlr HB4 R6_4 R7_4 R13_4 HP0_4 HQ0_4
      by_cases he1 : e1 = 0
      · subst he1
        by_cases he2 : e2 = 0
        · subst he2
          obtain ⟨iN, mN, rfl, rfl, hm1, hm4, him, hl1, hv1, hc1⟩ := climbE_zero HE1.out
          obtain ⟨iN', mN', ei, em, _, _, _, hl2, hv2, hc2⟩ := climbE_zero HE2.out
          obtain rfl : iN = iN' := by omega
          obtain rfl : mN = mN' := by omega
          rw [HX.out] at hc1
          rw [HY.out] at hc2
          have HL1 := Lib.hid hl1
          have HL2 := Lib.hid hl2
          have HV1 := Lib.hid hv1
          have HV2 := Lib.hid hv2
          have HC1 := Lib.hid hc1
          have HC2 := Lib.hid hc2
          clear ei em hl1 hl2 hv1 hv2 hc1 hc2 hi hm
          by_cases hxy : ndEq x y = true
          · have HXY := Lib.hid hxy
            clear hxy
            by_cases hab : ndEq a b = true
            · have HAB := Lib.hid hab
              clear hab
              go_wp2_with (first | (refine wpList_store_row rfl 26 (.tmp 15) (.tmp 46) rfl U3.heap.size (ndC y).toArray rfl rfl 26 _ HZ3.out (size34' HYO.out) HT3.out (ndC_one y) ?_; rw [HV3.out]) | (refine wpList_unguard rfl ?_; refine wpList_load_row rfl 26 (.tmp 13) rfl U2.heap.size rfl 26 _ (0, 0) _ R13_5.out Tryd.underlying26 rfl (size34' HXO.out) ?_) | (refine wpList_unguard rfl ?_; refine wpList_load_row rfl 26 (.tmp 15) rfl U3.heap.size rfl 26 _ (0, 0) _ R15_n.out Tryd.underlying26 rfl (size34' HYO.out) ?_) | (refine wpList_load_row rfl 26 (.tmp 6) rfl w.heap.size rfl 26 _ (0, 0) _ R6_5.out Tryd.underlying26 rfl (size34' HA.out) ?_) | (refine wpList_load_row rfl 26 (.tmp 7) rfl (w.heap.size + 1) rfl 26 _ (0, 0) _ R7_5.out Tryd.underlying26 rfl (size34' HBo.out) ?_) | (refine wpList_unguard rfl ?_; refine wpList_neq_nd rfl (.tmp 55) (.tmp 56) _ rfl x y rfl rfl HXO.out HYO.out ?_; rw [HXY.out]) | (refine wpList_eql_nd rfl (.tmp 59) (.tmp 60) _ rfl a b rfl rfl HA.out HBo.out ?_; rw [HAB.out]))
              refine (same_any ps qs A A2 n c n2 c2 _ (by omega) (by omega) HP0_5 HQ0_5).mono ?_
              rintro e U4 ⟨rfl, hq⟩
              have HB6 := Lib.hid (HB5.out.trans (hq.mono HB5.out.size))
              have R6_6 := Lib.hid (row_kept R6_5.out hq)
              have R7_6 := Lib.hid (row_kept R7_5.out hq)
              have R13_6 := Lib.hid (row_kept R13_5.out hq)
              have R15_6 := Lib.hid (row_kept R15_n.out hq)
              have HP0_6 := Lib.hid (HP0_5.out.below hq)
              have HQ0_6 := Lib.hid (HQ0_5.out.below hq)
              clear hq HB5 R6_5 R7_5 R13_5 R15_n HP0_5 HQ0_5
              by_cases hsm : sameN ps qs = true
              · rw [hsm]
                clear hsm
                go_wp2_with fail
                go_ret
                exact ⟨rfl, HB6.out⟩
              · have HSM : Hid (sameN ps qs = false) := Lib.hid (by simpa using hsm)
                clear hsm
                rw [HSM.out]
                go_wp2_with fail
                obtain ⟨LA, HLA⟩ : ∃ l, Hid (sidesQ a iN mN ps = l) := ⟨_, Lib.hid rfl⟩
                obtain ⟨LB, HLB⟩ : ∃ l, Hid (sidesQ b iN mN qs = l) := ⟨_, Lib.hid rfl⟩
                have HLAO : Hid (∀ x ∈ LA, PrOk x) := Lib.hid (by rw [← HLA.out]; exact sidesQ_ok HA.out HP.out.ok)
                have HLBO : Hid (∀ x ∈ LB, PrOk x) := Lib.hid (by rw [← HLB.out]; exact sidesQ_ok HBo.out HQ.out.ok)
                have HLN : Hid (LA.length = LB.length ∧ LA.length ≤ 4096) := Lib.hid (by rw [← HLA.out, ← HLB.out, sidesQ_length, sidesQ_length]; have := dirsN_length iN mN; exact ⟨rfl, by omega⟩)
                have HBI : Hid (bindsB LA LB = true) := Lib.hid (by
                  rw [← HLA.out, ← HLB.out]
                  refine binds_any zeroN (dirsN iN mN) a b ps qs x HL1.out HL2.out HA.out.len HBo.out.len (fun z hz => (HP.out.ok z hz).len) (fun z hz => (HQ.out.ok z hz).len) HC1.out (by rw [HC2.out, (ndEq_iff x y).1 HXY.out]) ?_
                  intro h
                  have h1 := HSM.out; rw [(sameN_iff ps qs).2 h.2] at h1; cases h1)
                refine region_flow3 (by kernel_rfl) (by kernel_rfl) (fun i => Nat.beq i 10 || Nat.beq i 11) (fun i => i) (by kernel_rfl) (fun fx => #[Value.agg (ndC a).toArray, Value.agg (ndC b).toArray, Value.int IntKind.i64 ↑iN, Value.int IntKind.i64 ↑mN, Value.slice A n c, Value.slice A2 n2 c2, Value.pointer (some { block := w.heap.size, off := 0 }), Value.pointer (some { block := w.heap.size + 1, off := 0 }), undef, undef, undef, undef, Value.bool false, Value.pointer (some { block := U2.heap.size, off := 0 }), Value.int IntKind.i64 0, Value.pointer (some { block := U3.heap.size, off := 0 }), Value.int IntKind.i64 0, fx 10, fx 11, undef, undef, undef, Value.bool true, Value.bool false, Value.slice A n c, Value.int IntKind.i64 ↑n, Value.bool false, Value.bool false, Value.slice A2 n2 c2, Value.int IntKind.i64 ↑n2, Value.bool false, Value.bool false, Value.tuple #[ndV x, Value.int IntKind.i64 0], Value.agg (ndC a).toArray, Value.int IntKind.i64 ↑iN, Value.int IntKind.i64 ↑mN, Value.slice A n c, Value.tuple #[ndV x, Value.int IntKind.i64 0], ndV x, Value.int IntKind.i64 0, Value.tuple #[ndV y, Value.int IntKind.i64 0], Value.agg (ndC b).toArray, Value.int IntKind.i64 ↑iN, Value.int IntKind.i64 ↑mN, Value.slice A2 n2 c2, Value.tuple #[ndV y, Value.int IntKind.i64 0], ndV y, Value.int IntKind.i64 0, Value.int IntKind.i64 0, Value.bool false, Value.bool false, Value.int IntKind.i64 0, Value.bool false, Value.bool false, Value.bool false, Value.agg (ndC x).toArray, Value.agg (ndC y).toArray, Value.bool false, Value.bool false, Value.agg (ndC a).toArray, Value.agg (ndC b).toArray, Value.bool true, Value.bool true, Value.slice A n c, Value.slice A2 n2 c2, Value.bool false, Value.bool false, fx 0, fx 1, fx 2, fx 3, fx 4, fx 5, fx 6, fx 7, fx 8, fx 9, undef, undef, undef, undef, undef, undef, undef, undef, undef, undef, undef, undef, undef, undef, undef, undef, undef, undef, undef, undef, undef, undef, undef, undef, undef, undef, undef, undef, undef, undef, undef, undef, undef, undef, undef, undef, undef, undef, undef, undef, undef, undef, undef]) (fun _ => undef) (fun L fx w' => Below U4.heap.size U4 w') (fun fi fv _ fw => wB11 U4.heap.size a b iN mN A n c A2 n2 c2 LA LB fi fv fw) (Below.refl _ _).drew ?_ ?_
                · refine ⟨?_, ?_, ?_, ?_, ?_, ?_, ?_, ?_, ?_, ?_, ?_, ?_, trivial⟩
                  all_goals intro L fx w' hC hi hcl hdn hd
                  · have hrow := row_kept R6_6.out hC
                    refine wpList_load_row rfl 26 (.tmp 6) rfl w.heap.size rfl 26 _ (0, 0) _ hrow Tryd.underlying26 rfl (size34' HA.out) ?_
                    clear hd
                    go_wp2_with fail
                    exact ⟨_, rfl, hC, rfl, fun _ _ _ _ _ h => h⟩
                  · go_wp2_with fail
                    exact ⟨_, rfl, hC, rfl, fun _ _ _ _ _ h => h⟩
                  · go_wp2_with fail
                    exact ⟨_, rfl, hC, rfl, fun _ _ _ _ _ h => h⟩
                  · go_wp2_with fail
                    exact ⟨_, rfl, hC, rfl, fun _ _ _ _ _ h => h⟩
                  · have h0 : fx 0 = ndV a := hd.1 rfl
                    have h1 : fx 1 = Value.int .i64 ((iN : Nat)) := hd.2.1 rfl
                    have h2 : fx 2 = Value.int .i64 ((mN : Nat)) := hd.2.2.1 rfl
                    have h3 : fx 3 = Value.slice A n c := hd.2.2.2.1 rfl
                    have HTk := Lib.hid (hT.out.below (HB6.out.trans (hC.mono HB6.out.size)))
                    have HIk := Lib.hid (HP0_6.out.below hC)
                    go_wp2_with fail
                    refine (sides_any 4096 iN mN a ps A n c w' hm4 hm1 hm4 him HL1 HA HV1 HIk HTk).mono ?_
                    rintro e w3 ⟨v2, rfl, ho, hq⟩
                    rw [HLA.out] at ho
                    have HOV := Lib.hid ho
                    clear ho
                    go_wp2_with fail
                    exact ⟨v2, by show _ = Act.mk #[Value.agg (ndC a).toArray, Value.agg (ndC b).toArray, Value.int IntKind.i64 ↑iN, Value.int IntKind.i64 ↑mN, Value.slice A n c, Value.slice A2 n2 c2, Value.pointer (some { block := w.heap.size, off := 0 }), Value.pointer (some { block := w.heap.size + 1, off := 0 }), undef, undef, undef, undef, Value.bool false, Value.pointer (some { block := U2.heap.size, off := 0 }), Value.int IntKind.i64 0, Value.pointer (some { block := U3.heap.size, off := 0 }), Value.int IntKind.i64 0, fx 10, fx 11, undef, undef, undef, Value.bool true, Value.bool false, Value.slice A n c, Value.int IntKind.i64 ↑n, Value.bool false, Value.bool false, Value.slice A2 n2 c2, Value.int IntKind.i64 ↑n2, Value.bool false, Value.bool false, Value.tuple #[ndV x, Value.int IntKind.i64 0], Value.agg (ndC a).toArray, Value.int IntKind.i64 ↑iN, Value.int IntKind.i64 ↑mN, Value.slice A n c, Value.tuple #[ndV x, Value.int IntKind.i64 0], ndV x, Value.int IntKind.i64 0, Value.tuple #[ndV y, Value.int IntKind.i64 0], Value.agg (ndC b).toArray, Value.int IntKind.i64 ↑iN, Value.int IntKind.i64 ↑mN, Value.slice A2 n2 c2, Value.tuple #[ndV y, Value.int IntKind.i64 0], ndV y, Value.int IntKind.i64 0, Value.int IntKind.i64 0, Value.bool false, Value.bool false, Value.int IntKind.i64 0, Value.bool false, Value.bool false, Value.bool false, Value.agg (ndC x).toArray, Value.agg (ndC y).toArray, Value.bool false, Value.bool false, Value.agg (ndC a).toArray, Value.agg (ndC b).toArray, Value.bool true, Value.bool true, Value.slice A n c, Value.slice A2 n2 c2, Value.bool false, Value.bool false, fx 0, fx 1, fx 2, fx 3, v2, fx 5, fx 6, fx 7, fx 8, fx 9, undef, undef, undef, undef, undef, undef, undef, undef, undef, undef, undef, undef, undef, undef, undef, undef, undef, undef, undef, undef, undef, undef, undef, undef, undef, undef, undef, undef, undef, undef, undef, undef, undef, undef, undef, undef, undef, undef, undef, undef, undef, undef, undef] []; rw [h0, h1, h2, h3] <;> rfl, hC.trans (hq.mono hC.size), HOV.out.mono hC.size, fun j v t _ _ h => wB11_below hq j v h⟩
                  · have hrow := row_kept R7_6.out hC
                    refine wpList_load_row rfl 26 (.tmp 7) rfl (w.heap.size + 1) rfl 26 _ (0, 0) _ hrow Tryd.underlying26 rfl (size34' HBo.out) ?_
                    clear hd
                    go_wp2_with fail
                    exact ⟨_, rfl, hC, rfl, fun _ _ _ _ _ h => h⟩
                  · go_wp2_with fail
                    exact ⟨_, rfl, hC, rfl, fun _ _ _ _ _ h => h⟩
                  · go_wp2_with fail
                    exact ⟨_, rfl, hC, rfl, fun _ _ _ _ _ h => h⟩
                  · go_wp2_with fail
                    exact ⟨_, rfl, hC, rfl, fun _ _ _ _ _ h => h⟩
                  · have h5 : fx 5 = ndV b := hd.1 rfl
                    have h6 : fx 6 = Value.int .i64 ((iN : Nat)) := hd.2.1 rfl
                    have h7 : fx 7 = Value.int .i64 ((mN : Nat)) := hd.2.2.1 rfl
                    have h8 : fx 8 = Value.slice A2 n2 c2 := hd.2.2.2.1 rfl
                    have HTk := Lib.hid (hT.out.below (HB6.out.trans (hC.mono HB6.out.size)))
                    have HIk := Lib.hid (HQ0_6.out.below hC)
                    go_wp2_with fail
                    refine (sides_any 4096 iN mN b qs A2 n2 c2 w' hm4 hm1 hm4 him HL2 HBo HV2 HIk HTk).mono ?_
                    rintro e w3 ⟨v2, rfl, ho, hq⟩
                    rw [HLB.out] at ho
                    have HOV := Lib.hid ho
                    clear ho
                    go_wp2_with fail
                    exact ⟨v2, by show _ = Act.mk #[Value.agg (ndC a).toArray, Value.agg (ndC b).toArray, Value.int IntKind.i64 ↑iN, Value.int IntKind.i64 ↑mN, Value.slice A n c, Value.slice A2 n2 c2, Value.pointer (some { block := w.heap.size, off := 0 }), Value.pointer (some { block := w.heap.size + 1, off := 0 }), undef, undef, undef, undef, Value.bool false, Value.pointer (some { block := U2.heap.size, off := 0 }), Value.int IntKind.i64 0, Value.pointer (some { block := U3.heap.size, off := 0 }), Value.int IntKind.i64 0, fx 10, fx 11, undef, undef, undef, Value.bool true, Value.bool false, Value.slice A n c, Value.int IntKind.i64 ↑n, Value.bool false, Value.bool false, Value.slice A2 n2 c2, Value.int IntKind.i64 ↑n2, Value.bool false, Value.bool false, Value.tuple #[ndV x, Value.int IntKind.i64 0], Value.agg (ndC a).toArray, Value.int IntKind.i64 ↑iN, Value.int IntKind.i64 ↑mN, Value.slice A n c, Value.tuple #[ndV x, Value.int IntKind.i64 0], ndV x, Value.int IntKind.i64 0, Value.tuple #[ndV y, Value.int IntKind.i64 0], Value.agg (ndC b).toArray, Value.int IntKind.i64 ↑iN, Value.int IntKind.i64 ↑mN, Value.slice A2 n2 c2, Value.tuple #[ndV y, Value.int IntKind.i64 0], ndV y, Value.int IntKind.i64 0, Value.int IntKind.i64 0, Value.bool false, Value.bool false, Value.int IntKind.i64 0, Value.bool false, Value.bool false, Value.bool false, Value.agg (ndC x).toArray, Value.agg (ndC y).toArray, Value.bool false, Value.bool false, Value.agg (ndC a).toArray, Value.agg (ndC b).toArray, Value.bool true, Value.bool true, Value.slice A n c, Value.slice A2 n2 c2, Value.bool false, Value.bool false, fx 0, fx 1, fx 2, fx 3, fx 4, fx 5, fx 6, fx 7, fx 8, v2, undef, undef, undef, undef, undef, undef, undef, undef, undef, undef, undef, undef, undef, undef, undef, undef, undef, undef, undef, undef, undef, undef, undef, undef, undef, undef, undef, undef, undef, undef, undef, undef, undef, undef, undef, undef, undef, undef, undef, undef, undef, undef, undef] []; rw [h5, h6, h7, h8] <;> rfl, hC.trans (hq.mono hC.size), HOV.out.mono hC.size, fun j v t _ _ h => wB11_below hq j v h⟩
                  · have H4 := Lib.hid (hd.1 rfl)
                    go_wp2_with fail
                    exact ⟨_, rfl, hC, H4.out, fun j v t _ _ h => h⟩
                  · have H9 := Lib.hid (hd.1 rfl)
                    go_wp2_with fail
                    exact ⟨_, rfl, hC, H9.out, fun j v t _ _ h => h⟩
                · intro L fo w' hC hS
                  have H10 := Lib.hid (hS 10 (by decide) rfl)
                  have H11 := Lib.hid (hS 11 (by decide) rfl)
                  have hbq := hC
                  obtain ⟨A3, n3, c3, e10, hin3⟩ := H10.out.slice HLAO.out
                  obtain ⟨A4, n4, c4, e11, hin4⟩ := H11.out.slice HLBO.out
                  obtain rfl : n3 = n4 := by rw [← hin3.len, ← hin4.len]; exact HLN.out.1
                  have HI3 := Lib.hid hin3
                  have HI4 := Lib.hid hin4
                  have HLAn := Lib.hid hin3.len
                  have HLBn := Lib.hid hin4.len
                  have hn3 : n3 ≤ 4096 := by rw [← hin3.len]; exact HLN.out.2
                  rw [e10, e11]
                  clear hS hC H10 H11 e10 e11 hin3 hin4
                  have HBV := Lib.hid (HB6.out.trans (hbq.mono HB6.out.size))
                  clear hbq
                  obtain ⟨WV, HWV⟩ : ∃ W, W = w' := ⟨_, rfl⟩
                  subst HWV
                  have dn : ((n3 : Int) != (n3 : Int)) = false := by simp
                  go_wp2_with fail
                  go_loopw [84] (fun v wr => ∃ j : Nat, j ≤ n3 ∧ v = .int .i64 (j : Nat) ∧ Hid (bindsB (LA.drop j) (LB.drop j) = true) ∧ Hid (Below WV.heap.size WV wr)) (fun v _ => n3 - (intOf v).toNat)
                  case atStart => exact ⟨0, by omega, rfl, HBI, Lib.hid (Below.refl _ _)⟩
                  case round =>
                    obtain ⟨j, hj, rfl, HBJ, HBQ⟩ := hrel
                    by_cases hlt : j < n3
                    · have d6 : decide ((j : Int) < (n3 : Int)) = true := decide_eq_true (by omega)
                      have d7 : decide (j < n3) = true := decide_eq_true hlt
                      obtain ⟨g3, r1, r2, rfl, hg3, hr1, hr2, hdA, hrA1, hrA2⟩ := pair_ranges HI3.out j hlt
                      obtain ⟨g4, t1, t2, rfl, hg4, ht1, ht2, hdB, hrB1, hrB2⟩ := pair_ranges HI4.out j hlt
                      have HR1 := Lib.hid hr1
                      have HR2 := Lib.hid hr2
                      have HT1 := Lib.hid ht1
                      have HT2 := Lib.hid ht2
                      have HDA := Lib.hid hdA
                      have HDB := Lib.hid hdB
                      have HRA1 := Lib.hid (rangeAt_below hrA1 hg3 HBQ.out)
                      have HRA2 := Lib.hid (rangeAt_below hrA2 hg3 HBQ.out)
                      have HRB1 := Lib.hid (rangeAt_below hrB1 hg4 HBQ.out)
                      have HRB2 := Lib.hid (rangeAt_below hrB2 hg4 HBQ.out)
                      have HG3 := Lib.hid (Nat.lt_of_lt_of_le hg3 HBQ.out.size)
                      have HG4 := Lib.hid (Nat.lt_of_lt_of_le hg4 HBQ.out.size)
                      obtain ⟨sA, HSA⟩ : ∃ s, Hid (bstr (jstr r1 r2) = s) := ⟨_, Lib.hid rfl⟩
                      obtain ⟨sB, HSB⟩ : ∃ s, Hid (bstr (jstr t1 t2) = s) := ⟨_, Lib.hid rfl⟩
                      clear hg3 hr1 hr2 hdA hrA1 hrA2 hg4 ht1 ht2 hdB hrB1 hrB2
                      go_wp2_with fail
                      refine region_flow3 (by kernel_rfl) (by kernel_rfl) (fun i => Nat.beq i 22 || Nat.beq i 23) (fun i => i) (by kernel_rfl) (fun fx => #[Value.agg (ndC a).toArray, Value.agg (ndC b).toArray, Value.int IntKind.i64 ↑iN, Value.int IntKind.i64 ↑mN, Value.slice A n c, Value.slice A2 n2 c2, Value.pointer (some { block := w.heap.size, off := 0 }), Value.pointer (some { block := w.heap.size + 1, off := 0 }), undef, undef, undef, undef, u12, Value.pointer (some { block := U2.heap.size, off := 0 }), Value.int IntKind.i64 0, Value.pointer (some { block := U3.heap.size, off := 0 }), Value.int IntKind.i64 0, Value.slice (some ⟨g3, 0, none⟩) n3 c3, Value.slice (some ⟨g4, 0, none⟩) n3 c4, Value.int IntKind.i64 ↑j, fx 22, fx 23, Value.bool true, Value.bool false, Value.slice A n c, Value.int IntKind.i64 ↑n, Value.bool false, Value.bool false, Value.slice A2 n2 c2, Value.int IntKind.i64 ↑n2, Value.bool false, Value.bool false, Value.tuple #[ndV x, Value.int IntKind.i64 0], Value.agg (ndC a).toArray, Value.int IntKind.i64 ↑iN, Value.int IntKind.i64 ↑mN, Value.slice A n c, Value.tuple #[ndV x, Value.int IntKind.i64 0], ndV x, Value.int IntKind.i64 0, Value.tuple #[ndV y, Value.int IntKind.i64 0], Value.agg (ndC b).toArray, Value.int IntKind.i64 ↑iN, Value.int IntKind.i64 ↑mN, Value.slice A2 n2 c2, Value.tuple #[ndV y, Value.int IntKind.i64 0], ndV y, Value.int IntKind.i64 0, Value.int IntKind.i64 0, Value.bool false, Value.bool false, Value.int IntKind.i64 0, Value.bool false, Value.bool false, Value.bool false, Value.agg (ndC x).toArray, Value.agg (ndC y).toArray, Value.bool false, Value.bool false, Value.agg (ndC a).toArray, Value.agg (ndC b).toArray, Value.bool true, Value.bool true, Value.slice A n c, Value.slice A2 n2 c2, Value.bool false, Value.bool false, fo 0, fo 1, fo 2, fo 3, fo 4, fo 5, fo 6, fo 7, fo 8, fo 9, Value.slice (some ⟨g3, 0, none⟩) n3 c3, Value.int IntKind.i64 ↑n3, Value.slice (some ⟨g4, 0, none⟩) n3 c4, Value.int IntKind.i64 ↑n3, Value.bool false, Value.slice (some ⟨g3, 0, none⟩) n3 c3, Value.int IntKind.i64 ↑n3, Value.int IntKind.i64 ↑j, Value.bool true, Value.int IntKind.i64 ↑j, fx 0, fx 1, fx 2, fx 3, fx 4, fx 5, fx 6, fx 7, fx 8, fx 9, fx 10, fx 11, fx 12, fx 13, fx 14, fx 15, fx 16, fx 17, fx 18, fx 19, fx 20, fx 21, u109, u110, u111, u112, u113, u114, u115, u116, u117, u118, u119]) (fun i => bif Nat.beq i 0 then u87 else bif Nat.beq i 1 then u88 else bif Nat.beq i 2 then u89 else bif Nat.beq i 3 then u90 else bif Nat.beq i 4 then u91 else bif Nat.beq i 5 then u92 else bif Nat.beq i 6 then u93 else bif Nat.beq i 7 then u94 else bif Nat.beq i 8 then u95 else bif Nat.beq i 9 then u96 else bif Nat.beq i 10 then u97 else bif Nat.beq i 11 then u98 else bif Nat.beq i 12 then u99 else bif Nat.beq i 13 then u100 else bif Nat.beq i 14 then u101 else bif Nat.beq i 15 then u102 else bif Nat.beq i 16 then u103 else bif Nat.beq i 17 then u104 else bif Nat.beq i 18 then u105 else bif Nat.beq i 19 then u106 else bif Nat.beq i 20 then u107 else bif Nat.beq i 21 then u108 else bif Nat.beq i 22 then u20 else bif Nat.beq i 23 then u21 else undef) (fun L fx w' => Below wr.heap.size wr w') (fun fi fv _ fw => wB17 j g3 g4 n3 c3 c4 r1 r2 t1 t2 sA sB fi fv fw) (Below.refl _ _).drew ?_ ?_
                      · refine ⟨?_, ?_, ?_, ?_, ?_, ?_, ?_, ?_, ?_, ?_, ?_, ?_, ?_, ?_, ?_, ?_, ?_, ?_, ?_, ?_, ?_, ?_, ?_, ?_, trivial⟩
                        all_goals intro L fx w' hC hi hcl hdn hd
                        · go_wp2_with fail
                          exact ⟨_, rfl, hC, rfl, fun _ _ _ _ _ h => h⟩
                        · go_wp2_with fail
                          exact ⟨_, rfl, hC, rfl, fun _ _ _ _ _ h => h⟩
                        · have h0 : fx 0 = Value.slice (some ⟨g3, 0, none⟩) n3 c3 := hd.1 rfl
                          have h1 : fx 1 = Value.int .i64 ((j : Nat)) := hd.2.1 rfl
                          go_wp2_with fail
                          exact ⟨_, by show _ = Act.mk #[Value.agg (ndC a).toArray, Value.agg (ndC b).toArray, Value.int IntKind.i64 ↑iN, Value.int IntKind.i64 ↑mN, Value.slice A n c, Value.slice A2 n2 c2, Value.pointer (some { block := w.heap.size, off := 0 }), Value.pointer (some { block := w.heap.size + 1, off := 0 }), undef, undef, undef, undef, u12, Value.pointer (some { block := U2.heap.size, off := 0 }), Value.int IntKind.i64 0, Value.pointer (some { block := U3.heap.size, off := 0 }), Value.int IntKind.i64 0, Value.slice (some ⟨g3, 0, none⟩) n3 c3, Value.slice (some ⟨g4, 0, none⟩) n3 c4, Value.int IntKind.i64 ↑j, fx 22, fx 23, Value.bool true, Value.bool false, Value.slice A n c, Value.int IntKind.i64 ↑n, Value.bool false, Value.bool false, Value.slice A2 n2 c2, Value.int IntKind.i64 ↑n2, Value.bool false, Value.bool false, Value.tuple #[ndV x, Value.int IntKind.i64 0], Value.agg (ndC a).toArray, Value.int IntKind.i64 ↑iN, Value.int IntKind.i64 ↑mN, Value.slice A n c, Value.tuple #[ndV x, Value.int IntKind.i64 0], ndV x, Value.int IntKind.i64 0, Value.tuple #[ndV y, Value.int IntKind.i64 0], Value.agg (ndC b).toArray, Value.int IntKind.i64 ↑iN, Value.int IntKind.i64 ↑mN, Value.slice A2 n2 c2, Value.tuple #[ndV y, Value.int IntKind.i64 0], ndV y, Value.int IntKind.i64 0, Value.int IntKind.i64 0, Value.bool false, Value.bool false, Value.int IntKind.i64 0, Value.bool false, Value.bool false, Value.bool false, Value.agg (ndC x).toArray, Value.agg (ndC y).toArray, Value.bool false, Value.bool false, Value.agg (ndC a).toArray, Value.agg (ndC b).toArray, Value.bool true, Value.bool true, Value.slice A n c, Value.slice A2 n2 c2, Value.bool false, Value.bool false, fo 0, fo 1, fo 2, fo 3, fo 4, fo 5, fo 6, fo 7, fo 8, fo 9, Value.slice (some ⟨g3, 0, none⟩) n3 c3, Value.int IntKind.i64 ↑n3, Value.slice (some ⟨g4, 0, none⟩) n3 c4, Value.int IntKind.i64 ↑n3, Value.bool false, Value.slice (some ⟨g3, 0, none⟩) n3 c3, Value.int IntKind.i64 ↑n3, Value.int IntKind.i64 ↑j, Value.bool true, Value.int IntKind.i64 ↑j, fx 0, fx 1, Value.pointer (some ⟨g3, j * 68, none⟩), fx 3, fx 4, fx 5, fx 6, fx 7, fx 8, fx 9, fx 10, fx 11, fx 12, fx 13, fx 14, fx 15, fx 16, fx 17, fx 18, fx 19, fx 20, fx 21, u109, u110, u111, u112, u113, u114, u115, u116, u117, u118, u119] []; rw [h0, h1] <;> rfl, hC, rfl, fun _ _ _ _ _ h => h⟩
                        · have h2 : fx 2 = Value.pointer (some ⟨g3, j * 68, none⟩) := hd.1 rfl
                          go_wp2_with fail
                          exact ⟨_, by show _ = Act.mk #[Value.agg (ndC a).toArray, Value.agg (ndC b).toArray, Value.int IntKind.i64 ↑iN, Value.int IntKind.i64 ↑mN, Value.slice A n c, Value.slice A2 n2 c2, Value.pointer (some { block := w.heap.size, off := 0 }), Value.pointer (some { block := w.heap.size + 1, off := 0 }), undef, undef, undef, undef, u12, Value.pointer (some { block := U2.heap.size, off := 0 }), Value.int IntKind.i64 0, Value.pointer (some { block := U3.heap.size, off := 0 }), Value.int IntKind.i64 0, Value.slice (some ⟨g3, 0, none⟩) n3 c3, Value.slice (some ⟨g4, 0, none⟩) n3 c4, Value.int IntKind.i64 ↑j, fx 22, fx 23, Value.bool true, Value.bool false, Value.slice A n c, Value.int IntKind.i64 ↑n, Value.bool false, Value.bool false, Value.slice A2 n2 c2, Value.int IntKind.i64 ↑n2, Value.bool false, Value.bool false, Value.tuple #[ndV x, Value.int IntKind.i64 0], Value.agg (ndC a).toArray, Value.int IntKind.i64 ↑iN, Value.int IntKind.i64 ↑mN, Value.slice A n c, Value.tuple #[ndV x, Value.int IntKind.i64 0], ndV x, Value.int IntKind.i64 0, Value.tuple #[ndV y, Value.int IntKind.i64 0], Value.agg (ndC b).toArray, Value.int IntKind.i64 ↑iN, Value.int IntKind.i64 ↑mN, Value.slice A2 n2 c2, Value.tuple #[ndV y, Value.int IntKind.i64 0], ndV y, Value.int IntKind.i64 0, Value.int IntKind.i64 0, Value.bool false, Value.bool false, Value.int IntKind.i64 0, Value.bool false, Value.bool false, Value.bool false, Value.agg (ndC x).toArray, Value.agg (ndC y).toArray, Value.bool false, Value.bool false, Value.agg (ndC a).toArray, Value.agg (ndC b).toArray, Value.bool true, Value.bool true, Value.slice A n c, Value.slice A2 n2 c2, Value.bool false, Value.bool false, fo 0, fo 1, fo 2, fo 3, fo 4, fo 5, fo 6, fo 7, fo 8, fo 9, Value.slice (some ⟨g3, 0, none⟩) n3 c3, Value.int IntKind.i64 ↑n3, Value.slice (some ⟨g4, 0, none⟩) n3 c4, Value.int IntKind.i64 ↑n3, Value.bool false, Value.slice (some ⟨g3, 0, none⟩) n3 c3, Value.int IntKind.i64 ↑n3, Value.int IntKind.i64 ↑j, Value.bool true, Value.int IntKind.i64 ↑j, fx 0, fx 1, fx 2, Value.pointer (some ⟨g3, j * 68, none⟩), fx 4, fx 5, fx 6, fx 7, fx 8, fx 9, fx 10, fx 11, fx 12, fx 13, fx 14, fx 15, fx 16, fx 17, fx 18, fx 19, fx 20, fx 21, u109, u110, u111, u112, u113, u114, u115, u116, u117, u118, u119] []; rw [h2] <;> rfl, hC, rfl, fun _ _ _ _ _ h => h⟩
                        · have h3 : fx 3 = Value.pointer (some ⟨g3, j * 68, none⟩) := hd.1 rfl
                          have hrg := rangeAt_below HRA1.out HG3.out hC
                          refine wpList_load_mid rfl 26 (.tmp 90) rfl g3 (j * 68) h3 (ndC r1) _ hrg Tryd.underlying26 rfl (size34 HR1.out) ?_
                          clear hd
                          go_wp2_with fail
                          exact ⟨_, by show _ = Act.mk #[Value.agg (ndC a).toArray, Value.agg (ndC b).toArray, Value.int IntKind.i64 ↑iN, Value.int IntKind.i64 ↑mN, Value.slice A n c, Value.slice A2 n2 c2, Value.pointer (some { block := w.heap.size, off := 0 }), Value.pointer (some { block := w.heap.size + 1, off := 0 }), undef, undef, undef, undef, u12, Value.pointer (some { block := U2.heap.size, off := 0 }), Value.int IntKind.i64 0, Value.pointer (some { block := U3.heap.size, off := 0 }), Value.int IntKind.i64 0, Value.slice (some ⟨g3, 0, none⟩) n3 c3, Value.slice (some ⟨g4, 0, none⟩) n3 c4, Value.int IntKind.i64 ↑j, fx 22, fx 23, Value.bool true, Value.bool false, Value.slice A n c, Value.int IntKind.i64 ↑n, Value.bool false, Value.bool false, Value.slice A2 n2 c2, Value.int IntKind.i64 ↑n2, Value.bool false, Value.bool false, Value.tuple #[ndV x, Value.int IntKind.i64 0], Value.agg (ndC a).toArray, Value.int IntKind.i64 ↑iN, Value.int IntKind.i64 ↑mN, Value.slice A n c, Value.tuple #[ndV x, Value.int IntKind.i64 0], ndV x, Value.int IntKind.i64 0, Value.tuple #[ndV y, Value.int IntKind.i64 0], Value.agg (ndC b).toArray, Value.int IntKind.i64 ↑iN, Value.int IntKind.i64 ↑mN, Value.slice A2 n2 c2, Value.tuple #[ndV y, Value.int IntKind.i64 0], ndV y, Value.int IntKind.i64 0, Value.int IntKind.i64 0, Value.bool false, Value.bool false, Value.int IntKind.i64 0, Value.bool false, Value.bool false, Value.bool false, Value.agg (ndC x).toArray, Value.agg (ndC y).toArray, Value.bool false, Value.bool false, Value.agg (ndC a).toArray, Value.agg (ndC b).toArray, Value.bool true, Value.bool true, Value.slice A n c, Value.slice A2 n2 c2, Value.bool false, Value.bool false, fo 0, fo 1, fo 2, fo 3, fo 4, fo 5, fo 6, fo 7, fo 8, fo 9, Value.slice (some ⟨g3, 0, none⟩) n3 c3, Value.int IntKind.i64 ↑n3, Value.slice (some ⟨g4, 0, none⟩) n3 c4, Value.int IntKind.i64 ↑n3, Value.bool false, Value.slice (some ⟨g3, 0, none⟩) n3 c3, Value.int IntKind.i64 ↑n3, Value.int IntKind.i64 ↑j, Value.bool true, Value.int IntKind.i64 ↑j, fx 0, fx 1, fx 2, fx 3, ndV r1, fx 5, fx 6, fx 7, fx 8, fx 9, fx 10, fx 11, fx 12, fx 13, fx 14, fx 15, fx 16, fx 17, fx 18, fx 19, fx 20, fx 21, u109, u110, u111, u112, u113, u114, u115, u116, u117, u118, u119] []; rw [h3] <;> rfl, hC, rfl, fun _ _ _ _ _ h => h⟩
                        · go_wp2_with fail
                          exact ⟨_, rfl, hC, rfl, fun _ _ _ _ _ h => h⟩
                        · go_wp2_with fail
                          exact ⟨_, rfl, hC, rfl, fun _ _ _ _ _ h => h⟩
                        · have h5 : fx 5 = Value.slice (some ⟨g3, 0, none⟩) n3 c3 := hd.1 rfl
                          have h6 : fx 6 = Value.int .i64 ((j : Nat)) := hd.2.1 rfl
                          go_wp2_with fail
                          exact ⟨_, by show _ = Act.mk #[Value.agg (ndC a).toArray, Value.agg (ndC b).toArray, Value.int IntKind.i64 ↑iN, Value.int IntKind.i64 ↑mN, Value.slice A n c, Value.slice A2 n2 c2, Value.pointer (some { block := w.heap.size, off := 0 }), Value.pointer (some { block := w.heap.size + 1, off := 0 }), undef, undef, undef, undef, u12, Value.pointer (some { block := U2.heap.size, off := 0 }), Value.int IntKind.i64 0, Value.pointer (some { block := U3.heap.size, off := 0 }), Value.int IntKind.i64 0, Value.slice (some ⟨g3, 0, none⟩) n3 c3, Value.slice (some ⟨g4, 0, none⟩) n3 c4, Value.int IntKind.i64 ↑j, fx 22, fx 23, Value.bool true, Value.bool false, Value.slice A n c, Value.int IntKind.i64 ↑n, Value.bool false, Value.bool false, Value.slice A2 n2 c2, Value.int IntKind.i64 ↑n2, Value.bool false, Value.bool false, Value.tuple #[ndV x, Value.int IntKind.i64 0], Value.agg (ndC a).toArray, Value.int IntKind.i64 ↑iN, Value.int IntKind.i64 ↑mN, Value.slice A n c, Value.tuple #[ndV x, Value.int IntKind.i64 0], ndV x, Value.int IntKind.i64 0, Value.tuple #[ndV y, Value.int IntKind.i64 0], Value.agg (ndC b).toArray, Value.int IntKind.i64 ↑iN, Value.int IntKind.i64 ↑mN, Value.slice A2 n2 c2, Value.tuple #[ndV y, Value.int IntKind.i64 0], ndV y, Value.int IntKind.i64 0, Value.int IntKind.i64 0, Value.bool false, Value.bool false, Value.int IntKind.i64 0, Value.bool false, Value.bool false, Value.bool false, Value.agg (ndC x).toArray, Value.agg (ndC y).toArray, Value.bool false, Value.bool false, Value.agg (ndC a).toArray, Value.agg (ndC b).toArray, Value.bool true, Value.bool true, Value.slice A n c, Value.slice A2 n2 c2, Value.bool false, Value.bool false, fo 0, fo 1, fo 2, fo 3, fo 4, fo 5, fo 6, fo 7, fo 8, fo 9, Value.slice (some ⟨g3, 0, none⟩) n3 c3, Value.int IntKind.i64 ↑n3, Value.slice (some ⟨g4, 0, none⟩) n3 c4, Value.int IntKind.i64 ↑n3, Value.bool false, Value.slice (some ⟨g3, 0, none⟩) n3 c3, Value.int IntKind.i64 ↑n3, Value.int IntKind.i64 ↑j, Value.bool true, Value.int IntKind.i64 ↑j, fx 0, fx 1, fx 2, fx 3, fx 4, fx 5, fx 6, Value.pointer (some ⟨g3, j * 68, none⟩), fx 8, fx 9, fx 10, fx 11, fx 12, fx 13, fx 14, fx 15, fx 16, fx 17, fx 18, fx 19, fx 20, fx 21, u109, u110, u111, u112, u113, u114, u115, u116, u117, u118, u119] []; rw [h5, h6] <;> rfl, hC, rfl, fun _ _ _ _ _ h => h⟩
                        · have h7 : fx 7 = Value.pointer (some ⟨g3, j * 68, none⟩) := hd.1 rfl
                          go_wp2_with fail
                          exact ⟨_, by show _ = Act.mk #[Value.agg (ndC a).toArray, Value.agg (ndC b).toArray, Value.int IntKind.i64 ↑iN, Value.int IntKind.i64 ↑mN, Value.slice A n c, Value.slice A2 n2 c2, Value.pointer (some { block := w.heap.size, off := 0 }), Value.pointer (some { block := w.heap.size + 1, off := 0 }), undef, undef, undef, undef, u12, Value.pointer (some { block := U2.heap.size, off := 0 }), Value.int IntKind.i64 0, Value.pointer (some { block := U3.heap.size, off := 0 }), Value.int IntKind.i64 0, Value.slice (some ⟨g3, 0, none⟩) n3 c3, Value.slice (some ⟨g4, 0, none⟩) n3 c4, Value.int IntKind.i64 ↑j, fx 22, fx 23, Value.bool true, Value.bool false, Value.slice A n c, Value.int IntKind.i64 ↑n, Value.bool false, Value.bool false, Value.slice A2 n2 c2, Value.int IntKind.i64 ↑n2, Value.bool false, Value.bool false, Value.tuple #[ndV x, Value.int IntKind.i64 0], Value.agg (ndC a).toArray, Value.int IntKind.i64 ↑iN, Value.int IntKind.i64 ↑mN, Value.slice A n c, Value.tuple #[ndV x, Value.int IntKind.i64 0], ndV x, Value.int IntKind.i64 0, Value.tuple #[ndV y, Value.int IntKind.i64 0], Value.agg (ndC b).toArray, Value.int IntKind.i64 ↑iN, Value.int IntKind.i64 ↑mN, Value.slice A2 n2 c2, Value.tuple #[ndV y, Value.int IntKind.i64 0], ndV y, Value.int IntKind.i64 0, Value.int IntKind.i64 0, Value.bool false, Value.bool false, Value.int IntKind.i64 0, Value.bool false, Value.bool false, Value.bool false, Value.agg (ndC x).toArray, Value.agg (ndC y).toArray, Value.bool false, Value.bool false, Value.agg (ndC a).toArray, Value.agg (ndC b).toArray, Value.bool true, Value.bool true, Value.slice A n c, Value.slice A2 n2 c2, Value.bool false, Value.bool false, fo 0, fo 1, fo 2, fo 3, fo 4, fo 5, fo 6, fo 7, fo 8, fo 9, Value.slice (some ⟨g3, 0, none⟩) n3 c3, Value.int IntKind.i64 ↑n3, Value.slice (some ⟨g4, 0, none⟩) n3 c4, Value.int IntKind.i64 ↑n3, Value.bool false, Value.slice (some ⟨g3, 0, none⟩) n3 c3, Value.int IntKind.i64 ↑n3, Value.int IntKind.i64 ↑j, Value.bool true, Value.int IntKind.i64 ↑j, fx 0, fx 1, fx 2, fx 3, fx 4, fx 5, fx 6, fx 7, Value.pointer (some ⟨g3, j * 68 + 34, none⟩), fx 9, fx 10, fx 11, fx 12, fx 13, fx 14, fx 15, fx 16, fx 17, fx 18, fx 19, fx 20, fx 21, u109, u110, u111, u112, u113, u114, u115, u116, u117, u118, u119] []; rw [h7] <;> rfl, hC, rfl, fun _ _ _ _ _ h => h⟩
                        · have h8 : fx 8 = Value.pointer (some ⟨g3, j * 68 + 34, none⟩) := hd.1 rfl
                          have hrg := rangeAt_below HRA2.out HG3.out hC
                          refine wpList_load_mid rfl 26 (.tmp 95) rfl g3 (j * 68 + 34) h8 (ndC r2) _ hrg Tryd.underlying26 rfl (size34 HR2.out) ?_
                          clear hd
                          go_wp2_with fail
                          exact ⟨_, by show _ = Act.mk #[Value.agg (ndC a).toArray, Value.agg (ndC b).toArray, Value.int IntKind.i64 ↑iN, Value.int IntKind.i64 ↑mN, Value.slice A n c, Value.slice A2 n2 c2, Value.pointer (some { block := w.heap.size, off := 0 }), Value.pointer (some { block := w.heap.size + 1, off := 0 }), undef, undef, undef, undef, u12, Value.pointer (some { block := U2.heap.size, off := 0 }), Value.int IntKind.i64 0, Value.pointer (some { block := U3.heap.size, off := 0 }), Value.int IntKind.i64 0, Value.slice (some ⟨g3, 0, none⟩) n3 c3, Value.slice (some ⟨g4, 0, none⟩) n3 c4, Value.int IntKind.i64 ↑j, fx 22, fx 23, Value.bool true, Value.bool false, Value.slice A n c, Value.int IntKind.i64 ↑n, Value.bool false, Value.bool false, Value.slice A2 n2 c2, Value.int IntKind.i64 ↑n2, Value.bool false, Value.bool false, Value.tuple #[ndV x, Value.int IntKind.i64 0], Value.agg (ndC a).toArray, Value.int IntKind.i64 ↑iN, Value.int IntKind.i64 ↑mN, Value.slice A n c, Value.tuple #[ndV x, Value.int IntKind.i64 0], ndV x, Value.int IntKind.i64 0, Value.tuple #[ndV y, Value.int IntKind.i64 0], Value.agg (ndC b).toArray, Value.int IntKind.i64 ↑iN, Value.int IntKind.i64 ↑mN, Value.slice A2 n2 c2, Value.tuple #[ndV y, Value.int IntKind.i64 0], ndV y, Value.int IntKind.i64 0, Value.int IntKind.i64 0, Value.bool false, Value.bool false, Value.int IntKind.i64 0, Value.bool false, Value.bool false, Value.bool false, Value.agg (ndC x).toArray, Value.agg (ndC y).toArray, Value.bool false, Value.bool false, Value.agg (ndC a).toArray, Value.agg (ndC b).toArray, Value.bool true, Value.bool true, Value.slice A n c, Value.slice A2 n2 c2, Value.bool false, Value.bool false, fo 0, fo 1, fo 2, fo 3, fo 4, fo 5, fo 6, fo 7, fo 8, fo 9, Value.slice (some ⟨g3, 0, none⟩) n3 c3, Value.int IntKind.i64 ↑n3, Value.slice (some ⟨g4, 0, none⟩) n3 c4, Value.int IntKind.i64 ↑n3, Value.bool false, Value.slice (some ⟨g3, 0, none⟩) n3 c3, Value.int IntKind.i64 ↑n3, Value.int IntKind.i64 ↑j, Value.bool true, Value.int IntKind.i64 ↑j, fx 0, fx 1, fx 2, fx 3, fx 4, fx 5, fx 6, fx 7, fx 8, ndV r2, fx 10, fx 11, fx 12, fx 13, fx 14, fx 15, fx 16, fx 17, fx 18, fx 19, fx 20, fx 21, u109, u110, u111, u112, u113, u114, u115, u116, u117, u118, u119] []; rw [h8] <;> rfl, hC, rfl, fun _ _ _ _ _ h => h⟩
                        · have h4 : fx 4 = ndV r1 := hd.1 rfl
                          have h9 : fx 9 = ndV r2 := hd.2.1 rfl
                          go_wp2_with fail
                          refine (joined_any r1 r2 w' HR1 HR2).mono ?_
                          rintro e w3 ⟨s, rfl, hs, hq⟩
                          obtain rfl : sA = s := by rw [← HSA.out, ← hs, bstr_strL]
                          clear hs
                          go_wp2_with fail
                          exact ⟨_, by show _ = Act.mk #[Value.agg (ndC a).toArray, Value.agg (ndC b).toArray, Value.int IntKind.i64 ↑iN, Value.int IntKind.i64 ↑mN, Value.slice A n c, Value.slice A2 n2 c2, Value.pointer (some { block := w.heap.size, off := 0 }), Value.pointer (some { block := w.heap.size + 1, off := 0 }), undef, undef, undef, undef, u12, Value.pointer (some { block := U2.heap.size, off := 0 }), Value.int IntKind.i64 0, Value.pointer (some { block := U3.heap.size, off := 0 }), Value.int IntKind.i64 0, Value.slice (some ⟨g3, 0, none⟩) n3 c3, Value.slice (some ⟨g4, 0, none⟩) n3 c4, Value.int IntKind.i64 ↑j, fx 22, fx 23, Value.bool true, Value.bool false, Value.slice A n c, Value.int IntKind.i64 ↑n, Value.bool false, Value.bool false, Value.slice A2 n2 c2, Value.int IntKind.i64 ↑n2, Value.bool false, Value.bool false, Value.tuple #[ndV x, Value.int IntKind.i64 0], Value.agg (ndC a).toArray, Value.int IntKind.i64 ↑iN, Value.int IntKind.i64 ↑mN, Value.slice A n c, Value.tuple #[ndV x, Value.int IntKind.i64 0], ndV x, Value.int IntKind.i64 0, Value.tuple #[ndV y, Value.int IntKind.i64 0], Value.agg (ndC b).toArray, Value.int IntKind.i64 ↑iN, Value.int IntKind.i64 ↑mN, Value.slice A2 n2 c2, Value.tuple #[ndV y, Value.int IntKind.i64 0], ndV y, Value.int IntKind.i64 0, Value.int IntKind.i64 0, Value.bool false, Value.bool false, Value.int IntKind.i64 0, Value.bool false, Value.bool false, Value.bool false, Value.agg (ndC x).toArray, Value.agg (ndC y).toArray, Value.bool false, Value.bool false, Value.agg (ndC a).toArray, Value.agg (ndC b).toArray, Value.bool true, Value.bool true, Value.slice A n c, Value.slice A2 n2 c2, Value.bool false, Value.bool false, fo 0, fo 1, fo 2, fo 3, fo 4, fo 5, fo 6, fo 7, fo 8, fo 9, Value.slice (some ⟨g3, 0, none⟩) n3 c3, Value.int IntKind.i64 ↑n3, Value.slice (some ⟨g4, 0, none⟩) n3 c4, Value.int IntKind.i64 ↑n3, Value.bool false, Value.slice (some ⟨g3, 0, none⟩) n3 c3, Value.int IntKind.i64 ↑n3, Value.int IntKind.i64 ↑j, Value.bool true, Value.int IntKind.i64 ↑j, fx 0, fx 1, fx 2, fx 3, fx 4, fx 5, fx 6, fx 7, fx 8, fx 9, Value.string sA, fx 11, fx 12, fx 13, fx 14, fx 15, fx 16, fx 17, fx 18, fx 19, fx 20, fx 21, u109, u110, u111, u112, u113, u114, u115, u116, u117, u118, u119] []; rw [h4, h9] <;> rfl, hC.trans (hq.mono hC.size), rfl, fun j v t _ _ h => wB17_below hq j v h⟩
                        · go_wp2_with fail
                          exact ⟨_, rfl, hC, rfl, fun _ _ _ _ _ h => h⟩
                        · go_wp2_with fail
                          exact ⟨_, rfl, hC, rfl, fun _ _ _ _ _ h => h⟩
                        · have h11 : fx 11 = Value.slice (some ⟨g4, 0, none⟩) n3 c4 := hd.1 rfl
                          have h12 : fx 12 = Value.int .i64 ((j : Nat)) := hd.2.1 rfl
                          go_wp2_with fail
                          exact ⟨_, by show _ = Act.mk #[Value.agg (ndC a).toArray, Value.agg (ndC b).toArray, Value.int IntKind.i64 ↑iN, Value.int IntKind.i64 ↑mN, Value.slice A n c, Value.slice A2 n2 c2, Value.pointer (some { block := w.heap.size, off := 0 }), Value.pointer (some { block := w.heap.size + 1, off := 0 }), undef, undef, undef, undef, u12, Value.pointer (some { block := U2.heap.size, off := 0 }), Value.int IntKind.i64 0, Value.pointer (some { block := U3.heap.size, off := 0 }), Value.int IntKind.i64 0, Value.slice (some ⟨g3, 0, none⟩) n3 c3, Value.slice (some ⟨g4, 0, none⟩) n3 c4, Value.int IntKind.i64 ↑j, fx 22, fx 23, Value.bool true, Value.bool false, Value.slice A n c, Value.int IntKind.i64 ↑n, Value.bool false, Value.bool false, Value.slice A2 n2 c2, Value.int IntKind.i64 ↑n2, Value.bool false, Value.bool false, Value.tuple #[ndV x, Value.int IntKind.i64 0], Value.agg (ndC a).toArray, Value.int IntKind.i64 ↑iN, Value.int IntKind.i64 ↑mN, Value.slice A n c, Value.tuple #[ndV x, Value.int IntKind.i64 0], ndV x, Value.int IntKind.i64 0, Value.tuple #[ndV y, Value.int IntKind.i64 0], Value.agg (ndC b).toArray, Value.int IntKind.i64 ↑iN, Value.int IntKind.i64 ↑mN, Value.slice A2 n2 c2, Value.tuple #[ndV y, Value.int IntKind.i64 0], ndV y, Value.int IntKind.i64 0, Value.int IntKind.i64 0, Value.bool false, Value.bool false, Value.int IntKind.i64 0, Value.bool false, Value.bool false, Value.bool false, Value.agg (ndC x).toArray, Value.agg (ndC y).toArray, Value.bool false, Value.bool false, Value.agg (ndC a).toArray, Value.agg (ndC b).toArray, Value.bool true, Value.bool true, Value.slice A n c, Value.slice A2 n2 c2, Value.bool false, Value.bool false, fo 0, fo 1, fo 2, fo 3, fo 4, fo 5, fo 6, fo 7, fo 8, fo 9, Value.slice (some ⟨g3, 0, none⟩) n3 c3, Value.int IntKind.i64 ↑n3, Value.slice (some ⟨g4, 0, none⟩) n3 c4, Value.int IntKind.i64 ↑n3, Value.bool false, Value.slice (some ⟨g3, 0, none⟩) n3 c3, Value.int IntKind.i64 ↑n3, Value.int IntKind.i64 ↑j, Value.bool true, Value.int IntKind.i64 ↑j, fx 0, fx 1, fx 2, fx 3, fx 4, fx 5, fx 6, fx 7, fx 8, fx 9, fx 10, fx 11, fx 12, Value.pointer (some ⟨g4, j * 68, none⟩), fx 14, fx 15, fx 16, fx 17, fx 18, fx 19, fx 20, fx 21, u109, u110, u111, u112, u113, u114, u115, u116, u117, u118, u119] []; rw [h11, h12] <;> rfl, hC, rfl, fun _ _ _ _ _ h => h⟩
                        · have h13 : fx 13 = Value.pointer (some ⟨g4, j * 68, none⟩) := hd.1 rfl
                          go_wp2_with fail
                          exact ⟨_, by show _ = Act.mk #[Value.agg (ndC a).toArray, Value.agg (ndC b).toArray, Value.int IntKind.i64 ↑iN, Value.int IntKind.i64 ↑mN, Value.slice A n c, Value.slice A2 n2 c2, Value.pointer (some { block := w.heap.size, off := 0 }), Value.pointer (some { block := w.heap.size + 1, off := 0 }), undef, undef, undef, undef, u12, Value.pointer (some { block := U2.heap.size, off := 0 }), Value.int IntKind.i64 0, Value.pointer (some { block := U3.heap.size, off := 0 }), Value.int IntKind.i64 0, Value.slice (some ⟨g3, 0, none⟩) n3 c3, Value.slice (some ⟨g4, 0, none⟩) n3 c4, Value.int IntKind.i64 ↑j, fx 22, fx 23, Value.bool true, Value.bool false, Value.slice A n c, Value.int IntKind.i64 ↑n, Value.bool false, Value.bool false, Value.slice A2 n2 c2, Value.int IntKind.i64 ↑n2, Value.bool false, Value.bool false, Value.tuple #[ndV x, Value.int IntKind.i64 0], Value.agg (ndC a).toArray, Value.int IntKind.i64 ↑iN, Value.int IntKind.i64 ↑mN, Value.slice A n c, Value.tuple #[ndV x, Value.int IntKind.i64 0], ndV x, Value.int IntKind.i64 0, Value.tuple #[ndV y, Value.int IntKind.i64 0], Value.agg (ndC b).toArray, Value.int IntKind.i64 ↑iN, Value.int IntKind.i64 ↑mN, Value.slice A2 n2 c2, Value.tuple #[ndV y, Value.int IntKind.i64 0], ndV y, Value.int IntKind.i64 0, Value.int IntKind.i64 0, Value.bool false, Value.bool false, Value.int IntKind.i64 0, Value.bool false, Value.bool false, Value.bool false, Value.agg (ndC x).toArray, Value.agg (ndC y).toArray, Value.bool false, Value.bool false, Value.agg (ndC a).toArray, Value.agg (ndC b).toArray, Value.bool true, Value.bool true, Value.slice A n c, Value.slice A2 n2 c2, Value.bool false, Value.bool false, fo 0, fo 1, fo 2, fo 3, fo 4, fo 5, fo 6, fo 7, fo 8, fo 9, Value.slice (some ⟨g3, 0, none⟩) n3 c3, Value.int IntKind.i64 ↑n3, Value.slice (some ⟨g4, 0, none⟩) n3 c4, Value.int IntKind.i64 ↑n3, Value.bool false, Value.slice (some ⟨g3, 0, none⟩) n3 c3, Value.int IntKind.i64 ↑n3, Value.int IntKind.i64 ↑j, Value.bool true, Value.int IntKind.i64 ↑j, fx 0, fx 1, fx 2, fx 3, fx 4, fx 5, fx 6, fx 7, fx 8, fx 9, fx 10, fx 11, fx 12, fx 13, Value.pointer (some ⟨g4, j * 68, none⟩), fx 15, fx 16, fx 17, fx 18, fx 19, fx 20, fx 21, u109, u110, u111, u112, u113, u114, u115, u116, u117, u118, u119] []; rw [h13] <;> rfl, hC, rfl, fun _ _ _ _ _ h => h⟩
                        · have h14 : fx 14 = Value.pointer (some ⟨g4, j * 68, none⟩) := hd.1 rfl
                          have hrg := rangeAt_below HRB1.out HG4.out hC
                          refine wpList_load_mid rfl 26 (.tmp 101) rfl g4 (j * 68) h14 (ndC t1) _ hrg Tryd.underlying26 rfl (size34 HT1.out) ?_
                          clear hd
                          go_wp2_with fail
                          exact ⟨_, by show _ = Act.mk #[Value.agg (ndC a).toArray, Value.agg (ndC b).toArray, Value.int IntKind.i64 ↑iN, Value.int IntKind.i64 ↑mN, Value.slice A n c, Value.slice A2 n2 c2, Value.pointer (some { block := w.heap.size, off := 0 }), Value.pointer (some { block := w.heap.size + 1, off := 0 }), undef, undef, undef, undef, u12, Value.pointer (some { block := U2.heap.size, off := 0 }), Value.int IntKind.i64 0, Value.pointer (some { block := U3.heap.size, off := 0 }), Value.int IntKind.i64 0, Value.slice (some ⟨g3, 0, none⟩) n3 c3, Value.slice (some ⟨g4, 0, none⟩) n3 c4, Value.int IntKind.i64 ↑j, fx 22, fx 23, Value.bool true, Value.bool false, Value.slice A n c, Value.int IntKind.i64 ↑n, Value.bool false, Value.bool false, Value.slice A2 n2 c2, Value.int IntKind.i64 ↑n2, Value.bool false, Value.bool false, Value.tuple #[ndV x, Value.int IntKind.i64 0], Value.agg (ndC a).toArray, Value.int IntKind.i64 ↑iN, Value.int IntKind.i64 ↑mN, Value.slice A n c, Value.tuple #[ndV x, Value.int IntKind.i64 0], ndV x, Value.int IntKind.i64 0, Value.tuple #[ndV y, Value.int IntKind.i64 0], Value.agg (ndC b).toArray, Value.int IntKind.i64 ↑iN, Value.int IntKind.i64 ↑mN, Value.slice A2 n2 c2, Value.tuple #[ndV y, Value.int IntKind.i64 0], ndV y, Value.int IntKind.i64 0, Value.int IntKind.i64 0, Value.bool false, Value.bool false, Value.int IntKind.i64 0, Value.bool false, Value.bool false, Value.bool false, Value.agg (ndC x).toArray, Value.agg (ndC y).toArray, Value.bool false, Value.bool false, Value.agg (ndC a).toArray, Value.agg (ndC b).toArray, Value.bool true, Value.bool true, Value.slice A n c, Value.slice A2 n2 c2, Value.bool false, Value.bool false, fo 0, fo 1, fo 2, fo 3, fo 4, fo 5, fo 6, fo 7, fo 8, fo 9, Value.slice (some ⟨g3, 0, none⟩) n3 c3, Value.int IntKind.i64 ↑n3, Value.slice (some ⟨g4, 0, none⟩) n3 c4, Value.int IntKind.i64 ↑n3, Value.bool false, Value.slice (some ⟨g3, 0, none⟩) n3 c3, Value.int IntKind.i64 ↑n3, Value.int IntKind.i64 ↑j, Value.bool true, Value.int IntKind.i64 ↑j, fx 0, fx 1, fx 2, fx 3, fx 4, fx 5, fx 6, fx 7, fx 8, fx 9, fx 10, fx 11, fx 12, fx 13, fx 14, ndV t1, fx 16, fx 17, fx 18, fx 19, fx 20, fx 21, u109, u110, u111, u112, u113, u114, u115, u116, u117, u118, u119] []; rw [h14] <;> rfl, hC, rfl, fun _ _ _ _ _ h => h⟩
                        · go_wp2_with fail
                          exact ⟨_, rfl, hC, rfl, fun _ _ _ _ _ h => h⟩
                        · go_wp2_with fail
                          exact ⟨_, rfl, hC, rfl, fun _ _ _ _ _ h => h⟩
                        · have h16 : fx 16 = Value.slice (some ⟨g4, 0, none⟩) n3 c4 := hd.1 rfl
                          have h17 : fx 17 = Value.int .i64 ((j : Nat)) := hd.2.1 rfl
                          go_wp2_with fail
                          exact ⟨_, by show _ = Act.mk #[Value.agg (ndC a).toArray, Value.agg (ndC b).toArray, Value.int IntKind.i64 ↑iN, Value.int IntKind.i64 ↑mN, Value.slice A n c, Value.slice A2 n2 c2, Value.pointer (some { block := w.heap.size, off := 0 }), Value.pointer (some { block := w.heap.size + 1, off := 0 }), undef, undef, undef, undef, u12, Value.pointer (some { block := U2.heap.size, off := 0 }), Value.int IntKind.i64 0, Value.pointer (some { block := U3.heap.size, off := 0 }), Value.int IntKind.i64 0, Value.slice (some ⟨g3, 0, none⟩) n3 c3, Value.slice (some ⟨g4, 0, none⟩) n3 c4, Value.int IntKind.i64 ↑j, fx 22, fx 23, Value.bool true, Value.bool false, Value.slice A n c, Value.int IntKind.i64 ↑n, Value.bool false, Value.bool false, Value.slice A2 n2 c2, Value.int IntKind.i64 ↑n2, Value.bool false, Value.bool false, Value.tuple #[ndV x, Value.int IntKind.i64 0], Value.agg (ndC a).toArray, Value.int IntKind.i64 ↑iN, Value.int IntKind.i64 ↑mN, Value.slice A n c, Value.tuple #[ndV x, Value.int IntKind.i64 0], ndV x, Value.int IntKind.i64 0, Value.tuple #[ndV y, Value.int IntKind.i64 0], Value.agg (ndC b).toArray, Value.int IntKind.i64 ↑iN, Value.int IntKind.i64 ↑mN, Value.slice A2 n2 c2, Value.tuple #[ndV y, Value.int IntKind.i64 0], ndV y, Value.int IntKind.i64 0, Value.int IntKind.i64 0, Value.bool false, Value.bool false, Value.int IntKind.i64 0, Value.bool false, Value.bool false, Value.bool false, Value.agg (ndC x).toArray, Value.agg (ndC y).toArray, Value.bool false, Value.bool false, Value.agg (ndC a).toArray, Value.agg (ndC b).toArray, Value.bool true, Value.bool true, Value.slice A n c, Value.slice A2 n2 c2, Value.bool false, Value.bool false, fo 0, fo 1, fo 2, fo 3, fo 4, fo 5, fo 6, fo 7, fo 8, fo 9, Value.slice (some ⟨g3, 0, none⟩) n3 c3, Value.int IntKind.i64 ↑n3, Value.slice (some ⟨g4, 0, none⟩) n3 c4, Value.int IntKind.i64 ↑n3, Value.bool false, Value.slice (some ⟨g3, 0, none⟩) n3 c3, Value.int IntKind.i64 ↑n3, Value.int IntKind.i64 ↑j, Value.bool true, Value.int IntKind.i64 ↑j, fx 0, fx 1, fx 2, fx 3, fx 4, fx 5, fx 6, fx 7, fx 8, fx 9, fx 10, fx 11, fx 12, fx 13, fx 14, fx 15, fx 16, fx 17, Value.pointer (some ⟨g4, j * 68, none⟩), fx 19, fx 20, fx 21, u109, u110, u111, u112, u113, u114, u115, u116, u117, u118, u119] []; rw [h16, h17] <;> rfl, hC, rfl, fun _ _ _ _ _ h => h⟩
                        · have h18 : fx 18 = Value.pointer (some ⟨g4, j * 68, none⟩) := hd.1 rfl
                          go_wp2_with fail
                          exact ⟨_, by show _ = Act.mk #[Value.agg (ndC a).toArray, Value.agg (ndC b).toArray, Value.int IntKind.i64 ↑iN, Value.int IntKind.i64 ↑mN, Value.slice A n c, Value.slice A2 n2 c2, Value.pointer (some { block := w.heap.size, off := 0 }), Value.pointer (some { block := w.heap.size + 1, off := 0 }), undef, undef, undef, undef, u12, Value.pointer (some { block := U2.heap.size, off := 0 }), Value.int IntKind.i64 0, Value.pointer (some { block := U3.heap.size, off := 0 }), Value.int IntKind.i64 0, Value.slice (some ⟨g3, 0, none⟩) n3 c3, Value.slice (some ⟨g4, 0, none⟩) n3 c4, Value.int IntKind.i64 ↑j, fx 22, fx 23, Value.bool true, Value.bool false, Value.slice A n c, Value.int IntKind.i64 ↑n, Value.bool false, Value.bool false, Value.slice A2 n2 c2, Value.int IntKind.i64 ↑n2, Value.bool false, Value.bool false, Value.tuple #[ndV x, Value.int IntKind.i64 0], Value.agg (ndC a).toArray, Value.int IntKind.i64 ↑iN, Value.int IntKind.i64 ↑mN, Value.slice A n c, Value.tuple #[ndV x, Value.int IntKind.i64 0], ndV x, Value.int IntKind.i64 0, Value.tuple #[ndV y, Value.int IntKind.i64 0], Value.agg (ndC b).toArray, Value.int IntKind.i64 ↑iN, Value.int IntKind.i64 ↑mN, Value.slice A2 n2 c2, Value.tuple #[ndV y, Value.int IntKind.i64 0], ndV y, Value.int IntKind.i64 0, Value.int IntKind.i64 0, Value.bool false, Value.bool false, Value.int IntKind.i64 0, Value.bool false, Value.bool false, Value.bool false, Value.agg (ndC x).toArray, Value.agg (ndC y).toArray, Value.bool false, Value.bool false, Value.agg (ndC a).toArray, Value.agg (ndC b).toArray, Value.bool true, Value.bool true, Value.slice A n c, Value.slice A2 n2 c2, Value.bool false, Value.bool false, fo 0, fo 1, fo 2, fo 3, fo 4, fo 5, fo 6, fo 7, fo 8, fo 9, Value.slice (some ⟨g3, 0, none⟩) n3 c3, Value.int IntKind.i64 ↑n3, Value.slice (some ⟨g4, 0, none⟩) n3 c4, Value.int IntKind.i64 ↑n3, Value.bool false, Value.slice (some ⟨g3, 0, none⟩) n3 c3, Value.int IntKind.i64 ↑n3, Value.int IntKind.i64 ↑j, Value.bool true, Value.int IntKind.i64 ↑j, fx 0, fx 1, fx 2, fx 3, fx 4, fx 5, fx 6, fx 7, fx 8, fx 9, fx 10, fx 11, fx 12, fx 13, fx 14, fx 15, fx 16, fx 17, fx 18, Value.pointer (some ⟨g4, j * 68 + 34, none⟩), fx 20, fx 21, u109, u110, u111, u112, u113, u114, u115, u116, u117, u118, u119] []; rw [h18] <;> rfl, hC, rfl, fun _ _ _ _ _ h => h⟩
                        · have h19 : fx 19 = Value.pointer (some ⟨g4, j * 68 + 34, none⟩) := hd.1 rfl
                          have hrg := rangeAt_below HRB2.out HG4.out hC
                          refine wpList_load_mid rfl 26 (.tmp 106) rfl g4 (j * 68 + 34) h19 (ndC t2) _ hrg Tryd.underlying26 rfl (size34 HT2.out) ?_
                          clear hd
                          go_wp2_with fail
                          exact ⟨_, by show _ = Act.mk #[Value.agg (ndC a).toArray, Value.agg (ndC b).toArray, Value.int IntKind.i64 ↑iN, Value.int IntKind.i64 ↑mN, Value.slice A n c, Value.slice A2 n2 c2, Value.pointer (some { block := w.heap.size, off := 0 }), Value.pointer (some { block := w.heap.size + 1, off := 0 }), undef, undef, undef, undef, u12, Value.pointer (some { block := U2.heap.size, off := 0 }), Value.int IntKind.i64 0, Value.pointer (some { block := U3.heap.size, off := 0 }), Value.int IntKind.i64 0, Value.slice (some ⟨g3, 0, none⟩) n3 c3, Value.slice (some ⟨g4, 0, none⟩) n3 c4, Value.int IntKind.i64 ↑j, fx 22, fx 23, Value.bool true, Value.bool false, Value.slice A n c, Value.int IntKind.i64 ↑n, Value.bool false, Value.bool false, Value.slice A2 n2 c2, Value.int IntKind.i64 ↑n2, Value.bool false, Value.bool false, Value.tuple #[ndV x, Value.int IntKind.i64 0], Value.agg (ndC a).toArray, Value.int IntKind.i64 ↑iN, Value.int IntKind.i64 ↑mN, Value.slice A n c, Value.tuple #[ndV x, Value.int IntKind.i64 0], ndV x, Value.int IntKind.i64 0, Value.tuple #[ndV y, Value.int IntKind.i64 0], Value.agg (ndC b).toArray, Value.int IntKind.i64 ↑iN, Value.int IntKind.i64 ↑mN, Value.slice A2 n2 c2, Value.tuple #[ndV y, Value.int IntKind.i64 0], ndV y, Value.int IntKind.i64 0, Value.int IntKind.i64 0, Value.bool false, Value.bool false, Value.int IntKind.i64 0, Value.bool false, Value.bool false, Value.bool false, Value.agg (ndC x).toArray, Value.agg (ndC y).toArray, Value.bool false, Value.bool false, Value.agg (ndC a).toArray, Value.agg (ndC b).toArray, Value.bool true, Value.bool true, Value.slice A n c, Value.slice A2 n2 c2, Value.bool false, Value.bool false, fo 0, fo 1, fo 2, fo 3, fo 4, fo 5, fo 6, fo 7, fo 8, fo 9, Value.slice (some ⟨g3, 0, none⟩) n3 c3, Value.int IntKind.i64 ↑n3, Value.slice (some ⟨g4, 0, none⟩) n3 c4, Value.int IntKind.i64 ↑n3, Value.bool false, Value.slice (some ⟨g3, 0, none⟩) n3 c3, Value.int IntKind.i64 ↑n3, Value.int IntKind.i64 ↑j, Value.bool true, Value.int IntKind.i64 ↑j, fx 0, fx 1, fx 2, fx 3, fx 4, fx 5, fx 6, fx 7, fx 8, fx 9, fx 10, fx 11, fx 12, fx 13, fx 14, fx 15, fx 16, fx 17, fx 18, fx 19, ndV t2, fx 21, u109, u110, u111, u112, u113, u114, u115, u116, u117, u118, u119] []; rw [h19] <;> rfl, hC, rfl, fun _ _ _ _ _ h => h⟩
                        · have h15 : fx 15 = ndV t1 := hd.1 rfl
                          have h20 : fx 20 = ndV t2 := hd.2.1 rfl
                          go_wp2_with fail
                          refine (joined_any t1 t2 w' HT1 HT2).mono ?_
                          rintro e w3 ⟨s, rfl, hs, hq⟩
                          obtain rfl : sB = s := by rw [← HSB.out, ← hs, bstr_strL]
                          clear hs
                          go_wp2_with fail
                          exact ⟨_, by show _ = Act.mk #[Value.agg (ndC a).toArray, Value.agg (ndC b).toArray, Value.int IntKind.i64 ↑iN, Value.int IntKind.i64 ↑mN, Value.slice A n c, Value.slice A2 n2 c2, Value.pointer (some { block := w.heap.size, off := 0 }), Value.pointer (some { block := w.heap.size + 1, off := 0 }), undef, undef, undef, undef, u12, Value.pointer (some { block := U2.heap.size, off := 0 }), Value.int IntKind.i64 0, Value.pointer (some { block := U3.heap.size, off := 0 }), Value.int IntKind.i64 0, Value.slice (some ⟨g3, 0, none⟩) n3 c3, Value.slice (some ⟨g4, 0, none⟩) n3 c4, Value.int IntKind.i64 ↑j, fx 22, fx 23, Value.bool true, Value.bool false, Value.slice A n c, Value.int IntKind.i64 ↑n, Value.bool false, Value.bool false, Value.slice A2 n2 c2, Value.int IntKind.i64 ↑n2, Value.bool false, Value.bool false, Value.tuple #[ndV x, Value.int IntKind.i64 0], Value.agg (ndC a).toArray, Value.int IntKind.i64 ↑iN, Value.int IntKind.i64 ↑mN, Value.slice A n c, Value.tuple #[ndV x, Value.int IntKind.i64 0], ndV x, Value.int IntKind.i64 0, Value.tuple #[ndV y, Value.int IntKind.i64 0], Value.agg (ndC b).toArray, Value.int IntKind.i64 ↑iN, Value.int IntKind.i64 ↑mN, Value.slice A2 n2 c2, Value.tuple #[ndV y, Value.int IntKind.i64 0], ndV y, Value.int IntKind.i64 0, Value.int IntKind.i64 0, Value.bool false, Value.bool false, Value.int IntKind.i64 0, Value.bool false, Value.bool false, Value.bool false, Value.agg (ndC x).toArray, Value.agg (ndC y).toArray, Value.bool false, Value.bool false, Value.agg (ndC a).toArray, Value.agg (ndC b).toArray, Value.bool true, Value.bool true, Value.slice A n c, Value.slice A2 n2 c2, Value.bool false, Value.bool false, fo 0, fo 1, fo 2, fo 3, fo 4, fo 5, fo 6, fo 7, fo 8, fo 9, Value.slice (some ⟨g3, 0, none⟩) n3 c3, Value.int IntKind.i64 ↑n3, Value.slice (some ⟨g4, 0, none⟩) n3 c4, Value.int IntKind.i64 ↑n3, Value.bool false, Value.slice (some ⟨g3, 0, none⟩) n3 c3, Value.int IntKind.i64 ↑n3, Value.int IntKind.i64 ↑j, Value.bool true, Value.int IntKind.i64 ↑j, fx 0, fx 1, fx 2, fx 3, fx 4, fx 5, fx 6, fx 7, fx 8, fx 9, fx 10, fx 11, fx 12, fx 13, fx 14, fx 15, fx 16, fx 17, fx 18, fx 19, fx 20, Value.string sB, u109, u110, u111, u112, u113, u114, u115, u116, u117, u118, u119] []; rw [h15, h20] <;> rfl, hC.trans (hq.mono hC.size), rfl, fun j v t _ _ h => wB17_below hq j v h⟩
                        · have h10 : fx 10 = Value.string sA := hd.1 rfl
                          go_wp2_with fail
                          exact ⟨_, by show _ = Act.mk #[Value.agg (ndC a).toArray, Value.agg (ndC b).toArray, Value.int IntKind.i64 ↑iN, Value.int IntKind.i64 ↑mN, Value.slice A n c, Value.slice A2 n2 c2, Value.pointer (some { block := w.heap.size, off := 0 }), Value.pointer (some { block := w.heap.size + 1, off := 0 }), undef, undef, undef, undef, u12, Value.pointer (some { block := U2.heap.size, off := 0 }), Value.int IntKind.i64 0, Value.pointer (some { block := U3.heap.size, off := 0 }), Value.int IntKind.i64 0, Value.slice (some ⟨g3, 0, none⟩) n3 c3, Value.slice (some ⟨g4, 0, none⟩) n3 c4, Value.int IntKind.i64 ↑j, Value.string sA, fx 23, Value.bool true, Value.bool false, Value.slice A n c, Value.int IntKind.i64 ↑n, Value.bool false, Value.bool false, Value.slice A2 n2 c2, Value.int IntKind.i64 ↑n2, Value.bool false, Value.bool false, Value.tuple #[ndV x, Value.int IntKind.i64 0], Value.agg (ndC a).toArray, Value.int IntKind.i64 ↑iN, Value.int IntKind.i64 ↑mN, Value.slice A n c, Value.tuple #[ndV x, Value.int IntKind.i64 0], ndV x, Value.int IntKind.i64 0, Value.tuple #[ndV y, Value.int IntKind.i64 0], Value.agg (ndC b).toArray, Value.int IntKind.i64 ↑iN, Value.int IntKind.i64 ↑mN, Value.slice A2 n2 c2, Value.tuple #[ndV y, Value.int IntKind.i64 0], ndV y, Value.int IntKind.i64 0, Value.int IntKind.i64 0, Value.bool false, Value.bool false, Value.int IntKind.i64 0, Value.bool false, Value.bool false, Value.bool false, Value.agg (ndC x).toArray, Value.agg (ndC y).toArray, Value.bool false, Value.bool false, Value.agg (ndC a).toArray, Value.agg (ndC b).toArray, Value.bool true, Value.bool true, Value.slice A n c, Value.slice A2 n2 c2, Value.bool false, Value.bool false, fo 0, fo 1, fo 2, fo 3, fo 4, fo 5, fo 6, fo 7, fo 8, fo 9, Value.slice (some ⟨g3, 0, none⟩) n3 c3, Value.int IntKind.i64 ↑n3, Value.slice (some ⟨g4, 0, none⟩) n3 c4, Value.int IntKind.i64 ↑n3, Value.bool false, Value.slice (some ⟨g3, 0, none⟩) n3 c3, Value.int IntKind.i64 ↑n3, Value.int IntKind.i64 ↑j, Value.bool true, Value.int IntKind.i64 ↑j, fx 0, fx 1, fx 2, fx 3, fx 4, fx 5, fx 6, fx 7, fx 8, fx 9, fx 10, fx 11, fx 12, fx 13, fx 14, fx 15, fx 16, fx 17, fx 18, fx 19, fx 20, fx 21, u109, u110, u111, u112, u113, u114, u115, u116, u117, u118, u119] []; rw [h10] <;> rfl, hC, rfl, fun _ _ _ _ _ h => h⟩
                        · have h21 : fx 21 = Value.string sB := hd.1 rfl
                          go_wp2_with fail
                          exact ⟨_, by show _ = Act.mk #[Value.agg (ndC a).toArray, Value.agg (ndC b).toArray, Value.int IntKind.i64 ↑iN, Value.int IntKind.i64 ↑mN, Value.slice A n c, Value.slice A2 n2 c2, Value.pointer (some { block := w.heap.size, off := 0 }), Value.pointer (some { block := w.heap.size + 1, off := 0 }), undef, undef, undef, undef, u12, Value.pointer (some { block := U2.heap.size, off := 0 }), Value.int IntKind.i64 0, Value.pointer (some { block := U3.heap.size, off := 0 }), Value.int IntKind.i64 0, Value.slice (some ⟨g3, 0, none⟩) n3 c3, Value.slice (some ⟨g4, 0, none⟩) n3 c4, Value.int IntKind.i64 ↑j, fx 22, Value.string sB, Value.bool true, Value.bool false, Value.slice A n c, Value.int IntKind.i64 ↑n, Value.bool false, Value.bool false, Value.slice A2 n2 c2, Value.int IntKind.i64 ↑n2, Value.bool false, Value.bool false, Value.tuple #[ndV x, Value.int IntKind.i64 0], Value.agg (ndC a).toArray, Value.int IntKind.i64 ↑iN, Value.int IntKind.i64 ↑mN, Value.slice A n c, Value.tuple #[ndV x, Value.int IntKind.i64 0], ndV x, Value.int IntKind.i64 0, Value.tuple #[ndV y, Value.int IntKind.i64 0], Value.agg (ndC b).toArray, Value.int IntKind.i64 ↑iN, Value.int IntKind.i64 ↑mN, Value.slice A2 n2 c2, Value.tuple #[ndV y, Value.int IntKind.i64 0], ndV y, Value.int IntKind.i64 0, Value.int IntKind.i64 0, Value.bool false, Value.bool false, Value.int IntKind.i64 0, Value.bool false, Value.bool false, Value.bool false, Value.agg (ndC x).toArray, Value.agg (ndC y).toArray, Value.bool false, Value.bool false, Value.agg (ndC a).toArray, Value.agg (ndC b).toArray, Value.bool true, Value.bool true, Value.slice A n c, Value.slice A2 n2 c2, Value.bool false, Value.bool false, fo 0, fo 1, fo 2, fo 3, fo 4, fo 5, fo 6, fo 7, fo 8, fo 9, Value.slice (some ⟨g3, 0, none⟩) n3 c3, Value.int IntKind.i64 ↑n3, Value.slice (some ⟨g4, 0, none⟩) n3 c4, Value.int IntKind.i64 ↑n3, Value.bool false, Value.slice (some ⟨g3, 0, none⟩) n3 c3, Value.int IntKind.i64 ↑n3, Value.int IntKind.i64 ↑j, Value.bool true, Value.int IntKind.i64 ↑j, fx 0, fx 1, fx 2, fx 3, fx 4, fx 5, fx 6, fx 7, fx 8, fx 9, fx 10, fx 11, fx 12, fx 13, fx 14, fx 15, fx 16, fx 17, fx 18, fx 19, fx 20, fx 21, u109, u110, u111, u112, u113, u114, u115, u116, u117, u118, u119] []; rw [h21] <;> rfl, hC, rfl, fun _ _ _ _ _ h => h⟩
                      · intro L fe w' hC hS
                        have H22 := Lib.hid (hS 22 (by decide) rfl)
                        have H23 := Lib.hid (hS 23 (by decide) rfl)
                        have h22 : fe 22 = Value.string sA := hS 22 (by decide) rfl
                        have h23 : fe 23 = Value.string sB := hS 23 (by decide) rfl
                        have hbe := hC
                        rw [h22, h23]
                        clear hS hC h22 h23
                        by_cases hst : sA = sB
                        · subst hst
                          have HJE : Hid (jstr r1 r2 = jstr t1 t2) := Lib.hid (by
                            rw [← strL_bstr (jstr_bytes HR1.out HR2.out), ← strL_bstr (jstr_bytes HT1.out HT2.out), HSA.out, HSB.out])
                          have HBN : Hid (bindsB (LA.drop (j + 1)) (LB.drop (j + 1)) = true) := Lib.hid (by
                            have h := HBJ.out
                            rw [HDA.out, HDB.out] at h
                            unfold bindsB at h
                            rw [if_pos HJE.out] at h
                            exact h)
                          have HBQ2 := Lib.hid (HBQ.out.trans (hbe.mono HBQ.out.size))
                          clear hbe
                          go_wp2_with fail
                          go_roundw
                          case rel => exact ⟨j + 1, by omega, by go_num, HBN, HBQ2⟩
                          case measure => first | (simp [intOf]; done) | (simp [intOf]; omega)
                        · have ds : (sA.toList == sB.toList) = false := by
                            rw [ByteArray.toList_eq, ByteArray.toList_eq]
                            exact beq_false_of_ne (fun h => hst (ByteArray.ext (Array.toList_inj.1 h)))
                          have kc := fun (W : World) (s : ByteArray) => Lib.run_convert_string_bytes (P := Tryd.prog) W 9 43 5 s Tryd.underlying9 Tryd.underlying43 Tryd.underlying5
                          have HSL : Hid (sA.size ≤ 1000 ∧ sB.size ≤ 1000 ∧ strL sA = jstr r1 r2 ∧ strL sB = jstr t1 t2) := Lib.hid (by
                            have l1 : ∀ u v : Nd, NdOk u → NdOk v → (jstr u v).length ≤ 1000 := fun u v hu hv => by
                              unfold jstr
                              have := encI_length [u.c, u.p, v.c, v.p]
                              simp only [List.length_append, hu.len, hv.len, List.length_cons, List.length_nil] at *
                              omega
                            refine ⟨by rw [← HSA.out, bstr_size]; exact l1 _ _ HR1.out HR2.out, by rw [← HSB.out, bstr_size]; exact l1 _ _ HT1.out HT2.out, by rw [← HSA.out]; exact strL_bstr (jstr_bytes HR1.out HR2.out), by rw [← HSB.out]; exact strL_bstr (jstr_bytes HT1.out HT2.out)⟩)
                          have HEQ : Hid (tagged sumT (strL sA) = tagged sumT (strL sB)) := Lib.hid (by
                            have h := HBJ.out
                            rw [HDA.out, HDB.out] at h
                            unfold bindsB at h
                            rw [if_neg (fun e => hst (by rw [← HSA.out, ← HSB.out]; exact congrArg bstr e))] at h
                            rw [HSL.out.2.2.1, HSL.out.2.2.2]
                            exact of_decide_eq_true h)
                          have HBA := Lib.hid ((HBV.out.trans (HBQ.out.mono HBV.out.size)).trans (hbe.mono (Nat.le_trans HBV.out.size HBQ.out.size)))
                          obtain ⟨D, HD⟩ : ∃ D, Hid (tagged (strL sumTag) (strL sA) = D ∧ tagged (strL sumTag) (strL sB) = D ∧ D.length = 32 ∧ Bytes D) := ⟨_, Lib.hid ⟨rfl, by rw [sumTag_eq]; exact HEQ.out.symm, tagged_length _ _, tagged_bytes _ _⟩⟩
                          clear hbe
                          have kc2 := fun (a b : Operand) (X : World) => guard_dg .eql a b D D X
                          go_wp2_with fail
                          refine (tagged_any sumTag _ _ _ (strL sA) _ (by decide) (Lib.hid (strL_length sA)) (grownCap_ge _ _ _ _) (fun e => by cases e) (by have := HSL.out.1; omega) (Lib.hid (strL_bytes sA)) (Lib.hid (hT.out.below (HBA.out.trans ((Go.Joins.below_bytesWorld _ _ _ _ (Nat.le_refl _)).mono HBA.out.size)))) (Lib.hid (conv_rd _ sA))).mono ?_
                          rintro e X1 ⟨rfl, hq1⟩
                          rw [HD.out.1]
                          have HBC := Lib.hid ((HBA.out.trans ((Go.Joins.below_bytesWorld _ _ _ _ (Nat.le_refl _)).mono HBA.out.size)).trans (hq1.mono (Nat.le_trans HBA.out.size (Go.Joins.below_bytesWorld _ _ _ _ (Nat.le_refl _)).size)))
                          clear hq1
                          go_wp2_with fail
                          refine (tagged_any sumTag _ _ _ (strL sB) _ (by decide) (Lib.hid (strL_length sB)) (grownCap_ge _ _ _ _) (fun e => by cases e) (by have := HSL.out.2.1; omega) (Lib.hid (strL_bytes sB)) (Lib.hid (hT.out.below (HBC.out.trans ((Go.Joins.below_bytesWorld _ _ _ _ (Nat.le_refl _)).mono HBC.out.size)))) (Lib.hid (conv_rd _ sB))).mono ?_
                          rintro e X2 ⟨rfl, hq2⟩
                          rw [HD.out.2.1]
                          have HBD := Lib.hid ((HBC.out.trans ((Go.Joins.below_bytesWorld _ _ _ _ (Nat.le_refl _)).mono HBC.out.size)).trans (hq2.mono (Nat.le_trans HBC.out.size (Go.Joins.below_bytesWorld _ _ _ _ (Nat.le_refl _)).size)))
                          clear hq2
                          have HDD : Hid ((D == D) = true) := Lib.hid (by simp)
                          go_wp2_with (refine wpList_eql_dg rfl (.tmp 114) (.tmp 117) _ rfl D D rfl rfl HD.out.2.2.1 HD.out.2.2.1 HD.out.2.2.2 HD.out.2.2.2 ?_; rw [HDD.out])
                          go_ret
                          exact ⟨rfl, HBD.out⟩
                    · exfalso
                      have h := HBJ.out
                      rw [List.drop_eq_nil_of_le (by rw [HLAn.out]; omega)] at h
                      cases h
            · have HAB : Hid (ndEq a b = false) := Lib.hid (by simpa using hab)
              clear hab
              go_wp2_with (first | (refine wpList_store_row rfl 26 (.tmp 15) (.tmp 46) rfl U3.heap.size (ndC y).toArray rfl rfl 26 _ HZ3.out (size34' HYO.out) HT3.out (ndC_one y) ?_; rw [HV3.out]) | (refine wpList_unguard rfl ?_; refine wpList_load_row rfl 26 (.tmp 13) rfl U2.heap.size rfl 26 _ (0, 0) _ R13_5.out Tryd.underlying26 rfl (size34' HXO.out) ?_) | (refine wpList_unguard rfl ?_; refine wpList_load_row rfl 26 (.tmp 15) rfl U3.heap.size rfl 26 _ (0, 0) _ R15_n.out Tryd.underlying26 rfl (size34' HYO.out) ?_) | (refine wpList_load_row rfl 26 (.tmp 6) rfl w.heap.size rfl 26 _ (0, 0) _ R6_5.out Tryd.underlying26 rfl (size34' HA.out) ?_) | (refine wpList_load_row rfl 26 (.tmp 7) rfl (w.heap.size + 1) rfl 26 _ (0, 0) _ R7_5.out Tryd.underlying26 rfl (size34' HBo.out) ?_) | (refine wpList_unguard rfl ?_; refine wpList_neq_nd rfl (.tmp 55) (.tmp 56) _ rfl x y rfl rfl HXO.out HYO.out ?_; rw [HXY.out]) | (refine wpList_eql_nd rfl (.tmp 59) (.tmp 60) _ rfl a b rfl rfl HA.out HBo.out ?_; rw [HAB.out]))
              obtain ⟨LA, HLA⟩ : ∃ l, Hid (sidesQ a iN mN ps = l) := ⟨_, Lib.hid rfl⟩
              obtain ⟨LB, HLB⟩ : ∃ l, Hid (sidesQ b iN mN qs = l) := ⟨_, Lib.hid rfl⟩
              have HLAO : Hid (∀ x ∈ LA, PrOk x) := Lib.hid (by rw [← HLA.out]; exact sidesQ_ok HA.out HP.out.ok)
              have HLBO : Hid (∀ x ∈ LB, PrOk x) := Lib.hid (by rw [← HLB.out]; exact sidesQ_ok HBo.out HQ.out.ok)
              have HLN : Hid (LA.length = LB.length ∧ LA.length ≤ 4096) := Lib.hid (by rw [← HLA.out, ← HLB.out, sidesQ_length, sidesQ_length]; have := dirsN_length iN mN; exact ⟨rfl, by omega⟩)
              have HBI : Hid (bindsB LA LB = true) := Lib.hid (by
                rw [← HLA.out, ← HLB.out]
                refine binds_any zeroN (dirsN iN mN) a b ps qs x HL1.out HL2.out HA.out.len HBo.out.len (fun z hz => (HP.out.ok z hz).len) (fun z hz => (HQ.out.ok z hz).len) HC1.out (by rw [HC2.out, (ndEq_iff x y).1 HXY.out]) ?_
                intro h
                have h1 := HAB.out; rw [(ndEq_iff a b).2 h.1] at h1; cases h1)
              refine region_flow3 (by kernel_rfl) (by kernel_rfl) (fun i => Nat.beq i 10 || Nat.beq i 11) (fun i => i) (by kernel_rfl) (fun fx => #[Value.agg (ndC a).toArray, Value.agg (ndC b).toArray, Value.int IntKind.i64 ↑iN, Value.int IntKind.i64 ↑mN, Value.slice A n c, Value.slice A2 n2 c2, Value.pointer (some { block := w.heap.size, off := 0 }), Value.pointer (some { block := w.heap.size + 1, off := 0 }), undef, undef, undef, undef, Value.bool false, Value.pointer (some { block := U2.heap.size, off := 0 }), Value.int IntKind.i64 0, Value.pointer (some { block := U3.heap.size, off := 0 }), Value.int IntKind.i64 0, fx 10, fx 11, undef, undef, undef, Value.bool true, Value.bool false, Value.slice A n c, Value.int IntKind.i64 ↑n, Value.bool false, Value.bool false, Value.slice A2 n2 c2, Value.int IntKind.i64 ↑n2, Value.bool false, Value.bool false, Value.tuple #[ndV x, Value.int IntKind.i64 0], Value.agg (ndC a).toArray, Value.int IntKind.i64 ↑iN, Value.int IntKind.i64 ↑mN, Value.slice A n c, Value.tuple #[ndV x, Value.int IntKind.i64 0], ndV x, Value.int IntKind.i64 0, Value.tuple #[ndV y, Value.int IntKind.i64 0], Value.agg (ndC b).toArray, Value.int IntKind.i64 ↑iN, Value.int IntKind.i64 ↑mN, Value.slice A2 n2 c2, Value.tuple #[ndV y, Value.int IntKind.i64 0], ndV y, Value.int IntKind.i64 0, Value.int IntKind.i64 0, Value.bool false, Value.bool false, Value.int IntKind.i64 0, Value.bool false, Value.bool false, Value.bool false, Value.agg (ndC x).toArray, Value.agg (ndC y).toArray, Value.bool false, Value.bool false, Value.agg (ndC a).toArray, Value.agg (ndC b).toArray, Value.bool false, Value.bool false, undef, undef, undef, Value.bool false, fx 0, fx 1, fx 2, fx 3, fx 4, fx 5, fx 6, fx 7, fx 8, fx 9, undef, undef, undef, undef, undef, undef, undef, undef, undef, undef, undef, undef, undef, undef, undef, undef, undef, undef, undef, undef, undef, undef, undef, undef, undef, undef, undef, undef, undef, undef, undef, undef, undef, undef, undef, undef, undef, undef, undef, undef, undef, undef, undef]) (fun _ => undef) (fun L fx w' => Below V3.heap.size V3 w') (fun fi fv _ fw => wB11 V3.heap.size a b iN mN A n c A2 n2 c2 LA LB fi fv fw) (Below.refl _ _).drew ?_ ?_
              · refine ⟨?_, ?_, ?_, ?_, ?_, ?_, ?_, ?_, ?_, ?_, ?_, ?_, trivial⟩
                all_goals intro L fx w' hC hi hcl hdn hd
                · have hrow := row_kept R6_5.out hC
                  refine wpList_load_row rfl 26 (.tmp 6) rfl w.heap.size rfl 26 _ (0, 0) _ hrow Tryd.underlying26 rfl (size34' HA.out) ?_
                  clear hd
                  go_wp2_with fail
                  exact ⟨_, rfl, hC, rfl, fun _ _ _ _ _ h => h⟩
                · go_wp2_with fail
                  exact ⟨_, rfl, hC, rfl, fun _ _ _ _ _ h => h⟩
                · go_wp2_with fail
                  exact ⟨_, rfl, hC, rfl, fun _ _ _ _ _ h => h⟩
                · go_wp2_with fail
                  exact ⟨_, rfl, hC, rfl, fun _ _ _ _ _ h => h⟩
                · have h0 : fx 0 = ndV a := hd.1 rfl
                  have h1 : fx 1 = Value.int .i64 ((iN : Nat)) := hd.2.1 rfl
                  have h2 : fx 2 = Value.int .i64 ((mN : Nat)) := hd.2.2.1 rfl
                  have h3 : fx 3 = Value.slice A n c := hd.2.2.2.1 rfl
                  have HTk := Lib.hid (hT.out.below (HB5.out.trans (hC.mono HB5.out.size)))
                  have HIk := Lib.hid (HP0_5.out.below hC)
                  go_wp2_with fail
                  refine (sides_any 4096 iN mN a ps A n c w' hm4 hm1 hm4 him HL1 HA HV1 HIk HTk).mono ?_
                  rintro e w3 ⟨v2, rfl, ho, hq⟩
                  rw [HLA.out] at ho
                  have HOV := Lib.hid ho
                  clear ho
                  go_wp2_with fail
                  exact ⟨v2, by show _ = Act.mk #[Value.agg (ndC a).toArray, Value.agg (ndC b).toArray, Value.int IntKind.i64 ↑iN, Value.int IntKind.i64 ↑mN, Value.slice A n c, Value.slice A2 n2 c2, Value.pointer (some { block := w.heap.size, off := 0 }), Value.pointer (some { block := w.heap.size + 1, off := 0 }), undef, undef, undef, undef, Value.bool false, Value.pointer (some { block := U2.heap.size, off := 0 }), Value.int IntKind.i64 0, Value.pointer (some { block := U3.heap.size, off := 0 }), Value.int IntKind.i64 0, fx 10, fx 11, undef, undef, undef, Value.bool true, Value.bool false, Value.slice A n c, Value.int IntKind.i64 ↑n, Value.bool false, Value.bool false, Value.slice A2 n2 c2, Value.int IntKind.i64 ↑n2, Value.bool false, Value.bool false, Value.tuple #[ndV x, Value.int IntKind.i64 0], Value.agg (ndC a).toArray, Value.int IntKind.i64 ↑iN, Value.int IntKind.i64 ↑mN, Value.slice A n c, Value.tuple #[ndV x, Value.int IntKind.i64 0], ndV x, Value.int IntKind.i64 0, Value.tuple #[ndV y, Value.int IntKind.i64 0], Value.agg (ndC b).toArray, Value.int IntKind.i64 ↑iN, Value.int IntKind.i64 ↑mN, Value.slice A2 n2 c2, Value.tuple #[ndV y, Value.int IntKind.i64 0], ndV y, Value.int IntKind.i64 0, Value.int IntKind.i64 0, Value.bool false, Value.bool false, Value.int IntKind.i64 0, Value.bool false, Value.bool false, Value.bool false, Value.agg (ndC x).toArray, Value.agg (ndC y).toArray, Value.bool false, Value.bool false, Value.agg (ndC a).toArray, Value.agg (ndC b).toArray, Value.bool false, Value.bool false, undef, undef, undef, Value.bool false, fx 0, fx 1, fx 2, fx 3, v2, fx 5, fx 6, fx 7, fx 8, fx 9, undef, undef, undef, undef, undef, undef, undef, undef, undef, undef, undef, undef, undef, undef, undef, undef, undef, undef, undef, undef, undef, undef, undef, undef, undef, undef, undef, undef, undef, undef, undef, undef, undef, undef, undef, undef, undef, undef, undef, undef, undef, undef, undef] []; rw [h0, h1, h2, h3] <;> rfl, hC.trans (hq.mono hC.size), HOV.out.mono hC.size, fun j v t _ _ h => wB11_below hq j v h⟩
                · have hrow := row_kept R7_5.out hC
                  refine wpList_load_row rfl 26 (.tmp 7) rfl (w.heap.size + 1) rfl 26 _ (0, 0) _ hrow Tryd.underlying26 rfl (size34' HBo.out) ?_
                  clear hd
                  go_wp2_with fail
                  exact ⟨_, rfl, hC, rfl, fun _ _ _ _ _ h => h⟩
                · go_wp2_with fail
                  exact ⟨_, rfl, hC, rfl, fun _ _ _ _ _ h => h⟩
                · go_wp2_with fail
                  exact ⟨_, rfl, hC, rfl, fun _ _ _ _ _ h => h⟩
                · go_wp2_with fail
                  exact ⟨_, rfl, hC, rfl, fun _ _ _ _ _ h => h⟩
                · have h5 : fx 5 = ndV b := hd.1 rfl
                  have h6 : fx 6 = Value.int .i64 ((iN : Nat)) := hd.2.1 rfl
                  have h7 : fx 7 = Value.int .i64 ((mN : Nat)) := hd.2.2.1 rfl
                  have h8 : fx 8 = Value.slice A2 n2 c2 := hd.2.2.2.1 rfl
                  have HTk := Lib.hid (hT.out.below (HB5.out.trans (hC.mono HB5.out.size)))
                  have HIk := Lib.hid (HQ0_5.out.below hC)
                  go_wp2_with fail
                  refine (sides_any 4096 iN mN b qs A2 n2 c2 w' hm4 hm1 hm4 him HL2 HBo HV2 HIk HTk).mono ?_
                  rintro e w3 ⟨v2, rfl, ho, hq⟩
                  rw [HLB.out] at ho
                  have HOV := Lib.hid ho
                  clear ho
                  go_wp2_with fail
                  exact ⟨v2, by show _ = Act.mk #[Value.agg (ndC a).toArray, Value.agg (ndC b).toArray, Value.int IntKind.i64 ↑iN, Value.int IntKind.i64 ↑mN, Value.slice A n c, Value.slice A2 n2 c2, Value.pointer (some { block := w.heap.size, off := 0 }), Value.pointer (some { block := w.heap.size + 1, off := 0 }), undef, undef, undef, undef, Value.bool false, Value.pointer (some { block := U2.heap.size, off := 0 }), Value.int IntKind.i64 0, Value.pointer (some { block := U3.heap.size, off := 0 }), Value.int IntKind.i64 0, fx 10, fx 11, undef, undef, undef, Value.bool true, Value.bool false, Value.slice A n c, Value.int IntKind.i64 ↑n, Value.bool false, Value.bool false, Value.slice A2 n2 c2, Value.int IntKind.i64 ↑n2, Value.bool false, Value.bool false, Value.tuple #[ndV x, Value.int IntKind.i64 0], Value.agg (ndC a).toArray, Value.int IntKind.i64 ↑iN, Value.int IntKind.i64 ↑mN, Value.slice A n c, Value.tuple #[ndV x, Value.int IntKind.i64 0], ndV x, Value.int IntKind.i64 0, Value.tuple #[ndV y, Value.int IntKind.i64 0], Value.agg (ndC b).toArray, Value.int IntKind.i64 ↑iN, Value.int IntKind.i64 ↑mN, Value.slice A2 n2 c2, Value.tuple #[ndV y, Value.int IntKind.i64 0], ndV y, Value.int IntKind.i64 0, Value.int IntKind.i64 0, Value.bool false, Value.bool false, Value.int IntKind.i64 0, Value.bool false, Value.bool false, Value.bool false, Value.agg (ndC x).toArray, Value.agg (ndC y).toArray, Value.bool false, Value.bool false, Value.agg (ndC a).toArray, Value.agg (ndC b).toArray, Value.bool false, Value.bool false, undef, undef, undef, Value.bool false, fx 0, fx 1, fx 2, fx 3, fx 4, fx 5, fx 6, fx 7, fx 8, v2, undef, undef, undef, undef, undef, undef, undef, undef, undef, undef, undef, undef, undef, undef, undef, undef, undef, undef, undef, undef, undef, undef, undef, undef, undef, undef, undef, undef, undef, undef, undef, undef, undef, undef, undef, undef, undef, undef, undef, undef, undef, undef, undef] []; rw [h5, h6, h7, h8] <;> rfl, hC.trans (hq.mono hC.size), HOV.out.mono hC.size, fun j v t _ _ h => wB11_below hq j v h⟩
                · have H4 := Lib.hid (hd.1 rfl)
                  go_wp2_with fail
                  exact ⟨_, rfl, hC, H4.out, fun j v t _ _ h => h⟩
                · have H9 := Lib.hid (hd.1 rfl)
                  go_wp2_with fail
                  exact ⟨_, rfl, hC, H9.out, fun j v t _ _ h => h⟩
              · intro L fo w' hC hS
                have H10 := Lib.hid (hS 10 (by decide) rfl)
                have H11 := Lib.hid (hS 11 (by decide) rfl)
                have hbq := hC
                obtain ⟨A3, n3, c3, e10, hin3⟩ := H10.out.slice HLAO.out
                obtain ⟨A4, n4, c4, e11, hin4⟩ := H11.out.slice HLBO.out
                obtain rfl : n3 = n4 := by rw [← hin3.len, ← hin4.len]; exact HLN.out.1
                have HI3 := Lib.hid hin3
                have HI4 := Lib.hid hin4
                have HLAn := Lib.hid hin3.len
                have HLBn := Lib.hid hin4.len
                have hn3 : n3 ≤ 4096 := by rw [← hin3.len]; exact HLN.out.2
                rw [e10, e11]
                clear hS hC H10 H11 e10 e11 hin3 hin4
                have HBV := Lib.hid (HB5.out.trans (hbq.mono HB5.out.size))
                clear hbq
                obtain ⟨WV, HWV⟩ : ∃ W, W = w' := ⟨_, rfl⟩
                subst HWV
                have dn : ((n3 : Int) != (n3 : Int)) = false := by simp
                go_wp2_with fail
                go_loopw [84] (fun v wr => ∃ j : Nat, j ≤ n3 ∧ v = .int .i64 (j : Nat) ∧ Hid (bindsB (LA.drop j) (LB.drop j) = true) ∧ Hid (Below WV.heap.size WV wr)) (fun v _ => n3 - (intOf v).toNat)
                case atStart => exact ⟨0, by omega, rfl, HBI, Lib.hid (Below.refl _ _)⟩
                case round =>
                  obtain ⟨j, hj, rfl, HBJ, HBQ⟩ := hrel
                  by_cases hlt : j < n3
                  · have d6 : decide ((j : Int) < (n3 : Int)) = true := decide_eq_true (by omega)
                    have d7 : decide (j < n3) = true := decide_eq_true hlt
                    obtain ⟨g3, r1, r2, rfl, hg3, hr1, hr2, hdA, hrA1, hrA2⟩ := pair_ranges HI3.out j hlt
                    obtain ⟨g4, t1, t2, rfl, hg4, ht1, ht2, hdB, hrB1, hrB2⟩ := pair_ranges HI4.out j hlt
                    have HR1 := Lib.hid hr1
                    have HR2 := Lib.hid hr2
                    have HT1 := Lib.hid ht1
                    have HT2 := Lib.hid ht2
                    have HDA := Lib.hid hdA
                    have HDB := Lib.hid hdB
                    have HRA1 := Lib.hid (rangeAt_below hrA1 hg3 HBQ.out)
                    have HRA2 := Lib.hid (rangeAt_below hrA2 hg3 HBQ.out)
                    have HRB1 := Lib.hid (rangeAt_below hrB1 hg4 HBQ.out)
                    have HRB2 := Lib.hid (rangeAt_below hrB2 hg4 HBQ.out)
                    have HG3 := Lib.hid (Nat.lt_of_lt_of_le hg3 HBQ.out.size)
                    have HG4 := Lib.hid (Nat.lt_of_lt_of_le hg4 HBQ.out.size)
                    obtain ⟨sA, HSA⟩ : ∃ s, Hid (bstr (jstr r1 r2) = s) := ⟨_, Lib.hid rfl⟩
                    obtain ⟨sB, HSB⟩ : ∃ s, Hid (bstr (jstr t1 t2) = s) := ⟨_, Lib.hid rfl⟩
                    clear hg3 hr1 hr2 hdA hrA1 hrA2 hg4 ht1 ht2 hdB hrB1 hrB2
                    go_wp2_with fail
                    refine region_flow3 (by kernel_rfl) (by kernel_rfl) (fun i => Nat.beq i 22 || Nat.beq i 23) (fun i => i) (by kernel_rfl) (fun fx => #[Value.agg (ndC a).toArray, Value.agg (ndC b).toArray, Value.int IntKind.i64 ↑iN, Value.int IntKind.i64 ↑mN, Value.slice A n c, Value.slice A2 n2 c2, Value.pointer (some { block := w.heap.size, off := 0 }), Value.pointer (some { block := w.heap.size + 1, off := 0 }), undef, undef, undef, undef, u12, Value.pointer (some { block := U2.heap.size, off := 0 }), Value.int IntKind.i64 0, Value.pointer (some { block := U3.heap.size, off := 0 }), Value.int IntKind.i64 0, Value.slice (some ⟨g3, 0, none⟩) n3 c3, Value.slice (some ⟨g4, 0, none⟩) n3 c4, Value.int IntKind.i64 ↑j, fx 22, fx 23, Value.bool true, Value.bool false, Value.slice A n c, Value.int IntKind.i64 ↑n, Value.bool false, Value.bool false, Value.slice A2 n2 c2, Value.int IntKind.i64 ↑n2, Value.bool false, Value.bool false, Value.tuple #[ndV x, Value.int IntKind.i64 0], Value.agg (ndC a).toArray, Value.int IntKind.i64 ↑iN, Value.int IntKind.i64 ↑mN, Value.slice A n c, Value.tuple #[ndV x, Value.int IntKind.i64 0], ndV x, Value.int IntKind.i64 0, Value.tuple #[ndV y, Value.int IntKind.i64 0], Value.agg (ndC b).toArray, Value.int IntKind.i64 ↑iN, Value.int IntKind.i64 ↑mN, Value.slice A2 n2 c2, Value.tuple #[ndV y, Value.int IntKind.i64 0], ndV y, Value.int IntKind.i64 0, Value.int IntKind.i64 0, Value.bool false, Value.bool false, Value.int IntKind.i64 0, Value.bool false, Value.bool false, Value.bool false, Value.agg (ndC x).toArray, Value.agg (ndC y).toArray, Value.bool false, Value.bool false, Value.agg (ndC a).toArray, Value.agg (ndC b).toArray, Value.bool false, Value.bool false, undef, undef, undef, Value.bool false, fo 0, fo 1, fo 2, fo 3, fo 4, fo 5, fo 6, fo 7, fo 8, fo 9, Value.slice (some ⟨g3, 0, none⟩) n3 c3, Value.int IntKind.i64 ↑n3, Value.slice (some ⟨g4, 0, none⟩) n3 c4, Value.int IntKind.i64 ↑n3, Value.bool false, Value.slice (some ⟨g3, 0, none⟩) n3 c3, Value.int IntKind.i64 ↑n3, Value.int IntKind.i64 ↑j, Value.bool true, Value.int IntKind.i64 ↑j, fx 0, fx 1, fx 2, fx 3, fx 4, fx 5, fx 6, fx 7, fx 8, fx 9, fx 10, fx 11, fx 12, fx 13, fx 14, fx 15, fx 16, fx 17, fx 18, fx 19, fx 20, fx 21, u109, u110, u111, u112, u113, u114, u115, u116, u117, u118, u119]) (fun i => bif Nat.beq i 0 then u87 else bif Nat.beq i 1 then u88 else bif Nat.beq i 2 then u89 else bif Nat.beq i 3 then u90 else bif Nat.beq i 4 then u91 else bif Nat.beq i 5 then u92 else bif Nat.beq i 6 then u93 else bif Nat.beq i 7 then u94 else bif Nat.beq i 8 then u95 else bif Nat.beq i 9 then u96 else bif Nat.beq i 10 then u97 else bif Nat.beq i 11 then u98 else bif Nat.beq i 12 then u99 else bif Nat.beq i 13 then u100 else bif Nat.beq i 14 then u101 else bif Nat.beq i 15 then u102 else bif Nat.beq i 16 then u103 else bif Nat.beq i 17 then u104 else bif Nat.beq i 18 then u105 else bif Nat.beq i 19 then u106 else bif Nat.beq i 20 then u107 else bif Nat.beq i 21 then u108 else bif Nat.beq i 22 then u20 else bif Nat.beq i 23 then u21 else undef) (fun L fx w' => Below wr.heap.size wr w') (fun fi fv _ fw => wB17 j g3 g4 n3 c3 c4 r1 r2 t1 t2 sA sB fi fv fw) (Below.refl _ _).drew ?_ ?_
                    · refine ⟨?_, ?_, ?_, ?_, ?_, ?_, ?_, ?_, ?_, ?_, ?_, ?_, ?_, ?_, ?_, ?_, ?_, ?_, ?_, ?_, ?_, ?_, ?_, ?_, trivial⟩
                      all_goals intro L fx w' hC hi hcl hdn hd
                      · go_wp2_with fail
                        exact ⟨_, rfl, hC, rfl, fun _ _ _ _ _ h => h⟩
                      · go_wp2_with fail
                        exact ⟨_, rfl, hC, rfl, fun _ _ _ _ _ h => h⟩
                      · have h0 : fx 0 = Value.slice (some ⟨g3, 0, none⟩) n3 c3 := hd.1 rfl
                        have h1 : fx 1 = Value.int .i64 ((j : Nat)) := hd.2.1 rfl
                        go_wp2_with fail
                        exact ⟨_, by show _ = Act.mk #[Value.agg (ndC a).toArray, Value.agg (ndC b).toArray, Value.int IntKind.i64 ↑iN, Value.int IntKind.i64 ↑mN, Value.slice A n c, Value.slice A2 n2 c2, Value.pointer (some { block := w.heap.size, off := 0 }), Value.pointer (some { block := w.heap.size + 1, off := 0 }), undef, undef, undef, undef, u12, Value.pointer (some { block := U2.heap.size, off := 0 }), Value.int IntKind.i64 0, Value.pointer (some { block := U3.heap.size, off := 0 }), Value.int IntKind.i64 0, Value.slice (some ⟨g3, 0, none⟩) n3 c3, Value.slice (some ⟨g4, 0, none⟩) n3 c4, Value.int IntKind.i64 ↑j, fx 22, fx 23, Value.bool true, Value.bool false, Value.slice A n c, Value.int IntKind.i64 ↑n, Value.bool false, Value.bool false, Value.slice A2 n2 c2, Value.int IntKind.i64 ↑n2, Value.bool false, Value.bool false, Value.tuple #[ndV x, Value.int IntKind.i64 0], Value.agg (ndC a).toArray, Value.int IntKind.i64 ↑iN, Value.int IntKind.i64 ↑mN, Value.slice A n c, Value.tuple #[ndV x, Value.int IntKind.i64 0], ndV x, Value.int IntKind.i64 0, Value.tuple #[ndV y, Value.int IntKind.i64 0], Value.agg (ndC b).toArray, Value.int IntKind.i64 ↑iN, Value.int IntKind.i64 ↑mN, Value.slice A2 n2 c2, Value.tuple #[ndV y, Value.int IntKind.i64 0], ndV y, Value.int IntKind.i64 0, Value.int IntKind.i64 0, Value.bool false, Value.bool false, Value.int IntKind.i64 0, Value.bool false, Value.bool false, Value.bool false, Value.agg (ndC x).toArray, Value.agg (ndC y).toArray, Value.bool false, Value.bool false, Value.agg (ndC a).toArray, Value.agg (ndC b).toArray, Value.bool false, Value.bool false, undef, undef, undef, Value.bool false, fo 0, fo 1, fo 2, fo 3, fo 4, fo 5, fo 6, fo 7, fo 8, fo 9, Value.slice (some ⟨g3, 0, none⟩) n3 c3, Value.int IntKind.i64 ↑n3, Value.slice (some ⟨g4, 0, none⟩) n3 c4, Value.int IntKind.i64 ↑n3, Value.bool false, Value.slice (some ⟨g3, 0, none⟩) n3 c3, Value.int IntKind.i64 ↑n3, Value.int IntKind.i64 ↑j, Value.bool true, Value.int IntKind.i64 ↑j, fx 0, fx 1, Value.pointer (some ⟨g3, j * 68, none⟩), fx 3, fx 4, fx 5, fx 6, fx 7, fx 8, fx 9, fx 10, fx 11, fx 12, fx 13, fx 14, fx 15, fx 16, fx 17, fx 18, fx 19, fx 20, fx 21, u109, u110, u111, u112, u113, u114, u115, u116, u117, u118, u119] []; rw [h0, h1] <;> rfl, hC, rfl, fun _ _ _ _ _ h => h⟩
                      · have h2 : fx 2 = Value.pointer (some ⟨g3, j * 68, none⟩) := hd.1 rfl
                        go_wp2_with fail
                        exact ⟨_, by show _ = Act.mk #[Value.agg (ndC a).toArray, Value.agg (ndC b).toArray, Value.int IntKind.i64 ↑iN, Value.int IntKind.i64 ↑mN, Value.slice A n c, Value.slice A2 n2 c2, Value.pointer (some { block := w.heap.size, off := 0 }), Value.pointer (some { block := w.heap.size + 1, off := 0 }), undef, undef, undef, undef, u12, Value.pointer (some { block := U2.heap.size, off := 0 }), Value.int IntKind.i64 0, Value.pointer (some { block := U3.heap.size, off := 0 }), Value.int IntKind.i64 0, Value.slice (some ⟨g3, 0, none⟩) n3 c3, Value.slice (some ⟨g4, 0, none⟩) n3 c4, Value.int IntKind.i64 ↑j, fx 22, fx 23, Value.bool true, Value.bool false, Value.slice A n c, Value.int IntKind.i64 ↑n, Value.bool false, Value.bool false, Value.slice A2 n2 c2, Value.int IntKind.i64 ↑n2, Value.bool false, Value.bool false, Value.tuple #[ndV x, Value.int IntKind.i64 0], Value.agg (ndC a).toArray, Value.int IntKind.i64 ↑iN, Value.int IntKind.i64 ↑mN, Value.slice A n c, Value.tuple #[ndV x, Value.int IntKind.i64 0], ndV x, Value.int IntKind.i64 0, Value.tuple #[ndV y, Value.int IntKind.i64 0], Value.agg (ndC b).toArray, Value.int IntKind.i64 ↑iN, Value.int IntKind.i64 ↑mN, Value.slice A2 n2 c2, Value.tuple #[ndV y, Value.int IntKind.i64 0], ndV y, Value.int IntKind.i64 0, Value.int IntKind.i64 0, Value.bool false, Value.bool false, Value.int IntKind.i64 0, Value.bool false, Value.bool false, Value.bool false, Value.agg (ndC x).toArray, Value.agg (ndC y).toArray, Value.bool false, Value.bool false, Value.agg (ndC a).toArray, Value.agg (ndC b).toArray, Value.bool false, Value.bool false, undef, undef, undef, Value.bool false, fo 0, fo 1, fo 2, fo 3, fo 4, fo 5, fo 6, fo 7, fo 8, fo 9, Value.slice (some ⟨g3, 0, none⟩) n3 c3, Value.int IntKind.i64 ↑n3, Value.slice (some ⟨g4, 0, none⟩) n3 c4, Value.int IntKind.i64 ↑n3, Value.bool false, Value.slice (some ⟨g3, 0, none⟩) n3 c3, Value.int IntKind.i64 ↑n3, Value.int IntKind.i64 ↑j, Value.bool true, Value.int IntKind.i64 ↑j, fx 0, fx 1, fx 2, Value.pointer (some ⟨g3, j * 68, none⟩), fx 4, fx 5, fx 6, fx 7, fx 8, fx 9, fx 10, fx 11, fx 12, fx 13, fx 14, fx 15, fx 16, fx 17, fx 18, fx 19, fx 20, fx 21, u109, u110, u111, u112, u113, u114, u115, u116, u117, u118, u119] []; rw [h2] <;> rfl, hC, rfl, fun _ _ _ _ _ h => h⟩
                      · have h3 : fx 3 = Value.pointer (some ⟨g3, j * 68, none⟩) := hd.1 rfl
                        have hrg := rangeAt_below HRA1.out HG3.out hC
                        refine wpList_load_mid rfl 26 (.tmp 90) rfl g3 (j * 68) h3 (ndC r1) _ hrg Tryd.underlying26 rfl (size34 HR1.out) ?_
                        clear hd
                        go_wp2_with fail
                        exact ⟨_, by show _ = Act.mk #[Value.agg (ndC a).toArray, Value.agg (ndC b).toArray, Value.int IntKind.i64 ↑iN, Value.int IntKind.i64 ↑mN, Value.slice A n c, Value.slice A2 n2 c2, Value.pointer (some { block := w.heap.size, off := 0 }), Value.pointer (some { block := w.heap.size + 1, off := 0 }), undef, undef, undef, undef, u12, Value.pointer (some { block := U2.heap.size, off := 0 }), Value.int IntKind.i64 0, Value.pointer (some { block := U3.heap.size, off := 0 }), Value.int IntKind.i64 0, Value.slice (some ⟨g3, 0, none⟩) n3 c3, Value.slice (some ⟨g4, 0, none⟩) n3 c4, Value.int IntKind.i64 ↑j, fx 22, fx 23, Value.bool true, Value.bool false, Value.slice A n c, Value.int IntKind.i64 ↑n, Value.bool false, Value.bool false, Value.slice A2 n2 c2, Value.int IntKind.i64 ↑n2, Value.bool false, Value.bool false, Value.tuple #[ndV x, Value.int IntKind.i64 0], Value.agg (ndC a).toArray, Value.int IntKind.i64 ↑iN, Value.int IntKind.i64 ↑mN, Value.slice A n c, Value.tuple #[ndV x, Value.int IntKind.i64 0], ndV x, Value.int IntKind.i64 0, Value.tuple #[ndV y, Value.int IntKind.i64 0], Value.agg (ndC b).toArray, Value.int IntKind.i64 ↑iN, Value.int IntKind.i64 ↑mN, Value.slice A2 n2 c2, Value.tuple #[ndV y, Value.int IntKind.i64 0], ndV y, Value.int IntKind.i64 0, Value.int IntKind.i64 0, Value.bool false, Value.bool false, Value.int IntKind.i64 0, Value.bool false, Value.bool false, Value.bool false, Value.agg (ndC x).toArray, Value.agg (ndC y).toArray, Value.bool false, Value.bool false, Value.agg (ndC a).toArray, Value.agg (ndC b).toArray, Value.bool false, Value.bool false, undef, undef, undef, Value.bool false, fo 0, fo 1, fo 2, fo 3, fo 4, fo 5, fo 6, fo 7, fo 8, fo 9, Value.slice (some ⟨g3, 0, none⟩) n3 c3, Value.int IntKind.i64 ↑n3, Value.slice (some ⟨g4, 0, none⟩) n3 c4, Value.int IntKind.i64 ↑n3, Value.bool false, Value.slice (some ⟨g3, 0, none⟩) n3 c3, Value.int IntKind.i64 ↑n3, Value.int IntKind.i64 ↑j, Value.bool true, Value.int IntKind.i64 ↑j, fx 0, fx 1, fx 2, fx 3, ndV r1, fx 5, fx 6, fx 7, fx 8, fx 9, fx 10, fx 11, fx 12, fx 13, fx 14, fx 15, fx 16, fx 17, fx 18, fx 19, fx 20, fx 21, u109, u110, u111, u112, u113, u114, u115, u116, u117, u118, u119] []; rw [h3] <;> rfl, hC, rfl, fun _ _ _ _ _ h => h⟩
                      · go_wp2_with fail
                        exact ⟨_, rfl, hC, rfl, fun _ _ _ _ _ h => h⟩
                      · go_wp2_with fail
                        exact ⟨_, rfl, hC, rfl, fun _ _ _ _ _ h => h⟩
                      · have h5 : fx 5 = Value.slice (some ⟨g3, 0, none⟩) n3 c3 := hd.1 rfl
                        have h6 : fx 6 = Value.int .i64 ((j : Nat)) := hd.2.1 rfl
                        go_wp2_with fail
                        exact ⟨_, by show _ = Act.mk #[Value.agg (ndC a).toArray, Value.agg (ndC b).toArray, Value.int IntKind.i64 ↑iN, Value.int IntKind.i64 ↑mN, Value.slice A n c, Value.slice A2 n2 c2, Value.pointer (some { block := w.heap.size, off := 0 }), Value.pointer (some { block := w.heap.size + 1, off := 0 }), undef, undef, undef, undef, u12, Value.pointer (some { block := U2.heap.size, off := 0 }), Value.int IntKind.i64 0, Value.pointer (some { block := U3.heap.size, off := 0 }), Value.int IntKind.i64 0, Value.slice (some ⟨g3, 0, none⟩) n3 c3, Value.slice (some ⟨g4, 0, none⟩) n3 c4, Value.int IntKind.i64 ↑j, fx 22, fx 23, Value.bool true, Value.bool false, Value.slice A n c, Value.int IntKind.i64 ↑n, Value.bool false, Value.bool false, Value.slice A2 n2 c2, Value.int IntKind.i64 ↑n2, Value.bool false, Value.bool false, Value.tuple #[ndV x, Value.int IntKind.i64 0], Value.agg (ndC a).toArray, Value.int IntKind.i64 ↑iN, Value.int IntKind.i64 ↑mN, Value.slice A n c, Value.tuple #[ndV x, Value.int IntKind.i64 0], ndV x, Value.int IntKind.i64 0, Value.tuple #[ndV y, Value.int IntKind.i64 0], Value.agg (ndC b).toArray, Value.int IntKind.i64 ↑iN, Value.int IntKind.i64 ↑mN, Value.slice A2 n2 c2, Value.tuple #[ndV y, Value.int IntKind.i64 0], ndV y, Value.int IntKind.i64 0, Value.int IntKind.i64 0, Value.bool false, Value.bool false, Value.int IntKind.i64 0, Value.bool false, Value.bool false, Value.bool false, Value.agg (ndC x).toArray, Value.agg (ndC y).toArray, Value.bool false, Value.bool false, Value.agg (ndC a).toArray, Value.agg (ndC b).toArray, Value.bool false, Value.bool false, undef, undef, undef, Value.bool false, fo 0, fo 1, fo 2, fo 3, fo 4, fo 5, fo 6, fo 7, fo 8, fo 9, Value.slice (some ⟨g3, 0, none⟩) n3 c3, Value.int IntKind.i64 ↑n3, Value.slice (some ⟨g4, 0, none⟩) n3 c4, Value.int IntKind.i64 ↑n3, Value.bool false, Value.slice (some ⟨g3, 0, none⟩) n3 c3, Value.int IntKind.i64 ↑n3, Value.int IntKind.i64 ↑j, Value.bool true, Value.int IntKind.i64 ↑j, fx 0, fx 1, fx 2, fx 3, fx 4, fx 5, fx 6, Value.pointer (some ⟨g3, j * 68, none⟩), fx 8, fx 9, fx 10, fx 11, fx 12, fx 13, fx 14, fx 15, fx 16, fx 17, fx 18, fx 19, fx 20, fx 21, u109, u110, u111, u112, u113, u114, u115, u116, u117, u118, u119] []; rw [h5, h6] <;> rfl, hC, rfl, fun _ _ _ _ _ h => h⟩
                      · have h7 : fx 7 = Value.pointer (some ⟨g3, j * 68, none⟩) := hd.1 rfl
                        go_wp2_with fail
                        exact ⟨_, by show _ = Act.mk #[Value.agg (ndC a).toArray, Value.agg (ndC b).toArray, Value.int IntKind.i64 ↑iN, Value.int IntKind.i64 ↑mN, Value.slice A n c, Value.slice A2 n2 c2, Value.pointer (some { block := w.heap.size, off := 0 }), Value.pointer (some { block := w.heap.size + 1, off := 0 }), undef, undef, undef, undef, u12, Value.pointer (some { block := U2.heap.size, off := 0 }), Value.int IntKind.i64 0, Value.pointer (some { block := U3.heap.size, off := 0 }), Value.int IntKind.i64 0, Value.slice (some ⟨g3, 0, none⟩) n3 c3, Value.slice (some ⟨g4, 0, none⟩) n3 c4, Value.int IntKind.i64 ↑j, fx 22, fx 23, Value.bool true, Value.bool false, Value.slice A n c, Value.int IntKind.i64 ↑n, Value.bool false, Value.bool false, Value.slice A2 n2 c2, Value.int IntKind.i64 ↑n2, Value.bool false, Value.bool false, Value.tuple #[ndV x, Value.int IntKind.i64 0], Value.agg (ndC a).toArray, Value.int IntKind.i64 ↑iN, Value.int IntKind.i64 ↑mN, Value.slice A n c, Value.tuple #[ndV x, Value.int IntKind.i64 0], ndV x, Value.int IntKind.i64 0, Value.tuple #[ndV y, Value.int IntKind.i64 0], Value.agg (ndC b).toArray, Value.int IntKind.i64 ↑iN, Value.int IntKind.i64 ↑mN, Value.slice A2 n2 c2, Value.tuple #[ndV y, Value.int IntKind.i64 0], ndV y, Value.int IntKind.i64 0, Value.int IntKind.i64 0, Value.bool false, Value.bool false, Value.int IntKind.i64 0, Value.bool false, Value.bool false, Value.bool false, Value.agg (ndC x).toArray, Value.agg (ndC y).toArray, Value.bool false, Value.bool false, Value.agg (ndC a).toArray, Value.agg (ndC b).toArray, Value.bool false, Value.bool false, undef, undef, undef, Value.bool false, fo 0, fo 1, fo 2, fo 3, fo 4, fo 5, fo 6, fo 7, fo 8, fo 9, Value.slice (some ⟨g3, 0, none⟩) n3 c3, Value.int IntKind.i64 ↑n3, Value.slice (some ⟨g4, 0, none⟩) n3 c4, Value.int IntKind.i64 ↑n3, Value.bool false, Value.slice (some ⟨g3, 0, none⟩) n3 c3, Value.int IntKind.i64 ↑n3, Value.int IntKind.i64 ↑j, Value.bool true, Value.int IntKind.i64 ↑j, fx 0, fx 1, fx 2, fx 3, fx 4, fx 5, fx 6, fx 7, Value.pointer (some ⟨g3, j * 68 + 34, none⟩), fx 9, fx 10, fx 11, fx 12, fx 13, fx 14, fx 15, fx 16, fx 17, fx 18, fx 19, fx 20, fx 21, u109, u110, u111, u112, u113, u114, u115, u116, u117, u118, u119] []; rw [h7] <;> rfl, hC, rfl, fun _ _ _ _ _ h => h⟩
                      · have h8 : fx 8 = Value.pointer (some ⟨g3, j * 68 + 34, none⟩) := hd.1 rfl
                        have hrg := rangeAt_below HRA2.out HG3.out hC
                        refine wpList_load_mid rfl 26 (.tmp 95) rfl g3 (j * 68 + 34) h8 (ndC r2) _ hrg Tryd.underlying26 rfl (size34 HR2.out) ?_
                        clear hd
                        go_wp2_with fail
                        exact ⟨_, by show _ = Act.mk #[Value.agg (ndC a).toArray, Value.agg (ndC b).toArray, Value.int IntKind.i64 ↑iN, Value.int IntKind.i64 ↑mN, Value.slice A n c, Value.slice A2 n2 c2, Value.pointer (some { block := w.heap.size, off := 0 }), Value.pointer (some { block := w.heap.size + 1, off := 0 }), undef, undef, undef, undef, u12, Value.pointer (some { block := U2.heap.size, off := 0 }), Value.int IntKind.i64 0, Value.pointer (some { block := U3.heap.size, off := 0 }), Value.int IntKind.i64 0, Value.slice (some ⟨g3, 0, none⟩) n3 c3, Value.slice (some ⟨g4, 0, none⟩) n3 c4, Value.int IntKind.i64 ↑j, fx 22, fx 23, Value.bool true, Value.bool false, Value.slice A n c, Value.int IntKind.i64 ↑n, Value.bool false, Value.bool false, Value.slice A2 n2 c2, Value.int IntKind.i64 ↑n2, Value.bool false, Value.bool false, Value.tuple #[ndV x, Value.int IntKind.i64 0], Value.agg (ndC a).toArray, Value.int IntKind.i64 ↑iN, Value.int IntKind.i64 ↑mN, Value.slice A n c, Value.tuple #[ndV x, Value.int IntKind.i64 0], ndV x, Value.int IntKind.i64 0, Value.tuple #[ndV y, Value.int IntKind.i64 0], Value.agg (ndC b).toArray, Value.int IntKind.i64 ↑iN, Value.int IntKind.i64 ↑mN, Value.slice A2 n2 c2, Value.tuple #[ndV y, Value.int IntKind.i64 0], ndV y, Value.int IntKind.i64 0, Value.int IntKind.i64 0, Value.bool false, Value.bool false, Value.int IntKind.i64 0, Value.bool false, Value.bool false, Value.bool false, Value.agg (ndC x).toArray, Value.agg (ndC y).toArray, Value.bool false, Value.bool false, Value.agg (ndC a).toArray, Value.agg (ndC b).toArray, Value.bool false, Value.bool false, undef, undef, undef, Value.bool false, fo 0, fo 1, fo 2, fo 3, fo 4, fo 5, fo 6, fo 7, fo 8, fo 9, Value.slice (some ⟨g3, 0, none⟩) n3 c3, Value.int IntKind.i64 ↑n3, Value.slice (some ⟨g4, 0, none⟩) n3 c4, Value.int IntKind.i64 ↑n3, Value.bool false, Value.slice (some ⟨g3, 0, none⟩) n3 c3, Value.int IntKind.i64 ↑n3, Value.int IntKind.i64 ↑j, Value.bool true, Value.int IntKind.i64 ↑j, fx 0, fx 1, fx 2, fx 3, fx 4, fx 5, fx 6, fx 7, fx 8, ndV r2, fx 10, fx 11, fx 12, fx 13, fx 14, fx 15, fx 16, fx 17, fx 18, fx 19, fx 20, fx 21, u109, u110, u111, u112, u113, u114, u115, u116, u117, u118, u119] []; rw [h8] <;> rfl, hC, rfl, fun _ _ _ _ _ h => h⟩
                      · have h4 : fx 4 = ndV r1 := hd.1 rfl
                        have h9 : fx 9 = ndV r2 := hd.2.1 rfl
                        go_wp2_with fail
                        refine (joined_any r1 r2 w' HR1 HR2).mono ?_
                        rintro e w3 ⟨s, rfl, hs, hq⟩
                        obtain rfl : sA = s := by rw [← HSA.out, ← hs, bstr_strL]
                        clear hs
                        go_wp2_with fail
                        exact ⟨_, by show _ = Act.mk #[Value.agg (ndC a).toArray, Value.agg (ndC b).toArray, Value.int IntKind.i64 ↑iN, Value.int IntKind.i64 ↑mN, Value.slice A n c, Value.slice A2 n2 c2, Value.pointer (some { block := w.heap.size, off := 0 }), Value.pointer (some { block := w.heap.size + 1, off := 0 }), undef, undef, undef, undef, u12, Value.pointer (some { block := U2.heap.size, off := 0 }), Value.int IntKind.i64 0, Value.pointer (some { block := U3.heap.size, off := 0 }), Value.int IntKind.i64 0, Value.slice (some ⟨g3, 0, none⟩) n3 c3, Value.slice (some ⟨g4, 0, none⟩) n3 c4, Value.int IntKind.i64 ↑j, fx 22, fx 23, Value.bool true, Value.bool false, Value.slice A n c, Value.int IntKind.i64 ↑n, Value.bool false, Value.bool false, Value.slice A2 n2 c2, Value.int IntKind.i64 ↑n2, Value.bool false, Value.bool false, Value.tuple #[ndV x, Value.int IntKind.i64 0], Value.agg (ndC a).toArray, Value.int IntKind.i64 ↑iN, Value.int IntKind.i64 ↑mN, Value.slice A n c, Value.tuple #[ndV x, Value.int IntKind.i64 0], ndV x, Value.int IntKind.i64 0, Value.tuple #[ndV y, Value.int IntKind.i64 0], Value.agg (ndC b).toArray, Value.int IntKind.i64 ↑iN, Value.int IntKind.i64 ↑mN, Value.slice A2 n2 c2, Value.tuple #[ndV y, Value.int IntKind.i64 0], ndV y, Value.int IntKind.i64 0, Value.int IntKind.i64 0, Value.bool false, Value.bool false, Value.int IntKind.i64 0, Value.bool false, Value.bool false, Value.bool false, Value.agg (ndC x).toArray, Value.agg (ndC y).toArray, Value.bool false, Value.bool false, Value.agg (ndC a).toArray, Value.agg (ndC b).toArray, Value.bool false, Value.bool false, undef, undef, undef, Value.bool false, fo 0, fo 1, fo 2, fo 3, fo 4, fo 5, fo 6, fo 7, fo 8, fo 9, Value.slice (some ⟨g3, 0, none⟩) n3 c3, Value.int IntKind.i64 ↑n3, Value.slice (some ⟨g4, 0, none⟩) n3 c4, Value.int IntKind.i64 ↑n3, Value.bool false, Value.slice (some ⟨g3, 0, none⟩) n3 c3, Value.int IntKind.i64 ↑n3, Value.int IntKind.i64 ↑j, Value.bool true, Value.int IntKind.i64 ↑j, fx 0, fx 1, fx 2, fx 3, fx 4, fx 5, fx 6, fx 7, fx 8, fx 9, Value.string sA, fx 11, fx 12, fx 13, fx 14, fx 15, fx 16, fx 17, fx 18, fx 19, fx 20, fx 21, u109, u110, u111, u112, u113, u114, u115, u116, u117, u118, u119] []; rw [h4, h9] <;> rfl, hC.trans (hq.mono hC.size), rfl, fun j v t _ _ h => wB17_below hq j v h⟩
                      · go_wp2_with fail
                        exact ⟨_, rfl, hC, rfl, fun _ _ _ _ _ h => h⟩
                      · go_wp2_with fail
                        exact ⟨_, rfl, hC, rfl, fun _ _ _ _ _ h => h⟩
                      · have h11 : fx 11 = Value.slice (some ⟨g4, 0, none⟩) n3 c4 := hd.1 rfl
                        have h12 : fx 12 = Value.int .i64 ((j : Nat)) := hd.2.1 rfl
                        go_wp2_with fail
                        exact ⟨_, by show _ = Act.mk #[Value.agg (ndC a).toArray, Value.agg (ndC b).toArray, Value.int IntKind.i64 ↑iN, Value.int IntKind.i64 ↑mN, Value.slice A n c, Value.slice A2 n2 c2, Value.pointer (some { block := w.heap.size, off := 0 }), Value.pointer (some { block := w.heap.size + 1, off := 0 }), undef, undef, undef, undef, u12, Value.pointer (some { block := U2.heap.size, off := 0 }), Value.int IntKind.i64 0, Value.pointer (some { block := U3.heap.size, off := 0 }), Value.int IntKind.i64 0, Value.slice (some ⟨g3, 0, none⟩) n3 c3, Value.slice (some ⟨g4, 0, none⟩) n3 c4, Value.int IntKind.i64 ↑j, fx 22, fx 23, Value.bool true, Value.bool false, Value.slice A n c, Value.int IntKind.i64 ↑n, Value.bool false, Value.bool false, Value.slice A2 n2 c2, Value.int IntKind.i64 ↑n2, Value.bool false, Value.bool false, Value.tuple #[ndV x, Value.int IntKind.i64 0], Value.agg (ndC a).toArray, Value.int IntKind.i64 ↑iN, Value.int IntKind.i64 ↑mN, Value.slice A n c, Value.tuple #[ndV x, Value.int IntKind.i64 0], ndV x, Value.int IntKind.i64 0, Value.tuple #[ndV y, Value.int IntKind.i64 0], Value.agg (ndC b).toArray, Value.int IntKind.i64 ↑iN, Value.int IntKind.i64 ↑mN, Value.slice A2 n2 c2, Value.tuple #[ndV y, Value.int IntKind.i64 0], ndV y, Value.int IntKind.i64 0, Value.int IntKind.i64 0, Value.bool false, Value.bool false, Value.int IntKind.i64 0, Value.bool false, Value.bool false, Value.bool false, Value.agg (ndC x).toArray, Value.agg (ndC y).toArray, Value.bool false, Value.bool false, Value.agg (ndC a).toArray, Value.agg (ndC b).toArray, Value.bool false, Value.bool false, undef, undef, undef, Value.bool false, fo 0, fo 1, fo 2, fo 3, fo 4, fo 5, fo 6, fo 7, fo 8, fo 9, Value.slice (some ⟨g3, 0, none⟩) n3 c3, Value.int IntKind.i64 ↑n3, Value.slice (some ⟨g4, 0, none⟩) n3 c4, Value.int IntKind.i64 ↑n3, Value.bool false, Value.slice (some ⟨g3, 0, none⟩) n3 c3, Value.int IntKind.i64 ↑n3, Value.int IntKind.i64 ↑j, Value.bool true, Value.int IntKind.i64 ↑j, fx 0, fx 1, fx 2, fx 3, fx 4, fx 5, fx 6, fx 7, fx 8, fx 9, fx 10, fx 11, fx 12, Value.pointer (some ⟨g4, j * 68, none⟩), fx 14, fx 15, fx 16, fx 17, fx 18, fx 19, fx 20, fx 21, u109, u110, u111, u112, u113, u114, u115, u116, u117, u118, u119] []; rw [h11, h12] <;> rfl, hC, rfl, fun _ _ _ _ _ h => h⟩
                      · have h13 : fx 13 = Value.pointer (some ⟨g4, j * 68, none⟩) := hd.1 rfl
                        go_wp2_with fail
                        exact ⟨_, by show _ = Act.mk #[Value.agg (ndC a).toArray, Value.agg (ndC b).toArray, Value.int IntKind.i64 ↑iN, Value.int IntKind.i64 ↑mN, Value.slice A n c, Value.slice A2 n2 c2, Value.pointer (some { block := w.heap.size, off := 0 }), Value.pointer (some { block := w.heap.size + 1, off := 0 }), undef, undef, undef, undef, u12, Value.pointer (some { block := U2.heap.size, off := 0 }), Value.int IntKind.i64 0, Value.pointer (some { block := U3.heap.size, off := 0 }), Value.int IntKind.i64 0, Value.slice (some ⟨g3, 0, none⟩) n3 c3, Value.slice (some ⟨g4, 0, none⟩) n3 c4, Value.int IntKind.i64 ↑j, fx 22, fx 23, Value.bool true, Value.bool false, Value.slice A n c, Value.int IntKind.i64 ↑n, Value.bool false, Value.bool false, Value.slice A2 n2 c2, Value.int IntKind.i64 ↑n2, Value.bool false, Value.bool false, Value.tuple #[ndV x, Value.int IntKind.i64 0], Value.agg (ndC a).toArray, Value.int IntKind.i64 ↑iN, Value.int IntKind.i64 ↑mN, Value.slice A n c, Value.tuple #[ndV x, Value.int IntKind.i64 0], ndV x, Value.int IntKind.i64 0, Value.tuple #[ndV y, Value.int IntKind.i64 0], Value.agg (ndC b).toArray, Value.int IntKind.i64 ↑iN, Value.int IntKind.i64 ↑mN, Value.slice A2 n2 c2, Value.tuple #[ndV y, Value.int IntKind.i64 0], ndV y, Value.int IntKind.i64 0, Value.int IntKind.i64 0, Value.bool false, Value.bool false, Value.int IntKind.i64 0, Value.bool false, Value.bool false, Value.bool false, Value.agg (ndC x).toArray, Value.agg (ndC y).toArray, Value.bool false, Value.bool false, Value.agg (ndC a).toArray, Value.agg (ndC b).toArray, Value.bool false, Value.bool false, undef, undef, undef, Value.bool false, fo 0, fo 1, fo 2, fo 3, fo 4, fo 5, fo 6, fo 7, fo 8, fo 9, Value.slice (some ⟨g3, 0, none⟩) n3 c3, Value.int IntKind.i64 ↑n3, Value.slice (some ⟨g4, 0, none⟩) n3 c4, Value.int IntKind.i64 ↑n3, Value.bool false, Value.slice (some ⟨g3, 0, none⟩) n3 c3, Value.int IntKind.i64 ↑n3, Value.int IntKind.i64 ↑j, Value.bool true, Value.int IntKind.i64 ↑j, fx 0, fx 1, fx 2, fx 3, fx 4, fx 5, fx 6, fx 7, fx 8, fx 9, fx 10, fx 11, fx 12, fx 13, Value.pointer (some ⟨g4, j * 68, none⟩), fx 15, fx 16, fx 17, fx 18, fx 19, fx 20, fx 21, u109, u110, u111, u112, u113, u114, u115, u116, u117, u118, u119] []; rw [h13] <;> rfl, hC, rfl, fun _ _ _ _ _ h => h⟩
                      · have h14 : fx 14 = Value.pointer (some ⟨g4, j * 68, none⟩) := hd.1 rfl
                        have hrg := rangeAt_below HRB1.out HG4.out hC
                        refine wpList_load_mid rfl 26 (.tmp 101) rfl g4 (j * 68) h14 (ndC t1) _ hrg Tryd.underlying26 rfl (size34 HT1.out) ?_
                        clear hd
                        go_wp2_with fail
                        exact ⟨_, by show _ = Act.mk #[Value.agg (ndC a).toArray, Value.agg (ndC b).toArray, Value.int IntKind.i64 ↑iN, Value.int IntKind.i64 ↑mN, Value.slice A n c, Value.slice A2 n2 c2, Value.pointer (some { block := w.heap.size, off := 0 }), Value.pointer (some { block := w.heap.size + 1, off := 0 }), undef, undef, undef, undef, u12, Value.pointer (some { block := U2.heap.size, off := 0 }), Value.int IntKind.i64 0, Value.pointer (some { block := U3.heap.size, off := 0 }), Value.int IntKind.i64 0, Value.slice (some ⟨g3, 0, none⟩) n3 c3, Value.slice (some ⟨g4, 0, none⟩) n3 c4, Value.int IntKind.i64 ↑j, fx 22, fx 23, Value.bool true, Value.bool false, Value.slice A n c, Value.int IntKind.i64 ↑n, Value.bool false, Value.bool false, Value.slice A2 n2 c2, Value.int IntKind.i64 ↑n2, Value.bool false, Value.bool false, Value.tuple #[ndV x, Value.int IntKind.i64 0], Value.agg (ndC a).toArray, Value.int IntKind.i64 ↑iN, Value.int IntKind.i64 ↑mN, Value.slice A n c, Value.tuple #[ndV x, Value.int IntKind.i64 0], ndV x, Value.int IntKind.i64 0, Value.tuple #[ndV y, Value.int IntKind.i64 0], Value.agg (ndC b).toArray, Value.int IntKind.i64 ↑iN, Value.int IntKind.i64 ↑mN, Value.slice A2 n2 c2, Value.tuple #[ndV y, Value.int IntKind.i64 0], ndV y, Value.int IntKind.i64 0, Value.int IntKind.i64 0, Value.bool false, Value.bool false, Value.int IntKind.i64 0, Value.bool false, Value.bool false, Value.bool false, Value.agg (ndC x).toArray, Value.agg (ndC y).toArray, Value.bool false, Value.bool false, Value.agg (ndC a).toArray, Value.agg (ndC b).toArray, Value.bool false, Value.bool false, undef, undef, undef, Value.bool false, fo 0, fo 1, fo 2, fo 3, fo 4, fo 5, fo 6, fo 7, fo 8, fo 9, Value.slice (some ⟨g3, 0, none⟩) n3 c3, Value.int IntKind.i64 ↑n3, Value.slice (some ⟨g4, 0, none⟩) n3 c4, Value.int IntKind.i64 ↑n3, Value.bool false, Value.slice (some ⟨g3, 0, none⟩) n3 c3, Value.int IntKind.i64 ↑n3, Value.int IntKind.i64 ↑j, Value.bool true, Value.int IntKind.i64 ↑j, fx 0, fx 1, fx 2, fx 3, fx 4, fx 5, fx 6, fx 7, fx 8, fx 9, fx 10, fx 11, fx 12, fx 13, fx 14, ndV t1, fx 16, fx 17, fx 18, fx 19, fx 20, fx 21, u109, u110, u111, u112, u113, u114, u115, u116, u117, u118, u119] []; rw [h14] <;> rfl, hC, rfl, fun _ _ _ _ _ h => h⟩
                      · go_wp2_with fail
                        exact ⟨_, rfl, hC, rfl, fun _ _ _ _ _ h => h⟩
                      · go_wp2_with fail
                        exact ⟨_, rfl, hC, rfl, fun _ _ _ _ _ h => h⟩
                      · have h16 : fx 16 = Value.slice (some ⟨g4, 0, none⟩) n3 c4 := hd.1 rfl
                        have h17 : fx 17 = Value.int .i64 ((j : Nat)) := hd.2.1 rfl
                        go_wp2_with fail
                        exact ⟨_, by show _ = Act.mk #[Value.agg (ndC a).toArray, Value.agg (ndC b).toArray, Value.int IntKind.i64 ↑iN, Value.int IntKind.i64 ↑mN, Value.slice A n c, Value.slice A2 n2 c2, Value.pointer (some { block := w.heap.size, off := 0 }), Value.pointer (some { block := w.heap.size + 1, off := 0 }), undef, undef, undef, undef, u12, Value.pointer (some { block := U2.heap.size, off := 0 }), Value.int IntKind.i64 0, Value.pointer (some { block := U3.heap.size, off := 0 }), Value.int IntKind.i64 0, Value.slice (some ⟨g3, 0, none⟩) n3 c3, Value.slice (some ⟨g4, 0, none⟩) n3 c4, Value.int IntKind.i64 ↑j, fx 22, fx 23, Value.bool true, Value.bool false, Value.slice A n c, Value.int IntKind.i64 ↑n, Value.bool false, Value.bool false, Value.slice A2 n2 c2, Value.int IntKind.i64 ↑n2, Value.bool false, Value.bool false, Value.tuple #[ndV x, Value.int IntKind.i64 0], Value.agg (ndC a).toArray, Value.int IntKind.i64 ↑iN, Value.int IntKind.i64 ↑mN, Value.slice A n c, Value.tuple #[ndV x, Value.int IntKind.i64 0], ndV x, Value.int IntKind.i64 0, Value.tuple #[ndV y, Value.int IntKind.i64 0], Value.agg (ndC b).toArray, Value.int IntKind.i64 ↑iN, Value.int IntKind.i64 ↑mN, Value.slice A2 n2 c2, Value.tuple #[ndV y, Value.int IntKind.i64 0], ndV y, Value.int IntKind.i64 0, Value.int IntKind.i64 0, Value.bool false, Value.bool false, Value.int IntKind.i64 0, Value.bool false, Value.bool false, Value.bool false, Value.agg (ndC x).toArray, Value.agg (ndC y).toArray, Value.bool false, Value.bool false, Value.agg (ndC a).toArray, Value.agg (ndC b).toArray, Value.bool false, Value.bool false, undef, undef, undef, Value.bool false, fo 0, fo 1, fo 2, fo 3, fo 4, fo 5, fo 6, fo 7, fo 8, fo 9, Value.slice (some ⟨g3, 0, none⟩) n3 c3, Value.int IntKind.i64 ↑n3, Value.slice (some ⟨g4, 0, none⟩) n3 c4, Value.int IntKind.i64 ↑n3, Value.bool false, Value.slice (some ⟨g3, 0, none⟩) n3 c3, Value.int IntKind.i64 ↑n3, Value.int IntKind.i64 ↑j, Value.bool true, Value.int IntKind.i64 ↑j, fx 0, fx 1, fx 2, fx 3, fx 4, fx 5, fx 6, fx 7, fx 8, fx 9, fx 10, fx 11, fx 12, fx 13, fx 14, fx 15, fx 16, fx 17, Value.pointer (some ⟨g4, j * 68, none⟩), fx 19, fx 20, fx 21, u109, u110, u111, u112, u113, u114, u115, u116, u117, u118, u119] []; rw [h16, h17] <;> rfl, hC, rfl, fun _ _ _ _ _ h => h⟩
                      · have h18 : fx 18 = Value.pointer (some ⟨g4, j * 68, none⟩) := hd.1 rfl
                        go_wp2_with fail
                        exact ⟨_, by show _ = Act.mk #[Value.agg (ndC a).toArray, Value.agg (ndC b).toArray, Value.int IntKind.i64 ↑iN, Value.int IntKind.i64 ↑mN, Value.slice A n c, Value.slice A2 n2 c2, Value.pointer (some { block := w.heap.size, off := 0 }), Value.pointer (some { block := w.heap.size + 1, off := 0 }), undef, undef, undef, undef, u12, Value.pointer (some { block := U2.heap.size, off := 0 }), Value.int IntKind.i64 0, Value.pointer (some { block := U3.heap.size, off := 0 }), Value.int IntKind.i64 0, Value.slice (some ⟨g3, 0, none⟩) n3 c3, Value.slice (some ⟨g4, 0, none⟩) n3 c4, Value.int IntKind.i64 ↑j, fx 22, fx 23, Value.bool true, Value.bool false, Value.slice A n c, Value.int IntKind.i64 ↑n, Value.bool false, Value.bool false, Value.slice A2 n2 c2, Value.int IntKind.i64 ↑n2, Value.bool false, Value.bool false, Value.tuple #[ndV x, Value.int IntKind.i64 0], Value.agg (ndC a).toArray, Value.int IntKind.i64 ↑iN, Value.int IntKind.i64 ↑mN, Value.slice A n c, Value.tuple #[ndV x, Value.int IntKind.i64 0], ndV x, Value.int IntKind.i64 0, Value.tuple #[ndV y, Value.int IntKind.i64 0], Value.agg (ndC b).toArray, Value.int IntKind.i64 ↑iN, Value.int IntKind.i64 ↑mN, Value.slice A2 n2 c2, Value.tuple #[ndV y, Value.int IntKind.i64 0], ndV y, Value.int IntKind.i64 0, Value.int IntKind.i64 0, Value.bool false, Value.bool false, Value.int IntKind.i64 0, Value.bool false, Value.bool false, Value.bool false, Value.agg (ndC x).toArray, Value.agg (ndC y).toArray, Value.bool false, Value.bool false, Value.agg (ndC a).toArray, Value.agg (ndC b).toArray, Value.bool false, Value.bool false, undef, undef, undef, Value.bool false, fo 0, fo 1, fo 2, fo 3, fo 4, fo 5, fo 6, fo 7, fo 8, fo 9, Value.slice (some ⟨g3, 0, none⟩) n3 c3, Value.int IntKind.i64 ↑n3, Value.slice (some ⟨g4, 0, none⟩) n3 c4, Value.int IntKind.i64 ↑n3, Value.bool false, Value.slice (some ⟨g3, 0, none⟩) n3 c3, Value.int IntKind.i64 ↑n3, Value.int IntKind.i64 ↑j, Value.bool true, Value.int IntKind.i64 ↑j, fx 0, fx 1, fx 2, fx 3, fx 4, fx 5, fx 6, fx 7, fx 8, fx 9, fx 10, fx 11, fx 12, fx 13, fx 14, fx 15, fx 16, fx 17, fx 18, Value.pointer (some ⟨g4, j * 68 + 34, none⟩), fx 20, fx 21, u109, u110, u111, u112, u113, u114, u115, u116, u117, u118, u119] []; rw [h18] <;> rfl, hC, rfl, fun _ _ _ _ _ h => h⟩
                      · have h19 : fx 19 = Value.pointer (some ⟨g4, j * 68 + 34, none⟩) := hd.1 rfl
                        have hrg := rangeAt_below HRB2.out HG4.out hC
                        refine wpList_load_mid rfl 26 (.tmp 106) rfl g4 (j * 68 + 34) h19 (ndC t2) _ hrg Tryd.underlying26 rfl (size34 HT2.out) ?_
                        clear hd
                        go_wp2_with fail
                        exact ⟨_, by show _ = Act.mk #[Value.agg (ndC a).toArray, Value.agg (ndC b).toArray, Value.int IntKind.i64 ↑iN, Value.int IntKind.i64 ↑mN, Value.slice A n c, Value.slice A2 n2 c2, Value.pointer (some { block := w.heap.size, off := 0 }), Value.pointer (some { block := w.heap.size + 1, off := 0 }), undef, undef, undef, undef, u12, Value.pointer (some { block := U2.heap.size, off := 0 }), Value.int IntKind.i64 0, Value.pointer (some { block := U3.heap.size, off := 0 }), Value.int IntKind.i64 0, Value.slice (some ⟨g3, 0, none⟩) n3 c3, Value.slice (some ⟨g4, 0, none⟩) n3 c4, Value.int IntKind.i64 ↑j, fx 22, fx 23, Value.bool true, Value.bool false, Value.slice A n c, Value.int IntKind.i64 ↑n, Value.bool false, Value.bool false, Value.slice A2 n2 c2, Value.int IntKind.i64 ↑n2, Value.bool false, Value.bool false, Value.tuple #[ndV x, Value.int IntKind.i64 0], Value.agg (ndC a).toArray, Value.int IntKind.i64 ↑iN, Value.int IntKind.i64 ↑mN, Value.slice A n c, Value.tuple #[ndV x, Value.int IntKind.i64 0], ndV x, Value.int IntKind.i64 0, Value.tuple #[ndV y, Value.int IntKind.i64 0], Value.agg (ndC b).toArray, Value.int IntKind.i64 ↑iN, Value.int IntKind.i64 ↑mN, Value.slice A2 n2 c2, Value.tuple #[ndV y, Value.int IntKind.i64 0], ndV y, Value.int IntKind.i64 0, Value.int IntKind.i64 0, Value.bool false, Value.bool false, Value.int IntKind.i64 0, Value.bool false, Value.bool false, Value.bool false, Value.agg (ndC x).toArray, Value.agg (ndC y).toArray, Value.bool false, Value.bool false, Value.agg (ndC a).toArray, Value.agg (ndC b).toArray, Value.bool false, Value.bool false, undef, undef, undef, Value.bool false, fo 0, fo 1, fo 2, fo 3, fo 4, fo 5, fo 6, fo 7, fo 8, fo 9, Value.slice (some ⟨g3, 0, none⟩) n3 c3, Value.int IntKind.i64 ↑n3, Value.slice (some ⟨g4, 0, none⟩) n3 c4, Value.int IntKind.i64 ↑n3, Value.bool false, Value.slice (some ⟨g3, 0, none⟩) n3 c3, Value.int IntKind.i64 ↑n3, Value.int IntKind.i64 ↑j, Value.bool true, Value.int IntKind.i64 ↑j, fx 0, fx 1, fx 2, fx 3, fx 4, fx 5, fx 6, fx 7, fx 8, fx 9, fx 10, fx 11, fx 12, fx 13, fx 14, fx 15, fx 16, fx 17, fx 18, fx 19, ndV t2, fx 21, u109, u110, u111, u112, u113, u114, u115, u116, u117, u118, u119] []; rw [h19] <;> rfl, hC, rfl, fun _ _ _ _ _ h => h⟩
                      · have h15 : fx 15 = ndV t1 := hd.1 rfl
                        have h20 : fx 20 = ndV t2 := hd.2.1 rfl
                        go_wp2_with fail
                        refine (joined_any t1 t2 w' HT1 HT2).mono ?_
                        rintro e w3 ⟨s, rfl, hs, hq⟩
                        obtain rfl : sB = s := by rw [← HSB.out, ← hs, bstr_strL]
                        clear hs
                        go_wp2_with fail
                        exact ⟨_, by show _ = Act.mk #[Value.agg (ndC a).toArray, Value.agg (ndC b).toArray, Value.int IntKind.i64 ↑iN, Value.int IntKind.i64 ↑mN, Value.slice A n c, Value.slice A2 n2 c2, Value.pointer (some { block := w.heap.size, off := 0 }), Value.pointer (some { block := w.heap.size + 1, off := 0 }), undef, undef, undef, undef, u12, Value.pointer (some { block := U2.heap.size, off := 0 }), Value.int IntKind.i64 0, Value.pointer (some { block := U3.heap.size, off := 0 }), Value.int IntKind.i64 0, Value.slice (some ⟨g3, 0, none⟩) n3 c3, Value.slice (some ⟨g4, 0, none⟩) n3 c4, Value.int IntKind.i64 ↑j, fx 22, fx 23, Value.bool true, Value.bool false, Value.slice A n c, Value.int IntKind.i64 ↑n, Value.bool false, Value.bool false, Value.slice A2 n2 c2, Value.int IntKind.i64 ↑n2, Value.bool false, Value.bool false, Value.tuple #[ndV x, Value.int IntKind.i64 0], Value.agg (ndC a).toArray, Value.int IntKind.i64 ↑iN, Value.int IntKind.i64 ↑mN, Value.slice A n c, Value.tuple #[ndV x, Value.int IntKind.i64 0], ndV x, Value.int IntKind.i64 0, Value.tuple #[ndV y, Value.int IntKind.i64 0], Value.agg (ndC b).toArray, Value.int IntKind.i64 ↑iN, Value.int IntKind.i64 ↑mN, Value.slice A2 n2 c2, Value.tuple #[ndV y, Value.int IntKind.i64 0], ndV y, Value.int IntKind.i64 0, Value.int IntKind.i64 0, Value.bool false, Value.bool false, Value.int IntKind.i64 0, Value.bool false, Value.bool false, Value.bool false, Value.agg (ndC x).toArray, Value.agg (ndC y).toArray, Value.bool false, Value.bool false, Value.agg (ndC a).toArray, Value.agg (ndC b).toArray, Value.bool false, Value.bool false, undef, undef, undef, Value.bool false, fo 0, fo 1, fo 2, fo 3, fo 4, fo 5, fo 6, fo 7, fo 8, fo 9, Value.slice (some ⟨g3, 0, none⟩) n3 c3, Value.int IntKind.i64 ↑n3, Value.slice (some ⟨g4, 0, none⟩) n3 c4, Value.int IntKind.i64 ↑n3, Value.bool false, Value.slice (some ⟨g3, 0, none⟩) n3 c3, Value.int IntKind.i64 ↑n3, Value.int IntKind.i64 ↑j, Value.bool true, Value.int IntKind.i64 ↑j, fx 0, fx 1, fx 2, fx 3, fx 4, fx 5, fx 6, fx 7, fx 8, fx 9, fx 10, fx 11, fx 12, fx 13, fx 14, fx 15, fx 16, fx 17, fx 18, fx 19, fx 20, Value.string sB, u109, u110, u111, u112, u113, u114, u115, u116, u117, u118, u119] []; rw [h15, h20] <;> rfl, hC.trans (hq.mono hC.size), rfl, fun j v t _ _ h => wB17_below hq j v h⟩
                      · have h10 : fx 10 = Value.string sA := hd.1 rfl
                        go_wp2_with fail
                        exact ⟨_, by show _ = Act.mk #[Value.agg (ndC a).toArray, Value.agg (ndC b).toArray, Value.int IntKind.i64 ↑iN, Value.int IntKind.i64 ↑mN, Value.slice A n c, Value.slice A2 n2 c2, Value.pointer (some { block := w.heap.size, off := 0 }), Value.pointer (some { block := w.heap.size + 1, off := 0 }), undef, undef, undef, undef, u12, Value.pointer (some { block := U2.heap.size, off := 0 }), Value.int IntKind.i64 0, Value.pointer (some { block := U3.heap.size, off := 0 }), Value.int IntKind.i64 0, Value.slice (some ⟨g3, 0, none⟩) n3 c3, Value.slice (some ⟨g4, 0, none⟩) n3 c4, Value.int IntKind.i64 ↑j, Value.string sA, fx 23, Value.bool true, Value.bool false, Value.slice A n c, Value.int IntKind.i64 ↑n, Value.bool false, Value.bool false, Value.slice A2 n2 c2, Value.int IntKind.i64 ↑n2, Value.bool false, Value.bool false, Value.tuple #[ndV x, Value.int IntKind.i64 0], Value.agg (ndC a).toArray, Value.int IntKind.i64 ↑iN, Value.int IntKind.i64 ↑mN, Value.slice A n c, Value.tuple #[ndV x, Value.int IntKind.i64 0], ndV x, Value.int IntKind.i64 0, Value.tuple #[ndV y, Value.int IntKind.i64 0], Value.agg (ndC b).toArray, Value.int IntKind.i64 ↑iN, Value.int IntKind.i64 ↑mN, Value.slice A2 n2 c2, Value.tuple #[ndV y, Value.int IntKind.i64 0], ndV y, Value.int IntKind.i64 0, Value.int IntKind.i64 0, Value.bool false, Value.bool false, Value.int IntKind.i64 0, Value.bool false, Value.bool false, Value.bool false, Value.agg (ndC x).toArray, Value.agg (ndC y).toArray, Value.bool false, Value.bool false, Value.agg (ndC a).toArray, Value.agg (ndC b).toArray, Value.bool false, Value.bool false, undef, undef, undef, Value.bool false, fo 0, fo 1, fo 2, fo 3, fo 4, fo 5, fo 6, fo 7, fo 8, fo 9, Value.slice (some ⟨g3, 0, none⟩) n3 c3, Value.int IntKind.i64 ↑n3, Value.slice (some ⟨g4, 0, none⟩) n3 c4, Value.int IntKind.i64 ↑n3, Value.bool false, Value.slice (some ⟨g3, 0, none⟩) n3 c3, Value.int IntKind.i64 ↑n3, Value.int IntKind.i64 ↑j, Value.bool true, Value.int IntKind.i64 ↑j, fx 0, fx 1, fx 2, fx 3, fx 4, fx 5, fx 6, fx 7, fx 8, fx 9, fx 10, fx 11, fx 12, fx 13, fx 14, fx 15, fx 16, fx 17, fx 18, fx 19, fx 20, fx 21, u109, u110, u111, u112, u113, u114, u115, u116, u117, u118, u119] []; rw [h10] <;> rfl, hC, rfl, fun _ _ _ _ _ h => h⟩
                      · have h21 : fx 21 = Value.string sB := hd.1 rfl
                        go_wp2_with fail
                        exact ⟨_, by show _ = Act.mk #[Value.agg (ndC a).toArray, Value.agg (ndC b).toArray, Value.int IntKind.i64 ↑iN, Value.int IntKind.i64 ↑mN, Value.slice A n c, Value.slice A2 n2 c2, Value.pointer (some { block := w.heap.size, off := 0 }), Value.pointer (some { block := w.heap.size + 1, off := 0 }), undef, undef, undef, undef, u12, Value.pointer (some { block := U2.heap.size, off := 0 }), Value.int IntKind.i64 0, Value.pointer (some { block := U3.heap.size, off := 0 }), Value.int IntKind.i64 0, Value.slice (some ⟨g3, 0, none⟩) n3 c3, Value.slice (some ⟨g4, 0, none⟩) n3 c4, Value.int IntKind.i64 ↑j, fx 22, Value.string sB, Value.bool true, Value.bool false, Value.slice A n c, Value.int IntKind.i64 ↑n, Value.bool false, Value.bool false, Value.slice A2 n2 c2, Value.int IntKind.i64 ↑n2, Value.bool false, Value.bool false, Value.tuple #[ndV x, Value.int IntKind.i64 0], Value.agg (ndC a).toArray, Value.int IntKind.i64 ↑iN, Value.int IntKind.i64 ↑mN, Value.slice A n c, Value.tuple #[ndV x, Value.int IntKind.i64 0], ndV x, Value.int IntKind.i64 0, Value.tuple #[ndV y, Value.int IntKind.i64 0], Value.agg (ndC b).toArray, Value.int IntKind.i64 ↑iN, Value.int IntKind.i64 ↑mN, Value.slice A2 n2 c2, Value.tuple #[ndV y, Value.int IntKind.i64 0], ndV y, Value.int IntKind.i64 0, Value.int IntKind.i64 0, Value.bool false, Value.bool false, Value.int IntKind.i64 0, Value.bool false, Value.bool false, Value.bool false, Value.agg (ndC x).toArray, Value.agg (ndC y).toArray, Value.bool false, Value.bool false, Value.agg (ndC a).toArray, Value.agg (ndC b).toArray, Value.bool false, Value.bool false, undef, undef, undef, Value.bool false, fo 0, fo 1, fo 2, fo 3, fo 4, fo 5, fo 6, fo 7, fo 8, fo 9, Value.slice (some ⟨g3, 0, none⟩) n3 c3, Value.int IntKind.i64 ↑n3, Value.slice (some ⟨g4, 0, none⟩) n3 c4, Value.int IntKind.i64 ↑n3, Value.bool false, Value.slice (some ⟨g3, 0, none⟩) n3 c3, Value.int IntKind.i64 ↑n3, Value.int IntKind.i64 ↑j, Value.bool true, Value.int IntKind.i64 ↑j, fx 0, fx 1, fx 2, fx 3, fx 4, fx 5, fx 6, fx 7, fx 8, fx 9, fx 10, fx 11, fx 12, fx 13, fx 14, fx 15, fx 16, fx 17, fx 18, fx 19, fx 20, fx 21, u109, u110, u111, u112, u113, u114, u115, u116, u117, u118, u119] []; rw [h21] <;> rfl, hC, rfl, fun _ _ _ _ _ h => h⟩
                    · intro L fe w' hC hS
                      have H22 := Lib.hid (hS 22 (by decide) rfl)
                      have H23 := Lib.hid (hS 23 (by decide) rfl)
                      have h22 : fe 22 = Value.string sA := hS 22 (by decide) rfl
                      have h23 : fe 23 = Value.string sB := hS 23 (by decide) rfl
                      have hbe := hC
                      rw [h22, h23]
                      clear hS hC h22 h23
                      by_cases hst : sA = sB
                      · subst hst
                        have HJE : Hid (jstr r1 r2 = jstr t1 t2) := Lib.hid (by
                          rw [← strL_bstr (jstr_bytes HR1.out HR2.out), ← strL_bstr (jstr_bytes HT1.out HT2.out), HSA.out, HSB.out])
                        have HBN : Hid (bindsB (LA.drop (j + 1)) (LB.drop (j + 1)) = true) := Lib.hid (by
                          have h := HBJ.out
                          rw [HDA.out, HDB.out] at h
                          unfold bindsB at h
                          rw [if_pos HJE.out] at h
                          exact h)
                        have HBQ2 := Lib.hid (HBQ.out.trans (hbe.mono HBQ.out.size))
                        clear hbe
                        go_wp2_with fail
                        go_roundw
                        case rel => exact ⟨j + 1, by omega, by go_num, HBN, HBQ2⟩
                        case measure => first | (simp [intOf]; done) | (simp [intOf]; omega)
                      · have ds : (sA.toList == sB.toList) = false := by
                          rw [ByteArray.toList_eq, ByteArray.toList_eq]
                          exact beq_false_of_ne (fun h => hst (ByteArray.ext (Array.toList_inj.1 h)))
                        have kc := fun (W : World) (s : ByteArray) => Lib.run_convert_string_bytes (P := Tryd.prog) W 9 43 5 s Tryd.underlying9 Tryd.underlying43 Tryd.underlying5
                        have HSL : Hid (sA.size ≤ 1000 ∧ sB.size ≤ 1000 ∧ strL sA = jstr r1 r2 ∧ strL sB = jstr t1 t2) := Lib.hid (by
                          have l1 : ∀ u v : Nd, NdOk u → NdOk v → (jstr u v).length ≤ 1000 := fun u v hu hv => by
                            unfold jstr
                            have := encI_length [u.c, u.p, v.c, v.p]
                            simp only [List.length_append, hu.len, hv.len, List.length_cons, List.length_nil] at *
                            omega
                          refine ⟨by rw [← HSA.out, bstr_size]; exact l1 _ _ HR1.out HR2.out, by rw [← HSB.out, bstr_size]; exact l1 _ _ HT1.out HT2.out, by rw [← HSA.out]; exact strL_bstr (jstr_bytes HR1.out HR2.out), by rw [← HSB.out]; exact strL_bstr (jstr_bytes HT1.out HT2.out)⟩)
                        have HEQ : Hid (tagged sumT (strL sA) = tagged sumT (strL sB)) := Lib.hid (by
                          have h := HBJ.out
                          rw [HDA.out, HDB.out] at h
                          unfold bindsB at h
                          rw [if_neg (fun e => hst (by rw [← HSA.out, ← HSB.out]; exact congrArg bstr e))] at h
                          rw [HSL.out.2.2.1, HSL.out.2.2.2]
                          exact of_decide_eq_true h)
                        have HBA := Lib.hid ((HBV.out.trans (HBQ.out.mono HBV.out.size)).trans (hbe.mono (Nat.le_trans HBV.out.size HBQ.out.size)))
                        obtain ⟨D, HD⟩ : ∃ D, Hid (tagged (strL sumTag) (strL sA) = D ∧ tagged (strL sumTag) (strL sB) = D ∧ D.length = 32 ∧ Bytes D) := ⟨_, Lib.hid ⟨rfl, by rw [sumTag_eq]; exact HEQ.out.symm, tagged_length _ _, tagged_bytes _ _⟩⟩
                        clear hbe
                        have kc2 := fun (a b : Operand) (X : World) => guard_dg .eql a b D D X
                        go_wp2_with fail
                        refine (tagged_any sumTag _ _ _ (strL sA) _ (by decide) (Lib.hid (strL_length sA)) (grownCap_ge _ _ _ _) (fun e => by cases e) (by have := HSL.out.1; omega) (Lib.hid (strL_bytes sA)) (Lib.hid (hT.out.below (HBA.out.trans ((Go.Joins.below_bytesWorld _ _ _ _ (Nat.le_refl _)).mono HBA.out.size)))) (Lib.hid (conv_rd _ sA))).mono ?_
                        rintro e X1 ⟨rfl, hq1⟩
                        rw [HD.out.1]
                        have HBC := Lib.hid ((HBA.out.trans ((Go.Joins.below_bytesWorld _ _ _ _ (Nat.le_refl _)).mono HBA.out.size)).trans (hq1.mono (Nat.le_trans HBA.out.size (Go.Joins.below_bytesWorld _ _ _ _ (Nat.le_refl _)).size)))
                        clear hq1
                        go_wp2_with fail
                        refine (tagged_any sumTag _ _ _ (strL sB) _ (by decide) (Lib.hid (strL_length sB)) (grownCap_ge _ _ _ _) (fun e => by cases e) (by have := HSL.out.2.1; omega) (Lib.hid (strL_bytes sB)) (Lib.hid (hT.out.below (HBC.out.trans ((Go.Joins.below_bytesWorld _ _ _ _ (Nat.le_refl _)).mono HBC.out.size)))) (Lib.hid (conv_rd _ sB))).mono ?_
                        rintro e X2 ⟨rfl, hq2⟩
                        rw [HD.out.2.1]
                        have HBD := Lib.hid ((HBC.out.trans ((Go.Joins.below_bytesWorld _ _ _ _ (Nat.le_refl _)).mono HBC.out.size)).trans (hq2.mono (Nat.le_trans HBC.out.size (Go.Joins.below_bytesWorld _ _ _ _ (Nat.le_refl _)).size)))
                        clear hq2
                        have HDD : Hid ((D == D) = true) := Lib.hid (by simp)
                        go_wp2_with (refine wpList_eql_dg rfl (.tmp 114) (.tmp 117) _ rfl D D rfl rfl HD.out.2.2.1 HD.out.2.2.1 HD.out.2.2.2 HD.out.2.2.2 ?_; rw [HDD.out])
                        go_ret
                        exact ⟨rfl, HBD.out⟩
                  · exfalso
                    have h := HBJ.out
                    rw [List.drop_eq_nil_of_le (by rw [HLAn.out]; omega)] at h
                    cases h
          · have HXY : Hid (ndEq x y = false) := Lib.hid (by simpa using hxy)
            clear hxy
            go_wp2_with (first | (refine wpList_store_row rfl 26 (.tmp 15) (.tmp 46) rfl U3.heap.size (ndC y).toArray rfl rfl 26 _ HZ3.out (size34' HYO.out) HT3.out (ndC_one y) ?_; rw [HV3.out]) | (refine wpList_unguard rfl ?_; refine wpList_load_row rfl 26 (.tmp 13) rfl U2.heap.size rfl 26 _ (0, 0) _ R13_5.out Tryd.underlying26 rfl (size34' HXO.out) ?_) | (refine wpList_unguard rfl ?_; refine wpList_load_row rfl 26 (.tmp 15) rfl U3.heap.size rfl 26 _ (0, 0) _ R15_n.out Tryd.underlying26 rfl (size34' HYO.out) ?_) | (refine wpList_unguard rfl ?_; refine wpList_neq_nd rfl (.tmp 55) (.tmp 56) _ rfl x y rfl rfl HXO.out HYO.out ?_; rw [HXY.out]))
            go_ret
            exact ⟨rfl, HB5.out⟩
        · have b2 : (e2 == 0) = false := beq_false_of_ne he2
          have b3 : (e2 != 0) = true := by simp [bne, b2]
          go_wp2_with (refine wpList_store_row rfl 26 (.tmp 15) (.tmp 46) rfl U3.heap.size (ndC y).toArray rfl rfl 26 _ HZ3.out (size34' HYO.out) HT3.out (ndC_one y) ?_; rw [HV3.out])
          go_ret
          exact ⟨rfl, HB5.out⟩
      · have b2 : (e1 == 0) = false := beq_false_of_ne he1
        have b3 : (e1 != 0) = true := by simp [bne, b2]
        go_wp2_with (refine wpList_store_row rfl 26 (.tmp 15) (.tmp 46) rfl U3.heap.size (ndC y).toArray rfl rfl 26 _ HZ3.out (size34' HYO.out) HT3.out (ndC_one y) ?_; rw [HV3.out])
        go_ret
        exact ⟨rfl, HB5.out⟩
theorem walk (w : World) (hT : Tabs w) (a : Nd) (ha : NdOk a) (b : Nd) (hb : NdOk b) (i : Int) (i1 : -9223372036854775808 ≤ i) (i2 : i ≤ 9223372036854775807) (m : Int) (m1 : -9223372036854775808 ≤ m) (m2 : m ≤ 9223372036854775807) (A : Option Addr) (n c : Nat) (ps : List Nd) (hp : InN w A n c ps) (hn : n ≤ maxLen) (A2 : Option Addr) (n2 c2 : Nat) (qs : List Nd) (hq : InN w A2 n2 c2 qs) (hn2 : n2 ≤ maxLen) :
    Calls Tryd.prog 5 #[ndV a, ndV b, .int .i64 i, .int .i64 m, .slice A n c, .slice A2 n2 c2] w fun e w' => e = .returned (.bool true) ∧ Below w.heap.size w w' :=
  walk1 a b i m ps qs A A2 n c n2 c2 w (Lib.hid ha) (Lib.hid hb) ⟨i1, i2⟩ ⟨m1, m2⟩ (Lib.hid hp) (Lib.hid hq) (Lib.hid hT)
set_option maxRecDepth 100000 in
theorem lifted (os : Os) (started : os.Started) (H : Type) (enc : TypeId × Value → H) :
    ReturnsInHanded {} Tryd.checked os 5 .any (fun w args => (Rows.treeBindsSpec.pre enc Tryd.prog Tryd.f5 [] false w args ∧ laidMetH Tryd.prog laidL w) ∧ sizedMet enc Tryd.prog Tryd.f5 (OpenSpec.ofChange Rows.treeBindsSpec) false w args)
      (Rows.treeBindsSpec.post enc Tryd.prog Tryd.f5 false true false false) := by
  refine returnsInHanded_of_change_and (C := Tryd.checked) (X := fun w _ => laidMetH Tryd.prog laidL w) (fun _ _ _ hh h => h.of_heap hh) own started (by kernel_rfl) Tryd.func5
    (ChangeSpec.witness_shaped (enc := enc) (C := Tryd.checked) (os := os) (X := fun w _ => laidMetH Tryd.prog laidL w) false (World.doorLaid Tryd.prog 400 os) #[.agg (Array.replicate 32 (.int .u8 0) ++ #[.int .i64 0, .int .i64 0]), .agg (Array.replicate 32 (.int .u8 0) ++ #[.int .i64 0, .int .i64 0]), .int .i64 0, .int .i64 0, .slice none 0 0, .slice none 0 0] 8 rfl (World.shaped_of_RefB (by kernel_rfl) (by kernel_rfl)) (by kernel_rfl) (by kernel_rfl) (by kernel_rfl) (door_met os _)) ?_
  intro W base args ds gs before hval0 hW _ hsz0 hL _
  have hval : ∀ (j : Nat) t v, Tryd.f5.params[j]? = some t → args[j]? = some v → Value.okWide Tryd.prog W .any base t v := hval0
  have hW' := hW
  obtain ⟨p, q, hA0, hV, rfl, hfz, hnd⟩ := hW
  have hA : DataW.TrodAll enc Tryd.prog W 0 (fun _ => true) true Tryd.f5.params.toList args.toList ds p := hA0
  have hsz : (DataW.weightsEach Tryd.prog (Tryd.f5.params.toList ++ Rows.treeBindsSpec.plain.varTypes Tryd.prog) (ds ++ gs)).all (· ≤ reachBytes) = true := hsz0
  rw [Tryd.params5] at hA hval hsz
  obtain ⟨v0, vs0, d0, ds0, p0, q0, hargs, rfl, rfl, h0, r0⟩ := trodAll_cons hA
  obtain ⟨v1, vs1, d1, ds1, p1, q1, rfl, rfl, rfl, h1, r1⟩ := trodAll_cons r0
  obtain ⟨v2, vs2, d2, ds2, p2, q2, rfl, rfl, rfl, h2, r2⟩ := trodAll_cons r1
  obtain ⟨v3, vs3, d3, ds3, p3, q3, rfl, rfl, rfl, h3, r3⟩ := trodAll_cons r2
  obtain ⟨v4, vs4, d4, ds4, p4, q4, rfl, rfl, rfl, h4, r4⟩ := trodAll_cons r3
  obtain ⟨v5, vs5, d5, ds5, p5, q5, rfl, rfl, rfl, h5, r5⟩ := trodAll_cons r4
  obtain ⟨rfl, rfl, rfl⟩ := trodAll_nil r5
  obtain rfl : args = #[v0, v1, v2, v3, v4, v5] := by cases args; simp_all
  obtain ⟨rfl, rfl⟩ := trodVars_none hV
  obtain ⟨l0, rfl, e0⟩ := arg_nd (hval 0 26 v0 rfl rfl) h0
  obtain ⟨l1, rfl, e1⟩ := arg_nd (hval 1 26 v1 rfl rfl) h1
  obtain ⟨a2, rfl, rfl, rfl, w2⟩ := open_int Tryd.underlying3 (hval 2 3 v2 rfl rfl) h2
  have b2 := bounds_i64 w2
  obtain ⟨a3, rfl, rfl, rfl, w3⟩ := open_int Tryd.underlying3 (hval 3 3 v3 rfl rfl) h3
  have b3 := bounds_i64 w3
  obtain ⟨A4, n4, c4, l4, rfl, e4, f4⟩ := arg_nds (hval 4 22 v4 rfl rfl) h4
  obtain ⟨A5, n5, c5, l5, rfl, e5, f5⟩ := arg_nds (hval 5 22 v5 rfl rfl) h5
  refine (walk W (tabs_of hL) l0 e0 l1 e1 a2 b2.1 b2.2 a3 b3.1 b3.2 A4 n4 c4 l4 e4 f4 A5 n5 c5 l5 e5 f5).mono fun e W' ⟨he, hg⟩ => ?_
  subst he
  exact ⟨_, rfl, law_post (by kernel_rfl) rfl rfl (fun _ => ⟨rfl, rfl, rfl⟩) hW' hg⟩
theorem over : Rows.treeBindsRow.holds Tryd.pinned (OpenSpec.ofChange Rows.treeBindsSpec) :=
  OpenClaim.holds_of_wide 5 Tryd.f5 rfl rfl rfl rfl rfl rfl rfl ⟨rfl, rfl, rfl, rfl, rfl⟩ rfl rfl rfl rfl rfl (by kernel_rfl) Tryd.func5 (by kernel_rfl)
    (of_decide_eq_true (by kernel_rfl)) (by unfold Func.isWrapper; first | (rw [if_pos (by decide +kernel)]; kernel_rfl) | (rw [if_neg (by decide +kernel)]; exact ⟨rfl, rfl⟩))
    (fun os started H enc _ => lifted os started H enc)
/-- THE STATEMENT: the card -/
theorem proved : Rows.TreeBindsCardSaid :=
  Claim7.holds_tied_plain_at .later [] [.data, .data] true Rows.treeBindsCard.stood.harness false
    over (fun _ h => by cases h) (by kernel_rfl) (fun _ h => by cases h) treeBinds_row_tie rfl ⟨rfl, rfl⟩ (by kernel_rfl) rfl
    (fun f fn hf hfn => by
      obtain rfl : f = 5 := Option.some.inj ((show Tryd.prog.funcNamed "sizar/sizarlaw41.TreeBinds" = some 5 by kernel_rfl).symm.trans hf) |>.symm
      obtain rfl : fn = Tryd.f5 := (Option.some.inj (Tryd.func5.symm.trans hfn)).symm
      exact ⟨by kernel_rfl, fun j t ht => stands_of (show Tryd.f5.params.all (fun t => !Tryd.prog.wantsStandIn t) = true by kernel_rfl) ht⟩)
    (by kernel_rfl)
#print axioms proved
end Go.Proofs.YtgcmbiegbclhmaaDoor.treeBinds
