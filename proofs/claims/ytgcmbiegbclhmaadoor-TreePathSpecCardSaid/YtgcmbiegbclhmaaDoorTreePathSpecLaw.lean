/- The law TreePathSpec holds: Path and Climb of the program are those of the reference, for all nodes, indices and paths. -/
import Derived.Test.YtgcmbiegbclhmaaDoorRefC
import Derived.Test.YtgcmbiegbclhmaaDoorTreeSane
import Derived.Test.YtgcmbiegbclhmaaDoorArgNd
import Derived.Test.YtgcmbiegbclhmaaDoorTreeLawKit
import Derived.Lib.SmallJoins
import Derived.Test.YtgcmbiegbclhmaaDoorCards
import Derived.Test.YtgcmbiegbclhmaaDoorTie
namespace Go.Proofs.YtgcmbiegbclhmaaDoor.treePathSpec
open Go.ChangeShapes Go.WideShapes Go.ChangeAt Go.RowKit SzSha SzTree
set_option linter.unusedVariables false
set_option maxRecDepth 100000
theorem pathR_le (ls : List Nd) (i : Int) : (pathR ls i).length ≤ ls.length := by
  unfold pathR
  split
  · simp
  · split
    · simp
    · exact pathN_le _ _
set_option maxRecDepth 100000 in
set_option maxHeartbeats 8000000 in
theorem main (ls : List Nd) (A : Option Addr) (n c : Nat) (nd : Nd) (i m : Int) (ps : List Nd) (A2 : Option Addr) (n2 c2 : Nat) (w : World) (HI : Hid (InN w A n c ls)) (hn : n ≤ 9223372036854775807) (HND : Hid (NdOk nd)) (hi : -9223372036854775808 ≤ i ∧ i ≤ 9223372036854775807) (hm : -9223372036854775808 ≤ m ∧ m ≤ 9223372036854775807) (HP : Hid (InN w A2 n2 c2 ps)) (hn2 : n2 ≤ 9223372036854775807) (hT : Hid (Tabs w)) (h : n ≤ 100) (h2 : n2 ≤ 20) :
    Calls Tryd.prog 4 #[.slice A n c, ndV nd, .int .i64 i, .int .i64 m, .slice A2 n2 c2] w fun e w' => e = .returned (.bool true) ∧ Below w.heap.size w w' := by
  have hb0 := (Below.refl _ w).alloc (Nat.le_refl _) (.cells (ndC nd).toArray 26)
  have HB0 := Lib.hid hb0
  have RA := Lib.hid (heap_alloc_new w (.cells (ndC nd).toArray 26))
  have HI0 := Lib.hid (HI.out.below hb0)
  have HP0 := Lib.hid (HP.out.below hb0)
  have HIN := Lib.hid HI.out.len
  clear hb0
  obtain ⟨x, HX⟩ : ∃ x, Hid (pathR ls i = x) := ⟨_, Lib.hid rfl⟩
  obtain ⟨e1, HE1⟩ : ∃ x, Hid (pathE ls i = x) := ⟨_, Lib.hid rfl⟩
  obtain ⟨y, HY⟩ : ∃ x, Hid (climbR nd i m ps = x) := ⟨_, Lib.hid rfl⟩
  obtain ⟨e2, HE2⟩ : ∃ x, Hid (climbE nd i m ps = x) := ⟨_, Lib.hid rfl⟩
  have HYO : Hid (NdOk y) := Lib.hid (by rw [← HY.out]; exact climbR_okN HND.out HP.out.ok)
  have HXL : Hid (x.length ≤ 1000) := Lib.hid (by rw [← HX.out]; exact Nat.le_trans (pathR_le ls i) (by rw [HIN.out]; omega))
  have HSM : Hid (sameN x x = true) := Lib.hid ((sameN_iff x x).2 rfl)
  have d0 : decide ((100 : Int) < (n : Int)) = false := decide_eq_false (by omega)
  have d00 : decide (100 < n) = false := decide_eq_false (by omega)
  have d1 : decide ((20 : Int) < (n2 : Int)) = false := decide_eq_false (by omega)
  have d11 : decide (20 < n2) = false := decide_eq_false (by omega)
  rw [show ndV nd = .agg (ndC nd).toArray from rfl]
  go_enter Tryd.func4, Tryd.ntmps4
  go_wp2_with fail
  refine (sane_any _ (Lib.hid (hT.out.below HB0.out))).mono ?_
  rintro e U1 ⟨rfl, hq⟩
  have HB1 := Lib.hid (HB0.out.trans (hq.mono HB0.out.size))
  have R6_1 := Lib.hid (row_kept RA.out hq)
  have HI0_1 := Lib.hid (HI0.out.below hq)
  have HP0_1 := Lib.hid (HP0.out.below hq)
  clear hq HB0 RA HI0 HP0
  go_wp2_with fail
  refine (path_any ls A n c i _ hn HI0_1 (Lib.hid (hT.out.below HB1.out))).mono ?_
  rintro e U2 ⟨A3, n3, c3, rfl, hin3, hq⟩
  rw [HE1.out]
  rw [HX.out] at hin3
  have HJ3 := Lib.hid hin3
  clear hin3
  have HB2 := Lib.hid (HB1.out.trans (hq.mono HB1.out.size))
  have R6_2 := Lib.hid (row_kept R6_1.out hq)
  have HI0_2 := Lib.hid (HI0_1.out.below hq)
  have HP0_2 := Lib.hid (HP0_1.out.below hq)
  clear hq HB1 R6_1 HI0_1 HP0_1
  go_wp2_with fail
  refine (rPath_any ls A n c i _ hn HI0_2).mono ?_
  rintro e U3 ⟨A4, n4, c4, rfl, hin4, hq⟩
  rw [HE1.out]
  rw [HX.out] at hin4
  have HJ4 := Lib.hid hin4
  clear hin4
  have HB3 := Lib.hid (HB2.out.trans (hq.mono HB2.out.size))
  have R6_3 := Lib.hid (row_kept R6_2.out hq)
  have HI0_3 := Lib.hid (HI0_2.out.below hq)
  have HP0_3 := Lib.hid (HP0_2.out.below hq)
  have HJ3_3 := Lib.hid (HJ3.out.below hq)
  clear hq HB2 R6_2 HI0_2 HP0_2 HJ3
  go_wp2_with (refine wpList_load_row rfl 26 (.tmp 6) rfl w.heap.size rfl 26 _ (0, 0) _ R6_3.out Tryd.underlying26 rfl (size34' HND.out) ?_)
  refine (climb_any nd i m ps A2 n2 c2 _ HND.out hi hm hn2 HP0_3 (Lib.hid (hT.out.below HB3.out))).mono ?_
  rintro e U4 ⟨rfl, hq⟩
  rw [HY.out, HE2.out]
  have HB4 := Lib.hid (HB3.out.trans (hq.mono HB3.out.size))
  have R6_4 := Lib.hid (row_kept R6_3.out hq)
  have HI0_4 := Lib.hid (HI0_3.out.below hq)
  have HP0_4 := Lib.hid (HP0_3.out.below hq)
  have HJ3_4 := Lib.hid (HJ3_3.out.below hq)
  have HJ4_4 := Lib.hid (HJ4.out.below hq)
  clear hq HB3 R6_3 HI0_3 HP0_3 HJ3_3 HJ4
  obtain ⟨V4, HV4⟩ : ∃ V, Hid ((U4.alloc (.cells (ndC zeroN).toArray 26)).setRow U4.heap.size (ndC y).toArray = V) := ⟨_, Lib.hid rfl⟩
  have hlr := laid_row U4 (ndC zeroN).toArray (ndC y).toArray 26
  rw [HV4.out] at hlr
  have HZ4 := Lib.hid (heap_alloc_new U4 (.cells (ndC zeroN).toArray 26))
  have HT4 : Hid (34 = (ndC y).toArray.size) := Lib.hid (by simp [ndC_length HYO.out])
  rw [zeroN_cells] at HZ4 HV4
  have hq := hlr.1
  have HB5 := Lib.hid (HB4.out.trans (hq.mono HB4.out.size))
  have R6_5 := Lib.hid (row_kept R6_4.out hq)
  have HI0_5 := Lib.hid (HI0_4.out.below hq)
  have HP0_5 := Lib.hid (HP0_4.out.below hq)
  have HJ3_5 := Lib.hid (HJ3_4.out.below hq)
  have HJ4_5 := Lib.hid (HJ4_4.out.below hq)
  have R15_n := Lib.hid hlr.2.2
  clear hq hlr HB4 R6_4 HI0_4 HP0_4 HJ3_4 HJ4_4
  go_wp2_with (first | (refine wpList_store_row rfl 26 (.tmp 15) (.tmp 47) rfl U4.heap.size (ndC y).toArray rfl rfl 26 _ HZ4.out (size34' HYO.out) HT4.out (ndC_one y) ?_; rw [HV4.out]) | (refine wpList_load_row rfl 26 (.tmp 6) rfl w.heap.size rfl 26 _ (0, 0) _ R6_5.out Tryd.underlying26 rfl (size34' HND.out) ?_))
  refine (rClimb_any nd i m ps A2 n2 c2 _ hn2 HP0_5 HND).mono ?_
  rintro e U5 ⟨rfl, hq⟩
  rw [HY.out, HE2.out]
  have HB6 := Lib.hid (HB5.out.trans (hq.mono HB5.out.size))
  have R6_6 := Lib.hid (row_kept R6_5.out hq)
  have R15_6 := Lib.hid (row_kept R15_n.out hq)
  have HI0_6 := Lib.hid (HI0_5.out.below hq)
  have HP0_6 := Lib.hid (HP0_5.out.below hq)
  have HJ3_6 := Lib.hid (HJ3_5.out.below hq)
  have HJ4_6 := Lib.hid (HJ4_5.out.below hq)
  clear hq HB5 R6_5 R15_n HI0_5 HP0_5 HJ3_5 HJ4_5
  obtain ⟨V5, HV5⟩ : ∃ V, Hid ((U5.alloc (.cells (ndC zeroN).toArray 26)).setRow U5.heap.size (ndC y).toArray = V) := ⟨_, Lib.hid rfl⟩
  have hlr := laid_row U5 (ndC zeroN).toArray (ndC y).toArray 26
  rw [HV5.out] at hlr
  have HZ5 := Lib.hid (heap_alloc_new U5 (.cells (ndC zeroN).toArray 26))
  have HT5 : Hid (34 = (ndC y).toArray.size) := Lib.hid (by simp [ndC_length HYO.out])
  rw [zeroN_cells] at HZ5 HV5
  have hq := hlr.1
  have HB7 := Lib.hid (HB6.out.trans (hq.mono HB6.out.size))
  have R6_7 := Lib.hid (row_kept R6_6.out hq)
  have R15_7 := Lib.hid (row_kept R15_6.out hq)
  have HI0_7 := Lib.hid (HI0_6.out.below hq)
  have HP0_7 := Lib.hid (HP0_6.out.below hq)
  have HJ3_7 := Lib.hid (HJ3_6.out.below hq)
  have HJ4_7 := Lib.hid (HJ4_6.out.below hq)
  have R17_n := Lib.hid hlr.2.2
  clear hq hlr HB6 R6_6 R15_6 HI0_6 HP0_6 HJ3_6 HJ4_6
  go_wp2_with (refine wpList_store_row rfl 26 (.tmp 17) (.tmp 55) rfl U5.heap.size (ndC y).toArray rfl rfl 26 _ HZ5.out (size34' HYO.out) HT5.out (ndC_one y) ?_; rw [HV5.out])
  have hl3 : n3 ≤ 1000000 := by rw [← HJ3_7.out.len]; have := HXL.out; omega
  have hl4 : n4 ≤ 1000000 := by rw [← HJ4_7.out.len]; have := HXL.out; omega
  refine (same_any x x A3 A4 n3 c3 n4 c4 _ hl3 hl4 HJ3_7 HJ4_7).mono ?_
  rintro e U6 ⟨rfl, hq⟩
  rw [HSM.out]
  have HB8 := Lib.hid (HB7.out.trans (hq.mono HB7.out.size))
  have R6_8 := Lib.hid (row_kept R6_7.out hq)
  have R15_8 := Lib.hid (row_kept R15_7.out hq)
  have R17_8 := Lib.hid (row_kept R17_n.out hq)
  have HI0_8 := Lib.hid (HI0_7.out.below hq)
  have HP0_8 := Lib.hid (HP0_7.out.below hq)
  have HJ3_8 := Lib.hid (HJ3_7.out.below hq)
  have HJ4_8 := Lib.hid (HJ4_7.out.below hq)
  clear hq HB7 R6_7 R15_7 R17_n HI0_7 HP0_7 HJ3_7 HJ4_7
  have q1 : (e1 == e1) = true := beq_self_eq_true e1
  have q2 : (e2 == e2) = true := beq_self_eq_true e2
  have q3 : decide (e1 = e1) = true := decide_eq_true rfl
  have q4 : decide (e2 = e2) = true := decide_eq_true rfl
  go_wp2_with (first | (refine wpList_unguard rfl ?_; refine wpList_load_row rfl 26 (.tmp 15) rfl U4.heap.size rfl 26 _ (0, 0) _ R15_8.out Tryd.underlying26 rfl (size34' HYO.out) ?_) | (refine wpList_unguard rfl ?_; refine wpList_load_row rfl 26 (.tmp 17) rfl U5.heap.size rfl 26 _ (0, 0) _ R17_8.out Tryd.underlying26 rfl (size34' HYO.out) ?_) | (refine wpList_unguard rfl ?_; refine wpList_eql_nd rfl (.tmp 66) (.tmp 67) _ rfl y y rfl rfl HYO.out HYO.out ?_; rw [ndEq_refl]))
  go_ret
  exact ⟨rfl, HB8.out⟩
set_option maxRecDepth 100000 in
set_option maxHeartbeats 8000000 in
theorem big (ls : List Nd) (A : Option Addr) (n c : Nat) (nd : Nd) (i m : Int) (ps : List Nd) (A2 : Option Addr) (n2 c2 : Nat) (w : World) (HI : Hid (InN w A n c ls)) (hn : n ≤ 9223372036854775807) (HND : Hid (NdOk nd)) (hi : -9223372036854775808 ≤ i ∧ i ≤ 9223372036854775807) (hm : -9223372036854775808 ≤ m ∧ m ≤ 9223372036854775807) (HP : Hid (InN w A2 n2 c2 ps)) (hn2 : n2 ≤ 9223372036854775807) (hT : Hid (Tabs w)) (h : 100 < n) :
    Calls Tryd.prog 4 #[.slice A n c, ndV nd, .int .i64 i, .int .i64 m, .slice A2 n2 c2] w fun e w' => e = .returned (.bool true) ∧ Below w.heap.size w w' := by
  have hb0 := (Below.refl _ w).alloc (Nat.le_refl _) (.cells (ndC nd).toArray 26)
  have HB0 := Lib.hid hb0
  have RA := Lib.hid (heap_alloc_new w (.cells (ndC nd).toArray 26))
  have HI0 := Lib.hid (HI.out.below hb0)
  have HP0 := Lib.hid (HP.out.below hb0)
  have HIN := Lib.hid HI.out.len
  clear hb0
  have d0 : decide ((100 : Int) < (n : Int)) = true := decide_eq_true (by omega)
  have d00 : decide (100 < n) = true := decide_eq_true (by omega)
  rw [show ndV nd = .agg (ndC nd).toArray from rfl]
  go_enter Tryd.func4, Tryd.ntmps4
  go_wp2_with fail
  refine (sane_any _ (Lib.hid (hT.out.below HB0.out))).mono ?_
  rintro e U1 ⟨rfl, hq⟩
  have HB1 := Lib.hid (HB0.out.trans (hq.mono HB0.out.size))
  have R6_1 := Lib.hid (row_kept RA.out hq)
  have HI0_1 := Lib.hid (HI0.out.below hq)
  have HP0_1 := Lib.hid (HP0.out.below hq)
  clear hq HB0 RA HI0 HP0
  go_wp2_with fail
  go_ret
  exact ⟨rfl, HB1.out⟩
set_option maxRecDepth 100000 in
set_option maxHeartbeats 8000000 in
theorem long (ls : List Nd) (A : Option Addr) (n c : Nat) (nd : Nd) (i m : Int) (ps : List Nd) (A2 : Option Addr) (n2 c2 : Nat) (w : World) (HI : Hid (InN w A n c ls)) (hn : n ≤ 9223372036854775807) (HND : Hid (NdOk nd)) (hi : -9223372036854775808 ≤ i ∧ i ≤ 9223372036854775807) (hm : -9223372036854775808 ≤ m ∧ m ≤ 9223372036854775807) (HP : Hid (InN w A2 n2 c2 ps)) (hn2 : n2 ≤ 9223372036854775807) (hT : Hid (Tabs w)) (h : n ≤ 100) (h2 : 20 < n2) :
    Calls Tryd.prog 4 #[.slice A n c, ndV nd, .int .i64 i, .int .i64 m, .slice A2 n2 c2] w fun e w' => e = .returned (.bool true) ∧ Below w.heap.size w w' := by
  have hb0 := (Below.refl _ w).alloc (Nat.le_refl _) (.cells (ndC nd).toArray 26)
  have HB0 := Lib.hid hb0
  have RA := Lib.hid (heap_alloc_new w (.cells (ndC nd).toArray 26))
  have HI0 := Lib.hid (HI.out.below hb0)
  have HP0 := Lib.hid (HP.out.below hb0)
  have HIN := Lib.hid HI.out.len
  clear hb0
  have d0 : decide ((100 : Int) < (n : Int)) = false := decide_eq_false (by omega)
  have d00 : decide (100 < n) = false := decide_eq_false (by omega)
  have d1 : decide ((20 : Int) < (n2 : Int)) = true := decide_eq_true (by omega)
  have d11 : decide (20 < n2) = true := decide_eq_true (by omega)
  rw [show ndV nd = .agg (ndC nd).toArray from rfl]
  go_enter Tryd.func4, Tryd.ntmps4
  go_wp2_with fail
  refine (sane_any _ (Lib.hid (hT.out.below HB0.out))).mono ?_
  rintro e U1 ⟨rfl, hq⟩
  have HB1 := Lib.hid (HB0.out.trans (hq.mono HB0.out.size))
  have R6_1 := Lib.hid (row_kept RA.out hq)
  have HI0_1 := Lib.hid (HI0.out.below hq)
  have HP0_1 := Lib.hid (HP0.out.below hq)
  clear hq HB0 RA HI0 HP0
  go_wp2_with fail
  go_ret
  exact ⟨rfl, HB1.out⟩
theorem walk (w : World) (hT : Tabs w) (A : Option Addr) (n c : Nat) (ls : List Nd) (hl : InN w A n c ls) (hlm : n ≤ maxLen) (a : Nd) (ha : NdOk a) (i : Int) (i1 : -9223372036854775808 ≤ i) (i2 : i ≤ 9223372036854775807) (m : Int) (m1 : -9223372036854775808 ≤ m) (m2 : m ≤ 9223372036854775807) (A2 : Option Addr) (n2 c2 : Nat) (ps : List Nd) (hp : InN w A2 n2 c2 ps) (hpm : n2 ≤ maxLen) :
    Calls Tryd.prog 4 #[.slice A n c, ndV a, .int .i64 i, .int .i64 m, .slice A2 n2 c2] w fun e w' => e = .returned (.bool true) ∧ Below w.heap.size w w' := by
  have hn : n ≤ 9223372036854775807 := by unfold maxLen at hlm; omega
  have hn2 : n2 ≤ 9223372036854775807 := by unfold maxLen at hpm; omega
  by_cases h : n ≤ 100
  · by_cases h2 : n2 ≤ 20
    · exact main ls A n c a i m ps A2 n2 c2 w (Lib.hid hl) hn (Lib.hid ha) ⟨i1, i2⟩ ⟨m1, m2⟩ (Lib.hid hp) hn2 (Lib.hid hT) h h2
    · exact long ls A n c a i m ps A2 n2 c2 w (Lib.hid hl) hn (Lib.hid ha) ⟨i1, i2⟩ ⟨m1, m2⟩ (Lib.hid hp) hn2 (Lib.hid hT) h (by omega)
  · exact big ls A n c a i m ps A2 n2 c2 w (Lib.hid hl) hn (Lib.hid ha) ⟨i1, i2⟩ ⟨m1, m2⟩ (Lib.hid hp) hn2 (Lib.hid hT) (by omega)
set_option maxRecDepth 100000 in
theorem lifted (os : Os) (started : os.Started) (H : Type) (enc : TypeId × Value → H) :
    ReturnsInHanded {} Tryd.checked os 4 .any (fun w args => (Rows.treePathSpecSpec.pre enc Tryd.prog Tryd.f4 [] false w args ∧ laidMetH Tryd.prog laidL w) ∧ sizedMet enc Tryd.prog Tryd.f4 (OpenSpec.ofChange Rows.treePathSpecSpec) false w args)
      (Rows.treePathSpecSpec.post enc Tryd.prog Tryd.f4 false true false false) := by
  refine returnsInHanded_of_change_and (C := Tryd.checked) (X := fun w _ => laidMetH Tryd.prog laidL w) (fun _ _ _ hh h => h.of_heap hh) own started (by kernel_rfl) Tryd.func4
    (ChangeSpec.witness_shaped (enc := enc) (C := Tryd.checked) (os := os) (X := fun w _ => laidMetH Tryd.prog laidL w) false (World.doorLaid Tryd.prog 400 os) #[.slice none 0 0, .agg (Array.replicate 32 (.int .u8 0) ++ #[.int .i64 0, .int .i64 0]), .int .i64 0, .int .i64 0, .slice none 0 0] 8 rfl (World.shaped_of_RefB (by kernel_rfl) (by kernel_rfl)) (by kernel_rfl) (by kernel_rfl) (by kernel_rfl) (door_met os _)) ?_
  intro W base args ds gs before hval0 hW _ hsz0 hL _
  have hval : ∀ (j : Nat) t v, Tryd.f4.params[j]? = some t → args[j]? = some v → Value.okWide Tryd.prog W .any base t v := hval0
  have hW' := hW
  obtain ⟨p, q, hA0, hV, rfl, hfz, hnd⟩ := hW
  have hA : DataW.TrodAll enc Tryd.prog W 0 (fun _ => true) true Tryd.f4.params.toList args.toList ds p := hA0
  have hsz : (DataW.weightsEach Tryd.prog (Tryd.f4.params.toList ++ Rows.treePathSpecSpec.plain.varTypes Tryd.prog) (ds ++ gs)).all (· ≤ reachBytes) = true := hsz0
  rw [Tryd.params4] at hA hval hsz
  obtain ⟨v0, vs0, d0, ds0, p0, q0, hargs, rfl, rfl, h0, r0⟩ := trodAll_cons hA
  obtain ⟨v1, vs1, d1, ds1, p1, q1, rfl, rfl, rfl, h1, r1⟩ := trodAll_cons r0
  obtain ⟨v2, vs2, d2, ds2, p2, q2, rfl, rfl, rfl, h2, r2⟩ := trodAll_cons r1
  obtain ⟨v3, vs3, d3, ds3, p3, q3, rfl, rfl, rfl, h3, r3⟩ := trodAll_cons r2
  obtain ⟨v4, vs4, d4, ds4, p4, q4, rfl, rfl, rfl, h4, r4⟩ := trodAll_cons r3
  obtain ⟨rfl, rfl, rfl⟩ := trodAll_nil r4
  obtain rfl : args = #[v0, v1, v2, v3, v4] := by cases args; simp_all
  obtain ⟨rfl, rfl⟩ := trodVars_none hV
  obtain ⟨A0, n0, c0, l0, rfl, e0, f0⟩ := arg_nds (hval 0 22 v0 rfl rfl) h0
  obtain ⟨l1, rfl, e1⟩ := arg_nd (hval 1 26 v1 rfl rfl) h1
  obtain ⟨a2, rfl, rfl, rfl, w2⟩ := open_int Tryd.underlying3 (hval 2 3 v2 rfl rfl) h2
  have b2 := bounds_i64 w2
  obtain ⟨a3, rfl, rfl, rfl, w3⟩ := open_int Tryd.underlying3 (hval 3 3 v3 rfl rfl) h3
  have b3 := bounds_i64 w3
  obtain ⟨A4, n4, c4, l4, rfl, e4, f4⟩ := arg_nds (hval 4 22 v4 rfl rfl) h4
  refine (walk W (tabs_of hL) A0 n0 c0 l0 e0 f0 l1 e1 a2 b2.1 b2.2 a3 b3.1 b3.2 A4 n4 c4 l4 e4 f4).mono fun e W' ⟨he, hg⟩ => ?_
  subst he
  exact ⟨_, rfl, law_post (by kernel_rfl) rfl rfl (fun _ => ⟨rfl, rfl, rfl⟩) hW' hg⟩
theorem over : Rows.treePathSpecRow.holds Tryd.pinned (OpenSpec.ofChange Rows.treePathSpecSpec) :=
  OpenClaim.holds_of_wide 4 Tryd.f4 rfl rfl rfl rfl rfl rfl rfl ⟨rfl, rfl, rfl, rfl, rfl⟩ rfl rfl rfl rfl rfl (by kernel_rfl) Tryd.func4 (by kernel_rfl)
    (of_decide_eq_true (by kernel_rfl)) (by unfold Func.isWrapper; first | (rw [if_pos (by decide +kernel)]; kernel_rfl) | (rw [if_neg (by decide +kernel)]; exact ⟨rfl, rfl⟩))
    (fun os started H enc _ => lifted os started H enc)
/-- THE STATEMENT: the card -/
theorem proved : Rows.TreePathSpecCardSaid :=
  Claim7.holds_tied_plain_at .later [] [.data, .data] true Rows.treePathSpecCard.stood.harness false
    over (fun _ h => by cases h) (by kernel_rfl) (fun _ h => by cases h) treePathSpec_row_tie rfl ⟨rfl, rfl⟩ (by kernel_rfl) rfl
    (fun f fn hf hfn => by
      obtain rfl : f = 4 := Option.some.inj ((show Tryd.prog.funcNamed "sizar/sizarlaw41.TreePathSpec" = some 4 by kernel_rfl).symm.trans hf) |>.symm
      obtain rfl : fn = Tryd.f4 := (Option.some.inj (Tryd.func4.symm.trans hfn)).symm
      exact ⟨by kernel_rfl, fun j t ht => stands_of (show Tryd.f4.params.all (fun t => !Tryd.prog.wantsStandIn t) = true by kernel_rfl) ht⟩)
    (by kernel_rfl)
#print axioms proved
end Go.Proofs.YtgcmbiegbclhmaaDoor.treePathSpec
