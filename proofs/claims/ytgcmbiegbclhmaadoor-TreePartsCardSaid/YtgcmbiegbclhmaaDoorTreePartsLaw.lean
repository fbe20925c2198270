/- TreeParts: for all nodes the law returns true: the root of nodes is Join of the roots of both parts, and sums do not depend on the order. No conditions. -/
import Derived.Test.YtgcmbiegbclhmaaDoorArgNd
import Derived.Test.YtgcmbiegbclhmaaDoorTreeLawKit
import Derived.Lib.SmallJoins
import Derived.Test.YtgcmbiegbclhmaaDoorCards
import Derived.Test.YtgcmbiegbclhmaaDoorTie
namespace Go.Proofs.YtgcmbiegbclhmaaDoor.treeParts
open Go.ChangeShapes Go.WideShapes Go.ChangeAt Go.RowKit SzSha SzTree
set_option linter.unusedVariables false
theorem sumC_reverse : ∀ l : List Nd, sumC l.reverse = sumC l
  | [] => rfl
  | n :: l => by rw [List.reverse_cons, sumC_append, sumC_reverse l]; simp only [sumC]; omega
theorem sumP_reverse : ∀ l : List Nd, sumP l.reverse = sumP l
  | [] => rfl
  | n :: l => by rw [List.reverse_cons, sumP_append, sumP_reverse l]; simp only [sumP]; omega
theorem vL_reverse (l : List Nd) : vL l.reverse = vL l := by
  unfold vL; rw [List.all_reverse]; simp only [sumC_reverse]
def wP1 (ga : Nat) (off : Nat) (c : Nat) (y : Nd) : Nat → Value → World → Prop
  | 0, fv, _ => fv = ndV y
  | 1, fv, _ => fv = Value.slice (some ⟨ga, off, none⟩) 1 c
  | 2, fv, _ => fv = Value.pointer (some ⟨ga, off, none⟩)
  | 3, fv, _ => fv = ndV y
  | 4, fv, _ => fv = Value.bool true
  | 5, fv, _ => fv = Value.bool true
  | _, _, _ => True
set_option maxRecDepth 100000 in
set_option maxHeartbeats 8000000 in
theorem big (ls : List Nd) (A : Option Addr) (n c : Nat) (w : World) (HI : Hid (InN w A n c ls)) (hT : Hid (Tabs w)) (h : 60 < n) :
    Calls Tryd.prog 6 #[.slice A n c] w fun e w' => e = .returned (.bool true) ∧ Below w.heap.size w w' := by
  have d0 : decide ((60 : Int) < (n : Int)) = true := decide_eq_true (by omega)
  have d00 : decide (60 < n) = true := decide_eq_true h
  have HNE := Lib.hid HI.out.len
  have hcap := HI.out.cap
  go_enter Tryd.func6, Tryd.ntmps6
  go_wp2_with fail
  refine (sane_any _ hT).mono ?_
  rintro e U1 ⟨rfl, hq⟩
  have HB1 := Lib.hid hq
  clear hq 
  go_wp2_with fail
  go_ret
  exact ⟨rfl, HB1.out⟩
set_option maxRecDepth 100000 in
set_option maxHeartbeats 8000000 in
theorem bad (ls : List Nd) (A : Option Addr) (n c : Nat) (w : World) (HI : Hid (InN w A n c ls)) (hT : Hid (Tabs w)) (h : n ≤ 60) (hno : ¬ (ls.length ≤ 4096 ∧ vL ls = true)) :
    Calls Tryd.prog 6 #[.slice A n c] w fun e w' => e = .returned (.bool true) ∧ Below w.heap.size w w' := by
  have d0 : decide ((60 : Int) < (n : Int)) = false := decide_eq_false (by omega)
  have d00 : decide (60 < n) = false := decide_eq_false (by omega)
  have HZO := Lib.hid zeroN_ok
  have HRR := Lib.hid (rootR_no (ls := ls) hno)
  clear hno
  by_cases hn1 : n = 1
  · have d1 : decide ((n : Int) = 1) = true := decide_eq_true (by omega)
    have d2 : decide (n = 1) = true := decide_eq_true hn1
    clear hn1
    have HNE := Lib.hid HI.out.len
    have hcap := HI.out.cap
    go_enter Tryd.func6, Tryd.ntmps6
    go_wp2_with fail
    refine (sane_any _ hT).mono ?_
    rintro e U1 ⟨rfl, hq⟩
    have HB1 := Lib.hid hq
    clear hq 
    go_wp2_with fail
    refine (root_any ls _ _ c _ (by omega) (Lib.hid (HI.out.below HB1.out)) (Lib.hid (hT.out.below HB1.out))).mono ?_
    rintro e U2 ⟨rfl, hq⟩
    rw [HRR.out.1, HRR.out.2]
    have HB2 := Lib.hid (HB1.out.trans (hq.mono HB1.out.size))
    clear hq HB1
    obtain ⟨V2, HV2⟩ : ∃ V, Hid ((U2.alloc (.cells (ndC zeroN).toArray 26)).setRow U2.heap.size (ndC zeroN).toArray = V) := ⟨_, Lib.hid rfl⟩
    have hlr := laid_row U2 (ndC zeroN).toArray (ndC zeroN).toArray 26
    rw [HV2.out] at hlr
    have HZ2 := Lib.hid (heap_alloc_new U2 (.cells (ndC zeroN).toArray 26))
    have HT2 : Hid (34 = (ndC zeroN).toArray.size) := Lib.hid (by simp [ndC_length HZO.out])
    rw [zeroN_cells] at HZ2 HV2
    have hq := hlr.1
    have HB3 := Lib.hid (HB2.out.trans (hq.mono HB2.out.size))
    have R3_n := Lib.hid hlr.2.2
    clear hq hlr HB2
    go_wp2_with (first | (refine wpList_store_row rfl 26 (.tmp 3) (.tmp 24) rfl U2.heap.size (ndC zeroN).toArray rfl rfl 26 _ HZ2.out (size34' HZO.out) HT2.out (ndC_one zeroN) ?_; rw [zeroN_cells]; rw [HV2.out]) | (refine wpList_load_row rfl 26 (.tmp 3) rfl U2.heap.size rfl 26 _ (0, 0) _ R3_n.out Tryd.underlying26 rfl (size34' HZO.out) ?_) | (refine wpList_zero_nd rfl ?_) | (refine wpList_eql_nd rfl (.tmp 45) (.tmp 46) _ rfl zeroN zeroN rfl rfl zeroN_ok zeroN_ok ?_; rw [ndEq_refl]))
    all_goals go_ret
    all_goals exact ⟨rfl, HB3.out⟩
  · have d1 : decide ((n : Int) = 1) = false := decide_eq_false (by omega)
    have d2 : decide (n = 1) = false := decide_eq_false hn1
    clear hn1
    have HNE := Lib.hid HI.out.len
    have hcap := HI.out.cap
    go_enter Tryd.func6, Tryd.ntmps6
    go_wp2_with fail
    refine (sane_any _ hT).mono ?_
    rintro e U1 ⟨rfl, hq⟩
    have HB1 := Lib.hid hq
    clear hq 
    go_wp2_with fail
    refine (root_any ls _ _ c _ (by omega) (Lib.hid (HI.out.below HB1.out)) (Lib.hid (hT.out.below HB1.out))).mono ?_
    rintro e U2 ⟨rfl, hq⟩
    rw [HRR.out.1, HRR.out.2]
    have HB2 := Lib.hid (HB1.out.trans (hq.mono HB1.out.size))
    clear hq HB1
    obtain ⟨V2, HV2⟩ : ∃ V, Hid ((U2.alloc (.cells (ndC zeroN).toArray 26)).setRow U2.heap.size (ndC zeroN).toArray = V) := ⟨_, Lib.hid rfl⟩
    have hlr := laid_row U2 (ndC zeroN).toArray (ndC zeroN).toArray 26
    rw [HV2.out] at hlr
    have HZ2 := Lib.hid (heap_alloc_new U2 (.cells (ndC zeroN).toArray 26))
    have HT2 : Hid (34 = (ndC zeroN).toArray.size) := Lib.hid (by simp [ndC_length HZO.out])
    rw [zeroN_cells] at HZ2 HV2
    have hq := hlr.1
    have HB3 := Lib.hid (HB2.out.trans (hq.mono HB2.out.size))
    have R3_n := Lib.hid hlr.2.2
    clear hq hlr HB2
    go_wp2_with (first | (refine wpList_store_row rfl 26 (.tmp 3) (.tmp 24) rfl U2.heap.size (ndC zeroN).toArray rfl rfl 26 _ HZ2.out (size34' HZO.out) HT2.out (ndC_one zeroN) ?_; rw [zeroN_cells]; rw [HV2.out]) | (refine wpList_load_row rfl 26 (.tmp 3) rfl U2.heap.size rfl 26 _ (0, 0) _ R3_n.out Tryd.underlying26 rfl (size34' HZO.out) ?_) | (refine wpList_zero_nd rfl ?_) | (refine wpList_eql_nd rfl (.tmp 45) (.tmp 46) _ rfl zeroN zeroN rfl rfl zeroN_ok zeroN_ok ?_; rw [ndEq_refl]))
    all_goals go_ret
    all_goals exact ⟨rfl, HB3.out⟩
set_option maxRecDepth 100000 in
set_option maxHeartbeats 8000000 in
theorem zero (ls : List Nd) (A : Option Addr) (n c : Nat) (w : World) (HI : Hid (InN w A n c ls)) (hT : Hid (Tabs w)) (hl : ls = []) :
    Calls Tryd.prog 6 #[.slice A n c] w fun e w' => e = .returned (.bool true) ∧ Below w.heap.size w w' := by
  have HEO := Lib.hid emptyN_ok
  have HZO := Lib.hid zeroN_ok
  have HRR : Hid (rootR ls = emptyN ∧ rootE ls = 0) := Lib.hid (by subst hl; exact rootR_nil)
  have h0 : n = 0 := by rw [← HI.out.len, hl]; rfl
  subst h0
  clear hl
  have HNE := Lib.hid HI.out.len
  have hcap := HI.out.cap
  go_enter Tryd.func6, Tryd.ntmps6
  go_wp2_with fail
  refine (sane_any _ hT).mono ?_
  rintro e U1 ⟨rfl, hq⟩
  have HB1 := Lib.hid hq
  clear hq 
  go_wp2_with fail
  refine (root_any ls _ _ c _ (by omega) (Lib.hid (HI.out.below HB1.out)) (Lib.hid (hT.out.below HB1.out))).mono ?_
  rintro e U2 ⟨rfl, hq⟩
  rw [HRR.out.1, HRR.out.2]
  have HB2 := Lib.hid (HB1.out.trans (hq.mono HB1.out.size))
  clear hq HB1
  obtain ⟨V2, HV2⟩ : ∃ V, Hid ((U2.alloc (.cells (ndC zeroN).toArray 26)).setRow U2.heap.size (ndC emptyN).toArray = V) := ⟨_, Lib.hid rfl⟩
  have hlr := laid_row U2 (ndC zeroN).toArray (ndC emptyN).toArray 26
  rw [HV2.out] at hlr
  have HZ2 := Lib.hid (heap_alloc_new U2 (.cells (ndC zeroN).toArray 26))
  have HT2 : Hid (34 = (ndC emptyN).toArray.size) := Lib.hid (by simp [ndC_length HEO.out])
  rw [zeroN_cells] at HZ2 HV2
  have hq := hlr.1
  have HB3 := Lib.hid (HB2.out.trans (hq.mono HB2.out.size))
  have R3_n := Lib.hid hlr.2.2
  clear hq hlr HB2
  obtain ⟨q, HQ⟩ : ∃ q, Hid (ndEq emptyN zeroN = q) := ⟨_, Lib.hid rfl⟩
  cases q
  · go_wp2_with (first | (refine wpList_store_row rfl 26 (.tmp 3) (.tmp 24) rfl U2.heap.size (ndC emptyN).toArray rfl rfl 26 _ HZ2.out (size34' HEO.out) HT2.out (ndC_one emptyN) ?_; rw [HV2.out]) | (refine wpList_load_row rfl 26 (.tmp 3) rfl U2.heap.size rfl 26 _ (0, 0) _ R3_n.out Tryd.underlying26 rfl (size34' HEO.out) ?_) | (refine wpList_zero_nd rfl ?_) | (refine wpList_eql_nd rfl (.tmp 45) (.tmp 46) _ rfl emptyN zeroN rfl rfl emptyN_ok zeroN_ok ?_; rw [HQ.out]))
    go_ret
    exact ⟨rfl, HB3.out⟩
  · go_wp2_with (first | (refine wpList_store_row rfl 26 (.tmp 3) (.tmp 24) rfl U2.heap.size (ndC emptyN).toArray rfl rfl 26 _ HZ2.out (size34' HEO.out) HT2.out (ndC_one emptyN) ?_; rw [HV2.out]) | (refine wpList_load_row rfl 26 (.tmp 3) rfl U2.heap.size rfl 26 _ (0, 0) _ R3_n.out Tryd.underlying26 rfl (size34' HEO.out) ?_) | (refine wpList_zero_nd rfl ?_) | (refine wpList_eql_nd rfl (.tmp 45) (.tmp 46) _ rfl emptyN zeroN rfl rfl emptyN_ok zeroN_ok ?_; rw [HQ.out]))
    go_ret
    exact ⟨rfl, HB3.out⟩
set_option maxRecDepth 100000 in
set_option maxHeartbeats 8000000 in
theorem one (ls : List Nd) (A : Option Addr) (n c : Nat) (w : World) (HI : Hid (InN w A n c ls)) (hT : Hid (Tabs w)) (y : Nd) (hl : ls = [y]) (hv : vL [y] = true) :
    Calls Tryd.prog 6 #[.slice A n c] w fun e w' => e = .returned (.bool true) ∧ Below w.heap.size w w' := by
  have HYO : Hid (NdOk y) := Lib.hid (HI.out.ok y (by rw [hl]; simp))
  have HRR : Hid (rootR ls = y ∧ rootE ls = 0) := Lib.hid (by subst hl; exact rootR_yes (by simp) hv (by simp))
  have h0 : n = 1 := by rw [← HI.out.len, hl]; rfl
  have HLY := Lib.hid hl
  subst h0
  clear hl hv
  obtain ⟨ga, off, rfl, hga, hr⟩ := HI.out.rd (by rw [HLY.out]; simp)
  have HRY : Hid (w.rangeAt ga off (ndC y)) := Lib.hid (by have := range_one hr HI.out.ok 0 (by rw [HLY.out]; simp); simpa [HLY.out] using this)
  have HGA := Lib.hid hga
  clear hr hga
  have HNE := Lib.hid HI.out.len
  have hcap := HI.out.cap
  go_enter Tryd.func6, Tryd.ntmps6
  go_wp2_with fail
  refine (sane_any _ hT).mono ?_
  rintro e U1 ⟨rfl, hq⟩
  have HB1 := Lib.hid hq
  clear hq 
  go_wp2_with fail
  refine (root_any ls _ _ c _ (by omega) (Lib.hid (HI.out.below HB1.out)) (Lib.hid (hT.out.below HB1.out))).mono ?_
  rintro e U2 ⟨rfl, hq⟩
  rw [HRR.out.1, HRR.out.2]
  have HB2 := Lib.hid (HB1.out.trans (hq.mono HB1.out.size))
  clear hq HB1
  obtain ⟨V2, HV2⟩ : ∃ V, Hid ((U2.alloc (.cells (ndC zeroN).toArray 26)).setRow U2.heap.size (ndC y).toArray = V) := ⟨_, Lib.hid rfl⟩
  have hlr := laid_row U2 (ndC zeroN).toArray (ndC y).toArray 26
  rw [HV2.out] at hlr
  have HZ2 := Lib.hid (heap_alloc_new U2 (.cells (ndC zeroN).toArray 26))
  have HT2 : Hid (34 = (ndC y).toArray.size) := Lib.hid (by simp [ndC_length HYO.out])
  rw [zeroN_cells] at HZ2 HV2
  have hq := hlr.1
  have HB3 := Lib.hid (HB2.out.trans (hq.mono HB2.out.size))
  have R3_n := Lib.hid hlr.2.2
  clear hq hlr HB2
  go_wp2_with (refine wpList_store_row rfl 26 (.tmp 3) (.tmp 24) rfl U2.heap.size (ndC y).toArray rfl rfl 26 _ HZ2.out (size34' HYO.out) HT2.out (ndC_one y) ?_; rw [HV2.out])
  refine region_flow3 (by kernel_rfl) (by kernel_rfl) (fun i => Nat.beq i 5) (fun i => i) (by kernel_rfl) (fun fx => #[Value.slice (some { block := ga, off := off }) 1 c, undef, fx 5, Value.pointer (some { block := U2.heap.size, off := 0 }), Value.int IntKind.i64 0, undef, undef, undef, undef, undef, undef, undef, undef, undef, undef, undef, Value.bool true, Value.bool false, Value.slice (some { block := ga, off := off }) 1 c, Value.int IntKind.i64 1, Value.bool false, Value.tuple #[ndV y, Value.int IntKind.i64 0], Value.slice (some { block := ga, off := off }) 1 c, Value.tuple #[ndV y, Value.int IntKind.i64 0], ndV y, Value.int IntKind.i64 0, Value.slice (some { block := ga, off := off }) 1 c, Value.int IntKind.i64 1, Value.bool true, Value.bool true, Value.int IntKind.i64 0, Value.bool true, Value.bool true, fx 0, fx 1, fx 2, fx 3, fx 4, undef, undef, undef, undef, undef, undef, undef, undef, undef, undef, undef, undef, undef, undef, undef, undef, undef, undef, undef, undef, undef, undef, undef, undef, undef, undef, undef, undef, undef, undef, undef, undef, undef, undef, undef, undef, undef, undef, undef, undef, undef, undef, undef, undef, undef, undef, undef, undef, undef, undef, undef, undef, undef, undef, undef, undef, undef, undef, undef, undef, undef, undef, undef, undef, undef, undef, undef, undef, undef, undef, undef, undef, undef, undef, undef, undef, undef, undef, undef, undef, undef, undef, undef, undef, undef, undef, undef, undef, undef, undef, undef, undef, undef, undef, undef, undef, undef, undef, undef, undef, undef, undef]) (fun i => bif Nat.beq i 5 then Value.bool false else undef) (fun L fx w' => Below V2.heap.size V2 w') (fun fi fv _ fw => wP1 ga off c y fi fv fw) (Below.refl _ _).drew ?_ ?_
  · refine ⟨?_, ?_, ?_, ?_, ?_, ?_, trivial⟩
    all_goals intro L fx w' hC hi hcl hdn hd
    · have hrow := row_kept R3_n.out hC
      refine wpList_load_row rfl 26 (.tmp 3) rfl U2.heap.size rfl 26 _ (0, 0) _ hrow Tryd.underlying26 rfl (size34' HYO.out) ?_
      clear hd
      go_wp2_with fail
      exact ⟨_, rfl, hC, rfl, fun _ _ _ _ _ h => h⟩
    · go_wp2_with fail
      exact ⟨_, rfl, hC, rfl, fun _ _ _ _ _ h => h⟩
    · have h1 : fx 1 = Value.slice (some ⟨ga, off, none⟩) 1 c := hd.1 rfl
      go_wp2_with fail
      exact ⟨_, by rw [← h1]; rfl, hC, rfl, fun _ _ _ _ _ h => h⟩
    · have h2 : fx 2 = Value.pointer (some ⟨ga, off, none⟩) := hd.1 rfl
      have HR := Lib.hid (rangeAt_below HRY.out HGA.out (HB3.out.trans (hC.mono HB3.out.size)))
      refine wpList_load_mid rfl 26 (.tmp 35) rfl ga off h2 (ndC y) _ HR.out Tryd.underlying26 rfl (size34 HYO.out) ?_
      clear hd
      go_wp2_with fail
      exact ⟨_, by rw [← h2]; rfl, hC, rfl, fun _ _ _ _ _ h => h⟩
    · have h0 : fx 0 = ndV y := hd.1 rfl
      have h3 : fx 3 = ndV y := hd.2.1 rfl
      refine wpList_eql_nd rfl (.tmp 33) (.tmp 36) _ rfl y y h0 h3 HYO.out HYO.out ?_
      rw [ndEq_refl]
      clear hd
      go_wp2_with fail
      exact ⟨_, by show _ = Act.mk #[Value.slice (some { block := ga, off := off }) 1 c, undef, fx 5, Value.pointer (some { block := U2.heap.size, off := 0 }), Value.int IntKind.i64 0, undef, undef, undef, undef, undef, undef, undef, undef, undef, undef, undef, Value.bool true, Value.bool false, Value.slice (some { block := ga, off := off }) 1 c, Value.int IntKind.i64 1, Value.bool false, Value.tuple #[ndV y, Value.int IntKind.i64 0], Value.slice (some { block := ga, off := off }) 1 c, Value.tuple #[ndV y, Value.int IntKind.i64 0], ndV y, Value.int IntKind.i64 0, Value.slice (some { block := ga, off := off }) 1 c, Value.int IntKind.i64 1, Value.bool true, Value.bool true, Value.int IntKind.i64 0, Value.bool true, Value.bool true, fx 0, fx 1, fx 2, fx 3, Value.bool true, undef, undef, undef, undef, undef, undef, undef, undef, undef, undef, undef, undef, undef, undef, undef, undef, undef, undef, undef, undef, undef, undef, undef, undef, undef, undef, undef, undef, undef, undef, undef, undef, undef, undef, undef, undef, undef, undef, undef, undef, undef, undef, undef, undef, undef, undef, undef, undef, undef, undef, undef, undef, undef, undef, undef, undef, undef, undef, undef, undef, undef, undef, undef, undef, undef, undef, undef, undef, undef, undef, undef, undef, undef, undef, undef, undef, undef, undef, undef, undef, undef, undef, undef, undef, undef, undef, undef, undef, undef, undef, undef, undef, undef, undef, undef, undef, undef, undef, undef, undef, undef, undef] []; rw [h0, h3] <;> rfl, hC, rfl, fun _ _ _ _ _ h => h⟩
    · have h4 : fx 4 = Value.bool true := hd.1 rfl
      go_wp2_with fail
      exact ⟨_, by show _ = Act.mk #[Value.slice (some { block := ga, off := off }) 1 c, undef, Value.bool true, Value.pointer (some { block := U2.heap.size, off := 0 }), Value.int IntKind.i64 0, undef, undef, undef, undef, undef, undef, undef, undef, undef, undef, undef, Value.bool true, Value.bool false, Value.slice (some { block := ga, off := off }) 1 c, Value.int IntKind.i64 1, Value.bool false, Value.tuple #[ndV y, Value.int IntKind.i64 0], Value.slice (some { block := ga, off := off }) 1 c, Value.tuple #[ndV y, Value.int IntKind.i64 0], ndV y, Value.int IntKind.i64 0, Value.slice (some { block := ga, off := off }) 1 c, Value.int IntKind.i64 1, Value.bool true, Value.bool true, Value.int IntKind.i64 0, Value.bool true, Value.bool true, fx 0, fx 1, fx 2, fx 3, fx 4, undef, undef, undef, undef, undef, undef, undef, undef, undef, undef, undef, undef, undef, undef, undef, undef, undef, undef, undef, undef, undef, undef, undef, undef, undef, undef, undef, undef, undef, undef, undef, undef, undef, undef, undef, undef, undef, undef, undef, undef, undef, undef, undef, undef, undef, undef, undef, undef, undef, undef, undef, undef, undef, undef, undef, undef, undef, undef, undef, undef, undef, undef, undef, undef, undef, undef, undef, undef, undef, undef, undef, undef, undef, undef, undef, undef, undef, undef, undef, undef, undef, undef, undef, undef, undef, undef, undef, undef, undef, undef, undef, undef, undef, undef, undef, undef, undef, undef, undef, undef, undef, undef] []; rw [h4] <;> rfl, hC, rfl, fun _ _ _ _ _ h => h⟩
  · intro L fx w' hC hS
    have H5 := Lib.hid (hS 5 (by decide) rfl)
    have h5 : fx 5 = .bool true := H5.out
    rw [h5]
    clear hS H5
    go_wp2_with fail
    go_ret
    exact ⟨rfl, HB3.out.trans (hC.mono HB3.out.size)⟩
set_option maxRecDepth 100000 in
set_option maxHeartbeats 8000000 in
theorem many (ls : List Nd) (A : Option Addr) (n c : Nat) (w : World) (HI : Hid (InN w A n c ls)) (hT : Hid (Tabs w)) (h : n ≤ 60) (h2 : 2 ≤ n) (hv : vL ls = true) :
    Calls Tryd.prog 6 #[.slice A n c] w fun e w' => e = .returned (.bool true) ∧ Below w.heap.size w w' := by
  have d0 : decide ((60 : Int) < (n : Int)) = false := decide_eq_false (by omega)
  have d00 : decide (60 < n) = false := decide_eq_false (by omega)
  have d1 : decide ((n : Int) = 1) = false := decide_eq_false (by omega)
  have d2 : decide (n = 1) = false := decide_eq_false (by omega)
  have d3 : decide ((n : Int) = 0) = false := decide_eq_false (by omega)
  have d4 : decide (n = 0) = false := decide_eq_false (by omega)
  obtain ⟨ga, off, rfl, hga, hr⟩ := HI.out.rd (by rw [HI.out.len]; omega)
  clear hr
  have HGA := Lib.hid hga
  clear hga
  have HV := Lib.hid hv
  have HL4 : Hid (ls.length ≤ 4096) := Lib.hid (by rw [HI.out.len]; omega)
  have HRR := Lib.hid (rootR_yes HL4.out hv (by rw [HI.out.len]; omega))
  have HXO : Hid (NdOk (root ls)) := Lib.hid (root_ok _ _ (Nat.le_refl _) (by rw [HI.out.len]; omega) HI.out.ok hv)
  have hhb := half_bd h2
  obtain ⟨k, HK⟩ : ∃ k, Hid (half n = k) := ⟨_, Lib.hid rfl⟩
  rw [HK.out] at hhb
  have hvs : vL (ls.take k ++ ls.drop k) = true := by rw [List.take_append_drop]; exact hv
  have HP := Lib.hid (vL_parts hvs)
  have HLT : Hid ((ls.take k).length = k ∧ (ls.drop k).length = n - k) := Lib.hid ⟨by rw [List.length_take, HI.out.len]; omega, by rw [List.length_drop, HI.out.len]⟩
  have HV2 : Hid (vL [root (ls.take k), root (ls.drop k)] = true) := Lib.hid (vL_two hvs (by rw [HLT.out.1]; omega) (by rw [HLT.out.2]; omega))
  have HR1 := Lib.hid (rootR_yes (ls := ls.take k) (by rw [HLT.out.1]; omega) HP.out.1 (by rw [HLT.out.1]; omega))
  have HR2 := Lib.hid (rootR_yes (ls := ls.drop k) (by rw [HLT.out.2]; omega) HP.out.2 (by rw [HLT.out.2]; omega))
  have HAO : Hid (NdOk (root (ls.take k))) := Lib.hid (root_ok _ _ (Nat.le_refl _) (by rw [HLT.out.1]; omega) (fun x hx => HI.out.ok x (List.mem_of_mem_take hx)) HP.out.1)
  have HBO : Hid (NdOk (root (ls.drop k))) := Lib.hid (root_ok _ _ (Nat.le_refl _) (by rw [HLT.out.2]; omega) (fun x hx => HI.out.ok x (List.mem_of_mem_drop hx)) HP.out.2)
  have HJN : Hid (joinN (root (ls.take k)) (root (ls.drop k)) = root ls) := Lib.hid (by rw [root_two (l := ls) (by rw [HI.out.len]; exact h2), HI.out.len, HK.out])
  have HVR : Hid (vL ls.reverse = true ∧ sumC ls.reverse = sumC ls ∧ sumP ls.reverse = sumP ls) := Lib.hid ⟨by rw [vL_reverse]; exact hv, sumC_reverse ls, sumP_reverse ls⟩
  have HR3 := Lib.hid (rootR_yes (ls := ls.reverse) (by rw [List.length_reverse]; exact HL4.out) HVR.out.1 (by rw [List.length_reverse, HI.out.len]; omega))
  have HYO : Hid (NdOk (root ls.reverse)) := Lib.hid (root_ok _ _ (Nat.le_refl _) (by rw [List.length_reverse, HI.out.len]; omega) (fun x hx => HI.out.ok x (List.mem_reverse.1 hx)) HVR.out.1)
  have HSUM : Hid ((root ls.reverse).c = (root ls).c ∧ (root ls.reverse).p = (root ls).p) := Lib.hid (by
    have a := root_sums _ ls rfl (by rw [HI.out.len]; omega)
    have b := root_sums _ ls.reverse rfl (by rw [List.length_reverse, HI.out.len]; omega)
    rw [a.1, a.2, b.1, b.2, HVR.out.2.1, HVR.out.2.2]; exact ⟨rfl, rfl⟩)
  obtain ⟨x, HX⟩ : ∃ x, Hid (root ls = x) := ⟨_, Lib.hid rfl⟩
  obtain ⟨ra, HA⟩ : ∃ x, Hid (root (ls.take k) = x) := ⟨_, Lib.hid rfl⟩
  obtain ⟨rb, HBq⟩ : ∃ x, Hid (root (ls.drop k) = x) := ⟨_, Lib.hid rfl⟩
  obtain ⟨y, HY⟩ : ∃ x, Hid (root ls.reverse = x) := ⟨_, Lib.hid rfl⟩
  rw [HX.out] at HRR HXO HJN HSUM
  rw [HA.out] at HR1 HAO HV2 HJN
  rw [HBq.out] at HR2 HBO HV2 HJN
  rw [HY.out] at HR3 HYO HSUM
  have HJ := Lib.hid (joinR_yes HV2.out)
  rw [HJN.out] at HJ
  clear hv hvs
  have HNE := Lib.hid HI.out.len
  have hcap := HI.out.cap
  go_enter Tryd.func6, Tryd.ntmps6
  go_wp2_with fail
  refine (sane_any _ hT).mono ?_
  rintro e U1 ⟨rfl, hq⟩
  have HB1 := Lib.hid hq
  clear hq 
  go_wp2_with fail
  refine (root_any ls _ _ c _ (by omega) (Lib.hid (HI.out.below HB1.out)) (Lib.hid (hT.out.below HB1.out))).mono ?_
  rintro e U2 ⟨rfl, hq⟩
  rw [HRR.out.1, HRR.out.2]
  have HB2 := Lib.hid (HB1.out.trans (hq.mono HB1.out.size))
  clear hq HB1
  obtain ⟨V2, HV2⟩ : ∃ V, Hid ((U2.alloc (.cells (ndC zeroN).toArray 26)).setRow U2.heap.size (ndC x).toArray = V) := ⟨_, Lib.hid rfl⟩
  have hlr := laid_row U2 (ndC zeroN).toArray (ndC x).toArray 26
  rw [HV2.out] at hlr
  have HZ2 := Lib.hid (heap_alloc_new U2 (.cells (ndC zeroN).toArray 26))
  have HT2 : Hid (34 = (ndC x).toArray.size) := Lib.hid (by simp [ndC_length HXO.out])
  rw [zeroN_cells] at HZ2 HV2
  have hq := hlr.1
  have HB3 := Lib.hid (HB2.out.trans (hq.mono HB2.out.size))
  have R3_n := Lib.hid hlr.2.2
  clear hq hlr HB2
  go_wp2_with (refine wpList_store_row rfl 26 (.tmp 3) (.tmp 24) rfl U2.heap.size (ndC x).toArray rfl rfl 26 _ HZ2.out (size34' HXO.out) HT2.out (ndC_one x) ?_; rw [HV2.out])
  have HLP : ∀ (k' : Nat), True := fun _ => trivial
  clear HLP
  go_loop [5] (fun v => ∃ k' : Nat, v = .int .i64 (k' : Nat) ∧ 1 ≤ k' ∧ k' ≤ 1000000 ∧ Hid (∃ f, halfF f k' n = half n ∧ 18446744073709551616 ≤ k' * 2 ^ f)) (fun v => n - (intOf v).toNat)
  case atStart => exact ⟨1, rfl, by omega, by omega, Lib.hid ⟨64, rfl, by decide⟩⟩
  case round =>
    obtain ⟨k', rfl, hk1, hk2, HF⟩ := hrel
    by_cases hlt : 2 * k' < n
    · have d5 : decide (2 * (k' : Int) < (n : Int)) = true := decide_eq_true (by omega)
      have HF2 : Hid (∃ f, halfF f (2 * k') n = half n ∧ 18446744073709551616 ≤ 2 * k' * 2 ^ f) := Lib.hid (by
        obtain ⟨f, h1, h2⟩ := HF.out
        obtain ⟨g, h3, h4⟩ := half_step hlt (by omega) h2
        exact ⟨g, by rw [← h3]; exact h1, h4⟩)
      go_wp2_with fail
      go_round
      case rel => exact ⟨2 * k', by go_num, by omega, by omega, HF2⟩
      case measure => simp [intOf]; omega
    · have d5 : decide (2 * (k' : Int) < (n : Int)) = false := decide_eq_false (by omega)
      have hkk : k' = k := by
        obtain ⟨f, h1, _⟩ := HF.out
        rw [← HK.out, ← h1]; exact (half_end hlt).symm
      clear HF hk1 hk2
      subst hkk
      have hkn : k' ≤ n := by omega
      have hkc : k' ≤ c := by omega
      have HI3 := Lib.hid (HI.out.below HB3.out)
      go_wp2_with fail
      refine (root_any (ls.take k') _ k' c _ (by omega) (Lib.hid (HI3.out.take k' hkn)) (Lib.hid (hT.out.below HB3.out))).mono ?_
      rintro e U3 ⟨rfl, hq⟩
      rw [HR1.out.1, HR1.out.2]
      clear HI3
      have HB4 := Lib.hid (HB3.out.trans (hq.mono HB3.out.size))
      have R3_4 := Lib.hid (row_kept R3_n.out hq)
      clear hq HB3 R3_n
      obtain ⟨V3, HV3⟩ : ∃ V, Hid ((U3.alloc (.cells (ndC zeroN).toArray 26)).setRow U3.heap.size (ndC ra).toArray = V) := ⟨_, Lib.hid rfl⟩
      have hlr := laid_row U3 (ndC zeroN).toArray (ndC ra).toArray 26
      rw [HV3.out] at hlr
      have HZ3 := Lib.hid (heap_alloc_new U3 (.cells (ndC zeroN).toArray 26))
      have HT3 : Hid (34 = (ndC ra).toArray.size) := Lib.hid (by simp [ndC_length HAO.out])
      rw [zeroN_cells] at HZ3 HV3
      have hq := hlr.1
      have HB5 := Lib.hid (HB4.out.trans (hq.mono HB4.out.size))
      have R3_5 := Lib.hid (row_kept R3_4.out hq)
      have R6_n := Lib.hid hlr.2.2
      clear hq hlr HB4 R3_4
      go_wp2_with (refine wpList_store_row rfl 26 (.tmp 6) (.tmp 73) rfl U3.heap.size (ndC ra).toArray rfl rfl 26 _ HZ3.out (size34' HAO.out) HT3.out (ndC_one ra) ?_; rw [HV3.out])
      have HI3 := Lib.hid (HI.out.below HB5.out)
      refine (root_any (ls.drop k') _ (n - k') (c - k') _ (by omega) (Lib.hid (HI3.out.drop k' hkn)) (Lib.hid (hT.out.below HB5.out))).mono ?_
      rintro e U4 ⟨rfl, hq⟩
      rw [HR2.out.1, HR2.out.2]
      clear HI3
      have HB6 := Lib.hid (HB5.out.trans (hq.mono HB5.out.size))
      have R3_6 := Lib.hid (row_kept R3_5.out hq)
      have R6_6 := Lib.hid (row_kept R6_n.out hq)
      clear hq HB5 R3_5 R6_n
      obtain ⟨V4, HV4⟩ : ∃ V, Hid ((U4.alloc (.cells (ndC zeroN).toArray 26)).setRow U4.heap.size (ndC rb).toArray = V) := ⟨_, Lib.hid rfl⟩
      have hlr := laid_row U4 (ndC zeroN).toArray (ndC rb).toArray 26
      rw [HV4.out] at hlr
      have HZ4 := Lib.hid (heap_alloc_new U4 (.cells (ndC zeroN).toArray 26))
      have HT4 : Hid (34 = (ndC rb).toArray.size) := Lib.hid (by simp [ndC_length HBO.out])
      rw [zeroN_cells] at HZ4 HV4
      have hq := hlr.1
      have HB7 := Lib.hid (HB6.out.trans (hq.mono HB6.out.size))
      have R3_7 := Lib.hid (row_kept R3_6.out hq)
      have R6_7 := Lib.hid (row_kept R6_6.out hq)
      have R8_n := Lib.hid hlr.2.2
      clear hq hlr HB6 R3_6 R6_6
      go_wp2_with (first | (refine wpList_store_row rfl 26 (.tmp 8) (.tmp 80) rfl U4.heap.size (ndC rb).toArray rfl rfl 26 _ HZ4.out (size34' HBO.out) HT4.out (ndC_one rb) ?_; rw [HV4.out]) | (refine wpList_load_row rfl 26 (.tmp 6) rfl U3.heap.size rfl 26 _ (0, 0) _ R6_7.out Tryd.underlying26 rfl (size34' HAO.out) ?_) | (refine wpList_load_row rfl 26 (.tmp 8) rfl U4.heap.size rfl 26 _ (0, 0) _ R8_n.out Tryd.underlying26 rfl (size34' HBO.out) ?_))
      refine (join_any ra rb _ HAO.out HBO.out (Lib.hid (hT.out.below HB7.out))).mono ?_
      rintro e U5 ⟨rfl, hq⟩
      rw [HJ.out.1, HJ.out.2]
      have HB8 := Lib.hid (HB7.out.trans (hq.mono HB7.out.size))
      have R3_8 := Lib.hid (row_kept R3_7.out hq)
      have R6_8 := Lib.hid (row_kept R6_7.out hq)
      have R8_8 := Lib.hid (row_kept R8_n.out hq)
      clear hq HB7 R3_7 R6_7 R8_n
      obtain ⟨V5, HV5⟩ : ∃ V, Hid ((U5.alloc (.cells (ndC zeroN).toArray 26)).setRow U5.heap.size (ndC x).toArray = V) := ⟨_, Lib.hid rfl⟩
      have hlr := laid_row U5 (ndC zeroN).toArray (ndC x).toArray 26
      rw [HV5.out] at hlr
      have HZ5 := Lib.hid (heap_alloc_new U5 (.cells (ndC zeroN).toArray 26))
      have HT5 : Hid (34 = (ndC x).toArray.size) := Lib.hid (by simp [ndC_length HXO.out])
      rw [zeroN_cells] at HZ5 HV5
      have hq := hlr.1
      have HB9 := Lib.hid (HB8.out.trans (hq.mono HB8.out.size))
      have R3_9 := Lib.hid (row_kept R3_8.out hq)
      have R6_9 := Lib.hid (row_kept R6_8.out hq)
      have R8_9 := Lib.hid (row_kept R8_8.out hq)
      have R10_n := Lib.hid hlr.2.2
      clear hq hlr HB8 R3_8 R6_8 R8_8
      go_wp2_with (refine wpList_store_row rfl 26 (.tmp 10) (.tmp 86) rfl U5.heap.size (ndC x).toArray rfl rfl 26 _ HZ5.out (size34' HXO.out) HT5.out (ndC_one x) ?_; rw [HV5.out])
      go_loopw [12, 13] (fun v t wr => ∃ (j : Nat) (A' : Option Addr) (n' c' : Nat), j ≤ n ∧ t = .int .i64 ((n : Int) - 1 - (j : Int)) ∧ v = .slice A' n' c' ∧ Hid (OwnN wr V5.heap.size (.slice A' n' c') (ls.reverse.take j)) ∧ Hid (Below V5.heap.size V5 wr)) (fun _ t _ => (intOf t + 1).toNat)
      case atStart => exact ⟨0, none, 0, 0, by omega, by simp, rfl, Lib.hid (OwnN.nil _ _), Lib.hid (Below.refl _ _)⟩
      case round =>
        obtain ⟨j, A', n', c', hj, rfl, rfl, HO, HBW⟩ := hrel
        by_cases hjl : j < n
        · obtain ⟨i, hi⟩ : ∃ i, i + j + 1 = n := ⟨n - 1 - j, by omega⟩
          rw [show (n : Int) - 1 - (j : Int) = (i : Int) by omega]
          have d6 : decide (0 ≤ (i : Int)) = true := decide_eq_true (by omega)
          have hin := HI.out.below (HB9.out.trans (HBW.out.mono HB9.out.size))
          obtain ⟨g2, off2, e2, hg2, hr2⟩ := hin.rd (by rw [HNE.out]; omega)
          cases e2
          obtain ⟨q, HQ⟩ : ∃ q, Hid (ls[i]'(by rw [HNE.out]; omega) = q) := ⟨_, Lib.hid rfl⟩
          have HQO : Hid (NdOk q) := Lib.hid (by rw [← HQ.out]; exact HI.out.ok _ (List.getElem_mem _))
          have HRQ : Hid (wr.rangeAt ga (off + i * 34) (ndC q)) := Lib.hid (by rw [← HQ.out]; exact range_one hr2 HI.out.ok i (by rw [HNE.out]; omega))
          have HNX : Hid (ls.reverse.take j ++ [q] = ls.reverse.take (j + 1)) := Lib.hid (by
            have h1 : j < ls.reverse.length := by rw [List.length_reverse, HNE.out]; exact hjl
            have h2 : ls.reverse[j] = q := by rw [List.getElem_reverse, ← HQ.out]; congr 1; first | done | (have := HNE.out; omega)
            rw [List.take_succ_eq_append_getElem h1, h2])
          have HA6 := Lib.hid (HO.out.below ((Below.refl _ wr).alloc (Nat.le_refl _) (.cells (flatN [q]).toArray 26)))
          have HRF := Lib.hid (heap_alloc_new wr (.cells (flatN [q]).toArray 26))
          have HLN : Hid ((ls.reverse.take j).length ≤ 100000) := Lib.hid (by rw [List.length_take, List.length_reverse, HNE.out]; omega)
          have hbb := HBW.out.alloc HBW.out.size (.cells (flatN [q]).toArray 26)
          have HSW : Hid (V5.heap.size ≤ (wr.alloc (.cells (flatN [q]).toArray 26)).heap.size) := Lib.hid hbb.size
          have HBB := Lib.hid hbb
          have hin' : i < n := by omega
          clear hin hg2 hr2 hbb
          have hi62 : i ≤ 1000 := by omega
          go_wp2_with (first | (with_reducible refine wpList_load_mid rfl 26 (.tmp 98) rfl ga (off + i * 34) rfl (ndC q) _ HRQ.out Tryd.underlying26 rfl (size34 HQO.out) ?_) | (refine wpList_build_nodes1 rfl (.tmp 99) rfl q rfl HQO.out ?_) | (refine wpList_append_node rfl (.tmp 95) (.tmp 100) rfl V5.heap.size _ (ls.reverse.take j) q rfl HA6 HQO.out wr.heap.size rfl HRF HLN.out HSW.out ?_; intro v2 w2 HO2 HG2; obtain ⟨A2, n2, c2, rfl⟩ := HO2.out.form))
          have HB9 := Lib.hid (HBB.out.grown HG2.out HSW.out (fun k hk => (HA6.out.block k hk).1))
          rw [HNX.out] at HO2
          go_roundw
          case rel => exact ⟨j + 1, _, _, _, by omega, by go_num, rfl, HO2, HB9⟩
          case measure => first | (simp [intOf]; done) | (simp [intOf]; omega)
        · have hjn : j = n := by omega
          have d6 : decide (0 ≤ (n : Int) - 1 - (j : Int)) = false := decide_eq_false (by omega)
          have HOF : Hid (OwnN wr V5.heap.size (.slice A' n' c') (ls.reverse)) := Lib.hid (by
            have := HO.out
            rwa [List.take_of_length_le (by rw [List.length_reverse, HNE.out]; omega)] at this)
          obtain ⟨A3, n3, c3, e3, hin, _⟩ := HOF.out.slice (fun x hx => HI.out.ok x (List.mem_reverse.1 hx))
          cases e3
          have hn' : n' ≤ 1000 := by rw [← hin.len, List.length_reverse, HNE.out]; omega
          have HIN9 := Lib.hid hin
          clear hin HO HOF
          have HB10 := Lib.hid (HB9.out.trans (HBW.out.mono HB9.out.size))
          have R3_10 := Lib.hid (row_kept R3_9.out HBW.out)
          have R6_10 := Lib.hid (row_kept R6_9.out HBW.out)
          have R8_10 := Lib.hid (row_kept R8_9.out HBW.out)
          have R10_10 := Lib.hid (row_kept R10_n.out HBW.out)
          clear HBW HB9 R3_9 R6_9 R8_9 R10_n
          go_wp2_with fail
          refine (root_any ls.reverse A' n' c' _ (by omega) HIN9 (Lib.hid (hT.out.below HB10.out))).mono ?_
          rintro e U6 ⟨rfl, hq⟩
          rw [HR3.out.1, HR3.out.2]
          have HB11 := Lib.hid (HB10.out.trans (hq.mono HB10.out.size))
          have R3_11 := Lib.hid (row_kept R3_10.out hq)
          have R6_11 := Lib.hid (row_kept R6_10.out hq)
          have R8_11 := Lib.hid (row_kept R8_10.out hq)
          have R10_11 := Lib.hid (row_kept R10_10.out hq)
          clear hq HB10 R3_10 R6_10 R8_10 R10_10
          obtain ⟨V6, HV6⟩ : ∃ V, Hid ((U6.alloc (.cells (ndC zeroN).toArray 26)).setRow U6.heap.size (ndC y).toArray = V) := ⟨_, Lib.hid rfl⟩
          have hlr := laid_row U6 (ndC zeroN).toArray (ndC y).toArray 26
          rw [HV6.out] at hlr
          have HZ6 := Lib.hid (heap_alloc_new U6 (.cells (ndC zeroN).toArray 26))
          have HT6 : Hid (34 = (ndC y).toArray.size) := Lib.hid (by simp [ndC_length HYO.out])
          rw [zeroN_cells] at HZ6 HV6
          have hq := hlr.1
          have HB12 := Lib.hid (HB11.out.trans (hq.mono HB11.out.size))
          have R3_12 := Lib.hid (row_kept R3_11.out hq)
          have R6_12 := Lib.hid (row_kept R6_11.out hq)
          have R8_12 := Lib.hid (row_kept R8_11.out hq)
          have R10_12 := Lib.hid (row_kept R10_11.out hq)
          have R14_n := Lib.hid hlr.2.2
          clear hq hlr HB11 R3_11 R6_11 R8_11 R10_11
          have mc1 : V6.cell? ⟨U6.heap.size, 32, none⟩ = some (.int .i64 x.c) := by have h := cell_c HYO.out R14_n.out; rw [HSUM.out.1] at h; exact h
          have mp1 : V6.cell? ⟨U6.heap.size, 33, none⟩ = some (.int .i64 x.p) := by have h := cell_p HYO.out R14_n.out; rw [HSUM.out.2] at h; exact h
          have mc2 : V6.cell? ⟨U2.heap.size, 32, none⟩ = some (.int .i64 (x.c)) := cell_c HXO.out R3_12.out
          have mp2 : V6.cell? ⟨U2.heap.size, 33, none⟩ = some (.int .i64 (x.p)) := cell_p HXO.out R3_12.out
          go_wp2_with (first | (refine wpList_store_row rfl 26 (.tmp 14) (.tmp 105) rfl U6.heap.size (ndC y).toArray rfl rfl 26 _ HZ6.out (size34' HYO.out) HT6.out (ndC_one y) ?_; rw [HV6.out]) | (refine wpList_unguard rfl ?_; refine wpList_load_row rfl 26 (.tmp 10) rfl U5.heap.size rfl 26 _ (0, 0) _ R10_12.out Tryd.underlying26 rfl (size34' HXO.out) ?_) | (refine wpList_unguard rfl ?_; refine wpList_load_row rfl 26 (.tmp 3) rfl U2.heap.size rfl 26 _ (0, 0) _ R3_12.out Tryd.underlying26 rfl (size34' HXO.out) ?_) | (refine wpList_unguard rfl ?_; refine wpList_eql_nd rfl (.tmp 122) (.tmp 123) _ rfl x x rfl rfl HXO.out HXO.out ?_; rw [ndEq_refl]))
          go_ret
          exact ⟨rfl, HB12.out⟩
theorem walk (w : World) (hT : Tabs w) (A : Option Addr) (n c : Nat) (ls : List Nd) (hi : InN w A n c ls) (hm : n ≤ maxLen) :
    Calls Tryd.prog 6 #[.slice A n c] w fun e w' => e = .returned (.bool true) ∧ Below w.heap.size w w' := by
  by_cases h : 60 < n
  · exact big ls A n c w (Lib.hid hi) (Lib.hid hT) h
  · by_cases hv : ls.length ≤ 4096 ∧ vL ls = true
    · by_cases h0 : n = 0
      · exact zero ls A n c w (Lib.hid hi) (Lib.hid hT) (List.eq_nil_of_length_eq_zero (by rw [hi.len]; exact h0))
      · by_cases h1 : n = 1
        · obtain ⟨y, hy⟩ := List.length_eq_one_iff.1 (show ls.length = 1 by rw [hi.len]; exact h1)
          exact one ls A n c w (Lib.hid hi) (Lib.hid hT) y hy (by rw [← hy]; exact hv.2)
        · exact many ls A n c w (Lib.hid hi) (Lib.hid hT) (by omega) (by omega) hv.2
    · exact bad ls A n c w (Lib.hid hi) (Lib.hid hT) (by omega) hv
set_option maxRecDepth 100000 in
theorem lifted (os : Os) (started : os.Started) (H : Type) (enc : TypeId × Value → H) :
    ReturnsInHanded {} Tryd.checked os 6 .any (fun w args => (Rows.treePartsSpec.pre enc Tryd.prog Tryd.f6 [] false w args ∧ laidMetH Tryd.prog laidL w) ∧ sizedMet enc Tryd.prog Tryd.f6 (OpenSpec.ofChange Rows.treePartsSpec) false w args)
      (Rows.treePartsSpec.post enc Tryd.prog Tryd.f6 false true false false) := by
  refine returnsInHanded_of_change_and (C := Tryd.checked) (X := fun w _ => laidMetH Tryd.prog laidL w) (fun _ _ _ hh h => h.of_heap hh) own started (by kernel_rfl) Tryd.func6
    (ChangeSpec.witness_shaped (enc := enc) (C := Tryd.checked) (os := os) (X := fun w _ => laidMetH Tryd.prog laidL w) false (World.doorLaid Tryd.prog 400 os) #[.slice none 0 0] 8 rfl (World.shaped_of_RefB (by kernel_rfl) (by kernel_rfl)) (by kernel_rfl) (by kernel_rfl) (by kernel_rfl) (door_met os _)) ?_
  intro W base args ds gs before hval0 hW _ hsz0 hL _
  have hval : ∀ (j : Nat) t v, Tryd.f6.params[j]? = some t → args[j]? = some v → Value.okWide Tryd.prog W .any base t v := hval0
  have hW' := hW
  obtain ⟨p, q, hA0, hV, rfl, hfz, hnd⟩ := hW
  have hA : DataW.TrodAll enc Tryd.prog W 0 (fun _ => true) true Tryd.f6.params.toList args.toList ds p := hA0
  have hsz : (DataW.weightsEach Tryd.prog (Tryd.f6.params.toList ++ Rows.treePartsSpec.plain.varTypes Tryd.prog) (ds ++ gs)).all (· ≤ reachBytes) = true := hsz0
  rw [Tryd.params6] at hA hval hsz
  obtain ⟨v0, vs0, d0, ds0, p0, q0, hargs, rfl, rfl, h0, r0⟩ := trodAll_cons hA
  obtain ⟨rfl, rfl, rfl⟩ := trodAll_nil r0
  obtain rfl : args = #[v0] := by cases args; simp_all
  obtain ⟨rfl, rfl⟩ := trodVars_none hV
  obtain ⟨A0, n0, c0, l0, rfl, e0, f0⟩ := arg_nds (hval 0 22 v0 rfl rfl) h0
  refine (walk W (tabs_of hL) A0 n0 c0 l0 e0 f0).mono fun e W' ⟨he, hg⟩ => ?_
  subst he
  exact ⟨_, rfl, law_post (by kernel_rfl) rfl rfl (fun _ => ⟨rfl, rfl, rfl⟩) hW' hg⟩
theorem over : Rows.treePartsRow.holds Tryd.pinned (OpenSpec.ofChange Rows.treePartsSpec) :=
  OpenClaim.holds_of_wide 6 Tryd.f6 rfl rfl rfl rfl rfl rfl rfl ⟨rfl, rfl, rfl, rfl, rfl⟩ rfl rfl rfl rfl rfl (by kernel_rfl) Tryd.func6 (by kernel_rfl)
    (of_decide_eq_true (by kernel_rfl)) (by unfold Func.isWrapper; first | (rw [if_pos (by decide +kernel)]; kernel_rfl) | (rw [if_neg (by decide +kernel)]; exact ⟨rfl, rfl⟩))
    (fun os started H enc _ => lifted os started H enc)
/-- THE STATEMENT: the card -/
theorem proved : Rows.TreePartsCardSaid :=
  Claim7.holds_tied_plain_at .later [] [.data, .data] true Rows.treePartsCard.stood.harness false
    over (fun _ h => by cases h) (by kernel_rfl) (fun _ h => by cases h) treeParts_row_tie rfl ⟨rfl, rfl⟩ (by kernel_rfl) rfl
    (fun f fn hf hfn => by
      obtain rfl : f = 6 := Option.some.inj ((show Tryd.prog.funcNamed "sizar/sizarlaw41.TreeParts" = some 6 by kernel_rfl).symm.trans hf) |>.symm
      obtain rfl : fn = Tryd.f6 := (Option.some.inj (Tryd.func6.symm.trans hfn)).symm
      exact ⟨by kernel_rfl, fun j t ht => stands_of (show Tryd.f6.params.all (fun t => !Tryd.prog.wantsStandIn t) = true by kernel_rfl) ht⟩)
    (by kernel_rfl)
#print axioms proved
end Go.Proofs.YtgcmbiegbclhmaaDoor.treeParts
