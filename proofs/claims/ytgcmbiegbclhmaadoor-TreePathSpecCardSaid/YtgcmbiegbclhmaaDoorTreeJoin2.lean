/- sizar/tree.Join of nodes that are not valid. -/
import Derived.Test.YtgcmbiegbclhmaaDoorTreeJoin
namespace Go.Proofs.YtgcmbiegbclhmaaDoor
open Go.RowKit SzSha SzTree
set_option linter.unusedVariables false
set_option maxRecDepth 100000
def zeroN : Nd := ⟨List.replicate 32 0, 0, 0⟩
theorem zeroN_ok : NdOk zeroN := ⟨by simp [zeroN], (fun x hx => by have := List.eq_of_mem_replicate hx; omega), by simp [zeroN], by simp [zeroN]⟩
theorem zeroN_cells : (ndC zeroN).toArray = #[.int .u8 0, .int .u8 0, .int .u8 0, .int .u8 0, .int .u8 0, .int .u8 0, .int .u8 0, .int .u8 0, .int .u8 0, .int .u8 0, .int .u8 0, .int .u8 0, .int .u8 0, .int .u8 0, .int .u8 0, .int .u8 0, .int .u8 0, .int .u8 0, .int .u8 0, .int .u8 0, .int .u8 0, .int .u8 0, .int .u8 0, .int .u8 0, .int .u8 0, .int .u8 0, .int .u8 0, .int .u8 0, .int .u8 0, .int .u8 0, .int .u8 0, .int .u8 0, .int .i64 0, .int .i64 0] := by simp [zeroN, ndC, List.replicate]
set_option maxHeartbeats 4000000 in
theorem join_no (a b : Nd) (w : World) (ha : NdOk a) (hb : NdOk b) (hv : vL [a, b] = false) :
    Calls Tryd.prog 14 #[ndV a, ndV b] w fun e w' => e = .returned (.tuple #[ndV zeroN, .int .i64 410]) ∧ Below w.heap.size w w' := by
  have HOA := Lib.hid ha
  have HOB := Lib.hid hb
  have HV := Lib.hid hv
  have HSA : Hid ((Tryd.prog.info? 26).map (·.size) = some (ndC a).toArray.size) := Lib.hid (by rw [size34 HOA.out]; simp)
  have HSB : Hid ((Tryd.prog.info? 26).map (·.size) = some (ndC b).toArray.size) := Lib.hid (by rw [size34 HOB.out]; simp)
  have HSZ : Hid ((Tryd.prog.info? 26).map (·.size) = some (ndC zeroN).toArray.size) := Lib.hid (by rw [size34 zeroN_ok]; simp)
  have HZ2 : Hid ((ndC zeroN).toArray.size = (ndC zeroN).toArray.size) := Lib.hid rfl
  have HZC := Lib.hid zeroN_cells
  obtain ⟨t1, t2, t3, t4, t5⟩ := three_rows w (ndC a).toArray (ndC b).toArray (ndC zeroN).toArray 26
  have T1 := Lib.hid t1
  have T2 := Lib.hid t2
  have T3 := Lib.hid t3
  have T4 := Lib.hid t4
  have T5 := Lib.hid t5
  rw [HZC.out] at T1 T2 T3 T5
  clear ha hb hv t1 t2 t3 t4 t5
  go_enter Tryd.func14, Tryd.ntmps14
  unfold ndV
  go_wp2_with (first | (refine wpList_load_row rfl 26 (.tmp 2) rfl w.heap.size rfl 26 _ (0, 0) _ T2.out Tryd.underlying26 rfl HSA.out ?_) | (refine wpList_load_row rfl 26 (.tmp 3) rfl (w.heap.size + 1) rfl 26 _ (0, 0) _ T3.out Tryd.underlying26 rfl HSB.out ?_) | (refine wpList_build_nodes2 rfl (.tmp 6) (.tmp 7) rfl a b rfl rfl HOA.out HOB.out ?_))
  rw [← HZC.out]
  rw [HZC.out] at T4
  rw [← HZC.out] at T1 T4 T5
  have hq := heap_alloc_new (((w.alloc (.cells (ndC a).toArray 26)).alloc (.cells (ndC b).toArray 26)).alloc (.cells (ndC zeroN).toArray 26)) (.cells (flatN [a, b]).toArray 26)
  rw [T5.out] at hq
  have hb4 := (Below.refl _ (((w.alloc (.cells (ndC a).toArray 26)).alloc (.cells (ndC b).toArray 26)).alloc (.cells (ndC zeroN).toArray 26))).alloc (Nat.le_refl _) (.cells (flatN [a, b]).toArray 26)
  have HIN : Hid (InN ((((w.alloc (.cells (ndC a).toArray 26)).alloc (.cells (ndC b).toArray 26)).alloc (.cells (ndC zeroN).toArray 26)).alloc (.cells (flatN [a, b]).toArray 26)) (some ⟨w.heap.size + 1 + 1 + 1, 0, none⟩) 2 2 [a, b]) := Lib.hid ⟨rfl, Nat.le_refl _, (fun h => by cases h), (fun x hx => by
    simp only [List.mem_cons, List.not_mem_nil, or_false] at hx
    rcases hx with rfl | rfl
    · exact HOA.out
    · exact HOB.out), fun _ => ⟨_, 0, rfl, (Array.getElem?_eq_some_iff.1 hq).1, range_row hq⟩⟩
  refine (valid_any [a, b] _ 2 2 _ (by omega) HIN).mono ?_
  rintro e W1 ⟨rfl, hq1⟩
  rw [HV.out]
  have hb4' := hb4.trans (hq1.mono hb4.size)
  have HB1 := Lib.hid (T1.out.trans (hb4'.mono T1.out.size))
  have HRR := Lib.hid ((hb4'.block (w.heap.size + 1 + 1) (by rw [T5.out]; omega)).trans T4.out)
  clear hq hb4 hb4' hq1 HIN T1 T2 T3 T4 T5 HSA HSB HV HZC
  go_wp2_with (first | (refine wpList_load_row rfl 26 (.tmp 4) rfl (w.heap.size + 1 + 1) rfl 26 _ (0, 0) _ HRR.out Tryd.underlying26 rfl HSZ.out ?_) | (refine wpList_store_row rfl 26 (.tmp 4) (.tmp 11) rfl (w.heap.size + 1 + 1) (ndC zeroN).toArray ?ha ?hb 26 (ndC zeroN).toArray HRR.out HSZ.out rfl (ndC_one zeroN) ?hc))
  have hr := setRow_heap W1 (w.heap.size + 1 + 1) _ (ndC zeroN).toArray _ _ HRR.out
  have hl := run_loadVar_row (P := Tryd.prog) (W1.setRow (w.heap.size + 1 + 1) (ndC zeroN).toArray) (w.heap.size + 1 + 1) 26 26 (ndC zeroN).toArray (0, 0) _ hr Tryd.underlying26 rfl HSZ.out
  refine bodyPost_ret (v := .tuple #[ndV zeroN, .int .i64 410]) ?_ rfl ⟨rfl, below_setRow HB1.out (by omega) _⟩
  unfold ndV
  simp [results, Tryd.results14, asAddr, hl]
/-- Join -/
def joinR (a b : Nd) : Nd := if vL [a, b] then joinN a b else zeroN
def joinE (a b : Nd) : Int := if vL [a, b] then 0 else 410
theorem join_any (a b : Nd) (w : World) (ha : NdOk a) (hb : NdOk b) (hT : Hid (Tabs w)) :
    Calls Tryd.prog 14 #[ndV a, ndV b] w fun e w' => e = .returned (.tuple #[ndV (joinR a b), .int .i64 (joinE a b)]) ∧ Below w.heap.size w w' := by
  by_cases h : vL [a, b] = true
  · rw [joinR, joinE, if_pos h, if_pos h]; exact join_yes a b w ha hb h hT
  · rw [joinR, joinE, if_neg h, if_neg h]; exact join_no a b w ha hb (by simpa using h)
end Go.Proofs.YtgcmbiegbclhmaaDoor
