/- sizarref41.Join. sizarref41: root, Root. Paths step by step: the path of a leaf out of that in its half. sizarref41: path, Path. sizarref41: Length, climb, Climb. sizarref41.Climb. -/
import Derived.Test.YtgcmbiegbclhmaaDoorRefB
import Derived.Outline
import Derived.Test.YtgcmbiegbclhmaaDoorTreeMath2
import Derived.Test.YtgcmbiegbclhmaaDoorTreePath
import Derived.Test.YtgcmbiegbclhmaaDoorOpsIn
import Derived.Test.YtgcmbiegbclhmaaDoorTreeBinds0
namespace Go.Proofs.YtgcmbiegbclhmaaDoor
open Go.RowKit SzSha SzTree
set_option linter.unusedVariables false
set_option maxRecDepth 100000
def wJr (W0 : World) (ra : Nat) (rb : Nat) (br : Nat) (A7 : Option Addr) (n7 : Nat) (c7 : Nat) (a : Nd) (b : Nd) : Nat → Value → World → Prop
  | 0, fv, _ => fv = Value.slice A7 n7 c7
  | 1, fv, _ => fv = dgV (joinN a b).d
  | 2, fv, _ => fv = Value.pointer (some ⟨ra, 32, none⟩)
  | 3, fv, _ => fv = Value.int .i64 (a.c)
  | 4, fv, _ => fv = Value.pointer (some ⟨rb, 32, none⟩)
  | 5, fv, _ => fv = Value.int .i64 (b.c)
  | 6, fv, _ => fv = Value.int .i64 (a.c + b.c)
  | 7, fv, _ => fv = Value.pointer (some ⟨ra, 33, none⟩)
  | 8, fv, _ => fv = Value.int .i64 (a.p)
  | 9, fv, _ => fv = Value.pointer (some ⟨rb, 33, none⟩)
  | 10, fv, _ => fv = Value.int .i64 (b.p)
  | 11, fv, _ => fv = Value.int .i64 (a.p + b.p)
  | 12, fv, _ => fv = ndV (joinN a b)
  | 13, fv, fw => fw.heap[br]? = some (.cells (ndC (joinN a b)).toArray 26 (0, 0)) ∧ Below W0.heap.size W0 fw
  | 14, fv, _ => fv = Value.int .i64 (0)
  | _, _, _ => True
theorem wJr_below {W0 : World} {ra : Nat} {rb : Nat} {br : Nat} {A7 : Option Addr} {n7 : Nat} {c7 : Nat} {a : Nd} {b : Nd} {w w' : World} (hb : Below w.heap.size w w') : ∀ j v, wJr W0 ra rb br A7 n7 c7 a b j v w → wJr W0 ra rb br A7 n7 c7 a b j v w'
  | 0, v, h => h
  | 1, v, h => h
  | 2, v, h => h
  | 3, v, h => h
  | 4, v, h => h
  | 5, v, h => h
  | 6, v, h => h
  | 7, v, h => h
  | 8, v, h => h
  | 9, v, h => h
  | 10, v, h => h
  | 11, v, h => h
  | 12, v, h => h
  | 13, v, h => ⟨(hb.block br (Array.getElem?_eq_some_iff.1 h.1).1).trans h.1, h.2.trans (hb.mono h.2.size)⟩
  | 14, v, h => h
  | n + 15, v, h => trivial
theorem wJr_pure {W0 : World} {ra : Nat} {rb : Nat} {br : Nat} {A7 : Option Addr} {n7 : Nat} {c7 : Nat} {a : Nd} {b : Nd} {w w' : World} : ∀ j v, j ≠ 13 → wJr W0 ra rb br A7 n7 c7 a b j v w → wJr W0 ra rb br A7 n7 c7 a b j v w'
  | 0, v, _, h => h
  | 1, v, _, h => h
  | 2, v, _, h => h
  | 3, v, _, h => h
  | 4, v, _, h => h
  | 5, v, _, h => h
  | 6, v, _, h => h
  | 7, v, _, h => h
  | 8, v, _, h => h
  | 9, v, _, h => h
  | 10, v, _, h => h
  | 11, v, _, h => h
  | 12, v, _, h => h
  | 13, v, hh, _ => absurd rfl hh
  | 14, v, _, h => h
  | n + 15, v, _, h => trivial
set_option maxHeartbeats 4000000 in
theorem rjoin_n1 (a b : Nd) (w : World) (HOA : Hid (NdOk a)) (HOB : Hid (NdOk b)) (HVA : Hid (vN a = false)) :
    Calls Tryd.prog 15 #[ndV a, ndV b] w fun e w' => e = .returned (.tuple #[ndV zeroN, .int .i64 410]) ∧ Below w.heap.size w w' := by
  have HSA : Hid ((Tryd.prog.info? 26).map (·.size) = some (ndC a).toArray.size) := Lib.hid (by rw [size34 HOA.out]; simp)
  have HSB : Hid ((Tryd.prog.info? 26).map (·.size) = some (ndC b).toArray.size) := Lib.hid (by rw [size34 HOB.out]; simp)
  have HSZ : Hid ((Tryd.prog.info? 26).map (·.size) = some (ndC zeroN).toArray.size) := Lib.hid (by rw [size34 zeroN_ok]; simp)
  have HZC := Lib.hid zeroN_cells
  obtain ⟨t1, t2, t3, t4, t5⟩ := three_rows w (ndC a).toArray (ndC b).toArray (ndC zeroN).toArray 26
  have T1 := Lib.hid t1
  have T2 := Lib.hid t2
  have T3 := Lib.hid t3
  have T4 := Lib.hid t4
  rw [HZC.out] at T1 T2 T3 T4
  clear t1 t2 t3 t4 t5
  go_enter Tryd.func15, Tryd.ntmps15
  unfold ndV
  go_wp2_with (refine wpList_load_row rfl 26 (.tmp 2) rfl w.heap.size rfl 26 _ (0, 0) _ T2.out Tryd.underlying26 rfl HSA.out ?_)
  rw [show Value.agg (ndC a).toArray = ndV a from rfl]
  refine (rvalid_any a _ HOA.out).mono ?_
  rintro e W1 ⟨rfl, hq⟩
  have S1 := Lib.hid (T1.out.trans (hq.mono T1.out.size))
  have S2 := Lib.hid (row_kept T2.out hq)
  have S3 := Lib.hid (row_kept T3.out hq)
  have S4 := Lib.hid (row_kept T4.out hq)
  rw [HVA.out]
  clear hq T1 T2 T3 T4
  have HB := Lib.hid S1.out
  have HRR := Lib.hid S4.out
  clear S1 S4
  rw [← HZC.out] at HRR
  obtain ⟨WE, hwe⟩ : ∃ WE, WE = W1 := ⟨_, rfl⟩
  subst hwe
  go_wp2_with (rw [← HZC.out]; refine wpList_store_row rfl 26 (.tmp 4) (.tmp 23) rfl (w.heap.size + 1 + 1) (ndC zeroN).toArray ?ha ?hb 26 (ndC zeroN).toArray HRR.out HSZ.out rfl (ndC_one zeroN) ?_)
  all_goals first | rfl | skip
  have hr := setRow_heap WE (w.heap.size + 1 + 1) _ (ndC zeroN).toArray _ _ HRR.out
  have hl := run_loadVar_row (P := Tryd.prog) (WE.setRow (w.heap.size + 1 + 1) (ndC zeroN).toArray) (w.heap.size + 1 + 1) 26 26 (ndC zeroN).toArray (0, 0) _ hr Tryd.underlying26 rfl HSZ.out
  refine bodyPost_ret (v := .tuple #[ndV zeroN, .int .i64 410]) ?_ rfl ⟨rfl, below_setRow HB.out (by omega) _⟩
  unfold ndV
  simp [results, Tryd.results15, asAddr, hl]
set_option maxHeartbeats 4000000 in
theorem rjoin_n2 (a b : Nd) (w : World) (HOA : Hid (NdOk a)) (HOB : Hid (NdOk b)) (HVA : Hid (vN a = true)) (HVB : Hid (vN b = false)) :
    Calls Tryd.prog 15 #[ndV a, ndV b] w fun e w' => e = .returned (.tuple #[ndV zeroN, .int .i64 410]) ∧ Below w.heap.size w w' := by
  have HSA : Hid ((Tryd.prog.info? 26).map (·.size) = some (ndC a).toArray.size) := Lib.hid (by rw [size34 HOA.out]; simp)
  have HSB : Hid ((Tryd.prog.info? 26).map (·.size) = some (ndC b).toArray.size) := Lib.hid (by rw [size34 HOB.out]; simp)
  have HSZ : Hid ((Tryd.prog.info? 26).map (·.size) = some (ndC zeroN).toArray.size) := Lib.hid (by rw [size34 zeroN_ok]; simp)
  have HZC := Lib.hid zeroN_cells
  obtain ⟨t1, t2, t3, t4, t5⟩ := three_rows w (ndC a).toArray (ndC b).toArray (ndC zeroN).toArray 26
  have T1 := Lib.hid t1
  have T2 := Lib.hid t2
  have T3 := Lib.hid t3
  have T4 := Lib.hid t4
  rw [HZC.out] at T1 T2 T3 T4
  clear t1 t2 t3 t4 t5
  go_enter Tryd.func15, Tryd.ntmps15
  unfold ndV
  go_wp2_with (refine wpList_load_row rfl 26 (.tmp 2) rfl w.heap.size rfl 26 _ (0, 0) _ T2.out Tryd.underlying26 rfl HSA.out ?_)
  rw [show Value.agg (ndC a).toArray = ndV a from rfl]
  refine (rvalid_any a _ HOA.out).mono ?_
  rintro e W1 ⟨rfl, hq⟩
  have S1 := Lib.hid (T1.out.trans (hq.mono T1.out.size))
  have S2 := Lib.hid (row_kept T2.out hq)
  have S3 := Lib.hid (row_kept T3.out hq)
  have S4 := Lib.hid (row_kept T4.out hq)
  rw [HVA.out]
  clear hq T1 T2 T3 T4
  go_wp2_with (refine wpList_unguard rfl ?_; refine wpList_load_row rfl 26 (.tmp 3) rfl (w.heap.size + 1) rfl 26 _ (0, 0) _ S3.out Tryd.underlying26 rfl HSB.out ?_)
  rw [show Value.agg (ndC b).toArray = ndV b from rfl]
  refine (rvalid_any b _ HOB.out).mono ?_
  rintro e WE ⟨rfl, hq⟩
  have HB := Lib.hid (S1.out.trans (hq.mono S1.out.size))
  have R2 := Lib.hid (row_kept S2.out hq)
  have R3 := Lib.hid (row_kept S3.out hq)
  have HRR := Lib.hid (row_kept S4.out hq)
  rw [HVB.out]
  clear hq S1 S2 S3 S4
  rw [← HZC.out] at HRR
  go_wp2_with (rw [← HZC.out]; refine wpList_store_row rfl 26 (.tmp 4) (.tmp 23) rfl (w.heap.size + 1 + 1) (ndC zeroN).toArray ?ha ?hb 26 (ndC zeroN).toArray HRR.out HSZ.out rfl (ndC_one zeroN) ?_)
  all_goals first | rfl | skip
  have hr := setRow_heap WE (w.heap.size + 1 + 1) _ (ndC zeroN).toArray _ _ HRR.out
  have hl := run_loadVar_row (P := Tryd.prog) (WE.setRow (w.heap.size + 1 + 1) (ndC zeroN).toArray) (w.heap.size + 1 + 1) 26 26 (ndC zeroN).toArray (0, 0) _ hr Tryd.underlying26 rfl HSZ.out
  refine bodyPost_ret (v := .tuple #[ndV zeroN, .int .i64 410]) ?_ rfl ⟨rfl, below_setRow HB.out (by omega) _⟩
  unfold ndV
  simp [results, Tryd.results15, asAddr, hl]
set_option maxHeartbeats 4000000 in
theorem rjoin_n3 (a b : Nd) (w : World) (HOA : Hid (NdOk a)) (HOB : Hid (NdOk b)) (HVA : Hid (vN a = true)) (HVB : Hid (vN b = true)) (hs : 1073741824 < a.c + b.c) :
    Calls Tryd.prog 15 #[ndV a, ndV b] w fun e w' => e = .returned (.tuple #[ndV zeroN, .int .i64 410]) ∧ Below w.heap.size w w' := by
  have hba := vN_bd HVA.out
  have hbb := vN_bd HVB.out
  have hw : IntKind.i64.wrap (a.c + b.c) = a.c + b.c := IntWalk.i64_in _ (by omega)
  have ds : decide (1073741824 < a.c + b.c) = true := decide_eq_true hs
  clear hba hbb
  have HSA : Hid ((Tryd.prog.info? 26).map (·.size) = some (ndC a).toArray.size) := Lib.hid (by rw [size34 HOA.out]; simp)
  have HSB : Hid ((Tryd.prog.info? 26).map (·.size) = some (ndC b).toArray.size) := Lib.hid (by rw [size34 HOB.out]; simp)
  have HSZ : Hid ((Tryd.prog.info? 26).map (·.size) = some (ndC zeroN).toArray.size) := Lib.hid (by rw [size34 zeroN_ok]; simp)
  have HZC := Lib.hid zeroN_cells
  obtain ⟨t1, t2, t3, t4, t5⟩ := three_rows w (ndC a).toArray (ndC b).toArray (ndC zeroN).toArray 26
  have T1 := Lib.hid t1
  have T2 := Lib.hid t2
  have T3 := Lib.hid t3
  have T4 := Lib.hid t4
  rw [HZC.out] at T1 T2 T3 T4
  clear t1 t2 t3 t4 t5
  go_enter Tryd.func15, Tryd.ntmps15
  unfold ndV
  go_wp2_with (refine wpList_load_row rfl 26 (.tmp 2) rfl w.heap.size rfl 26 _ (0, 0) _ T2.out Tryd.underlying26 rfl HSA.out ?_)
  rw [show Value.agg (ndC a).toArray = ndV a from rfl]
  refine (rvalid_any a _ HOA.out).mono ?_
  rintro e W1 ⟨rfl, hq⟩
  have S1 := Lib.hid (T1.out.trans (hq.mono T1.out.size))
  have S2 := Lib.hid (row_kept T2.out hq)
  have S3 := Lib.hid (row_kept T3.out hq)
  have S4 := Lib.hid (row_kept T4.out hq)
  rw [HVA.out]
  clear hq T1 T2 T3 T4
  go_wp2_with (refine wpList_unguard rfl ?_; refine wpList_load_row rfl 26 (.tmp 3) rfl (w.heap.size + 1) rfl 26 _ (0, 0) _ S3.out Tryd.underlying26 rfl HSB.out ?_)
  rw [show Value.agg (ndC b).toArray = ndV b from rfl]
  refine (rvalid_any b _ HOB.out).mono ?_
  rintro e WE ⟨rfl, hq⟩
  have HB := Lib.hid (S1.out.trans (hq.mono S1.out.size))
  have R2 := Lib.hid (row_kept S2.out hq)
  have R3 := Lib.hid (row_kept S3.out hq)
  have HRR := Lib.hid (row_kept S4.out hq)
  rw [HVB.out]
  clear hq S1 S2 S3 S4
  have k1 := cell_c HOA.out R2.out
  have k2 := cell_c HOB.out R3.out
  rw [← HZC.out] at HRR
  go_wp2_with (rw [← HZC.out]; refine wpList_store_row rfl 26 (.tmp 4) (.tmp 23) rfl (w.heap.size + 1 + 1) (ndC zeroN).toArray ?ha ?hb 26 (ndC zeroN).toArray HRR.out HSZ.out rfl (ndC_one zeroN) ?_)
  all_goals first | rfl | skip
  have hr := setRow_heap WE (w.heap.size + 1 + 1) _ (ndC zeroN).toArray _ _ HRR.out
  have hl := run_loadVar_row (P := Tryd.prog) (WE.setRow (w.heap.size + 1 + 1) (ndC zeroN).toArray) (w.heap.size + 1 + 1) 26 26 (ndC zeroN).toArray (0, 0) _ hr Tryd.underlying26 rfl HSZ.out
  refine bodyPost_ret (v := .tuple #[ndV zeroN, .int .i64 410]) ?_ rfl ⟨rfl, below_setRow HB.out (by omega) _⟩
  unfold ndV
  simp [results, Tryd.results15, asAddr, hl]
set_option maxHeartbeats 4000000 in
theorem rjoin_yes (a b : Nd) (w : World) (HOA : Hid (NdOk a)) (HOB : Hid (NdOk b)) (hv : vL [a, b] = true) :
    Calls Tryd.prog 15 #[ndV a, ndV b] w fun e w' => e = .returned (.tuple #[ndV (joinN a b), .int .i64 0]) ∧ Below w.heap.size w w' := by
  have HJ : Hid (NdOk (joinN a b)) := Lib.hid (join_ok HOA.out HOB.out hv)
  have hvp := (vL_pair a b).1 hv
  have hba := vN_bd hvp.1.1
  have hbb := vN_bd hvp.1.2
  have HVA := Lib.hid hvp.1.1
  have HVB := Lib.hid hvp.1.2
  have HWC : Hid (IntKind.i64.wrap (a.c + b.c) = a.c + b.c) := Lib.hid (IntWalk.i64_in _ (by omega))
  have HWP : Hid (IntKind.i64.wrap (a.p + b.p) = a.p + b.p) := Lib.hid (IntWalk.i64_in _ (by omega))
  have ds : decide (1073741824 < a.c + b.c) = false := decide_eq_false (by omega)
  have HZS : Hid (∀ z ∈ ([a.c, a.p, b.c, b.p] : List Int), -9223372036854775808 ≤ z ∧ z ≤ 9223372036854775807) := Lib.hid (fun z hz => by
    simp only [List.mem_cons, List.not_mem_nil, or_false] at hz
    rcases hz with rfl | rfl | rfl | rfl <;> omega)
  have HS1 : Hid ((Tryd.prog.info? 26).map (·.size) = some (ndC (joinN a b)).toArray.size) := Lib.hid (by rw [size34 HJ.out]; simp)
  have HS2 : Hid (34 = (ndC (joinN a b)).toArray.size) := Lib.hid (by simp [ndC_length HJ.out])
  have hw := HWC.out
  clear hv hvp hba hbb
  have HSA : Hid ((Tryd.prog.info? 26).map (·.size) = some (ndC a).toArray.size) := Lib.hid (by rw [size34 HOA.out]; simp)
  have HSB : Hid ((Tryd.prog.info? 26).map (·.size) = some (ndC b).toArray.size) := Lib.hid (by rw [size34 HOB.out]; simp)
  have HSZ : Hid ((Tryd.prog.info? 26).map (·.size) = some (ndC zeroN).toArray.size) := Lib.hid (by rw [size34 zeroN_ok]; simp)
  have HZC := Lib.hid zeroN_cells
  obtain ⟨t1, t2, t3, t4, t5⟩ := three_rows w (ndC a).toArray (ndC b).toArray (ndC zeroN).toArray 26
  have T1 := Lib.hid t1
  have T2 := Lib.hid t2
  have T3 := Lib.hid t3
  have T4 := Lib.hid t4
  rw [HZC.out] at T1 T2 T3 T4
  clear t1 t2 t3 t4 t5
  go_enter Tryd.func15, Tryd.ntmps15
  unfold ndV
  go_wp2_with (refine wpList_load_row rfl 26 (.tmp 2) rfl w.heap.size rfl 26 _ (0, 0) _ T2.out Tryd.underlying26 rfl HSA.out ?_)
  rw [show Value.agg (ndC a).toArray = ndV a from rfl]
  refine (rvalid_any a _ HOA.out).mono ?_
  rintro e W1 ⟨rfl, hq⟩
  have S1 := Lib.hid (T1.out.trans (hq.mono T1.out.size))
  have S2 := Lib.hid (row_kept T2.out hq)
  have S3 := Lib.hid (row_kept T3.out hq)
  have S4 := Lib.hid (row_kept T4.out hq)
  rw [HVA.out]
  clear hq T1 T2 T3 T4
  go_wp2_with (refine wpList_unguard rfl ?_; refine wpList_load_row rfl 26 (.tmp 3) rfl (w.heap.size + 1) rfl 26 _ (0, 0) _ S3.out Tryd.underlying26 rfl HSB.out ?_)
  rw [show Value.agg (ndC b).toArray = ndV b from rfl]
  refine (rvalid_any b _ HOB.out).mono ?_
  rintro e WE ⟨rfl, hq⟩
  have HB := Lib.hid (S1.out.trans (hq.mono S1.out.size))
  have R2 := Lib.hid (row_kept S2.out hq)
  have R3 := Lib.hid (row_kept S3.out hq)
  have HRR := Lib.hid (row_kept S4.out hq)
  rw [HVB.out]
  clear hq S1 S2 S3 S4
  have k1 := cell_c HOA.out R2.out
  have k2 := cell_c HOB.out R3.out
  rw [← HZC.out] at HRR
  have hsz1 : w.heap.size + 1 + 1 + 1 ≤ WE.heap.size := (Array.getElem?_eq_some_iff.1 HRR.out).1
  have hbn := (Below.refl _ WE).alloc (Nat.le_refl _) (.cells #[] 5)
  have HSZ0 : Hid (w.heap.size + 1 + 1 + 1 ≤ (WE.alloc (.cells #[] 5)).heap.size) := Lib.hid (Nat.le_trans hsz1 hbn.size)
  have HBN := Lib.hid (HB.out.trans (hbn.mono HB.out.size))
  have HRRn := Lib.hid (row_kept HRR.out hbn)
  have HR2n := Lib.hid (row_kept R2.out hbn)
  have HR3n := Lib.hid (row_kept R3.out hbn)
  have HRD : Hid (Rd (WE.alloc (.cells #[] 5)) (WE.alloc (.cells #[] 5)).heap.size (some ⟨w.heap.size, 0, none⟩) a.d) := Lib.hid (fun _ => ⟨_, 0, rfl, by have := HSZ0.out; omega, bytes_node HR2n.out⟩)
  have HO0 := Lib.hid (OwnB.empty WE (w.heap.size + 1 + 1 + 1) hsz1)
  have HL0 : Hid (([] : List Nat).length + 32 ≤ 1099511627776) := Lib.hid (by simp)
  have HLA := Lib.hid HOA.out.len
  have HLB := Lib.hid HOB.out.len
  have HL1 : Hid (([] ++ a.d).length + 32 ≤ 1099511627776) := Lib.hid (by rw [List.nil_append, HLA.out]; omega)
  clear hsz1 hbn
  go_wp2_with (first | (at_builtin; refine wpList_append_bytes rfl (.tmp 24) (.tmp 26) rfl (w.heap.size + 1 + 1 + 1) _ [] a.d rfl HO0 (some ⟨w.heap.size, 0, none⟩) 32 32 rfl HLA (fun h => by cases h) HRD HL0.out HSZ0.out ?_; intro v1 W4 HO4 HB4; have HR24 := Lib.hid ((HB4.out.block _ (by omega)).trans HR2n.out); have HR34 := Lib.hid ((HB4.out.block _ (by omega)).trans HR3n.out); have HRR4 := Lib.hid ((HB4.out.block _ (by omega)).trans HRRn.out); have HSZ4 := Lib.hid (Nat.le_trans HSZ0.out HB4.out.size); have HRD4 : Hid (Rd W4 W4.heap.size (some ⟨w.heap.size + 1, 0, none⟩) b.d) := Lib.hid (fun _ => ⟨_, 0, rfl, (by have := HSZ4.out; omega), bytes_node HR34.out⟩)) | (at_builtin; refine wpList_append_bytes rfl (.tmp 28) (.tmp 30) rfl (w.heap.size + 1 + 1 + 1) _ ([] ++ a.d) b.d rfl HO4 (some ⟨w.heap.size + 1, 0, none⟩) 32 32 rfl HLB (fun h => by cases h) HRD4 HL1.out HSZ4.out ?_; intro v2 W5 HO5 HB5; have HR25 := Lib.hid ((HB5.out.block _ (by omega)).trans HR24.out); have HR35 := Lib.hid ((HB5.out.block _ (by omega)).trans HR34.out); have HRR5 := Lib.hid ((HB5.out.block _ (by omega)).trans HRR4.out); have HSZ5 := Lib.hid (Nat.le_trans HSZ4.out HB5.out.size); have q1 := cell_c HOA.out HR25.out; have q2 := cell_p HOA.out HR25.out; have q3 := cell_c HOB.out HR35.out; have q4 := cell_p HOB.out HR35.out))
  have HBT5 := Lib.hid ((HBN.out.trans (HB4.out.mono (by omega))).trans (HB5.out.mono (by omega)))
  clear q1 q2 q3 q4 k1 k2
  have hq := heap_alloc_new W5 (.cells #[.int .i64 a.c, .int .i64 a.p, .int .i64 b.c, .int .i64 b.p] 3)
  have hba := (Below.refl _ W5).alloc (Nat.le_refl _) (.cells #[.int .i64 a.c, .int .i64 a.p, .int .i64 b.c, .int .i64 b.p] 3)
  have HBT6 := Lib.hid (HBT5.out.trans (hba.mono HBT5.out.size))
  have HSZ6 := Lib.hid (Nat.le_trans HSZ5.out hba.size)
  have HO6 := Lib.hid (HO5.out.below hba)
  have HR26 := Lib.hid (row_kept HR25.out hba)
  have HR36 := Lib.hid (row_kept HR35.out hba)
  have HRR6 := Lib.hid (row_kept HRR5.out hba)
  have HCS : Hid (∀ i, i < 4 → (W5.alloc (.cells #[.int .i64 a.c, .int .i64 a.p, .int .i64 b.c, .int .i64 b.p] 3)).cell? ⟨W5.heap.size, i, none⟩ = some (.int .i64 (([a.c, a.p, b.c, b.p] : List Int).getD i 0))) := Lib.hid (fun i hi => four_cells hq i hi)
  clear hq hba
  refine (rints_any ([a.c, a.p, b.c, b.p] : List Int) W5.heap.size 4 4 _ HZS rfl (by omega) HCS (by simp)).mono ?_
  rintro e W6 ⟨v6, rfl, ho6, hq6⟩
  obtain ⟨A6, n6, c6, rfl, hn6, hc6, hA6, HR6⟩ := ho6.slice
  have HBT7 := Lib.hid (HBT6.out.trans (hq6.mono HBT6.out.size))
  have HSZ7 := Lib.hid (Nat.le_trans HSZ6.out hq6.size)
  have HO7 := Lib.hid (HO6.out.below hq6)
  have HR27 := Lib.hid (row_kept HR26.out hq6)
  have HR37 := Lib.hid (row_kept HR36.out hq6)
  have HRR7 := Lib.hid (row_kept HRR6.out hq6)
  have HEL : Hid (n6 ≤ 100) := Lib.hid (by rw [← hn6.out]; have := encI_length ([a.c, a.p, b.c, b.p] : List Int); simp only [List.length_cons, List.length_nil] at this; omega)
  have HL6 : Hid (([] ++ a.d ++ b.d).length + n6 ≤ 1099511627776) := Lib.hid (by simp only [List.nil_append, List.length_append, HLA.out, HLB.out]; have := HEL.out; omega)
  clear ho6 hq6
  go_wp2_with (at_builtin; refine wpList_append_bytes rfl (.tmp 32) (.tmp 42) rfl (w.heap.size + 1 + 1 + 1) _ ([] ++ a.d ++ b.d) (encI ([a.c, a.p, b.c, b.p] : List Int)) rfl HO7 A6 n6 c6 rfl hn6 hA6.out HR6 HL6.out HSZ7.out ?_; intro v7 W7 HO8 HB8)
  obtain ⟨A7, n7, c7, rfl, hn7, hc7, hA7, HR7⟩ := HO8.out.slice
  have R28 := Lib.hid ((HB8.out.block _ (by omega)).trans HR27.out)
  have R38 := Lib.hid ((HB8.out.block _ (by omega)).trans HR37.out)
  have RR8 := Lib.hid ((HB8.out.block _ (by omega)).trans HRR7.out)
  have HBT8 := Lib.hid (HBT7.out.trans (HB8.out.mono (by omega)))
  have HN7 : n7 ≤ 1000 := by rw [← hn7.out]; have := HEL.out; simp only [List.length_append, List.nil_append, HLA.out, HLB.out, hn6.out]; omega
  have HBY : Hid (Bytes ([] ++ a.d ++ b.d ++ encI ([a.c, a.p, b.c, b.p] : List Int))) := Lib.hid (bytes_app (bytes_app (bytes_app (fun x hx => by cases hx) HOA.out.bytes) HOB.out.bytes) (encI_bytes _))
  have HLD : Hid (dgV (tagged (strL sumTag) ([] ++ a.d ++ b.d ++ encI ([a.c, a.p, b.c, b.p] : List Int))) = dgV (joinN a b).d) := Lib.hid (by rw [← join_d, List.nil_append]; rfl)
  clear HRR R2 R3 HB HBN HRRn HR2n HR3n HRD HO0 HL0 HL1 HO4 HB4 HR24 HR34 HRR4 HSZ4 HRD4 HO5 HB5 HR25 HR35 HRR5 HSZ5 HBT5 HBT6 HSZ6 HO6 HR26 HR36 HRR6 HCS HBT7 HSZ7 HO7 HR27 HR37 HRR7 HL6 HO8 HB8 HR6
  refine region_flow3 (by kernel_rfl) (by kernel_rfl) (fun i => Nat.beq i 13 || Nat.beq i 14) (fun i => i) (by kernel_rfl) (fun fx => #[ndV a, ndV b, Value.pointer (some { block := w.heap.size, off := 0 }), Value.pointer (some { block := w.heap.size + 1, off := 0 }), Value.pointer (some { block := w.heap.size + 1 + 1, off := 0 }), fx 14, Value.slice A7 n7 c7, ndV a, Value.bool true, Value.bool false, Value.bool false, ndV b, Value.bool true, Value.bool false, Value.bool false, Value.bool false, Value.pointer (some { block := w.heap.size, off := 32 }), Value.int IntKind.i64 a.c, Value.pointer (some { block := w.heap.size + 1, off := 32 }), Value.int IntKind.i64 b.c, Value.int IntKind.i64 (a.c + b.c), Value.bool false, Value.bool false, undef, Value.slice (some { block := WE.heap.size, off := 0 }) 0 0, Value.pointer (some { block := w.heap.size, off := 0 }), Value.slice (some { block := w.heap.size, off := 0 }) 32 32, v1, v1, Value.pointer (some { block := w.heap.size + 1, off := 0 }), Value.slice (some { block := w.heap.size + 1, off := 0 }) 32 32, v2, v2, Value.pointer (some { block := w.heap.size, off := 32 }), Value.int IntKind.i64 a.c, Value.pointer (some { block := w.heap.size, off := 33 }), Value.int IntKind.i64 a.p, Value.pointer (some { block := w.heap.size + 1, off := 32 }), Value.int IntKind.i64 b.c, Value.pointer (some { block := w.heap.size + 1, off := 33 }), Value.int IntKind.i64 b.p, Value.slice (some { block := W5.heap.size, off := 0 }) 4 4, Value.slice A6 n6 c6, Value.slice A7 n7 c7, fx 0, fx 1, fx 2, fx 3, fx 4, fx 5, fx 6, fx 7, fx 8, fx 9, fx 10, fx 11, fx 12]) (fun i => bif Nat.beq i 14 then Value.int IntKind.i64 0 else undef) (fun L fx w' => (L 13 = false → Below W7.heap.size W7 w')) (fun fi fv _ fw => wJr w w.heap.size (w.heap.size + 1) (w.heap.size + 1 + 1) A7 n7 c7 a b fi fv fw) (fun _ => (Below.refl _ _).drew) ?_ ?_
  · refine ⟨?_, ?_, ?_, ?_, ?_, ?_, ?_, ?_, ?_, ?_, ?_, ?_, ?_, ?_, ?_, trivial⟩
    all_goals intro L fx w' hC hi hcl hdn hd
    · have hnd : L 13 = false := Bool.eq_false_iff.2 (fun h => by have := (hcl 1 0 (hcl 12 1 (hcl 13 12 h (by kernel_rfl)) (by kernel_rfl)) (by kernel_rfl)); rw [hi] at this; cases this)
      go_wp2_with fail
      exact ⟨_, rfl, (fun _ => hC hnd), rfl, fun _ _ _ _ _ h => h⟩
    · have h0 : fx 0 = Value.slice A7 n7 c7 := hd.1 rfl
      have hnd : L 13 = false := Bool.eq_false_iff.2 (fun h => by have := (hcl 12 1 (hcl 13 12 h (by kernel_rfl)) (by kernel_rfl)); rw [hi] at this; cases this)
      have hb12 := hC hnd
      have HRk := Lib.hid ((HR7.out.below hb12 (Nat.le_refl _)).mono hb12.size)
      go_wp2_with fail
      refine (rtagged_any sumTag A7 n7 c7 _ w' (by decide) hn7 hc7 hA7.out (by omega) HBY HRk).mono ?_
      rintro e w2 ⟨rfl, hq⟩
      rw [HLD.out]
      go_wp2_with fail
      exact ⟨_, by show _ = Act.mk #[ndV a, ndV b, Value.pointer (some { block := w.heap.size, off := 0 }), Value.pointer (some { block := w.heap.size + 1, off := 0 }), Value.pointer (some { block := w.heap.size + 1 + 1, off := 0 }), fx 14, Value.slice A7 n7 c7, ndV a, Value.bool true, Value.bool false, Value.bool false, ndV b, Value.bool true, Value.bool false, Value.bool false, Value.bool false, Value.pointer (some { block := w.heap.size, off := 32 }), Value.int IntKind.i64 a.c, Value.pointer (some { block := w.heap.size + 1, off := 32 }), Value.int IntKind.i64 b.c, Value.int IntKind.i64 (a.c + b.c), Value.bool false, Value.bool false, undef, Value.slice (some { block := WE.heap.size, off := 0 }) 0 0, Value.pointer (some { block := w.heap.size, off := 0 }), Value.slice (some { block := w.heap.size, off := 0 }) 32 32, v1, v1, Value.pointer (some { block := w.heap.size + 1, off := 0 }), Value.slice (some { block := w.heap.size + 1, off := 0 }) 32 32, v2, v2, Value.pointer (some { block := w.heap.size, off := 32 }), Value.int IntKind.i64 a.c, Value.pointer (some { block := w.heap.size, off := 33 }), Value.int IntKind.i64 a.p, Value.pointer (some { block := w.heap.size + 1, off := 32 }), Value.int IntKind.i64 b.c, Value.pointer (some { block := w.heap.size + 1, off := 33 }), Value.int IntKind.i64 b.p, Value.slice (some { block := W5.heap.size, off := 0 }) 4 4, Value.slice A6 n6 c6, Value.slice A7 n7 c7, fx 0, dgV (joinN a b).d, fx 2, fx 3, fx 4, fx 5, fx 6, fx 7, fx 8, fx 9, fx 10, fx 11, fx 12] []; rw [h0] <;> rfl, fun _ => hb12.trans (hq.mono hb12.size), rfl, fun j v t _ _ h => wJr_below hq j v h⟩
    · have hnd : L 13 = false := Bool.eq_false_iff.2 (fun h => by have := (hcl 3 2 (hcl 6 3 (hcl 12 6 (hcl 13 12 h (by kernel_rfl)) (by kernel_rfl)) (by kernel_rfl)) (by kernel_rfl)); rw [hi] at this; cases this)
      go_wp2_with fail
      exact ⟨_, rfl, (fun _ => hC hnd), rfl, fun _ _ _ _ _ h => h⟩
    · have h2 : fx 2 = Value.pointer (some ⟨w.heap.size, 32, none⟩) := hd.1 rfl
      have hnd : L 13 = false := Bool.eq_false_iff.2 (fun h => by have := (hcl 6 3 (hcl 12 6 (hcl 13 12 h (by kernel_rfl)) (by kernel_rfl)) (by kernel_rfl)); rw [hi] at this; cases this)
      have hc := cell_c HOA.out (row_kept R28.out (hC hnd))
      go_wp2_with fail
      exact ⟨_, by show _ = Act.mk #[ndV a, ndV b, Value.pointer (some { block := w.heap.size, off := 0 }), Value.pointer (some { block := w.heap.size + 1, off := 0 }), Value.pointer (some { block := w.heap.size + 1 + 1, off := 0 }), fx 14, Value.slice A7 n7 c7, ndV a, Value.bool true, Value.bool false, Value.bool false, ndV b, Value.bool true, Value.bool false, Value.bool false, Value.bool false, Value.pointer (some { block := w.heap.size, off := 32 }), Value.int IntKind.i64 a.c, Value.pointer (some { block := w.heap.size + 1, off := 32 }), Value.int IntKind.i64 b.c, Value.int IntKind.i64 (a.c + b.c), Value.bool false, Value.bool false, undef, Value.slice (some { block := WE.heap.size, off := 0 }) 0 0, Value.pointer (some { block := w.heap.size, off := 0 }), Value.slice (some { block := w.heap.size, off := 0 }) 32 32, v1, v1, Value.pointer (some { block := w.heap.size + 1, off := 0 }), Value.slice (some { block := w.heap.size + 1, off := 0 }) 32 32, v2, v2, Value.pointer (some { block := w.heap.size, off := 32 }), Value.int IntKind.i64 a.c, Value.pointer (some { block := w.heap.size, off := 33 }), Value.int IntKind.i64 a.p, Value.pointer (some { block := w.heap.size + 1, off := 32 }), Value.int IntKind.i64 b.c, Value.pointer (some { block := w.heap.size + 1, off := 33 }), Value.int IntKind.i64 b.p, Value.slice (some { block := W5.heap.size, off := 0 }) 4 4, Value.slice A6 n6 c6, Value.slice A7 n7 c7, fx 0, fx 1, fx 2, Value.int .i64 (a.c), fx 4, fx 5, fx 6, fx 7, fx 8, fx 9, fx 10, fx 11, fx 12] []; rw [h2] <;> rfl, (fun _ => hC hnd), rfl, fun _ _ _ _ _ h => h⟩
    · have hnd : L 13 = false := Bool.eq_false_iff.2 (fun h => by have := (hcl 5 4 (hcl 6 5 (hcl 12 6 (hcl 13 12 h (by kernel_rfl)) (by kernel_rfl)) (by kernel_rfl)) (by kernel_rfl)); rw [hi] at this; cases this)
      go_wp2_with fail
      exact ⟨_, rfl, (fun _ => hC hnd), rfl, fun _ _ _ _ _ h => h⟩
    · have h4 : fx 4 = Value.pointer (some ⟨w.heap.size + 1, 32, none⟩) := hd.1 rfl
      have hnd : L 13 = false := Bool.eq_false_iff.2 (fun h => by have := (hcl 6 5 (hcl 12 6 (hcl 13 12 h (by kernel_rfl)) (by kernel_rfl)) (by kernel_rfl)); rw [hi] at this; cases this)
      have hc := cell_c HOB.out (row_kept R38.out (hC hnd))
      go_wp2_with fail
      exact ⟨_, by show _ = Act.mk #[ndV a, ndV b, Value.pointer (some { block := w.heap.size, off := 0 }), Value.pointer (some { block := w.heap.size + 1, off := 0 }), Value.pointer (some { block := w.heap.size + 1 + 1, off := 0 }), fx 14, Value.slice A7 n7 c7, ndV a, Value.bool true, Value.bool false, Value.bool false, ndV b, Value.bool true, Value.bool false, Value.bool false, Value.bool false, Value.pointer (some { block := w.heap.size, off := 32 }), Value.int IntKind.i64 a.c, Value.pointer (some { block := w.heap.size + 1, off := 32 }), Value.int IntKind.i64 b.c, Value.int IntKind.i64 (a.c + b.c), Value.bool false, Value.bool false, undef, Value.slice (some { block := WE.heap.size, off := 0 }) 0 0, Value.pointer (some { block := w.heap.size, off := 0 }), Value.slice (some { block := w.heap.size, off := 0 }) 32 32, v1, v1, Value.pointer (some { block := w.heap.size + 1, off := 0 }), Value.slice (some { block := w.heap.size + 1, off := 0 }) 32 32, v2, v2, Value.pointer (some { block := w.heap.size, off := 32 }), Value.int IntKind.i64 a.c, Value.pointer (some { block := w.heap.size, off := 33 }), Value.int IntKind.i64 a.p, Value.pointer (some { block := w.heap.size + 1, off := 32 }), Value.int IntKind.i64 b.c, Value.pointer (some { block := w.heap.size + 1, off := 33 }), Value.int IntKind.i64 b.p, Value.slice (some { block := W5.heap.size, off := 0 }) 4 4, Value.slice A6 n6 c6, Value.slice A7 n7 c7, fx 0, fx 1, fx 2, fx 3, fx 4, Value.int .i64 (b.c), fx 6, fx 7, fx 8, fx 9, fx 10, fx 11, fx 12] []; rw [h4] <;> rfl, (fun _ => hC hnd), rfl, fun _ _ _ _ _ h => h⟩
    · have h3 : fx 3 = Value.int .i64 (a.c) := hd.1 rfl
      have h5 : fx 5 = Value.int .i64 (b.c) := hd.2.1 rfl
      have hnd : L 13 = false := Bool.eq_false_iff.2 (fun h => by have := (hcl 12 6 (hcl 13 12 h (by kernel_rfl)) (by kernel_rfl)); rw [hi] at this; cases this)
      have hw := HWC.out
      go_wp2_with fail
      exact ⟨_, by show _ = Act.mk #[ndV a, ndV b, Value.pointer (some { block := w.heap.size, off := 0 }), Value.pointer (some { block := w.heap.size + 1, off := 0 }), Value.pointer (some { block := w.heap.size + 1 + 1, off := 0 }), fx 14, Value.slice A7 n7 c7, ndV a, Value.bool true, Value.bool false, Value.bool false, ndV b, Value.bool true, Value.bool false, Value.bool false, Value.bool false, Value.pointer (some { block := w.heap.size, off := 32 }), Value.int IntKind.i64 a.c, Value.pointer (some { block := w.heap.size + 1, off := 32 }), Value.int IntKind.i64 b.c, Value.int IntKind.i64 (a.c + b.c), Value.bool false, Value.bool false, undef, Value.slice (some { block := WE.heap.size, off := 0 }) 0 0, Value.pointer (some { block := w.heap.size, off := 0 }), Value.slice (some { block := w.heap.size, off := 0 }) 32 32, v1, v1, Value.pointer (some { block := w.heap.size + 1, off := 0 }), Value.slice (some { block := w.heap.size + 1, off := 0 }) 32 32, v2, v2, Value.pointer (some { block := w.heap.size, off := 32 }), Value.int IntKind.i64 a.c, Value.pointer (some { block := w.heap.size, off := 33 }), Value.int IntKind.i64 a.p, Value.pointer (some { block := w.heap.size + 1, off := 32 }), Value.int IntKind.i64 b.c, Value.pointer (some { block := w.heap.size + 1, off := 33 }), Value.int IntKind.i64 b.p, Value.slice (some { block := W5.heap.size, off := 0 }) 4 4, Value.slice A6 n6 c6, Value.slice A7 n7 c7, fx 0, fx 1, fx 2, fx 3, fx 4, fx 5, Value.int .i64 (a.c + b.c), fx 7, fx 8, fx 9, fx 10, fx 11, fx 12] []; rw [h3, h5] <;> rfl, (fun _ => hC hnd), rfl, fun _ _ _ _ _ h => h⟩
    · have hnd : L 13 = false := Bool.eq_false_iff.2 (fun h => by have := (hcl 8 7 (hcl 11 8 (hcl 12 11 (hcl 13 12 h (by kernel_rfl)) (by kernel_rfl)) (by kernel_rfl)) (by kernel_rfl)); rw [hi] at this; cases this)
      go_wp2_with fail
      exact ⟨_, rfl, (fun _ => hC hnd), rfl, fun _ _ _ _ _ h => h⟩
    · have h7 : fx 7 = Value.pointer (some ⟨w.heap.size, 33, none⟩) := hd.1 rfl
      have hnd : L 13 = false := Bool.eq_false_iff.2 (fun h => by have := (hcl 11 8 (hcl 12 11 (hcl 13 12 h (by kernel_rfl)) (by kernel_rfl)) (by kernel_rfl)); rw [hi] at this; cases this)
      have hc := cell_p HOA.out (row_kept R28.out (hC hnd))
      go_wp2_with fail
      exact ⟨_, by show _ = Act.mk #[ndV a, ndV b, Value.pointer (some { block := w.heap.size, off := 0 }), Value.pointer (some { block := w.heap.size + 1, off := 0 }), Value.pointer (some { block := w.heap.size + 1 + 1, off := 0 }), fx 14, Value.slice A7 n7 c7, ndV a, Value.bool true, Value.bool false, Value.bool false, ndV b, Value.bool true, Value.bool false, Value.bool false, Value.bool false, Value.pointer (some { block := w.heap.size, off := 32 }), Value.int IntKind.i64 a.c, Value.pointer (some { block := w.heap.size + 1, off := 32 }), Value.int IntKind.i64 b.c, Value.int IntKind.i64 (a.c + b.c), Value.bool false, Value.bool false, undef, Value.slice (some { block := WE.heap.size, off := 0 }) 0 0, Value.pointer (some { block := w.heap.size, off := 0 }), Value.slice (some { block := w.heap.size, off := 0 }) 32 32, v1, v1, Value.pointer (some { block := w.heap.size + 1, off := 0 }), Value.slice (some { block := w.heap.size + 1, off := 0 }) 32 32, v2, v2, Value.pointer (some { block := w.heap.size, off := 32 }), Value.int IntKind.i64 a.c, Value.pointer (some { block := w.heap.size, off := 33 }), Value.int IntKind.i64 a.p, Value.pointer (some { block := w.heap.size + 1, off := 32 }), Value.int IntKind.i64 b.c, Value.pointer (some { block := w.heap.size + 1, off := 33 }), Value.int IntKind.i64 b.p, Value.slice (some { block := W5.heap.size, off := 0 }) 4 4, Value.slice A6 n6 c6, Value.slice A7 n7 c7, fx 0, fx 1, fx 2, fx 3, fx 4, fx 5, fx 6, fx 7, Value.int .i64 (a.p), fx 9, fx 10, fx 11, fx 12] []; rw [h7] <;> rfl, (fun _ => hC hnd), rfl, fun _ _ _ _ _ h => h⟩
    · have hnd : L 13 = false := Bool.eq_false_iff.2 (fun h => by have := (hcl 10 9 (hcl 11 10 (hcl 12 11 (hcl 13 12 h (by kernel_rfl)) (by kernel_rfl)) (by kernel_rfl)) (by kernel_rfl)); rw [hi] at this; cases this)
      go_wp2_with fail
      exact ⟨_, rfl, (fun _ => hC hnd), rfl, fun _ _ _ _ _ h => h⟩
    · have h9 : fx 9 = Value.pointer (some ⟨w.heap.size + 1, 33, none⟩) := hd.1 rfl
      have hnd : L 13 = false := Bool.eq_false_iff.2 (fun h => by have := (hcl 11 10 (hcl 12 11 (hcl 13 12 h (by kernel_rfl)) (by kernel_rfl)) (by kernel_rfl)); rw [hi] at this; cases this)
      have hc := cell_p HOB.out (row_kept R38.out (hC hnd))
      go_wp2_with fail
      exact ⟨_, by show _ = Act.mk #[ndV a, ndV b, Value.pointer (some { block := w.heap.size, off := 0 }), Value.pointer (some { block := w.heap.size + 1, off := 0 }), Value.pointer (some { block := w.heap.size + 1 + 1, off := 0 }), fx 14, Value.slice A7 n7 c7, ndV a, Value.bool true, Value.bool false, Value.bool false, ndV b, Value.bool true, Value.bool false, Value.bool false, Value.bool false, Value.pointer (some { block := w.heap.size, off := 32 }), Value.int IntKind.i64 a.c, Value.pointer (some { block := w.heap.size + 1, off := 32 }), Value.int IntKind.i64 b.c, Value.int IntKind.i64 (a.c + b.c), Value.bool false, Value.bool false, undef, Value.slice (some { block := WE.heap.size, off := 0 }) 0 0, Value.pointer (some { block := w.heap.size, off := 0 }), Value.slice (some { block := w.heap.size, off := 0 }) 32 32, v1, v1, Value.pointer (some { block := w.heap.size + 1, off := 0 }), Value.slice (some { block := w.heap.size + 1, off := 0 }) 32 32, v2, v2, Value.pointer (some { block := w.heap.size, off := 32 }), Value.int IntKind.i64 a.c, Value.pointer (some { block := w.heap.size, off := 33 }), Value.int IntKind.i64 a.p, Value.pointer (some { block := w.heap.size + 1, off := 32 }), Value.int IntKind.i64 b.c, Value.pointer (some { block := w.heap.size + 1, off := 33 }), Value.int IntKind.i64 b.p, Value.slice (some { block := W5.heap.size, off := 0 }) 4 4, Value.slice A6 n6 c6, Value.slice A7 n7 c7, fx 0, fx 1, fx 2, fx 3, fx 4, fx 5, fx 6, fx 7, fx 8, fx 9, Value.int .i64 (b.p), fx 11, fx 12] []; rw [h9] <;> rfl, (fun _ => hC hnd), rfl, fun _ _ _ _ _ h => h⟩
    · have h8 : fx 8 = Value.int .i64 (a.p) := hd.1 rfl
      have h10 : fx 10 = Value.int .i64 (b.p) := hd.2.1 rfl
      have hnd : L 13 = false := Bool.eq_false_iff.2 (fun h => by have := (hcl 12 11 (hcl 13 12 h (by kernel_rfl)) (by kernel_rfl)); rw [hi] at this; cases this)
      have hw := HWP.out
      go_wp2_with fail
      exact ⟨_, by show _ = Act.mk #[ndV a, ndV b, Value.pointer (some { block := w.heap.size, off := 0 }), Value.pointer (some { block := w.heap.size + 1, off := 0 }), Value.pointer (some { block := w.heap.size + 1 + 1, off := 0 }), fx 14, Value.slice A7 n7 c7, ndV a, Value.bool true, Value.bool false, Value.bool false, ndV b, Value.bool true, Value.bool false, Value.bool false, Value.bool false, Value.pointer (some { block := w.heap.size, off := 32 }), Value.int IntKind.i64 a.c, Value.pointer (some { block := w.heap.size + 1, off := 32 }), Value.int IntKind.i64 b.c, Value.int IntKind.i64 (a.c + b.c), Value.bool false, Value.bool false, undef, Value.slice (some { block := WE.heap.size, off := 0 }) 0 0, Value.pointer (some { block := w.heap.size, off := 0 }), Value.slice (some { block := w.heap.size, off := 0 }) 32 32, v1, v1, Value.pointer (some { block := w.heap.size + 1, off := 0 }), Value.slice (some { block := w.heap.size + 1, off := 0 }) 32 32, v2, v2, Value.pointer (some { block := w.heap.size, off := 32 }), Value.int IntKind.i64 a.c, Value.pointer (some { block := w.heap.size, off := 33 }), Value.int IntKind.i64 a.p, Value.pointer (some { block := w.heap.size + 1, off := 32 }), Value.int IntKind.i64 b.c, Value.pointer (some { block := w.heap.size + 1, off := 33 }), Value.int IntKind.i64 b.p, Value.slice (some { block := W5.heap.size, off := 0 }) 4 4, Value.slice A6 n6 c6, Value.slice A7 n7 c7, fx 0, fx 1, fx 2, fx 3, fx 4, fx 5, fx 6, fx 7, fx 8, fx 9, fx 10, Value.int .i64 (a.p + b.p), fx 12] []; rw [h8, h10] <;> rfl, (fun _ => hC hnd), rfl, fun _ _ _ _ _ h => h⟩
    · have h1 : fx 1 = dgV (joinN a b).d := hd.1 rfl
      have h6 : fx 6 = Value.int .i64 (a.c + b.c) := hd.2.1 rfl
      have h11 : fx 11 = Value.int .i64 (a.p + b.p) := hd.2.2.1 rfl
      have hnd : L 13 = false := Bool.eq_false_iff.2 (fun h => by have := (hcl 13 12 h (by kernel_rfl)); rw [hi] at this; cases this)
      refine wpList_build_node rfl (.tmp 45) (.tmp 50) (.tmp 55) rfl (joinN a b).d (a.c + b.c) (a.p + b.p) HJ.out.len h1 h6 h11 ?_
      clear hd
      go_wp2_with fail
      exact ⟨_, by show _ = Act.mk #[ndV a, ndV b, Value.pointer (some { block := w.heap.size, off := 0 }), Value.pointer (some { block := w.heap.size + 1, off := 0 }), Value.pointer (some { block := w.heap.size + 1 + 1, off := 0 }), fx 14, Value.slice A7 n7 c7, ndV a, Value.bool true, Value.bool false, Value.bool false, ndV b, Value.bool true, Value.bool false, Value.bool false, Value.bool false, Value.pointer (some { block := w.heap.size, off := 32 }), Value.int IntKind.i64 a.c, Value.pointer (some { block := w.heap.size + 1, off := 32 }), Value.int IntKind.i64 b.c, Value.int IntKind.i64 (a.c + b.c), Value.bool false, Value.bool false, undef, Value.slice (some { block := WE.heap.size, off := 0 }) 0 0, Value.pointer (some { block := w.heap.size, off := 0 }), Value.slice (some { block := w.heap.size, off := 0 }) 32 32, v1, v1, Value.pointer (some { block := w.heap.size + 1, off := 0 }), Value.slice (some { block := w.heap.size + 1, off := 0 }) 32 32, v2, v2, Value.pointer (some { block := w.heap.size, off := 32 }), Value.int IntKind.i64 a.c, Value.pointer (some { block := w.heap.size, off := 33 }), Value.int IntKind.i64 a.p, Value.pointer (some { block := w.heap.size + 1, off := 32 }), Value.int IntKind.i64 b.c, Value.pointer (some { block := w.heap.size + 1, off := 33 }), Value.int IntKind.i64 b.p, Value.slice (some { block := W5.heap.size, off := 0 }) 4 4, Value.slice A6 n6 c6, Value.slice A7 n7 c7, fx 0, fx 1, fx 2, fx 3, fx 4, fx 5, fx 6, fx 7, fx 8, fx 9, fx 10, fx 11, ndV (joinN a b)] []; rw [h1, h6, h11] <;> rfl, fun _ => hC hnd, rfl, fun _ _ _ _ _ h => h⟩
    · have h12 : fx 12 = ndV (joinN a b) := hd.1 rfl
      have hb21 := hC hi
      have hrow := row_kept RR8.out hb21
      refine wpList_store_row rfl 26 (.tmp 4) (.tmp 56) rfl (w.heap.size + 1 + 1) (ndC (joinN a b)).toArray rfl h12 26 _ hrow HS1.out HS2.out (ndC_one _) ?_
      clear hd
      go_wp2_with fail
      refine ⟨undef, by rw [← h12]; rfl, fun h => (updB_self h).elim, ⟨setRow_heap _ _ _ _ _ _ hrow, below_setRow (HBT8.out.trans (hb21.mono HBT8.out.size)) (by omega) _⟩, fun j v t hj hu h => ?_⟩
      refine wJr_pure j v ?_ h
      intro e
      subst e
      rw [hi] at hj; cases hj
    · go_wp2_with fail
      exact ⟨_, rfl, fun h => hC h, rfl, fun _ _ _ _ _ h => h⟩
  · intro L fx w' hC hS
    have H13 := Lib.hid (hS 13 (by decide) rfl)
    have H14 := Lib.hid (hS 14 (by decide) rfl)
    have h14 : fx 14 = .int .i64 0 := H14.out
    rw [h14]
    clear hS h14 H14
    go_wp2_with fail
    have hl := run_loadVar_row (P := Tryd.prog) w' (w.heap.size + 1 + 1) 26 26 (ndC (joinN a b)).toArray (0, 0) _ H13.out.1 Tryd.underlying26 rfl HS1.out
    refine bodyPost_ret (v := .tuple #[ndV (joinN a b), .int .i64 0]) ?_ rfl ⟨rfl, H13.out.2⟩
    unfold ndV
    simp [results, Tryd.results15, asAddr, hl]
theorem rjoin_any (a b : Nd) (w : World) (ha : NdOk a) (hb : NdOk b) :
    Calls Tryd.prog 15 #[ndV a, ndV b] w fun e w' => e = .returned (.tuple #[ndV (joinR a b), .int .i64 (joinE a b)]) ∧ Below w.heap.size w w' := by
  by_cases hv : vL [a, b] = true
  · unfold joinR joinE
    rw [if_pos hv, if_pos hv]
    exact rjoin_yes a b w (Lib.hid ha) (Lib.hid hb) hv
  · unfold joinR joinE
    rw [if_neg hv, if_neg hv]
    by_cases h1 : vN a = true
    · by_cases h2 : vN b = true
      · refine rjoin_n3 a b w (Lib.hid ha) (Lib.hid hb) (Lib.hid h1) (Lib.hid h2) ?_
        have : ¬ a.c + b.c ≤ 1073741824 := fun h => hv ((vL_pair a b).2 ⟨⟨h1, h2⟩, h⟩)
        omega
      · exact rjoin_n2 a b w (Lib.hid ha) (Lib.hid hb) (Lib.hid h1) (Lib.hid (by simpa using h2))
    · exact rjoin_n1 a b w (Lib.hid ha) (Lib.hid hb) (Lib.hid (by simpa using h1))
end Go.Proofs.YtgcmbiegbclhmaaDoor
namespace Go.Proofs.YtgcmbiegbclhmaaDoor
open Go.RowKit SzSha SzTree
set_option linter.unusedVariables false
set_option maxRecDepth 100000
def wRr (M : Nat) (g : Nat) (off : Nat) (n : Nat) (c : Nat) (k : Nat) (a : Nd) (b : Nd) (r : Nd) : Nat → Value → Value → World → Prop
  | 0, fv, _, _ => fv = Value.slice (some ⟨g, off, none⟩) n c
  | 1, fv, _, _ => fv = Value.int .i64 ((k : Nat))
  | 2, fv, _, _ => fv = Value.slice (some ⟨g, off, none⟩) k c
  | 3, fv, _, _ => fv = ndV a
  | 4, fv, _, _ => fv = Value.slice (some ⟨g, off, none⟩) n c
  | 5, fv, _, _ => fv = Value.int .i64 ((k : Nat))
  | 6, fv, _, _ => fv = Value.slice (some ⟨g, off + k * 34, none⟩) (n - k) (c - k)
  | 7, fv, _, _ => fv = ndV b
  | 8, fv, _, _ => fv = Value.tuple #[ndV r, .int .i64 0]
  | 9, fv, _, _ => fv = Value.tuple #[ndV r, .int .i64 0]
  | 10, fv, _, _ => fv = ndV r
  | 11, fv, _, _ => fv = Value.int .i64 (0)
  | 12, fv, fu, fw => True
  | 13, fv, fu, fw => ∃ q, fu = .pointer (some ⟨q, 0, none⟩) ∧ M ≤ q ∧ fw.heap[q]? = some (.cells (ndC r).toArray 26 (0, 0))
  | 14, fv, _, _ => fv = Value.int .i64 (0)
  | _, _, _, _ => True
theorem wRr_below {M : Nat} {g : Nat} {off : Nat} {n : Nat} {c : Nat} {k : Nat} {a : Nd} {b : Nd} {r : Nd} {w w' : World} (hb : Below w.heap.size w w') : ∀ j v u, wRr M g off n c k a b r j v u w → wRr M g off n c k a b r j v u w'
  | 0, v, u, h => h
  | 1, v, u, h => h
  | 2, v, u, h => h
  | 3, v, u, h => h
  | 4, v, u, h => h
  | 5, v, u, h => h
  | 6, v, u, h => h
  | 7, v, u, h => h
  | 8, v, u, h => h
  | 9, v, u, h => h
  | 10, v, u, h => h
  | 11, v, u, h => h
  | 12, v, u, h => h
  | 13, v, u, ⟨q, h1, h2, h3⟩ => ⟨q, h1, h2, (hb.block q (Array.getElem?_eq_some_iff.1 h3).1).trans h3⟩
  | 14, v, u, h => h
  | n + 15, v, u, h => trivial
theorem wRr_pure {M : Nat} {g : Nat} {off : Nat} {n : Nat} {c : Nat} {k : Nat} {a : Nd} {b : Nd} {r : Nd} {w w' : World} : ∀ j v u, j ≠ 12 → j ≠ 13 → wRr M g off n c k a b r j v u w → wRr M g off n c k a b r j v u w'
  | 0, v, u, _, _, h => h
  | 1, v, u, _, _, h => h
  | 2, v, u, _, _, h => h
  | 3, v, u, _, _, h => h
  | 4, v, u, _, _, h => h
  | 5, v, u, _, _, h => h
  | 6, v, u, _, _, h => h
  | 7, v, u, _, _, h => h
  | 8, v, u, _, _, h => h
  | 9, v, u, _, _, h => h
  | 10, v, u, _, _, h => h
  | 11, v, u, _, _, h => h
  | 12, v, u, hh, _, _ => absurd rfl hh
  | 13, v, u, _, hh, _ => absurd rfl hh
  | 14, v, u, _, _, h => h
  | n + 15, v, u, _, _, h => trivial
set_option maxHeartbeats 4000000 in
theorem rroot_any : ∀ (m : Nat) (ls : List Nd) (A : Option Addr) (n c : Nat) (w : World), n ≤ m → 1 ≤ n → n ≤ 4096 → Hid (InN w A n c ls) → Hid (vL ls = true) →
    Calls Tryd.prog 34 #[.slice A n c] w fun e w' => e = .returned (ndV (root ls)) ∧ Below w.heap.size w w' := by
  intro m
  induction m with
  | zero => intro ls A n c w h1 h2; omega
  | succ m ih =>
    intro ls A n c w hm h1 hn h hv
    obtain ⟨g, off, rfl, hg, hr⟩ := h.out.rd (by rw [h.out.len]; omega)
    have HNE := Lib.hid (show ls.length = n from h.out.len)
    have hcap := h.out.cap
    clear hr
    have HB0 := Lib.hid ((Below.refl _ w).alloc (Nat.le_refl _) (.cells (ndC zeroN).toArray 26))
    have HR0 := Lib.hid (heap_alloc_new w (.cells (ndC zeroN).toArray 26))
    have HS0 : Hid ((w.alloc (.cells (ndC zeroN).toArray 26)).heap.size = w.heap.size + 1) := Lib.hid (by simp)
    have HROK : Hid (NdOk (root ls)) := Lib.hid (root_ok _ ls (Nat.le_refl _) (by rw [h.out.len]; omega) h.out.ok hv.out)
    have d0 : decide ((n : Int) = 0) = false := decide_eq_false (by omega)
    have d00 : ((n : Int) == 0) = false := beq_false_of_ne (by omega)
    go_enter Tryd.func34, Tryd.ntmps34
    by_cases h2 : 2 ≤ n
    · have d1 : decide ((n : Int) = 1) = false := decide_eq_false (by omega)
      have d11 : ((n : Int) == 1) = false := beq_false_of_ne (by omega)
      have HIN := Lib.hid (h.out.below HB0.out)
      go_wp2_with fail
      rw [← zeroN_cells]
      generalize w.alloc (.cells (ndC zeroN).toArray 26) = W1 at *
      refine (rhalf_any n _ (by omega)).mono ?_
      rintro e w2 ⟨rfl, rfl⟩
      obtain ⟨k, HK⟩ : ∃ k, Hid (half n = k) := ⟨_, Lib.hid rfl⟩
      have hkb := half_bd h2
      rw [HK.out] at hkb
      rw [HK.out]
      go_wp2_with fail
      have HP : Hid (vL (ls.take k) = true ∧ vL (ls.drop k) = true) := Lib.hid (vL_parts (by rw [List.take_append_drop]; exact hv.out))
      have HT2 := Lib.hid (HIN.out.take k (by omega))
      have HT3 := Lib.hid (HIN.out.drop k (by omega))
      have HLT : Hid ((ls.take k).length = k ∧ (ls.drop k).length = n - k) := Lib.hid ⟨by rw [List.length_take, HNE.out]; omega, by rw [List.length_drop, HNE.out]⟩
      have HVV : Hid (vL [root (ls.take k), root (ls.drop k)] = true) := Lib.hid (vL_two (by rw [List.take_append_drop]; exact hv.out) (by rw [HLT.out.1]; omega) (by rw [HLT.out.2]; omega))
      have HOA : Hid (NdOk (root (ls.take k))) := Lib.hid (root_ok _ _ (Nat.le_refl _) (by rw [HLT.out.1]; omega) HT2.out.ok HP.out.1)
      have HOB : Hid (NdOk (root (ls.drop k))) := Lib.hid (root_ok _ _ (Nat.le_refl _) (by rw [HLT.out.2]; omega) HT3.out.ok HP.out.2)
      have HRT : Hid (joinN (root (ls.take k)) (root (ls.drop k)) = root ls) := Lib.hid (by rw [root_two (l := ls) (by rw [HNE.out]; exact h2), HNE.out, HK.out])
      have HS1 : Hid ((Tryd.prog.info? 26).map (·.size) = some (ndC (root ls)).toArray.size) := Lib.hid (by rw [size34 HROK.out]; simp)
      have HS2 : Hid (34 = (ndC (root ls)).toArray.size) := Lib.hid (by simp [ndC_length HROK.out])
      obtain ⟨a, HA⟩ : ∃ a, Hid (root (ls.take k) = a) := ⟨_, Lib.hid rfl⟩
      obtain ⟨b, HB⟩ : ∃ b, Hid (root (ls.drop k) = b) := ⟨_, Lib.hid rfl⟩
      obtain ⟨r, HR⟩ : ∃ r, Hid (root ls = r) := ⟨_, Lib.hid rfl⟩
      rw [HA.out, HB.out] at HVV HRT
      rw [HA.out] at HOA
      rw [HB.out] at HOB
      rw [HR.out] at HRT HROK HS1 HS2
      refine region_flow3 (by kernel_rfl) (by kernel_rfl) (fun i => Nat.beq i 13) (fun i => bif Nat.beq i 13 then 12 else i) (by kernel_rfl) (fun fx => #[Value.slice (some { block := g, off := off }) n c, undef, Value.pointer (some { block := w.heap.size, off := 0 }), Value.int IntKind.i64 ↑k, fx 12, fx 14, Value.slice (some { block := g, off := off }) n c, Value.int IntKind.i64 ↑n, Value.bool false, undef, undef, Value.slice (some { block := g, off := off }) n c, Value.int IntKind.i64 ↑n, Value.bool false, undef, undef, undef, Value.slice (some { block := g, off := off }) n c, Value.int IntKind.i64 ↑n, Value.int IntKind.i64 ↑k, fx 9, fx 0, fx 1, fx 2, fx 3, fx 4, fx 5, fx 6, fx 7, fx 8, fx 10, fx 11, undef]) (fun _ => undef) (fun L fx w' => Below W1.heap.size W1 w' ∧ (L 12 = true → L 13 = false → NewN W1.heap.size (fx 12) w')) (fun fi fv fu fw => wRr W1.heap.size g off n c k a b r fi fv fu fw) ⟨(Below.refl _ _).drew, fun h => by cases h⟩ ?_ ?_
      · refine ⟨?_, ?_, ?_, ?_, ?_, ?_, ?_, ?_, ?_, ?_, ?_, ?_, ?_, ?_, ?_, trivial⟩
        all_goals intro L fx w' hC hi hcl hdn hd
        · go_wp2_with fail
          exact ⟨_, rfl, ⟨hC.1, fun h14 h15 => hC.2 h14 h15⟩, rfl, fun _ _ _ _ _ h => h⟩
        · go_wp2_with fail
          exact ⟨_, rfl, ⟨hC.1, fun h14 h15 => hC.2 h14 h15⟩, rfl, fun _ _ _ _ _ h => h⟩
        · have h0 : fx 0 = Value.slice (some ⟨g, off, none⟩) n c := hd.1 rfl
          have h1 : fx 1 = Value.int .i64 ((k : Nat)) := hd.2.1 rfl
          go_wp2_with fail
          exact ⟨_, by show _ = Act.mk #[Value.slice (some { block := g, off := off }) n c, undef, Value.pointer (some { block := w.heap.size, off := 0 }), Value.int IntKind.i64 ↑k, fx 12, fx 14, Value.slice (some { block := g, off := off }) n c, Value.int IntKind.i64 ↑n, Value.bool false, undef, undef, Value.slice (some { block := g, off := off }) n c, Value.int IntKind.i64 ↑n, Value.bool false, undef, undef, undef, Value.slice (some { block := g, off := off }) n c, Value.int IntKind.i64 ↑n, Value.int IntKind.i64 ↑k, fx 9, fx 0, fx 1, Value.slice (some ⟨g, off, none⟩) k c, fx 3, fx 4, fx 5, fx 6, fx 7, fx 8, fx 10, fx 11, undef] []; rw [h0, h1] <;> rfl, ⟨hC.1, fun h14 h15 => hC.2 h14 h15⟩, rfl, fun _ _ _ _ _ h => h⟩
        · have h2 : fx 2 = Value.slice (some ⟨g, off, none⟩) k c := hd.1 rfl
          have HIk := Lib.hid (HT2.out.below hC.1)
          go_wp2_with fail
          refine (ih (ls.take k) _ k c w' (by omega) (by omega) (by omega) HIk (Lib.hid HP.out.1)).mono ?_
          rintro e w2 ⟨rfl, hq⟩
          rw [HA.out]
          go_wp2_with fail
          exact ⟨_, by show _ = Act.mk #[Value.slice (some { block := g, off := off }) n c, undef, Value.pointer (some { block := w.heap.size, off := 0 }), Value.int IntKind.i64 ↑k, fx 12, fx 14, Value.slice (some { block := g, off := off }) n c, Value.int IntKind.i64 ↑n, Value.bool false, undef, undef, Value.slice (some { block := g, off := off }) n c, Value.int IntKind.i64 ↑n, Value.bool false, undef, undef, undef, Value.slice (some { block := g, off := off }) n c, Value.int IntKind.i64 ↑n, Value.int IntKind.i64 ↑k, fx 9, fx 0, fx 1, fx 2, ndV a, fx 4, fx 5, fx 6, fx 7, fx 8, fx 10, fx 11, undef] []; rw [h2] <;> rfl, ⟨hC.1.trans (hq.mono hC.1.size), fun h14 h15 => (hC.2 h14 h15).below hq⟩, rfl, fun j v t _ _ h => wRr_below hq j v t h⟩
        · go_wp2_with fail
          exact ⟨_, rfl, ⟨hC.1, fun h14 h15 => hC.2 h14 h15⟩, rfl, fun _ _ _ _ _ h => h⟩
        · go_wp2_with fail
          exact ⟨_, rfl, ⟨hC.1, fun h14 h15 => hC.2 h14 h15⟩, rfl, fun _ _ _ _ _ h => h⟩
        · have h4 : fx 4 = Value.slice (some ⟨g, off, none⟩) n c := hd.1 rfl
          have h5 : fx 5 = Value.int .i64 ((k : Nat)) := hd.2.1 rfl
          go_wp2_with fail
          exact ⟨_, by show _ = Act.mk #[Value.slice (some { block := g, off := off }) n c, undef, Value.pointer (some { block := w.heap.size, off := 0 }), Value.int IntKind.i64 ↑k, fx 12, fx 14, Value.slice (some { block := g, off := off }) n c, Value.int IntKind.i64 ↑n, Value.bool false, undef, undef, Value.slice (some { block := g, off := off }) n c, Value.int IntKind.i64 ↑n, Value.bool false, undef, undef, undef, Value.slice (some { block := g, off := off }) n c, Value.int IntKind.i64 ↑n, Value.int IntKind.i64 ↑k, fx 9, fx 0, fx 1, fx 2, fx 3, fx 4, fx 5, Value.slice (some ⟨g, off + k * 34, none⟩) (n - k) (c - k), fx 7, fx 8, fx 10, fx 11, undef] []; rw [h4, h5] <;> rfl, ⟨hC.1, fun h14 h15 => hC.2 h14 h15⟩, rfl, fun _ _ _ _ _ h => h⟩
        · have h6 : fx 6 = Value.slice (some ⟨g, off + k * 34, none⟩) (n - k) (c - k) := hd.1 rfl
          have HIk := Lib.hid (HT3.out.below hC.1)
          go_wp2_with fail
          refine (ih (ls.drop k) _ (n - k) (c - k) w' (by omega) (by omega) (by omega) HIk (Lib.hid HP.out.2)).mono ?_
          rintro e w2 ⟨rfl, hq⟩
          rw [HB.out]
          go_wp2_with fail
          exact ⟨_, by show _ = Act.mk #[Value.slice (some { block := g, off := off }) n c, undef, Value.pointer (some { block := w.heap.size, off := 0 }), Value.int IntKind.i64 ↑k, fx 12, fx 14, Value.slice (some { block := g, off := off }) n c, Value.int IntKind.i64 ↑n, Value.bool false, undef, undef, Value.slice (some { block := g, off := off }) n c, Value.int IntKind.i64 ↑n, Value.bool false, undef, undef, undef, Value.slice (some { block := g, off := off }) n c, Value.int IntKind.i64 ↑n, Value.int IntKind.i64 ↑k, fx 9, fx 0, fx 1, fx 2, fx 3, fx 4, fx 5, fx 6, ndV b, fx 8, fx 10, fx 11, undef] []; rw [h6] <;> rfl, ⟨hC.1.trans (hq.mono hC.1.size), fun h14 h15 => (hC.2 h14 h15).below hq⟩, rfl, fun j v t _ _ h => wRr_below hq j v t h⟩
        · have h3 : fx 3 = ndV a := hd.1 rfl
          have h7 : fx 7 = ndV b := hd.2.1 rfl
          go_wp2_with fail
          refine (rjoin_yes a b w' HOA HOB HVV.out).mono ?_
          rintro e w2 ⟨rfl, hq⟩
          rw [HRT.out]
          go_wp2_with fail
          exact ⟨_, by show _ = Act.mk #[Value.slice (some { block := g, off := off }) n c, undef, Value.pointer (some { block := w.heap.size, off := 0 }), Value.int IntKind.i64 ↑k, fx 12, fx 14, Value.slice (some { block := g, off := off }) n c, Value.int IntKind.i64 ↑n, Value.bool false, undef, undef, Value.slice (some { block := g, off := off }) n c, Value.int IntKind.i64 ↑n, Value.bool false, undef, undef, undef, Value.slice (some { block := g, off := off }) n c, Value.int IntKind.i64 ↑n, Value.int IntKind.i64 ↑k, fx 9, fx 0, fx 1, fx 2, fx 3, fx 4, fx 5, fx 6, fx 7, Value.tuple #[ndV r, .int .i64 0], fx 10, fx 11, undef] []; rw [h3, h7] <;> rfl, ⟨hC.1.trans (hq.mono hC.1.size), fun h14 h15 => (hC.2 h14 h15).below hq⟩, rfl, fun j v t _ _ h => wRr_below hq j v t h⟩
        · have h8 : fx 8 = Value.tuple #[ndV r, .int .i64 0] := hd.1 rfl
          go_wp2_with fail
          exact ⟨_, by show _ = Act.mk #[Value.slice (some { block := g, off := off }) n c, undef, Value.pointer (some { block := w.heap.size, off := 0 }), Value.int IntKind.i64 ↑k, fx 12, fx 14, Value.slice (some { block := g, off := off }) n c, Value.int IntKind.i64 ↑n, Value.bool false, undef, undef, Value.slice (some { block := g, off := off }) n c, Value.int IntKind.i64 ↑n, Value.bool false, undef, undef, undef, Value.slice (some { block := g, off := off }) n c, Value.int IntKind.i64 ↑n, Value.int IntKind.i64 ↑k, Value.tuple #[ndV r, .int .i64 0], fx 0, fx 1, fx 2, fx 3, fx 4, fx 5, fx 6, fx 7, fx 8, fx 10, fx 11, undef] []; rw [h8] <;> rfl, ⟨hC.1, fun h14 h15 => hC.2 h14 h15⟩, rfl, fun _ _ _ _ _ h => h⟩
        · have h9 : fx 9 = Value.tuple #[ndV r, .int .i64 0] := hd.1 rfl
          go_wp2_with fail
          exact ⟨_, by show _ = Act.mk #[Value.slice (some { block := g, off := off }) n c, undef, Value.pointer (some { block := w.heap.size, off := 0 }), Value.int IntKind.i64 ↑k, fx 12, fx 14, Value.slice (some { block := g, off := off }) n c, Value.int IntKind.i64 ↑n, Value.bool false, undef, undef, Value.slice (some { block := g, off := off }) n c, Value.int IntKind.i64 ↑n, Value.bool false, undef, undef, undef, Value.slice (some { block := g, off := off }) n c, Value.int IntKind.i64 ↑n, Value.int IntKind.i64 ↑k, fx 9, fx 0, fx 1, fx 2, fx 3, fx 4, fx 5, fx 6, fx 7, fx 8, ndV r, fx 11, undef] []; rw [h9] <;> rfl, ⟨hC.1, fun h14 h15 => hC.2 h14 h15⟩, rfl, fun _ _ _ _ _ h => h⟩
        · have h9 : fx 9 = Value.tuple #[ndV r, .int .i64 0] := hd.1 rfl
          go_wp2_with fail
          exact ⟨_, by show _ = Act.mk #[Value.slice (some { block := g, off := off }) n c, undef, Value.pointer (some { block := w.heap.size, off := 0 }), Value.int IntKind.i64 ↑k, fx 12, fx 14, Value.slice (some { block := g, off := off }) n c, Value.int IntKind.i64 ↑n, Value.bool false, undef, undef, Value.slice (some { block := g, off := off }) n c, Value.int IntKind.i64 ↑n, Value.bool false, undef, undef, undef, Value.slice (some { block := g, off := off }) n c, Value.int IntKind.i64 ↑n, Value.int IntKind.i64 ↑k, fx 9, fx 0, fx 1, fx 2, fx 3, fx 4, fx 5, fx 6, fx 7, fx 8, fx 10, Value.int .i64 (0), undef] []; rw [h9] <;> rfl, ⟨hC.1, fun h14 h15 => hC.2 h14 h15⟩, rfl, fun _ _ _ _ _ h => h⟩
        · go_wp2_with fail
          rw [← zeroN_cells]
          have hbb : Below w'.heap.size w' (w'.alloc (.cells (ndC zeroN).toArray 26)) := (Below.refl _ _).alloc (Nat.le_refl _) _
          exact ⟨_, rfl, ⟨hC.1.trans (hbb.mono hC.1.size), fun _ _ => ⟨_, rfl, hC.1.size, heap_alloc_new _ _⟩⟩, trivial, fun j v t _ _ h => wRr_below hbb j v t h⟩
        · have H12 := Lib.hid (hd.1 rfl)
          have h10 : fx 10 = ndV r := hd.2.1 rfl
          obtain ⟨q, h12, hq, hrow⟩ := hC.2 (hdn 12 (by kernel_rfl)) hi
          refine wpList_store_row rfl 26 (.tmp 4) (.tmp 30) rfl q (ndC r).toArray h12 h10 26 _ hrow HS1.out HS2.out (ndC_one _) ?_
          clear hd
          go_wp2_with fail
          exact ⟨undef, by rw [← h12, ← h10]; rfl, ⟨below_setRow hC.1 hq _, fun _ h => (updB_self h).elim⟩, ⟨q, h12, hq, setRow_heap _ _ _ _ _ _ hrow⟩, fun j v t hj _ h => by
            by_cases e : j = 12
            · subst e; trivial
            · exact wRr_pure j v t e (fun e => by subst e; rw [hi] at hj; cases hj) h⟩
        · have h11 : fx 11 = Value.int .i64 (0) := hd.1 rfl
          go_wp2_with fail
          exact ⟨_, by show _ = Act.mk #[Value.slice (some { block := g, off := off }) n c, undef, Value.pointer (some { block := w.heap.size, off := 0 }), Value.int IntKind.i64 ↑k, fx 12, Value.int .i64 (0), Value.slice (some { block := g, off := off }) n c, Value.int IntKind.i64 ↑n, Value.bool false, undef, undef, Value.slice (some { block := g, off := off }) n c, Value.int IntKind.i64 ↑n, Value.bool false, undef, undef, undef, Value.slice (some { block := g, off := off }) n c, Value.int IntKind.i64 ↑n, Value.int IntKind.i64 ↑k, fx 9, fx 0, fx 1, fx 2, fx 3, fx 4, fx 5, fx 6, fx 7, fx 8, fx 10, fx 11, undef] []; rw [h11] <;> rfl, ⟨hC.1, fun h14 h15 => hC.2 h14 h15⟩, rfl, fun _ _ _ _ _ h => h⟩
      · intro L fx w' hC hS
        have H13 := Lib.hid (hS 13 (by decide) rfl)
        obtain ⟨q, e14, hq, hrow⟩ := H13.out
        have HB9 := Lib.hid hC.1
        have HQR := Lib.hid hrow
        have HR3 := Lib.hid ((hC.1.block w.heap.size (by rw [HS0.out]; omega)).trans HR0.out)
        replace e14 : fx 12 = _ := e14
        rw [e14]
        clear hS hC H13 hrow
        go_wp2_with (first | (refine wpList_load_row rfl 26 (.tmp 4) rfl q rfl 26 _ (0, 0) _ HQR.out Tryd.underlying26 rfl HS1.out ?_) | (refine wpList_store_row rfl 26 (.tmp 2) (.tmp 32) rfl w.heap.size (ndC r).toArray rfl rfl 26 (ndC zeroN).toArray HR3.out HS1.out HS2.out (ndC_one r) ?_))
        refine bodyPost_ret (results_cell_row rfl _ _ w.heap.size 26 _ (0, 0) _ rfl (setRow_heap w' w.heap.size _ _ _ _ HR3.out) Tryd.underlying26 rfl HS1.out) rfl ?_
        exact ⟨by rw [HR.out]; rfl, below_setRow (HB0.out.trans (HB9.out.mono HB0.out.size)) (Nat.le_refl _) _⟩
    · have hn1 : n = 1 := by omega
      have d1 : decide ((n : Int) = 1) = true := decide_eq_true (by omega)
      have d11 : ((n : Int) == 1) = true := by rw [hn1]; rfl
      obtain ⟨x, HX⟩ : ∃ x, Hid (ls = [x]) := (List.length_eq_one_iff.1 (by rw [HNE.out]; exact hn1)).imp fun _ h => Lib.hid h
      have HXO : Hid (NdOk x) := Lib.hid (h.out.ok x (by rw [HX.out]; simp))
      obtain ⟨g', off', e, hg', hr⟩ := (h.out.below HB0.out).rd (by rw [HNE.out]; omega)
      cases e
      have HRX : Hid ((w.alloc (.cells (ndC zeroN).toArray 26)).rangeAt g off (ndC x)) := Lib.hid (by
        have := range_one hr h.out.ok 0 (by rw [HNE.out]; omega)
        simpa [HX.out] using this)
      have HS1 : Hid ((Tryd.prog.info? 26).map (·.size) = some (ndC x).toArray.size) := Lib.hid (by rw [size34 HXO.out]; simp)
      have HS2 : Hid (34 = (ndC x).toArray.size) := Lib.hid (by simp [ndC_length HXO.out])
      have HSX := Lib.hid (size34 HXO.out)
      have hlt : 0 < n := by omega
      have hlt2 : decide (0 < n) = true := decide_eq_true hlt
      clear hr
      rw [zeroN_cells] at HRX HR0
      go_wp2_with (first | (with_reducible refine wpList_load_mid rfl 26 (.tmp 15) rfl g off rfl (ndC x) _ HRX.out Tryd.underlying26 rfl HSX.out ?_) | (refine wpList_store_row rfl 26 (.tmp 2) (.tmp 16) rfl w.heap.size (ndC x).toArray rfl rfl 26 _ HR0.out HS1.out HS2.out (ndC_one x) ?_))
      rw [← zeroN_cells]
      rw [← zeroN_cells] at HR0
      refine bodyPost_ret (results_cell_row rfl _ _ w.heap.size 26 _ (0, 0) _ rfl (setRow_heap _ w.heap.size _ _ _ _ HR0.out) Tryd.underlying26 rfl HS1.out) rfl ?_
      exact ⟨by rw [HX.out, root_one]; rfl, below_setRow HB0.out (Nat.le_refl _) _⟩
set_option maxHeartbeats 4000000 in
theorem rroot_nil (A : Option Addr) (c : Nat) (w : World) :
    Calls Tryd.prog 34 #[.slice A 0 c] w fun e w' => e = .returned (ndV emptyN) ∧ Below w.heap.size w w' := by
  have HB0 := Lib.hid ((Below.refl _ w).alloc (Nat.le_refl _) (.cells (ndC zeroN).toArray 26))
  have HR0 := Lib.hid (heap_alloc_new w (.cells (ndC zeroN).toArray 26))
  rw [zeroN_cells] at HR0 HB0
  go_enter Tryd.func34, Tryd.ntmps34
  go_wp2_with fail
  generalize w.alloc (.cells #[.int .u8 0, .int .u8 0, .int .u8 0, .int .u8 0, .int .u8 0, .int .u8 0, .int .u8 0, .int .u8 0, .int .u8 0, .int .u8 0, .int .u8 0, .int .u8 0, .int .u8 0, .int .u8 0, .int .u8 0, .int .u8 0, .int .u8 0, .int .u8 0, .int .u8 0, .int .u8 0, .int .u8 0, .int .u8 0, .int .u8 0, .int .u8 0, .int .u8 0, .int .u8 0, .int .u8 0, .int .u8 0, .int .u8 0, .int .u8 0, .int .u8 0, .int .u8 0, .int .i64 0, .int .i64 0] 26) = W1 at *
  refine (rtagged_any sumTag none 0 0 [] W1 (by decide) (Lib.hid rfl) (Nat.le_refl _) (fun _ => rfl) (by omega) (Lib.hid (fun x hx => by cases hx)) (Lib.hid (fun h => by simp at h))).mono ?_
  rintro e W2 ⟨rfl, hq2⟩
  rw [sumTag_eq]
  have HB2 := Lib.hid (HB0.out.trans (hq2.mono HB0.out.size))
  have HR2 := Lib.hid ((hq2.block w.heap.size (Array.getElem?_eq_some_iff.1 HR0.out).1).trans HR0.out)
  have HS1 : Hid ((Tryd.prog.info? 26).map (·.size) = some (ndC emptyN).toArray.size) := Lib.hid (by rw [size34 emptyN_ok]; simp)
  have HS2 : Hid (34 = (ndC emptyN).toArray.size) := Lib.hid (by simp [ndC_length emptyN_ok])
  clear hq2
  go_wp2_with (first | (refine wpList_build_node1 rfl (.tmp 9) rfl (tagged sumT []) (tagged_length _ _) rfl ?_) | (refine wpList_store_row rfl 26 (.tmp 2) (.tmp 10) rfl w.heap.size (ndC emptyN).toArray rfl rfl 26 _ HR2.out HS1.out HS2.out (ndC_one _) ?_))
  refine bodyPost_ret (results_cell_row rfl _ _ w.heap.size 26 _ (0, 0) _ rfl (setRow_heap _ w.heap.size _ _ _ _ HR2.out) Tryd.underlying26 rfl HS1.out) rfl ?_
  exact ⟨rfl, below_setRow HB2.out (Nat.le_refl _) _⟩
set_option maxHeartbeats 4000000 in
theorem rRoot_any (ls : List Nd) (A : Option Addr) (n c : Nat) (w : World) (hn : n ≤ 9223372036854775807) (h : Hid (InN w A n c ls)) :
    Calls Tryd.prog 13 #[.slice A n c] w fun e w' => e = .returned (.tuple #[ndV (rootR ls), .int .i64 (rootE ls)]) ∧ Below w.heap.size w w' := by
  have HNE := Lib.hid (show ls.length = n from h.out.len)
  have HB0 := Lib.hid ((Below.refl _ w).alloc (Nat.le_refl _) (.cells (ndC zeroN).toArray 26))
  have HR0 := Lib.hid (heap_alloc_new w (.cells (ndC zeroN).toArray 26))
  have HIN := Lib.hid (h.out.below HB0.out)
  have HSZ : Hid ((Tryd.prog.info? 26).map (·.size) = some (ndC zeroN).toArray.size) := Lib.hid (by rw [size34 zeroN_ok]; simp)
  rw [zeroN_cells] at HR0 HB0 HIN
  have HRR : Hid (∀ W1, Below (w.alloc (.cells #[.int .u8 0, .int .u8 0, .int .u8 0, .int .u8 0, .int .u8 0, .int .u8 0, .int .u8 0, .int .u8 0, .int .u8 0, .int .u8 0, .int .u8 0, .int .u8 0, .int .u8 0, .int .u8 0, .int .u8 0, .int .u8 0, .int .u8 0, .int .u8 0, .int .u8 0, .int .u8 0, .int .u8 0, .int .u8 0, .int .u8 0, .int .u8 0, .int .u8 0, .int .u8 0, .int .u8 0, .int .u8 0, .int .u8 0, .int .u8 0, .int .u8 0, .int .u8 0, .int .i64 0, .int .i64 0] 26)).heap.size (w.alloc (.cells #[.int .u8 0, .int .u8 0, .int .u8 0, .int .u8 0, .int .u8 0, .int .u8 0, .int .u8 0, .int .u8 0, .int .u8 0, .int .u8 0, .int .u8 0, .int .u8 0, .int .u8 0, .int .u8 0, .int .u8 0, .int .u8 0, .int .u8 0, .int .u8 0, .int .u8 0, .int .u8 0, .int .u8 0, .int .u8 0, .int .u8 0, .int .u8 0, .int .u8 0, .int .u8 0, .int .u8 0, .int .u8 0, .int .u8 0, .int .u8 0, .int .u8 0, .int .u8 0, .int .i64 0, .int .i64 0] 26)) W1 → rootE ls = 0 → Calls Tryd.prog 34 #[.slice A n c] W1 fun e w' => e = .returned (ndV (rootR ls)) ∧ Below W1.heap.size W1 w') := Lib.hid (fun W1 hb he => by
    have hh : ls.length ≤ 4096 ∧ vL ls = true := by
      apply Classical.byContradiction
      intro hc
      rw [(rootR_no hc).2] at he
      omega
    by_cases h0 : n = 0
    · have hl0 : ls = [] := List.eq_nil_of_length_eq_zero (by rw [HNE.out]; exact h0)
      subst hl0
      subst h0
      rw [rootR_nil.1]
      exact rroot_nil A c W1
    · rw [(rootR_yes hh.1 hh.2 (by rw [HNE.out]; omega)).1]
      exact rroot_any n ls A n c W1 (Nat.le_refl _) (by omega) (by have := HNE.out; omega) (Lib.hid (HIN.out.below hb)) (Lib.hid hh.2))
  have HROK : Hid (NdOk (rootR ls)) := Lib.hid (rootR_ok h.out.ok)
  have HS1 : Hid ((Tryd.prog.info? 26).map (·.size) = some (ndC (rootR ls)).toArray.size) := Lib.hid (by rw [size34 HROK.out]; simp)
  have HS2 : Hid (34 = (ndC (rootR ls)).toArray.size) := Lib.hid (by simp [ndC_length HROK.out])
  go_enter Tryd.func13, Tryd.ntmps13
  go_wp2_with fail
  refine (rcheck_any ls A n c _ hn HIN).mono ?_
  rintro e W1 ⟨rfl, hq⟩
  have HB1 := Lib.hid (HB0.out.trans (hq.mono HB0.out.size))
  have HR1 := Lib.hid (row_kept HR0.out hq)
  have HQ1 := Lib.hid hq
  clear hq HB0 HR0
  by_cases he : rootE ls = 0
  · have HEE := Lib.hid he
    rw [he]
    go_wp2_with fail
    refine (HRR.out W1 HQ1.out he).mono ?_
    rintro e W2 ⟨rfl, hq⟩
    have HB2 := Lib.hid (HB1.out.trans (hq.mono HB1.out.size))
    have HR2 := Lib.hid (row_kept HR1.out hq)
    clear hq
    obtain ⟨r, HR⟩ : ∃ r, Hid (rootR ls = r) := ⟨_, Lib.hid rfl⟩
    rw [HR.out] at HROK HS1 HS2
    rw [HR.out]
    go_wp2_with (refine wpList_store_row rfl 26 (.tmp 2) (.tmp 12) rfl w.heap.size (ndC r).toArray rfl rfl 26 _ HR2.out HS1.out HS2.out (ndC_one _) ?_)
    have hr := setRow_heap W2 w.heap.size _ (ndC r).toArray _ _ HR2.out
    have hl := run_loadVar_row (P := Tryd.prog) (W2.setRow w.heap.size (ndC r).toArray) w.heap.size 26 26 (ndC r).toArray (0, 0) _ hr Tryd.underlying26 rfl HS1.out
    refine bodyPost_ret (v := .tuple #[ndV r, .int .i64 0]) ?_ rfl ⟨by rw [HR.out, HEE.out], below_setRow HB2.out (Nat.le_refl _) _⟩
    unfold ndV
    simp [results, Tryd.results13, asAddr, hl]
  · have hbad : ¬ (ls.length ≤ 4096 ∧ vL ls = true) := fun hh => he (by unfold rootE; exact if_pos hh)
    have HE := Lib.hid (rootR_no hbad)
    clear he hbad
    rw [HE.out.2]
    rw [← zeroN_cells] at HR1
    go_wp2_with (rw [← zeroN_cells]; refine wpList_store_row rfl 26 (.tmp 2) (.tmp 9) rfl w.heap.size (ndC zeroN).toArray ?ha ?hb 26 (ndC zeroN).toArray HR1.out HSZ.out rfl (ndC_one zeroN) ?_)
    all_goals first | rfl | skip
    have hr := setRow_heap W1 w.heap.size _ (ndC zeroN).toArray _ _ HR1.out
    have hl := run_loadVar_row (P := Tryd.prog) (W1.setRow w.heap.size (ndC zeroN).toArray) w.heap.size 26 26 (ndC zeroN).toArray (0, 0) _ hr Tryd.underlying26 rfl HSZ.out
    refine bodyPost_ret (v := .tuple #[ndV zeroN, .int .i64 410]) ?_ rfl ⟨by rw [HE.out.1, HE.out.2], below_setRow HB1.out (Nat.le_refl _) _⟩
    unfold ndV
    simp [results, Tryd.results13, asAddr, hl]
end Go.Proofs.YtgcmbiegbclhmaaDoor
namespace Go.Proofs.SzTree
open SzSha
set_option linter.unusedVariables false
theorem wayF_shift (s : Nat) : ∀ f i a b, wayF f (i + s) (a + s) (b + s) = (wayF f i a b).map fun x => (x.1, x.2.1 + s, x.2.2 + s)
  | 0, _, _, _ => rfl
  | f + 1, i, a, b => by
    unfold wayF
    rw [show b + s - (a + s) = b - a by omega]
    by_cases h : b - a ≤ 1
    · rw [if_pos h, if_pos h]; rfl
    · rw [if_neg h, if_neg h]
      by_cases h2 : i < a + half (b - a)
      · rw [if_pos (by omega), if_pos h2, List.map_cons, show a + s + half (b - a) = a + half (b - a) + s by omega, wayF_shift s f i a (a + half (b - a))]
      · rw [if_neg (by omega), if_neg h2, List.map_cons, show a + s + half (b - a) = a + half (b - a) + s by omega, wayF_shift s f i (a + half (b - a)) b]
theorem seg_of_take (l : List Nd) (k a b : Nat) (h : b ≤ k) : seg (l.take k) a b = seg l a b := by
  unfold seg; rw [List.take_take, show min b k = b by omega]
theorem seg_of_drop (l : List Nd) (k a b : Nat) : seg (l.drop k) a b = seg l (a + k) (b + k) := by
  unfold seg
  rw [List.take_drop, List.drop_drop, Nat.add_comm k b, Nat.add_comm k a]
theorem pathN_left {l : List Nd} {i : Nat} (h : 2 ≤ l.length) (hi : i < half l.length) : pathN l i = pathN (l.take (half l.length)) i ++ [root (l.drop (half l.length))] := by
  have hb := half_bd h
  have hlt : (l.take (half l.length)).length = half l.length := by rw [List.length_take]; omega
  unfold pathN way
  rw [wayF_step l.length i 0 l.length h (Nat.le_refl _), Nat.sub_zero, Nat.zero_add, if_pos hi, List.map_cons, List.reverse_cons, hlt, wayF_fuel l.length (half l.length) i 0 (half l.length) (by omega) (by omega)]
  congr 1
  · congr 1
    refine List.map_congr_left fun x hx => ?_
    have := wayF_bd _ _ _ _ (Nat.zero_le _) x hx
    rw [seg_of_take _ _ _ _ this.2.2]
  · simp only [seg, List.take_length]
theorem pathN_right {l : List Nd} {i : Nat} (h : 2 ≤ l.length) (hi : ¬ i < half l.length) : pathN l i = pathN (l.drop (half l.length)) (i - half l.length) ++ [root (l.take (half l.length))] := by
  have hb := half_bd h
  have hlt : (l.drop (half l.length)).length = l.length - half l.length := by rw [List.length_drop]
  unfold pathN way
  rw [wayF_step l.length i 0 l.length h (Nat.le_refl _), Nat.sub_zero, Nat.zero_add, if_neg hi, List.map_cons, List.reverse_cons, hlt]
  congr 1
  · congr 1
    have e := wayF_shift (half l.length) l.length (i - half l.length) 0 (l.length - half l.length)
    rw [show i - half l.length + half l.length = i by omega, Nat.zero_add, show l.length - half l.length + half l.length = l.length by omega] at e
    rw [e, List.map_map, wayF_fuel l.length (l.length - half l.length) _ 0 (l.length - half l.length) (by omega) (by omega)]
    refine List.map_congr_left fun x hx => ?_
    simp only [Function.comp, seg_of_drop]
theorem pathN_one {l : List Nd} {i : Nat} (h : l.length ≤ 1) : pathN l i = [] := by
  unfold pathN way
  rw [wayF_stop _ _ _ _ (by omega)]; rfl
theorem pathN_le (l : List Nd) (i : Nat) : (pathN l i).length ≤ l.length := by
  unfold pathN way
  rw [List.length_reverse, List.length_map]; exact wayF_length _ _ _ _
end Go.Proofs.SzTree
namespace Go.Proofs.YtgcmbiegbclhmaaDoor
open Go.RowKit SzSha SzTree
set_option linter.unusedVariables false
set_option maxRecDepth 100000
theorem OwnN.down {w : World} {b b' : Nat} {v : Value} {ls : List Nd} (h : OwnN w b v ls) (hb : b' ≤ b) : OwnN w b' v ls :=
  ⟨h.1, h.2.imp id fun ⟨g, cap, cur, e, h1, r⟩ => ⟨g, cap, cur, e, Nat.le_trans hb h1, r⟩⟩
def wPl (M : Nat) (g : Nat) (off : Nat) (n : Nat) (c : Nat) (k : Nat) (i : Nat) (d : Nat) (b : Nd) (pp : List Nd) : Nat → Value → World → Prop
  | 0, fv, _ => fv = Value.slice (some ⟨g, off, none⟩) n c
  | 1, fv, _ => fv = Value.int .i64 ((k : Nat))
  | 2, fv, _ => fv = Value.slice (some ⟨g, off, none⟩) k c
  | 3, fv, _ => fv = Value.int .i64 ((i : Nat))
  | 4, fv, fw => OwnN fw M fv pp
  | 5, fv, _ => fv = Value.slice (some ⟨g, off, none⟩) n c
  | 6, fv, _ => fv = Value.int .i64 ((k : Nat))
  | 7, fv, _ => fv = Value.slice (some ⟨g, off + k * 34, none⟩) (n - k) (c - k)
  | 8, fv, _ => fv = ndV b
  | 9, fv, fw => ∃ q, fv = .slice (some ⟨q, 0, none⟩) 1 1 ∧ fw.heap[q]? = some (.cells (flatN [b]).toArray 26 (0, 0))
  | 10, fv, fw => OwnN fw M fv (pp ++ [b])
  | 11, fv, fw => OwnN fw M fv (pp ++ [b])
  | _, _, _ => True
theorem wPl_below {M : Nat} {g : Nat} {off : Nat} {n : Nat} {c : Nat} {k : Nat} {i : Nat} {d : Nat} {b : Nd} {pp : List Nd} {w w' : World} (hb : Below w.heap.size w w') : ∀ j v, wPl M g off n c k i d b pp j v w → wPl M g off n c k i d b pp j v w'
  | 0, v, h => h
  | 1, v, h => h
  | 2, v, h => h
  | 3, v, h => h
  | 4, v, h => h.below hb
  | 5, v, h => h
  | 6, v, h => h
  | 7, v, h => h
  | 8, v, h => h
  | 9, v, ⟨q, h1, h2⟩ => ⟨q, h1, row_kept h2 hb⟩
  | 10, v, h => h.below hb
  | 11, v, h => h.below hb
  | n + 12, v, h => trivial
theorem wPl_pure {M : Nat} {g : Nat} {off : Nat} {n : Nat} {c : Nat} {k : Nat} {i : Nat} {d : Nat} {b : Nd} {pp : List Nd} {w w' : World} : ∀ j v, j ≠ 4 → j ≠ 9 → j ≠ 10 → j ≠ 11 → wPl M g off n c k i d b pp j v w → wPl M g off n c k i d b pp j v w'
  | 0, v, _, _, _, _, h => h
  | 1, v, _, _, _, _, h => h
  | 2, v, _, _, _, _, h => h
  | 3, v, _, _, _, _, h => h
  | 4, v, hh, _, _, _, _ => absurd rfl hh
  | 5, v, _, _, _, _, h => h
  | 6, v, _, _, _, _, h => h
  | 7, v, _, _, _, _, h => h
  | 8, v, _, _, _, _, h => h
  | 9, v, _, hh, _, _, _ => absurd rfl hh
  | 10, v, _, _, hh, _, _ => absurd rfl hh
  | 11, v, _, _, _, hh, _ => absurd rfl hh
  | n + 12, v, _, _, _, _, h => trivial
def wPr (M : Nat) (g : Nat) (off : Nat) (n : Nat) (c : Nat) (k : Nat) (i : Nat) (d : Nat) (b : Nd) (pp : List Nd) : Nat → Value → World → Prop
  | 0, fv, _ => fv = Value.slice (some ⟨g, off, none⟩) n c
  | 1, fv, _ => fv = Value.int .i64 ((k : Nat))
  | 2, fv, _ => fv = Value.slice (some ⟨g, off + k * 34, none⟩) (n - k) (c - k)
  | 3, fv, _ => fv = Value.int .i64 ((i : Nat))
  | 4, fv, _ => fv = Value.int .i64 ((k : Nat))
  | 5, fv, _ => fv = Value.int .i64 ((d : Nat))
  | 6, fv, fw => OwnN fw M fv pp
  | 7, fv, _ => fv = Value.slice (some ⟨g, off, none⟩) n c
  | 8, fv, _ => fv = Value.int .i64 ((k : Nat))
  | 9, fv, _ => fv = Value.slice (some ⟨g, off, none⟩) k c
  | 10, fv, _ => fv = ndV b
  | 11, fv, fw => ∃ q, fv = .slice (some ⟨q, 0, none⟩) 1 1 ∧ fw.heap[q]? = some (.cells (flatN [b]).toArray 26 (0, 0))
  | 12, fv, fw => OwnN fw M fv (pp ++ [b])
  | 13, fv, fw => OwnN fw M fv (pp ++ [b])
  | _, _, _ => True
theorem wPr_below {M : Nat} {g : Nat} {off : Nat} {n : Nat} {c : Nat} {k : Nat} {i : Nat} {d : Nat} {b : Nd} {pp : List Nd} {w w' : World} (hb : Below w.heap.size w w') : ∀ j v, wPr M g off n c k i d b pp j v w → wPr M g off n c k i d b pp j v w'
  | 0, v, h => h
  | 1, v, h => h
  | 2, v, h => h
  | 3, v, h => h
  | 4, v, h => h
  | 5, v, h => h
  | 6, v, h => h.below hb
  | 7, v, h => h
  | 8, v, h => h
  | 9, v, h => h
  | 10, v, h => h
  | 11, v, ⟨q, h1, h2⟩ => ⟨q, h1, row_kept h2 hb⟩
  | 12, v, h => h.below hb
  | 13, v, h => h.below hb
  | n + 14, v, h => trivial
theorem wPr_pure {M : Nat} {g : Nat} {off : Nat} {n : Nat} {c : Nat} {k : Nat} {i : Nat} {d : Nat} {b : Nd} {pp : List Nd} {w w' : World} : ∀ j v, j ≠ 6 → j ≠ 11 → j ≠ 12 → j ≠ 13 → wPr M g off n c k i d b pp j v w → wPr M g off n c k i d b pp j v w'
  | 0, v, _, _, _, _, h => h
  | 1, v, _, _, _, _, h => h
  | 2, v, _, _, _, _, h => h
  | 3, v, _, _, _, _, h => h
  | 4, v, _, _, _, _, h => h
  | 5, v, _, _, _, _, h => h
  | 6, v, hh, _, _, _, _ => absurd rfl hh
  | 7, v, _, _, _, _, h => h
  | 8, v, _, _, _, _, h => h
  | 9, v, _, _, _, _, h => h
  | 10, v, _, _, _, _, h => h
  | 11, v, _, hh, _, _, _ => absurd rfl hh
  | 12, v, _, _, hh, _, _ => absurd rfl hh
  | 13, v, _, _, _, hh, _ => absurd rfl hh
  | n + 14, v, _, _, _, _, h => trivial
set_option maxHeartbeats 4000000 in
theorem rpath_any : ∀ (m : Nat) (ls : List Nd) (A : Option Addr) (n c i : Nat) (w : World), n ≤ m → 1 ≤ n → n ≤ 4096 → Hid (InN w A n c ls) → Hid (vL ls = true) → i < n →
    Calls Tryd.prog 41 #[.slice A n c, .int .i64 (i : Nat)] w fun e w' => ∃ v, e = .returned v ∧ OwnN w' w.heap.size v (pathN ls i) ∧ Below w.heap.size w w' := by
  intro m
  induction m with
  | zero => intro ls A n c i w h1 h2; omega
  | succ m ih =>
    intro ls A n c i w hm h1 hn h hv hin
    obtain ⟨g, off, rfl, hg, hr⟩ := h.out.rd (by rw [h.out.len]; omega)
    have HNE := Lib.hid (show ls.length = n from h.out.len)
    have hcap := h.out.cap
    clear hr
    by_cases h2 : 2 ≤ n
    · have d1 : decide ((n : Int) = 1) = false := decide_eq_false (by omega)
      have d11 : ((n : Int) == 1) = false := beq_false_of_ne (by omega)
      obtain ⟨k, HK⟩ : ∃ k, Hid (half n = k) := ⟨_, Lib.hid rfl⟩
      have hkb := half_bd h2
      rw [HK.out] at hkb
      have HP : Hid (vL (ls.take k) = true ∧ vL (ls.drop k) = true) := Lib.hid (vL_parts (by rw [List.take_append_drop]; exact hv.out))
      have HT2 := Lib.hid (h.out.take k (by omega))
      have HT3 := Lib.hid (h.out.drop k (by omega))
      have HLT : Hid ((ls.take k).length = k ∧ (ls.drop k).length = n - k) := Lib.hid ⟨by rw [List.length_take, HNE.out]; omega, by rw [List.length_drop, HNE.out]⟩
      go_enter Tryd.func41, Tryd.ntmps41
      go_wp2_with fail
      refine (rhalf_any n _ (by omega)).mono ?_
      rintro e W1 ⟨rfl, hw1⟩
      rw [HK.out]
      obtain ⟨HWE⟩ : Nonempty (Hid (w = W1)) := ⟨Lib.hid hw1⟩
      subst hw1
      by_cases hik : i < k
      · have d2 : decide ((i : Int) < (k : Int)) = true := decide_eq_true (by omega)
        have d3 : decide (i < k) = true := decide_eq_true hik
        obtain ⟨d, HDD⟩ : ∃ d : Nat, Hid (d = 0) := ⟨0, Lib.hid rfl⟩
        obtain ⟨pp, HPP⟩ : ∃ p, Hid (pathN (ls.take k) i = p) := ⟨_, Lib.hid rfl⟩
        obtain ⟨b, HBB⟩ : ∃ b, Hid (root (ls.drop k) = b) := ⟨_, Lib.hid rfl⟩
        have HBO : Hid (NdOk b) := Lib.hid (by rw [← HBB.out]; exact root_ok _ _ (Nat.le_refl _) (by rw [HLT.out.2]; omega) HT3.out.ok HP.out.2)
        have HPE : Hid (pathN ls i = pp ++ [b]) := Lib.hid (by rw [pathN_left (l := ls) (by rw [HNE.out]; exact h2) (by rw [HNE.out, HK.out]; exact hik), HNE.out, HK.out, HPP.out, HBB.out])
        have HPL : Hid (pp.length ≤ 100000) := Lib.hid (by rw [← HPP.out]; have := pathN_le (ls.take k) i; rw [HLT.out.1] at this; omega)
        obtain ⟨W1, HW1⟩ : ∃ W1, W1 = w := ⟨_, rfl⟩
        subst HW1
        go_wp2_with fail
        refine region_flow3 (by kernel_rfl) (by kernel_rfl) (fun i => Nat.beq i 11) (fun i => i) (by kernel_rfl) (fun fx => #[Value.slice (some { block := g, off := off }) n c, Value.int IntKind.i64 ↑i, undef, undef, fx 11, Value.int IntKind.i64 ↑k, Value.slice (some { block := g, off := off }) n c, Value.int IntKind.i64 ↑n, Value.bool false, Value.slice (some { block := g, off := off }) n c, Value.int IntKind.i64 ↑n, Value.int IntKind.i64 ↑k, Value.int IntKind.i64 ↑i, Value.int IntKind.i64 ↑k, Value.bool true, fx 0, fx 1, fx 2, fx 3, fx 4, fx 5, fx 6, fx 7, fx 8, fx 9, fx 10, undef, undef, undef, undef, undef, undef, undef, undef, undef, undef, undef, undef, undef]) (fun i => bif Nat.beq i 11 then Value.slice none 0 0 else undef) (fun L fx w' => Below W1.heap.size W1 w') (fun fi fv _ fw => wPl W1.heap.size g off n c k i d b pp fi fv fw) (Below.refl _ _).drew ?_ ?_
        · refine ⟨?_, ?_, ?_, ?_, ?_, ?_, ?_, ?_, ?_, ?_, ?_, ?_, trivial⟩
          all_goals intro L fx w' hC hi hcl hdn hd
          · go_wp2_with fail
            exact ⟨_, rfl, hC, rfl, fun _ _ _ _ _ h => h⟩
          · go_wp2_with fail
            exact ⟨_, rfl, hC, rfl, fun _ _ _ _ _ h => h⟩
          · have h0 : fx 0 = Value.slice (some ⟨g, off, none⟩) n c := hd.1 rfl
            have h1 : fx 1 = Value.int .i64 ((k : Nat)) := hd.2.1 rfl
            go_wp2_with fail
            exact ⟨_, by show _ = Act.mk #[Value.slice (some { block := g, off := off }) n c, Value.int IntKind.i64 ↑i, undef, undef, fx 11, Value.int IntKind.i64 ↑k, Value.slice (some { block := g, off := off }) n c, Value.int IntKind.i64 ↑n, Value.bool false, Value.slice (some { block := g, off := off }) n c, Value.int IntKind.i64 ↑n, Value.int IntKind.i64 ↑k, Value.int IntKind.i64 ↑i, Value.int IntKind.i64 ↑k, Value.bool true, fx 0, fx 1, Value.slice (some ⟨g, off, none⟩) k c, fx 3, fx 4, fx 5, fx 6, fx 7, fx 8, fx 9, fx 10, undef, undef, undef, undef, undef, undef, undef, undef, undef, undef, undef, undef, undef] []; rw [h0, h1] <;> rfl, hC, rfl, fun _ _ _ _ _ h => h⟩
          · go_wp2_with fail
            exact ⟨_, rfl, hC, rfl, fun _ _ _ _ _ h => h⟩
          · have h2 : fx 2 = Value.slice (some ⟨g, off, none⟩) k c := hd.1 rfl
            have h3 : fx 3 = Value.int .i64 ((i : Nat)) := hd.2.1 rfl
            have HIk := Lib.hid (HT2.out.below hC)
            go_wp2_with fail
            refine (ih (ls.take k) _ k c i w' (by omega) (by omega) (by omega) HIk (Lib.hid HP.out.1) (by omega)).mono ?_
            rintro e w2 ⟨v2, rfl, ho, hq⟩
            rw [HPP.out] at ho
            have HO := Lib.hid (ho.down hC.size)
            go_wp2_with fail
            exact ⟨v2, by show _ = Act.mk #[Value.slice (some { block := g, off := off }) n c, Value.int IntKind.i64 ↑i, undef, undef, fx 11, Value.int IntKind.i64 ↑k, Value.slice (some { block := g, off := off }) n c, Value.int IntKind.i64 ↑n, Value.bool false, Value.slice (some { block := g, off := off }) n c, Value.int IntKind.i64 ↑n, Value.int IntKind.i64 ↑k, Value.int IntKind.i64 ↑i, Value.int IntKind.i64 ↑k, Value.bool true, fx 0, fx 1, fx 2, fx 3, v2, fx 5, fx 6, fx 7, fx 8, fx 9, fx 10, undef, undef, undef, undef, undef, undef, undef, undef, undef, undef, undef, undef, undef] []; rw [h2, h3] <;> rfl, hC.trans (hq.mono hC.size), HO.out, fun j v t _ _ h => wPl_below hq j v h⟩
          · go_wp2_with fail
            exact ⟨_, rfl, hC, rfl, fun _ _ _ _ _ h => h⟩
          · go_wp2_with fail
            exact ⟨_, rfl, hC, rfl, fun _ _ _ _ _ h => h⟩
          · have h5 : fx 5 = Value.slice (some ⟨g, off, none⟩) n c := hd.1 rfl
            have h6 : fx 6 = Value.int .i64 ((k : Nat)) := hd.2.1 rfl
            go_wp2_with fail
            exact ⟨_, by show _ = Act.mk #[Value.slice (some { block := g, off := off }) n c, Value.int IntKind.i64 ↑i, undef, undef, fx 11, Value.int IntKind.i64 ↑k, Value.slice (some { block := g, off := off }) n c, Value.int IntKind.i64 ↑n, Value.bool false, Value.slice (some { block := g, off := off }) n c, Value.int IntKind.i64 ↑n, Value.int IntKind.i64 ↑k, Value.int IntKind.i64 ↑i, Value.int IntKind.i64 ↑k, Value.bool true, fx 0, fx 1, fx 2, fx 3, fx 4, fx 5, fx 6, Value.slice (some ⟨g, off + k * 34, none⟩) (n - k) (c - k), fx 8, fx 9, fx 10, undef, undef, undef, undef, undef, undef, undef, undef, undef, undef, undef, undef, undef] []; rw [h5, h6] <;> rfl, hC, rfl, fun _ _ _ _ _ h => h⟩
          · have h7 : fx 7 = Value.slice (some ⟨g, off + k * 34, none⟩) (n - k) (c - k) := hd.1 rfl
            have HIk := Lib.hid (HT3.out.below hC)
            go_wp2_with fail
            refine (rroot_any (n - k) (ls.drop k) _ (n - k) (c - k) w' (Nat.le_refl _) (by omega) (by omega) HIk (Lib.hid HP.out.2)).mono ?_
            rintro e w2 ⟨rfl, hq⟩
            rw [HBB.out]
            go_wp2_with fail
            exact ⟨_, by show _ = Act.mk #[Value.slice (some { block := g, off := off }) n c, Value.int IntKind.i64 ↑i, undef, undef, fx 11, Value.int IntKind.i64 ↑k, Value.slice (some { block := g, off := off }) n c, Value.int IntKind.i64 ↑n, Value.bool false, Value.slice (some { block := g, off := off }) n c, Value.int IntKind.i64 ↑n, Value.int IntKind.i64 ↑k, Value.int IntKind.i64 ↑i, Value.int IntKind.i64 ↑k, Value.bool true, fx 0, fx 1, fx 2, fx 3, fx 4, fx 5, fx 6, fx 7, ndV b, fx 9, fx 10, undef, undef, undef, undef, undef, undef, undef, undef, undef, undef, undef, undef, undef] []; rw [h7] <;> rfl, hC.trans (hq.mono hC.size), rfl, fun j v t _ _ h => wPl_below hq j v h⟩
          · have h8 : fx 8 = ndV b := hd.1 rfl
            refine wpList_build_nodes1 rfl (.tmp 23) rfl b h8 HBO.out ?_
            clear hd
            go_wp2_with fail
            have hbb : Below w'.heap.size w' (w'.alloc (.cells (flatN [b]).toArray 26)) := (Below.refl _ _).alloc (Nat.le_refl _) _
            exact ⟨_, by show _ = Act.mk #[Value.slice (some { block := g, off := off }) n c, Value.int IntKind.i64 ↑i, undef, undef, fx 11, Value.int IntKind.i64 ↑k, Value.slice (some { block := g, off := off }) n c, Value.int IntKind.i64 ↑n, Value.bool false, Value.slice (some { block := g, off := off }) n c, Value.int IntKind.i64 ↑n, Value.int IntKind.i64 ↑k, Value.int IntKind.i64 ↑i, Value.int IntKind.i64 ↑k, Value.bool true, fx 0, fx 1, fx 2, fx 3, fx 4, fx 5, fx 6, fx 7, fx 8, Value.slice (some ⟨w'.heap.size, 0, none⟩) 1 1, fx 10, undef, undef, undef, undef, undef, undef, undef, undef, undef, undef, undef, undef, undef] []; rw [h8] <;> rfl, hC.trans (hbb.mono hC.size), ⟨_, rfl, heap_alloc_new _ _⟩, fun j v t _ _ h => wPl_below hbb j v h⟩
          · have H4 := Lib.hid (hd.1 rfl)
            have H9 := Lib.hid (hd.2.1 rfl)
            obtain ⟨q, hx, hrow⟩ := H9.out
            have HQR := Lib.hid hrow
            refine wpList_append_node rfl (.tmp 19) (.tmp 24) rfl W1.heap.size (fx 4) pp b rfl H4 HBO.out q hx HQR HPL.out hC.size ?_
            intro v2 w2 HO2 HG2
            have HB2 := Lib.hid ((Below.refl W1.heap.size w').grown HG2.out hC.size (fun g hg => (H4.out.block g hg).1))
            clear hd hrow
            go_wp2_with fail
            refine ⟨v2, by rw [← hx]; rfl, hC.trans HB2.out, HO2.out, fun j v t hj hu h => ?_⟩
            refine wPl_pure j v ?_ ?_ ?_ ?_ h <;> intro e <;> subst e
            · refine absurd hu (not_needed (E := (fun i => Nat.beq i 11)) (j := 4) [10] (by kernel_rfl) (by kernel_rfl) ?_)
              intro m hm hne; simp at hm; omega
            · refine absurd hu (not_needed (E := (fun i => Nat.beq i 11)) (j := 9) [10] (by kernel_rfl) (by kernel_rfl) ?_)
              intro m hm hne; simp at hm; omega
            · rw [hi] at hj; cases hj
            · have := hcl 11 10 hj (by kernel_rfl); rw [hi] at this; cases this
          · have H10 := Lib.hid (hd.1 rfl)
            go_wp2_with fail
            exact ⟨fx 10, rfl, hC, H10.out, fun _ _ _ _ _ h => h⟩
        · intro L fo w' hC hS
          have H11 := Lib.hid (hS 11 (by decide) rfl)
          have HBE := Lib.hid hC
          clear hS hC
          go_wp2_with fail
          go_ret
          exact ⟨_, rfl, by rw [HPE.out]; exact H11.out, HBE.out⟩
      · have d2 : decide ((i : Int) < (k : Int)) = false := decide_eq_false (by omega)
        have d3 : decide (i < k) = false := decide_eq_false hik
        obtain ⟨d, HD⟩ : ∃ d : Nat, Hid (i - k = d) := ⟨_, Lib.hid rfl⟩
        have HWD : Hid (IntKind.i64.wrap ((i : Int) - (k : Int)) = (d : Int)) := Lib.hid (by rw [IntWalk.i64_in _ (by omega), ← HD.out]; omega)
        obtain ⟨pp, HPP⟩ : ∃ p, Hid (pathN (ls.drop k) d = p) := ⟨_, Lib.hid rfl⟩
        obtain ⟨b, HBB⟩ : ∃ b, Hid (root (ls.take k) = b) := ⟨_, Lib.hid rfl⟩
        have HBO : Hid (NdOk b) := Lib.hid (by rw [← HBB.out]; exact root_ok _ _ (Nat.le_refl _) (by rw [HLT.out.1]; omega) HT2.out.ok HP.out.1)
        have HPE : Hid (pathN ls i = pp ++ [b]) := Lib.hid (by rw [pathN_right (l := ls) (by rw [HNE.out]; exact h2) (by rw [HNE.out, HK.out]; exact hik), HNE.out, HK.out, HD.out, HPP.out, HBB.out])
        have HPL : Hid (pp.length ≤ 100000) := Lib.hid (by rw [← HPP.out]; have := pathN_le (ls.drop k) d; rw [HLT.out.2] at this; omega)
        obtain ⟨W1, HW1⟩ : ∃ W1, W1 = w := ⟨_, rfl⟩
        subst HW1
        go_wp2_with fail
        refine region_flow3 (by kernel_rfl) (by kernel_rfl) (fun i => Nat.beq i 13) (fun i => i) (by kernel_rfl) (fun fx => #[Value.slice (some { block := g, off := off }) n c, Value.int IntKind.i64 ↑i, undef, undef, fx 13, Value.int IntKind.i64 ↑k, Value.slice (some { block := g, off := off }) n c, Value.int IntKind.i64 ↑n, Value.bool false, Value.slice (some { block := g, off := off }) n c, Value.int IntKind.i64 ↑n, Value.int IntKind.i64 ↑k, Value.int IntKind.i64 ↑i, Value.int IntKind.i64 ↑k, Value.bool false, undef, undef, undef, undef, undef, undef, undef, undef, undef, undef, undef, fx 0, fx 1, fx 2, fx 3, fx 4, fx 5, fx 6, fx 7, fx 8, fx 9, fx 10, fx 11, fx 12]) (fun i => bif Nat.beq i 13 then Value.slice none 0 0 else undef) (fun L fx w' => Below W1.heap.size W1 w') (fun fi fv _ fw => wPr W1.heap.size g off n c k i d b pp fi fv fw) (Below.refl _ _).drew ?_ ?_
        · refine ⟨?_, ?_, ?_, ?_, ?_, ?_, ?_, ?_, ?_, ?_, ?_, ?_, ?_, ?_, trivial⟩
          all_goals intro L fx w' hC hi hcl hdn hd
          · go_wp2_with fail
            exact ⟨_, rfl, hC, rfl, fun _ _ _ _ _ h => h⟩
          · go_wp2_with fail
            exact ⟨_, rfl, hC, rfl, fun _ _ _ _ _ h => h⟩
          · have h0 : fx 0 = Value.slice (some ⟨g, off, none⟩) n c := hd.1 rfl
            have h1 : fx 1 = Value.int .i64 ((k : Nat)) := hd.2.1 rfl
            go_wp2_with fail
            exact ⟨_, by show _ = Act.mk #[Value.slice (some { block := g, off := off }) n c, Value.int IntKind.i64 ↑i, undef, undef, fx 13, Value.int IntKind.i64 ↑k, Value.slice (some { block := g, off := off }) n c, Value.int IntKind.i64 ↑n, Value.bool false, Value.slice (some { block := g, off := off }) n c, Value.int IntKind.i64 ↑n, Value.int IntKind.i64 ↑k, Value.int IntKind.i64 ↑i, Value.int IntKind.i64 ↑k, Value.bool false, undef, undef, undef, undef, undef, undef, undef, undef, undef, undef, undef, fx 0, fx 1, Value.slice (some ⟨g, off + k * 34, none⟩) (n - k) (c - k), fx 3, fx 4, fx 5, fx 6, fx 7, fx 8, fx 9, fx 10, fx 11, fx 12] []; rw [h0, h1] <;> rfl, hC, rfl, fun _ _ _ _ _ h => h⟩
          · go_wp2_with fail
            exact ⟨_, rfl, hC, rfl, fun _ _ _ _ _ h => h⟩
          · go_wp2_with fail
            exact ⟨_, rfl, hC, rfl, fun _ _ _ _ _ h => h⟩
          · have h3 : fx 3 = Value.int .i64 ((i : Nat)) := hd.1 rfl
            have h4 : fx 4 = Value.int .i64 ((k : Nat)) := hd.2.1 rfl
            have hw := HWD.out
            go_wp2_with fail
            exact ⟨_, by show _ = Act.mk #[Value.slice (some { block := g, off := off }) n c, Value.int IntKind.i64 ↑i, undef, undef, fx 13, Value.int IntKind.i64 ↑k, Value.slice (some { block := g, off := off }) n c, Value.int IntKind.i64 ↑n, Value.bool false, Value.slice (some { block := g, off := off }) n c, Value.int IntKind.i64 ↑n, Value.int IntKind.i64 ↑k, Value.int IntKind.i64 ↑i, Value.int IntKind.i64 ↑k, Value.bool false, undef, undef, undef, undef, undef, undef, undef, undef, undef, undef, undef, fx 0, fx 1, fx 2, fx 3, fx 4, Value.int .i64 ((d : Nat)), fx 6, fx 7, fx 8, fx 9, fx 10, fx 11, fx 12] []; rw [h3, h4] <;> rfl, hC, rfl, fun _ _ _ _ _ h => h⟩
          · have h2 : fx 2 = Value.slice (some ⟨g, off + k * 34, none⟩) (n - k) (c - k) := hd.1 rfl
            have h5 : fx 5 = Value.int .i64 ((d : Nat)) := hd.2.1 rfl
            have HIk := Lib.hid (HT3.out.below hC)
            go_wp2_with fail
            refine (ih (ls.drop k) _ (n - k) (c - k) d w' (by omega) (by omega) (by omega) HIk (Lib.hid HP.out.2) (by have := HD.out; omega)).mono ?_
            rintro e w2 ⟨v2, rfl, ho, hq⟩
            rw [HPP.out] at ho
            have HO := Lib.hid (ho.down hC.size)
            go_wp2_with fail
            exact ⟨v2, by show _ = Act.mk #[Value.slice (some { block := g, off := off }) n c, Value.int IntKind.i64 ↑i, undef, undef, fx 13, Value.int IntKind.i64 ↑k, Value.slice (some { block := g, off := off }) n c, Value.int IntKind.i64 ↑n, Value.bool false, Value.slice (some { block := g, off := off }) n c, Value.int IntKind.i64 ↑n, Value.int IntKind.i64 ↑k, Value.int IntKind.i64 ↑i, Value.int IntKind.i64 ↑k, Value.bool false, undef, undef, undef, undef, undef, undef, undef, undef, undef, undef, undef, fx 0, fx 1, fx 2, fx 3, fx 4, fx 5, v2, fx 7, fx 8, fx 9, fx 10, fx 11, fx 12] []; rw [h2, h5] <;> rfl, hC.trans (hq.mono hC.size), HO.out, fun j v t _ _ h => wPr_below hq j v h⟩
          · go_wp2_with fail
            exact ⟨_, rfl, hC, rfl, fun _ _ _ _ _ h => h⟩
          · go_wp2_with fail
            exact ⟨_, rfl, hC, rfl, fun _ _ _ _ _ h => h⟩
          · have h7 : fx 7 = Value.slice (some ⟨g, off, none⟩) n c := hd.1 rfl
            have h8 : fx 8 = Value.int .i64 ((k : Nat)) := hd.2.1 rfl
            go_wp2_with fail
            exact ⟨_, by show _ = Act.mk #[Value.slice (some { block := g, off := off }) n c, Value.int IntKind.i64 ↑i, undef, undef, fx 13, Value.int IntKind.i64 ↑k, Value.slice (some { block := g, off := off }) n c, Value.int IntKind.i64 ↑n, Value.bool false, Value.slice (some { block := g, off := off }) n c, Value.int IntKind.i64 ↑n, Value.int IntKind.i64 ↑k, Value.int IntKind.i64 ↑i, Value.int IntKind.i64 ↑k, Value.bool false, undef, undef, undef, undef, undef, undef, undef, undef, undef, undef, undef, fx 0, fx 1, fx 2, fx 3, fx 4, fx 5, fx 6, fx 7, fx 8, Value.slice (some ⟨g, off, none⟩) k c, fx 10, fx 11, fx 12] []; rw [h7, h8] <;> rfl, hC, rfl, fun _ _ _ _ _ h => h⟩
          · have h9 : fx 9 = Value.slice (some ⟨g, off, none⟩) k c := hd.1 rfl
            have HIk := Lib.hid (HT2.out.below hC)
            go_wp2_with fail
            refine (rroot_any k (ls.take k) _ k c w' (Nat.le_refl _) (by omega) (by omega) HIk (Lib.hid HP.out.1)).mono ?_
            rintro e w2 ⟨rfl, hq⟩
            rw [HBB.out]
            go_wp2_with fail
            exact ⟨_, by show _ = Act.mk #[Value.slice (some { block := g, off := off }) n c, Value.int IntKind.i64 ↑i, undef, undef, fx 13, Value.int IntKind.i64 ↑k, Value.slice (some { block := g, off := off }) n c, Value.int IntKind.i64 ↑n, Value.bool false, Value.slice (some { block := g, off := off }) n c, Value.int IntKind.i64 ↑n, Value.int IntKind.i64 ↑k, Value.int IntKind.i64 ↑i, Value.int IntKind.i64 ↑k, Value.bool false, undef, undef, undef, undef, undef, undef, undef, undef, undef, undef, undef, fx 0, fx 1, fx 2, fx 3, fx 4, fx 5, fx 6, fx 7, fx 8, fx 9, ndV b, fx 11, fx 12] []; rw [h9] <;> rfl, hC.trans (hq.mono hC.size), rfl, fun j v t _ _ h => wPr_below hq j v h⟩
          · have h10 : fx 10 = ndV b := hd.1 rfl
            refine wpList_build_nodes1 rfl (.tmp 36) rfl b h10 HBO.out ?_
            clear hd
            go_wp2_with fail
            have hbb : Below w'.heap.size w' (w'.alloc (.cells (flatN [b]).toArray 26)) := (Below.refl _ _).alloc (Nat.le_refl _) _
            exact ⟨_, by show _ = Act.mk #[Value.slice (some { block := g, off := off }) n c, Value.int IntKind.i64 ↑i, undef, undef, fx 13, Value.int IntKind.i64 ↑k, Value.slice (some { block := g, off := off }) n c, Value.int IntKind.i64 ↑n, Value.bool false, Value.slice (some { block := g, off := off }) n c, Value.int IntKind.i64 ↑n, Value.int IntKind.i64 ↑k, Value.int IntKind.i64 ↑i, Value.int IntKind.i64 ↑k, Value.bool false, undef, undef, undef, undef, undef, undef, undef, undef, undef, undef, undef, fx 0, fx 1, fx 2, fx 3, fx 4, fx 5, fx 6, fx 7, fx 8, fx 9, fx 10, Value.slice (some ⟨w'.heap.size, 0, none⟩) 1 1, fx 12] []; rw [h10] <;> rfl, hC.trans (hbb.mono hC.size), ⟨_, rfl, heap_alloc_new _ _⟩, fun j v t _ _ h => wPr_below hbb j v h⟩
          · have H6 := Lib.hid (hd.1 rfl)
            have H11 := Lib.hid (hd.2.1 rfl)
            obtain ⟨q, hx, hrow⟩ := H11.out
            have HQR := Lib.hid hrow
            refine wpList_append_node rfl (.tmp 32) (.tmp 37) rfl W1.heap.size (fx 6) pp b rfl H6 HBO.out q hx HQR HPL.out hC.size ?_
            intro v2 w2 HO2 HG2
            have HB2 := Lib.hid ((Below.refl W1.heap.size w').grown HG2.out hC.size (fun g hg => (H6.out.block g hg).1))
            clear hd hrow
            go_wp2_with fail
            refine ⟨v2, by rw [← hx]; rfl, hC.trans HB2.out, HO2.out, fun j v t hj hu h => ?_⟩
            refine wPr_pure j v ?_ ?_ ?_ ?_ h <;> intro e <;> subst e
            · refine absurd hu (not_needed (E := (fun i => Nat.beq i 13)) (j := 6) [12] (by kernel_rfl) (by kernel_rfl) ?_)
              intro m hm hne; simp at hm; omega
            · refine absurd hu (not_needed (E := (fun i => Nat.beq i 13)) (j := 11) [12] (by kernel_rfl) (by kernel_rfl) ?_)
              intro m hm hne; simp at hm; omega
            · rw [hi] at hj; cases hj
            · have := hcl 13 12 hj (by kernel_rfl); rw [hi] at this; cases this
          · have H12 := Lib.hid (hd.1 rfl)
            go_wp2_with fail
            exact ⟨fx 12, rfl, hC, H12.out, fun _ _ _ _ _ h => h⟩
        · intro L fo w' hC hS
          have H13 := Lib.hid (hS 13 (by decide) rfl)
          have HBE := Lib.hid hC
          clear hS hC
          go_wp2_with fail
          go_ret
          exact ⟨_, rfl, by rw [HPE.out]; exact H13.out, HBE.out⟩
    · have hn1 : n = 1 := by omega
      have d1 : decide ((n : Int) = 1) = true := decide_eq_true (by omega)
      have d11 : ((n : Int) == 1) = true := by rw [hn1]; rfl
      have HE : Hid (pathN ls i = []) := Lib.hid (pathN_one (by rw [HNE.out]; omega))
      clear hn1
      go_enter Tryd.func41, Tryd.ntmps41
      go_wp2_with fail
      go_ret
      exact ⟨_, rfl, by rw [HE.out]; exact OwnN.nil _ _, Below.refl _ _⟩
theorem pathN_okN {ls : List Nd} (hv : vL ls = true) (ho : ∀ x ∈ ls, NdOk x) {k : Nat} (hk : k < ls.length) : ∀ x ∈ pathN ls k, NdOk x := fun x hx => by
  unfold pathN way at hx
  rw [List.mem_reverse, List.mem_map] at hx
  obtain ⟨y, hy, rfl⟩ := hx
  have := wayF_bd _ _ _ _ (Nat.zero_le _) y hy
  exact seg_root_ok ho hv this.2.1 this.2.2
set_option maxHeartbeats 4000000 in
theorem rPath_any (ls : List Nd) (A : Option Addr) (n c : Nat) (i : Int) (w : World) (hn : n ≤ 9223372036854775807) (h : Hid (InN w A n c ls)) :
    Calls Tryd.prog 17 #[.slice A n c, .int .i64 i] w fun e w' => ∃ A' n' c', e = .returned (.tuple #[.slice A' n' c', .int .i64 (pathE ls i)]) ∧ InN w' A' n' c' (pathR ls i) ∧ Below w.heap.size w w' := by
  have HNE := Lib.hid (show ls.length = n from h.out.len)
  have HNIL : Hid (∀ W : World, InN W none 0 0 []) := Lib.hid (fun W => ⟨rfl, Nat.le_refl _, (fun _ => rfl), (fun x hx => by cases hx), fun h1 => by simp at h1⟩)
  go_enter Tryd.func17, Tryd.ntmps17
  go_wp2_with fail
  refine (rcheck_any ls A n c _ hn h).mono ?_
  rintro e W1 ⟨rfl, hq⟩
  have HB1 := Lib.hid hq
  clear hq
  by_cases he : rootE ls = 0
  · rw [he]
    have hh : ls.length ≤ 4096 ∧ vL ls = true := by
      apply Classical.byContradiction
      intro hc
      rw [(rootR_no hc).2] at he
      omega
    have HH := Lib.hid hh
    by_cases h0 : i < 0
    · have d0 : decide (i < 0) = true := decide_eq_true h0
      have HE := Lib.hid (pathR_arg (ls := ls) (i := i) he (.inl h0))
      clear he hh
      go_wp2_with fail
      go_ret2
      exact ⟨_, _, _, by rw [HE.out.2]; rfl, by rw [HE.out.1]; exact HNIL.out _, HB1.out⟩
    · have d0 : decide (i < 0) = false := decide_eq_false h0
      by_cases h1 : (n : Int) ≤ i
      · have d1 : decide ((n : Int) ≤ i) = true := decide_eq_true h1
        have HE := Lib.hid (pathR_arg (ls := ls) (i := i) he (.inr (by rw [HNE.out]; exact h1)))
        clear he hh
        go_wp2_with fail
        go_ret2
        exact ⟨_, _, _, by rw [HE.out.2]; rfl, by rw [HE.out.1]; exact HNIL.out _, HB1.out⟩
      · have d1 : decide ((n : Int) ≤ i) = false := decide_eq_false h1
        have HE := Lib.hid (pathR_yes (ls := ls) (i := i) he (by rw [HNE.out]; omega))
        obtain ⟨k, HK⟩ : ∃ k : Nat, Hid (i.toNat = k) := ⟨_, Lib.hid rfl⟩
        have hik : i = (k : Int) := by rw [← HK.out]; omega
        have hkn : k < n := by omega
        rw [HK.out] at HE
        have HOK : Hid (∀ x ∈ pathN ls k, NdOk x) := Lib.hid (fun x hx => pathN_okN HH.out.2 h.out.ok (by rw [HNE.out]; omega) x hx)
        clear he hh
        subst hik
        go_wp2_with fail
        refine (rpath_any n ls A n c k W1 (Nat.le_refl _) (by omega) (by have := HH.out.1; rw [HNE.out] at this; exact this) (Lib.hid (h.out.below HB1.out)) (Lib.hid HH.out.2) hkn).mono ?_
        rintro e W2 ⟨v2, rfl, ho, hq⟩
        obtain ⟨A2, n2, c2, rfl, hin, _⟩ := ho.slice HOK.out
        have HIN := Lib.hid hin
        have HB2 := Lib.hid (HB1.out.trans (hq.mono HB1.out.size))
        clear ho hq hin
        go_wp2_with fail
        go_ret2
        exact ⟨_, _, _, by rw [HE.out.2]; rfl, by rw [HE.out.1]; exact HIN.out, HB2.out⟩
  · have hbad : ¬ (ls.length ≤ 4096 ∧ vL ls = true) := fun hh => he (by unfold rootE; exact if_pos hh)
    have HE := Lib.hid (pathR_bad (ls := ls) (i := i) he)
    have HE2 := Lib.hid (rootR_no hbad)
    clear he hbad
    rw [HE2.out.2]
    go_wp2_with fail
    go_ret2
    exact ⟨_, _, _, by rw [HE.out.2]; rfl, by rw [HE.out.1]; exact HNIL.out _, HB1.out⟩
end Go.Proofs.YtgcmbiegbclhmaaDoor
namespace Go.Proofs.YtgcmbiegbclhmaaDoor
open Go.RowKit SzSha SzTree
set_option linter.unusedVariables false
set_option maxRecDepth 100000
theorem cl_left {nd : Nd} {i m : Nat} {qs : List Nd} {p : Nd} (h : 2 ≤ m) (hi : i < half m) (hl : (dirsN i (half m)).length = qs.length) : climbF (dirsN i m).reverse (qs ++ [p]) nd = (climbF (dirsN i (half m)).reverse qs nd).bind (stepN true p) := by
  rw [dirsN_left h hi, List.reverse_cons]; exact climb_snoc _ _ _ _ _ (by rw [List.length_reverse]; exact hl)
theorem cl_right {nd : Nd} {i m : Nat} {qs : List Nd} {p : Nd} (h : 2 ≤ m) (hi : ¬ i < half m) (hl : (dirsN (i - half m) (m - half m)).length = qs.length) : climbF (dirsN i m).reverse (qs ++ [p]) nd = (climbF (dirsN (i - half m) (m - half m)).reverse qs nd).bind (stepN false p) := by
  rw [dirsN_right h hi, List.reverse_cons]; exact climb_snoc _ _ _ _ _ (by rw [List.length_reverse]; exact hl)
/-- climb: the node and the error -/
def clR (o : Option Nd) : Nd := o.getD zeroN
def clE (o : Option Nd) : Int := if o.isSome then 0 else 410
theorem cl_none {o : Option Nd} {f : Nd → Option Nd} (h : o = none) : clR (o.bind f) = zeroN ∧ clE (o.bind f) = 410 := by subst h; exact ⟨rfl, rfl⟩
theorem cl_someL {o : Option Nd} {x p : Nd} (h : o = some x) : clR (o.bind (stepN true p)) = joinR x p ∧ clE (o.bind (stepN true p)) = joinE x p := by
  subst h
  simp only [Option.bind_some, stepN, if_true]
  unfold joinR joinE clR clE
  split <;> exact ⟨rfl, rfl⟩
theorem cl_someR {o : Option Nd} {x p : Nd} (h : o = some x) : clR (o.bind (stepN false p)) = joinR p x ∧ clE (o.bind (stepN false p)) = joinE p x := by
  subst h
  simp only [Option.bind_some, stepN, Bool.false_eq_true, if_false]
  unfold joinR joinE clR clE
  split <;> exact ⟨rfl, rfl⟩
set_option maxHeartbeats 4000000 in
theorem rlen_any : ∀ (f i m : Nat) (w : World), m ≤ f → 1 ≤ m → m ≤ 4096 → i < m →
    Calls Tryd.prog 43 #[.int .i64 (i : Nat), .int .i64 (m : Nat)] w fun e w' => e = .returned (.int .i64 ((dirsN i m).length : Nat)) ∧ w = w' := by
  intro f
  induction f with
  | zero => intro i m w h1 h2; omega
  | succ f ih =>
    intro i m w hf h1 h4 him
    by_cases h2 : 2 ≤ m
    · have d1 : decide ((m : Int) = 1) = false := decide_eq_false (by omega)
      have d11 : ((m : Int) == 1) = false := beq_false_of_ne (by omega)
      obtain ⟨k, HK⟩ : ∃ k, Hid (half m = k) := ⟨_, Lib.hid rfl⟩
      have hkb := half_bd h2
      rw [HK.out] at hkb
      go_enter Tryd.func43, Tryd.ntmps43
      go_wp2_with fail
      refine (rhalf_any m _ (by omega)).mono ?_
      rintro e w2 ⟨rfl, rfl⟩
      rw [HK.out]
      by_cases hik : i < k
      · have d2 : decide ((i : Int) < (k : Int)) = true := decide_eq_true (by omega)
        have d3 : decide (i < k) = true := decide_eq_true hik
        obtain ⟨s, HS⟩ : ∃ s, Hid ((dirsN i k).length = s) := ⟨_, Lib.hid rfl⟩
        have HE : Hid ((dirsN i m).length = s + 1) := Lib.hid (by rw [dirsN_left h2 (by rw [HK.out]; exact hik), HK.out, List.length_cons, HS.out])
        have hsb : s ≤ 4096 := by rw [← HS.out]; have := dirsN_length i k; omega
        have hw : IntKind.i64.wrap ((s : Int) + 1) = (s : Int) + 1 := IntWalk.i64_in _ (by omega)
        go_wp2_with fail
        refine (ih i k _ (by omega) hkb.1 (by omega) hik).mono ?_
        rintro e w2 ⟨rfl, rfl⟩
        rw [HS.out]
        go_wp2_with fail
        go_ret
        exact ⟨by rw [HE.out]; rfl, rfl⟩
      · have d2 : decide ((i : Int) < (k : Int)) = false := decide_eq_false (by omega)
        have d3 : decide (i < k) = false := decide_eq_false hik
        obtain ⟨d, HD⟩ : ∃ d : Nat, Hid (i - k = d) := ⟨_, Lib.hid rfl⟩
        obtain ⟨d2', HD2⟩ : ∃ d : Nat, Hid (m - k = d) := ⟨_, Lib.hid rfl⟩
        have hw1 : IntKind.i64.wrap ((i : Int) - (k : Int)) = (d : Int) := by rw [IntWalk.i64_in _ (by omega), ← HD.out]; omega
        have hw2 : IntKind.i64.wrap ((m : Int) - (k : Int)) = (d2' : Int) := by rw [IntWalk.i64_in _ (by omega), ← HD2.out]; omega
        obtain ⟨s, HS⟩ : ∃ s, Hid ((dirsN d d2').length = s) := ⟨_, Lib.hid rfl⟩
        have HE : Hid ((dirsN i m).length = s + 1) := Lib.hid (by rw [dirsN_right h2 (by rw [HK.out]; exact hik), HK.out, List.length_cons, HD.out, HD2.out, HS.out])
        have hsb : s ≤ 4096 := by rw [← HS.out]; have := dirsN_length d d2'; have := HD2.out; omega
        have hw : IntKind.i64.wrap ((s : Int) + 1) = (s : Int) + 1 := IntWalk.i64_in _ (by omega)
        have hdd : d2' ≤ f ∧ 1 ≤ d2' ∧ d2' ≤ 4096 ∧ d < d2' := by rw [← HD2.out, ← HD.out]; omega
        go_wp2_with fail
        refine (ih d d2' _ hdd.1 hdd.2.1 hdd.2.2.1 hdd.2.2.2).mono ?_
        rintro e w2 ⟨rfl, rfl⟩
        rw [HS.out]
        go_wp2_with fail
        go_ret
        exact ⟨by rw [HE.out]; rfl, rfl⟩
    · have hm1 : m = 1 := by omega
      subst hm1
      have HE : Hid (dirsN i 1 = []) := Lib.hid (dirsN_one i)
      go_enter Tryd.func43, Tryd.ntmps43
      go_wp2_with fail
      go_ret
      exact ⟨by rw [HE.out]; rfl, rfl⟩
theorem clR_ok {rs : List Bool} {ps : List Nd} {n : Nd} (hn : NdOk n) (hp : ∀ p ∈ ps, NdOk p) : NdOk (clR (climbF rs ps n)) := by
  unfold clR
  cases e : climbF rs ps n with
  | none => exact zeroN_ok
  | some x => exact climbF_ok _ _ _ _ hn hp e
theorem joinR_okR {a b : Nd} (ha : NdOk a) (hb : NdOk b) : NdOk (joinR a b) := by
  unfold joinR; split
  · exact join_ok ha hb (by assumption)
  · exact zeroN_ok
def wC6 (M : Nat) (nd : Nd) (g : Nat) (off : Nat) (n : Nat) (c : Nat) (i : Nat) (k : Nat) (m : Nat) (d : Nat) (d2 : Nat) (l : Nat) (r : Nd) (e0 : Int) : Nat → Value → Value → World → Prop
  | 0, fv, _, _ => fv = ndV nd
  | 1, fv, _, _ => fv = Value.int .i64 ((i : Nat))
  | 2, fv, _, _ => fv = Value.int .i64 ((k : Nat))
  | 3, fv, _, _ => fv = Value.slice (some ⟨g, off, none⟩) n c
  | 4, fv, _, _ => fv = Value.int .i64 ((l : Nat))
  | 5, fv, _, _ => fv = Value.slice (some ⟨g, off, none⟩) l c
  | 6, fv, _, _ => fv = Value.tuple #[ndV r, .int .i64 e0]
  | 7, fv, _, _ => fv = Value.tuple #[ndV r, .int .i64 e0]
  | 8, fv, _, _ => fv = ndV r
  | 9, fv, _, _ => fv = Value.int .i64 (e0)
  | 10, fv, fu, fw => True
  | 11, fv, fu, fw => ∃ q, fu = .pointer (some ⟨q, 0, none⟩) ∧ M ≤ q ∧ fw.heap[q]? = some (.cells (ndC r).toArray 26 (0, 0))
  | 12, fv, _, _ => fv = Value.int .i64 (e0)
  | _, _, _, _ => True
theorem wC6_below {M : Nat} {nd : Nd} {g : Nat} {off : Nat} {n : Nat} {c : Nat} {i : Nat} {k : Nat} {m : Nat} {d : Nat} {d2 : Nat} {l : Nat} {r : Nd} {e0 : Int} {w w' : World} (hb : Below w.heap.size w w') : ∀ j v u, wC6 M nd g off n c i k m d d2 l r e0 j v u w → wC6 M nd g off n c i k m d d2 l r e0 j v u w'
  | 0, v, u, h => h
  | 1, v, u, h => h
  | 2, v, u, h => h
  | 3, v, u, h => h
  | 4, v, u, h => h
  | 5, v, u, h => h
  | 6, v, u, h => h
  | 7, v, u, h => h
  | 8, v, u, h => h
  | 9, v, u, h => h
  | 10, v, u, h => h
  | 11, v, u, ⟨q, h1, h2, h3⟩ => ⟨q, h1, h2, row_kept h3 hb⟩
  | 12, v, u, h => h
  | n + 13, v, u, h => trivial
theorem wC6_pure {M : Nat} {nd : Nd} {g : Nat} {off : Nat} {n : Nat} {c : Nat} {i : Nat} {k : Nat} {m : Nat} {d : Nat} {d2 : Nat} {l : Nat} {r : Nd} {e0 : Int} {w w' : World} : ∀ j v u, j ≠ 10 → j ≠ 11 → wC6 M nd g off n c i k m d d2 l r e0 j v u w → wC6 M nd g off n c i k m d d2 l r e0 j v u w'
  | 0, v, u, _, _, h => h
  | 1, v, u, _, _, h => h
  | 2, v, u, _, _, h => h
  | 3, v, u, _, _, h => h
  | 4, v, u, _, _, h => h
  | 5, v, u, _, _, h => h
  | 6, v, u, _, _, h => h
  | 7, v, u, _, _, h => h
  | 8, v, u, _, _, h => h
  | 9, v, u, _, _, h => h
  | 10, v, u, hh, _, _ => absurd rfl hh
  | 11, v, u, _, hh, _ => absurd rfl hh
  | 12, v, u, _, _, h => h
  | n + 13, v, u, _, _, h => trivial
def wC10 (M : Nat) (nd : Nd) (g : Nat) (off : Nat) (n : Nat) (c : Nat) (i : Nat) (k : Nat) (m : Nat) (d : Nat) (d2 : Nat) (l : Nat) (r : Nd) (e0 : Int) : Nat → Value → Value → World → Prop
  | 0, fv, _, _ => fv = ndV nd
  | 1, fv, _, _ => fv = Value.int .i64 ((i : Nat))
  | 2, fv, _, _ => fv = Value.int .i64 ((k : Nat))
  | 3, fv, _, _ => fv = Value.int .i64 ((d : Nat))
  | 4, fv, _, _ => fv = Value.int .i64 ((m : Nat))
  | 5, fv, _, _ => fv = Value.int .i64 ((k : Nat))
  | 6, fv, _, _ => fv = Value.int .i64 ((d2 : Nat))
  | 7, fv, _, _ => fv = Value.slice (some ⟨g, off, none⟩) n c
  | 8, fv, _, _ => fv = Value.int .i64 ((l : Nat))
  | 9, fv, _, _ => fv = Value.slice (some ⟨g, off, none⟩) l c
  | 10, fv, _, _ => fv = Value.tuple #[ndV r, .int .i64 e0]
  | 11, fv, _, _ => fv = Value.tuple #[ndV r, .int .i64 e0]
  | 12, fv, _, _ => fv = ndV r
  | 13, fv, _, _ => fv = Value.int .i64 (e0)
  | 14, fv, fu, fw => True
  | 15, fv, fu, fw => ∃ q, fu = .pointer (some ⟨q, 0, none⟩) ∧ M ≤ q ∧ fw.heap[q]? = some (.cells (ndC r).toArray 26 (0, 0))
  | 16, fv, _, _ => fv = Value.int .i64 (e0)
  | _, _, _, _ => True
theorem wC10_below {M : Nat} {nd : Nd} {g : Nat} {off : Nat} {n : Nat} {c : Nat} {i : Nat} {k : Nat} {m : Nat} {d : Nat} {d2 : Nat} {l : Nat} {r : Nd} {e0 : Int} {w w' : World} (hb : Below w.heap.size w w') : ∀ j v u, wC10 M nd g off n c i k m d d2 l r e0 j v u w → wC10 M nd g off n c i k m d d2 l r e0 j v u w'
  | 0, v, u, h => h
  | 1, v, u, h => h
  | 2, v, u, h => h
  | 3, v, u, h => h
  | 4, v, u, h => h
  | 5, v, u, h => h
  | 6, v, u, h => h
  | 7, v, u, h => h
  | 8, v, u, h => h
  | 9, v, u, h => h
  | 10, v, u, h => h
  | 11, v, u, h => h
  | 12, v, u, h => h
  | 13, v, u, h => h
  | 14, v, u, h => h
  | 15, v, u, ⟨q, h1, h2, h3⟩ => ⟨q, h1, h2, row_kept h3 hb⟩
  | 16, v, u, h => h
  | n + 17, v, u, h => trivial
theorem wC10_pure {M : Nat} {nd : Nd} {g : Nat} {off : Nat} {n : Nat} {c : Nat} {i : Nat} {k : Nat} {m : Nat} {d : Nat} {d2 : Nat} {l : Nat} {r : Nd} {e0 : Int} {w w' : World} : ∀ j v u, j ≠ 14 → j ≠ 15 → wC10 M nd g off n c i k m d d2 l r e0 j v u w → wC10 M nd g off n c i k m d d2 l r e0 j v u w'
  | 0, v, u, _, _, h => h
  | 1, v, u, _, _, h => h
  | 2, v, u, _, _, h => h
  | 3, v, u, _, _, h => h
  | 4, v, u, _, _, h => h
  | 5, v, u, _, _, h => h
  | 6, v, u, _, _, h => h
  | 7, v, u, _, _, h => h
  | 8, v, u, _, _, h => h
  | 9, v, u, _, _, h => h
  | 10, v, u, _, _, h => h
  | 11, v, u, _, _, h => h
  | 12, v, u, _, _, h => h
  | 13, v, u, _, _, h => h
  | 14, v, u, hh, _, _ => absurd rfl hh
  | 15, v, u, _, hh, _ => absurd rfl hh
  | 16, v, u, _, _, h => h
  | n + 17, v, u, _, _, h => trivial
def wC9 (W0 : World) (br : Nat) (g : Nat) (off : Nat) (n : Nat) (c : Nat) (l : Nat) (r : Nd) (p : Nd) (jn : Nd) (je : Int) : Nat → Value → World → Prop
  | 0, fv, _ => fv = ndV r
  | 1, fv, _ => fv = Value.slice (some ⟨g, off, none⟩) n c
  | 2, fv, _ => fv = Value.int .i64 ((l : Nat))
  | 3, fv, _ => fv = Value.pointer (some ⟨g, off + l * 34, none⟩)
  | 4, fv, _ => fv = ndV p
  | 5, fv, _ => fv = Value.tuple #[ndV jn, .int .i64 je]
  | 6, fv, _ => fv = ndV jn
  | 7, fv, _ => fv = Value.int .i64 (je)
  | 8, fv, fw => fw.heap[br]? = some (.cells (ndC jn).toArray 26 (0, 0)) ∧ Below W0.heap.size W0 fw
  | 9, fv, _ => fv = Value.int .i64 (je)
  | _, _, _ => True
theorem wC9_below {W0 : World} {br : Nat} {g : Nat} {off : Nat} {n : Nat} {c : Nat} {l : Nat} {r : Nd} {p : Nd} {jn : Nd} {je : Int} {w w' : World} (hb : Below w.heap.size w w') : ∀ j v, wC9 W0 br g off n c l r p jn je j v w → wC9 W0 br g off n c l r p jn je j v w'
  | 0, v, h => h
  | 1, v, h => h
  | 2, v, h => h
  | 3, v, h => h
  | 4, v, h => h
  | 5, v, h => h
  | 6, v, h => h
  | 7, v, h => h
  | 8, v, h => ⟨row_kept h.1 hb, h.2.trans (hb.mono h.2.size)⟩
  | 9, v, h => h
  | n + 10, v, h => trivial
theorem wC9_pure {W0 : World} {br : Nat} {g : Nat} {off : Nat} {n : Nat} {c : Nat} {l : Nat} {r : Nd} {p : Nd} {jn : Nd} {je : Int} {w w' : World} : ∀ j v, j ≠ 8 → wC9 W0 br g off n c l r p jn je j v w → wC9 W0 br g off n c l r p jn je j v w'
  | 0, v, _, h => h
  | 1, v, _, h => h
  | 2, v, _, h => h
  | 3, v, _, h => h
  | 4, v, _, h => h
  | 5, v, _, h => h
  | 6, v, _, h => h
  | 7, v, _, h => h
  | 8, v, hh, _ => absurd rfl hh
  | 9, v, _, h => h
  | n + 10, v, _, h => trivial
def wC13 (W0 : World) (br : Nat) (g : Nat) (off : Nat) (n : Nat) (c : Nat) (l : Nat) (r : Nd) (p : Nd) (jn : Nd) (je : Int) : Nat → Value → World → Prop
  | 0, fv, _ => fv = Value.slice (some ⟨g, off, none⟩) n c
  | 1, fv, _ => fv = Value.int .i64 ((l : Nat))
  | 2, fv, _ => fv = Value.pointer (some ⟨g, off + l * 34, none⟩)
  | 3, fv, _ => fv = ndV p
  | 4, fv, _ => fv = ndV r
  | 5, fv, _ => fv = Value.tuple #[ndV jn, .int .i64 je]
  | 6, fv, _ => fv = ndV jn
  | 7, fv, _ => fv = Value.int .i64 (je)
  | 8, fv, fw => fw.heap[br]? = some (.cells (ndC jn).toArray 26 (0, 0)) ∧ Below W0.heap.size W0 fw
  | 9, fv, _ => fv = Value.int .i64 (je)
  | _, _, _ => True
theorem wC13_below {W0 : World} {br : Nat} {g : Nat} {off : Nat} {n : Nat} {c : Nat} {l : Nat} {r : Nd} {p : Nd} {jn : Nd} {je : Int} {w w' : World} (hb : Below w.heap.size w w') : ∀ j v, wC13 W0 br g off n c l r p jn je j v w → wC13 W0 br g off n c l r p jn je j v w'
  | 0, v, h => h
  | 1, v, h => h
  | 2, v, h => h
  | 3, v, h => h
  | 4, v, h => h
  | 5, v, h => h
  | 6, v, h => h
  | 7, v, h => h
  | 8, v, h => ⟨row_kept h.1 hb, h.2.trans (hb.mono h.2.size)⟩
  | 9, v, h => h
  | n + 10, v, h => trivial
theorem wC13_pure {W0 : World} {br : Nat} {g : Nat} {off : Nat} {n : Nat} {c : Nat} {l : Nat} {r : Nd} {p : Nd} {jn : Nd} {je : Int} {w w' : World} : ∀ j v, j ≠ 8 → wC13 W0 br g off n c l r p jn je j v w → wC13 W0 br g off n c l r p jn je j v w'
  | 0, v, _, h => h
  | 1, v, _, h => h
  | 2, v, _, h => h
  | 3, v, _, h => h
  | 4, v, _, h => h
  | 5, v, _, h => h
  | 6, v, _, h => h
  | 7, v, _, h => h
  | 8, v, hh, _ => absurd rfl hh
  | 9, v, _, h => h
  | n + 10, v, _, h => trivial
set_option maxHeartbeats 8000000 in
theorem rclimb_any : ∀ (f : Nat) (nd : Nd) (i m : Nat) (ps : List Nd) (A : Option Addr) (n c : Nat) (w : World), m ≤ f → 1 ≤ m → m ≤ 4096 → i < m → n = (dirsN i m).length → Hid (InN w A n c ps) → Hid (NdOk nd) → Hid (vN nd = true) →
    Calls Tryd.prog 44 #[ndV nd, .int .i64 (i : Nat), .int .i64 (m : Nat), .slice A n c] w fun e w' => e = .returned (.tuple #[ndV (clR (climbF (dirsN i m).reverse ps nd)), .int .i64 (clE (climbF (dirsN i m).reverse ps nd))]) ∧ Below w.heap.size w w' := by
  intro f
  induction f with
  | zero => intro nd i m ps A n c w h1 h2; omega
  | succ f ih =>
    intro nd i m ps A n c w hf h1 h4 him hnl h HND HVN
    have HNL := Lib.hid hnl
    have HNE := Lib.hid (show ps.length = n from h.out.len)
    have HSN : Hid ((Tryd.prog.info? 26).map (·.size) = some (ndC nd).toArray.size) := Lib.hid (by rw [size34 HND.out]; simp)
    have HSZ : Hid ((Tryd.prog.info? 26).map (·.size) = some (ndC zeroN).toArray.size) := Lib.hid (by rw [size34 zeroN_ok]; simp)
    have hb0 := ((Below.refl _ w).alloc (Nat.le_refl _) (.cells (ndC nd).toArray 26)).alloc (by simp) (.cells (ndC zeroN).toArray 26)
    have hr0 := (Below.heap_alloc (w.alloc (.cells (ndC nd).toArray 26)) (.cells (ndC zeroN).toArray 26) w.heap.size (by simp)).trans (heap_alloc_new w (.cells (ndC nd).toArray 26))
    have hr1 := heap_alloc_new (w.alloc (.cells (ndC nd).toArray 26)) (.cells (ndC zeroN).toArray 26)
    rw [World.size_alloc] at hr1
    have HB1 := Lib.hid hb0
    have R4 := Lib.hid hr0
    have R5 := Lib.hid hr1
    have HI1 := Lib.hid (h.out.below hb0)
    rw [zeroN_cells] at HB1 R4 R5 HI1
    clear hb0 hr0 hr1 hnl
    by_cases h2 : 2 ≤ m
    · have d1 : decide ((m : Int) = 1) = false := decide_eq_false (by omega)
      have d11 : ((m : Int) == 1) = false := beq_false_of_ne (by omega)
      obtain ⟨k, HK⟩ : ∃ k, Hid (half m = k) := ⟨_, Lib.hid rfl⟩
      have hkb := half_bd h2
      rw [HK.out] at hkb
      have hn1 : 1 ≤ n := by
        rw [HNL.out]
        by_cases hq : i < half m
        · rw [dirsN_left h2 hq]; simp
        · rw [dirsN_right h2 hq]; simp
      have hn4 : n ≤ 4096 := by rw [HNL.out]; have := dirsN_length i m; omega
      obtain ⟨l, HL⟩ : ∃ l : Nat, Hid (n - 1 = l) := ⟨_, Lib.hid rfl⟩
      have hl1 : l + 1 = n := by rw [← HL.out]; omega
      have hwl : IntKind.i64.wrap ((n : Int) - 1) = (l : Int) := by rw [IntWalk.i64_in _ (by omega)]; omega
      obtain ⟨g, off, rfl, hg, hr⟩ := HI1.out.rd (by rw [HI1.out.len]; omega)
      have HG1 := Lib.hid hg
      have hll : l < ps.length := by rw [HNE.out]; omega
      obtain ⟨p, HP⟩ : ∃ p, Hid (ps[l] = p) := ⟨_, Lib.hid rfl⟩
      have HPO : Hid (NdOk p) := Lib.hid (by rw [← HP.out]; exact HI1.out.ok _ (List.getElem_mem _))
      have HRP1 := Lib.hid (range_one hr HI1.out.ok l hll)
      rw [HP.out] at HRP1
      have HPS : Hid (ps = ps.take l ++ [p]) := Lib.hid (by
        conv => lhs; rw [← List.take_length (l := ps), show ps.length = l + 1 by rw [HNE.out]; omega, List.take_succ_eq_append_getElem hll, HP.out])
      have HTL : Hid ((ps.take l).length = l) := Lib.hid (by rw [List.length_take]; omega)
      have hcap := HI1.out.cap
      have HIT := Lib.hid (HI1.out.take l (by omega))
      have hlc : l ≤ c := by omega
      clear hr hg
      go_enter Tryd.func44, Tryd.ntmps44
      rw [show ndV nd = .agg (ndC nd).toArray from rfl]
      go_wp2_with fail
      generalize (w.alloc (.cells (ndC nd).toArray 26)).alloc (.cells #[.int .u8 0, .int .u8 0, .int .u8 0, .int .u8 0, .int .u8 0, .int .u8 0, .int .u8 0, .int .u8 0, .int .u8 0, .int .u8 0, .int .u8 0, .int .u8 0, .int .u8 0, .int .u8 0, .int .u8 0, .int .u8 0, .int .u8 0, .int .u8 0, .int .u8 0, .int .u8 0, .int .u8 0, .int .u8 0, .int .u8 0, .int .u8 0, .int .u8 0, .int .u8 0, .int .u8 0, .int .u8 0, .int .u8 0, .int .u8 0, .int .u8 0, .int .u8 0, .int .i64 0, .int .i64 0] 26) = W1 at *
      refine (rhalf_any m _ (by omega)).mono ?_
      rintro e w2 ⟨rfl, hw1⟩
      subst hw1
      rw [HK.out]
      by_cases hik : i < k
      · have d2' : decide ((i : Int) < (k : Int)) = true := decide_eq_true (by omega)
        have d3 : decide (i < k) = true := decide_eq_true hik
        obtain ⟨d, HDD⟩ : ∃ d : Nat, Hid (d = 0) := ⟨0, Lib.hid rfl⟩
        obtain ⟨d2, HDD2⟩ : ∃ d : Nat, Hid (d = 0) := ⟨0, Lib.hid rfl⟩
        have HN2 : Hid ((dirsN i k).length = l) := Lib.hid (by have h := HNL.out; rw [dirsN_left h2 (by rw [HK.out]; exact hik), HK.out, List.length_cons] at h; omega)
        have HCL : Hid (climbF (dirsN i m).reverse ps nd = (climbF (dirsN i k).reverse (ps.take l) nd).bind (stepN true p)) := Lib.hid (by
          rw [← HK.out]
          conv => lhs; rw [HPS.out]
          exact cl_left h2 (by rw [HK.out]; exact hik) (by rw [HK.out, HN2.out, HTL.out]))
        obtain ⟨O, HO⟩ : ∃ O, Hid (climbF (dirsN i k).reverse (ps.take l) nd = O) := ⟨_, Lib.hid rfl⟩
        rw [HO.out] at HCL
        obtain ⟨r, HRe⟩ : ∃ r, Hid (clR O = r) := ⟨_, Lib.hid rfl⟩
        obtain ⟨e0, HE0⟩ : ∃ e, Hid (clE O = e) := ⟨_, Lib.hid rfl⟩
        have HR : Hid (clR (climbF (dirsN i k).reverse (ps.take l) nd) = r) := Lib.hid (by rw [HO.out]; exact HRe.out)
        have HE0' := HE0
        have HE0 : Hid (clE (climbF (dirsN i k).reverse (ps.take l) nd) = e0) := Lib.hid (by rw [HO.out]; exact HE0'.out)
        have HRO : Hid (NdOk r) := Lib.hid (by rw [← HR.out]; exact clR_ok HND.out (fun x hx => HI1.out.ok x (List.mem_of_mem_take hx)))
        have HS1 : Hid ((Tryd.prog.info? 26).map (·.size) = some (ndC r).toArray.size) := Lib.hid (by rw [size34 HRO.out]; simp)
        have HS2 : Hid (34 = (ndC r).toArray.size) := Lib.hid (by simp [ndC_length HRO.out])
        go_wp2_with fail
        refine region_flow3 (by kernel_rfl) (by kernel_rfl) (fun i => Nat.beq i 11 || Nat.beq i 12) (fun i => bif Nat.beq i 11 then 10 else i) (by kernel_rfl) (fun fx => #[Value.agg (ndC nd).toArray, Value.int IntKind.i64 ↑i, Value.int IntKind.i64 ↑m, Value.slice (some { block := g, off := off }) n c, Value.pointer (some { block := w.heap.size, off := 0 }), undef, undef, undef, Value.pointer (some { block := w.heap.size + 1, off := 0 }), Value.int IntKind.i64 0, Value.int IntKind.i64 ↑l, Value.int IntKind.i64 ↑k, fx 10, fx 12, undef, undef, Value.int IntKind.i64 ↑m, Value.bool false, undef, Value.slice (some { block := g, off := off }) n c, Value.int IntKind.i64 ↑n, Value.int IntKind.i64 ↑l, Value.int IntKind.i64 ↑m, Value.int IntKind.i64 ↑k, Value.int IntKind.i64 ↑i, Value.int IntKind.i64 ↑k, Value.bool true, fx 7, fx 0, fx 1, fx 2, fx 3, fx 4, fx 5, fx 6, fx 8, fx 9, undef, undef, undef, undef, undef, undef, undef, undef, undef, undef, undef, undef, undef, undef, undef, undef, undef, undef, undef, undef, undef, undef, undef, undef, undef, undef, undef, undef, undef, undef, undef, undef, undef, undef, undef, undef, undef, undef]) (fun _ => undef) (fun L fx w' => Below W1.heap.size W1 w' ∧ (L 10 = true → L 11 = false → NewN W1.heap.size (fx 10) w')) (fun fi fv fu fw => wC6 W1.heap.size nd g off n c i k m d d2 l r e0 fi fv fu fw) ⟨(Below.refl _ _).drew, fun h => by cases h⟩ ?_ ?_
        · refine ⟨?_, ?_, ?_, ?_, ?_, ?_, ?_, ?_, ?_, ?_, ?_, ?_, ?_, trivial⟩
          all_goals intro L fx w' hC hi hcl hdn hd
          · have hrow := row_kept R4.out hC.1
            refine wpList_load_row rfl 26 (.tmp 4) rfl w.heap.size rfl 26 _ (0, 0) _ hrow Tryd.underlying26 rfl (size34' HND.out) ?_
            clear hd
            go_wp2_with fail
            exact ⟨_, rfl, ⟨hC.1, fun a b => hC.2 a b⟩, rfl, fun _ _ _ _ _ h => h⟩
          · go_wp2_with fail
            exact ⟨_, rfl, ⟨hC.1, fun a b => hC.2 a b⟩, rfl, fun _ _ _ _ _ h => h⟩
          · go_wp2_with fail
            exact ⟨_, rfl, ⟨hC.1, fun a b => hC.2 a b⟩, rfl, fun _ _ _ _ _ h => h⟩
          · go_wp2_with fail
            exact ⟨_, rfl, ⟨hC.1, fun a b => hC.2 a b⟩, rfl, fun _ _ _ _ _ h => h⟩
          · go_wp2_with fail
            exact ⟨_, rfl, ⟨hC.1, fun a b => hC.2 a b⟩, rfl, fun _ _ _ _ _ h => h⟩
          · have h3 : fx 3 = Value.slice (some ⟨g, off, none⟩) n c := hd.1 rfl
            have h4 : fx 4 = Value.int .i64 ((l : Nat)) := hd.2.1 rfl
            go_wp2_with fail
            exact ⟨_, by show _ = Act.mk #[Value.agg (ndC nd).toArray, Value.int IntKind.i64 ↑i, Value.int IntKind.i64 ↑m, Value.slice (some { block := g, off := off }) n c, Value.pointer (some { block := w.heap.size, off := 0 }), undef, undef, undef, Value.pointer (some { block := w.heap.size + 1, off := 0 }), Value.int IntKind.i64 0, Value.int IntKind.i64 ↑l, Value.int IntKind.i64 ↑k, fx 10, fx 12, undef, undef, Value.int IntKind.i64 ↑m, Value.bool false, undef, Value.slice (some { block := g, off := off }) n c, Value.int IntKind.i64 ↑n, Value.int IntKind.i64 ↑l, Value.int IntKind.i64 ↑m, Value.int IntKind.i64 ↑k, Value.int IntKind.i64 ↑i, Value.int IntKind.i64 ↑k, Value.bool true, fx 7, fx 0, fx 1, fx 2, fx 3, fx 4, Value.slice (some ⟨g, off, none⟩) l c, fx 6, fx 8, fx 9, undef, undef, undef, undef, undef, undef, undef, undef, undef, undef, undef, undef, undef, undef, undef, undef, undef, undef, undef, undef, undef, undef, undef, undef, undef, undef, undef, undef, undef, undef, undef, undef, undef, undef, undef, undef, undef, undef] []; rw [h3, h4] <;> rfl, ⟨hC.1, fun a b => hC.2 a b⟩, rfl, fun _ _ _ _ _ h => h⟩
          · have h0 : fx 0 = ndV nd := hd.1 rfl
            have h1 : fx 1 = Value.int .i64 ((i : Nat)) := hd.2.1 rfl
            have h2 : fx 2 = Value.int .i64 ((k : Nat)) := hd.2.2.1 rfl
            have h5 : fx 5 = Value.slice (some ⟨g, off, none⟩) l c := hd.2.2.2.1 rfl
            have HIk := Lib.hid (HIT.out.below hC.1)
            go_wp2_with fail
            refine (ih nd i k (ps.take l) _ l c w' (by omega) hkb.1 (by omega) hik (by have := HN2.out; exact this.symm) HIk HND HVN).mono ?_
            rintro e w2 ⟨rfl, hq⟩
            rw [HR.out, HE0.out]
            go_wp2_with fail
            exact ⟨_, by show _ = Act.mk #[Value.agg (ndC nd).toArray, Value.int IntKind.i64 ↑i, Value.int IntKind.i64 ↑m, Value.slice (some { block := g, off := off }) n c, Value.pointer (some { block := w.heap.size, off := 0 }), undef, undef, undef, Value.pointer (some { block := w.heap.size + 1, off := 0 }), Value.int IntKind.i64 0, Value.int IntKind.i64 ↑l, Value.int IntKind.i64 ↑k, fx 10, fx 12, undef, undef, Value.int IntKind.i64 ↑m, Value.bool false, undef, Value.slice (some { block := g, off := off }) n c, Value.int IntKind.i64 ↑n, Value.int IntKind.i64 ↑l, Value.int IntKind.i64 ↑m, Value.int IntKind.i64 ↑k, Value.int IntKind.i64 ↑i, Value.int IntKind.i64 ↑k, Value.bool true, fx 7, fx 0, fx 1, fx 2, fx 3, fx 4, fx 5, Value.tuple #[ndV r, .int .i64 e0], fx 8, fx 9, undef, undef, undef, undef, undef, undef, undef, undef, undef, undef, undef, undef, undef, undef, undef, undef, undef, undef, undef, undef, undef, undef, undef, undef, undef, undef, undef, undef, undef, undef, undef, undef, undef, undef, undef, undef, undef, undef] []; rw [h0, h1, h2, h5] <;> rfl, ⟨hC.1.trans (hq.mono hC.1.size), fun h14 h15 => (hC.2 h14 h15).below hq⟩, rfl, fun j v t _ _ h => wC6_below hq j v t h⟩
          · have h6 : fx 6 = Value.tuple #[ndV r, .int .i64 e0] := hd.1 rfl
            go_wp2_with fail
            exact ⟨_, by show _ = Act.mk #[Value.agg (ndC nd).toArray, Value.int IntKind.i64 ↑i, Value.int IntKind.i64 ↑m, Value.slice (some { block := g, off := off }) n c, Value.pointer (some { block := w.heap.size, off := 0 }), undef, undef, undef, Value.pointer (some { block := w.heap.size + 1, off := 0 }), Value.int IntKind.i64 0, Value.int IntKind.i64 ↑l, Value.int IntKind.i64 ↑k, fx 10, fx 12, undef, undef, Value.int IntKind.i64 ↑m, Value.bool false, undef, Value.slice (some { block := g, off := off }) n c, Value.int IntKind.i64 ↑n, Value.int IntKind.i64 ↑l, Value.int IntKind.i64 ↑m, Value.int IntKind.i64 ↑k, Value.int IntKind.i64 ↑i, Value.int IntKind.i64 ↑k, Value.bool true, Value.tuple #[ndV r, .int .i64 e0], fx 0, fx 1, fx 2, fx 3, fx 4, fx 5, fx 6, fx 8, fx 9, undef, undef, undef, undef, undef, undef, undef, undef, undef, undef, undef, undef, undef, undef, undef, undef, undef, undef, undef, undef, undef, undef, undef, undef, undef, undef, undef, undef, undef, undef, undef, undef, undef, undef, undef, undef, undef, undef] []; rw [h6] <;> rfl, ⟨hC.1, fun a b => hC.2 a b⟩, rfl, fun _ _ _ _ _ h => h⟩
          · have h7 : fx 7 = Value.tuple #[ndV r, .int .i64 e0] := hd.1 rfl
            go_wp2_with fail
            exact ⟨_, by show _ = Act.mk #[Value.agg (ndC nd).toArray, Value.int IntKind.i64 ↑i, Value.int IntKind.i64 ↑m, Value.slice (some { block := g, off := off }) n c, Value.pointer (some { block := w.heap.size, off := 0 }), undef, undef, undef, Value.pointer (some { block := w.heap.size + 1, off := 0 }), Value.int IntKind.i64 0, Value.int IntKind.i64 ↑l, Value.int IntKind.i64 ↑k, fx 10, fx 12, undef, undef, Value.int IntKind.i64 ↑m, Value.bool false, undef, Value.slice (some { block := g, off := off }) n c, Value.int IntKind.i64 ↑n, Value.int IntKind.i64 ↑l, Value.int IntKind.i64 ↑m, Value.int IntKind.i64 ↑k, Value.int IntKind.i64 ↑i, Value.int IntKind.i64 ↑k, Value.bool true, fx 7, fx 0, fx 1, fx 2, fx 3, fx 4, fx 5, fx 6, ndV r, fx 9, undef, undef, undef, undef, undef, undef, undef, undef, undef, undef, undef, undef, undef, undef, undef, undef, undef, undef, undef, undef, undef, undef, undef, undef, undef, undef, undef, undef, undef, undef, undef, undef, undef, undef, undef, undef, undef, undef] []; rw [h7] <;> rfl, ⟨hC.1, fun a b => hC.2 a b⟩, rfl, fun _ _ _ _ _ h => h⟩
          · have h7 : fx 7 = Value.tuple #[ndV r, .int .i64 e0] := hd.1 rfl
            go_wp2_with fail
            exact ⟨_, by show _ = Act.mk #[Value.agg (ndC nd).toArray, Value.int IntKind.i64 ↑i, Value.int IntKind.i64 ↑m, Value.slice (some { block := g, off := off }) n c, Value.pointer (some { block := w.heap.size, off := 0 }), undef, undef, undef, Value.pointer (some { block := w.heap.size + 1, off := 0 }), Value.int IntKind.i64 0, Value.int IntKind.i64 ↑l, Value.int IntKind.i64 ↑k, fx 10, fx 12, undef, undef, Value.int IntKind.i64 ↑m, Value.bool false, undef, Value.slice (some { block := g, off := off }) n c, Value.int IntKind.i64 ↑n, Value.int IntKind.i64 ↑l, Value.int IntKind.i64 ↑m, Value.int IntKind.i64 ↑k, Value.int IntKind.i64 ↑i, Value.int IntKind.i64 ↑k, Value.bool true, fx 7, fx 0, fx 1, fx 2, fx 3, fx 4, fx 5, fx 6, fx 8, Value.int .i64 (e0), undef, undef, undef, undef, undef, undef, undef, undef, undef, undef, undef, undef, undef, undef, undef, undef, undef, undef, undef, undef, undef, undef, undef, undef, undef, undef, undef, undef, undef, undef, undef, undef, undef, undef, undef, undef, undef, undef] []; rw [h7] <;> rfl, ⟨hC.1, fun a b => hC.2 a b⟩, rfl, fun _ _ _ _ _ h => h⟩
          · go_wp2_with fail
            rw [← zeroN_cells]
            have hbb : Below w'.heap.size w' (w'.alloc (.cells (ndC zeroN).toArray 26)) := (Below.refl _ _).alloc (Nat.le_refl _) _
            exact ⟨_, rfl, ⟨hC.1.trans (hbb.mono hC.1.size), fun _ _ => ⟨_, rfl, hC.1.size, heap_alloc_new _ _⟩⟩, trivial, fun j v t _ _ h => wC6_below hbb j v t h⟩
          · have H10 := Lib.hid (hd.1 rfl)
            have h8 : fx 8 = ndV r := hd.2.1 rfl
            obtain ⟨q, h10, hq, hrow⟩ := hC.2 (hdn 10 (by kernel_rfl)) hi
            refine wpList_store_row rfl 26 (.tmp 12) (.tmp 35) rfl q (ndC r).toArray h10 h8 26 _ hrow HS1.out HS2.out (ndC_one _) ?_
            clear hd
            go_wp2_with fail
            exact ⟨undef, by rw [← h10, ← h8]; rfl, ⟨below_setRow hC.1 hq _, fun _ h => (updB_self h).elim⟩, ⟨q, h10, hq, setRow_heap _ _ _ _ _ _ hrow⟩, fun j v t hj _ h => by
            by_cases e : j = 10
            · subst e; trivial
            · exact wC6_pure j v t e (fun e => by subst e; rw [hi] at hj; cases hj) h⟩
          · have h9 : fx 9 = Value.int .i64 (e0) := hd.1 rfl
            go_wp2_with fail
            exact ⟨_, by show _ = Act.mk #[Value.agg (ndC nd).toArray, Value.int IntKind.i64 ↑i, Value.int IntKind.i64 ↑m, Value.slice (some { block := g, off := off }) n c, Value.pointer (some { block := w.heap.size, off := 0 }), undef, undef, undef, Value.pointer (some { block := w.heap.size + 1, off := 0 }), Value.int IntKind.i64 0, Value.int IntKind.i64 ↑l, Value.int IntKind.i64 ↑k, fx 10, Value.int .i64 (e0), undef, undef, Value.int IntKind.i64 ↑m, Value.bool false, undef, Value.slice (some { block := g, off := off }) n c, Value.int IntKind.i64 ↑n, Value.int IntKind.i64 ↑l, Value.int IntKind.i64 ↑m, Value.int IntKind.i64 ↑k, Value.int IntKind.i64 ↑i, Value.int IntKind.i64 ↑k, Value.bool true, fx 7, fx 0, fx 1, fx 2, fx 3, fx 4, fx 5, fx 6, fx 8, fx 9, undef, undef, undef, undef, undef, undef, undef, undef, undef, undef, undef, undef, undef, undef, undef, undef, undef, undef, undef, undef, undef, undef, undef, undef, undef, undef, undef, undef, undef, undef, undef, undef, undef, undef, undef, undef, undef, undef] []; rw [h9] <;> rfl, ⟨hC.1, fun a b => hC.2 a b⟩, rfl, fun _ _ _ _ _ h => h⟩
        · intro L fo w' hC hS
          have H11 := Lib.hid (hS 11 (by decide) rfl)
          have H12 := Lib.hid (hS 12 (by decide) rfl)
          obtain ⟨q, e14, hq, hrow⟩ := H11.out
          have hel : fo 12 = .int .i64 e0 := H12.out
          have HBW := Lib.hid hC.1
          have HQR := Lib.hid hrow
          have HQM := Lib.hid hq
          replace e14 : fo 10 = _ := e14
          rw [e14, hel]
          clear hS hC H11 H12 hrow hel e14 hq
          have R5w := Lib.hid (row_kept R5.out HBW.out)
          have HIw := Lib.hid (HI1.out.below HBW.out)
          have HBX := Lib.hid (HB1.out.trans (HBW.out.mono HB1.out.size))
          obtain ⟨W2, HW2⟩ : ∃ W2, W2 = w' := ⟨_, rfl⟩
          subst HW2
          cases hO : O with
          | none =>
            have HE4 : Hid (e0 = 410) := Lib.hid (by rw [← HE0'.out, hO]; rfl)
            have HFE := Lib.hid (cl_none (f := stepN true p) hO)
            rw [HE4.out]
            go_wp2_with (first | (refine wpList_zero_nd rfl ?_) | (refine wpList_store_row rfl 26 (.tmp 8) (.tmp 39) rfl (w.heap.size + 1) (ndC zeroN).toArray rfl rfl 26 _ R5w.out HSZ.out rfl (ndC_one zeroN) ?_))
            have hr := setRow_heap W2 (w.heap.size + 1) _ (ndC zeroN).toArray _ _ R5w.out
            have hl := run_loadVar_row (P := Tryd.prog) (W2.setRow (w.heap.size + 1) (ndC zeroN).toArray) (w.heap.size + 1) 26 26 (ndC zeroN).toArray (0, 0) _ hr Tryd.underlying26 rfl HSZ.out
            refine bodyPost_ret (v := .tuple #[ndV zeroN, .int .i64 410]) ?_ rfl ⟨by rw [HCL.out, HFE.out.1, HFE.out.2], below_setRow HBX.out (Nat.le_succ _) _⟩
            unfold ndV
            simp [results, Tryd.results44, asAddr, hl]
          | some x =>
            have HE4 : Hid (e0 = 0) := Lib.hid (by rw [← HE0'.out, hO]; rfl)
            have HRX : Hid (r = x) := Lib.hid (by rw [← HRe.out, hO]; rfl)
            have HFE0 := Lib.hid (cl_someL (p := p) hO)
            rw [HE4.out]
            obtain ⟨jn, HJN⟩ : ∃ j, Hid (joinR x p = j) := ⟨_, Lib.hid rfl⟩
            obtain ⟨je, HJE⟩ : ∃ j, Hid (joinE x p = j) := ⟨_, Lib.hid rfl⟩
            have HJ1 : Hid (joinR r p = jn) := Lib.hid (by rw [HRX.out]; exact HJN.out)
            have HJ2 : Hid (joinE r p = je) := Lib.hid (by rw [HRX.out]; exact HJE.out)
            have HFE : Hid (clR (climbF (dirsN i m).reverse ps nd) = jn ∧ clE (climbF (dirsN i m).reverse ps nd) = je) := Lib.hid (by rw [HCL.out, HFE0.out.1, HFE0.out.2]; exact ⟨HJN.out, HJE.out⟩)
            have HJO : Hid (NdOk jn) := Lib.hid (by rw [← HJ1.out]; exact joinR_okR HRO.out HPO.out)
            have HSJ : Hid ((Tryd.prog.info? 26).map (·.size) = some (ndC jn).toArray.size) := Lib.hid (by rw [size34 HJO.out]; simp)
            have HSJ2 : Hid (34 = (ndC jn).toArray.size) := Lib.hid (by simp [ndC_length HJO.out])
            have HGW : Hid (g < W2.heap.size) := Lib.hid (Nat.lt_of_lt_of_le HG1.out HBW.out.size)
            have HRP : Hid (W2.rangeAt g (off + l * 34) (ndC p)) := Lib.hid (rangeAt_below HRP1.out HG1.out HBW.out)
            have hln : l < n := by omega
            have hln2 : decide (l < n) = true := decide_eq_true hln
            go_wp2_with fail
            refine region_flow3 (by kernel_rfl) (by kernel_rfl) (fun i => Nat.beq i 8 || Nat.beq i 9) (fun i => i) (by kernel_rfl) (fun fx => #[Value.agg (ndC nd).toArray, Value.int IntKind.i64 ↑i, Value.int IntKind.i64 ↑m, Value.slice (some { block := g, off := off }) n c, Value.pointer (some { block := w.heap.size, off := 0 }), undef, undef, undef, Value.pointer (some { block := w.heap.size + 1, off := 0 }), fx 9, Value.int IntKind.i64 ↑l, Value.int IntKind.i64 ↑k, Value.pointer (some { block := q, off := 0 }), Value.int IntKind.i64 0, undef, undef, Value.int IntKind.i64 ↑m, Value.bool false, undef, Value.slice (some { block := g, off := off }) n c, Value.int IntKind.i64 ↑n, Value.int IntKind.i64 ↑l, Value.int IntKind.i64 ↑m, Value.int IntKind.i64 ↑k, Value.int IntKind.i64 ↑i, Value.int IntKind.i64 ↑k, Value.bool true, fo 7, fo 0, fo 1, fo 2, fo 3, fo 4, fo 5, fo 6, fo 8, fo 9, Value.int IntKind.i64 0, Value.bool false, undef, undef, fx 0, fx 1, fx 2, fx 3, fx 4, fx 5, fx 6, fx 7, undef, undef, undef, undef, undef, undef, undef, undef, undef, undef, undef, undef, undef, undef, undef, undef, undef, undef, undef, undef, undef, undef, undef, undef, undef, undef]) (fun i => bif Nat.beq i 9 then Value.int IntKind.i64 0 else undef) (fun L fx w' => (L 8 = false → Below W2.heap.size W2 w')) (fun fi fv _ fw => wC9 w (w.heap.size + 1) g off n c l r p jn je fi fv fw) (fun _ => (Below.refl _ _).drew) ?_ ?_
            · refine ⟨?_, ?_, ?_, ?_, ?_, ?_, ?_, ?_, ?_, ?_, trivial⟩
              all_goals intro L fx w' hC hi hcl hdn hd
              · have hnd : L 8 = false := Bool.eq_false_iff.2 (fun h => by have := (hcl 5 0 (hcl 6 5 (hcl 8 6 h (by kernel_rfl)) (by kernel_rfl)) (by kernel_rfl)); rw [hi] at this; cases this)
                have hrow := row_kept HQR.out (hC hnd)
                refine wpList_load_row rfl 26 (.tmp 12) rfl q rfl 26 _ (0, 0) _ hrow Tryd.underlying26 rfl (size34' HRO.out) ?_
                clear hd
                go_wp2_with fail
                exact ⟨_, rfl, fun _ => hC hnd, rfl, fun _ _ _ _ _ h => h⟩
              · have hnd : L 8 = false := Bool.eq_false_iff.2 (fun h => by have := (hcl 3 1 (hcl 4 3 (hcl 5 4 (hcl 6 5 (hcl 8 6 h (by kernel_rfl)) (by kernel_rfl)) (by kernel_rfl)) (by kernel_rfl)) (by kernel_rfl)); rw [hi] at this; cases this)
                go_wp2_with fail
                exact ⟨_, rfl, (fun _ => hC hnd), rfl, fun _ _ _ _ _ h => h⟩
              · have hnd : L 8 = false := Bool.eq_false_iff.2 (fun h => by have := (hcl 3 2 (hcl 4 3 (hcl 5 4 (hcl 6 5 (hcl 8 6 h (by kernel_rfl)) (by kernel_rfl)) (by kernel_rfl)) (by kernel_rfl)) (by kernel_rfl)); rw [hi] at this; cases this)
                go_wp2_with fail
                exact ⟨_, rfl, (fun _ => hC hnd), rfl, fun _ _ _ _ _ h => h⟩
              · have h1 : fx 1 = Value.slice (some ⟨g, off, none⟩) n c := hd.1 rfl
                have h2 : fx 2 = Value.int .i64 ((l : Nat)) := hd.2.1 rfl
                have hnd : L 8 = false := Bool.eq_false_iff.2 (fun h => by have := (hcl 4 3 (hcl 5 4 (hcl 6 5 (hcl 8 6 h (by kernel_rfl)) (by kernel_rfl)) (by kernel_rfl)) (by kernel_rfl)); rw [hi] at this; cases this)
                go_wp2_with fail
                exact ⟨_, by show _ = Act.mk #[Value.agg (ndC nd).toArray, Value.int IntKind.i64 ↑i, Value.int IntKind.i64 ↑m, Value.slice (some { block := g, off := off }) n c, Value.pointer (some { block := w.heap.size, off := 0 }), undef, undef, undef, Value.pointer (some { block := w.heap.size + 1, off := 0 }), fx 9, Value.int IntKind.i64 ↑l, Value.int IntKind.i64 ↑k, Value.pointer (some { block := q, off := 0 }), Value.int IntKind.i64 0, undef, undef, Value.int IntKind.i64 ↑m, Value.bool false, undef, Value.slice (some { block := g, off := off }) n c, Value.int IntKind.i64 ↑n, Value.int IntKind.i64 ↑l, Value.int IntKind.i64 ↑m, Value.int IntKind.i64 ↑k, Value.int IntKind.i64 ↑i, Value.int IntKind.i64 ↑k, Value.bool true, fo 7, fo 0, fo 1, fo 2, fo 3, fo 4, fo 5, fo 6, fo 8, fo 9, Value.int IntKind.i64 0, Value.bool false, undef, undef, fx 0, fx 1, fx 2, Value.pointer (some ⟨g, off + l * 34, none⟩), fx 4, fx 5, fx 6, fx 7, undef, undef, undef, undef, undef, undef, undef, undef, undef, undef, undef, undef, undef, undef, undef, undef, undef, undef, undef, undef, undef, undef, undef, undef, undef, undef] []; rw [h1, h2] <;> rfl, (fun _ => hC hnd), rfl, fun _ _ _ _ _ h => h⟩
              · have h3 : fx 3 = Value.pointer (some ⟨g, off + l * 34, none⟩) := hd.1 rfl
                have hnd : L 8 = false := Bool.eq_false_iff.2 (fun h => by have := (hcl 5 4 (hcl 6 5 (hcl 8 6 h (by kernel_rfl)) (by kernel_rfl)) (by kernel_rfl)); rw [hi] at this; cases this)
                have hrp := rangeAt_below HRP.out HGW.out (hC hnd)
                refine wpList_load_mid rfl 26 (.tmp 44) rfl g (off + l * 34) h3 (ndC p) _ hrp Tryd.underlying26 rfl (size34 HPO.out) ?_
                clear hd
                go_wp2_with fail
                exact ⟨_, by show _ = Act.mk #[Value.agg (ndC nd).toArray, Value.int IntKind.i64 ↑i, Value.int IntKind.i64 ↑m, Value.slice (some { block := g, off := off }) n c, Value.pointer (some { block := w.heap.size, off := 0 }), undef, undef, undef, Value.pointer (some { block := w.heap.size + 1, off := 0 }), fx 9, Value.int IntKind.i64 ↑l, Value.int IntKind.i64 ↑k, Value.pointer (some { block := q, off := 0 }), Value.int IntKind.i64 0, undef, undef, Value.int IntKind.i64 ↑m, Value.bool false, undef, Value.slice (some { block := g, off := off }) n c, Value.int IntKind.i64 ↑n, Value.int IntKind.i64 ↑l, Value.int IntKind.i64 ↑m, Value.int IntKind.i64 ↑k, Value.int IntKind.i64 ↑i, Value.int IntKind.i64 ↑k, Value.bool true, fo 7, fo 0, fo 1, fo 2, fo 3, fo 4, fo 5, fo 6, fo 8, fo 9, Value.int IntKind.i64 0, Value.bool false, undef, undef, fx 0, fx 1, fx 2, fx 3, ndV p, fx 5, fx 6, fx 7, undef, undef, undef, undef, undef, undef, undef, undef, undef, undef, undef, undef, undef, undef, undef, undef, undef, undef, undef, undef, undef, undef, undef, undef, undef, undef] []; rw [h3] <;> rfl, fun _ => hC hnd, rfl, fun _ _ _ _ _ h => h⟩
              · have h0 : fx 0 = ndV r := hd.1 rfl
                have h4 : fx 4 = ndV p := hd.2.1 rfl
                have hnd : L 8 = false := Bool.eq_false_iff.2 (fun h => by have := (hcl 6 5 (hcl 8 6 h (by kernel_rfl)) (by kernel_rfl)); rw [hi] at this; cases this)
                have hb12 := hC hnd
                go_wp2_with fail
                refine (rjoin_any r p w' HRO.out HPO.out).mono ?_
                rintro e w2 ⟨rfl, hq⟩
                rw [HJ1.out, HJ2.out]
                go_wp2_with fail
                exact ⟨_, by show _ = Act.mk #[Value.agg (ndC nd).toArray, Value.int IntKind.i64 ↑i, Value.int IntKind.i64 ↑m, Value.slice (some { block := g, off := off }) n c, Value.pointer (some { block := w.heap.size, off := 0 }), undef, undef, undef, Value.pointer (some { block := w.heap.size + 1, off := 0 }), fx 9, Value.int IntKind.i64 ↑l, Value.int IntKind.i64 ↑k, Value.pointer (some { block := q, off := 0 }), Value.int IntKind.i64 0, undef, undef, Value.int IntKind.i64 ↑m, Value.bool false, undef, Value.slice (some { block := g, off := off }) n c, Value.int IntKind.i64 ↑n, Value.int IntKind.i64 ↑l, Value.int IntKind.i64 ↑m, Value.int IntKind.i64 ↑k, Value.int IntKind.i64 ↑i, Value.int IntKind.i64 ↑k, Value.bool true, fo 7, fo 0, fo 1, fo 2, fo 3, fo 4, fo 5, fo 6, fo 8, fo 9, Value.int IntKind.i64 0, Value.bool false, undef, undef, fx 0, fx 1, fx 2, fx 3, fx 4, Value.tuple #[ndV jn, .int .i64 je], fx 6, fx 7, undef, undef, undef, undef, undef, undef, undef, undef, undef, undef, undef, undef, undef, undef, undef, undef, undef, undef, undef, undef, undef, undef, undef, undef, undef, undef] []; rw [h0, h4] <;> rfl, fun _ => hb12.trans (hq.mono hb12.size), rfl, fun j v t _ _ h => wC9_below hq j v h⟩
              · have h5 : fx 5 = Value.tuple #[ndV jn, .int .i64 je] := hd.1 rfl
                have hnd : L 8 = false := Bool.eq_false_iff.2 (fun h => by have := (hcl 8 6 h (by kernel_rfl)); rw [hi] at this; cases this)
                go_wp2_with fail
                exact ⟨_, by show _ = Act.mk #[Value.agg (ndC nd).toArray, Value.int IntKind.i64 ↑i, Value.int IntKind.i64 ↑m, Value.slice (some { block := g, off := off }) n c, Value.pointer (some { block := w.heap.size, off := 0 }), undef, undef, undef, Value.pointer (some { block := w.heap.size + 1, off := 0 }), fx 9, Value.int IntKind.i64 ↑l, Value.int IntKind.i64 ↑k, Value.pointer (some { block := q, off := 0 }), Value.int IntKind.i64 0, undef, undef, Value.int IntKind.i64 ↑m, Value.bool false, undef, Value.slice (some { block := g, off := off }) n c, Value.int IntKind.i64 ↑n, Value.int IntKind.i64 ↑l, Value.int IntKind.i64 ↑m, Value.int IntKind.i64 ↑k, Value.int IntKind.i64 ↑i, Value.int IntKind.i64 ↑k, Value.bool true, fo 7, fo 0, fo 1, fo 2, fo 3, fo 4, fo 5, fo 6, fo 8, fo 9, Value.int IntKind.i64 0, Value.bool false, undef, undef, fx 0, fx 1, fx 2, fx 3, fx 4, fx 5, ndV jn, fx 7, undef, undef, undef, undef, undef, undef, undef, undef, undef, undef, undef, undef, undef, undef, undef, undef, undef, undef, undef, undef, undef, undef, undef, undef, undef, undef] []; rw [h5] <;> rfl, (fun _ => hC hnd), rfl, fun _ _ _ _ _ h => h⟩
              · have h5 : fx 5 = Value.tuple #[ndV jn, .int .i64 je] := hd.1 rfl
                go_wp2_with fail
                exact ⟨_, by show _ = Act.mk #[Value.agg (ndC nd).toArray, Value.int IntKind.i64 ↑i, Value.int IntKind.i64 ↑m, Value.slice (some { block := g, off := off }) n c, Value.pointer (some { block := w.heap.size, off := 0 }), undef, undef, undef, Value.pointer (some { block := w.heap.size + 1, off := 0 }), fx 9, Value.int IntKind.i64 ↑l, Value.int IntKind.i64 ↑k, Value.pointer (some { block := q, off := 0 }), Value.int IntKind.i64 0, undef, undef, Value.int IntKind.i64 ↑m, Value.bool false, undef, Value.slice (some { block := g, off := off }) n c, Value.int IntKind.i64 ↑n, Value.int IntKind.i64 ↑l, Value.int IntKind.i64 ↑m, Value.int IntKind.i64 ↑k, Value.int IntKind.i64 ↑i, Value.int IntKind.i64 ↑k, Value.bool true, fo 7, fo 0, fo 1, fo 2, fo 3, fo 4, fo 5, fo 6, fo 8, fo 9, Value.int IntKind.i64 0, Value.bool false, undef, undef, fx 0, fx 1, fx 2, fx 3, fx 4, fx 5, fx 6, Value.int .i64 (je), undef, undef, undef, undef, undef, undef, undef, undef, undef, undef, undef, undef, undef, undef, undef, undef, undef, undef, undef, undef, undef, undef, undef, undef, undef, undef] []; rw [h5] <;> rfl, fun h => hC h, rfl, fun _ _ _ _ _ h => h⟩
              · have h6 : fx 6 = ndV jn := hd.1 rfl
                have hb21 := hC hi
                have hrow := row_kept R5w.out hb21
                refine wpList_store_row rfl 26 (.tmp 8) (.tmp 47) rfl (w.heap.size + 1) (ndC jn).toArray rfl h6 26 _ hrow HSJ.out HSJ2.out (ndC_one _) ?_
                clear hd
                go_wp2_with fail
                refine ⟨undef, by rw [← h6]; rfl, fun h => (updB_self h).elim, ⟨setRow_heap _ _ _ _ _ _ hrow, below_setRow (HBX.out.trans (hb21.mono HBX.out.size)) (Nat.le_succ _) _⟩, fun j v t hj hu h => ?_⟩
                refine wC9_pure j v ?_ h
                intro e
                subst e
                rw [hi] at hj; cases hj
              · have h7 : fx 7 = Value.int .i64 (je) := hd.1 rfl
                go_wp2_with fail
                exact ⟨_, by show _ = Act.mk #[Value.agg (ndC nd).toArray, Value.int IntKind.i64 ↑i, Value.int IntKind.i64 ↑m, Value.slice (some { block := g, off := off }) n c, Value.pointer (some { block := w.heap.size, off := 0 }), undef, undef, undef, Value.pointer (some { block := w.heap.size + 1, off := 0 }), Value.int .i64 (je), Value.int IntKind.i64 ↑l, Value.int IntKind.i64 ↑k, Value.pointer (some { block := q, off := 0 }), Value.int IntKind.i64 0, undef, undef, Value.int IntKind.i64 ↑m, Value.bool false, undef, Value.slice (some { block := g, off := off }) n c, Value.int IntKind.i64 ↑n, Value.int IntKind.i64 ↑l, Value.int IntKind.i64 ↑m, Value.int IntKind.i64 ↑k, Value.int IntKind.i64 ↑i, Value.int IntKind.i64 ↑k, Value.bool true, fo 7, fo 0, fo 1, fo 2, fo 3, fo 4, fo 5, fo 6, fo 8, fo 9, Value.int IntKind.i64 0, Value.bool false, undef, undef, fx 0, fx 1, fx 2, fx 3, fx 4, fx 5, fx 6, fx 7, undef, undef, undef, undef, undef, undef, undef, undef, undef, undef, undef, undef, undef, undef, undef, undef, undef, undef, undef, undef, undef, undef, undef, undef, undef, undef] []; rw [h7] <;> rfl, fun h => hC h, rfl, fun _ _ _ _ _ h => h⟩
            · intro L fo2 w' hC hS
              have H8 := Lib.hid (hS 8 (by decide) rfl)
              have H9 := Lib.hid (hS 9 (by decide) rfl)
              have h9e : fo2 9 = .int .i64 je := H9.out
              rw [h9e]
              clear hS h9e H9 hC
              go_wp2_with fail
              have hl := run_loadVar_row (P := Tryd.prog) w' (w.heap.size + 1) 26 26 (ndC jn).toArray (0, 0) _ H8.out.1 Tryd.underlying26 rfl HSJ.out
              refine bodyPost_ret (v := .tuple #[ndV jn, .int .i64 je]) ?_ rfl ⟨by rw [HFE.out.1, HFE.out.2], H8.out.2⟩
              unfold ndV
              simp [results, Tryd.results44, asAddr, hl]
      · have d2' : decide ((i : Int) < (k : Int)) = false := decide_eq_false (by omega)
        have d3 : decide (i < k) = false := decide_eq_false hik
        obtain ⟨d, HD⟩ : ∃ d : Nat, Hid (i - k = d) := ⟨_, Lib.hid rfl⟩
        obtain ⟨d2, HD2⟩ : ∃ d : Nat, Hid (m - k = d) := ⟨_, Lib.hid rfl⟩
        have HWD : Hid (IntKind.i64.wrap ((i : Int) - (k : Int)) = (d : Int)) := Lib.hid (by rw [IntWalk.i64_in _ (by omega), ← HD.out]; omega)
        have HWD2 : Hid (IntKind.i64.wrap ((m : Int) - (k : Int)) = (d2 : Int)) := Lib.hid (by rw [IntWalk.i64_in _ (by omega), ← HD2.out]; omega)
        have hdd : d2 ≤ f ∧ 1 ≤ d2 ∧ d2 ≤ 4096 ∧ d < d2 := by rw [← HD2.out, ← HD.out]; omega
        have HN2 : Hid ((dirsN d d2).length = l) := Lib.hid (by have h := HNL.out; rw [dirsN_right h2 (by rw [HK.out]; exact hik), HK.out, HD.out, HD2.out, List.length_cons] at h; omega)
        have HCL : Hid (climbF (dirsN i m).reverse ps nd = (climbF (dirsN d d2).reverse (ps.take l) nd).bind (stepN false p)) := Lib.hid (by
          rw [← HD.out, ← HD2.out, ← HK.out]
          conv => lhs; rw [HPS.out]
          exact cl_right h2 (by rw [HK.out]; exact hik) (by rw [HK.out, HD.out, HD2.out, HN2.out, HTL.out]))
        obtain ⟨O, HO⟩ : ∃ O, Hid (climbF (dirsN d d2).reverse (ps.take l) nd = O) := ⟨_, Lib.hid rfl⟩
        rw [HO.out] at HCL
        obtain ⟨r, HRe⟩ : ∃ r, Hid (clR O = r) := ⟨_, Lib.hid rfl⟩
        obtain ⟨e0, HE0⟩ : ∃ e, Hid (clE O = e) := ⟨_, Lib.hid rfl⟩
        have HR : Hid (clR (climbF (dirsN d d2).reverse (ps.take l) nd) = r) := Lib.hid (by rw [HO.out]; exact HRe.out)
        have HE0' := HE0
        have HE0 : Hid (clE (climbF (dirsN d d2).reverse (ps.take l) nd) = e0) := Lib.hid (by rw [HO.out]; exact HE0'.out)
        have HRO : Hid (NdOk r) := Lib.hid (by rw [← HR.out]; exact clR_ok HND.out (fun x hx => HI1.out.ok x (List.mem_of_mem_take hx)))
        have HS1 : Hid ((Tryd.prog.info? 26).map (·.size) = some (ndC r).toArray.size) := Lib.hid (by rw [size34 HRO.out]; simp)
        have HS2 : Hid (34 = (ndC r).toArray.size) := Lib.hid (by simp [ndC_length HRO.out])
        go_wp2_with fail
        refine region_flow3 (by kernel_rfl) (by kernel_rfl) (fun i => Nat.beq i 15 || Nat.beq i 16) (fun i => bif Nat.beq i 15 then 14 else i) (by kernel_rfl) (fun fx => #[Value.agg (ndC nd).toArray, Value.int IntKind.i64 ↑i, Value.int IntKind.i64 ↑m, Value.slice (some { block := g, off := off }) n c, Value.pointer (some { block := w.heap.size, off := 0 }), undef, undef, undef, Value.pointer (some { block := w.heap.size + 1, off := 0 }), Value.int IntKind.i64 0, Value.int IntKind.i64 ↑l, Value.int IntKind.i64 ↑k, undef, undef, fx 14, fx 16, Value.int IntKind.i64 ↑m, Value.bool false, undef, Value.slice (some { block := g, off := off }) n c, Value.int IntKind.i64 ↑n, Value.int IntKind.i64 ↑l, Value.int IntKind.i64 ↑m, Value.int IntKind.i64 ↑k, Value.int IntKind.i64 ↑i, Value.int IntKind.i64 ↑k, Value.bool false, undef, undef, undef, undef, undef, undef, undef, undef, undef, undef, undef, undef, undef, undef, undef, undef, undef, undef, undef, undef, undef, undef, fx 11, fx 0, fx 1, fx 2, fx 3, fx 4, fx 5, fx 6, fx 7, fx 8, fx 9, fx 10, fx 12, fx 13, undef, undef, undef, undef, undef, undef, undef, undef, undef, undef, undef, undef]) (fun _ => undef) (fun L fx w' => Below W1.heap.size W1 w' ∧ (L 14 = true → L 15 = false → NewN W1.heap.size (fx 14) w')) (fun fi fv fu fw => wC10 W1.heap.size nd g off n c i k m d d2 l r e0 fi fv fu fw) ⟨(Below.refl _ _).drew, fun h => by cases h⟩ ?_ ?_
        · refine ⟨?_, ?_, ?_, ?_, ?_, ?_, ?_, ?_, ?_, ?_, ?_, ?_, ?_, ?_, ?_, ?_, ?_, trivial⟩
          all_goals intro L fx w' hC hi hcl hdn hd
          · have hrow := row_kept R4.out hC.1
            refine wpList_load_row rfl 26 (.tmp 4) rfl w.heap.size rfl 26 _ (0, 0) _ hrow Tryd.underlying26 rfl (size34' HND.out) ?_
            clear hd
            go_wp2_with fail
            exact ⟨_, rfl, ⟨hC.1, fun a b => hC.2 a b⟩, rfl, fun _ _ _ _ _ h => h⟩
          · go_wp2_with fail
            exact ⟨_, rfl, ⟨hC.1, fun a b => hC.2 a b⟩, rfl, fun _ _ _ _ _ h => h⟩
          · go_wp2_with fail
            exact ⟨_, rfl, ⟨hC.1, fun a b => hC.2 a b⟩, rfl, fun _ _ _ _ _ h => h⟩
          · have h1 : fx 1 = Value.int .i64 ((i : Nat)) := hd.1 rfl
            have h2 : fx 2 = Value.int .i64 ((k : Nat)) := hd.2.1 rfl
            have hw := HWD.out
            go_wp2_with fail
            exact ⟨_, by show _ = Act.mk #[Value.agg (ndC nd).toArray, Value.int IntKind.i64 ↑i, Value.int IntKind.i64 ↑m, Value.slice (some { block := g, off := off }) n c, Value.pointer (some { block := w.heap.size, off := 0 }), undef, undef, undef, Value.pointer (some { block := w.heap.size + 1, off := 0 }), Value.int IntKind.i64 0, Value.int IntKind.i64 ↑l, Value.int IntKind.i64 ↑k, undef, undef, fx 14, fx 16, Value.int IntKind.i64 ↑m, Value.bool false, undef, Value.slice (some { block := g, off := off }) n c, Value.int IntKind.i64 ↑n, Value.int IntKind.i64 ↑l, Value.int IntKind.i64 ↑m, Value.int IntKind.i64 ↑k, Value.int IntKind.i64 ↑i, Value.int IntKind.i64 ↑k, Value.bool false, undef, undef, undef, undef, undef, undef, undef, undef, undef, undef, undef, undef, undef, undef, undef, undef, undef, undef, undef, undef, undef, undef, fx 11, fx 0, fx 1, fx 2, Value.int .i64 ((d : Nat)), fx 4, fx 5, fx 6, fx 7, fx 8, fx 9, fx 10, fx 12, fx 13, undef, undef, undef, undef, undef, undef, undef, undef, undef, undef, undef, undef] []; rw [h1, h2] <;> rfl, ⟨hC.1, fun a b => hC.2 a b⟩, rfl, fun _ _ _ _ _ h => h⟩
          · go_wp2_with fail
            exact ⟨_, rfl, ⟨hC.1, fun a b => hC.2 a b⟩, rfl, fun _ _ _ _ _ h => h⟩
          · go_wp2_with fail
            exact ⟨_, rfl, ⟨hC.1, fun a b => hC.2 a b⟩, rfl, fun _ _ _ _ _ h => h⟩
          · have h4 : fx 4 = Value.int .i64 ((m : Nat)) := hd.1 rfl
            have h5 : fx 5 = Value.int .i64 ((k : Nat)) := hd.2.1 rfl
            have hw := HWD2.out
            go_wp2_with fail
            exact ⟨_, by show _ = Act.mk #[Value.agg (ndC nd).toArray, Value.int IntKind.i64 ↑i, Value.int IntKind.i64 ↑m, Value.slice (some { block := g, off := off }) n c, Value.pointer (some { block := w.heap.size, off := 0 }), undef, undef, undef, Value.pointer (some { block := w.heap.size + 1, off := 0 }), Value.int IntKind.i64 0, Value.int IntKind.i64 ↑l, Value.int IntKind.i64 ↑k, undef, undef, fx 14, fx 16, Value.int IntKind.i64 ↑m, Value.bool false, undef, Value.slice (some { block := g, off := off }) n c, Value.int IntKind.i64 ↑n, Value.int IntKind.i64 ↑l, Value.int IntKind.i64 ↑m, Value.int IntKind.i64 ↑k, Value.int IntKind.i64 ↑i, Value.int IntKind.i64 ↑k, Value.bool false, undef, undef, undef, undef, undef, undef, undef, undef, undef, undef, undef, undef, undef, undef, undef, undef, undef, undef, undef, undef, undef, undef, fx 11, fx 0, fx 1, fx 2, fx 3, fx 4, fx 5, Value.int .i64 ((d2 : Nat)), fx 7, fx 8, fx 9, fx 10, fx 12, fx 13, undef, undef, undef, undef, undef, undef, undef, undef, undef, undef, undef, undef] []; rw [h4, h5] <;> rfl, ⟨hC.1, fun a b => hC.2 a b⟩, rfl, fun _ _ _ _ _ h => h⟩
          · go_wp2_with fail
            exact ⟨_, rfl, ⟨hC.1, fun a b => hC.2 a b⟩, rfl, fun _ _ _ _ _ h => h⟩
          · go_wp2_with fail
            exact ⟨_, rfl, ⟨hC.1, fun a b => hC.2 a b⟩, rfl, fun _ _ _ _ _ h => h⟩
          · have h7 : fx 7 = Value.slice (some ⟨g, off, none⟩) n c := hd.1 rfl
            have h8 : fx 8 = Value.int .i64 ((l : Nat)) := hd.2.1 rfl
            go_wp2_with fail
            exact ⟨_, by show _ = Act.mk #[Value.agg (ndC nd).toArray, Value.int IntKind.i64 ↑i, Value.int IntKind.i64 ↑m, Value.slice (some { block := g, off := off }) n c, Value.pointer (some { block := w.heap.size, off := 0 }), undef, undef, undef, Value.pointer (some { block := w.heap.size + 1, off := 0 }), Value.int IntKind.i64 0, Value.int IntKind.i64 ↑l, Value.int IntKind.i64 ↑k, undef, undef, fx 14, fx 16, Value.int IntKind.i64 ↑m, Value.bool false, undef, Value.slice (some { block := g, off := off }) n c, Value.int IntKind.i64 ↑n, Value.int IntKind.i64 ↑l, Value.int IntKind.i64 ↑m, Value.int IntKind.i64 ↑k, Value.int IntKind.i64 ↑i, Value.int IntKind.i64 ↑k, Value.bool false, undef, undef, undef, undef, undef, undef, undef, undef, undef, undef, undef, undef, undef, undef, undef, undef, undef, undef, undef, undef, undef, undef, fx 11, fx 0, fx 1, fx 2, fx 3, fx 4, fx 5, fx 6, fx 7, fx 8, Value.slice (some ⟨g, off, none⟩) l c, fx 10, fx 12, fx 13, undef, undef, undef, undef, undef, undef, undef, undef, undef, undef, undef, undef] []; rw [h7, h8] <;> rfl, ⟨hC.1, fun a b => hC.2 a b⟩, rfl, fun _ _ _ _ _ h => h⟩
          · have h0 : fx 0 = ndV nd := hd.1 rfl
            have h3 : fx 3 = Value.int .i64 ((d : Nat)) := hd.2.1 rfl
            have h6 : fx 6 = Value.int .i64 ((d2 : Nat)) := hd.2.2.1 rfl
            have h9 : fx 9 = Value.slice (some ⟨g, off, none⟩) l c := hd.2.2.2.1 rfl
            have HIk := Lib.hid (HIT.out.below hC.1)
            go_wp2_with fail
            refine (ih nd d d2 (ps.take l) _ l c w' (by omega) (by omega) (by omega) (by omega) (by have := HN2.out; exact this.symm) HIk HND HVN).mono ?_
            rintro e w2 ⟨rfl, hq⟩
            rw [HR.out, HE0.out]
            go_wp2_with fail
            exact ⟨_, by show _ = Act.mk #[Value.agg (ndC nd).toArray, Value.int IntKind.i64 ↑i, Value.int IntKind.i64 ↑m, Value.slice (some { block := g, off := off }) n c, Value.pointer (some { block := w.heap.size, off := 0 }), undef, undef, undef, Value.pointer (some { block := w.heap.size + 1, off := 0 }), Value.int IntKind.i64 0, Value.int IntKind.i64 ↑l, Value.int IntKind.i64 ↑k, undef, undef, fx 14, fx 16, Value.int IntKind.i64 ↑m, Value.bool false, undef, Value.slice (some { block := g, off := off }) n c, Value.int IntKind.i64 ↑n, Value.int IntKind.i64 ↑l, Value.int IntKind.i64 ↑m, Value.int IntKind.i64 ↑k, Value.int IntKind.i64 ↑i, Value.int IntKind.i64 ↑k, Value.bool false, undef, undef, undef, undef, undef, undef, undef, undef, undef, undef, undef, undef, undef, undef, undef, undef, undef, undef, undef, undef, undef, undef, fx 11, fx 0, fx 1, fx 2, fx 3, fx 4, fx 5, fx 6, fx 7, fx 8, fx 9, Value.tuple #[ndV r, .int .i64 e0], fx 12, fx 13, undef, undef, undef, undef, undef, undef, undef, undef, undef, undef, undef, undef] []; rw [h0, h3, h6, h9] <;> rfl, ⟨hC.1.trans (hq.mono hC.1.size), fun h14 h15 => (hC.2 h14 h15).below hq⟩, rfl, fun j v t _ _ h => wC10_below hq j v t h⟩
          · have h10 : fx 10 = Value.tuple #[ndV r, .int .i64 e0] := hd.1 rfl
            go_wp2_with fail
            exact ⟨_, by show _ = Act.mk #[Value.agg (ndC nd).toArray, Value.int IntKind.i64 ↑i, Value.int IntKind.i64 ↑m, Value.slice (some { block := g, off := off }) n c, Value.pointer (some { block := w.heap.size, off := 0 }), undef, undef, undef, Value.pointer (some { block := w.heap.size + 1, off := 0 }), Value.int IntKind.i64 0, Value.int IntKind.i64 ↑l, Value.int IntKind.i64 ↑k, undef, undef, fx 14, fx 16, Value.int IntKind.i64 ↑m, Value.bool false, undef, Value.slice (some { block := g, off := off }) n c, Value.int IntKind.i64 ↑n, Value.int IntKind.i64 ↑l, Value.int IntKind.i64 ↑m, Value.int IntKind.i64 ↑k, Value.int IntKind.i64 ↑i, Value.int IntKind.i64 ↑k, Value.bool false, undef, undef, undef, undef, undef, undef, undef, undef, undef, undef, undef, undef, undef, undef, undef, undef, undef, undef, undef, undef, undef, undef, Value.tuple #[ndV r, .int .i64 e0], fx 0, fx 1, fx 2, fx 3, fx 4, fx 5, fx 6, fx 7, fx 8, fx 9, fx 10, fx 12, fx 13, undef, undef, undef, undef, undef, undef, undef, undef, undef, undef, undef, undef] []; rw [h10] <;> rfl, ⟨hC.1, fun a b => hC.2 a b⟩, rfl, fun _ _ _ _ _ h => h⟩
          · have h11 : fx 11 = Value.tuple #[ndV r, .int .i64 e0] := hd.1 rfl
            go_wp2_with fail
            exact ⟨_, by show _ = Act.mk #[Value.agg (ndC nd).toArray, Value.int IntKind.i64 ↑i, Value.int IntKind.i64 ↑m, Value.slice (some { block := g, off := off }) n c, Value.pointer (some { block := w.heap.size, off := 0 }), undef, undef, undef, Value.pointer (some { block := w.heap.size + 1, off := 0 }), Value.int IntKind.i64 0, Value.int IntKind.i64 ↑l, Value.int IntKind.i64 ↑k, undef, undef, fx 14, fx 16, Value.int IntKind.i64 ↑m, Value.bool false, undef, Value.slice (some { block := g, off := off }) n c, Value.int IntKind.i64 ↑n, Value.int IntKind.i64 ↑l, Value.int IntKind.i64 ↑m, Value.int IntKind.i64 ↑k, Value.int IntKind.i64 ↑i, Value.int IntKind.i64 ↑k, Value.bool false, undef, undef, undef, undef, undef, undef, undef, undef, undef, undef, undef, undef, undef, undef, undef, undef, undef, undef, undef, undef, undef, undef, fx 11, fx 0, fx 1, fx 2, fx 3, fx 4, fx 5, fx 6, fx 7, fx 8, fx 9, fx 10, ndV r, fx 13, undef, undef, undef, undef, undef, undef, undef, undef, undef, undef, undef, undef] []; rw [h11] <;> rfl, ⟨hC.1, fun a b => hC.2 a b⟩, rfl, fun _ _ _ _ _ h => h⟩
          · have h11 : fx 11 = Value.tuple #[ndV r, .int .i64 e0] := hd.1 rfl
            go_wp2_with fail
            exact ⟨_, by show _ = Act.mk #[Value.agg (ndC nd).toArray, Value.int IntKind.i64 ↑i, Value.int IntKind.i64 ↑m, Value.slice (some { block := g, off := off }) n c, Value.pointer (some { block := w.heap.size, off := 0 }), undef, undef, undef, Value.pointer (some { block := w.heap.size + 1, off := 0 }), Value.int IntKind.i64 0, Value.int IntKind.i64 ↑l, Value.int IntKind.i64 ↑k, undef, undef, fx 14, fx 16, Value.int IntKind.i64 ↑m, Value.bool false, undef, Value.slice (some { block := g, off := off }) n c, Value.int IntKind.i64 ↑n, Value.int IntKind.i64 ↑l, Value.int IntKind.i64 ↑m, Value.int IntKind.i64 ↑k, Value.int IntKind.i64 ↑i, Value.int IntKind.i64 ↑k, Value.bool false, undef, undef, undef, undef, undef, undef, undef, undef, undef, undef, undef, undef, undef, undef, undef, undef, undef, undef, undef, undef, undef, undef, fx 11, fx 0, fx 1, fx 2, fx 3, fx 4, fx 5, fx 6, fx 7, fx 8, fx 9, fx 10, fx 12, Value.int .i64 (e0), undef, undef, undef, undef, undef, undef, undef, undef, undef, undef, undef, undef] []; rw [h11] <;> rfl, ⟨hC.1, fun a b => hC.2 a b⟩, rfl, fun _ _ _ _ _ h => h⟩
          · go_wp2_with fail
            rw [← zeroN_cells]
            have hbb : Below w'.heap.size w' (w'.alloc (.cells (ndC zeroN).toArray 26)) := (Below.refl _ _).alloc (Nat.le_refl _) _
            exact ⟨_, rfl, ⟨hC.1.trans (hbb.mono hC.1.size), fun _ _ => ⟨_, rfl, hC.1.size, heap_alloc_new _ _⟩⟩, trivial, fun j v t _ _ h => wC10_below hbb j v t h⟩
          · have H14 := Lib.hid (hd.1 rfl)
            have h12 : fx 12 = ndV r := hd.2.1 rfl
            obtain ⟨q, h14, hq, hrow⟩ := hC.2 (hdn 14 (by kernel_rfl)) hi
            refine wpList_store_row rfl 26 (.tmp 14) (.tmp 61) rfl q (ndC r).toArray h14 h12 26 _ hrow HS1.out HS2.out (ndC_one _) ?_
            clear hd
            go_wp2_with fail
            exact ⟨undef, by rw [← h14, ← h12]; rfl, ⟨below_setRow hC.1 hq _, fun _ h => (updB_self h).elim⟩, ⟨q, h14, hq, setRow_heap _ _ _ _ _ _ hrow⟩, fun j v t hj _ h => by
            by_cases e : j = 14
            · subst e; trivial
            · exact wC10_pure j v t e (fun e => by subst e; rw [hi] at hj; cases hj) h⟩
          · have h13 : fx 13 = Value.int .i64 (e0) := hd.1 rfl
            go_wp2_with fail
            exact ⟨_, by show _ = Act.mk #[Value.agg (ndC nd).toArray, Value.int IntKind.i64 ↑i, Value.int IntKind.i64 ↑m, Value.slice (some { block := g, off := off }) n c, Value.pointer (some { block := w.heap.size, off := 0 }), undef, undef, undef, Value.pointer (some { block := w.heap.size + 1, off := 0 }), Value.int IntKind.i64 0, Value.int IntKind.i64 ↑l, Value.int IntKind.i64 ↑k, undef, undef, fx 14, Value.int .i64 (e0), Value.int IntKind.i64 ↑m, Value.bool false, undef, Value.slice (some { block := g, off := off }) n c, Value.int IntKind.i64 ↑n, Value.int IntKind.i64 ↑l, Value.int IntKind.i64 ↑m, Value.int IntKind.i64 ↑k, Value.int IntKind.i64 ↑i, Value.int IntKind.i64 ↑k, Value.bool false, undef, undef, undef, undef, undef, undef, undef, undef, undef, undef, undef, undef, undef, undef, undef, undef, undef, undef, undef, undef, undef, undef, fx 11, fx 0, fx 1, fx 2, fx 3, fx 4, fx 5, fx 6, fx 7, fx 8, fx 9, fx 10, fx 12, fx 13, undef, undef, undef, undef, undef, undef, undef, undef, undef, undef, undef, undef] []; rw [h13] <;> rfl, ⟨hC.1, fun a b => hC.2 a b⟩, rfl, fun _ _ _ _ _ h => h⟩
        · intro L fo w' hC hS
          have H15 := Lib.hid (hS 15 (by decide) rfl)
          have H16 := Lib.hid (hS 16 (by decide) rfl)
          obtain ⟨q, e14, hq, hrow⟩ := H15.out
          have hel : fo 16 = .int .i64 e0 := H16.out
          have HBW := Lib.hid hC.1
          have HQR := Lib.hid hrow
          have HQM := Lib.hid hq
          replace e14 : fo 14 = _ := e14
          rw [e14, hel]
          clear hS hC H15 H16 hrow hel e14 hq
          have R5w := Lib.hid (row_kept R5.out HBW.out)
          have HIw := Lib.hid (HI1.out.below HBW.out)
          have HBX := Lib.hid (HB1.out.trans (HBW.out.mono HB1.out.size))
          obtain ⟨W2, HW2⟩ : ∃ W2, W2 = w' := ⟨_, rfl⟩
          subst HW2
          cases hO : O with
          | none =>
            have HE4 : Hid (e0 = 410) := Lib.hid (by rw [← HE0'.out, hO]; rfl)
            have HFE := Lib.hid (cl_none (f := stepN false p) hO)
            rw [HE4.out]
            go_wp2_with (first | (refine wpList_zero_nd rfl ?_) | (refine wpList_store_row rfl 26 (.tmp 8) (.tmp 65) rfl (w.heap.size + 1) (ndC zeroN).toArray rfl rfl 26 _ R5w.out HSZ.out rfl (ndC_one zeroN) ?_))
            have hr := setRow_heap W2 (w.heap.size + 1) _ (ndC zeroN).toArray _ _ R5w.out
            have hl := run_loadVar_row (P := Tryd.prog) (W2.setRow (w.heap.size + 1) (ndC zeroN).toArray) (w.heap.size + 1) 26 26 (ndC zeroN).toArray (0, 0) _ hr Tryd.underlying26 rfl HSZ.out
            refine bodyPost_ret (v := .tuple #[ndV zeroN, .int .i64 410]) ?_ rfl ⟨by rw [HCL.out, HFE.out.1, HFE.out.2], below_setRow HBX.out (Nat.le_succ _) _⟩
            unfold ndV
            simp [results, Tryd.results44, asAddr, hl]
          | some x =>
            have HE4 : Hid (e0 = 0) := Lib.hid (by rw [← HE0'.out, hO]; rfl)
            have HRX : Hid (r = x) := Lib.hid (by rw [← HRe.out, hO]; rfl)
            have HFE0 := Lib.hid (cl_someR (p := p) hO)
            rw [HE4.out]
            obtain ⟨jn, HJN⟩ : ∃ j, Hid (joinR p x = j) := ⟨_, Lib.hid rfl⟩
            obtain ⟨je, HJE⟩ : ∃ j, Hid (joinE p x = j) := ⟨_, Lib.hid rfl⟩
            have HJ1 : Hid (joinR p r = jn) := Lib.hid (by rw [HRX.out]; exact HJN.out)
            have HJ2 : Hid (joinE p r = je) := Lib.hid (by rw [HRX.out]; exact HJE.out)
            have HFE : Hid (clR (climbF (dirsN i m).reverse ps nd) = jn ∧ clE (climbF (dirsN i m).reverse ps nd) = je) := Lib.hid (by rw [HCL.out, HFE0.out.1, HFE0.out.2]; exact ⟨HJN.out, HJE.out⟩)
            have HJO : Hid (NdOk jn) := Lib.hid (by rw [← HJ1.out]; exact joinR_okR HPO.out HRO.out)
            have HSJ : Hid ((Tryd.prog.info? 26).map (·.size) = some (ndC jn).toArray.size) := Lib.hid (by rw [size34 HJO.out]; simp)
            have HSJ2 : Hid (34 = (ndC jn).toArray.size) := Lib.hid (by simp [ndC_length HJO.out])
            have HGW : Hid (g < W2.heap.size) := Lib.hid (Nat.lt_of_lt_of_le HG1.out HBW.out.size)
            have HRP : Hid (W2.rangeAt g (off + l * 34) (ndC p)) := Lib.hid (rangeAt_below HRP1.out HG1.out HBW.out)
            have hln : l < n := by omega
            have hln2 : decide (l < n) = true := decide_eq_true hln
            go_wp2_with fail
            refine region_flow3 (by kernel_rfl) (by kernel_rfl) (fun i => Nat.beq i 8 || Nat.beq i 9) (fun i => i) (by kernel_rfl) (fun fx => #[Value.agg (ndC nd).toArray, Value.int IntKind.i64 ↑i, Value.int IntKind.i64 ↑m, Value.slice (some { block := g, off := off }) n c, Value.pointer (some { block := w.heap.size, off := 0 }), undef, undef, undef, Value.pointer (some { block := w.heap.size + 1, off := 0 }), fx 9, Value.int IntKind.i64 ↑l, Value.int IntKind.i64 ↑k, undef, undef, Value.pointer (some { block := q, off := 0 }), Value.int IntKind.i64 0, Value.int IntKind.i64 ↑m, Value.bool false, undef, Value.slice (some { block := g, off := off }) n c, Value.int IntKind.i64 ↑n, Value.int IntKind.i64 ↑l, Value.int IntKind.i64 ↑m, Value.int IntKind.i64 ↑k, Value.int IntKind.i64 ↑i, Value.int IntKind.i64 ↑k, Value.bool false, undef, undef, undef, undef, undef, undef, undef, undef, undef, undef, undef, undef, undef, undef, undef, undef, undef, undef, undef, undef, undef, undef, fo 11, fo 0, fo 1, fo 2, fo 3, fo 4, fo 5, fo 6, fo 7, fo 8, fo 9, fo 10, fo 12, fo 13, Value.int IntKind.i64 0, Value.bool false, undef, undef, fx 0, fx 1, fx 2, fx 3, fx 4, fx 5, fx 6, fx 7]) (fun i => bif Nat.beq i 9 then Value.int IntKind.i64 0 else undef) (fun L fx w' => (L 8 = false → Below W2.heap.size W2 w')) (fun fi fv _ fw => wC13 w (w.heap.size + 1) g off n c l r p jn je fi fv fw) (fun _ => (Below.refl _ _).drew) ?_ ?_
            · refine ⟨?_, ?_, ?_, ?_, ?_, ?_, ?_, ?_, ?_, ?_, trivial⟩
              all_goals intro L fx w' hC hi hcl hdn hd
              · have hnd : L 8 = false := Bool.eq_false_iff.2 (fun h => by have := (hcl 2 0 (hcl 3 2 (hcl 5 3 (hcl 6 5 (hcl 8 6 h (by kernel_rfl)) (by kernel_rfl)) (by kernel_rfl)) (by kernel_rfl)) (by kernel_rfl)); rw [hi] at this; cases this)
                go_wp2_with fail
                exact ⟨_, rfl, (fun _ => hC hnd), rfl, fun _ _ _ _ _ h => h⟩
              · have hnd : L 8 = false := Bool.eq_false_iff.2 (fun h => by have := (hcl 2 1 (hcl 3 2 (hcl 5 3 (hcl 6 5 (hcl 8 6 h (by kernel_rfl)) (by kernel_rfl)) (by kernel_rfl)) (by kernel_rfl)) (by kernel_rfl)); rw [hi] at this; cases this)
                go_wp2_with fail
                exact ⟨_, rfl, (fun _ => hC hnd), rfl, fun _ _ _ _ _ h => h⟩
              · have h0 : fx 0 = Value.slice (some ⟨g, off, none⟩) n c := hd.1 rfl
                have h1 : fx 1 = Value.int .i64 ((l : Nat)) := hd.2.1 rfl
                have hnd : L 8 = false := Bool.eq_false_iff.2 (fun h => by have := (hcl 3 2 (hcl 5 3 (hcl 6 5 (hcl 8 6 h (by kernel_rfl)) (by kernel_rfl)) (by kernel_rfl)) (by kernel_rfl)); rw [hi] at this; cases this)
                go_wp2_with fail
                exact ⟨_, by show _ = Act.mk #[Value.agg (ndC nd).toArray, Value.int IntKind.i64 ↑i, Value.int IntKind.i64 ↑m, Value.slice (some { block := g, off := off }) n c, Value.pointer (some { block := w.heap.size, off := 0 }), undef, undef, undef, Value.pointer (some { block := w.heap.size + 1, off := 0 }), fx 9, Value.int IntKind.i64 ↑l, Value.int IntKind.i64 ↑k, undef, undef, Value.pointer (some { block := q, off := 0 }), Value.int IntKind.i64 0, Value.int IntKind.i64 ↑m, Value.bool false, undef, Value.slice (some { block := g, off := off }) n c, Value.int IntKind.i64 ↑n, Value.int IntKind.i64 ↑l, Value.int IntKind.i64 ↑m, Value.int IntKind.i64 ↑k, Value.int IntKind.i64 ↑i, Value.int IntKind.i64 ↑k, Value.bool false, undef, undef, undef, undef, undef, undef, undef, undef, undef, undef, undef, undef, undef, undef, undef, undef, undef, undef, undef, undef, undef, undef, fo 11, fo 0, fo 1, fo 2, fo 3, fo 4, fo 5, fo 6, fo 7, fo 8, fo 9, fo 10, fo 12, fo 13, Value.int IntKind.i64 0, Value.bool false, undef, undef, fx 0, fx 1, Value.pointer (some ⟨g, off + l * 34, none⟩), fx 3, fx 4, fx 5, fx 6, fx 7] []; rw [h0, h1] <;> rfl, (fun _ => hC hnd), rfl, fun _ _ _ _ _ h => h⟩
              · have h2 : fx 2 = Value.pointer (some ⟨g, off + l * 34, none⟩) := hd.1 rfl
                have hnd : L 8 = false := Bool.eq_false_iff.2 (fun h => by have := (hcl 5 3 (hcl 6 5 (hcl 8 6 h (by kernel_rfl)) (by kernel_rfl)) (by kernel_rfl)); rw [hi] at this; cases this)
                have hrp := rangeAt_below HRP.out HGW.out (hC hnd)
                refine wpList_load_mid rfl 26 (.tmp 69) rfl g (off + l * 34) h2 (ndC p) _ hrp Tryd.underlying26 rfl (size34 HPO.out) ?_
                clear hd
                go_wp2_with fail
                exact ⟨_, by show _ = Act.mk #[Value.agg (ndC nd).toArray, Value.int IntKind.i64 ↑i, Value.int IntKind.i64 ↑m, Value.slice (some { block := g, off := off }) n c, Value.pointer (some { block := w.heap.size, off := 0 }), undef, undef, undef, Value.pointer (some { block := w.heap.size + 1, off := 0 }), fx 9, Value.int IntKind.i64 ↑l, Value.int IntKind.i64 ↑k, undef, undef, Value.pointer (some { block := q, off := 0 }), Value.int IntKind.i64 0, Value.int IntKind.i64 ↑m, Value.bool false, undef, Value.slice (some { block := g, off := off }) n c, Value.int IntKind.i64 ↑n, Value.int IntKind.i64 ↑l, Value.int IntKind.i64 ↑m, Value.int IntKind.i64 ↑k, Value.int IntKind.i64 ↑i, Value.int IntKind.i64 ↑k, Value.bool false, undef, undef, undef, undef, undef, undef, undef, undef, undef, undef, undef, undef, undef, undef, undef, undef, undef, undef, undef, undef, undef, undef, fo 11, fo 0, fo 1, fo 2, fo 3, fo 4, fo 5, fo 6, fo 7, fo 8, fo 9, fo 10, fo 12, fo 13, Value.int IntKind.i64 0, Value.bool false, undef, undef, fx 0, fx 1, fx 2, ndV p, fx 4, fx 5, fx 6, fx 7] []; rw [h2] <;> rfl, fun _ => hC hnd, rfl, fun _ _ _ _ _ h => h⟩
              · have hnd : L 8 = false := Bool.eq_false_iff.2 (fun h => by have := (hcl 5 4 (hcl 6 5 (hcl 8 6 h (by kernel_rfl)) (by kernel_rfl)) (by kernel_rfl)); rw [hi] at this; cases this)
                have hrow := row_kept HQR.out (hC hnd)
                refine wpList_load_row rfl 26 (.tmp 14) rfl q rfl 26 _ (0, 0) _ hrow Tryd.underlying26 rfl (size34' HRO.out) ?_
                clear hd
                go_wp2_with fail
                exact ⟨_, rfl, fun _ => hC hnd, rfl, fun _ _ _ _ _ h => h⟩
              · have h3 : fx 3 = ndV p := hd.1 rfl
                have h4 : fx 4 = ndV r := hd.2.1 rfl
                have hnd : L 8 = false := Bool.eq_false_iff.2 (fun h => by have := (hcl 6 5 (hcl 8 6 h (by kernel_rfl)) (by kernel_rfl)); rw [hi] at this; cases this)
                have hb12 := hC hnd
                go_wp2_with fail
                refine (rjoin_any p r w' HPO.out HRO.out).mono ?_
                rintro e w2 ⟨rfl, hq⟩
                rw [HJ1.out, HJ2.out]
                go_wp2_with fail
                exact ⟨_, by show _ = Act.mk #[Value.agg (ndC nd).toArray, Value.int IntKind.i64 ↑i, Value.int IntKind.i64 ↑m, Value.slice (some { block := g, off := off }) n c, Value.pointer (some { block := w.heap.size, off := 0 }), undef, undef, undef, Value.pointer (some { block := w.heap.size + 1, off := 0 }), fx 9, Value.int IntKind.i64 ↑l, Value.int IntKind.i64 ↑k, undef, undef, Value.pointer (some { block := q, off := 0 }), Value.int IntKind.i64 0, Value.int IntKind.i64 ↑m, Value.bool false, undef, Value.slice (some { block := g, off := off }) n c, Value.int IntKind.i64 ↑n, Value.int IntKind.i64 ↑l, Value.int IntKind.i64 ↑m, Value.int IntKind.i64 ↑k, Value.int IntKind.i64 ↑i, Value.int IntKind.i64 ↑k, Value.bool false, undef, undef, undef, undef, undef, undef, undef, undef, undef, undef, undef, undef, undef, undef, undef, undef, undef, undef, undef, undef, undef, undef, fo 11, fo 0, fo 1, fo 2, fo 3, fo 4, fo 5, fo 6, fo 7, fo 8, fo 9, fo 10, fo 12, fo 13, Value.int IntKind.i64 0, Value.bool false, undef, undef, fx 0, fx 1, fx 2, fx 3, fx 4, Value.tuple #[ndV jn, .int .i64 je], fx 6, fx 7] []; rw [h3, h4] <;> rfl, fun _ => hb12.trans (hq.mono hb12.size), rfl, fun j v t _ _ h => wC13_below hq j v h⟩
              · have h5 : fx 5 = Value.tuple #[ndV jn, .int .i64 je] := hd.1 rfl
                have hnd : L 8 = false := Bool.eq_false_iff.2 (fun h => by have := (hcl 8 6 h (by kernel_rfl)); rw [hi] at this; cases this)
                go_wp2_with fail
                exact ⟨_, by show _ = Act.mk #[Value.agg (ndC nd).toArray, Value.int IntKind.i64 ↑i, Value.int IntKind.i64 ↑m, Value.slice (some { block := g, off := off }) n c, Value.pointer (some { block := w.heap.size, off := 0 }), undef, undef, undef, Value.pointer (some { block := w.heap.size + 1, off := 0 }), fx 9, Value.int IntKind.i64 ↑l, Value.int IntKind.i64 ↑k, undef, undef, Value.pointer (some { block := q, off := 0 }), Value.int IntKind.i64 0, Value.int IntKind.i64 ↑m, Value.bool false, undef, Value.slice (some { block := g, off := off }) n c, Value.int IntKind.i64 ↑n, Value.int IntKind.i64 ↑l, Value.int IntKind.i64 ↑m, Value.int IntKind.i64 ↑k, Value.int IntKind.i64 ↑i, Value.int IntKind.i64 ↑k, Value.bool false, undef, undef, undef, undef, undef, undef, undef, undef, undef, undef, undef, undef, undef, undef, undef, undef, undef, undef, undef, undef, undef, undef, fo 11, fo 0, fo 1, fo 2, fo 3, fo 4, fo 5, fo 6, fo 7, fo 8, fo 9, fo 10, fo 12, fo 13, Value.int IntKind.i64 0, Value.bool false, undef, undef, fx 0, fx 1, fx 2, fx 3, fx 4, fx 5, ndV jn, fx 7] []; rw [h5] <;> rfl, (fun _ => hC hnd), rfl, fun _ _ _ _ _ h => h⟩
              · have h5 : fx 5 = Value.tuple #[ndV jn, .int .i64 je] := hd.1 rfl
                go_wp2_with fail
                exact ⟨_, by show _ = Act.mk #[Value.agg (ndC nd).toArray, Value.int IntKind.i64 ↑i, Value.int IntKind.i64 ↑m, Value.slice (some { block := g, off := off }) n c, Value.pointer (some { block := w.heap.size, off := 0 }), undef, undef, undef, Value.pointer (some { block := w.heap.size + 1, off := 0 }), fx 9, Value.int IntKind.i64 ↑l, Value.int IntKind.i64 ↑k, undef, undef, Value.pointer (some { block := q, off := 0 }), Value.int IntKind.i64 0, Value.int IntKind.i64 ↑m, Value.bool false, undef, Value.slice (some { block := g, off := off }) n c, Value.int IntKind.i64 ↑n, Value.int IntKind.i64 ↑l, Value.int IntKind.i64 ↑m, Value.int IntKind.i64 ↑k, Value.int IntKind.i64 ↑i, Value.int IntKind.i64 ↑k, Value.bool false, undef, undef, undef, undef, undef, undef, undef, undef, undef, undef, undef, undef, undef, undef, undef, undef, undef, undef, undef, undef, undef, undef, fo 11, fo 0, fo 1, fo 2, fo 3, fo 4, fo 5, fo 6, fo 7, fo 8, fo 9, fo 10, fo 12, fo 13, Value.int IntKind.i64 0, Value.bool false, undef, undef, fx 0, fx 1, fx 2, fx 3, fx 4, fx 5, fx 6, Value.int .i64 (je)] []; rw [h5] <;> rfl, fun h => hC h, rfl, fun _ _ _ _ _ h => h⟩
              · have h6 : fx 6 = ndV jn := hd.1 rfl
                have hb21 := hC hi
                have hrow := row_kept R5w.out hb21
                refine wpList_store_row rfl 26 (.tmp 8) (.tmp 73) rfl (w.heap.size + 1) (ndC jn).toArray rfl h6 26 _ hrow HSJ.out HSJ2.out (ndC_one _) ?_
                clear hd
                go_wp2_with fail
                refine ⟨undef, by rw [← h6]; rfl, fun h => (updB_self h).elim, ⟨setRow_heap _ _ _ _ _ _ hrow, below_setRow (HBX.out.trans (hb21.mono HBX.out.size)) (Nat.le_succ _) _⟩, fun j v t hj hu h => ?_⟩
                refine wC13_pure j v ?_ h
                intro e
                subst e
                rw [hi] at hj; cases hj
              · have h7 : fx 7 = Value.int .i64 (je) := hd.1 rfl
                go_wp2_with fail
                exact ⟨_, by show _ = Act.mk #[Value.agg (ndC nd).toArray, Value.int IntKind.i64 ↑i, Value.int IntKind.i64 ↑m, Value.slice (some { block := g, off := off }) n c, Value.pointer (some { block := w.heap.size, off := 0 }), undef, undef, undef, Value.pointer (some { block := w.heap.size + 1, off := 0 }), Value.int .i64 (je), Value.int IntKind.i64 ↑l, Value.int IntKind.i64 ↑k, undef, undef, Value.pointer (some { block := q, off := 0 }), Value.int IntKind.i64 0, Value.int IntKind.i64 ↑m, Value.bool false, undef, Value.slice (some { block := g, off := off }) n c, Value.int IntKind.i64 ↑n, Value.int IntKind.i64 ↑l, Value.int IntKind.i64 ↑m, Value.int IntKind.i64 ↑k, Value.int IntKind.i64 ↑i, Value.int IntKind.i64 ↑k, Value.bool false, undef, undef, undef, undef, undef, undef, undef, undef, undef, undef, undef, undef, undef, undef, undef, undef, undef, undef, undef, undef, undef, undef, fo 11, fo 0, fo 1, fo 2, fo 3, fo 4, fo 5, fo 6, fo 7, fo 8, fo 9, fo 10, fo 12, fo 13, Value.int IntKind.i64 0, Value.bool false, undef, undef, fx 0, fx 1, fx 2, fx 3, fx 4, fx 5, fx 6, fx 7] []; rw [h7] <;> rfl, fun h => hC h, rfl, fun _ _ _ _ _ h => h⟩
            · intro L fo2 w' hC hS
              have H8 := Lib.hid (hS 8 (by decide) rfl)
              have H9 := Lib.hid (hS 9 (by decide) rfl)
              have h9e : fo2 9 = .int .i64 je := H9.out
              rw [h9e]
              clear hS h9e H9 hC
              go_wp2_with fail
              have hl := run_loadVar_row (P := Tryd.prog) w' (w.heap.size + 1) 26 26 (ndC jn).toArray (0, 0) _ H8.out.1 Tryd.underlying26 rfl HSJ.out
              refine bodyPost_ret (v := .tuple #[ndV jn, .int .i64 je]) ?_ rfl ⟨by rw [HFE.out.1, HFE.out.2], H8.out.2⟩
              unfold ndV
              simp [results, Tryd.results44, asAddr, hl]
    · have hm1 : m = 1 := by omega
      subst hm1
      have HE : Hid (clR (climbF (dirsN i 1).reverse ps nd) = nd ∧ clE (climbF (dirsN i 1).reverse ps nd) = 0) := Lib.hid (by rw [dirsN_one]; exact ⟨rfl, rfl⟩)
      go_enter Tryd.func44, Tryd.ntmps44
      rw [show ndV nd = .agg (ndC nd).toArray from rfl]
      have HS2 : Hid (34 = (ndC nd).toArray.size) := Lib.hid (by simp [ndC_length HND.out])
      go_wp2_with (first | (refine wpList_load_row rfl 26 (.tmp 4) rfl w.heap.size rfl 26 _ (0, 0) _ R4.out Tryd.underlying26 rfl HSN.out ?_) | (refine wpList_store_row rfl 26 (.tmp 8) (.tmp 18) rfl (w.heap.size + 1) (ndC nd).toArray rfl rfl 26 _ R5.out HSN.out HS2.out (ndC_one _) ?_))
      generalize (w.alloc (.cells (ndC nd).toArray 26)).alloc (.cells #[.int .u8 0, .int .u8 0, .int .u8 0, .int .u8 0, .int .u8 0, .int .u8 0, .int .u8 0, .int .u8 0, .int .u8 0, .int .u8 0, .int .u8 0, .int .u8 0, .int .u8 0, .int .u8 0, .int .u8 0, .int .u8 0, .int .u8 0, .int .u8 0, .int .u8 0, .int .u8 0, .int .u8 0, .int .u8 0, .int .u8 0, .int .u8 0, .int .u8 0, .int .u8 0, .int .u8 0, .int .u8 0, .int .u8 0, .int .u8 0, .int .u8 0, .int .u8 0, .int .i64 0, .int .i64 0] 26) = W1 at *
      have hr := setRow_heap W1 (w.heap.size + 1) _ (ndC nd).toArray _ _ R5.out
      have hl := run_loadVar_row (P := Tryd.prog) (W1.setRow (w.heap.size + 1) (ndC nd).toArray) (w.heap.size + 1) 26 26 (ndC nd).toArray (0, 0) _ hr Tryd.underlying26 rfl HSN.out
      refine bodyPost_ret (v := .tuple #[ndV nd, .int .i64 0]) ?_ rfl ⟨by rw [HE.out.1, HE.out.2], below_setRow HB1.out (Nat.le_succ _) _⟩
      unfold ndV
      simp [results, Tryd.results44, asAddr, hl]
end Go.Proofs.YtgcmbiegbclhmaaDoor
namespace Go.Proofs.YtgcmbiegbclhmaaDoor
open Go.RowKit SzSha SzTree
set_option linter.unusedVariables false
set_option maxRecDepth 100000
theorem clR_climb {nd : Nd} {i m : Nat} {ps : List Nd} (hv : vN nd = true) (h1 : 1 ≤ m) (h2 : m ≤ 4096) (h3 : i < m) (hl : ps.length = (dirsN i m).length) : climbR nd (i : Int) (m : Int) ps = clR (climbF (dirsN i m).reverse ps nd) ∧ climbE nd (i : Int) (m : Int) ps = clE (climbF (dirsN i m).reverse ps nd) := by
  have hc : ¬ climbArg (i : Int) (m : Int) ps.length := by
    unfold climbArg
    have e1 : ((i : Int)).toNat = i := by simp
    have e2 : ((m : Int)).toNat = m := by simp
    rw [e1, e2, way_dirsN, hl]
    omega
  have hv' : ¬ vN nd = false := by rw [hv]; decide
  unfold climbR climbE climbO clR clE
  rw [if_neg hc, if_neg hv', if_neg hc, if_neg hv', Int.toNat_natCast, Int.toNat_natCast, sidesN_dirs]
  exact ⟨rfl, rfl⟩
set_option maxHeartbeats 4000000 in
theorem rClimb_a0 (nd : Nd) (i m : Int) (ps : List Nd) (A : Option Addr) (n c : Nat) (w : World) (hn : n ≤ 9223372036854775807) (h : Hid (InN w A n c ps)) (HND : Hid (NdOk nd))  (g0 : m < 1) :
    Calls Tryd.prog 19 #[ndV nd, .int .i64 i, .int .i64 m, .slice A n c] w fun e w' => e = .returned (.tuple #[ndV (climbR nd i m ps), .int .i64 (climbE nd i m ps)]) ∧ Below w.heap.size w w' := by
  have HNE := Lib.hid (show ps.length = n from h.out.len)
  have HSN : Hid ((Tryd.prog.info? 26).map (·.size) = some (ndC nd).toArray.size) := Lib.hid (by rw [size34 HND.out]; simp)
  have HSZ : Hid ((Tryd.prog.info? 26).map (·.size) = some (ndC zeroN).toArray.size) := Lib.hid (by rw [size34 zeroN_ok]; simp)
  have hb0 := ((Below.refl _ w).alloc (Nat.le_refl _) (.cells (ndC nd).toArray 26)).alloc (by simp) (.cells (ndC zeroN).toArray 26)
  have hr0 := (Below.heap_alloc (w.alloc (.cells (ndC nd).toArray 26)) (.cells (ndC zeroN).toArray 26) w.heap.size (by simp)).trans (heap_alloc_new w (.cells (ndC nd).toArray 26))
  have hr1 := heap_alloc_new (w.alloc (.cells (ndC nd).toArray 26)) (.cells (ndC zeroN).toArray 26)
  rw [World.size_alloc] at hr1
  have HB1 := Lib.hid hb0
  have R4 := Lib.hid hr0
  have R5 := Lib.hid hr1
  have HI1 := Lib.hid (h.out.below hb0)
  rw [zeroN_cells] at HB1 R4 R5 HI1
  clear hb0 hr0 hr1
  have HE := Lib.hid (climbR_arg (n := nd) (i := i) (many := m) (ps := ps) (by unfold climbArg; omega))
  have d0 : decide (m < 1) = true := decide_eq_true (by omega)
  go_enter Tryd.func19, Tryd.ntmps19
  rw [show ndV nd = .agg (ndC nd).toArray from rfl]
  go_wp2_with (first | (refine wpList_zero_nd rfl ?_) | (refine wpList_store_row rfl 26 (.tmp 8) (.tmp 33) rfl (w.heap.size + 1) (ndC zeroN).toArray rfl rfl 26 _ R5.out HSZ.out rfl (ndC_one zeroN) ?_))
  have hr := setRow_heap ((w.alloc (.cells (ndC nd).toArray 26)).alloc (.cells #[.int .u8 0, .int .u8 0, .int .u8 0, .int .u8 0, .int .u8 0, .int .u8 0, .int .u8 0, .int .u8 0, .int .u8 0, .int .u8 0, .int .u8 0, .int .u8 0, .int .u8 0, .int .u8 0, .int .u8 0, .int .u8 0, .int .u8 0, .int .u8 0, .int .u8 0, .int .u8 0, .int .u8 0, .int .u8 0, .int .u8 0, .int .u8 0, .int .u8 0, .int .u8 0, .int .u8 0, .int .u8 0, .int .u8 0, .int .u8 0, .int .u8 0, .int .u8 0, .int .i64 0, .int .i64 0] 26)) (w.heap.size + 1) _ (ndC zeroN).toArray _ _ R5.out
  have hl := run_loadVar_row (P := Tryd.prog) (World.setRow ((w.alloc (.cells (ndC nd).toArray 26)).alloc (.cells #[.int .u8 0, .int .u8 0, .int .u8 0, .int .u8 0, .int .u8 0, .int .u8 0, .int .u8 0, .int .u8 0, .int .u8 0, .int .u8 0, .int .u8 0, .int .u8 0, .int .u8 0, .int .u8 0, .int .u8 0, .int .u8 0, .int .u8 0, .int .u8 0, .int .u8 0, .int .u8 0, .int .u8 0, .int .u8 0, .int .u8 0, .int .u8 0, .int .u8 0, .int .u8 0, .int .u8 0, .int .u8 0, .int .u8 0, .int .u8 0, .int .u8 0, .int .u8 0, .int .i64 0, .int .i64 0] 26)) (w.heap.size + 1) (ndC zeroN).toArray) (w.heap.size + 1) 26 26 (ndC zeroN).toArray (0, 0) _ hr Tryd.underlying26 rfl HSZ.out
  refine bodyPost_ret (v := .tuple #[ndV zeroN, .int .i64 1]) ?_ rfl ⟨by rw [HE.out.1, HE.out.2], below_setRow HB1.out (Nat.le_succ _) _⟩
  unfold ndV
  simp [results, Tryd.results19, asAddr, hl]
set_option maxHeartbeats 4000000 in
theorem rClimb_a1 (nd : Nd) (i m : Int) (ps : List Nd) (A : Option Addr) (n c : Nat) (w : World) (hn : n ≤ 9223372036854775807) (h : Hid (InN w A n c ps)) (HND : Hid (NdOk nd)) (g0 : ¬ m < 1) (g1 : 4096 < m) :
    Calls Tryd.prog 19 #[ndV nd, .int .i64 i, .int .i64 m, .slice A n c] w fun e w' => e = .returned (.tuple #[ndV (climbR nd i m ps), .int .i64 (climbE nd i m ps)]) ∧ Below w.heap.size w w' := by
  have HNE := Lib.hid (show ps.length = n from h.out.len)
  have HSN : Hid ((Tryd.prog.info? 26).map (·.size) = some (ndC nd).toArray.size) := Lib.hid (by rw [size34 HND.out]; simp)
  have HSZ : Hid ((Tryd.prog.info? 26).map (·.size) = some (ndC zeroN).toArray.size) := Lib.hid (by rw [size34 zeroN_ok]; simp)
  have hb0 := ((Below.refl _ w).alloc (Nat.le_refl _) (.cells (ndC nd).toArray 26)).alloc (by simp) (.cells (ndC zeroN).toArray 26)
  have hr0 := (Below.heap_alloc (w.alloc (.cells (ndC nd).toArray 26)) (.cells (ndC zeroN).toArray 26) w.heap.size (by simp)).trans (heap_alloc_new w (.cells (ndC nd).toArray 26))
  have hr1 := heap_alloc_new (w.alloc (.cells (ndC nd).toArray 26)) (.cells (ndC zeroN).toArray 26)
  rw [World.size_alloc] at hr1
  have HB1 := Lib.hid hb0
  have R4 := Lib.hid hr0
  have R5 := Lib.hid hr1
  have HI1 := Lib.hid (h.out.below hb0)
  rw [zeroN_cells] at HB1 R4 R5 HI1
  clear hb0 hr0 hr1
  have HE := Lib.hid (climbR_arg (n := nd) (i := i) (many := m) (ps := ps) (by unfold climbArg; omega))
  have d0 : decide (m < 1) = false := decide_eq_false (by omega)
  have d1 : decide (4096 < m) = true := decide_eq_true (by omega)
  go_enter Tryd.func19, Tryd.ntmps19
  rw [show ndV nd = .agg (ndC nd).toArray from rfl]
  go_wp2_with (first | (refine wpList_zero_nd rfl ?_) | (refine wpList_store_row rfl 26 (.tmp 8) (.tmp 33) rfl (w.heap.size + 1) (ndC zeroN).toArray rfl rfl 26 _ R5.out HSZ.out rfl (ndC_one zeroN) ?_))
  have hr := setRow_heap ((w.alloc (.cells (ndC nd).toArray 26)).alloc (.cells #[.int .u8 0, .int .u8 0, .int .u8 0, .int .u8 0, .int .u8 0, .int .u8 0, .int .u8 0, .int .u8 0, .int .u8 0, .int .u8 0, .int .u8 0, .int .u8 0, .int .u8 0, .int .u8 0, .int .u8 0, .int .u8 0, .int .u8 0, .int .u8 0, .int .u8 0, .int .u8 0, .int .u8 0, .int .u8 0, .int .u8 0, .int .u8 0, .int .u8 0, .int .u8 0, .int .u8 0, .int .u8 0, .int .u8 0, .int .u8 0, .int .u8 0, .int .u8 0, .int .i64 0, .int .i64 0] 26)) (w.heap.size + 1) _ (ndC zeroN).toArray _ _ R5.out
  have hl := run_loadVar_row (P := Tryd.prog) (World.setRow ((w.alloc (.cells (ndC nd).toArray 26)).alloc (.cells #[.int .u8 0, .int .u8 0, .int .u8 0, .int .u8 0, .int .u8 0, .int .u8 0, .int .u8 0, .int .u8 0, .int .u8 0, .int .u8 0, .int .u8 0, .int .u8 0, .int .u8 0, .int .u8 0, .int .u8 0, .int .u8 0, .int .u8 0, .int .u8 0, .int .u8 0, .int .u8 0, .int .u8 0, .int .u8 0, .int .u8 0, .int .u8 0, .int .u8 0, .int .u8 0, .int .u8 0, .int .u8 0, .int .u8 0, .int .u8 0, .int .u8 0, .int .u8 0, .int .i64 0, .int .i64 0] 26)) (w.heap.size + 1) (ndC zeroN).toArray) (w.heap.size + 1) 26 26 (ndC zeroN).toArray (0, 0) _ hr Tryd.underlying26 rfl HSZ.out
  refine bodyPost_ret (v := .tuple #[ndV zeroN, .int .i64 1]) ?_ rfl ⟨by rw [HE.out.1, HE.out.2], below_setRow HB1.out (Nat.le_succ _) _⟩
  unfold ndV
  simp [results, Tryd.results19, asAddr, hl]
set_option maxHeartbeats 4000000 in
theorem rClimb_a2 (nd : Nd) (i m : Int) (ps : List Nd) (A : Option Addr) (n c : Nat) (w : World) (hn : n ≤ 9223372036854775807) (h : Hid (InN w A n c ps)) (HND : Hid (NdOk nd)) (g0 : ¬ m < 1) (g1 : ¬ 4096 < m) (g2 : i < 0) :
    Calls Tryd.prog 19 #[ndV nd, .int .i64 i, .int .i64 m, .slice A n c] w fun e w' => e = .returned (.tuple #[ndV (climbR nd i m ps), .int .i64 (climbE nd i m ps)]) ∧ Below w.heap.size w w' := by
  have HNE := Lib.hid (show ps.length = n from h.out.len)
  have HSN : Hid ((Tryd.prog.info? 26).map (·.size) = some (ndC nd).toArray.size) := Lib.hid (by rw [size34 HND.out]; simp)
  have HSZ : Hid ((Tryd.prog.info? 26).map (·.size) = some (ndC zeroN).toArray.size) := Lib.hid (by rw [size34 zeroN_ok]; simp)
  have hb0 := ((Below.refl _ w).alloc (Nat.le_refl _) (.cells (ndC nd).toArray 26)).alloc (by simp) (.cells (ndC zeroN).toArray 26)
  have hr0 := (Below.heap_alloc (w.alloc (.cells (ndC nd).toArray 26)) (.cells (ndC zeroN).toArray 26) w.heap.size (by simp)).trans (heap_alloc_new w (.cells (ndC nd).toArray 26))
  have hr1 := heap_alloc_new (w.alloc (.cells (ndC nd).toArray 26)) (.cells (ndC zeroN).toArray 26)
  rw [World.size_alloc] at hr1
  have HB1 := Lib.hid hb0
  have R4 := Lib.hid hr0
  have R5 := Lib.hid hr1
  have HI1 := Lib.hid (h.out.below hb0)
  rw [zeroN_cells] at HB1 R4 R5 HI1
  clear hb0 hr0 hr1
  have HE := Lib.hid (climbR_arg (n := nd) (i := i) (many := m) (ps := ps) (by unfold climbArg; omega))
  have d0 : decide (m < 1) = false := decide_eq_false (by omega)
  have d1 : decide (4096 < m) = false := decide_eq_false (by omega)
  have d2 : decide (i < 0) = true := decide_eq_true (by omega)
  go_enter Tryd.func19, Tryd.ntmps19
  rw [show ndV nd = .agg (ndC nd).toArray from rfl]
  go_wp2_with (first | (refine wpList_zero_nd rfl ?_) | (refine wpList_store_row rfl 26 (.tmp 8) (.tmp 33) rfl (w.heap.size + 1) (ndC zeroN).toArray rfl rfl 26 _ R5.out HSZ.out rfl (ndC_one zeroN) ?_))
  have hr := setRow_heap ((w.alloc (.cells (ndC nd).toArray 26)).alloc (.cells #[.int .u8 0, .int .u8 0, .int .u8 0, .int .u8 0, .int .u8 0, .int .u8 0, .int .u8 0, .int .u8 0, .int .u8 0, .int .u8 0, .int .u8 0, .int .u8 0, .int .u8 0, .int .u8 0, .int .u8 0, .int .u8 0, .int .u8 0, .int .u8 0, .int .u8 0, .int .u8 0, .int .u8 0, .int .u8 0, .int .u8 0, .int .u8 0, .int .u8 0, .int .u8 0, .int .u8 0, .int .u8 0, .int .u8 0, .int .u8 0, .int .u8 0, .int .u8 0, .int .i64 0, .int .i64 0] 26)) (w.heap.size + 1) _ (ndC zeroN).toArray _ _ R5.out
  have hl := run_loadVar_row (P := Tryd.prog) (World.setRow ((w.alloc (.cells (ndC nd).toArray 26)).alloc (.cells #[.int .u8 0, .int .u8 0, .int .u8 0, .int .u8 0, .int .u8 0, .int .u8 0, .int .u8 0, .int .u8 0, .int .u8 0, .int .u8 0, .int .u8 0, .int .u8 0, .int .u8 0, .int .u8 0, .int .u8 0, .int .u8 0, .int .u8 0, .int .u8 0, .int .u8 0, .int .u8 0, .int .u8 0, .int .u8 0, .int .u8 0, .int .u8 0, .int .u8 0, .int .u8 0, .int .u8 0, .int .u8 0, .int .u8 0, .int .u8 0, .int .u8 0, .int .u8 0, .int .i64 0, .int .i64 0] 26)) (w.heap.size + 1) (ndC zeroN).toArray) (w.heap.size + 1) 26 26 (ndC zeroN).toArray (0, 0) _ hr Tryd.underlying26 rfl HSZ.out
  refine bodyPost_ret (v := .tuple #[ndV zeroN, .int .i64 1]) ?_ rfl ⟨by rw [HE.out.1, HE.out.2], below_setRow HB1.out (Nat.le_succ _) _⟩
  unfold ndV
  simp [results, Tryd.results19, asAddr, hl]
set_option maxHeartbeats 4000000 in
theorem rClimb_a3 (nd : Nd) (i m : Int) (ps : List Nd) (A : Option Addr) (n c : Nat) (w : World) (hn : n ≤ 9223372036854775807) (h : Hid (InN w A n c ps)) (HND : Hid (NdOk nd)) (g0 : ¬ m < 1) (g1 : ¬ 4096 < m) (g2 : ¬ i < 0) (g3 : m ≤ i) :
    Calls Tryd.prog 19 #[ndV nd, .int .i64 i, .int .i64 m, .slice A n c] w fun e w' => e = .returned (.tuple #[ndV (climbR nd i m ps), .int .i64 (climbE nd i m ps)]) ∧ Below w.heap.size w w' := by
  have HNE := Lib.hid (show ps.length = n from h.out.len)
  have HSN : Hid ((Tryd.prog.info? 26).map (·.size) = some (ndC nd).toArray.size) := Lib.hid (by rw [size34 HND.out]; simp)
  have HSZ : Hid ((Tryd.prog.info? 26).map (·.size) = some (ndC zeroN).toArray.size) := Lib.hid (by rw [size34 zeroN_ok]; simp)
  have hb0 := ((Below.refl _ w).alloc (Nat.le_refl _) (.cells (ndC nd).toArray 26)).alloc (by simp) (.cells (ndC zeroN).toArray 26)
  have hr0 := (Below.heap_alloc (w.alloc (.cells (ndC nd).toArray 26)) (.cells (ndC zeroN).toArray 26) w.heap.size (by simp)).trans (heap_alloc_new w (.cells (ndC nd).toArray 26))
  have hr1 := heap_alloc_new (w.alloc (.cells (ndC nd).toArray 26)) (.cells (ndC zeroN).toArray 26)
  rw [World.size_alloc] at hr1
  have HB1 := Lib.hid hb0
  have R4 := Lib.hid hr0
  have R5 := Lib.hid hr1
  have HI1 := Lib.hid (h.out.below hb0)
  rw [zeroN_cells] at HB1 R4 R5 HI1
  clear hb0 hr0 hr1
  have HE := Lib.hid (climbR_arg (n := nd) (i := i) (many := m) (ps := ps) (by unfold climbArg; omega))
  have d0 : decide (m < 1) = false := decide_eq_false (by omega)
  have d1 : decide (4096 < m) = false := decide_eq_false (by omega)
  have d2 : decide (i < 0) = false := decide_eq_false (by omega)
  have d3 : decide (m ≤ i) = true := decide_eq_true (by omega)
  go_enter Tryd.func19, Tryd.ntmps19
  rw [show ndV nd = .agg (ndC nd).toArray from rfl]
  go_wp2_with (first | (refine wpList_zero_nd rfl ?_) | (refine wpList_store_row rfl 26 (.tmp 8) (.tmp 33) rfl (w.heap.size + 1) (ndC zeroN).toArray rfl rfl 26 _ R5.out HSZ.out rfl (ndC_one zeroN) ?_))
  have hr := setRow_heap ((w.alloc (.cells (ndC nd).toArray 26)).alloc (.cells #[.int .u8 0, .int .u8 0, .int .u8 0, .int .u8 0, .int .u8 0, .int .u8 0, .int .u8 0, .int .u8 0, .int .u8 0, .int .u8 0, .int .u8 0, .int .u8 0, .int .u8 0, .int .u8 0, .int .u8 0, .int .u8 0, .int .u8 0, .int .u8 0, .int .u8 0, .int .u8 0, .int .u8 0, .int .u8 0, .int .u8 0, .int .u8 0, .int .u8 0, .int .u8 0, .int .u8 0, .int .u8 0, .int .u8 0, .int .u8 0, .int .u8 0, .int .u8 0, .int .i64 0, .int .i64 0] 26)) (w.heap.size + 1) _ (ndC zeroN).toArray _ _ R5.out
  have hl := run_loadVar_row (P := Tryd.prog) (World.setRow ((w.alloc (.cells (ndC nd).toArray 26)).alloc (.cells #[.int .u8 0, .int .u8 0, .int .u8 0, .int .u8 0, .int .u8 0, .int .u8 0, .int .u8 0, .int .u8 0, .int .u8 0, .int .u8 0, .int .u8 0, .int .u8 0, .int .u8 0, .int .u8 0, .int .u8 0, .int .u8 0, .int .u8 0, .int .u8 0, .int .u8 0, .int .u8 0, .int .u8 0, .int .u8 0, .int .u8 0, .int .u8 0, .int .u8 0, .int .u8 0, .int .u8 0, .int .u8 0, .int .u8 0, .int .u8 0, .int .u8 0, .int .u8 0, .int .i64 0, .int .i64 0] 26)) (w.heap.size + 1) (ndC zeroN).toArray) (w.heap.size + 1) 26 26 (ndC zeroN).toArray (0, 0) _ hr Tryd.underlying26 rfl HSZ.out
  refine bodyPost_ret (v := .tuple #[ndV zeroN, .int .i64 1]) ?_ rfl ⟨by rw [HE.out.1, HE.out.2], below_setRow HB1.out (Nat.le_succ _) _⟩
  unfold ndV
  simp [results, Tryd.results19, asAddr, hl]
set_option maxHeartbeats 4000000 in
theorem rClimb_len (nd : Nd) (i m : Int) (ps : List Nd) (A : Option Addr) (n c : Nat) (w : World) (hn : n ≤ 9223372036854775807) (h : Hid (InN w A n c ps)) (HND : Hid (NdOk nd)) (g : 1 ≤ m ∧ m ≤ 4096 ∧ 0 ≤ i ∧ i < m) (g4 : n ≠ (dirsN i.toNat m.toNat).length) :
    Calls Tryd.prog 19 #[ndV nd, .int .i64 i, .int .i64 m, .slice A n c] w fun e w' => e = .returned (.tuple #[ndV (climbR nd i m ps), .int .i64 (climbE nd i m ps)]) ∧ Below w.heap.size w w' := by
  have HNE := Lib.hid (show ps.length = n from h.out.len)
  have HSN : Hid ((Tryd.prog.info? 26).map (·.size) = some (ndC nd).toArray.size) := Lib.hid (by rw [size34 HND.out]; simp)
  have HSZ : Hid ((Tryd.prog.info? 26).map (·.size) = some (ndC zeroN).toArray.size) := Lib.hid (by rw [size34 zeroN_ok]; simp)
  have hb0 := ((Below.refl _ w).alloc (Nat.le_refl _) (.cells (ndC nd).toArray 26)).alloc (by simp) (.cells (ndC zeroN).toArray 26)
  have hr0 := (Below.heap_alloc (w.alloc (.cells (ndC nd).toArray 26)) (.cells (ndC zeroN).toArray 26) w.heap.size (by simp)).trans (heap_alloc_new w (.cells (ndC nd).toArray 26))
  have hr1 := heap_alloc_new (w.alloc (.cells (ndC nd).toArray 26)) (.cells (ndC zeroN).toArray 26)
  rw [World.size_alloc] at hr1
  have HB1 := Lib.hid hb0
  have R4 := Lib.hid hr0
  have R5 := Lib.hid hr1
  have HI1 := Lib.hid (h.out.below hb0)
  rw [zeroN_cells] at HB1 R4 R5 HI1
  clear hb0 hr0 hr1
  have HE := Lib.hid (climbR_arg (n := nd) (i := i) (many := m) (ps := ps) (by unfold climbArg; rw [way_dirsN, HNE.out]; omega))
  have d0 : decide (m < 1) = false := decide_eq_false (by omega)
  have d1 : decide (4096 < m) = false := decide_eq_false (by omega)
  have d2 : decide (i < 0) = false := decide_eq_false (by omega)
  have d3 : decide (m ≤ i) = false := decide_eq_false (by omega)
  obtain ⟨iN, HIN⟩ : ∃ k : Nat, Hid (i = (k : Int)) := ⟨i.toNat, Lib.hid (by omega)⟩
  obtain ⟨mN, HMN⟩ : ∃ k : Nat, Hid (m = (k : Int)) := ⟨m.toNat, Lib.hid (by omega)⟩
  have hM : 1 ≤ mN ∧ mN ≤ 4096 ∧ iN < mN := by have := HIN.out; have := HMN.out; omega
  obtain ⟨s, HSL⟩ : ∃ s, Hid ((dirsN iN mN).length = s) := ⟨_, Lib.hid rfl⟩
  have hs : s ≤ 4096 := by rw [← HSL.out]; have := dirsN_length iN mN; omega
  go_enter Tryd.func19, Tryd.ntmps19
  rw [show ndV nd = .agg (ndC nd).toArray from rfl]
  go_wp2_with fail
  generalize (w.alloc (.cells (ndC nd).toArray 26)).alloc (.cells #[.int .u8 0, .int .u8 0, .int .u8 0, .int .u8 0, .int .u8 0, .int .u8 0, .int .u8 0, .int .u8 0, .int .u8 0, .int .u8 0, .int .u8 0, .int .u8 0, .int .u8 0, .int .u8 0, .int .u8 0, .int .u8 0, .int .u8 0, .int .u8 0, .int .u8 0, .int .u8 0, .int .u8 0, .int .u8 0, .int .u8 0, .int .u8 0, .int .u8 0, .int .u8 0, .int .u8 0, .int .u8 0, .int .u8 0, .int .u8 0, .int .u8 0, .int .u8 0, .int .i64 0, .int .i64 0] 26) = W1 at *
  rw [HIN.out, HMN.out]
  refine (rlen_any mN iN mN _ (Nat.le_refl _) hM.1 hM.2.1 hM.2.2).mono ?_
  rintro e w2 ⟨rfl, hw1⟩
  subst hw1
  rw [HSL.out, ← HIN.out, ← HMN.out]
  have hne : n ≠ s := by rw [← HSL.out]; have h := g4; rw [HIN.out, HMN.out, Int.toNat_natCast, Int.toNat_natCast] at h; exact h
  have dn : ((n : Int) == (s : Int)) = false := beq_false_of_ne (by omega)
  have dn2 : ((n : Int) != (s : Int)) = true := by simp [bne, dn]
  have dn3 : decide ((n : Int) = (s : Int)) = false := decide_eq_false (by omega)
  go_wp2_with (first | (refine wpList_zero_nd rfl ?_) | (refine wpList_store_row rfl 26 (.tmp 8) (.tmp 33) rfl (w.heap.size + 1) (ndC zeroN).toArray rfl rfl 26 _ R5.out HSZ.out rfl (ndC_one zeroN) ?_))
  have hr := setRow_heap W1 (w.heap.size + 1) _ (ndC zeroN).toArray _ _ R5.out
  have hl := run_loadVar_row (P := Tryd.prog) (World.setRow W1 (w.heap.size + 1) (ndC zeroN).toArray) (w.heap.size + 1) 26 26 (ndC zeroN).toArray (0, 0) _ hr Tryd.underlying26 rfl HSZ.out
  refine bodyPost_ret (v := .tuple #[ndV zeroN, .int .i64 1]) ?_ rfl ⟨by rw [HE.out.1, HE.out.2], below_setRow HB1.out (Nat.le_succ _) _⟩
  unfold ndV
  simp [results, Tryd.results19, asAddr, hl]
set_option maxHeartbeats 4000000 in
theorem rClimb_bad (nd : Nd) (i m : Int) (ps : List Nd) (A : Option Addr) (n c : Nat) (w : World) (hn : n ≤ 9223372036854775807) (h : Hid (InN w A n c ps)) (HND : Hid (NdOk nd)) (g : 1 ≤ m ∧ m ≤ 4096 ∧ 0 ≤ i ∧ i < m) (G4 : Hid (n = (dirsN i.toNat m.toNat).length)) (HV : Hid (vN nd = false)) :
    Calls Tryd.prog 19 #[ndV nd, .int .i64 i, .int .i64 m, .slice A n c] w fun e w' => e = .returned (.tuple #[ndV (climbR nd i m ps), .int .i64 (climbE nd i m ps)]) ∧ Below w.heap.size w w' := by
  have HNE := Lib.hid (show ps.length = n from h.out.len)
  have HSN : Hid ((Tryd.prog.info? 26).map (·.size) = some (ndC nd).toArray.size) := Lib.hid (by rw [size34 HND.out]; simp)
  have HSZ : Hid ((Tryd.prog.info? 26).map (·.size) = some (ndC zeroN).toArray.size) := Lib.hid (by rw [size34 zeroN_ok]; simp)
  have hb0 := ((Below.refl _ w).alloc (Nat.le_refl _) (.cells (ndC nd).toArray 26)).alloc (by simp) (.cells (ndC zeroN).toArray 26)
  have hr0 := (Below.heap_alloc (w.alloc (.cells (ndC nd).toArray 26)) (.cells (ndC zeroN).toArray 26) w.heap.size (by simp)).trans (heap_alloc_new w (.cells (ndC nd).toArray 26))
  have hr1 := heap_alloc_new (w.alloc (.cells (ndC nd).toArray 26)) (.cells (ndC zeroN).toArray 26)
  rw [World.size_alloc] at hr1
  have HB1 := Lib.hid hb0
  have R4 := Lib.hid hr0
  have R5 := Lib.hid hr1
  have HI1 := Lib.hid (h.out.below hb0)
  rw [zeroN_cells] at HB1 R4 R5 HI1
  clear hb0 hr0 hr1
  have HE := Lib.hid (climbR_bad (n := nd) (i := i) (many := m) (ps := ps) (by unfold climbArg; rw [way_dirsN, HNE.out]; have := G4.out; omega) HV.out)
  have d0 : decide (m < 1) = false := decide_eq_false (by omega)
  have d1 : decide (4096 < m) = false := decide_eq_false (by omega)
  have d2 : decide (i < 0) = false := decide_eq_false (by omega)
  have d3 : decide (m ≤ i) = false := decide_eq_false (by omega)
  obtain ⟨iN, HIN⟩ : ∃ k : Nat, Hid (i = (k : Int)) := ⟨i.toNat, Lib.hid (by omega)⟩
  obtain ⟨mN, HMN⟩ : ∃ k : Nat, Hid (m = (k : Int)) := ⟨m.toNat, Lib.hid (by omega)⟩
  have hM : 1 ≤ mN ∧ mN ≤ 4096 ∧ iN < mN := by have := HIN.out; have := HMN.out; omega
  obtain ⟨s, HSL⟩ : ∃ s, Hid ((dirsN iN mN).length = s) := ⟨_, Lib.hid rfl⟩
  have hs : s ≤ 4096 := by rw [← HSL.out]; have := dirsN_length iN mN; omega
  go_enter Tryd.func19, Tryd.ntmps19
  rw [show ndV nd = .agg (ndC nd).toArray from rfl]
  go_wp2_with fail
  generalize (w.alloc (.cells (ndC nd).toArray 26)).alloc (.cells #[.int .u8 0, .int .u8 0, .int .u8 0, .int .u8 0, .int .u8 0, .int .u8 0, .int .u8 0, .int .u8 0, .int .u8 0, .int .u8 0, .int .u8 0, .int .u8 0, .int .u8 0, .int .u8 0, .int .u8 0, .int .u8 0, .int .u8 0, .int .u8 0, .int .u8 0, .int .u8 0, .int .u8 0, .int .u8 0, .int .u8 0, .int .u8 0, .int .u8 0, .int .u8 0, .int .u8 0, .int .u8 0, .int .u8 0, .int .u8 0, .int .u8 0, .int .u8 0, .int .i64 0, .int .i64 0] 26) = W1 at *
  rw [HIN.out, HMN.out]
  refine (rlen_any mN iN mN _ (Nat.le_refl _) hM.1 hM.2.1 hM.2.2).mono ?_
  rintro e w2 ⟨rfl, hw1⟩
  subst hw1
  rw [HSL.out, ← HIN.out, ← HMN.out]
  have hse : n = s := by rw [← HSL.out]; have h := G4.out; rw [HIN.out, HMN.out, Int.toNat_natCast, Int.toNat_natCast] at h; exact h
  obtain ⟨hq⟩ : Nonempty (Hid (s = n)) := ⟨Lib.hid hse.symm⟩
  subst hse
  have dn2 : ((n : Int) != (n : Int)) = false := by simp
  go_wp2_with (refine wpList_load_row rfl 26 (.tmp 4) rfl w.heap.size rfl 26 _ (0, 0) _ R4.out Tryd.underlying26 rfl HSN.out ?_)
  rw [show Value.agg (ndC nd).toArray = ndV nd from rfl]
  refine (rvalid_any nd _ HND.out).mono ?_
  rintro e W2 ⟨rfl, hq2⟩
  rw [HV.out]
  have HB1 := Lib.hid (HB1.out.trans (hq2.mono HB1.out.size))
  have R4 := Lib.hid (row_kept R4.out hq2)
  have R5 := Lib.hid (row_kept R5.out hq2)
  have HI1 := Lib.hid (HI1.out.below hq2)
  clear hq2
  go_wp2_with (first | (refine wpList_zero_nd rfl ?_) | (refine wpList_store_row rfl 26 (.tmp 8) (.tmp 37) rfl (w.heap.size + 1) (ndC zeroN).toArray rfl rfl 26 _ R5.out HSZ.out rfl (ndC_one zeroN) ?_))
  have hr := setRow_heap W2 (w.heap.size + 1) _ (ndC zeroN).toArray _ _ R5.out
  have hl := run_loadVar_row (P := Tryd.prog) (World.setRow W2 (w.heap.size + 1) (ndC zeroN).toArray) (w.heap.size + 1) 26 26 (ndC zeroN).toArray (0, 0) _ hr Tryd.underlying26 rfl HSZ.out
  refine bodyPost_ret (v := .tuple #[ndV zeroN, .int .i64 410]) ?_ rfl ⟨by rw [HE.out.1, HE.out.2], below_setRow HB1.out (Nat.le_succ _) _⟩
  unfold ndV
  simp [results, Tryd.results19, asAddr, hl]
set_option maxHeartbeats 4000000 in
theorem rClimb_yes (nd : Nd) (i m : Int) (ps : List Nd) (A : Option Addr) (n c : Nat) (w : World) (hn : n ≤ 9223372036854775807) (h : Hid (InN w A n c ps)) (HND : Hid (NdOk nd)) (g : 1 ≤ m ∧ m ≤ 4096 ∧ 0 ≤ i ∧ i < m) (G4 : Hid (n = (dirsN i.toNat m.toNat).length)) (HV : Hid (vN nd = true)) :
    Calls Tryd.prog 19 #[ndV nd, .int .i64 i, .int .i64 m, .slice A n c] w fun e w' => e = .returned (.tuple #[ndV (climbR nd i m ps), .int .i64 (climbE nd i m ps)]) ∧ Below w.heap.size w w' := by
  have HNE := Lib.hid (show ps.length = n from h.out.len)
  have HSN : Hid ((Tryd.prog.info? 26).map (·.size) = some (ndC nd).toArray.size) := Lib.hid (by rw [size34 HND.out]; simp)
  have HSZ : Hid ((Tryd.prog.info? 26).map (·.size) = some (ndC zeroN).toArray.size) := Lib.hid (by rw [size34 zeroN_ok]; simp)
  have hb0 := ((Below.refl _ w).alloc (Nat.le_refl _) (.cells (ndC nd).toArray 26)).alloc (by simp) (.cells (ndC zeroN).toArray 26)
  have hr0 := (Below.heap_alloc (w.alloc (.cells (ndC nd).toArray 26)) (.cells (ndC zeroN).toArray 26) w.heap.size (by simp)).trans (heap_alloc_new w (.cells (ndC nd).toArray 26))
  have hr1 := heap_alloc_new (w.alloc (.cells (ndC nd).toArray 26)) (.cells (ndC zeroN).toArray 26)
  rw [World.size_alloc] at hr1
  have HB1 := Lib.hid hb0
  have R4 := Lib.hid hr0
  have R5 := Lib.hid hr1
  have HI1 := Lib.hid (h.out.below hb0)
  rw [zeroN_cells] at HB1 R4 R5 HI1
  clear hb0 hr0 hr1
  have d0 : decide (m < 1) = false := decide_eq_false (by omega)
  have d1 : decide (4096 < m) = false := decide_eq_false (by omega)
  have d2 : decide (i < 0) = false := decide_eq_false (by omega)
  have d3 : decide (m ≤ i) = false := decide_eq_false (by omega)
  obtain ⟨iN, HIN⟩ : ∃ k : Nat, Hid (i = (k : Int)) := ⟨i.toNat, Lib.hid (by omega)⟩
  obtain ⟨mN, HMN⟩ : ∃ k : Nat, Hid (m = (k : Int)) := ⟨m.toNat, Lib.hid (by omega)⟩
  have hM : 1 ≤ mN ∧ mN ≤ 4096 ∧ iN < mN := by have := HIN.out; have := HMN.out; omega
  obtain ⟨s, HSL⟩ : ∃ s, Hid ((dirsN iN mN).length = s) := ⟨_, Lib.hid rfl⟩
  have hs : s ≤ 4096 := by rw [← HSL.out]; have := dirsN_length iN mN; omega
  go_enter Tryd.func19, Tryd.ntmps19
  rw [show ndV nd = .agg (ndC nd).toArray from rfl]
  go_wp2_with fail
  generalize (w.alloc (.cells (ndC nd).toArray 26)).alloc (.cells #[.int .u8 0, .int .u8 0, .int .u8 0, .int .u8 0, .int .u8 0, .int .u8 0, .int .u8 0, .int .u8 0, .int .u8 0, .int .u8 0, .int .u8 0, .int .u8 0, .int .u8 0, .int .u8 0, .int .u8 0, .int .u8 0, .int .u8 0, .int .u8 0, .int .u8 0, .int .u8 0, .int .u8 0, .int .u8 0, .int .u8 0, .int .u8 0, .int .u8 0, .int .u8 0, .int .u8 0, .int .u8 0, .int .u8 0, .int .u8 0, .int .u8 0, .int .u8 0, .int .i64 0, .int .i64 0] 26) = W1 at *
  rw [HIN.out, HMN.out]
  refine (rlen_any mN iN mN _ (Nat.le_refl _) hM.1 hM.2.1 hM.2.2).mono ?_
  rintro e w2 ⟨rfl, hw1⟩
  subst hw1
  rw [HSL.out, ← HIN.out, ← HMN.out]
  have hse : n = s := by rw [← HSL.out]; have h := G4.out; rw [HIN.out, HMN.out, Int.toNat_natCast, Int.toNat_natCast] at h; exact h
  obtain ⟨hq⟩ : Nonempty (Hid (s = n)) := ⟨Lib.hid hse.symm⟩
  subst hse
  have dn2 : ((n : Int) != (n : Int)) = false := by simp
  go_wp2_with (refine wpList_load_row rfl 26 (.tmp 4) rfl w.heap.size rfl 26 _ (0, 0) _ R4.out Tryd.underlying26 rfl HSN.out ?_)
  rw [show Value.agg (ndC nd).toArray = ndV nd from rfl]
  refine (rvalid_any nd _ HND.out).mono ?_
  rintro e W2 ⟨rfl, hq2⟩
  rw [HV.out]
  have HB1 := Lib.hid (HB1.out.trans (hq2.mono HB1.out.size))
  have R4 := Lib.hid (row_kept R4.out hq2)
  have R5 := Lib.hid (row_kept R5.out hq2)
  have HI1 := Lib.hid (HI1.out.below hq2)
  clear hq2
  obtain ⟨r, HR⟩ : ∃ r, Hid (climbR nd i m ps = r) := ⟨_, Lib.hid rfl⟩
  obtain ⟨e0, HE0⟩ : ∃ r, Hid (climbE nd i m ps = r) := ⟨_, Lib.hid rfl⟩
  have HCC := Lib.hid (clR_climb (nd := nd) (i := iN) (m := mN) (ps := ps) HV.out hM.1 hM.2.1 hM.2.2 (by rw [HNE.out, HSL.out]))
  have HRO : Hid (NdOk r) := Lib.hid (by rw [← HR.out]; exact climbR_okN HND.out h.out.ok)
  have HS1 : Hid ((Tryd.prog.info? 26).map (·.size) = some (ndC r).toArray.size) := Lib.hid (by rw [size34 HRO.out]; simp)
  have HS2 : Hid (34 = (ndC r).toArray.size) := Lib.hid (by simp [ndC_length HRO.out])
  go_wp2_with (refine wpList_load_row rfl 26 (.tmp 4) rfl w.heap.size rfl 26 _ (0, 0) _ R4.out Tryd.underlying26 rfl HSN.out ?_)
  rw [show Value.agg (ndC nd).toArray = ndV nd from rfl, HIN.out, HMN.out]
  refine (rclimb_any mN nd iN mN ps A n c _ (Nat.le_refl _) hM.1 hM.2.1 hM.2.2 HSL.out.symm HI1 HND HV).mono ?_
  rintro e W3 ⟨rfl, hq3⟩
  rw [← HCC.out.1, ← HCC.out.2, ← HIN.out, ← HMN.out, HR.out, HE0.out]
  have HB1 := Lib.hid (HB1.out.trans (hq3.mono HB1.out.size))
  have R5 := Lib.hid (row_kept R5.out hq3)
  clear hq3
  go_wp2_with (refine wpList_store_row rfl 26 (.tmp 8) (.tmp 43) rfl (w.heap.size + 1) (ndC r).toArray rfl rfl 26 _ R5.out HS1.out HS2.out (ndC_one _) ?_)
  have hr := setRow_heap W3 (w.heap.size + 1) _ (ndC r).toArray _ _ R5.out
  have hl := run_loadVar_row (P := Tryd.prog) (W3.setRow (w.heap.size + 1) (ndC r).toArray) (w.heap.size + 1) 26 26 (ndC r).toArray (0, 0) _ hr Tryd.underlying26 rfl HS1.out
  refine bodyPost_ret (v := .tuple #[ndV r, .int .i64 e0]) ?_ rfl ⟨by rw [HR.out, HE0.out], below_setRow HB1.out (Nat.le_succ _) _⟩
  unfold ndV
  simp [results, Tryd.results19, asAddr, hl]
theorem rClimb_any (nd : Nd) (i m : Int) (ps : List Nd) (A : Option Addr) (n c : Nat) (w : World) (hn : n ≤ 9223372036854775807) (h : Hid (InN w A n c ps)) (HND : Hid (NdOk nd)) :
    Calls Tryd.prog 19 #[ndV nd, .int .i64 i, .int .i64 m, .slice A n c] w fun e w' => e = .returned (.tuple #[ndV (climbR nd i m ps), .int .i64 (climbE nd i m ps)]) ∧ Below w.heap.size w w' := by
  by_cases g0 : m < 1
  · exact rClimb_a0 nd i m ps A n c w hn h HND g0
  by_cases g1 : 4096 < m
  · exact rClimb_a1 nd i m ps A n c w hn h HND g0 g1
  by_cases g2 : i < 0
  · exact rClimb_a2 nd i m ps A n c w hn h HND g0 g1 g2
  by_cases g3 : m ≤ i
  · exact rClimb_a3 nd i m ps A n c w hn h HND g0 g1 g2 g3
  by_cases g4 : n = (dirsN i.toNat m.toNat).length
  · by_cases hv : vN nd = true
    · exact rClimb_yes nd i m ps A n c w hn h HND (by omega) (Lib.hid g4) (Lib.hid hv)
    · exact rClimb_bad nd i m ps A n c w hn h HND (by omega) (Lib.hid g4) (Lib.hid (by simpa using hv))
  · exact rClimb_len nd i m ps A n c w hn h HND (by omega) g4
end Go.Proofs.YtgcmbiegbclhmaaDoor
