/- sizarref41.Join. -/
import Derived.Test.YtgcmbiegbclhmaaDoorRefB
import Derived.Outline
namespace Go.Proofs.YtgcmbiegbclhmaaDoor
open Go.RowKit SzSha SzTree
set_option linter.unusedVariables false
set_option maxRecDepth 100000
def wJr (W0 : World) (ra : Nat) (rb : Nat) (br : Nat) (A7 : Option Addr) (n7 : Nat) (c7 : Nat) (a : Nd) (b : Nd) : Nat → Value → World → Prop
  | 0, fv, _ => fv = Value.slice A7 n7 c7
  | 1, fv, _ => fv = dgV (joinN a b).d
  | 2, fv, _ => fv = Value.pointer (some ⟨ra, 32, none⟩)
  | 3, fv, _ => fv = Value.int .i64 (a.c)
  | 4, fv, _ => fv = Value.pointer (some ⟨rb, 32, none⟩)
  | 5, fv, _ => fv = Value.int .i64 (b.c)
  | 6, fv, _ => fv = Value.int .i64 (a.c + b.c)
  | 7, fv, _ => fv = Value.pointer (some ⟨ra, 33, none⟩)
  | 8, fv, _ => fv = Value.int .i64 (a.p)
  | 9, fv, _ => fv = Value.pointer (some ⟨rb, 33, none⟩)
  | 10, fv, _ => fv = Value.int .i64 (b.p)
  | 11, fv, _ => fv = Value.int .i64 (a.p + b.p)
  | 12, fv, _ => fv = ndV (joinN a b)
  | 13, fv, fw => fw.heap[br]? = some (.cells (ndC (joinN a b)).toArray 26 (0, 0)) ∧ Below W0.heap.size W0 fw
  | 14, fv, _ => fv = Value.int .i64 (0)
  | _, _, _ => True
theorem wJr_below {W0 : World} {ra : Nat} {rb : Nat} {br : Nat} {A7 : Option Addr} {n7 : Nat} {c7 : Nat} {a : Nd} {b : Nd} {w w' : World} (hb : Below w.heap.size w w') : ∀ j v, wJr W0 ra rb br A7 n7 c7 a b j v w → wJr W0 ra rb br A7 n7 c7 a b j v w'
  | 0, v, h => h
  | 1, v, h => h
  | 2, v, h => h
  | 3, v, h => h
  | 4, v, h => h
  | 5, v, h => h
  | 6, v, h => h
  | 7, v, h => h
  | 8, v, h => h
  | 9, v, h => h
  | 10, v, h => h
  | 11, v, h => h
  | 12, v, h => h
  | 13, v, h => ⟨(hb.block br (Array.getElem?_eq_some_iff.1 h.1).1).trans h.1, h.2.trans (hb.mono h.2.size)⟩
  | 14, v, h => h
  | n + 15, v, h => trivial
theorem wJr_pure {W0 : World} {ra : Nat} {rb : Nat} {br : Nat} {A7 : Option Addr} {n7 : Nat} {c7 : Nat} {a : Nd} {b : Nd} {w w' : World} : ∀ j v, j ≠ 13 → wJr W0 ra rb br A7 n7 c7 a b j v w → wJr W0 ra rb br A7 n7 c7 a b j v w'
  | 0, v, _, h => h
  | 1, v, _, h => h
  | 2, v, _, h => h
  | 3, v, _, h => h
  | 4, v, _, h => h
  | 5, v, _, h => h
  | 6, v, _, h => h
  | 7, v, _, h => h
  | 8, v, _, h => h
  | 9, v, _, h => h
  | 10, v, _, h => h
  | 11, v, _, h => h
  | 12, v, _, h => h
  | 13, v, hh, _ => absurd rfl hh
  | 14, v, _, h => h
  | n + 15, v, _, h => trivial
set_option maxHeartbeats 4000000 in
theorem rjoin_n1 (a b : Nd) (w : World) (HOA : Hid (NdOk a)) (HOB : Hid (NdOk b)) (HVA : Hid (vN a = false)) :
    Calls Tryd.prog 15 #[ndV a, ndV b] w fun e w' => e = .returned (.tuple #[ndV zeroN, .int .i64 410]) ∧ Below w.heap.size w w' := by
  have HSA : Hid ((Tryd.prog.info? 26).map (·.size) = some (ndC a).toArray.size) := Lib.hid (by rw [size34 HOA.out]; simp)
  have HSB : Hid ((Tryd.prog.info? 26).map (·.size) = some (ndC b).toArray.size) := Lib.hid (by rw [size34 HOB.out]; simp)
  have HSZ : Hid ((Tryd.prog.info? 26).map (·.size) = some (ndC zeroN).toArray.size) := Lib.hid (by rw [size34 zeroN_ok]; simp)
  have HZC := Lib.hid zeroN_cells
  obtain ⟨t1, t2, t3, t4, t5⟩ := three_rows w (ndC a).toArray (ndC b).toArray (ndC zeroN).toArray 26
  have T1 := Lib.hid t1
  have T2 := Lib.hid t2
  have T3 := Lib.hid t3
  have T4 := Lib.hid t4
  rw [HZC.out] at T1 T2 T3 T4
  clear t1 t2 t3 t4 t5
  go_enter Tryd.func15, Tryd.ntmps15
  unfold ndV
  go_wp2_with (refine wpList_load_row rfl 26 (.tmp 2) rfl w.heap.size rfl 26 _ (0, 0) _ T2.out Tryd.underlying26 rfl HSA.out ?_)
  rw [show Value.agg (ndC a).toArray = ndV a from rfl]
  refine (rvalid_any a _ HOA.out).mono ?_
  rintro e W1 ⟨rfl, hq⟩
  have S1 := Lib.hid (T1.out.trans (hq.mono T1.out.size))
  have S2 := Lib.hid (row_kept T2.out hq)
  have S3 := Lib.hid (row_kept T3.out hq)
  have S4 := Lib.hid (row_kept T4.out hq)
  rw [HVA.out]
  clear hq T1 T2 T3 T4
  have HB := Lib.hid S1.out
  have HRR := Lib.hid S4.out
  clear S1 S4
  rw [← HZC.out] at HRR
  obtain ⟨WE, hwe⟩ : ∃ WE, WE = W1 := ⟨_, rfl⟩
  subst hwe
  go_wp2_with (rw [← HZC.out]; refine wpList_store_row rfl 26 (.tmp 4) (.tmp 23) rfl (w.heap.size + 1 + 1) (ndC zeroN).toArray ?ha ?hb 26 (ndC zeroN).toArray HRR.out HSZ.out rfl (ndC_one zeroN) ?_)
  all_goals first | rfl | skip
  have hr := setRow_heap WE (w.heap.size + 1 + 1) _ (ndC zeroN).toArray _ _ HRR.out
  have hl := run_loadVar_row (P := Tryd.prog) (WE.setRow (w.heap.size + 1 + 1) (ndC zeroN).toArray) (w.heap.size + 1 + 1) 26 26 (ndC zeroN).toArray (0, 0) _ hr Tryd.underlying26 rfl HSZ.out
  refine bodyPost_ret (v := .tuple #[ndV zeroN, .int .i64 410]) ?_ rfl ⟨rfl, below_setRow HB.out (by omega) _⟩
  unfold ndV
  simp [results, Tryd.results15, asAddr, hl]
set_option maxHeartbeats 4000000 in
theorem rjoin_n2 (a b : Nd) (w : World) (HOA : Hid (NdOk a)) (HOB : Hid (NdOk b)) (HVA : Hid (vN a = true)) (HVB : Hid (vN b = false)) :
    Calls Tryd.prog 15 #[ndV a, ndV b] w fun e w' => e = .returned (.tuple #[ndV zeroN, .int .i64 410]) ∧ Below w.heap.size w w' := by
  have HSA : Hid ((Tryd.prog.info? 26).map (·.size) = some (ndC a).toArray.size) := Lib.hid (by rw [size34 HOA.out]; simp)
  have HSB : Hid ((Tryd.prog.info? 26).map (·.size) = some (ndC b).toArray.size) := Lib.hid (by rw [size34 HOB.out]; simp)
  have HSZ : Hid ((Tryd.prog.info? 26).map (·.size) = some (ndC zeroN).toArray.size) := Lib.hid (by rw [size34 zeroN_ok]; simp)
  have HZC := Lib.hid zeroN_cells
  obtain ⟨t1, t2, t3, t4, t5⟩ := three_rows w (ndC a).toArray (ndC b).toArray (ndC zeroN).toArray 26
  have T1 := Lib.hid t1
  have T2 := Lib.hid t2
  have T3 := Lib.hid t3
  have T4 := Lib.hid t4
  rw [HZC.out] at T1 T2 T3 T4
  clear t1 t2 t3 t4 t5
  go_enter Tryd.func15, Tryd.ntmps15
  unfold ndV
  go_wp2_with (refine wpList_load_row rfl 26 (.tmp 2) rfl w.heap.size rfl 26 _ (0, 0) _ T2.out Tryd.underlying26 rfl HSA.out ?_)
  rw [show Value.agg (ndC a).toArray = ndV a from rfl]
  refine (rvalid_any a _ HOA.out).mono ?_
  rintro e W1 ⟨rfl, hq⟩
  have S1 := Lib.hid (T1.out.trans (hq.mono T1.out.size))
  have S2 := Lib.hid (row_kept T2.out hq)
  have S3 := Lib.hid (row_kept T3.out hq)
  have S4 := Lib.hid (row_kept T4.out hq)
  rw [HVA.out]
  clear hq T1 T2 T3 T4
  go_wp2_with (refine wpList_unguard rfl ?_; refine wpList_load_row rfl 26 (.tmp 3) rfl (w.heap.size + 1) rfl 26 _ (0, 0) _ S3.out Tryd.underlying26 rfl HSB.out ?_)
  rw [show Value.agg (ndC b).toArray = ndV b from rfl]
  refine (rvalid_any b _ HOB.out).mono ?_
  rintro e WE ⟨rfl, hq⟩
  have HB := Lib.hid (S1.out.trans (hq.mono S1.out.size))
  have R2 := Lib.hid (row_kept S2.out hq)
  have R3 := Lib.hid (row_kept S3.out hq)
  have HRR := Lib.hid (row_kept S4.out hq)
  rw [HVB.out]
  clear hq S1 S2 S3 S4
  rw [← HZC.out] at HRR
  go_wp2_with (rw [← HZC.out]; refine wpList_store_row rfl 26 (.tmp 4) (.tmp 23) rfl (w.heap.size + 1 + 1) (ndC zeroN).toArray ?ha ?hb 26 (ndC zeroN).toArray HRR.out HSZ.out rfl (ndC_one zeroN) ?_)
  all_goals first | rfl | skip
  have hr := setRow_heap WE (w.heap.size + 1 + 1) _ (ndC zeroN).toArray _ _ HRR.out
  have hl := run_loadVar_row (P := Tryd.prog) (WE.setRow (w.heap.size + 1 + 1) (ndC zeroN).toArray) (w.heap.size + 1 + 1) 26 26 (ndC zeroN).toArray (0, 0) _ hr Tryd.underlying26 rfl HSZ.out
  refine bodyPost_ret (v := .tuple #[ndV zeroN, .int .i64 410]) ?_ rfl ⟨rfl, below_setRow HB.out (by omega) _⟩
  unfold ndV
  simp [results, Tryd.results15, asAddr, hl]
set_option maxHeartbeats 4000000 in
theorem rjoin_n3 (a b : Nd) (w : World) (HOA : Hid (NdOk a)) (HOB : Hid (NdOk b)) (HVA : Hid (vN a = true)) (HVB : Hid (vN b = true)) (hs : 1073741824 < a.c + b.c) :
    Calls Tryd.prog 15 #[ndV a, ndV b] w fun e w' => e = .returned (.tuple #[ndV zeroN, .int .i64 410]) ∧ Below w.heap.size w w' := by
  have hba := vN_bd HVA.out
  have hbb := vN_bd HVB.out
  have hw : IntKind.i64.wrap (a.c + b.c) = a.c + b.c := IntWalk.i64_in _ (by omega)
  have ds : decide (1073741824 < a.c + b.c) = true := decide_eq_true hs
  clear hba hbb
  have HSA : Hid ((Tryd.prog.info? 26).map (·.size) = some (ndC a).toArray.size) := Lib.hid (by rw [size34 HOA.out]; simp)
  have HSB : Hid ((Tryd.prog.info? 26).map (·.size) = some (ndC b).toArray.size) := Lib.hid (by rw [size34 HOB.out]; simp)
  have HSZ : Hid ((Tryd.prog.info? 26).map (·.size) = some (ndC zeroN).toArray.size) := Lib.hid (by rw [size34 zeroN_ok]; simp)
  have HZC := Lib.hid zeroN_cells
  obtain ⟨t1, t2, t3, t4, t5⟩ := three_rows w (ndC a).toArray (ndC b).toArray (ndC zeroN).toArray 26
  have T1 := Lib.hid t1
  have T2 := Lib.hid t2
  have T3 := Lib.hid t3
  have T4 := Lib.hid t4
  rw [HZC.out] at T1 T2 T3 T4
  clear t1 t2 t3 t4 t5
  go_enter Tryd.func15, Tryd.ntmps15
  unfold ndV
  go_wp2_with (refine wpList_load_row rfl 26 (.tmp 2) rfl w.heap.size rfl 26 _ (0, 0) _ T2.out Tryd.underlying26 rfl HSA.out ?_)
  rw [show Value.agg (ndC a).toArray = ndV a from rfl]
  refine (rvalid_any a _ HOA.out).mono ?_
  rintro e W1 ⟨rfl, hq⟩
  have S1 := Lib.hid (T1.out.trans (hq.mono T1.out.size))
  have S2 := Lib.hid (row_kept T2.out hq)
  have S3 := Lib.hid (row_kept T3.out hq)
  have S4 := Lib.hid (row_kept T4.out hq)
  rw [HVA.out]
  clear hq T1 T2 T3 T4
  go_wp2_with (refine wpList_unguard rfl ?_; refine wpList_load_row rfl 26 (.tmp 3) rfl (w.heap.size + 1) rfl 26 _ (0, 0) _ S3.out Tryd.underlying26 rfl HSB.out ?_)
  rw [show Value.agg (ndC b).toArray = ndV b from rfl]
  refine (rvalid_any b _ HOB.out).mono ?_
  rintro e WE ⟨rfl, hq⟩
  have HB := Lib.hid (S1.out.trans (hq.mono S1.out.size))
  have R2 := Lib.hid (row_kept S2.out hq)
  have R3 := Lib.hid (row_kept S3.out hq)
  have HRR := Lib.hid (row_kept S4.out hq)
  rw [HVB.out]
  clear hq S1 S2 S3 S4
  have k1 := cell_c HOA.out R2.out
  have k2 := cell_c HOB.out R3.out
  rw [← HZC.out] at HRR
  go_wp2_with (rw [← HZC.out]; refine wpList_store_row rfl 26 (.tmp 4) (.tmp 23) rfl (w.heap.size + 1 + 1) (ndC zeroN).toArray ?ha ?hb 26 (ndC zeroN).toArray HRR.out HSZ.out rfl (ndC_one zeroN) ?_)
  all_goals first | rfl | skip
  have hr := setRow_heap WE (w.heap.size + 1 + 1) _ (ndC zeroN).toArray _ _ HRR.out
  have hl := run_loadVar_row (P := Tryd.prog) (WE.setRow (w.heap.size + 1 + 1) (ndC zeroN).toArray) (w.heap.size + 1 + 1) 26 26 (ndC zeroN).toArray (0, 0) _ hr Tryd.underlying26 rfl HSZ.out
  refine bodyPost_ret (v := .tuple #[ndV zeroN, .int .i64 410]) ?_ rfl ⟨rfl, below_setRow HB.out (by omega) _⟩
  unfold ndV
  simp [results, Tryd.results15, asAddr, hl]
set_option maxHeartbeats 4000000 in
theorem rjoin_yes (a b : Nd) (w : World) (HOA : Hid (NdOk a)) (HOB : Hid (NdOk b)) (hv : vL [a, b] = true) :
    Calls Tryd.prog 15 #[ndV a, ndV b] w fun e w' => e = .returned (.tuple #[ndV (joinN a b), .int .i64 0]) ∧ Below w.heap.size w w' := by
  have HJ : Hid (NdOk (joinN a b)) := Lib.hid (join_ok HOA.out HOB.out hv)
  have hvp := (vL_pair a b).1 hv
  have hba := vN_bd hvp.1.1
  have hbb := vN_bd hvp.1.2
  have HVA := Lib.hid hvp.1.1
  have HVB := Lib.hid hvp.1.2
  have HWC : Hid (IntKind.i64.wrap (a.c + b.c) = a.c + b.c) := Lib.hid (IntWalk.i64_in _ (by omega))
  have HWP : Hid (IntKind.i64.wrap (a.p + b.p) = a.p + b.p) := Lib.hid (IntWalk.i64_in _ (by omega))
  have ds : decide (1073741824 < a.c + b.c) = false := decide_eq_false (by omega)
  have HZS : Hid (∀ z ∈ ([a.c, a.p, b.c, b.p] : List Int), -9223372036854775808 ≤ z ∧ z ≤ 9223372036854775807) := Lib.hid (fun z hz => by
    simp only [List.mem_cons, List.not_mem_nil, or_false] at hz
    rcases hz with rfl | rfl | rfl | rfl <;> omega)
  have HS1 : Hid ((Tryd.prog.info? 26).map (·.size) = some (ndC (joinN a b)).toArray.size) := Lib.hid (by rw [size34 HJ.out]; simp)
  have HS2 : Hid (34 = (ndC (joinN a b)).toArray.size) := Lib.hid (by simp [ndC_length HJ.out])
  have hw := HWC.out
  clear hv hvp hba hbb
  have HSA : Hid ((Tryd.prog.info? 26).map (·.size) = some (ndC a).toArray.size) := Lib.hid (by rw [size34 HOA.out]; simp)
  have HSB : Hid ((Tryd.prog.info? 26).map (·.size) = some (ndC b).toArray.size) := Lib.hid (by rw [size34 HOB.out]; simp)
  have HSZ : Hid ((Tryd.prog.info? 26).map (·.size) = some (ndC zeroN).toArray.size) := Lib.hid (by rw [size34 zeroN_ok]; simp)
  have HZC := Lib.hid zeroN_cells
  obtain ⟨t1, t2, t3, t4, t5⟩ := three_rows w (ndC a).toArray (ndC b).toArray (ndC zeroN).toArray 26
  have T1 := Lib.hid t1
  have T2 := Lib.hid t2
  have T3 := Lib.hid t3
  have T4 := Lib.hid t4
  rw [HZC.out] at T1 T2 T3 T4
  clear t1 t2 t3 t4 t5
  go_enter Tryd.func15, Tryd.ntmps15
  unfold ndV
  go_wp2_with (refine wpList_load_row rfl 26 (.tmp 2) rfl w.heap.size rfl 26 _ (0, 0) _ T2.out Tryd.underlying26 rfl HSA.out ?_)
  rw [show Value.agg (ndC a).toArray = ndV a from rfl]
  refine (rvalid_any a _ HOA.out).mono ?_
  rintro e W1 ⟨rfl, hq⟩
  have S1 := Lib.hid (T1.out.trans (hq.mono T1.out.size))
  have S2 := Lib.hid (row_kept T2.out hq)
  have S3 := Lib.hid (row_kept T3.out hq)
  have S4 := Lib.hid (row_kept T4.out hq)
  rw [HVA.out]
  clear hq T1 T2 T3 T4
  go_wp2_with (refine wpList_unguard rfl ?_; refine wpList_load_row rfl 26 (.tmp 3) rfl (w.heap.size + 1) rfl 26 _ (0, 0) _ S3.out Tryd.underlying26 rfl HSB.out ?_)
  rw [show Value.agg (ndC b).toArray = ndV b from rfl]
  refine (rvalid_any b _ HOB.out).mono ?_
  rintro e WE ⟨rfl, hq⟩
  have HB := Lib.hid (S1.out.trans (hq.mono S1.out.size))
  have R2 := Lib.hid (row_kept S2.out hq)
  have R3 := Lib.hid (row_kept S3.out hq)
  have HRR := Lib.hid (row_kept S4.out hq)
  rw [HVB.out]
  clear hq S1 S2 S3 S4
  have k1 := cell_c HOA.out R2.out
  have k2 := cell_c HOB.out R3.out
  rw [← HZC.out] at HRR
  have hsz1 : w.heap.size + 1 + 1 + 1 ≤ WE.heap.size := (Array.getElem?_eq_some_iff.1 HRR.out).1
  have hbn := (Below.refl _ WE).alloc (Nat.le_refl _) (.cells #[] 5)
  have HSZ0 : Hid (w.heap.size + 1 + 1 + 1 ≤ (WE.alloc (.cells #[] 5)).heap.size) := Lib.hid (Nat.le_trans hsz1 hbn.size)
  have HBN := Lib.hid (HB.out.trans (hbn.mono HB.out.size))
  have HRRn := Lib.hid (row_kept HRR.out hbn)
  have HR2n := Lib.hid (row_kept R2.out hbn)
  have HR3n := Lib.hid (row_kept R3.out hbn)
  have HRD : Hid (Rd (WE.alloc (.cells #[] 5)) (WE.alloc (.cells #[] 5)).heap.size (some ⟨w.heap.size, 0, none⟩) a.d) := Lib.hid (fun _ => ⟨_, 0, rfl, by have := HSZ0.out; omega, bytes_node HR2n.out⟩)
  have HO0 := Lib.hid (OwnB.empty WE (w.heap.size + 1 + 1 + 1) hsz1)
  have HL0 : Hid (([] : List Nat).length + 32 ≤ 1099511627776) := Lib.hid (by simp)
  have HLA := Lib.hid HOA.out.len
  have HLB := Lib.hid HOB.out.len
  have HL1 : Hid (([] ++ a.d).length + 32 ≤ 1099511627776) := Lib.hid (by rw [List.nil_append, HLA.out]; omega)
  clear hsz1 hbn
  go_wp2_with (first | (at_builtin; refine wpList_append_bytes rfl (.tmp 24) (.tmp 26) rfl (w.heap.size + 1 + 1 + 1) _ [] a.d rfl HO0 (some ⟨w.heap.size, 0, none⟩) 32 32 rfl HLA (fun h => by cases h) HRD HL0.out HSZ0.out ?_; intro v1 W4 HO4 HB4; have HR24 := Lib.hid ((HB4.out.block _ (by omega)).trans HR2n.out); have HR34 := Lib.hid ((HB4.out.block _ (by omega)).trans HR3n.out); have HRR4 := Lib.hid ((HB4.out.block _ (by omega)).trans HRRn.out); have HSZ4 := Lib.hid (Nat.le_trans HSZ0.out HB4.out.size); have HRD4 : Hid (Rd W4 W4.heap.size (some ⟨w.heap.size + 1, 0, none⟩) b.d) := Lib.hid (fun _ => ⟨_, 0, rfl, (by have := HSZ4.out; omega), bytes_node HR34.out⟩)) | (at_builtin; refine wpList_append_bytes rfl (.tmp 28) (.tmp 30) rfl (w.heap.size + 1 + 1 + 1) _ ([] ++ a.d) b.d rfl HO4 (some ⟨w.heap.size + 1, 0, none⟩) 32 32 rfl HLB (fun h => by cases h) HRD4 HL1.out HSZ4.out ?_; intro v2 W5 HO5 HB5; have HR25 := Lib.hid ((HB5.out.block _ (by omega)).trans HR24.out); have HR35 := Lib.hid ((HB5.out.block _ (by omega)).trans HR34.out); have HRR5 := Lib.hid ((HB5.out.block _ (by omega)).trans HRR4.out); have HSZ5 := Lib.hid (Nat.le_trans HSZ4.out HB5.out.size); have q1 := cell_c HOA.out HR25.out; have q2 := cell_p HOA.out HR25.out; have q3 := cell_c HOB.out HR35.out; have q4 := cell_p HOB.out HR35.out))
  have HBT5 := Lib.hid ((HBN.out.trans (HB4.out.mono (by omega))).trans (HB5.out.mono (by omega)))
  clear q1 q2 q3 q4 k1 k2
  have hq := heap_alloc_new W5 (.cells #[.int .i64 a.c, .int .i64 a.p, .int .i64 b.c, .int .i64 b.p] 3)
  have hba := (Below.refl _ W5).alloc (Nat.le_refl _) (.cells #[.int .i64 a.c, .int .i64 a.p, .int .i64 b.c, .int .i64 b.p] 3)
  have HBT6 := Lib.hid (HBT5.out.trans (hba.mono HBT5.out.size))
  have HSZ6 := Lib.hid (Nat.le_trans HSZ5.out hba.size)
  have HO6 := Lib.hid (HO5.out.below hba)
  have HR26 := Lib.hid (row_kept HR25.out hba)
  have HR36 := Lib.hid (row_kept HR35.out hba)
  have HRR6 := Lib.hid (row_kept HRR5.out hba)
  have HCS : Hid (∀ i, i < 4 → (W5.alloc (.cells #[.int .i64 a.c, .int .i64 a.p, .int .i64 b.c, .int .i64 b.p] 3)).cell? ⟨W5.heap.size, i, none⟩ = some (.int .i64 (([a.c, a.p, b.c, b.p] : List Int).getD i 0))) := Lib.hid (fun i hi => four_cells hq i hi)
  clear hq hba
  refine (rints_any ([a.c, a.p, b.c, b.p] : List Int) W5.heap.size 4 4 _ HZS rfl (by omega) HCS (by simp)).mono ?_
  rintro e W6 ⟨v6, rfl, ho6, hq6⟩
  obtain ⟨A6, n6, c6, rfl, hn6, hc6, hA6, HR6⟩ := ho6.slice
  have HBT7 := Lib.hid (HBT6.out.trans (hq6.mono HBT6.out.size))
  have HSZ7 := Lib.hid (Nat.le_trans HSZ6.out hq6.size)
  have HO7 := Lib.hid (HO6.out.below hq6)
  have HR27 := Lib.hid (row_kept HR26.out hq6)
  have HR37 := Lib.hid (row_kept HR36.out hq6)
  have HRR7 := Lib.hid (row_kept HRR6.out hq6)
  have HEL : Hid (n6 ≤ 100) := Lib.hid (by rw [← hn6.out]; have := encI_length ([a.c, a.p, b.c, b.p] : List Int); simp only [List.length_cons, List.length_nil] at this; omega)
  have HL6 : Hid (([] ++ a.d ++ b.d).length + n6 ≤ 1099511627776) := Lib.hid (by simp only [List.nil_append, List.length_append, HLA.out, HLB.out]; have := HEL.out; omega)
  clear ho6 hq6
  go_wp2_with (at_builtin; refine wpList_append_bytes rfl (.tmp 32) (.tmp 42) rfl (w.heap.size + 1 + 1 + 1) _ ([] ++ a.d ++ b.d) (encI ([a.c, a.p, b.c, b.p] : List Int)) rfl HO7 A6 n6 c6 rfl hn6 hA6.out HR6 HL6.out HSZ7.out ?_; intro v7 W7 HO8 HB8)
  obtain ⟨A7, n7, c7, rfl, hn7, hc7, hA7, HR7⟩ := HO8.out.slice
  have R28 := Lib.hid ((HB8.out.block _ (by omega)).trans HR27.out)
  have R38 := Lib.hid ((HB8.out.block _ (by omega)).trans HR37.out)
  have RR8 := Lib.hid ((HB8.out.block _ (by omega)).trans HRR7.out)
  have HBT8 := Lib.hid (HBT7.out.trans (HB8.out.mono (by omega)))
  have HN7 : n7 ≤ 1000 := by rw [← hn7.out]; have := HEL.out; simp only [List.length_append, List.nil_append, HLA.out, HLB.out, hn6.out]; omega
  have HBY : Hid (Bytes ([] ++ a.d ++ b.d ++ encI ([a.c, a.p, b.c, b.p] : List Int))) := Lib.hid (bytes_app (bytes_app (bytes_app (fun x hx => by cases hx) HOA.out.bytes) HOB.out.bytes) (encI_bytes _))
  have HLD : Hid (dgV (tagged (strL sumTag) ([] ++ a.d ++ b.d ++ encI ([a.c, a.p, b.c, b.p] : List Int))) = dgV (joinN a b).d) := Lib.hid (by rw [← join_d, List.nil_append]; rfl)
  clear HRR R2 R3 HB HBN HRRn HR2n HR3n HRD HO0 HL0 HL1 HO4 HB4 HR24 HR34 HRR4 HSZ4 HRD4 HO5 HB5 HR25 HR35 HRR5 HSZ5 HBT5 HBT6 HSZ6 HO6 HR26 HR36 HRR6 HCS HBT7 HSZ7 HO7 HR27 HR37 HRR7 HL6 HO8 HB8 HR6
  refine region_flow3 (by kernel_rfl) (by kernel_rfl) (fun i => Nat.beq i 13 || Nat.beq i 14) (fun i => i) (by kernel_rfl) (fun fx => #[ndV a, ndV b, Value.pointer (some { block := w.heap.size, off := 0 }), Value.pointer (some { block := w.heap.size + 1, off := 0 }), Value.pointer (some { block := w.heap.size + 1 + 1, off := 0 }), fx 14, Value.slice A7 n7 c7, ndV a, Value.bool true, Value.bool false, Value.bool false, ndV b, Value.bool true, Value.bool false, Value.bool false, Value.bool false, Value.pointer (some { block := w.heap.size, off := 32 }), Value.int IntKind.i64 a.c, Value.pointer (some { block := w.heap.size + 1, off := 32 }), Value.int IntKind.i64 b.c, Value.int IntKind.i64 (a.c + b.c), Value.bool false, Value.bool false, undef, Value.slice (some { block := WE.heap.size, off := 0 }) 0 0, Value.pointer (some { block := w.heap.size, off := 0 }), Value.slice (some { block := w.heap.size, off := 0 }) 32 32, v1, v1, Value.pointer (some { block := w.heap.size + 1, off := 0 }), Value.slice (some { block := w.heap.size + 1, off := 0 }) 32 32, v2, v2, Value.pointer (some { block := w.heap.size, off := 32 }), Value.int IntKind.i64 a.c, Value.pointer (some { block := w.heap.size, off := 33 }), Value.int IntKind.i64 a.p, Value.pointer (some { block := w.heap.size + 1, off := 32 }), Value.int IntKind.i64 b.c, Value.pointer (some { block := w.heap.size + 1, off := 33 }), Value.int IntKind.i64 b.p, Value.slice (some { block := W5.heap.size, off := 0 }) 4 4, Value.slice A6 n6 c6, Value.slice A7 n7 c7, fx 0, fx 1, fx 2, fx 3, fx 4, fx 5, fx 6, fx 7, fx 8, fx 9, fx 10, fx 11, fx 12]) (fun i => bif Nat.beq i 14 then Value.int IntKind.i64 0 else undef) (fun L fx w' => (L 13 = false → Below W7.heap.size W7 w')) (fun fi fv _ fw => wJr w w.heap.size (w.heap.size + 1) (w.heap.size + 1 + 1) A7 n7 c7 a b fi fv fw) (fun _ => (Below.refl _ _).drew) ?_ ?_
  · refine ⟨?_, ?_, ?_, ?_, ?_, ?_, ?_, ?_, ?_, ?_, ?_, ?_, ?_, ?_, ?_, trivial⟩
    all_goals intro L fx w' hC hi hcl hdn hd
    · have hnd : L 13 = false := Bool.eq_false_iff.2 (fun h => by have := (hcl 1 0 (hcl 12 1 (hcl 13 12 h (by kernel_rfl)) (by kernel_rfl)) (by kernel_rfl)); rw [hi] at this; cases this)
      go_wp2_with fail
      exact ⟨_, rfl, (fun _ => hC hnd), rfl, fun _ _ _ _ _ h => h⟩
    · have h0 : fx 0 = Value.slice A7 n7 c7 := hd.1 rfl
      have hnd : L 13 = false := Bool.eq_false_iff.2 (fun h => by have := (hcl 12 1 (hcl 13 12 h (by kernel_rfl)) (by kernel_rfl)); rw [hi] at this; cases this)
      have hb12 := hC hnd
      have HRk := Lib.hid ((HR7.out.below hb12 (Nat.le_refl _)).mono hb12.size)
      go_wp2_with fail
      refine (rtagged_any sumTag A7 n7 c7 _ w' (by decide) hn7 hc7 hA7.out (by omega) HBY HRk).mono ?_
      rintro e w2 ⟨rfl, hq⟩
      rw [HLD.out]
      go_wp2_with fail
      exact ⟨_, by show _ = Act.mk #[ndV a, ndV b, Value.pointer (some { block := w.heap.size, off := 0 }), Value.pointer (some { block := w.heap.size + 1, off := 0 }), Value.pointer (some { block := w.heap.size + 1 + 1, off := 0 }), fx 14, Value.slice A7 n7 c7, ndV a, Value.bool true, Value.bool false, Value.bool false, ndV b, Value.bool true, Value.bool false, Value.bool false, Value.bool false, Value.pointer (some { block := w.heap.size, off := 32 }), Value.int IntKind.i64 a.c, Value.pointer (some { block := w.heap.size + 1, off := 32 }), Value.int IntKind.i64 b.c, Value.int IntKind.i64 (a.c + b.c), Value.bool false, Value.bool false, undef, Value.slice (some { block := WE.heap.size, off := 0 }) 0 0, Value.pointer (some { block := w.heap.size, off := 0 }), Value.slice (some { block := w.heap.size, off := 0 }) 32 32, v1, v1, Value.pointer (some { block := w.heap.size + 1, off := 0 }), Value.slice (some { block := w.heap.size + 1, off := 0 }) 32 32, v2, v2, Value.pointer (some { block := w.heap.size, off := 32 }), Value.int IntKind.i64 a.c, Value.pointer (some { block := w.heap.size, off := 33 }), Value.int IntKind.i64 a.p, Value.pointer (some { block := w.heap.size + 1, off := 32 }), Value.int IntKind.i64 b.c, Value.pointer (some { block := w.heap.size + 1, off := 33 }), Value.int IntKind.i64 b.p, Value.slice (some { block := W5.heap.size, off := 0 }) 4 4, Value.slice A6 n6 c6, Value.slice A7 n7 c7, fx 0, dgV (joinN a b).d, fx 2, fx 3, fx 4, fx 5, fx 6, fx 7, fx 8, fx 9, fx 10, fx 11, fx 12] []; rw [h0] <;> rfl, fun _ => hb12.trans (hq.mono hb12.size), rfl, fun j v t _ _ h => wJr_below hq j v h⟩
    · have hnd : L 13 = false := Bool.eq_false_iff.2 (fun h => by have := (hcl 3 2 (hcl 6 3 (hcl 12 6 (hcl 13 12 h (by kernel_rfl)) (by kernel_rfl)) (by kernel_rfl)) (by kernel_rfl)); rw [hi] at this; cases this)
      go_wp2_with fail
      exact ⟨_, rfl, (fun _ => hC hnd), rfl, fun _ _ _ _ _ h => h⟩
    · have h2 : fx 2 = Value.pointer (some ⟨w.heap.size, 32, none⟩) := hd.1 rfl
      have hnd : L 13 = false := Bool.eq_false_iff.2 (fun h => by have := (hcl 6 3 (hcl 12 6 (hcl 13 12 h (by kernel_rfl)) (by kernel_rfl)) (by kernel_rfl)); rw [hi] at this; cases this)
      have hc := cell_c HOA.out (row_kept R28.out (hC hnd))
      go_wp2_with fail
      exact ⟨_, by show _ = Act.mk #[ndV a, ndV b, Value.pointer (some { block := w.heap.size, off := 0 }), Value.pointer (some { block := w.heap.size + 1, off := 0 }), Value.pointer (some { block := w.heap.size + 1 + 1, off := 0 }), fx 14, Value.slice A7 n7 c7, ndV a, Value.bool true, Value.bool false, Value.bool false, ndV b, Value.bool true, Value.bool false, Value.bool false, Value.bool false, Value.pointer (some { block := w.heap.size, off := 32 }), Value.int IntKind.i64 a.c, Value.pointer (some { block := w.heap.size + 1, off := 32 }), Value.int IntKind.i64 b.c, Value.int IntKind.i64 (a.c + b.c), Value.bool false, Value.bool false, undef, Value.slice (some { block := WE.heap.size, off := 0 }) 0 0, Value.pointer (some { block := w.heap.size, off := 0 }), Value.slice (some { block := w.heap.size, off := 0 }) 32 32, v1, v1, Value.pointer (some { block := w.heap.size + 1, off := 0 }), Value.slice (some { block := w.heap.size + 1, off := 0 }) 32 32, v2, v2, Value.pointer (some { block := w.heap.size, off := 32 }), Value.int IntKind.i64 a.c, Value.pointer (some { block := w.heap.size, off := 33 }), Value.int IntKind.i64 a.p, Value.pointer (some { block := w.heap.size + 1, off := 32 }), Value.int IntKind.i64 b.c, Value.pointer (some { block := w.heap.size + 1, off := 33 }), Value.int IntKind.i64 b.p, Value.slice (some { block := W5.heap.size, off := 0 }) 4 4, Value.slice A6 n6 c6, Value.slice A7 n7 c7, fx 0, fx 1, fx 2, Value.int .i64 (a.c), fx 4, fx 5, fx 6, fx 7, fx 8, fx 9, fx 10, fx 11, fx 12] []; rw [h2] <;> rfl, (fun _ => hC hnd), rfl, fun _ _ _ _ _ h => h⟩
    · have hnd : L 13 = false := Bool.eq_false_iff.2 (fun h => by have := (hcl 5 4 (hcl 6 5 (hcl 12 6 (hcl 13 12 h (by kernel_rfl)) (by kernel_rfl)) (by kernel_rfl)) (by kernel_rfl)); rw [hi] at this; cases this)
      go_wp2_with fail
      exact ⟨_, rfl, (fun _ => hC hnd), rfl, fun _ _ _ _ _ h => h⟩
    · have h4 : fx 4 = Value.pointer (some ⟨w.heap.size + 1, 32, none⟩) := hd.1 rfl
      have hnd : L 13 = false := Bool.eq_false_iff.2 (fun h => by have := (hcl 6 5 (hcl 12 6 (hcl 13 12 h (by kernel_rfl)) (by kernel_rfl)) (by kernel_rfl)); rw [hi] at this; cases this)
      have hc := cell_c HOB.out (row_kept R38.out (hC hnd))
      go_wp2_with fail
      exact ⟨_, by show _ = Act.mk #[ndV a, ndV b, Value.pointer (some { block := w.heap.size, off := 0 }), Value.pointer (some { block := w.heap.size + 1, off := 0 }), Value.pointer (some { block := w.heap.size + 1 + 1, off := 0 }), fx 14, Value.slice A7 n7 c7, ndV a, Value.bool true, Value.bool false, Value.bool false, ndV b, Value.bool true, Value.bool false, Value.bool false, Value.bool false, Value.pointer (some { block := w.heap.size, off := 32 }), Value.int IntKind.i64 a.c, Value.pointer (some { block := w.heap.size + 1, off := 32 }), Value.int IntKind.i64 b.c, Value.int IntKind.i64 (a.c + b.c), Value.bool false, Value.bool false, undef, Value.slice (some { block := WE.heap.size, off := 0 }) 0 0, Value.pointer (some { block := w.heap.size, off := 0 }), Value.slice (some { block := w.heap.size, off := 0 }) 32 32, v1, v1, Value.pointer (some { block := w.heap.size + 1, off := 0 }), Value.slice (some { block := w.heap.size + 1, off := 0 }) 32 32, v2, v2, Value.pointer (some { block := w.heap.size, off := 32 }), Value.int IntKind.i64 a.c, Value.pointer (some { block := w.heap.size, off := 33 }), Value.int IntKind.i64 a.p, Value.pointer (some { block := w.heap.size + 1, off := 32 }), Value.int IntKind.i64 b.c, Value.pointer (some { block := w.heap.size + 1, off := 33 }), Value.int IntKind.i64 b.p, Value.slice (some { block := W5.heap.size, off := 0 }) 4 4, Value.slice A6 n6 c6, Value.slice A7 n7 c7, fx 0, fx 1, fx 2, fx 3, fx 4, Value.int .i64 (b.c), fx 6, fx 7, fx 8, fx 9, fx 10, fx 11, fx 12] []; rw [h4] <;> rfl, (fun _ => hC hnd), rfl, fun _ _ _ _ _ h => h⟩
    · have h3 : fx 3 = Value.int .i64 (a.c) := hd.1 rfl
      have h5 : fx 5 = Value.int .i64 (b.c) := hd.2.1 rfl
      have hnd : L 13 = false := Bool.eq_false_iff.2 (fun h => by have := (hcl 12 6 (hcl 13 12 h (by kernel_rfl)) (by kernel_rfl)); rw [hi] at this; cases this)
      have hw := HWC.out
      go_wp2_with fail
      exact ⟨_, by show _ = Act.mk #[ndV a, ndV b, Value.pointer (some { block := w.heap.size, off := 0 }), Value.pointer (some { block := w.heap.size + 1, off := 0 }), Value.pointer (some { block := w.heap.size + 1 + 1, off := 0 }), fx 14, Value.slice A7 n7 c7, ndV a, Value.bool true, Value.bool false, Value.bool false, ndV b, Value.bool true, Value.bool false, Value.bool false, Value.bool false, Value.pointer (some { block := w.heap.size, off := 32 }), Value.int IntKind.i64 a.c, Value.pointer (some { block := w.heap.size + 1, off := 32 }), Value.int IntKind.i64 b.c, Value.int IntKind.i64 (a.c + b.c), Value.bool false, Value.bool false, undef, Value.slice (some { block := WE.heap.size, off := 0 }) 0 0, Value.pointer (some { block := w.heap.size, off := 0 }), Value.slice (some { block := w.heap.size, off := 0 }) 32 32, v1, v1, Value.pointer (some { block := w.heap.size + 1, off := 0 }), Value.slice (some { block := w.heap.size + 1, off := 0 }) 32 32, v2, v2, Value.pointer (some { block := w.heap.size, off := 32 }), Value.int IntKind.i64 a.c, Value.pointer (some { block := w.heap.size, off := 33 }), Value.int IntKind.i64 a.p, Value.pointer (some { block := w.heap.size + 1, off := 32 }), Value.int IntKind.i64 b.c, Value.pointer (some { block := w.heap.size + 1, off := 33 }), Value.int IntKind.i64 b.p, Value.slice (some { block := W5.heap.size, off := 0 }) 4 4, Value.slice A6 n6 c6, Value.slice A7 n7 c7, fx 0, fx 1, fx 2, fx 3, fx 4, fx 5, Value.int .i64 (a.c + b.c), fx 7, fx 8, fx 9, fx 10, fx 11, fx 12] []; rw [h3, h5] <;> rfl, (fun _ => hC hnd), rfl, fun _ _ _ _ _ h => h⟩
    · have hnd : L 13 = false := Bool.eq_false_iff.2 (fun h => by have := (hcl 8 7 (hcl 11 8 (hcl 12 11 (hcl 13 12 h (by kernel_rfl)) (by kernel_rfl)) (by kernel_rfl)) (by kernel_rfl)); rw [hi] at this; cases this)
      go_wp2_with fail
      exact ⟨_, rfl, (fun _ => hC hnd), rfl, fun _ _ _ _ _ h => h⟩
    · have h7 : fx 7 = Value.pointer (some ⟨w.heap.size, 33, none⟩) := hd.1 rfl
      have hnd : L 13 = false := Bool.eq_false_iff.2 (fun h => by have := (hcl 11 8 (hcl 12 11 (hcl 13 12 h (by kernel_rfl)) (by kernel_rfl)) (by kernel_rfl)); rw [hi] at this; cases this)
      have hc := cell_p HOA.out (row_kept R28.out (hC hnd))
      go_wp2_with fail
      exact ⟨_, by show _ = Act.mk #[ndV a, ndV b, Value.pointer (some { block := w.heap.size, off := 0 }), Value.pointer (some { block := w.heap.size + 1, off := 0 }), Value.pointer (some { block := w.heap.size + 1 + 1, off := 0 }), fx 14, Value.slice A7 n7 c7, ndV a, Value.bool true, Value.bool false, Value.bool false, ndV b, Value.bool true, Value.bool false, Value.bool false, Value.bool false, Value.pointer (some { block := w.heap.size, off := 32 }), Value.int IntKind.i64 a.c, Value.pointer (some { block := w.heap.size + 1, off := 32 }), Value.int IntKind.i64 b.c, Value.int IntKind.i64 (a.c + b.c), Value.bool false, Value.bool false, undef, Value.slice (some { block := WE.heap.size, off := 0 }) 0 0, Value.pointer (some { block := w.heap.size, off := 0 }), Value.slice (some { block := w.heap.size, off := 0 }) 32 32, v1, v1, Value.pointer (some { block := w.heap.size + 1, off := 0 }), Value.slice (some { block := w.heap.size + 1, off := 0 }) 32 32, v2, v2, Value.pointer (some { block := w.heap.size, off := 32 }), Value.int IntKind.i64 a.c, Value.pointer (some { block := w.heap.size, off := 33 }), Value.int IntKind.i64 a.p, Value.pointer (some { block := w.heap.size + 1, off := 32 }), Value.int IntKind.i64 b.c, Value.pointer (some { block := w.heap.size + 1, off := 33 }), Value.int IntKind.i64 b.p, Value.slice (some { block := W5.heap.size, off := 0 }) 4 4, Value.slice A6 n6 c6, Value.slice A7 n7 c7, fx 0, fx 1, fx 2, fx 3, fx 4, fx 5, fx 6, fx 7, Value.int .i64 (a.p), fx 9, fx 10, fx 11, fx 12] []; rw [h7] <;> rfl, (fun _ => hC hnd), rfl, fun _ _ _ _ _ h => h⟩
    · have hnd : L 13 = false := Bool.eq_false_iff.2 (fun h => by have := (hcl 10 9 (hcl 11 10 (hcl 12 11 (hcl 13 12 h (by kernel_rfl)) (by kernel_rfl)) (by kernel_rfl)) (by kernel_rfl)); rw [hi] at this; cases this)
      go_wp2_with fail
      exact ⟨_, rfl, (fun _ => hC hnd), rfl, fun _ _ _ _ _ h => h⟩
    · have h9 : fx 9 = Value.pointer (some ⟨w.heap.size + 1, 33, none⟩) := hd.1 rfl
      have hnd : L 13 = false := Bool.eq_false_iff.2 (fun h => by have := (hcl 11 10 (hcl 12 11 (hcl 13 12 h (by kernel_rfl)) (by kernel_rfl)) (by kernel_rfl)); rw [hi] at this; cases this)
      have hc := cell_p HOB.out (row_kept R38.out (hC hnd))
      go_wp2_with fail
      exact ⟨_, by show _ = Act.mk #[ndV a, ndV b, Value.pointer (some { block := w.heap.size, off := 0 }), Value.pointer (some { block := w.heap.size + 1, off := 0 }), Value.pointer (some { block := w.heap.size + 1 + 1, off := 0 }), fx 14, Value.slice A7 n7 c7, ndV a, Value.bool true, Value.bool false, Value.bool false, ndV b, Value.bool true, Value.bool false, Value.bool false, Value.bool false, Value.pointer (some { block := w.heap.size, off := 32 }), Value.int IntKind.i64 a.c, Value.pointer (some { block := w.heap.size + 1, off := 32 }), Value.int IntKind.i64 b.c, Value.int IntKind.i64 (a.c + b.c), Value.bool false, Value.bool false, undef, Value.slice (some { block := WE.heap.size, off := 0 }) 0 0, Value.pointer (some { block := w.heap.size, off := 0 }), Value.slice (some { block := w.heap.size, off := 0 }) 32 32, v1, v1, Value.pointer (some { block := w.heap.size + 1, off := 0 }), Value.slice (some { block := w.heap.size + 1, off := 0 }) 32 32, v2, v2, Value.pointer (some { block := w.heap.size, off := 32 }), Value.int IntKind.i64 a.c, Value.pointer (some { block := w.heap.size, off := 33 }), Value.int IntKind.i64 a.p, Value.pointer (some { block := w.heap.size + 1, off := 32 }), Value.int IntKind.i64 b.c, Value.pointer (some { block := w.heap.size + 1, off := 33 }), Value.int IntKind.i64 b.p, Value.slice (some { block := W5.heap.size, off := 0 }) 4 4, Value.slice A6 n6 c6, Value.slice A7 n7 c7, fx 0, fx 1, fx 2, fx 3, fx 4, fx 5, fx 6, fx 7, fx 8, fx 9, Value.int .i64 (b.p), fx 11, fx 12] []; rw [h9] <;> rfl, (fun _ => hC hnd), rfl, fun _ _ _ _ _ h => h⟩
    · have h8 : fx 8 = Value.int .i64 (a.p) := hd.1 rfl
      have h10 : fx 10 = Value.int .i64 (b.p) := hd.2.1 rfl
      have hnd : L 13 = false := Bool.eq_false_iff.2 (fun h => by have := (hcl 12 11 (hcl 13 12 h (by kernel_rfl)) (by kernel_rfl)); rw [hi] at this; cases this)
      have hw := HWP.out
      go_wp2_with fail
      exact ⟨_, by show _ = Act.mk #[ndV a, ndV b, Value.pointer (some { block := w.heap.size, off := 0 }), Value.pointer (some { block := w.heap.size + 1, off := 0 }), Value.pointer (some { block := w.heap.size + 1 + 1, off := 0 }), fx 14, Value.slice A7 n7 c7, ndV a, Value.bool true, Value.bool false, Value.bool false, ndV b, Value.bool true, Value.bool false, Value.bool false, Value.bool false, Value.pointer (some { block := w.heap.size, off := 32 }), Value.int IntKind.i64 a.c, Value.pointer (some { block := w.heap.size + 1, off := 32 }), Value.int IntKind.i64 b.c, Value.int IntKind.i64 (a.c + b.c), Value.bool false, Value.bool false, undef, Value.slice (some { block := WE.heap.size, off := 0 }) 0 0, Value.pointer (some { block := w.heap.size, off := 0 }), Value.slice (some { block := w.heap.size, off := 0 }) 32 32, v1, v1, Value.pointer (some { block := w.heap.size + 1, off := 0 }), Value.slice (some { block := w.heap.size + 1, off := 0 }) 32 32, v2, v2, Value.pointer (some { block := w.heap.size, off := 32 }), Value.int IntKind.i64 a.c, Value.pointer (some { block := w.heap.size, off := 33 }), Value.int IntKind.i64 a.p, Value.pointer (some { block := w.heap.size + 1, off := 32 }), Value.int IntKind.i64 b.c, Value.pointer (some { block := w.heap.size + 1, off := 33 }), Value.int IntKind.i64 b.p, Value.slice (some { block := W5.heap.size, off := 0 }) 4 4, Value.slice A6 n6 c6, Value.slice A7 n7 c7, fx 0, fx 1, fx 2, fx 3, fx 4, fx 5, fx 6, fx 7, fx 8, fx 9, fx 10, Value.int .i64 (a.p + b.p), fx 12] []; rw [h8, h10] <;> rfl, (fun _ => hC hnd), rfl, fun _ _ _ _ _ h => h⟩
    · have h1 : fx 1 = dgV (joinN a b).d := hd.1 rfl
      have h6 : fx 6 = Value.int .i64 (a.c + b.c) := hd.2.1 rfl
      have h11 : fx 11 = Value.int .i64 (a.p + b.p) := hd.2.2.1 rfl
      have hnd : L 13 = false := Bool.eq_false_iff.2 (fun h => by have := (hcl 13 12 h (by kernel_rfl)); rw [hi] at this; cases this)
      refine wpList_build_node rfl (.tmp 45) (.tmp 50) (.tmp 55) rfl (joinN a b).d (a.c + b.c) (a.p + b.p) HJ.out.len h1 h6 h11 ?_
      clear hd
      go_wp2_with fail
      exact ⟨_, by show _ = Act.mk #[ndV a, ndV b, Value.pointer (some { block := w.heap.size, off := 0 }), Value.pointer (some { block := w.heap.size + 1, off := 0 }), Value.pointer (some { block := w.heap.size + 1 + 1, off := 0 }), fx 14, Value.slice A7 n7 c7, ndV a, Value.bool true, Value.bool false, Value.bool false, ndV b, Value.bool true, Value.bool false, Value.bool false, Value.bool false, Value.pointer (some { block := w.heap.size, off := 32 }), Value.int IntKind.i64 a.c, Value.pointer (some { block := w.heap.size + 1, off := 32 }), Value.int IntKind.i64 b.c, Value.int IntKind.i64 (a.c + b.c), Value.bool false, Value.bool false, undef, Value.slice (some { block := WE.heap.size, off := 0 }) 0 0, Value.pointer (some { block := w.heap.size, off := 0 }), Value.slice (some { block := w.heap.size, off := 0 }) 32 32, v1, v1, Value.pointer (some { block := w.heap.size + 1, off := 0 }), Value.slice (some { block := w.heap.size + 1, off := 0 }) 32 32, v2, v2, Value.pointer (some { block := w.heap.size, off := 32 }), Value.int IntKind.i64 a.c, Value.pointer (some { block := w.heap.size, off := 33 }), Value.int IntKind.i64 a.p, Value.pointer (some { block := w.heap.size + 1, off := 32 }), Value.int IntKind.i64 b.c, Value.pointer (some { block := w.heap.size + 1, off := 33 }), Value.int IntKind.i64 b.p, Value.slice (some { block := W5.heap.size, off := 0 }) 4 4, Value.slice A6 n6 c6, Value.slice A7 n7 c7, fx 0, fx 1, fx 2, fx 3, fx 4, fx 5, fx 6, fx 7, fx 8, fx 9, fx 10, fx 11, ndV (joinN a b)] []; rw [h1, h6, h11] <;> rfl, fun _ => hC hnd, rfl, fun _ _ _ _ _ h => h⟩
    · have h12 : fx 12 = ndV (joinN a b) := hd.1 rfl
      have hb21 := hC hi
      have hrow := row_kept RR8.out hb21
      refine wpList_store_row rfl 26 (.tmp 4) (.tmp 56) rfl (w.heap.size + 1 + 1) (ndC (joinN a b)).toArray rfl h12 26 _ hrow HS1.out HS2.out (ndC_one _) ?_
      clear hd
      go_wp2_with fail
      refine ⟨undef, by rw [← h12]; rfl, fun h => (updB_self h).elim, ⟨setRow_heap _ _ _ _ _ _ hrow, below_setRow (HBT8.out.trans (hb21.mono HBT8.out.size)) (by omega) _⟩, fun j v t hj hu h => ?_⟩
      refine wJr_pure j v ?_ h
      intro e
      subst e
      rw [hi] at hj; cases hj
    · go_wp2_with fail
      exact ⟨_, rfl, fun h => hC h, rfl, fun _ _ _ _ _ h => h⟩
  · intro L fx w' hC hS
    have H13 := Lib.hid (hS 13 (by decide) rfl)
    have H14 := Lib.hid (hS 14 (by decide) rfl)
    have h14 : fx 14 = .int .i64 0 := H14.out
    rw [h14]
    clear hS h14 H14
    go_wp2_with fail
    have hl := run_loadVar_row (P := Tryd.prog) w' (w.heap.size + 1 + 1) 26 26 (ndC (joinN a b)).toArray (0, 0) _ H13.out.1 Tryd.underlying26 rfl HS1.out
    refine bodyPost_ret (v := .tuple #[ndV (joinN a b), .int .i64 0]) ?_ rfl ⟨rfl, H13.out.2⟩
    unfold ndV
    simp [results, Tryd.results15, asAddr, hl]
theorem rjoin_any (a b : Nd) (w : World) (ha : NdOk a) (hb : NdOk b) :
    Calls Tryd.prog 15 #[ndV a, ndV b] w fun e w' => e = .returned (.tuple #[ndV (joinR a b), .int .i64 (joinE a b)]) ∧ Below w.heap.size w w' := by
  by_cases hv : vL [a, b] = true
  · unfold joinR joinE
    rw [if_pos hv, if_pos hv]
    exact rjoin_yes a b w (Lib.hid ha) (Lib.hid hb) hv
  · unfold joinR joinE
    rw [if_neg hv, if_neg hv]
    by_cases h1 : vN a = true
    · by_cases h2 : vN b = true
      · refine rjoin_n3 a b w (Lib.hid ha) (Lib.hid hb) (Lib.hid h1) (Lib.hid h2) ?_
        have : ¬ a.c + b.c ≤ 1073741824 := fun h => hv ((vL_pair a b).2 ⟨⟨h1, h2⟩, h⟩)
        omega
      · exact rjoin_n2 a b w (Lib.hid ha) (Lib.hid hb) (Lib.hid h1) (Lib.hid (by simpa using h2))
    · exact rjoin_n1 a b w (Lib.hid ha) (Lib.hid hb) (Lib.hid (by simpa using h1))
end Go.Proofs.YtgcmbiegbclhmaaDoor
