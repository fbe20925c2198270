/- sizarref41.Join. sizarref43.join. Guarded loads and comparisons in a region: the operation is known first, then that it is wanted. -/
import Derived.Test.YtmfmgeapecapiaaGreatDoorVS16
import Derived.Test.YtmfmgeapecapiaaGreatDoorVS6
import Derived.Test.YtmfmgeapecapiaaGreatDoorVS4
import Derived.Test.YtmfmgeapecapiaaGreatDoorVS14
import Derived.Deep.MidRow
set_option maxHeartbeats 64000001
open Go.Lib (hid)
namespace Go.Proofs.YtmfmgeapecapiaaGreatDoor
open Go.RowKit SzSha SzTree
set_option linter.unusedVariables false
set_option maxRecDepth 100000
theorem vL_pairJ (a b : Nd) : vL [a, b] = true ↔ (vN a = true ∧ vN b = true) ∧ a.c + b.c ≤ 1073741824 := by
 have h : sumC [a, b] = a.c + b.c := by simp [sumC]
 unfold vL
 rw [Bool.and_eq_true, decide_eq_true_eq, h]
 simp
def wJr (W0 : World) (ra : Nat) (rb : Nat) (br : Nat) (A7 : Option Addr) (n7 : Nat) (c7 : Nat) (a : Nd) (b : Nd) : Nat → Value → World → Prop
 | 0, fv, _ => fv = .slice A7 n7 c7
 | 1, fv, _ => fv = dgV (joinN a b).d
 | 2, fv, _ => fv = .pointer (some ⟨ra, 32, none⟩)
 | 3, fv, _ => fv = .int .i64 (a.c)
 | 4, fv, _ => fv = .pointer (some ⟨rb, 32, none⟩)
 | 5, fv, _ => fv = .int .i64 (b.c)
 | 6, fv, _ => fv = .int .i64 (a.c + b.c)
 | 7, fv, _ => fv = .pointer (some ⟨ra, 33, none⟩)
 | 8, fv, _ => fv = .int .i64 (a.p)
 | 9, fv, _ => fv = .pointer (some ⟨rb, 33, none⟩)
 | 10, fv, _ => fv = .int .i64 (b.p)
 | 11, fv, _ => fv = .int .i64 (a.p + b.p)
 | 12, fv, _ => fv = ndV (joinN a b)
 | 13, fv, fw => fw.heap[br]? = some (.cells (ndC (joinN a b)).toArray 39 (0, 0)) ∧ Below W0.heap.size W0 fw
 | 14, fv, _ => fv = .int .i64 (0)
 | _, _, _ => True
theorem wJr_below {W0 : World} {ra : Nat} {rb : Nat} {br : Nat} {A7 : Option Addr} {n7 : Nat} {c7 : Nat} {a : Nd} {b : Nd} {w w' : World} (hb : Below w.heap.size w w') : ∀ j v, wJr W0 ra rb br A7 n7 c7 a b j v w → wJr W0 ra rb br A7 n7 c7 a b j v w'
 | 0, v, h => h
 | 1, v, h => h
 | 2, v, h => h
 | 3, v, h => h
 | 4, v, h => h
 | 5, v, h => h
 | 6, v, h => h
 | 7, v, h => h
 | 8, v, h => h
 | 9, v, h => h
 | 10, v, h => h
 | 11, v, h => h
 | 12, v, h => h
 | 13, v, h => ⟨(hb.block br (Array.getElem?_eq_some_iff.1 h.1).1).trans h.1, h.2.trans (hb.mono h.2.size)⟩
 | 14, v, h => h
 | n + 15, v, h => trivial
theorem wJr_pure {W0 : World} {ra : Nat} {rb : Nat} {br : Nat} {A7 : Option Addr} {n7 : Nat} {c7 : Nat} {a : Nd} {b : Nd} {w w' : World} : ∀ j v, j ≠ 13 → wJr W0 ra rb br A7 n7 c7 a b j v w → wJr W0 ra rb br A7 n7 c7 a b j v w'
 | 0, v, _, h => h
 | 1, v, _, h => h
 | 2, v, _, h => h
 | 3, v, _, h => h
 | 4, v, _, h => h
 | 5, v, _, h => h
 | 6, v, _, h => h
 | 7, v, _, h => h
 | 8, v, _, h => h
 | 9, v, _, h => h
 | 10, v, _, h => h
 | 11, v, _, h => h
 | 12, v, _, h => h
 | 13, v, hh, _ => absurd rfl hh
 | 14, v, _, h => h
 | n + 15, v, _, h => trivial
theorem rjoin_n1 (a b : Nd) (w : World) (HOA : Hid (NdOk a)) (HOB : Hid (NdOk b)) (HVA : Hid (vN a = false)) :
  Calls Tryz.prog 128 #[ndV a, ndV b] w fun e w' => e = .returned (.tuple #[ndV zeroN, .int .i64 410]) ∧ Below w.heap.size w w' := by
 have HSA : Hid ((Tryz.prog.info? 39).map (·.size) = some (ndC a).toArray.size) := hid (by rw [size34 HOA.out]; simp)
 have HSB : Hid ((Tryz.prog.info? 39).map (·.size) = some (ndC b).toArray.size) := hid (by rw [size34 HOB.out]; simp)
 have HSZ : Hid ((Tryz.prog.info? 39).map (·.size) = some (ndC zeroN).toArray.size) := hid (by rw [size34 zeroN_ok]; simp)
 have HZC := hid zeroN_cells
 obtain ⟨t1, t2, t3, t4, t5⟩ := three_rows w (ndC a).toArray (ndC b).toArray (ndC zeroN).toArray 39
 have T1 := hid t1
 have T2 := hid t2
 have T3 := hid t3
 have T4 := hid t4
 rw [HZC.out] at T1 T2 T3 T4
 clear t1 t2 t3 t4 t5
 go_enter Tryz.func128, Tryz.ntmps128
 unfold ndV
 go_wp2_with (refine wpList_load_row rfl 39 (.tmp 2) rfl w.heap.size rfl 39 _ (0, 0) _ T2.out Tryz.underlying39 rfl HSA.out ?_)
 rw [show Value.agg (ndC a).toArray = ndV a from rfl]
 refine (rvalid_any a _ HOA.out).mono ?_
 rintro e W1 ⟨rfl, hq⟩
 have S1 := hid (T1.out.trans (hq.mono T1.out.size))
 have S2 := hid (row_kept T2.out hq)
 have S3 := hid (row_kept T3.out hq)
 have S4 := hid (row_kept T4.out hq)
 rw [HVA.out]
 clear hq T1 T2 T3 T4
 have HB := hid S1.out
 have HRR := hid S4.out
 clear S1 S4
 rw [← HZC.out] at HRR
 obtain ⟨WE, hwe⟩ : ∃ WE, WE = W1 := ⟨_, rfl⟩
 subst hwe
 go_wp2_with (rw [← HZC.out]; refine wpList_store_row rfl 39 (.tmp 4) (.tmp 23) rfl (w.heap.size + 1 + 1) (ndC zeroN).toArray ?ha ?hb 39 (ndC zeroN).toArray HRR.out HSZ.out rfl (ndC_one zeroN) ?_)
 all_goals first | rfl | skip
 have hr := setRow_heap WE (w.heap.size + 1 + 1) _ (ndC zeroN).toArray _ _ HRR.out
 have hl := run_loadVar_row (P := Tryz.prog) (WE.setRow (w.heap.size + 1 + 1) (ndC zeroN).toArray) (w.heap.size + 1 + 1) 39 39 (ndC zeroN).toArray (0, 0) _ hr Tryz.underlying39 rfl HSZ.out
 refine bodyPost_ret (v := .tuple #[ndV zeroN, .int .i64 410]) ?_ rfl ⟨rfl, below_setRow HB.out (by omega) _⟩
 unfold ndV
 simp [results, Tryz.results128, asAddr, hl]
theorem rjoin_n2 (a b : Nd) (w : World) (HOA : Hid (NdOk a)) (HOB : Hid (NdOk b)) (HVA : Hid (vN a = true)) (HVB : Hid (vN b = false)) :
  Calls Tryz.prog 128 #[ndV a, ndV b] w fun e w' => e = .returned (.tuple #[ndV zeroN, .int .i64 410]) ∧ Below w.heap.size w w' := by
 have HSA : Hid ((Tryz.prog.info? 39).map (·.size) = some (ndC a).toArray.size) := hid (by rw [size34 HOA.out]; simp)
 have HSB : Hid ((Tryz.prog.info? 39).map (·.size) = some (ndC b).toArray.size) := hid (by rw [size34 HOB.out]; simp)
 have HSZ : Hid ((Tryz.prog.info? 39).map (·.size) = some (ndC zeroN).toArray.size) := hid (by rw [size34 zeroN_ok]; simp)
 have HZC := hid zeroN_cells
 obtain ⟨t1, t2, t3, t4, t5⟩ := three_rows w (ndC a).toArray (ndC b).toArray (ndC zeroN).toArray 39
 have T1 := hid t1
 have T2 := hid t2
 have T3 := hid t3
 have T4 := hid t4
 rw [HZC.out] at T1 T2 T3 T4
 clear t1 t2 t3 t4 t5
 go_enter Tryz.func128, Tryz.ntmps128
 unfold ndV
 go_wp2_with (refine wpList_load_row rfl 39 (.tmp 2) rfl w.heap.size rfl 39 _ (0, 0) _ T2.out Tryz.underlying39 rfl HSA.out ?_)
 rw [show Value.agg (ndC a).toArray = ndV a from rfl]
 refine (rvalid_any a _ HOA.out).mono ?_
 rintro e W1 ⟨rfl, hq⟩
 have S1 := hid (T1.out.trans (hq.mono T1.out.size))
 have S2 := hid (row_kept T2.out hq)
 have S3 := hid (row_kept T3.out hq)
 have S4 := hid (row_kept T4.out hq)
 rw [HVA.out]
 clear hq T1 T2 T3 T4
 go_wp2_with (refine wpList_unguard rfl ?_; refine wpList_load_row rfl 39 (.tmp 3) rfl (w.heap.size + 1) rfl 39 _ (0, 0) _ S3.out Tryz.underlying39 rfl HSB.out ?_)
 rw [show Value.agg (ndC b).toArray = ndV b from rfl]
 refine (rvalid_any b _ HOB.out).mono ?_
 rintro e WE ⟨rfl, hq⟩
 have HB := hid (S1.out.trans (hq.mono S1.out.size))
 have R2 := hid (row_kept S2.out hq)
 have R3 := hid (row_kept S3.out hq)
 have HRR := hid (row_kept S4.out hq)
 rw [HVB.out]
 clear hq S1 S2 S3 S4
 rw [← HZC.out] at HRR
 go_wp2_with (rw [← HZC.out]; refine wpList_store_row rfl 39 (.tmp 4) (.tmp 23) rfl (w.heap.size + 1 + 1) (ndC zeroN).toArray ?ha ?hb 39 (ndC zeroN).toArray HRR.out HSZ.out rfl (ndC_one zeroN) ?_)
 all_goals first | rfl | skip
 have hr := setRow_heap WE (w.heap.size + 1 + 1) _ (ndC zeroN).toArray _ _ HRR.out
 have hl := run_loadVar_row (P := Tryz.prog) (WE.setRow (w.heap.size + 1 + 1) (ndC zeroN).toArray) (w.heap.size + 1 + 1) 39 39 (ndC zeroN).toArray (0, 0) _ hr Tryz.underlying39 rfl HSZ.out
 refine bodyPost_ret (v := .tuple #[ndV zeroN, .int .i64 410]) ?_ rfl ⟨rfl, below_setRow HB.out (by omega) _⟩
 unfold ndV
 simp [results, Tryz.results128, asAddr, hl]
theorem rjoin_n3 (a b : Nd) (w : World) (HOA : Hid (NdOk a)) (HOB : Hid (NdOk b)) (HVA : Hid (vN a = true)) (HVB : Hid (vN b = true)) (hs : 1073741824 < a.c + b.c) :
  Calls Tryz.prog 128 #[ndV a, ndV b] w fun e w' => e = .returned (.tuple #[ndV zeroN, .int .i64 410]) ∧ Below w.heap.size w w' := by
 have hba := vN_bd HVA.out
 have hbb := vN_bd HVB.out
 have hw : IntKind.i64.wrap (a.c + b.c) = a.c + b.c := IntWalk.i64_in _ (by omega)
 have ds : decide (1073741824 < a.c + b.c) = true := eQ hs
 clear hba hbb
 have HSA : Hid ((Tryz.prog.info? 39).map (·.size) = some (ndC a).toArray.size) := hid (by rw [size34 HOA.out]; simp)
 have HSB : Hid ((Tryz.prog.info? 39).map (·.size) = some (ndC b).toArray.size) := hid (by rw [size34 HOB.out]; simp)
 have HSZ : Hid ((Tryz.prog.info? 39).map (·.size) = some (ndC zeroN).toArray.size) := hid (by rw [size34 zeroN_ok]; simp)
 have HZC := hid zeroN_cells
 obtain ⟨t1, t2, t3, t4, t5⟩ := three_rows w (ndC a).toArray (ndC b).toArray (ndC zeroN).toArray 39
 have T1 := hid t1
 have T2 := hid t2
 have T3 := hid t3
 have T4 := hid t4
 rw [HZC.out] at T1 T2 T3 T4
 clear t1 t2 t3 t4 t5
 go_enter Tryz.func128, Tryz.ntmps128
 unfold ndV
 go_wp2_with (refine wpList_load_row rfl 39 (.tmp 2) rfl w.heap.size rfl 39 _ (0, 0) _ T2.out Tryz.underlying39 rfl HSA.out ?_)
 rw [show Value.agg (ndC a).toArray = ndV a from rfl]
 refine (rvalid_any a _ HOA.out).mono ?_
 rintro e W1 ⟨rfl, hq⟩
 have S1 := hid (T1.out.trans (hq.mono T1.out.size))
 have S2 := hid (row_kept T2.out hq)
 have S3 := hid (row_kept T3.out hq)
 have S4 := hid (row_kept T4.out hq)
 rw [HVA.out]
 clear hq T1 T2 T3 T4
 go_wp2_with (refine wpList_unguard rfl ?_; refine wpList_load_row rfl 39 (.tmp 3) rfl (w.heap.size + 1) rfl 39 _ (0, 0) _ S3.out Tryz.underlying39 rfl HSB.out ?_)
 rw [show Value.agg (ndC b).toArray = ndV b from rfl]
 refine (rvalid_any b _ HOB.out).mono ?_
 rintro e WE ⟨rfl, hq⟩
 have HB := hid (S1.out.trans (hq.mono S1.out.size))
 have R2 := hid (row_kept S2.out hq)
 have R3 := hid (row_kept S3.out hq)
 have HRR := hid (row_kept S4.out hq)
 rw [HVB.out]
 clear hq S1 S2 S3 S4
 have k1 := cell_c HOA.out R2.out
 have k2 := cell_c HOB.out R3.out
 rw [← HZC.out] at HRR
 go_wp2_with (rw [← HZC.out]; refine wpList_store_row rfl 39 (.tmp 4) (.tmp 23) rfl (w.heap.size + 1 + 1) (ndC zeroN).toArray ?ha ?hb 39 (ndC zeroN).toArray HRR.out HSZ.out rfl (ndC_one zeroN) ?_)
 all_goals first | rfl | skip
 have hr := setRow_heap WE (w.heap.size + 1 + 1) _ (ndC zeroN).toArray _ _ HRR.out
 have hl := run_loadVar_row (P := Tryz.prog) (WE.setRow (w.heap.size + 1 + 1) (ndC zeroN).toArray) (w.heap.size + 1 + 1) 39 39 (ndC zeroN).toArray (0, 0) _ hr Tryz.underlying39 rfl HSZ.out
 refine bodyPost_ret (v := .tuple #[ndV zeroN, .int .i64 410]) ?_ rfl ⟨rfl, below_setRow HB.out (by omega) _⟩
 unfold ndV
 simp [results, Tryz.results128, asAddr, hl]
theorem rjoin_yes (a b : Nd) (w : World) (HOA : Hid (NdOk a)) (HOB : Hid (NdOk b)) (hv : vL [a, b] = true) :
  Calls Tryz.prog 128 #[ndV a, ndV b] w fun e w' => e = .returned (.tuple #[ndV (joinN a b), .int .i64 0]) ∧ Below w.heap.size w w' := by
 have HJ : Hid (NdOk (joinN a b)) := hid (join_ok HOA.out HOB.out hv)
 have hvp := (vL_pairJ a b).1 hv
 have hba := vN_bd hvp.1.1
 have hbb := vN_bd hvp.1.2
 have HVA := hid hvp.1.1
 have HVB := hid hvp.1.2
 have HWC : Hid (IntKind.i64.wrap (a.c + b.c) = a.c + b.c) := hid (IntWalk.i64_in _ (by omega))
 have HWP : Hid (IntKind.i64.wrap (a.p + b.p) = a.p + b.p) := hid (IntWalk.i64_in _ (by omega))
 have ds : decide (1073741824 < a.c + b.c) = false := dQ (by omega)
 have HZS : Hid (∀ z ∈ ([a.c, a.p, b.c, b.p] : List Int), -9223372036854775808 ≤ z ∧ z ≤ 9223372036854775807) := hid (fun z hz => by
  simp only [List.mem_cons, List.not_mem_nil, or_false] at hz
  rcases hz with rfl | rfl | rfl | rfl <;> omega)
 have HS1 : Hid ((Tryz.prog.info? 39).map (·.size) = some (ndC (joinN a b)).toArray.size) := hid (by rw [size34 HJ.out]; simp)
 have HS2 : Hid (34 = (ndC (joinN a b)).toArray.size) := hid (by simp [ndC_length HJ.out])
 have hw := HWC.out
 clear hv hvp hba hbb
 have HSA : Hid ((Tryz.prog.info? 39).map (·.size) = some (ndC a).toArray.size) := hid (by rw [size34 HOA.out]; simp)
 have HSB : Hid ((Tryz.prog.info? 39).map (·.size) = some (ndC b).toArray.size) := hid (by rw [size34 HOB.out]; simp)
 have HSZ : Hid ((Tryz.prog.info? 39).map (·.size) = some (ndC zeroN).toArray.size) := hid (by rw [size34 zeroN_ok]; simp)
 have HZC := hid zeroN_cells
 obtain ⟨t1, t2, t3, t4, t5⟩ := three_rows w (ndC a).toArray (ndC b).toArray (ndC zeroN).toArray 39
 have T1 := hid t1
 have T2 := hid t2
 have T3 := hid t3
 have T4 := hid t4
 rw [HZC.out] at T1 T2 T3 T4
 clear t1 t2 t3 t4 t5
 go_enter Tryz.func128, Tryz.ntmps128
 unfold ndV
 go_wp2_with (refine wpList_load_row rfl 39 (.tmp 2) rfl w.heap.size rfl 39 _ (0, 0) _ T2.out Tryz.underlying39 rfl HSA.out ?_)
 rw [show Value.agg (ndC a).toArray = ndV a from rfl]
 refine (rvalid_any a _ HOA.out).mono ?_
 rintro e W1 ⟨rfl, hq⟩
 have S1 := hid (T1.out.trans (hq.mono T1.out.size))
 have S2 := hid (row_kept T2.out hq)
 have S3 := hid (row_kept T3.out hq)
 have S4 := hid (row_kept T4.out hq)
 rw [HVA.out]
 clear hq T1 T2 T3 T4
 go_wp2_with (refine wpList_unguard rfl ?_; refine wpList_load_row rfl 39 (.tmp 3) rfl (w.heap.size + 1) rfl 39 _ (0, 0) _ S3.out Tryz.underlying39 rfl HSB.out ?_)
 rw [show Value.agg (ndC b).toArray = ndV b from rfl]
 refine (rvalid_any b _ HOB.out).mono ?_
 rintro e WE ⟨rfl, hq⟩
 have HB := hid (S1.out.trans (hq.mono S1.out.size))
 have R2 := hid (row_kept S2.out hq)
 have R3 := hid (row_kept S3.out hq)
 have HRR := hid (row_kept S4.out hq)
 rw [HVB.out]
 clear hq S1 S2 S3 S4
 have k1 := cell_c HOA.out R2.out
 have k2 := cell_c HOB.out R3.out
 rw [← HZC.out] at HRR
 have hsz1 : w.heap.size + 1 + 1 + 1 ≤ WE.heap.size := (Array.getElem?_eq_some_iff.1 HRR.out).1
 have hbn := (Below.refl _ WE).alloc (Nat.le_refl _) (.cells #[] 5)
 have HSZ0 : Hid (w.heap.size + 1 + 1 + 1 ≤ (WE.alloc (.cells #[] 5)).heap.size) := hid (Nat.le_trans hsz1 hbn.size)
 have HBN := hid (HB.out.trans (hbn.mono HB.out.size))
 have HRRn := hid (row_kept HRR.out hbn)
 have HR2n := hid (row_kept R2.out hbn)
 have HR3n := hid (row_kept R3.out hbn)
 have HRD : Hid (Rd (WE.alloc (.cells #[] 5)) (WE.alloc (.cells #[] 5)).heap.size (some ⟨w.heap.size, 0, none⟩) a.d) := hid (fun _ => ⟨_, 0, rfl, by have := HSZ0.out; omega, bytes_node HR2n.out⟩)
 have HO0 := hid (OwnB.empty WE (w.heap.size + 1 + 1 + 1) hsz1)
 have HL0 : Hid (([] : List Nat).length + 32 ≤ 1099511627776) := hid (by simp)
 have HLA := hid HOA.out.len
 have HLB := hid HOB.out.len
 have HL1 : Hid (([] ++ a.d).length + 32 ≤ 1099511627776) := hid (by rw [List.nil_append, HLA.out]; omega)
 clear hsz1 hbn
 go_wp2_with (first | (at_builtin; refine wpList_append_bytes rfl (.tmp 24) (.tmp 26) rfl (w.heap.size + 1 + 1 + 1) _ [] a.d rfl HO0 (some ⟨w.heap.size, 0, none⟩) 32 32 rfl HLA (fun h => by cases h) HRD HL0.out HSZ0.out ?_; intro v1 W4 HO4 HB4; have HR24 := hid ((HB4.out.block _ (by omega)).trans HR2n.out); have HR34 := hid ((HB4.out.block _ (by omega)).trans HR3n.out); have HRR4 := hid ((HB4.out.block _ (by omega)).trans HRRn.out); have HSZ4 := hid (Nat.le_trans HSZ0.out HB4.out.size); have HRD4 : Hid (Rd W4 W4.heap.size (some ⟨w.heap.size + 1, 0, none⟩) b.d) := hid (fun _ => ⟨_, 0, rfl, (by have := HSZ4.out; omega), bytes_node HR34.out⟩)) | (at_builtin; refine wpList_append_bytes rfl (.tmp 28) (.tmp 30) rfl (w.heap.size + 1 + 1 + 1) _ ([] ++ a.d) b.d rfl HO4 (some ⟨w.heap.size + 1, 0, none⟩) 32 32 rfl HLB (fun h => by cases h) HRD4 HL1.out HSZ4.out ?_; intro v2 W5 HO5 HB5; have HR25 := hid ((HB5.out.block _ (by omega)).trans HR24.out); have HR35 := hid ((HB5.out.block _ (by omega)).trans HR34.out); have HRR5 := hid ((HB5.out.block _ (by omega)).trans HRR4.out); have HSZ5 := hid (Nat.le_trans HSZ4.out HB5.out.size); have q1 := cell_c HOA.out HR25.out; have q2 := cell_p HOA.out HR25.out; have q3 := cell_c HOB.out HR35.out; have q4 := cell_p HOB.out HR35.out))
 have HBT5 := hid ((HBN.out.trans (HB4.out.mono (by omega))).trans (HB5.out.mono (by omega)))
 clear q1 q2 q3 q4 k1 k2
 have hq := heap_alloc_new W5 (.cells #[.int .i64 a.c, .int .i64 a.p, .int .i64 b.c, .int .i64 b.p] 3)
 have hba := (Below.refl _ W5).alloc (Nat.le_refl _) (.cells #[.int .i64 a.c, .int .i64 a.p, .int .i64 b.c, .int .i64 b.p] 3)
 have HBT6 := hid (HBT5.out.trans (hba.mono HBT5.out.size))
 have HSZ6 := hid (Nat.le_trans HSZ5.out hba.size)
 have HO6 := hid (HO5.out.below hba)
 have HR26 := hid (row_kept HR25.out hba)
 have HR36 := hid (row_kept HR35.out hba)
 have HRR6 := hid (row_kept HRR5.out hba)
 have HCS : Hid (∀ i, i < 4 → (W5.alloc (.cells #[.int .i64 a.c, .int .i64 a.p, .int .i64 b.c, .int .i64 b.p] 3)).cell? ⟨W5.heap.size, i, none⟩ = some (.int .i64 (([a.c, a.p, b.c, b.p] : List Int).getD i 0))) := hid (fun i hi => four_cells hq i hi)
 clear hq hba
 refine (rints_any ([a.c, a.p, b.c, b.p] : List Int) W5.heap.size 4 4 _ HZS rfl (by omega) HCS (by simp)).mono ?_
 rintro e W6 ⟨v6, rfl, ho6, hq6⟩
 obtain ⟨A6, n6, c6, rfl, hn6, hc6, hA6, HR6⟩ := ho6.slice
 have HBT7 := hid (HBT6.out.trans (hq6.mono HBT6.out.size))
 have HSZ7 := hid (Nat.le_trans HSZ6.out hq6.size)
 have HO7 := hid (HO6.out.below hq6)
 have HR27 := hid (row_kept HR26.out hq6)
 have HR37 := hid (row_kept HR36.out hq6)
 have HRR7 := hid (row_kept HRR6.out hq6)
 have HEL : Hid (n6 ≤ 100) := hid (by rw [← hn6.out]; have := encI_length ([a.c, a.p, b.c, b.p] : List Int); simp only [List.length_cons, List.length_nil] at this; omega)
 have HL6 : Hid (([] ++ a.d ++ b.d).length + n6 ≤ 1099511627776) := hid (by simp only [List.nil_append, List.length_append, HLA.out, HLB.out]; have := HEL.out; omega)
 clear ho6 hq6
 go_wp2_with (at_builtin; refine wpList_append_bytes rfl (.tmp 32) (.tmp 42) rfl (w.heap.size + 1 + 1 + 1) _ ([] ++ a.d ++ b.d) (encI ([a.c, a.p, b.c, b.p] : List Int)) rfl HO7 A6 n6 c6 rfl hn6 hA6.out HR6 HL6.out HSZ7.out ?_; intro v7 W7 HO8 HB8)
 obtain ⟨A7, n7, c7, rfl, hn7, hc7, hA7, HR7⟩ := HO8.out.slice
 have R28 := hid ((HB8.out.block _ (by omega)).trans HR27.out)
 have R38 := hid ((HB8.out.block _ (by omega)).trans HR37.out)
 have RR8 := hid ((HB8.out.block _ (by omega)).trans HRR7.out)
 have HBT8 := hid (HBT7.out.trans (HB8.out.mono (by omega)))
 have HN7 : n7 ≤ 1000 := by rw [← hn7.out]; have := HEL.out; simp only [List.length_append, List.nil_append, HLA.out, HLB.out, hn6.out]; omega
 have HBY : Hid (Bytes ([] ++ a.d ++ b.d ++ encI ([a.c, a.p, b.c, b.p] : List Int))) := hid (bytes_app (bytes_app (bytes_app (fun x hx => by cases hx) HOA.out.bytes) HOB.out.bytes) (encI_bytes _))
 have HLD : Hid (dgV (tagged (strL sumTag) ([] ++ a.d ++ b.d ++ encI ([a.c, a.p, b.c, b.p] : List Int))) = dgV (joinN a b).d) := hid (by rw [← join_d, List.nil_append]; rfl)
 clear HRR R2 R3 HB HBN HRRn HR2n HR3n HRD HO0 HL0 HL1 HO4 HB4 HR24 HR34 HRR4 HSZ4 HRD4 HO5 HB5 HR25 HR35 HRR5 HSZ5 HBT5 HBT6 HSZ6 HO6 HR26 HR36 HRR6 HCS HBT7 HSZ7 HO7 HR27 HR37 HRR7 HL6 HO8 HB8 HR6
 refine region_flow3 (by kernel_rfl) (by kernel_rfl) (fun i => Nat.beq i 13 || Nat.beq i 14) (fun i => i) (by kernel_rfl) (fun fx => #[ndV a, ndV b, .pointer (some { block := w.heap.size, off := 0 }), .pointer (some { block := w.heap.size + 1, off := 0 }), .pointer (some { block := w.heap.size + 1 + 1, off := 0 }), fx 14, .slice A7 n7 c7, ndV a, .bool true, .bool false, .bool false, ndV b, .bool true, .bool false, .bool false, .bool false, .pointer (some { block := w.heap.size, off := 32 }), .int IntKind.i64 a.c, .pointer (some { block := w.heap.size + 1, off := 32 }), .int IntKind.i64 b.c, .int IntKind.i64 (a.c + b.c), .bool false, .bool false, undef, .slice (some { block := WE.heap.size, off := 0 }) 0 0, .pointer (some { block := w.heap.size, off := 0 }), .slice (some { block := w.heap.size, off := 0 }) 32 32, v1, v1, .pointer (some { block := w.heap.size + 1, off := 0 }), .slice (some { block := w.heap.size + 1, off := 0 }) 32 32, v2, v2, .pointer (some { block := w.heap.size, off := 32 }), .int IntKind.i64 a.c, .pointer (some { block := w.heap.size, off := 33 }), .int IntKind.i64 a.p, .pointer (some { block := w.heap.size + 1, off := 32 }), .int IntKind.i64 b.c, .pointer (some { block := w.heap.size + 1, off := 33 }), .int IntKind.i64 b.p, .slice (some { block := W5.heap.size, off := 0 }) 4 4, .slice A6 n6 c6, .slice A7 n7 c7, fx 0, fx 1, fx 2, fx 3, fx 4, fx 5, fx 6, fx 7, fx 8, fx 9, fx 10, fx 11, fx 12]) (fun i => bif Nat.beq i 14 then Value.int IntKind.i64 0 else undef) (fun L fx w' => (L 13 = false → Below W7.heap.size W7 w')) (fun fi fv _ fw => wJr w w.heap.size (w.heap.size + 1) (w.heap.size + 1 + 1) A7 n7 c7 a b fi fv fw) (fun _ => (Below.refl _ _).drew) ?_ ?_
 ·refine ⟨?_, ?_, ?_, ?_, ?_, ?_, ?_, ?_, ?_, ?_, ?_, ?_, ?_, ?_, ?_, trivial⟩
  all_goals intro L fx w' hC hi hcl hdn hd
  ·have hnd : L 13 = false := nQ hi (fun h => (hcl 1 0 (hcl 12 1 (hcl 13 12 h (by kernel_rfl)) (by kernel_rfl)) (by kernel_rfl)))
   go_wp2_with fail
   exact ⟨_, rfl, (fun _ => hC hnd), rfl, kP⟩
  ·have h0 : fx 0 = .slice A7 n7 c7 := hd.1 rfl
   have hnd : L 13 = false := nQ hi (fun h => (hcl 12 1 (hcl 13 12 h (by kernel_rfl)) (by kernel_rfl)))
   have hb12 := hC hnd
   have HRk := hid ((HR7.out.below hb12 (Nat.le_refl _)).mono hb12.size)
   go_wp2_with fail
   refine (rtagged_any sumTag A7 n7 c7 _ w' (by decide) hn7 hc7 hA7.out (by omega) HBY HRk).mono ?_
   rintro e w2 ⟨rfl, hq⟩
   rw [HLD.out]
   go_wp2_with fail
   exact ⟨_, by show _ = Act.mk #[ndV a, ndV b, Value.pointer (some { block := w.heap.size, off := 0 }), Value.pointer (some { block := w.heap.size + 1, off := 0 }), Value.pointer (some { block := w.heap.size + 1 + 1, off := 0 }), fx 14, Value.slice A7 n7 c7, ndV a, Value.bool true, Value.bool false, Value.bool false, ndV b, Value.bool true, Value.bool false, Value.bool false, Value.bool false, Value.pointer (some { block := w.heap.size, off := 32 }), Value.int IntKind.i64 a.c, Value.pointer (some { block := w.heap.size + 1, off := 32 }), Value.int IntKind.i64 b.c, Value.int IntKind.i64 (a.c + b.c), Value.bool false, Value.bool false, undef, Value.slice (some { block := WE.heap.size, off := 0 }) 0 0, Value.pointer (some { block := w.heap.size, off := 0 }), Value.slice (some { block := w.heap.size, off := 0 }) 32 32, v1, v1, Value.pointer (some { block := w.heap.size + 1, off := 0 }), Value.slice (some { block := w.heap.size + 1, off := 0 }) 32 32, v2, v2, Value.pointer (some { block := w.heap.size, off := 32 }), Value.int IntKind.i64 a.c, Value.pointer (some { block := w.heap.size, off := 33 }), Value.int IntKind.i64 a.p, Value.pointer (some { block := w.heap.size + 1, off := 32 }), Value.int IntKind.i64 b.c, Value.pointer (some { block := w.heap.size + 1, off := 33 }), Value.int IntKind.i64 b.p, Value.slice (some { block := W5.heap.size, off := 0 }) 4 4, Value.slice A6 n6 c6, Value.slice A7 n7 c7, fx 0, dgV (joinN a b).d, fx 2, fx 3, fx 4, fx 5, fx 6, fx 7, fx 8, fx 9, fx 10, fx 11, fx 12] []; rw [h0] <;> rfl, fun _ => hb12.trans (hq.mono hb12.size), rfl, fun j v t _ _ h => wJr_below hq j v h⟩
  ·have hnd : L 13 = false := nQ hi (fun h => (hcl 3 2 (hcl 6 3 (hcl 12 6 (hcl 13 12 h (by kernel_rfl)) (by kernel_rfl)) (by kernel_rfl)) (by kernel_rfl)))
   go_wp2_with fail
   exact ⟨_, rfl, (fun _ => hC hnd), rfl, kP⟩
  ·have h2 : fx 2 = .pointer (some ⟨w.heap.size, 32, none⟩) := hd.1 rfl
   have hnd : L 13 = false := nQ hi (fun h => (hcl 6 3 (hcl 12 6 (hcl 13 12 h (by kernel_rfl)) (by kernel_rfl)) (by kernel_rfl)))
   have hc := cell_c HOA.out (row_kept R28.out (hC hnd))
   go_wp2_with fail
   exact ⟨_, by show _ = Act.mk #[ndV a, ndV b, Value.pointer (some { block := w.heap.size, off := 0 }), Value.pointer (some { block := w.heap.size + 1, off := 0 }), Value.pointer (some { block := w.heap.size + 1 + 1, off := 0 }), fx 14, Value.slice A7 n7 c7, ndV a, Value.bool true, Value.bool false, Value.bool false, ndV b, Value.bool true, Value.bool false, Value.bool false, Value.bool false, Value.pointer (some { block := w.heap.size, off := 32 }), Value.int IntKind.i64 a.c, Value.pointer (some { block := w.heap.size + 1, off := 32 }), Value.int IntKind.i64 b.c, Value.int IntKind.i64 (a.c + b.c), Value.bool false, Value.bool false, undef, Value.slice (some { block := WE.heap.size, off := 0 }) 0 0, Value.pointer (some { block := w.heap.size, off := 0 }), Value.slice (some { block := w.heap.size, off := 0 }) 32 32, v1, v1, Value.pointer (some { block := w.heap.size + 1, off := 0 }), Value.slice (some { block := w.heap.size + 1, off := 0 }) 32 32, v2, v2, Value.pointer (some { block := w.heap.size, off := 32 }), Value.int IntKind.i64 a.c, Value.pointer (some { block := w.heap.size, off := 33 }), Value.int IntKind.i64 a.p, Value.pointer (some { block := w.heap.size + 1, off := 32 }), Value.int IntKind.i64 b.c, Value.pointer (some { block := w.heap.size + 1, off := 33 }), Value.int IntKind.i64 b.p, Value.slice (some { block := W5.heap.size, off := 0 }) 4 4, Value.slice A6 n6 c6, Value.slice A7 n7 c7, fx 0, fx 1, fx 2, Value.int .i64 (a.c), fx 4, fx 5, fx 6, fx 7, fx 8, fx 9, fx 10, fx 11, fx 12] []; rw [h2] <;> rfl, (fun _ => hC hnd), rfl, kP⟩
  ·have hnd : L 13 = false := nQ hi (fun h => (hcl 5 4 (hcl 6 5 (hcl 12 6 (hcl 13 12 h (by kernel_rfl)) (by kernel_rfl)) (by kernel_rfl)) (by kernel_rfl)))
   go_wp2_with fail
   exact ⟨_, rfl, (fun _ => hC hnd), rfl, kP⟩
  ·have h4 : fx 4 = .pointer (some ⟨w.heap.size + 1, 32, none⟩) := hd.1 rfl
   have hnd : L 13 = false := nQ hi (fun h => (hcl 6 5 (hcl 12 6 (hcl 13 12 h (by kernel_rfl)) (by kernel_rfl)) (by kernel_rfl)))
   have hc := cell_c HOB.out (row_kept R38.out (hC hnd))
   go_wp2_with fail
   exact ⟨_, by show _ = Act.mk #[ndV a, ndV b, Value.pointer (some { block := w.heap.size, off := 0 }), Value.pointer (some { block := w.heap.size + 1, off := 0 }), Value.pointer (some { block := w.heap.size + 1 + 1, off := 0 }), fx 14, Value.slice A7 n7 c7, ndV a, Value.bool true, Value.bool false, Value.bool false, ndV b, Value.bool true, Value.bool false, Value.bool false, Value.bool false, Value.pointer (some { block := w.heap.size, off := 32 }), Value.int IntKind.i64 a.c, Value.pointer (some { block := w.heap.size + 1, off := 32 }), Value.int IntKind.i64 b.c, Value.int IntKind.i64 (a.c + b.c), Value.bool false, Value.bool false, undef, Value.slice (some { block := WE.heap.size, off := 0 }) 0 0, Value.pointer (some { block := w.heap.size, off := 0 }), Value.slice (some { block := w.heap.size, off := 0 }) 32 32, v1, v1, Value.pointer (some { block := w.heap.size + 1, off := 0 }), Value.slice (some { block := w.heap.size + 1, off := 0 }) 32 32, v2, v2, Value.pointer (some { block := w.heap.size, off := 32 }), Value.int IntKind.i64 a.c, Value.pointer (some { block := w.heap.size, off := 33 }), Value.int IntKind.i64 a.p, Value.pointer (some { block := w.heap.size + 1, off := 32 }), Value.int IntKind.i64 b.c, Value.pointer (some { block := w.heap.size + 1, off := 33 }), Value.int IntKind.i64 b.p, Value.slice (some { block := W5.heap.size, off := 0 }) 4 4, Value.slice A6 n6 c6, Value.slice A7 n7 c7, fx 0, fx 1, fx 2, fx 3, fx 4, Value.int .i64 (b.c), fx 6, fx 7, fx 8, fx 9, fx 10, fx 11, fx 12] []; rw [h4] <;> rfl, (fun _ => hC hnd), rfl, kP⟩
  ·have h3 : fx 3 = .int .i64 (a.c) := hd.1 rfl
   have h5 : fx 5 = .int .i64 (b.c) := hd.2.1 rfl
   have hnd : L 13 = false := nQ hi (fun h => (hcl 12 6 (hcl 13 12 h (by kernel_rfl)) (by kernel_rfl)))
   have hw := HWC.out
   go_wp2_with fail
   exact ⟨_, by show _ = Act.mk #[ndV a, ndV b, Value.pointer (some { block := w.heap.size, off := 0 }), Value.pointer (some { block := w.heap.size + 1, off := 0 }), Value.pointer (some { block := w.heap.size + 1 + 1, off := 0 }), fx 14, Value.slice A7 n7 c7, ndV a, Value.bool true, Value.bool false, Value.bool false, ndV b, Value.bool true, Value.bool false, Value.bool false, Value.bool false, Value.pointer (some { block := w.heap.size, off := 32 }), Value.int IntKind.i64 a.c, Value.pointer (some { block := w.heap.size + 1, off := 32 }), Value.int IntKind.i64 b.c, Value.int IntKind.i64 (a.c + b.c), Value.bool false, Value.bool false, undef, Value.slice (some { block := WE.heap.size, off := 0 }) 0 0, Value.pointer (some { block := w.heap.size, off := 0 }), Value.slice (some { block := w.heap.size, off := 0 }) 32 32, v1, v1, Value.pointer (some { block := w.heap.size + 1, off := 0 }), Value.slice (some { block := w.heap.size + 1, off := 0 }) 32 32, v2, v2, Value.pointer (some { block := w.heap.size, off := 32 }), Value.int IntKind.i64 a.c, Value.pointer (some { block := w.heap.size, off := 33 }), Value.int IntKind.i64 a.p, Value.pointer (some { block := w.heap.size + 1, off := 32 }), Value.int IntKind.i64 b.c, Value.pointer (some { block := w.heap.size + 1, off := 33 }), Value.int IntKind.i64 b.p, Value.slice (some { block := W5.heap.size, off := 0 }) 4 4, Value.slice A6 n6 c6, Value.slice A7 n7 c7, fx 0, fx 1, fx 2, fx 3, fx 4, fx 5, Value.int .i64 (a.c + b.c), fx 7, fx 8, fx 9, fx 10, fx 11, fx 12] []; rw [h3, h5] <;> rfl, (fun _ => hC hnd), rfl, kP⟩
  ·have hnd : L 13 = false := nQ hi (fun h => (hcl 8 7 (hcl 11 8 (hcl 12 11 (hcl 13 12 h (by kernel_rfl)) (by kernel_rfl)) (by kernel_rfl)) (by kernel_rfl)))
   go_wp2_with fail
   exact ⟨_, rfl, (fun _ => hC hnd), rfl, kP⟩
  ·have h7 : fx 7 = .pointer (some ⟨w.heap.size, 33, none⟩) := hd.1 rfl
   have hnd : L 13 = false := nQ hi (fun h => (hcl 11 8 (hcl 12 11 (hcl 13 12 h (by kernel_rfl)) (by kernel_rfl)) (by kernel_rfl)))
   have hc := cell_p HOA.out (row_kept R28.out (hC hnd))
   go_wp2_with fail
   exact ⟨_, by show _ = Act.mk #[ndV a, ndV b, Value.pointer (some { block := w.heap.size, off := 0 }), Value.pointer (some { block := w.heap.size + 1, off := 0 }), Value.pointer (some { block := w.heap.size + 1 + 1, off := 0 }), fx 14, Value.slice A7 n7 c7, ndV a, Value.bool true, Value.bool false, Value.bool false, ndV b, Value.bool true, Value.bool false, Value.bool false, Value.bool false, Value.pointer (some { block := w.heap.size, off := 32 }), Value.int IntKind.i64 a.c, Value.pointer (some { block := w.heap.size + 1, off := 32 }), Value.int IntKind.i64 b.c, Value.int IntKind.i64 (a.c + b.c), Value.bool false, Value.bool false, undef, Value.slice (some { block := WE.heap.size, off := 0 }) 0 0, Value.pointer (some { block := w.heap.size, off := 0 }), Value.slice (some { block := w.heap.size, off := 0 }) 32 32, v1, v1, Value.pointer (some { block := w.heap.size + 1, off := 0 }), Value.slice (some { block := w.heap.size + 1, off := 0 }) 32 32, v2, v2, Value.pointer (some { block := w.heap.size, off := 32 }), Value.int IntKind.i64 a.c, Value.pointer (some { block := w.heap.size, off := 33 }), Value.int IntKind.i64 a.p, Value.pointer (some { block := w.heap.size + 1, off := 32 }), Value.int IntKind.i64 b.c, Value.pointer (some { block := w.heap.size + 1, off := 33 }), Value.int IntKind.i64 b.p, Value.slice (some { block := W5.heap.size, off := 0 }) 4 4, Value.slice A6 n6 c6, Value.slice A7 n7 c7, fx 0, fx 1, fx 2, fx 3, fx 4, fx 5, fx 6, fx 7, Value.int .i64 (a.p), fx 9, fx 10, fx 11, fx 12] []; rw [h7] <;> rfl, (fun _ => hC hnd), rfl, kP⟩
  ·have hnd : L 13 = false := nQ hi (fun h => (hcl 10 9 (hcl 11 10 (hcl 12 11 (hcl 13 12 h (by kernel_rfl)) (by kernel_rfl)) (by kernel_rfl)) (by kernel_rfl)))
   go_wp2_with fail
   exact ⟨_, rfl, (fun _ => hC hnd), rfl, kP⟩
  ·have h9 : fx 9 = .pointer (some ⟨w.heap.size + 1, 33, none⟩) := hd.1 rfl
   have hnd : L 13 = false := nQ hi (fun h => (hcl 11 10 (hcl 12 11 (hcl 13 12 h (by kernel_rfl)) (by kernel_rfl)) (by kernel_rfl)))
   have hc := cell_p HOB.out (row_kept R38.out (hC hnd))
   go_wp2_with fail
   exact ⟨_, by show _ = Act.mk #[ndV a, ndV b, Value.pointer (some { block := w.heap.size, off := 0 }), Value.pointer (some { block := w.heap.size + 1, off := 0 }), Value.pointer (some { block := w.heap.size + 1 + 1, off := 0 }), fx 14, Value.slice A7 n7 c7, ndV a, Value.bool true, Value.bool false, Value.bool false, ndV b, Value.bool true, Value.bool false, Value.bool false, Value.bool false, Value.pointer (some { block := w.heap.size, off := 32 }), Value.int IntKind.i64 a.c, Value.pointer (some { block := w.heap.size + 1, off := 32 }), Value.int IntKind.i64 b.c, Value.int IntKind.i64 (a.c + b.c), Value.bool false, Value.bool false, undef, Value.slice (some { block := WE.heap.size, off := 0 }) 0 0, Value.pointer (some { block := w.heap.size, off := 0 }), Value.slice (some { block := w.heap.size, off := 0 }) 32 32, v1, v1, Value.pointer (some { block := w.heap.size + 1, off := 0 }), Value.slice (some { block := w.heap.size + 1, off := 0 }) 32 32, v2, v2, Value.pointer (some { block := w.heap.size, off := 32 }), Value.int IntKind.i64 a.c, Value.pointer (some { block := w.heap.size, off := 33 }), Value.int IntKind.i64 a.p, Value.pointer (some { block := w.heap.size + 1, off := 32 }), Value.int IntKind.i64 b.c, Value.pointer (some { block := w.heap.size + 1, off := 33 }), Value.int IntKind.i64 b.p, Value.slice (some { block := W5.heap.size, off := 0 }) 4 4, Value.slice A6 n6 c6, Value.slice A7 n7 c7, fx 0, fx 1, fx 2, fx 3, fx 4, fx 5, fx 6, fx 7, fx 8, fx 9, Value.int .i64 (b.p), fx 11, fx 12] []; rw [h9] <;> rfl, (fun _ => hC hnd), rfl, kP⟩
  ·have h8 : fx 8 = .int .i64 (a.p) := hd.1 rfl
   have h10 : fx 10 = .int .i64 (b.p) := hd.2.1 rfl
   have hnd : L 13 = false := nQ hi (fun h => (hcl 12 11 (hcl 13 12 h (by kernel_rfl)) (by kernel_rfl)))
   have hw := HWP.out
   go_wp2_with fail
   exact ⟨_, by show _ = Act.mk #[ndV a, ndV b, Value.pointer (some { block := w.heap.size, off := 0 }), Value.pointer (some { block := w.heap.size + 1, off := 0 }), Value.pointer (some { block := w.heap.size + 1 + 1, off := 0 }), fx 14, Value.slice A7 n7 c7, ndV a, Value.bool true, Value.bool false, Value.bool false, ndV b, Value.bool true, Value.bool false, Value.bool false, Value.bool false, Value.pointer (some { block := w.heap.size, off := 32 }), Value.int IntKind.i64 a.c, Value.pointer (some { block := w.heap.size + 1, off := 32 }), Value.int IntKind.i64 b.c, Value.int IntKind.i64 (a.c + b.c), Value.bool false, Value.bool false, undef, Value.slice (some { block := WE.heap.size, off := 0 }) 0 0, Value.pointer (some { block := w.heap.size, off := 0 }), Value.slice (some { block := w.heap.size, off := 0 }) 32 32, v1, v1, Value.pointer (some { block := w.heap.size + 1, off := 0 }), Value.slice (some { block := w.heap.size + 1, off := 0 }) 32 32, v2, v2, Value.pointer (some { block := w.heap.size, off := 32 }), Value.int IntKind.i64 a.c, Value.pointer (some { block := w.heap.size, off := 33 }), Value.int IntKind.i64 a.p, Value.pointer (some { block := w.heap.size + 1, off := 32 }), Value.int IntKind.i64 b.c, Value.pointer (some { block := w.heap.size + 1, off := 33 }), Value.int IntKind.i64 b.p, Value.slice (some { block := W5.heap.size, off := 0 }) 4 4, Value.slice A6 n6 c6, Value.slice A7 n7 c7, fx 0, fx 1, fx 2, fx 3, fx 4, fx 5, fx 6, fx 7, fx 8, fx 9, fx 10, Value.int .i64 (a.p + b.p), fx 12] []; rw [h8, h10] <;> rfl, (fun _ => hC hnd), rfl, kP⟩
  ·have h1 : fx 1 = dgV (joinN a b).d := hd.1 rfl
   have h6 : fx 6 = .int .i64 (a.c + b.c) := hd.2.1 rfl
   have h11 : fx 11 = .int .i64 (a.p + b.p) := hd.2.2.1 rfl
   have hnd : L 13 = false := nQ hi (fun h => (hcl 13 12 h (by kernel_rfl)))
   refine wpList_build_node rfl (.tmp 45) (.tmp 50) (.tmp 55) rfl (joinN a b).d (a.c + b.c) (a.p + b.p) HJ.out.len h1 h6 h11 ?_
   clear hd
   go_wp2_with fail
   exact ⟨_, by show _ = Act.mk #[ndV a, ndV b, Value.pointer (some { block := w.heap.size, off := 0 }), Value.pointer (some { block := w.heap.size + 1, off := 0 }), Value.pointer (some { block := w.heap.size + 1 + 1, off := 0 }), fx 14, Value.slice A7 n7 c7, ndV a, Value.bool true, Value.bool false, Value.bool false, ndV b, Value.bool true, Value.bool false, Value.bool false, Value.bool false, Value.pointer (some { block := w.heap.size, off := 32 }), Value.int IntKind.i64 a.c, Value.pointer (some { block := w.heap.size + 1, off := 32 }), Value.int IntKind.i64 b.c, Value.int IntKind.i64 (a.c + b.c), Value.bool false, Value.bool false, undef, Value.slice (some { block := WE.heap.size, off := 0 }) 0 0, Value.pointer (some { block := w.heap.size, off := 0 }), Value.slice (some { block := w.heap.size, off := 0 }) 32 32, v1, v1, Value.pointer (some { block := w.heap.size + 1, off := 0 }), Value.slice (some { block := w.heap.size + 1, off := 0 }) 32 32, v2, v2, Value.pointer (some { block := w.heap.size, off := 32 }), Value.int IntKind.i64 a.c, Value.pointer (some { block := w.heap.size, off := 33 }), Value.int IntKind.i64 a.p, Value.pointer (some { block := w.heap.size + 1, off := 32 }), Value.int IntKind.i64 b.c, Value.pointer (some { block := w.heap.size + 1, off := 33 }), Value.int IntKind.i64 b.p, Value.slice (some { block := W5.heap.size, off := 0 }) 4 4, Value.slice A6 n6 c6, Value.slice A7 n7 c7, fx 0, fx 1, fx 2, fx 3, fx 4, fx 5, fx 6, fx 7, fx 8, fx 9, fx 10, fx 11, ndV (joinN a b)] []; rw [h1, h6, h11] <;> rfl, fun _ => hC hnd, rfl, kP⟩
  ·have h12 : fx 12 = ndV (joinN a b) := hd.1 rfl
   have hb21 := hC hi
   have hrow := row_kept RR8.out hb21
   refine wpList_store_row rfl 39 (.tmp 4) (.tmp 56) rfl (w.heap.size + 1 + 1) (ndC (joinN a b)).toArray rfl h12 39 _ hrow HS1.out HS2.out (ndC_one _) ?_
   clear hd
   go_wp2_with fail
   refine ⟨undef, by rw [← h12]; rfl, fun h => (updB_self h).elim, ⟨setRow_heap _ _ _ _ _ _ hrow, below_setRow (HBT8.out.trans (hb21.mono HBT8.out.size)) (by omega) _⟩, fun j v t hj hu h => ?_⟩
   refine wJr_pure j v ?_ h
   intro e
   subst e
   rw [hi] at hj; cases hj
  ·go_wp2_with fail
   exact ⟨_, rfl, fun h => hC h, rfl, kP⟩
 ·intro L fx w' hC hS
  have H13 := hid (hS 13 (by decide) rfl)
  have H14 := hid (hS 14 (by decide) rfl)
  have h14 : fx 14 = .int .i64 0 := H14.out
  rw [h14]
  clear hS h14 H14
  go_wp2_with fail
  have hl := run_loadVar_row (P := Tryz.prog) w' (w.heap.size + 1 + 1) 39 39 (ndC (joinN a b)).toArray (0, 0) _ H13.out.1 Tryz.underlying39 rfl HS1.out
  refine bodyPost_ret (v := .tuple #[ndV (joinN a b), .int .i64 0]) ?_ rfl ⟨rfl, H13.out.2⟩
  unfold ndV
  simp [results, Tryz.results128, asAddr, hl]
theorem rjoin_any (a b : Nd) (w : World) (ha : NdOk a) (hb : NdOk b) :
  Calls Tryz.prog 128 #[ndV a, ndV b] w fun e w' => e = .returned (.tuple #[ndV (joinR a b), .int .i64 (joinE a b)]) ∧ Below w.heap.size w w' := by
 by_cases hv : vL [a, b] = true
 ·unfold joinR joinE
  rw [if_pos hv, if_pos hv]
  exact rjoin_yes a b w (hid ha) (hid hb) hv
 ·unfold joinR joinE
  rw [if_neg hv, if_neg hv]
  by_cases h1 : vN a = true
  ·by_cases h2 : vN b = true
   ·refine rjoin_n3 a b w (hid ha) (hid hb) (hid h1) (hid h2) ?_
    have : ¬ a.c + b.c ≤ 1073741824 := fun h => hv ((vL_pairJ a b).2 ⟨⟨h1, h2⟩, h⟩)
    omega
   ·exact rjoin_n2 a b w (hid ha) (hid hb) (hid h1) (hid (by simpa using h2))
  ·exact rjoin_n1 a b w (hid ha) (hid hb) (hid (by simpa using h1))
theorem parts_length_pos {f t : Nat} (hft : f < t) (lo hi : Nat) (h : lo < hi) : 1 ≤ (parts f t lo hi).length := by
 refine parts_ind hft (M := fun lo hi => 1 ≤ (parts f t lo hi).length) ?_ ?_ (hi - lo) lo hi h (Nat.le_refl _)
 ·intro lo hi hlt hc; rw [parts_leaf hlt hc]; exact Nat.le_refl _
 ·intro lo hi hlt hc h1 h2 i1 i2; rw [parts_cut hlt hft hc, List.length_append]; omega
theorem rj_okN {f t : Nat} (hft : f < t) (lo hi : Nat) (h : lo < hi) : ∀ ls : List Nd, (∀ x ∈ ls, NdOk x) → NdOk (rj f t lo hi ls).1 := by
 refine parts_ind hft (M := fun lo hi => ∀ ls : List Nd, (∀ x ∈ ls, NdOk x) → NdOk (rj f t lo hi ls).1) ?_ ?_ (hi - lo) lo hi h (Nat.le_refl _)
 ·intro lo hi hlt hc ls ho
  rw [rj_leaf hlt hc]
  cases ls with
  | nil => exact zeroN_ok
  | cons x r => exact ho x (by simp)
 ·intro lo hi hlt hc b1 b2 i1 i2 ls ho
  rw [rj_cut hlt hft hc]
  unfold rjC
  split
  ·exact joinR_ok43 (i1 ls ho) (i2 _ fun x hx => ho x (List.mem_of_mem_drop hx))
  ·exact zeroN_ok
def RJ43 (f t lo hi : Nat) : Prop := hi ≤ 4096 → ∀ (ls : List Nd) (A : Option Addr) (n c : Nat) (w : World), n ≤ 100000 → Hid (InN w A n c ls) → (parts f t lo hi).length ≤ n → Calls Tryz.prog 86 #[.int .i64 (f : Nat), .int .i64 (t : Nat), .int .i64 (lo : Nat), .int .i64 (hi : Nat), .slice A n c] w fun e w' => e = .returned (.tuple #[ndV (rj f t lo hi ls).1, .int .i64 ((parts f t lo hi).length : Nat), .bool (rj f t lo hi ls).2]) ∧ Below w.heap.size w w'
theorem rjoin43_leaf (f t lo up : Nat) (hlt : lo < up) (hc : (insB f t lo up || outB f t lo up) = true) : RJ43 f t lo up := by
 intro hhi ls A n c w hn h hk
 rw [parts_leaf hlt hc] at hk ⊢
 rw [rj_leaf hlt hc, show (([⟨lo, up, insB f t lo up⟩] : List Pt).length : Int) = 1 from rfl]
 have hk1 : 0 < n := hk
 have hk2 : decide (0 < n) = true := eQ hk1
 obtain ⟨g, off, rfl, hg, hr⟩ := h.out.rd (by rw [h.out.len]; omega)
 obtain ⟨x, hx⟩ : ∃ x, ls.headD zeroN = x := ⟨_, rfl⟩
 rw [hx]
 have hl0 : 0 < ls.length := by rw [h.out.len]; exact hk1
 have hx0 : ls[0] = x := by rw [← hx]; cases ls with
  | nil => simp at hl0
  | cons y r => rfl
 have HXO : Hid (NdOk x) := hid (by rw [← hx0]; exact h.out.ok _ (List.getElem_mem hl0))
 have hrx : w.rangeAt g off (ndC x) := by have := range_one hr h.out.ok 0 hl0; rw [hx0] at this; simpa using this
 have hb0 := (Below.refl _ w).alloc (Nat.le_refl _) (.cells #[.int .u8 0, .int .u8 0, .int .u8 0, .int .u8 0, .int .u8 0, .int .u8 0, .int .u8 0, .int .u8 0, .int .u8 0, .int .u8 0, .int .u8 0, .int .u8 0, .int .u8 0, .int .u8 0, .int .u8 0, .int .u8 0, .int .u8 0, .int .u8 0, .int .u8 0, .int .u8 0, .int .u8 0, .int .u8 0, .int .u8 0, .int .u8 0, .int .u8 0, .int .u8 0, .int .u8 0, .int .u8 0, .int .u8 0, .int .u8 0, .int .u8 0, .int .u8 0, .int .i64 0, .int .i64 0] 39)
 have hr0 := heap_alloc_new w (.cells #[.int .u8 0, .int .u8 0, .int .u8 0, .int .u8 0, .int .u8 0, .int .u8 0, .int .u8 0, .int .u8 0, .int .u8 0, .int .u8 0, .int .u8 0, .int .u8 0, .int .u8 0, .int .u8 0, .int .u8 0, .int .u8 0, .int .u8 0, .int .u8 0, .int .u8 0, .int .u8 0, .int .u8 0, .int .u8 0, .int .u8 0, .int .u8 0, .int .u8 0, .int .u8 0, .int .u8 0, .int .u8 0, .int .u8 0, .int .u8 0, .int .u8 0, .int .u8 0, .int .i64 0, .int .i64 0] 39)
 obtain ⟨V, HV⟩ : ∃ V, Hid (w.alloc (.cells #[.int .u8 0, .int .u8 0, .int .u8 0, .int .u8 0, .int .u8 0, .int .u8 0, .int .u8 0, .int .u8 0, .int .u8 0, .int .u8 0, .int .u8 0, .int .u8 0, .int .u8 0, .int .u8 0, .int .u8 0, .int .u8 0, .int .u8 0, .int .u8 0, .int .u8 0, .int .u8 0, .int .u8 0, .int .u8 0, .int .u8 0, .int .u8 0, .int .u8 0, .int .u8 0, .int .u8 0, .int .u8 0, .int .u8 0, .int .u8 0, .int .u8 0, .int .u8 0, .int .i64 0, .int .i64 0] 39) = V) := ⟨_, hid rfl⟩
 rw [HV.out] at hb0 hr0
 have HB0 := hid hb0
 have HR0 := hid hr0
 have HRX := hid (rangeAt_below hrx hg hb0)
 have HSX := hid (size34 HXO.out)
 have HS1 : Hid ((Tryz.prog.info? 39).map (·.size) = some (ndC x).toArray.size) := hid (by rw [size34 HXO.out]; simp)
 have HS2 : Hid (34 = (ndC x).toArray.size) := hid (by simp [ndC_length HXO.out])
 obtain ⟨b1, e1⟩ : ∃ b, decide (f ≤ lo) = b := ⟨_, rfl⟩
 obtain ⟨b2, e2⟩ : ∃ b, decide (up ≤ t) = b := ⟨_, rfl⟩
 obtain ⟨b3, e3⟩ : ∃ b, decide (up ≤ f) = b := ⟨_, rfl⟩
 obtain ⟨b4, e4⟩ : ∃ b, decide (t ≤ lo) = b := ⟨_, rfl⟩
 have d1 : decide ((f : Int) ≤ (lo : Int)) = b1 := by rw [← e1]; simp
 have d2 : decide ((up : Int) ≤ (t : Int)) = b2 := by rw [← e2]; simp
 have d3 : decide ((up : Int) ≤ (f : Int)) = b3 := by rw [← e3]; simp
 have d4 : decide ((t : Int) ≤ (lo : Int)) = b4 := by rw [← e4]; simp
 have hkey : (b1 = true ∧ b2 = true) ∨ (b1 = false ∧ b3 = true) ∨ (b1 = false ∧ b3 = false ∧ b4 = true) ∨ (b1 = true ∧ b2 = false ∧ b3 = true) ∨ (b1 = true ∧ b2 = false ∧ b3 = false ∧ b4 = true) := by
  unfold insB outB at hc
  rw [e1, e2, e3, e4] at hc
  revert hc
  cases b1 <;> cases b2 <;> cases b3 <;> cases b4 <;> decide
 clear hb0 hr0 hrx hr hx hx0 hl0 hk hc hlt hhi hg
 rcases hkey with ⟨rfl, rfl⟩ | ⟨rfl, rfl⟩ | ⟨rfl, rfl, rfl⟩ | ⟨rfl, rfl, rfl⟩ | ⟨rfl, rfl, rfl, rfl⟩
 all_goals
  go_enter Tryz.func86, Tryz.ntmps86
  go_wp2_with (first | (rw [HV.out]) | (with_reducible refine wpList_load_mid rfl 39 (.tmp 41) rfl g off rfl (ndC x) _ HRX.out Tryz.underlying39 rfl HSX.out ?_) | (refine wpList_store_row rfl 39 (.tmp 10) (.tmp 42) rfl w.heap.size (ndC x).toArray rfl rfl 39 _ HR0.out HS1.out HS2.out (ndC_one x) ?_))
  have hr := setRow_heap V w.heap.size _ (ndC x).toArray _ _ HR0.out
  have hl := run_loadVar_row (P := Tryz.prog) (V.setRow w.heap.size (ndC x).toArray) w.heap.size 39 39 (ndC x).toArray (0, 0) _ hr Tryz.underlying39 rfl HS1.out
  refine bodyPost_ret (v := .tuple #[ndV x, .int .i64 1, .bool true]) ?_ rfl ⟨rfl, below_setRow HB0.out (Nat.le_refl _) _⟩
  unfold ndV
  simp [results, Tryz.results86, asAddr, hl]
theorem rjoin43_cut (f t lo up mid : Nat) (hft : f < t) (ht : t ≤ 4096) (hlt : lo < up) (hc : (insB f t lo up || outB f t lo up) = false) (hm : Hid (lo + half (up - lo) = mid)) (hm1 : lo < mid) (hm2 : mid < up) (ih1 : RJ43 f t lo mid) (ih2 : RJ43 f t mid up) : RJ43 f t lo up := by
 intro hhi ls A n c w hn h hk
 have hl1 := parts_length_pos hft lo mid hm1
 have hl2 := parts_length_pos hft mid up hm2
 obtain ⟨k1, HK1⟩ : ∃ k, Hid ((parts f t lo mid).length = k) := ⟨_, hid rfl⟩
 obtain ⟨k2, HK2⟩ : ∃ k, Hid ((parts f t mid up).length = k) := ⟨_, hid rfl⟩
 obtain ⟨kk, HKK⟩ : ∃ k, Hid ((parts f t lo up).length = k) := ⟨_, hid rfl⟩
 obtain ⟨r1, HR1⟩ : ∃ k, Hid ((rj f t lo up ls).1 = k) := ⟨_, hid rfl⟩
 obtain ⟨r2, HR2⟩ : ∃ k, Hid ((rj f t lo up ls).2 = k) := ⟨_, hid rfl⟩
 obtain ⟨a, HA1⟩ : ∃ k, Hid ((rj f t lo mid ls).1 = k) := ⟨_, hid rfl⟩
 obtain ⟨ok, HA2⟩ : ∃ k, Hid ((rj f t lo mid ls).2 = k) := ⟨_, hid rfl⟩
 obtain ⟨b, HB1⟩ : ∃ k, Hid ((rj f t mid up (ls.drop k1)).1 = k) := ⟨_, hid rfl⟩
 obtain ⟨is, HB2⟩ : ∃ k, Hid ((rj f t mid up (ls.drop k1)).2 = k) := ⟨_, hid rfl⟩
 rw [HKK.out, HR1.out, HR2.out]
 rw [HKK.out] at hk
 rw [HK1.out] at hl1
 rw [HK2.out] at hl2
 have hkk : k1 + k2 = kk := by rw [← HK1.out, ← HK2.out, ← HKK.out, parts_cut hlt hft hc, hm.out, List.length_append]
 have HRR : Hid ((r1, r2) = rjC (a, ok) (b, is)) := hid (by
  rw [← HR1.out, ← HR2.out, ← HA1.out, ← HA2.out, ← HB1.out, ← HB2.out, rj_cut hlt hft hc, hm.out, HK1.out])
 have HOA : Hid (NdOk a) := hid (by rw [← HA1.out]; exact rj_okN hft lo mid hm1 ls h.out.ok)
 have HOB : Hid (NdOk b) := hid (by rw [← HB1.out]; exact rj_okN hft mid up hm2 _ (fun x hx => h.out.ok x (List.mem_of_mem_drop hx)))
 obtain ⟨g, off, rfl, hg, hr⟩ := h.out.rd (by rw [h.out.len]; omega)
 have hcap := h.out.cap
 obtain ⟨dn, HDN⟩ : ∃ k, Hid (up - lo = k) := ⟨_, hid rfl⟩
 obtain ⟨hf, HHF⟩ : ∃ k, Hid (half dn = k) := ⟨_, hid rfl⟩
 have hmm : lo + hf = mid := by rw [← HHF.out, ← HDN.out]; exact hm.out
 have w1 : IntKind.i64.wrap ((up : Int) - (lo : Int)) = (dn : Int) := by have := HDN.out; rw [IntWalk.i64_in _ (by omega)]; omega
 have w2 : IntKind.i64.wrap ((lo : Int) + (hf : Int)) = (mid : Int) := by rw [IntWalk.i64_in _ (by omega)]; omega
 have w3 : IntKind.i64.wrap ((k1 : Int) + (k2 : Int)) = (kk : Int) := by rw [IntWalk.i64_in _ (by omega)]; omega
 have hdn : dn ≤ 1000000 := by have := HDN.out; omega
 have hk1n : k1 < n := by omega
 have hk1m : k1 ≤ n := by omega
 have HQ1 := hid (ih1 (by omega))
 have HQ2 := hid (ih2 hhi)
 have HKN : Hid ((parts f t lo mid).length ≤ n ∧ (parts f t mid up).length ≤ n - k1) := hid ⟨by rw [HK1.out]; omega, by rw [HK2.out]; omega⟩
 obtain ⟨b1, e1⟩ : ∃ b, decide (f ≤ lo) = b := ⟨_, rfl⟩
 obtain ⟨b2, e2⟩ : ∃ b, decide (up ≤ t) = b := ⟨_, rfl⟩
 obtain ⟨b3, e3⟩ : ∃ b, decide (up ≤ f) = b := ⟨_, rfl⟩
 obtain ⟨b4, e4⟩ : ∃ b, decide (t ≤ lo) = b := ⟨_, rfl⟩
 have d1 : decide ((f : Int) ≤ (lo : Int)) = b1 := by rw [← e1]; simp
 have d2 : decide ((up : Int) ≤ (t : Int)) = b2 := by rw [← e2]; simp
 have d3 : decide ((up : Int) ≤ (f : Int)) = b3 := by rw [← e3]; simp
 have d4 : decide ((t : Int) ≤ (lo : Int)) = b4 := by rw [← e4]; simp
 have hkey : (b1 = false ∧ b3 = false ∧ b4 = false) ∨ (b1 = true ∧ b2 = false ∧ b3 = false ∧ b4 = false) := by
  unfold insB outB at hc
  rw [e1, e2, e3, e4] at hc
  revert hc
  cases b1 <;> cases b2 <;> cases b3 <;> cases b4 <;> decide
 have HIA : Hid ((Tryz.prog.info? 39).map (·.size) = some (ndC a).toArray.size) := hid (by rw [size34 HOA.out]; simp)
 have HIB : Hid ((Tryz.prog.info? 39).map (·.size) = some (ndC b).toArray.size) := hid (by rw [size34 HOB.out]; simp)
 have HZA : Hid ((#[.int .u8 0, .int .u8 0, .int .u8 0, .int .u8 0, .int .u8 0, .int .u8 0, .int .u8 0, .int .u8 0, .int .u8 0, .int .u8 0, .int .u8 0, .int .u8 0, .int .u8 0, .int .u8 0, .int .u8 0, .int .u8 0, .int .u8 0, .int .u8 0, .int .u8 0, .int .u8 0, .int .u8 0, .int .u8 0, .int .u8 0, .int .u8 0, .int .u8 0, .int .u8 0, .int .u8 0, .int .u8 0, .int .u8 0, .int .u8 0, .int .u8 0, .int .u8 0, .int .i64 0, .int .i64 0] : Array Value).size = (ndC a).toArray.size) := hid (by simp [ndC_length HOA.out])
 have HZB : Hid ((#[.int .u8 0, .int .u8 0, .int .u8 0, .int .u8 0, .int .u8 0, .int .u8 0, .int .u8 0, .int .u8 0, .int .u8 0, .int .u8 0, .int .u8 0, .int .u8 0, .int .u8 0, .int .u8 0, .int .u8 0, .int .u8 0, .int .u8 0, .int .u8 0, .int .u8 0, .int .u8 0, .int .u8 0, .int .u8 0, .int .u8 0, .int .u8 0, .int .u8 0, .int .u8 0, .int .u8 0, .int .u8 0, .int .u8 0, .int .u8 0, .int .u8 0, .int .u8 0, .int .i64 0, .int .i64 0] : Array Value).size = (ndC b).toArray.size) := hid (by simp [ndC_length HOB.out])
 have HOJ : Hid (NdOk (joinR a b)) := hid (joinR_ok43 HOA.out HOB.out)
 obtain ⟨jn, HJ⟩ : ∃ q, Hid (joinR a b = q) := ⟨_, hid rfl⟩
 obtain ⟨je, HJE⟩ : ∃ q, Hid (joinE a b = q) := ⟨_, hid rfl⟩
 obtain ⟨v, HVV⟩ : ∃ q, Hid (vL [a, b] = q) := ⟨_, hid rfl⟩
 rw [HJ.out] at HOJ
 have dje : (je == (0 : Int)) = v := by rw [← HJE.out, ← HVV.out]; unfold joinE; cases vL [a, b] <;> rfl
 have HIJ : Hid ((Tryz.prog.info? 39).map (·.size) = some (ndC jn).toArray.size) := hid (by rw [size34 HOJ.out]; simp)
 have HZJ : Hid ((#[.int .u8 0, .int .u8 0, .int .u8 0, .int .u8 0, .int .u8 0, .int .u8 0, .int .u8 0, .int .u8 0, .int .u8 0, .int .u8 0, .int .u8 0, .int .u8 0, .int .u8 0, .int .u8 0, .int .u8 0, .int .u8 0, .int .u8 0, .int .u8 0, .int .u8 0, .int .u8 0, .int .u8 0, .int .u8 0, .int .u8 0, .int .u8 0, .int .u8 0, .int .u8 0, .int .u8 0, .int .u8 0, .int .u8 0, .int .u8 0, .int .u8 0, .int .u8 0, .int .i64 0, .int .i64 0] : Array Value).size = (ndC jn).toArray.size) := hid (by simp [ndC_length HOJ.out])
 have hb0 := (Below.refl _ w).alloc (Nat.le_refl _) (.cells #[.int .u8 0, .int .u8 0, .int .u8 0, .int .u8 0, .int .u8 0, .int .u8 0, .int .u8 0, .int .u8 0, .int .u8 0, .int .u8 0, .int .u8 0, .int .u8 0, .int .u8 0, .int .u8 0, .int .u8 0, .int .u8 0, .int .u8 0, .int .u8 0, .int .u8 0, .int .u8 0, .int .u8 0, .int .u8 0, .int .u8 0, .int .u8 0, .int .u8 0, .int .u8 0, .int .u8 0, .int .u8 0, .int .u8 0, .int .u8 0, .int .u8 0, .int .u8 0, .int .i64 0, .int .i64 0] 39)
 have hr0 := heap_alloc_new w (.cells #[.int .u8 0, .int .u8 0, .int .u8 0, .int .u8 0, .int .u8 0, .int .u8 0, .int .u8 0, .int .u8 0, .int .u8 0, .int .u8 0, .int .u8 0, .int .u8 0, .int .u8 0, .int .u8 0, .int .u8 0, .int .u8 0, .int .u8 0, .int .u8 0, .int .u8 0, .int .u8 0, .int .u8 0, .int .u8 0, .int .u8 0, .int .u8 0, .int .u8 0, .int .u8 0, .int .u8 0, .int .u8 0, .int .u8 0, .int .u8 0, .int .u8 0, .int .u8 0, .int .i64 0, .int .i64 0] 39)
 obtain ⟨V0, HV0⟩ : ∃ V, Hid (w.alloc (.cells #[.int .u8 0, .int .u8 0, .int .u8 0, .int .u8 0, .int .u8 0, .int .u8 0, .int .u8 0, .int .u8 0, .int .u8 0, .int .u8 0, .int .u8 0, .int .u8 0, .int .u8 0, .int .u8 0, .int .u8 0, .int .u8 0, .int .u8 0, .int .u8 0, .int .u8 0, .int .u8 0, .int .u8 0, .int .u8 0, .int .u8 0, .int .u8 0, .int .u8 0, .int .u8 0, .int .u8 0, .int .u8 0, .int .u8 0, .int .u8 0, .int .u8 0, .int .u8 0, .int .i64 0, .int .i64 0] 39) = V) := ⟨_, hid rfl⟩
 rw [HV0.out] at hb0 hr0
 have HB0 := hid hb0
 have RZ0 := hid hr0
 have KI0 := hid (h.out.below hb0)
 clear hb0 hr0 hr hk hc hlt hhi hg ih1 ih2 hm1 hm2 hft ht hmm
 rcases hkey with ⟨rfl, rfl, rfl⟩ | ⟨rfl, rfl, rfl, rfl⟩
 all_goals
  go_enter Tryz.func86, Tryz.ntmps86
  go_wp2_with (rw [HV0.out])
  refine (rhalf43_any dn _ hdn).mono ?_
  rintro e w2 ⟨rfl, rfl⟩
  rw [HHF.out]
  go_wp2_with fail
  refine (HQ1.out ls (some ⟨g, off, none⟩) n c _ hn KI0 HKN.out.1).mono ?_
  rintro e U1 ⟨rfl, hq⟩
  rw [HA1.out, HA2.out, HK1.out]
  have HB2 := hid (HB0.out.trans (hq.mono HB0.out.size))
  have RZ2 := hid (row_kept RZ0.out hq)
  have KI2 := hid (KI0.out.below hq)
  clear hq HB0 RZ0 KI0
  obtain ⟨V3, HV3, hw, hb⟩ := lay_row U1 39 #[.int .u8 0, .int .u8 0, .int .u8 0, .int .u8 0, .int .u8 0, .int .u8 0, .int .u8 0, .int .u8 0, .int .u8 0, .int .u8 0, .int .u8 0, .int .u8 0, .int .u8 0, .int .u8 0, .int .u8 0, .int .u8 0, .int .u8 0, .int .u8 0, .int .u8 0, .int .u8 0, .int .u8 0, .int .u8 0, .int .u8 0, .int .u8 0, .int .u8 0, .int .u8 0, .int .u8 0, .int .u8 0, .int .u8 0, .int .u8 0, .int .u8 0, .int .u8 0, .int .i64 0, .int .i64 0] (ndC a).toArray
  have HB4 := hid (HB2.out.trans (hb.mono HB2.out.size))
  have RZ4 := hid (row_kept RZ2.out hb)
  have KI4 := hid (KI2.out.below hb)
  have RA3 := hid hw
  clear hw hb HB2 RZ2 KI2
  go_wp2_with (refine wpList_store_row rfl 39 (.tmp 14) (.tmp 56) rfl U1.heap.size (ndC a).toArray rfl rfl 39 _ (heap_alloc_new U1 _) HIA.out HZA.out (ndC_one a) ?_; rw [HV3.out])
  refine (HQ2.out (ls.drop k1) (some ⟨g, off + k1 * 34, none⟩) (n - k1) (c - k1) _ (by omega) (hid (KI4.out.drop k1 hk1m)) HKN.out.2).mono ?_
  rintro e U5 ⟨rfl, hq⟩
  rw [HB1.out, HB2.out, HK2.out]
  have HB6 := hid (HB4.out.trans (hq.mono HB4.out.size))
  have RZ6 := hid (row_kept RZ4.out hq)
  have RA6 := hid (row_kept RA3.out hq)
  have KI6 := hid (KI4.out.below hq)
  clear hq HB4 RZ4 RA3 KI4
  obtain ⟨V7, HV7, hw, hb⟩ := lay_row U5 39 #[.int .u8 0, .int .u8 0, .int .u8 0, .int .u8 0, .int .u8 0, .int .u8 0, .int .u8 0, .int .u8 0, .int .u8 0, .int .u8 0, .int .u8 0, .int .u8 0, .int .u8 0, .int .u8 0, .int .u8 0, .int .u8 0, .int .u8 0, .int .u8 0, .int .u8 0, .int .u8 0, .int .u8 0, .int .u8 0, .int .u8 0, .int .u8 0, .int .u8 0, .int .u8 0, .int .u8 0, .int .u8 0, .int .u8 0, .int .u8 0, .int .u8 0, .int .u8 0, .int .i64 0, .int .i64 0] (ndC b).toArray
  have HB8 := hid (HB6.out.trans (hb.mono HB6.out.size))
  have RZ8 := hid (row_kept RZ6.out hb)
  have RA8 := hid (row_kept RA6.out hb)
  have KI8 := hid (KI6.out.below hb)
  have RB7 := hid hw
  clear hw hb HB6 RZ6 RA6 KI6
  have HZI : Hid ((Tryz.prog.info? 39).map (·.size) = some (#[.int .u8 0, .int .u8 0, .int .u8 0, .int .u8 0, .int .u8 0, .int .u8 0, .int .u8 0, .int .u8 0, .int .u8 0, .int .u8 0, .int .u8 0, .int .u8 0, .int .u8 0, .int .u8 0, .int .u8 0, .int .u8 0, .int .u8 0, .int .u8 0, .int .u8 0, .int .u8 0, .int .u8 0, .int .u8 0, .int .u8 0, .int .u8 0, .int .u8 0, .int .u8 0, .int .u8 0, .int .u8 0, .int .u8 0, .int .u8 0, .int .u8 0, .int .u8 0, .int .i64 0, .int .i64 0] : Array Value).size) := hid (by rw [← zeroN_cells, size34 zeroN_ok]; simp)
  have HEZ : Hid (ndV zeroN = .agg #[.int .u8 0, .int .u8 0, .int .u8 0, .int .u8 0, .int .u8 0, .int .u8 0, .int .u8 0, .int .u8 0, .int .u8 0, .int .u8 0, .int .u8 0, .int .u8 0, .int .u8 0, .int .u8 0, .int .u8 0, .int .u8 0, .int .u8 0, .int .u8 0, .int .u8 0, .int .u8 0, .int .u8 0, .int .u8 0, .int .u8 0, .int .u8 0, .int .u8 0, .int .u8 0, .int .u8 0, .int .u8 0, .int .u8 0, .int .u8 0, .int .u8 0, .int .u8 0, .int .i64 0, .int .i64 0]) := hid (by unfold ndV; rw [zeroN_cells])
  have HBJ := hid (rjoin_any a b)
  cases ok
  ·obtain ⟨rfl, rfl⟩ : r1 = zeroN ∧ r2 = false := by have h := HRR.out; exact ⟨congrArg Prod.fst h, congrArg Prod.snd h⟩
   go_wp2_with (first | (refine wpList_store_row rfl 39 (.tmp 17) (.tmp 68) rfl U5.heap.size (ndC b).toArray rfl rfl 39 _ (heap_alloc_new U5 _) HIB.out HZB.out (ndC_one b) ?_; rw [HV7.out]) | (refine wpList_store_row rfl 39 (.tmp 10) (.tmp 77) rfl w.heap.size #[.int .u8 0, .int .u8 0, .int .u8 0, .int .u8 0, .int .u8 0, .int .u8 0, .int .u8 0, .int .u8 0, .int .u8 0, .int .u8 0, .int .u8 0, .int .u8 0, .int .u8 0, .int .u8 0, .int .u8 0, .int .u8 0, .int .u8 0, .int .u8 0, .int .u8 0, .int .u8 0, .int .u8 0, .int .u8 0, .int .u8 0, .int .u8 0, .int .u8 0, .int .u8 0, .int .u8 0, .int .u8 0, .int .u8 0, .int .u8 0, .int .u8 0, .int .u8 0, .int .i64 0, .int .i64 0] rfl rfl 39 _ RZ8.out HZI.out rfl (by rw [← zeroN_cells]; exact ndC_one zeroN) ?_))
   have hr := setRow_heap V7 w.heap.size _ #[.int .u8 0, .int .u8 0, .int .u8 0, .int .u8 0, .int .u8 0, .int .u8 0, .int .u8 0, .int .u8 0, .int .u8 0, .int .u8 0, .int .u8 0, .int .u8 0, .int .u8 0, .int .u8 0, .int .u8 0, .int .u8 0, .int .u8 0, .int .u8 0, .int .u8 0, .int .u8 0, .int .u8 0, .int .u8 0, .int .u8 0, .int .u8 0, .int .u8 0, .int .u8 0, .int .u8 0, .int .u8 0, .int .u8 0, .int .u8 0, .int .u8 0, .int .u8 0, .int .i64 0, .int .i64 0] _ _ RZ8.out
   have hl := run_loadVar_row (P := Tryz.prog) (V7.setRow w.heap.size #[.int .u8 0, .int .u8 0, .int .u8 0, .int .u8 0, .int .u8 0, .int .u8 0, .int .u8 0, .int .u8 0, .int .u8 0, .int .u8 0, .int .u8 0, .int .u8 0, .int .u8 0, .int .u8 0, .int .u8 0, .int .u8 0, .int .u8 0, .int .u8 0, .int .u8 0, .int .u8 0, .int .u8 0, .int .u8 0, .int .u8 0, .int .u8 0, .int .u8 0, .int .u8 0, .int .u8 0, .int .u8 0, .int .u8 0, .int .u8 0, .int .u8 0, .int .u8 0, .int .i64 0, .int .i64 0]) w.heap.size 39 39 #[.int .u8 0, .int .u8 0, .int .u8 0, .int .u8 0, .int .u8 0, .int .u8 0, .int .u8 0, .int .u8 0, .int .u8 0, .int .u8 0, .int .u8 0, .int .u8 0, .int .u8 0, .int .u8 0, .int .u8 0, .int .u8 0, .int .u8 0, .int .u8 0, .int .u8 0, .int .u8 0, .int .u8 0, .int .u8 0, .int .u8 0, .int .u8 0, .int .u8 0, .int .u8 0, .int .u8 0, .int .u8 0, .int .u8 0, .int .u8 0, .int .u8 0, .int .u8 0, .int .i64 0, .int .i64 0] (0, 0) _ hr Tryz.underlying39 rfl HZI.out
   refine bodyPost_ret (v := .tuple #[.agg #[.int .u8 0, .int .u8 0, .int .u8 0, .int .u8 0, .int .u8 0, .int .u8 0, .int .u8 0, .int .u8 0, .int .u8 0, .int .u8 0, .int .u8 0, .int .u8 0, .int .u8 0, .int .u8 0, .int .u8 0, .int .u8 0, .int .u8 0, .int .u8 0, .int .u8 0, .int .u8 0, .int .u8 0, .int .u8 0, .int .u8 0, .int .u8 0, .int .u8 0, .int .u8 0, .int .u8 0, .int .u8 0, .int .u8 0, .int .u8 0, .int .u8 0, .int .u8 0, .int .i64 0, .int .i64 0], .int .i64 (kk : Nat), .bool false]) ?_ rfl ⟨by rw [HEZ.out], below_setRow HB8.out (Nat.le_refl _) _⟩
   simp [results, Tryz.results86, asAddr, hl]
  ·cases is
   ·obtain ⟨rfl, rfl⟩ : r1 = zeroN ∧ r2 = false := by have h := HRR.out; exact ⟨congrArg Prod.fst h, congrArg Prod.snd h⟩
    go_wp2_with (first | (refine wpList_store_row rfl 39 (.tmp 17) (.tmp 68) rfl U5.heap.size (ndC b).toArray rfl rfl 39 _ (heap_alloc_new U5 _) HIB.out HZB.out (ndC_one b) ?_; rw [HV7.out]) | (refine wpList_store_row rfl 39 (.tmp 10) (.tmp 77) rfl w.heap.size #[.int .u8 0, .int .u8 0, .int .u8 0, .int .u8 0, .int .u8 0, .int .u8 0, .int .u8 0, .int .u8 0, .int .u8 0, .int .u8 0, .int .u8 0, .int .u8 0, .int .u8 0, .int .u8 0, .int .u8 0, .int .u8 0, .int .u8 0, .int .u8 0, .int .u8 0, .int .u8 0, .int .u8 0, .int .u8 0, .int .u8 0, .int .u8 0, .int .u8 0, .int .u8 0, .int .u8 0, .int .u8 0, .int .u8 0, .int .u8 0, .int .u8 0, .int .u8 0, .int .i64 0, .int .i64 0] rfl rfl 39 _ RZ8.out HZI.out rfl (by rw [← zeroN_cells]; exact ndC_one zeroN) ?_))
    have hr := setRow_heap V7 w.heap.size _ #[.int .u8 0, .int .u8 0, .int .u8 0, .int .u8 0, .int .u8 0, .int .u8 0, .int .u8 0, .int .u8 0, .int .u8 0, .int .u8 0, .int .u8 0, .int .u8 0, .int .u8 0, .int .u8 0, .int .u8 0, .int .u8 0, .int .u8 0, .int .u8 0, .int .u8 0, .int .u8 0, .int .u8 0, .int .u8 0, .int .u8 0, .int .u8 0, .int .u8 0, .int .u8 0, .int .u8 0, .int .u8 0, .int .u8 0, .int .u8 0, .int .u8 0, .int .u8 0, .int .i64 0, .int .i64 0] _ _ RZ8.out
    have hl := run_loadVar_row (P := Tryz.prog) (V7.setRow w.heap.size #[.int .u8 0, .int .u8 0, .int .u8 0, .int .u8 0, .int .u8 0, .int .u8 0, .int .u8 0, .int .u8 0, .int .u8 0, .int .u8 0, .int .u8 0, .int .u8 0, .int .u8 0, .int .u8 0, .int .u8 0, .int .u8 0, .int .u8 0, .int .u8 0, .int .u8 0, .int .u8 0, .int .u8 0, .int .u8 0, .int .u8 0, .int .u8 0, .int .u8 0, .int .u8 0, .int .u8 0, .int .u8 0, .int .u8 0, .int .u8 0, .int .u8 0, .int .u8 0, .int .i64 0, .int .i64 0]) w.heap.size 39 39 #[.int .u8 0, .int .u8 0, .int .u8 0, .int .u8 0, .int .u8 0, .int .u8 0, .int .u8 0, .int .u8 0, .int .u8 0, .int .u8 0, .int .u8 0, .int .u8 0, .int .u8 0, .int .u8 0, .int .u8 0, .int .u8 0, .int .u8 0, .int .u8 0, .int .u8 0, .int .u8 0, .int .u8 0, .int .u8 0, .int .u8 0, .int .u8 0, .int .u8 0, .int .u8 0, .int .u8 0, .int .u8 0, .int .u8 0, .int .u8 0, .int .u8 0, .int .u8 0, .int .i64 0, .int .i64 0] (0, 0) _ hr Tryz.underlying39 rfl HZI.out
    refine bodyPost_ret (v := .tuple #[.agg #[.int .u8 0, .int .u8 0, .int .u8 0, .int .u8 0, .int .u8 0, .int .u8 0, .int .u8 0, .int .u8 0, .int .u8 0, .int .u8 0, .int .u8 0, .int .u8 0, .int .u8 0, .int .u8 0, .int .u8 0, .int .u8 0, .int .u8 0, .int .u8 0, .int .u8 0, .int .u8 0, .int .u8 0, .int .u8 0, .int .u8 0, .int .u8 0, .int .u8 0, .int .u8 0, .int .u8 0, .int .u8 0, .int .u8 0, .int .u8 0, .int .u8 0, .int .u8 0, .int .i64 0, .int .i64 0], .int .i64 (kk : Nat), .bool false]) ?_ rfl ⟨by rw [HEZ.out], below_setRow HB8.out (Nat.le_refl _) _⟩
    simp [results, Tryz.results86, asAddr, hl]
   ·have q1 : jn = r1 := by have h := HRR.out; exact ((congrArg Prod.fst h).trans HJ.out).symm
    have q2 : v = r2 := by have h := HRR.out; exact ((congrArg Prod.snd h).trans HVV.out).symm
    subst q1
    subst q2
    go_wp2_with (first | (refine wpList_store_row rfl 39 (.tmp 17) (.tmp 68) rfl U5.heap.size (ndC b).toArray rfl rfl 39 _ (heap_alloc_new U5 _) HIB.out HZB.out (ndC_one b) ?_; rw [HV7.out]) | (refine wpList_load_row rfl 39 (.tmp 14) rfl (U1.heap.size) rfl 39 _ (0, 0) _ RA8.out Tryz.underlying39 rfl HIA.out ?_) | (refine wpList_load_row rfl 39 (.tmp 17) rfl (U5.heap.size) rfl 39 _ (0, 0) _ RB7.out Tryz.underlying39 rfl HIB.out ?_))
    refine (rjoin_any a b _ HOA.out HOB.out).mono ?_
    rintro e U9 ⟨rfl, hq⟩
    rw [HJ.out, HJE.out]
    have HB10 := hid (HB8.out.trans (hq.mono HB8.out.size))
    have RZ10 := hid (row_kept RZ8.out hq)
    have RA10 := hid (row_kept RA8.out hq)
    have RB10 := hid (row_kept RB7.out hq)
    have KI10 := hid (KI8.out.below hq)
    clear hq HB8 RZ8 RA8 RB7 KI8
    obtain ⟨V11, HV11, hw, hb⟩ := lay_row U9 39 #[.int .u8 0, .int .u8 0, .int .u8 0, .int .u8 0, .int .u8 0, .int .u8 0, .int .u8 0, .int .u8 0, .int .u8 0, .int .u8 0, .int .u8 0, .int .u8 0, .int .u8 0, .int .u8 0, .int .u8 0, .int .u8 0, .int .u8 0, .int .u8 0, .int .u8 0, .int .u8 0, .int .u8 0, .int .u8 0, .int .u8 0, .int .u8 0, .int .u8 0, .int .u8 0, .int .u8 0, .int .u8 0, .int .u8 0, .int .u8 0, .int .u8 0, .int .u8 0, .int .i64 0, .int .i64 0] (ndC jn).toArray
    have HB12 := hid (HB10.out.trans (hb.mono HB10.out.size))
    have RZ12 := hid (row_kept RZ10.out hb)
    have RA12 := hid (row_kept RA10.out hb)
    have RB12 := hid (row_kept RB10.out hb)
    have KI12 := hid (KI10.out.below hb)
    have RJ11 := hid hw
    clear hw hb HB10 RZ10 RA10 RB10 KI10
    go_wp2_with (first | (refine wpList_store_row rfl 39 (.tmp 20) (.tmp 85) rfl U9.heap.size (ndC jn).toArray rfl rfl 39 _ (heap_alloc_new U9 _) HIJ.out HZJ.out (ndC_one jn) ?_; rw [HV11.out]) | (refine wpList_load_row rfl 39 (.tmp 20) rfl (U9.heap.size) rfl 39 _ (0, 0) _ RJ11.out Tryz.underlying39 rfl HIJ.out ?_) | (refine wpList_store_row rfl 39 (.tmp 10) (.tmp 87) rfl w.heap.size (ndC jn).toArray rfl rfl 39 _ RZ12.out HIJ.out HZJ.out (ndC_one jn) ?_))
    have hr := setRow_heap V11 w.heap.size _ (ndC jn).toArray _ _ RZ12.out
    have hl := run_loadVar_row (P := Tryz.prog) (V11.setRow w.heap.size (ndC jn).toArray) w.heap.size 39 39 (ndC jn).toArray (0, 0) _ hr Tryz.underlying39 rfl HIJ.out
    refine bodyPost_ret (v := .tuple #[.agg (ndC jn).toArray, .int .i64 (kk : Nat), .bool v]) ?_ rfl ⟨rfl, below_setRow HB12.out (Nat.le_refl _) _⟩
    simp [results, Tryz.results86, asAddr, hl]
theorem rjoin43_any (f t : Nat) (hft : f < t) (ht : t ≤ 4096) (lo hi : Nat) (h : lo < hi) : RJ43 f t lo hi :=
 parts_ind hft (M := RJ43 f t) (fun lo hi hlt hc => rjoin43_leaf f t lo hi hlt hc) (fun lo hi hlt hc h1 h2 ih1 ih2 => rjoin43_cut f t lo hi _ hft ht hlt hc (hid rfl) (by omega) (by omega) ih1 ih2) (hi - lo) lo hi h (Nat.le_refl _)
open Go.ChangeShapes Go.WideShapes Go.ChangeAt
/-- to be used under 'with_reducible' ahead of an arm's law: the goal is a list of operations -/
theorem wpList_here {P : Program} {ops : Array Oper} {rest : List Oper} {o : Oper} {a : Act} {w : World} {Q : Exit → Act → World → Prop} (h : wpList P ops Q (o :: rest) a w) : wpList P ops Q (o :: rest) a w := h
theorem wpList_load_mid_g {P : Program} {ops : Array Oper} {rest : List Oper} {op : Oper} {a : Act} {w : World} {Q : Exit → Act → World → Prop} (ty : TypeId) (x : Operand) (ho : op.op = .load ty x)
  (hw : Region.wanted op (yielded ops a.tmps) = true)
  (b o : Nat) (hx : a.eval x = .pointer (some ⟨b, o, none⟩)) (cs : List Value) (d : TypeDesc) (hc : w.rangeAt b o cs)
  (hu : P.underlying ty = some d) (hd : d.isRow = true) (hi : (P.info? ty).map (·.size) = some cs.length)
  (h : wpList P ops Q rest (a.put op.dst (.agg cs.toArray)) w) : wpList P ops Q (op :: rest) a w :=
 wpList_unguard hw (wpList_load_mid rfl ty x ho b o hx cs d hc hu hd hi h)
theorem wpList_load_row_g {P : Program} {ops : Array Oper} {rest : List Oper} {o : Oper} {a : Act} {w : World} {Q : Exit → Act → World → Prop} (ty : TypeId) (x : Operand) (ho : o.op = .load ty x)
  (hw : Region.wanted o (yielded ops a.tmps) = true)
  (g : Nat) (hx : a.eval x = .pointer (some ⟨g, 0, none⟩)) (t : TypeId) (cs : Array Value) (fr : Nat × Nat) (d : TypeDesc) (hg : w.heap[g]? = some (.cells cs t fr))
  (hu : P.underlying ty = some d) (hd : (match d with | .struct _ | .array _ _ => true | _ => false) = true) (hi : (P.info? ty).map (·.size) = some cs.size)
  (h : wpList P ops Q rest (a.put o.dst (.agg cs)) w) : wpList P ops Q (o :: rest) a w :=
 wpList_unguard hw (wpList_load_row rfl ty x ho g hx t cs fr d hg hu hd hi h)
theorem wpList_neq_nd_g {w : World} {ops : Array Oper} {rest : List Oper} {o : Oper} {a : Act} {Q : Exit → Act → World → Prop} (x y : Operand) (t : TypeId)
  (ho : o.op = .binOp .neq 39 x y t) (hw : Region.wanted o (yielded ops a.tmps) = true) (m n : Nd) (hx : a.eval x = ndV m) (hy : a.eval y = ndV n) (hm : NdOk m) (hn : NdOk n)
  (h : wpList Tryz.prog ops Q rest (a.put o.dst (.bool (!(ndEq m n)))) w) : wpList Tryz.prog ops Q (o :: rest) a w :=
 wpList_unguard hw (wpList_neq_nd rfl x y t ho m n hx hy hm hn h)
end Go.Proofs.YtmfmgeapecapiaaGreatDoor
