/- sizarref41.Join. sizarref41: root, Root. sizarref43.Show, accepted. -/
import Derived.Test.YtmfmgeapecapiaaGreatDoorSH18
import Derived.Test.YtmfmgeapecapiaaGreatDoorSH4
import Derived.Test.YtmfmgeapecapiaaGreatDoorSH11
set_option maxHeartbeats 64000001
open Go.Lib (hid)
namespace Go.Proofs.YtmfmgeapecapiaaGreatDoor
open Go.RowKit SzSha SzTree
set_option linter.unusedVariables false
set_option maxRecDepth 100000
theorem vL_pairJ (a b : Nd) : vL [a, b] = true ↔ (vN a = true ∧ vN b = true) ∧ a.c + b.c ≤ 1073741824 := by
 have h : sumC [a, b] = a.c + b.c := by simp [sumC]
 unfold vL
 rw [Bool.and_eq_true, decide_eq_true_eq, h]
 simp
def wJr (W0 : World) (ra : Nat) (rb : Nat) (br : Nat) (A7 : Option Addr) (n7 : Nat) (c7 : Nat) (a : Nd) (b : Nd) : Nat → Value → World → Prop
 | 0, fv, _ => fv = .slice A7 n7 c7
 | 1, fv, _ => fv = dgV (joinN a b).d
 | 2, fv, _ => fv = .pointer (some ⟨ra, 32, none⟩)
 | 3, fv, _ => fv = .int .i64 (a.c)
 | 4, fv, _ => fv = .pointer (some ⟨rb, 32, none⟩)
 | 5, fv, _ => fv = .int .i64 (b.c)
 | 6, fv, _ => fv = .int .i64 (a.c + b.c)
 | 7, fv, _ => fv = .pointer (some ⟨ra, 33, none⟩)
 | 8, fv, _ => fv = .int .i64 (a.p)
 | 9, fv, _ => fv = .pointer (some ⟨rb, 33, none⟩)
 | 10, fv, _ => fv = .int .i64 (b.p)
 | 11, fv, _ => fv = .int .i64 (a.p + b.p)
 | 12, fv, _ => fv = ndV (joinN a b)
 | 13, fv, fw => fw.heap[br]? = some (.cells (ndC (joinN a b)).toArray 39 (0, 0)) ∧ Below W0.heap.size W0 fw
 | 14, fv, _ => fv = .int .i64 (0)
 | _, _, _ => True
theorem wJr_below {W0 : World} {ra : Nat} {rb : Nat} {br : Nat} {A7 : Option Addr} {n7 : Nat} {c7 : Nat} {a : Nd} {b : Nd} {w w' : World} (hb : Below w.heap.size w w') : ∀ j v, wJr W0 ra rb br A7 n7 c7 a b j v w → wJr W0 ra rb br A7 n7 c7 a b j v w'
 | 0, v, h => h
 | 1, v, h => h
 | 2, v, h => h
 | 3, v, h => h
 | 4, v, h => h
 | 5, v, h => h
 | 6, v, h => h
 | 7, v, h => h
 | 8, v, h => h
 | 9, v, h => h
 | 10, v, h => h
 | 11, v, h => h
 | 12, v, h => h
 | 13, v, h => ⟨(hb.block br (Array.getElem?_eq_some_iff.1 h.1).1).trans h.1, h.2.trans (hb.mono h.2.size)⟩
 | 14, v, h => h
 | n + 15, v, h => trivial
theorem wJr_pure {W0 : World} {ra : Nat} {rb : Nat} {br : Nat} {A7 : Option Addr} {n7 : Nat} {c7 : Nat} {a : Nd} {b : Nd} {w w' : World} : ∀ j v, j ≠ 13 → wJr W0 ra rb br A7 n7 c7 a b j v w → wJr W0 ra rb br A7 n7 c7 a b j v w'
 | 0, v, _, h => h
 | 1, v, _, h => h
 | 2, v, _, h => h
 | 3, v, _, h => h
 | 4, v, _, h => h
 | 5, v, _, h => h
 | 6, v, _, h => h
 | 7, v, _, h => h
 | 8, v, _, h => h
 | 9, v, _, h => h
 | 10, v, _, h => h
 | 11, v, _, h => h
 | 12, v, _, h => h
 | 13, v, hh, _ => absurd rfl hh
 | 14, v, _, h => h
 | n + 15, v, _, h => trivial
theorem rjoin_yes (a b : Nd) (w : World) (HOA : Hid (NdOk a)) (HOB : Hid (NdOk b)) (hv : vL [a, b] = true) :
  Calls Tryz.prog 128 #[ndV a, ndV b] w fun e w' => e = .returned (.tuple #[ndV (joinN a b), .int .i64 0]) ∧ Below w.heap.size w w' := by
 have HJ : Hid (NdOk (joinN a b)) := hid (join_ok HOA.out HOB.out hv)
 have hvp := (vL_pairJ a b).1 hv
 have hba := vN_bd hvp.1.1
 have hbb := vN_bd hvp.1.2
 have HVA := hid hvp.1.1
 have HVB := hid hvp.1.2
 have HWC : Hid (IntKind.i64.wrap (a.c + b.c) = a.c + b.c) := hid (IntWalk.i64_in _ (by omega))
 have HWP : Hid (IntKind.i64.wrap (a.p + b.p) = a.p + b.p) := hid (IntWalk.i64_in _ (by omega))
 have ds : decide (1073741824 < a.c + b.c) = false := dQ (by omega)
 have HZS : Hid (∀ z ∈ ([a.c, a.p, b.c, b.p] : List Int), -9223372036854775808 ≤ z ∧ z ≤ 9223372036854775807) := hid (fun z hz => by
  simp only [List.mem_cons, List.not_mem_nil, or_false] at hz
  rcases hz with rfl | rfl | rfl | rfl <;> omega)
 have HS1 : Hid ((Tryz.prog.info? 39).map (·.size) = some (ndC (joinN a b)).toArray.size) := hid (by rw [size34 HJ.out]; simp)
 have HS2 : Hid (34 = (ndC (joinN a b)).toArray.size) := hid (by simp [ndC_length HJ.out])
 have hw := HWC.out
 clear hv hvp hba hbb
 have HSA : Hid ((Tryz.prog.info? 39).map (·.size) = some (ndC a).toArray.size) := hid (by rw [size34 HOA.out]; simp)
 have HSB : Hid ((Tryz.prog.info? 39).map (·.size) = some (ndC b).toArray.size) := hid (by rw [size34 HOB.out]; simp)
 have HSZ : Hid ((Tryz.prog.info? 39).map (·.size) = some (ndC zeroN).toArray.size) := hid (by rw [size34 zeroN_ok]; simp)
 have HZC := hid zeroN_cells
 obtain ⟨t1, t2, t3, t4, t5⟩ := three_rows w (ndC a).toArray (ndC b).toArray (ndC zeroN).toArray 39
 have T1 := hid t1
 have T2 := hid t2
 have T3 := hid t3
 have T4 := hid t4
 rw [HZC.out] at T1 T2 T3 T4
 clear t1 t2 t3 t4 t5
 go_enter Tryz.func128, Tryz.ntmps128
 unfold ndV
 go_wp2_with (refine wpList_load_row rfl 39 (.tmp 2) rfl w.heap.size rfl 39 _ (0, 0) _ T2.out Tryz.underlying39 rfl HSA.out ?_)
 rw [show Value.agg (ndC a).toArray = ndV a from rfl]
 refine (rvalid_any a _ HOA.out).mono ?_
 rintro e W1 ⟨rfl, hq⟩
 have S1 := hid (T1.out.trans (hq.mono T1.out.size))
 have S2 := hid (row_kept T2.out hq)
 have S3 := hid (row_kept T3.out hq)
 have S4 := hid (row_kept T4.out hq)
 rw [HVA.out]
 clear hq T1 T2 T3 T4
 go_wp2_with (refine wpList_unguard rfl ?_; refine wpList_load_row rfl 39 (.tmp 3) rfl (w.heap.size + 1) rfl 39 _ (0, 0) _ S3.out Tryz.underlying39 rfl HSB.out ?_)
 rw [show Value.agg (ndC b).toArray = ndV b from rfl]
 refine (rvalid_any b _ HOB.out).mono ?_
 rintro e WE ⟨rfl, hq⟩
 have HB := hid (S1.out.trans (hq.mono S1.out.size))
 have R2 := hid (row_kept S2.out hq)
 have R3 := hid (row_kept S3.out hq)
 have HRR := hid (row_kept S4.out hq)
 rw [HVB.out]
 clear hq S1 S2 S3 S4
 have k1 := cell_c HOA.out R2.out
 have k2 := cell_c HOB.out R3.out
 rw [← HZC.out] at HRR
 have hsz1 : w.heap.size + 1 + 1 + 1 ≤ WE.heap.size := (Array.getElem?_eq_some_iff.1 HRR.out).1
 have hbn := (Below.refl _ WE).alloc (Nat.le_refl _) (.cells #[] 5)
 have HSZ0 : Hid (w.heap.size + 1 + 1 + 1 ≤ (WE.alloc (.cells #[] 5)).heap.size) := hid (Nat.le_trans hsz1 hbn.size)
 have HBN := hid (HB.out.trans (hbn.mono HB.out.size))
 have HRRn := hid (row_kept HRR.out hbn)
 have HR2n := hid (row_kept R2.out hbn)
 have HR3n := hid (row_kept R3.out hbn)
 have HRD : Hid (Rd (WE.alloc (.cells #[] 5)) (WE.alloc (.cells #[] 5)).heap.size (some ⟨w.heap.size, 0, none⟩) a.d) := hid (fun _ => ⟨_, 0, rfl, by have := HSZ0.out; omega, bytes_node HR2n.out⟩)
 have HO0 := hid (OwnB.empty WE (w.heap.size + 1 + 1 + 1) hsz1)
 have HL0 : Hid (([] : List Nat).length + 32 ≤ 1099511627776) := hid (by simp)
 have HLA := hid HOA.out.len
 have HLB := hid HOB.out.len
 have HL1 : Hid (([] ++ a.d).length + 32 ≤ 1099511627776) := hid (by rw [List.nil_append, HLA.out]; omega)
 clear hsz1 hbn
 go_wp2_with (first | (at_builtin; refine wpList_append_bytes rfl (.tmp 24) (.tmp 26) rfl (w.heap.size + 1 + 1 + 1) _ [] a.d rfl HO0 (some ⟨w.heap.size, 0, none⟩) 32 32 rfl HLA (fun h => by cases h) HRD HL0.out HSZ0.out ?_; intro v1 W4 HO4 HB4; have HR24 := hid ((HB4.out.block _ (by omega)).trans HR2n.out); have HR34 := hid ((HB4.out.block _ (by omega)).trans HR3n.out); have HRR4 := hid ((HB4.out.block _ (by omega)).trans HRRn.out); have HSZ4 := hid (Nat.le_trans HSZ0.out HB4.out.size); have HRD4 : Hid (Rd W4 W4.heap.size (some ⟨w.heap.size + 1, 0, none⟩) b.d) := hid (fun _ => ⟨_, 0, rfl, (by have := HSZ4.out; omega), bytes_node HR34.out⟩)) | (at_builtin; refine wpList_append_bytes rfl (.tmp 28) (.tmp 30) rfl (w.heap.size + 1 + 1 + 1) _ ([] ++ a.d) b.d rfl HO4 (some ⟨w.heap.size + 1, 0, none⟩) 32 32 rfl HLB (fun h => by cases h) HRD4 HL1.out HSZ4.out ?_; intro v2 W5 HO5 HB5; have HR25 := hid ((HB5.out.block _ (by omega)).trans HR24.out); have HR35 := hid ((HB5.out.block _ (by omega)).trans HR34.out); have HRR5 := hid ((HB5.out.block _ (by omega)).trans HRR4.out); have HSZ5 := hid (Nat.le_trans HSZ4.out HB5.out.size); have q1 := cell_c HOA.out HR25.out; have q2 := cell_p HOA.out HR25.out; have q3 := cell_c HOB.out HR35.out; have q4 := cell_p HOB.out HR35.out))
 have HBT5 := hid ((HBN.out.trans (HB4.out.mono (by omega))).trans (HB5.out.mono (by omega)))
 clear q1 q2 q3 q4 k1 k2
 have hq := heap_alloc_new W5 (.cells #[.int .i64 a.c, .int .i64 a.p, .int .i64 b.c, .int .i64 b.p] 3)
 have hba := (Below.refl _ W5).alloc (Nat.le_refl _) (.cells #[.int .i64 a.c, .int .i64 a.p, .int .i64 b.c, .int .i64 b.p] 3)
 have HBT6 := hid (HBT5.out.trans (hba.mono HBT5.out.size))
 have HSZ6 := hid (Nat.le_trans HSZ5.out hba.size)
 have HO6 := hid (HO5.out.below hba)
 have HR26 := hid (row_kept HR25.out hba)
 have HR36 := hid (row_kept HR35.out hba)
 have HRR6 := hid (row_kept HRR5.out hba)
 have HCS : Hid (∀ i, i < 4 → (W5.alloc (.cells #[.int .i64 a.c, .int .i64 a.p, .int .i64 b.c, .int .i64 b.p] 3)).cell? ⟨W5.heap.size, i, none⟩ = some (.int .i64 (([a.c, a.p, b.c, b.p] : List Int).getD i 0))) := hid (fun i hi => four_cells hq i hi)
 clear hq hba
 refine (rints_any ([a.c, a.p, b.c, b.p] : List Int) W5.heap.size 4 4 _ HZS rfl (by omega) HCS (by simp)).mono ?_
 rintro e W6 ⟨v6, rfl, ho6, hq6⟩
 obtain ⟨A6, n6, c6, rfl, hn6, hc6, hA6, HR6⟩ := ho6.slice
 have HBT7 := hid (HBT6.out.trans (hq6.mono HBT6.out.size))
 have HSZ7 := hid (Nat.le_trans HSZ6.out hq6.size)
 have HO7 := hid (HO6.out.below hq6)
 have HR27 := hid (row_kept HR26.out hq6)
 have HR37 := hid (row_kept HR36.out hq6)
 have HRR7 := hid (row_kept HRR6.out hq6)
 have HEL : Hid (n6 ≤ 100) := hid (by rw [← hn6.out]; have := encI_length ([a.c, a.p, b.c, b.p] : List Int); simp only [List.length_cons, List.length_nil] at this; omega)
 have HL6 : Hid (([] ++ a.d ++ b.d).length + n6 ≤ 1099511627776) := hid (by simp only [List.nil_append, List.length_append, HLA.out, HLB.out]; have := HEL.out; omega)
 clear ho6 hq6
 go_wp2_with (at_builtin; refine wpList_append_bytes rfl (.tmp 32) (.tmp 42) rfl (w.heap.size + 1 + 1 + 1) _ ([] ++ a.d ++ b.d) (encI ([a.c, a.p, b.c, b.p] : List Int)) rfl HO7 A6 n6 c6 rfl hn6 hA6.out HR6 HL6.out HSZ7.out ?_; intro v7 W7 HO8 HB8)
 obtain ⟨A7, n7, c7, rfl, hn7, hc7, hA7, HR7⟩ := HO8.out.slice
 have R28 := hid ((HB8.out.block _ (by omega)).trans HR27.out)
 have R38 := hid ((HB8.out.block _ (by omega)).trans HR37.out)
 have RR8 := hid ((HB8.out.block _ (by omega)).trans HRR7.out)
 have HBT8 := hid (HBT7.out.trans (HB8.out.mono (by omega)))
 have HN7 : n7 ≤ 1000 := by rw [← hn7.out]; have := HEL.out; simp only [List.length_append, List.nil_append, HLA.out, HLB.out, hn6.out]; omega
 have HBY : Hid (Bytes ([] ++ a.d ++ b.d ++ encI ([a.c, a.p, b.c, b.p] : List Int))) := hid (bytes_app (bytes_app (bytes_app (fun x hx => by cases hx) HOA.out.bytes) HOB.out.bytes) (encI_bytes _))
 have HLD : Hid (dgV (tagged (strL sumTag) ([] ++ a.d ++ b.d ++ encI ([a.c, a.p, b.c, b.p] : List Int))) = dgV (joinN a b).d) := hid (by rw [← join_d, List.nil_append]; rfl)
 clear HRR R2 R3 HB HBN HRRn HR2n HR3n HRD HO0 HL0 HL1 HO4 HB4 HR24 HR34 HRR4 HSZ4 HRD4 HO5 HB5 HR25 HR35 HRR5 HSZ5 HBT5 HBT6 HSZ6 HO6 HR26 HR36 HRR6 HCS HBT7 HSZ7 HO7 HR27 HR37 HRR7 HL6 HO8 HB8 HR6
 refine region_flow3 (by kernel_rfl) (by kernel_rfl) (fun i => Nat.beq i 13 || Nat.beq i 14) (fun i => i) (by kernel_rfl) (fun fx => #[ndV a, ndV b, .pointer (some { block := w.heap.size, off := 0 }), .pointer (some { block := w.heap.size + 1, off := 0 }), .pointer (some { block := w.heap.size + 1 + 1, off := 0 }), fx 14, .slice A7 n7 c7, ndV a, .bool true, .bool false, .bool false, ndV b, .bool true, .bool false, .bool false, .bool false, .pointer (some { block := w.heap.size, off := 32 }), .int IntKind.i64 a.c, .pointer (some { block := w.heap.size + 1, off := 32 }), .int IntKind.i64 b.c, .int IntKind.i64 (a.c + b.c), .bool false, .bool false, undef, .slice (some { block := WE.heap.size, off := 0 }) 0 0, .pointer (some { block := w.heap.size, off := 0 }), .slice (some { block := w.heap.size, off := 0 }) 32 32, v1, v1, .pointer (some { block := w.heap.size + 1, off := 0 }), .slice (some { block := w.heap.size + 1, off := 0 }) 32 32, v2, v2, .pointer (some { block := w.heap.size, off := 32 }), .int IntKind.i64 a.c, .pointer (some { block := w.heap.size, off := 33 }), .int IntKind.i64 a.p, .pointer (some { block := w.heap.size + 1, off := 32 }), .int IntKind.i64 b.c, .pointer (some { block := w.heap.size + 1, off := 33 }), .int IntKind.i64 b.p, .slice (some { block := W5.heap.size, off := 0 }) 4 4, .slice A6 n6 c6, .slice A7 n7 c7, fx 0, fx 1, fx 2, fx 3, fx 4, fx 5, fx 6, fx 7, fx 8, fx 9, fx 10, fx 11, fx 12]) (fun i => bif Nat.beq i 14 then Value.int IntKind.i64 0 else undef) (fun L fx w' => (L 13 = false → Below W7.heap.size W7 w')) (fun fi fv _ fw => wJr w w.heap.size (w.heap.size + 1) (w.heap.size + 1 + 1) A7 n7 c7 a b fi fv fw) (fun _ => (Below.refl _ _).drew) ?_ ?_
 ·refine ⟨?_, ?_, ?_, ?_, ?_, ?_, ?_, ?_, ?_, ?_, ?_, ?_, ?_, ?_, ?_, trivial⟩
  all_goals intro L fx w' hC hi hcl hdn hd
  ·have hnd : L 13 = false := nQ hi (fun h => (hcl 1 0 (hcl 12 1 (hcl 13 12 h (by kernel_rfl)) (by kernel_rfl)) (by kernel_rfl)))
   go_wp2_with fail
   exact ⟨_, rfl, (fun _ => hC hnd), rfl, kP⟩
  ·have h0 : fx 0 = .slice A7 n7 c7 := hd.1 rfl
   have hnd : L 13 = false := nQ hi (fun h => (hcl 12 1 (hcl 13 12 h (by kernel_rfl)) (by kernel_rfl)))
   have hb12 := hC hnd
   have HRk := hid ((HR7.out.below hb12 (Nat.le_refl _)).mono hb12.size)
   go_wp2_with fail
   refine (rtagged_any sumTag A7 n7 c7 _ w' (by decide) hn7 hc7 hA7.out (by omega) HBY HRk).mono ?_
   rintro e w2 ⟨rfl, hq⟩
   rw [HLD.out]
   go_wp2_with fail
   exact ⟨_, by show _ = Act.mk #[ndV a, ndV b, Value.pointer (some { block := w.heap.size, off := 0 }), Value.pointer (some { block := w.heap.size + 1, off := 0 }), Value.pointer (some { block := w.heap.size + 1 + 1, off := 0 }), fx 14, Value.slice A7 n7 c7, ndV a, Value.bool true, Value.bool false, Value.bool false, ndV b, Value.bool true, Value.bool false, Value.bool false, Value.bool false, Value.pointer (some { block := w.heap.size, off := 32 }), Value.int IntKind.i64 a.c, Value.pointer (some { block := w.heap.size + 1, off := 32 }), Value.int IntKind.i64 b.c, Value.int IntKind.i64 (a.c + b.c), Value.bool false, Value.bool false, undef, Value.slice (some { block := WE.heap.size, off := 0 }) 0 0, Value.pointer (some { block := w.heap.size, off := 0 }), Value.slice (some { block := w.heap.size, off := 0 }) 32 32, v1, v1, Value.pointer (some { block := w.heap.size + 1, off := 0 }), Value.slice (some { block := w.heap.size + 1, off := 0 }) 32 32, v2, v2, Value.pointer (some { block := w.heap.size, off := 32 }), Value.int IntKind.i64 a.c, Value.pointer (some { block := w.heap.size, off := 33 }), Value.int IntKind.i64 a.p, Value.pointer (some { block := w.heap.size + 1, off := 32 }), Value.int IntKind.i64 b.c, Value.pointer (some { block := w.heap.size + 1, off := 33 }), Value.int IntKind.i64 b.p, Value.slice (some { block := W5.heap.size, off := 0 }) 4 4, Value.slice A6 n6 c6, Value.slice A7 n7 c7, fx 0, dgV (joinN a b).d, fx 2, fx 3, fx 4, fx 5, fx 6, fx 7, fx 8, fx 9, fx 10, fx 11, fx 12] []; rw [h0] <;> rfl, fun _ => hb12.trans (hq.mono hb12.size), rfl, fun j v t _ _ h => wJr_below hq j v h⟩
  ·have hnd : L 13 = false := nQ hi (fun h => (hcl 3 2 (hcl 6 3 (hcl 12 6 (hcl 13 12 h (by kernel_rfl)) (by kernel_rfl)) (by kernel_rfl)) (by kernel_rfl)))
   go_wp2_with fail
   exact ⟨_, rfl, (fun _ => hC hnd), rfl, kP⟩
  ·have h2 : fx 2 = .pointer (some ⟨w.heap.size, 32, none⟩) := hd.1 rfl
   have hnd : L 13 = false := nQ hi (fun h => (hcl 6 3 (hcl 12 6 (hcl 13 12 h (by kernel_rfl)) (by kernel_rfl)) (by kernel_rfl)))
   have hc := cell_c HOA.out (row_kept R28.out (hC hnd))
   go_wp2_with fail
   exact ⟨_, by show _ = Act.mk #[ndV a, ndV b, Value.pointer (some { block := w.heap.size, off := 0 }), Value.pointer (some { block := w.heap.size + 1, off := 0 }), Value.pointer (some { block := w.heap.size + 1 + 1, off := 0 }), fx 14, Value.slice A7 n7 c7, ndV a, Value.bool true, Value.bool false, Value.bool false, ndV b, Value.bool true, Value.bool false, Value.bool false, Value.bool false, Value.pointer (some { block := w.heap.size, off := 32 }), Value.int IntKind.i64 a.c, Value.pointer (some { block := w.heap.size + 1, off := 32 }), Value.int IntKind.i64 b.c, Value.int IntKind.i64 (a.c + b.c), Value.bool false, Value.bool false, undef, Value.slice (some { block := WE.heap.size, off := 0 }) 0 0, Value.pointer (some { block := w.heap.size, off := 0 }), Value.slice (some { block := w.heap.size, off := 0 }) 32 32, v1, v1, Value.pointer (some { block := w.heap.size + 1, off := 0 }), Value.slice (some { block := w.heap.size + 1, off := 0 }) 32 32, v2, v2, Value.pointer (some { block := w.heap.size, off := 32 }), Value.int IntKind.i64 a.c, Value.pointer (some { block := w.heap.size, off := 33 }), Value.int IntKind.i64 a.p, Value.pointer (some { block := w.heap.size + 1, off := 32 }), Value.int IntKind.i64 b.c, Value.pointer (some { block := w.heap.size + 1, off := 33 }), Value.int IntKind.i64 b.p, Value.slice (some { block := W5.heap.size, off := 0 }) 4 4, Value.slice A6 n6 c6, Value.slice A7 n7 c7, fx 0, fx 1, fx 2, Value.int .i64 (a.c), fx 4, fx 5, fx 6, fx 7, fx 8, fx 9, fx 10, fx 11, fx 12] []; rw [h2] <;> rfl, (fun _ => hC hnd), rfl, kP⟩
  ·have hnd : L 13 = false := nQ hi (fun h => (hcl 5 4 (hcl 6 5 (hcl 12 6 (hcl 13 12 h (by kernel_rfl)) (by kernel_rfl)) (by kernel_rfl)) (by kernel_rfl)))
   go_wp2_with fail
   exact ⟨_, rfl, (fun _ => hC hnd), rfl, kP⟩
  ·have h4 : fx 4 = .pointer (some ⟨w.heap.size + 1, 32, none⟩) := hd.1 rfl
   have hnd : L 13 = false := nQ hi (fun h => (hcl 6 5 (hcl 12 6 (hcl 13 12 h (by kernel_rfl)) (by kernel_rfl)) (by kernel_rfl)))
   have hc := cell_c HOB.out (row_kept R38.out (hC hnd))
   go_wp2_with fail
   exact ⟨_, by show _ = Act.mk #[ndV a, ndV b, Value.pointer (some { block := w.heap.size, off := 0 }), Value.pointer (some { block := w.heap.size + 1, off := 0 }), Value.pointer (some { block := w.heap.size + 1 + 1, off := 0 }), fx 14, Value.slice A7 n7 c7, ndV a, Value.bool true, Value.bool false, Value.bool false, ndV b, Value.bool true, Value.bool false, Value.bool false, Value.bool false, Value.pointer (some { block := w.heap.size, off := 32 }), Value.int IntKind.i64 a.c, Value.pointer (some { block := w.heap.size + 1, off := 32 }), Value.int IntKind.i64 b.c, Value.int IntKind.i64 (a.c + b.c), Value.bool false, Value.bool false, undef, Value.slice (some { block := WE.heap.size, off := 0 }) 0 0, Value.pointer (some { block := w.heap.size, off := 0 }), Value.slice (some { block := w.heap.size, off := 0 }) 32 32, v1, v1, Value.pointer (some { block := w.heap.size + 1, off := 0 }), Value.slice (some { block := w.heap.size + 1, off := 0 }) 32 32, v2, v2, Value.pointer (some { block := w.heap.size, off := 32 }), Value.int IntKind.i64 a.c, Value.pointer (some { block := w.heap.size, off := 33 }), Value.int IntKind.i64 a.p, Value.pointer (some { block := w.heap.size + 1, off := 32 }), Value.int IntKind.i64 b.c, Value.pointer (some { block := w.heap.size + 1, off := 33 }), Value.int IntKind.i64 b.p, Value.slice (some { block := W5.heap.size, off := 0 }) 4 4, Value.slice A6 n6 c6, Value.slice A7 n7 c7, fx 0, fx 1, fx 2, fx 3, fx 4, Value.int .i64 (b.c), fx 6, fx 7, fx 8, fx 9, fx 10, fx 11, fx 12] []; rw [h4] <;> rfl, (fun _ => hC hnd), rfl, kP⟩
  ·have h3 : fx 3 = .int .i64 (a.c) := hd.1 rfl
   have h5 : fx 5 = .int .i64 (b.c) := hd.2.1 rfl
   have hnd : L 13 = false := nQ hi (fun h => (hcl 12 6 (hcl 13 12 h (by kernel_rfl)) (by kernel_rfl)))
   have hw := HWC.out
   go_wp2_with fail
   exact ⟨_, by show _ = Act.mk #[ndV a, ndV b, Value.pointer (some { block := w.heap.size, off := 0 }), Value.pointer (some { block := w.heap.size + 1, off := 0 }), Value.pointer (some { block := w.heap.size + 1 + 1, off := 0 }), fx 14, Value.slice A7 n7 c7, ndV a, Value.bool true, Value.bool false, Value.bool false, ndV b, Value.bool true, Value.bool false, Value.bool false, Value.bool false, Value.pointer (some { block := w.heap.size, off := 32 }), Value.int IntKind.i64 a.c, Value.pointer (some { block := w.heap.size + 1, off := 32 }), Value.int IntKind.i64 b.c, Value.int IntKind.i64 (a.c + b.c), Value.bool false, Value.bool false, undef, Value.slice (some { block := WE.heap.size, off := 0 }) 0 0, Value.pointer (some { block := w.heap.size, off := 0 }), Value.slice (some { block := w.heap.size, off := 0 }) 32 32, v1, v1, Value.pointer (some { block := w.heap.size + 1, off := 0 }), Value.slice (some { block := w.heap.size + 1, off := 0 }) 32 32, v2, v2, Value.pointer (some { block := w.heap.size, off := 32 }), Value.int IntKind.i64 a.c, Value.pointer (some { block := w.heap.size, off := 33 }), Value.int IntKind.i64 a.p, Value.pointer (some { block := w.heap.size + 1, off := 32 }), Value.int IntKind.i64 b.c, Value.pointer (some { block := w.heap.size + 1, off := 33 }), Value.int IntKind.i64 b.p, Value.slice (some { block := W5.heap.size, off := 0 }) 4 4, Value.slice A6 n6 c6, Value.slice A7 n7 c7, fx 0, fx 1, fx 2, fx 3, fx 4, fx 5, Value.int .i64 (a.c + b.c), fx 7, fx 8, fx 9, fx 10, fx 11, fx 12] []; rw [h3, h5] <;> rfl, (fun _ => hC hnd), rfl, kP⟩
  ·have hnd : L 13 = false := nQ hi (fun h => (hcl 8 7 (hcl 11 8 (hcl 12 11 (hcl 13 12 h (by kernel_rfl)) (by kernel_rfl)) (by kernel_rfl)) (by kernel_rfl)))
   go_wp2_with fail
   exact ⟨_, rfl, (fun _ => hC hnd), rfl, kP⟩
  ·have h7 : fx 7 = .pointer (some ⟨w.heap.size, 33, none⟩) := hd.1 rfl
   have hnd : L 13 = false := nQ hi (fun h => (hcl 11 8 (hcl 12 11 (hcl 13 12 h (by kernel_rfl)) (by kernel_rfl)) (by kernel_rfl)))
   have hc := cell_p HOA.out (row_kept R28.out (hC hnd))
   go_wp2_with fail
   exact ⟨_, by show _ = Act.mk #[ndV a, ndV b, Value.pointer (some { block := w.heap.size, off := 0 }), Value.pointer (some { block := w.heap.size + 1, off := 0 }), Value.pointer (some { block := w.heap.size + 1 + 1, off := 0 }), fx 14, Value.slice A7 n7 c7, ndV a, Value.bool true, Value.bool false, Value.bool false, ndV b, Value.bool true, Value.bool false, Value.bool false, Value.bool false, Value.pointer (some { block := w.heap.size, off := 32 }), Value.int IntKind.i64 a.c, Value.pointer (some { block := w.heap.size + 1, off := 32 }), Value.int IntKind.i64 b.c, Value.int IntKind.i64 (a.c + b.c), Value.bool false, Value.bool false, undef, Value.slice (some { block := WE.heap.size, off := 0 }) 0 0, Value.pointer (some { block := w.heap.size, off := 0 }), Value.slice (some { block := w.heap.size, off := 0 }) 32 32, v1, v1, Value.pointer (some { block := w.heap.size + 1, off := 0 }), Value.slice (some { block := w.heap.size + 1, off := 0 }) 32 32, v2, v2, Value.pointer (some { block := w.heap.size, off := 32 }), Value.int IntKind.i64 a.c, Value.pointer (some { block := w.heap.size, off := 33 }), Value.int IntKind.i64 a.p, Value.pointer (some { block := w.heap.size + 1, off := 32 }), Value.int IntKind.i64 b.c, Value.pointer (some { block := w.heap.size + 1, off := 33 }), Value.int IntKind.i64 b.p, Value.slice (some { block := W5.heap.size, off := 0 }) 4 4, Value.slice A6 n6 c6, Value.slice A7 n7 c7, fx 0, fx 1, fx 2, fx 3, fx 4, fx 5, fx 6, fx 7, Value.int .i64 (a.p), fx 9, fx 10, fx 11, fx 12] []; rw [h7] <;> rfl, (fun _ => hC hnd), rfl, kP⟩
  ·have hnd : L 13 = false := nQ hi (fun h => (hcl 10 9 (hcl 11 10 (hcl 12 11 (hcl 13 12 h (by kernel_rfl)) (by kernel_rfl)) (by kernel_rfl)) (by kernel_rfl)))
   go_wp2_with fail
   exact ⟨_, rfl, (fun _ => hC hnd), rfl, kP⟩
  ·have h9 : fx 9 = .pointer (some ⟨w.heap.size + 1, 33, none⟩) := hd.1 rfl
   have hnd : L 13 = false := nQ hi (fun h => (hcl 11 10 (hcl 12 11 (hcl 13 12 h (by kernel_rfl)) (by kernel_rfl)) (by kernel_rfl)))
   have hc := cell_p HOB.out (row_kept R38.out (hC hnd))
   go_wp2_with fail
   exact ⟨_, by show _ = Act.mk #[ndV a, ndV b, Value.pointer (some { block := w.heap.size, off := 0 }), Value.pointer (some { block := w.heap.size + 1, off := 0 }), Value.pointer (some { block := w.heap.size + 1 + 1, off := 0 }), fx 14, Value.slice A7 n7 c7, ndV a, Value.bool true, Value.bool false, Value.bool false, ndV b, Value.bool true, Value.bool false, Value.bool false, Value.bool false, Value.pointer (some { block := w.heap.size, off := 32 }), Value.int IntKind.i64 a.c, Value.pointer (some { block := w.heap.size + 1, off := 32 }), Value.int IntKind.i64 b.c, Value.int IntKind.i64 (a.c + b.c), Value.bool false, Value.bool false, undef, Value.slice (some { block := WE.heap.size, off := 0 }) 0 0, Value.pointer (some { block := w.heap.size, off := 0 }), Value.slice (some { block := w.heap.size, off := 0 }) 32 32, v1, v1, Value.pointer (some { block := w.heap.size + 1, off := 0 }), Value.slice (some { block := w.heap.size + 1, off := 0 }) 32 32, v2, v2, Value.pointer (some { block := w.heap.size, off := 32 }), Value.int IntKind.i64 a.c, Value.pointer (some { block := w.heap.size, off := 33 }), Value.int IntKind.i64 a.p, Value.pointer (some { block := w.heap.size + 1, off := 32 }), Value.int IntKind.i64 b.c, Value.pointer (some { block := w.heap.size + 1, off := 33 }), Value.int IntKind.i64 b.p, Value.slice (some { block := W5.heap.size, off := 0 }) 4 4, Value.slice A6 n6 c6, Value.slice A7 n7 c7, fx 0, fx 1, fx 2, fx 3, fx 4, fx 5, fx 6, fx 7, fx 8, fx 9, Value.int .i64 (b.p), fx 11, fx 12] []; rw [h9] <;> rfl, (fun _ => hC hnd), rfl, kP⟩
  ·have h8 : fx 8 = .int .i64 (a.p) := hd.1 rfl
   have h10 : fx 10 = .int .i64 (b.p) := hd.2.1 rfl
   have hnd : L 13 = false := nQ hi (fun h => (hcl 12 11 (hcl 13 12 h (by kernel_rfl)) (by kernel_rfl)))
   have hw := HWP.out
   go_wp2_with fail
   exact ⟨_, by show _ = Act.mk #[ndV a, ndV b, Value.pointer (some { block := w.heap.size, off := 0 }), Value.pointer (some { block := w.heap.size + 1, off := 0 }), Value.pointer (some { block := w.heap.size + 1 + 1, off := 0 }), fx 14, Value.slice A7 n7 c7, ndV a, Value.bool true, Value.bool false, Value.bool false, ndV b, Value.bool true, Value.bool false, Value.bool false, Value.bool false, Value.pointer (some { block := w.heap.size, off := 32 }), Value.int IntKind.i64 a.c, Value.pointer (some { block := w.heap.size + 1, off := 32 }), Value.int IntKind.i64 b.c, Value.int IntKind.i64 (a.c + b.c), Value.bool false, Value.bool false, undef, Value.slice (some { block := WE.heap.size, off := 0 }) 0 0, Value.pointer (some { block := w.heap.size, off := 0 }), Value.slice (some { block := w.heap.size, off := 0 }) 32 32, v1, v1, Value.pointer (some { block := w.heap.size + 1, off := 0 }), Value.slice (some { block := w.heap.size + 1, off := 0 }) 32 32, v2, v2, Value.pointer (some { block := w.heap.size, off := 32 }), Value.int IntKind.i64 a.c, Value.pointer (some { block := w.heap.size, off := 33 }), Value.int IntKind.i64 a.p, Value.pointer (some { block := w.heap.size + 1, off := 32 }), Value.int IntKind.i64 b.c, Value.pointer (some { block := w.heap.size + 1, off := 33 }), Value.int IntKind.i64 b.p, Value.slice (some { block := W5.heap.size, off := 0 }) 4 4, Value.slice A6 n6 c6, Value.slice A7 n7 c7, fx 0, fx 1, fx 2, fx 3, fx 4, fx 5, fx 6, fx 7, fx 8, fx 9, fx 10, Value.int .i64 (a.p + b.p), fx 12] []; rw [h8, h10] <;> rfl, (fun _ => hC hnd), rfl, kP⟩
  ·have h1 : fx 1 = dgV (joinN a b).d := hd.1 rfl
   have h6 : fx 6 = .int .i64 (a.c + b.c) := hd.2.1 rfl
   have h11 : fx 11 = .int .i64 (a.p + b.p) := hd.2.2.1 rfl
   have hnd : L 13 = false := nQ hi (fun h => (hcl 13 12 h (by kernel_rfl)))
   refine wpList_build_node rfl (.tmp 45) (.tmp 50) (.tmp 55) rfl (joinN a b).d (a.c + b.c) (a.p + b.p) HJ.out.len h1 h6 h11 ?_
   clear hd
   go_wp2_with fail
   exact ⟨_, by show _ = Act.mk #[ndV a, ndV b, Value.pointer (some { block := w.heap.size, off := 0 }), Value.pointer (some { block := w.heap.size + 1, off := 0 }), Value.pointer (some { block := w.heap.size + 1 + 1, off := 0 }), fx 14, Value.slice A7 n7 c7, ndV a, Value.bool true, Value.bool false, Value.bool false, ndV b, Value.bool true, Value.bool false, Value.bool false, Value.bool false, Value.pointer (some { block := w.heap.size, off := 32 }), Value.int IntKind.i64 a.c, Value.pointer (some { block := w.heap.size + 1, off := 32 }), Value.int IntKind.i64 b.c, Value.int IntKind.i64 (a.c + b.c), Value.bool false, Value.bool false, undef, Value.slice (some { block := WE.heap.size, off := 0 }) 0 0, Value.pointer (some { block := w.heap.size, off := 0 }), Value.slice (some { block := w.heap.size, off := 0 }) 32 32, v1, v1, Value.pointer (some { block := w.heap.size + 1, off := 0 }), Value.slice (some { block := w.heap.size + 1, off := 0 }) 32 32, v2, v2, Value.pointer (some { block := w.heap.size, off := 32 }), Value.int IntKind.i64 a.c, Value.pointer (some { block := w.heap.size, off := 33 }), Value.int IntKind.i64 a.p, Value.pointer (some { block := w.heap.size + 1, off := 32 }), Value.int IntKind.i64 b.c, Value.pointer (some { block := w.heap.size + 1, off := 33 }), Value.int IntKind.i64 b.p, Value.slice (some { block := W5.heap.size, off := 0 }) 4 4, Value.slice A6 n6 c6, Value.slice A7 n7 c7, fx 0, fx 1, fx 2, fx 3, fx 4, fx 5, fx 6, fx 7, fx 8, fx 9, fx 10, fx 11, ndV (joinN a b)] []; rw [h1, h6, h11] <;> rfl, fun _ => hC hnd, rfl, kP⟩
  ·have h12 : fx 12 = ndV (joinN a b) := hd.1 rfl
   have hb21 := hC hi
   have hrow := row_kept RR8.out hb21
   refine wpList_store_row rfl 39 (.tmp 4) (.tmp 56) rfl (w.heap.size + 1 + 1) (ndC (joinN a b)).toArray rfl h12 39 _ hrow HS1.out HS2.out (ndC_one _) ?_
   clear hd
   go_wp2_with fail
   refine ⟨undef, by rw [← h12]; rfl, fun h => (updB_self h).elim, ⟨setRow_heap _ _ _ _ _ _ hrow, below_setRow (HBT8.out.trans (hb21.mono HBT8.out.size)) (by omega) _⟩, fun j v t hj hu h => ?_⟩
   refine wJr_pure j v ?_ h
   intro e
   subst e
   rw [hi] at hj; cases hj
  ·go_wp2_with fail
   exact ⟨_, rfl, fun h => hC h, rfl, kP⟩
 ·intro L fx w' hC hS
  have H13 := hid (hS 13 (by decide) rfl)
  have H14 := hid (hS 14 (by decide) rfl)
  have h14 : fx 14 = .int .i64 0 := H14.out
  rw [h14]
  clear hS h14 H14
  go_wp2_with fail
  have hl := run_loadVar_row (P := Tryz.prog) w' (w.heap.size + 1 + 1) 39 39 (ndC (joinN a b)).toArray (0, 0) _ H13.out.1 Tryz.underlying39 rfl HS1.out
  refine bodyPost_ret (v := .tuple #[ndV (joinN a b), .int .i64 0]) ?_ rfl ⟨rfl, H13.out.2⟩
  unfold ndV
  simp [results, Tryz.results128, asAddr, hl]
def wRr (M : Nat) (g : Nat) (off : Nat) (n : Nat) (c : Nat) (k : Nat) (a : Nd) (b : Nd) (r : Nd) : Nat → Value → Value → World → Prop
 | 0, fv, _, _ => fv = .slice (some ⟨g, off, none⟩) n c
 | 1, fv, _, _ => fv = .int .i64 ((k : Nat))
 | 2, fv, _, _ => fv = .slice (some ⟨g, off, none⟩) k c
 | 3, fv, _, _ => fv = ndV a
 | 4, fv, _, _ => fv = .slice (some ⟨g, off, none⟩) n c
 | 5, fv, _, _ => fv = .int .i64 ((k : Nat))
 | 6, fv, _, _ => fv = .slice (some ⟨g, off + k * 34, none⟩) (n - k) (c - k)
 | 7, fv, _, _ => fv = ndV b
 | 8, fv, _, _ => fv = .tuple #[ndV r, .int .i64 0]
 | 9, fv, _, _ => fv = .tuple #[ndV r, .int .i64 0]
 | 10, fv, _, _ => fv = ndV r
 | 11, fv, _, _ => fv = .int .i64 (0)
 | 12, fv, fu, fw => True
 | 13, fv, fu, fw => ∃ q, fu = .pointer (some ⟨q, 0, none⟩) ∧ M ≤ q ∧ fw.heap[q]? = some (.cells (ndC r).toArray 39 (0, 0))
 | 14, fv, _, _ => fv = .int .i64 (0)
 | _, _, _, _ => True
theorem wRr_below {M : Nat} {g : Nat} {off : Nat} {n : Nat} {c : Nat} {k : Nat} {a : Nd} {b : Nd} {r : Nd} {w w' : World} (hb : Below w.heap.size w w') : ∀ j v u, wRr M g off n c k a b r j v u w → wRr M g off n c k a b r j v u w'
 | 0, v, u, h => h
 | 1, v, u, h => h
 | 2, v, u, h => h
 | 3, v, u, h => h
 | 4, v, u, h => h
 | 5, v, u, h => h
 | 6, v, u, h => h
 | 7, v, u, h => h
 | 8, v, u, h => h
 | 9, v, u, h => h
 | 10, v, u, h => h
 | 11, v, u, h => h
 | 12, v, u, h => h
 | 13, v, u, ⟨q, h1, h2, h3⟩ => ⟨q, h1, h2, (hb.block q (Array.getElem?_eq_some_iff.1 h3).1).trans h3⟩
 | 14, v, u, h => h
 | n + 15, v, u, h => trivial
theorem wRr_pure {M : Nat} {g : Nat} {off : Nat} {n : Nat} {c : Nat} {k : Nat} {a : Nd} {b : Nd} {r : Nd} {w w' : World} : ∀ j v u, j ≠ 12 → j ≠ 13 → wRr M g off n c k a b r j v u w → wRr M g off n c k a b r j v u w'
 | 0, v, u, _, _, h => h
 | 1, v, u, _, _, h => h
 | 2, v, u, _, _, h => h
 | 3, v, u, _, _, h => h
 | 4, v, u, _, _, h => h
 | 5, v, u, _, _, h => h
 | 6, v, u, _, _, h => h
 | 7, v, u, _, _, h => h
 | 8, v, u, _, _, h => h
 | 9, v, u, _, _, h => h
 | 10, v, u, _, _, h => h
 | 11, v, u, _, _, h => h
 | 12, v, u, hh, _, _ => absurd rfl hh
 | 13, v, u, _, hh, _ => absurd rfl hh
 | 14, v, u, _, _, h => h
 | n + 15, v, u, _, _, h => trivial
theorem rroot_any : ∀ (m : Nat) (ls : List Nd) (A : Option Addr) (n c : Nat) (w : World), n ≤ m → 1 ≤ n → n ≤ 4096 → Hid (InN w A n c ls) → Hid (vL ls = true) →
  Calls Tryz.prog 126 #[.slice A n c] w fun e w' => e = .returned (ndV (root ls)) ∧ Below w.heap.size w w' := by
 intro m
 induction m with
 | zero => intro ls A n c w h1 h2; omega
 | succ m ih =>
  intro ls A n c w hm h1 hn h hv
  obtain ⟨g, off, rfl, hg, hr⟩ := h.out.rd (by rw [h.out.len]; omega)
  have HNE := hid (show ls.length = n from h.out.len)
  have hcap := h.out.cap
  clear hr
  have HB0 := hid ((Below.refl _ w).alloc (Nat.le_refl _) (.cells (ndC zeroN).toArray 39))
  have HR0 := hid (heap_alloc_new w (.cells (ndC zeroN).toArray 39))
  have HS0 : Hid ((w.alloc (.cells (ndC zeroN).toArray 39)).heap.size = w.heap.size + 1) := hid (by simp)
  have HROK : Hid (NdOk (root ls)) := hid (root_ok _ ls (Nat.le_refl _) (by rw [h.out.len]; omega) h.out.ok hv.out)
  have d0 : decide ((n : Int) = 0) = false := dQ (by omega)
  have d00 : ((n : Int) == 0) = false := beq_false_of_ne (by omega)
  go_enter Tryz.func126, Tryz.ntmps126
  by_cases h2 : 2 ≤ n
  ·have d1 : decide ((n : Int) = 1) = false := dQ (by omega)
   have d11 : ((n : Int) == 1) = false := beq_false_of_ne (by omega)
   have HIN := hid (h.out.below HB0.out)
   go_wp2_with fail
   rw [← zeroN_cells]
   generalize w.alloc (.cells (ndC zeroN).toArray 39) = W1 at *
   refine (rhalf_any n _ (by omega)).mono ?_
   rintro e w2 ⟨rfl, rfl⟩
   obtain ⟨k, HK⟩ : ∃ k, Hid (half n = k) := ⟨_, hid rfl⟩
   have hkb := half_bd h2
   rw [HK.out] at hkb
   rw [HK.out]
   go_wp2_with fail
   have HP : Hid (vL (ls.take k) = true ∧ vL (ls.drop k) = true) := hid (vL_parts (by rw [List.take_append_drop]; exact hv.out))
   have HT2 := hid (HIN.out.take k (by omega))
   have HT3 := hid (HIN.out.drop k (by omega))
   have HLT : Hid ((ls.take k).length = k ∧ (ls.drop k).length = n - k) := hid ⟨by rw [List.length_take, HNE.out]; omega, by rw [List.length_drop, HNE.out]⟩
   have HVV : Hid (vL [root (ls.take k), root (ls.drop k)] = true) := hid (vL_two (by rw [List.take_append_drop]; exact hv.out) (by rw [HLT.out.1]; omega) (by rw [HLT.out.2]; omega))
   have HOA : Hid (NdOk (root (ls.take k))) := hid (root_ok _ _ (Nat.le_refl _) (by rw [HLT.out.1]; omega) HT2.out.ok HP.out.1)
   have HOB : Hid (NdOk (root (ls.drop k))) := hid (root_ok _ _ (Nat.le_refl _) (by rw [HLT.out.2]; omega) HT3.out.ok HP.out.2)
   have HRT : Hid (joinN (root (ls.take k)) (root (ls.drop k)) = root ls) := hid (by rw [root_two (l := ls) (by rw [HNE.out]; exact h2), HNE.out, HK.out])
   have HS1 : Hid ((Tryz.prog.info? 39).map (·.size) = some (ndC (root ls)).toArray.size) := hid (by rw [size34 HROK.out]; simp)
   have HS2 : Hid (34 = (ndC (root ls)).toArray.size) := hid (by simp [ndC_length HROK.out])
   obtain ⟨a, HA⟩ : ∃ a, Hid (root (ls.take k) = a) := ⟨_, hid rfl⟩
   obtain ⟨b, HB⟩ : ∃ b, Hid (root (ls.drop k) = b) := ⟨_, hid rfl⟩
   obtain ⟨r, HR⟩ : ∃ r, Hid (root ls = r) := ⟨_, hid rfl⟩
   rw [HA.out, HB.out] at HVV HRT
   rw [HA.out] at HOA
   rw [HB.out] at HOB
   rw [HR.out] at HRT HROK HS1 HS2
   refine region_flow3 (by kernel_rfl) (by kernel_rfl) (fun i => Nat.beq i 13) (fun i => bif Nat.beq i 13 then 12 else i) (by kernel_rfl) (fun fx => #[.slice (some { block := g, off := off }) n c, undef, .pointer (some { block := w.heap.size, off := 0 }), .int IntKind.i64 ↑k, fx 12, fx 14, .slice (some { block := g, off := off }) n c, .int IntKind.i64 ↑n, .bool false, undef, undef, .slice (some { block := g, off := off }) n c, .int IntKind.i64 ↑n, .bool false, undef, undef, undef, .slice (some { block := g, off := off }) n c, .int IntKind.i64 ↑n, .int IntKind.i64 ↑k, fx 9, fx 0, fx 1, fx 2, fx 3, fx 4, fx 5, fx 6, fx 7, fx 8, fx 10, fx 11, undef]) (fun _ => undef) (fun L fx w' => Below W1.heap.size W1 w' ∧ (L 12 = true → L 13 = false → NewN W1.heap.size (fx 12) w')) (fun fi fv fu fw => wRr W1.heap.size g off n c k a b r fi fv fu fw) ⟨(Below.refl _ _).drew, fun h => by cases h⟩ ?_ ?_
   ·refine ⟨?_, ?_, ?_, ?_, ?_, ?_, ?_, ?_, ?_, ?_, ?_, ?_, ?_, ?_, ?_, trivial⟩
    all_goals intro L fx w' hC hi hcl hdn hd
    ·go_wp2_with fail
     exact ⟨_, rfl, ⟨hC.1, fun h14 h15 => hC.2 h14 h15⟩, rfl, kP⟩
    ·go_wp2_with fail
     exact ⟨_, rfl, ⟨hC.1, fun h14 h15 => hC.2 h14 h15⟩, rfl, kP⟩
    ·have h0 : fx 0 = .slice (some ⟨g, off, none⟩) n c := hd.1 rfl
     have h1 : fx 1 = .int .i64 ((k : Nat)) := hd.2.1 rfl
     go_wp2_with fail
     exact ⟨_, by show _ = Act.mk #[Value.slice (some { block := g, off := off }) n c, undef, Value.pointer (some { block := w.heap.size, off := 0 }), Value.int IntKind.i64 ↑k, fx 12, fx 14, Value.slice (some { block := g, off := off }) n c, Value.int IntKind.i64 ↑n, Value.bool false, undef, undef, Value.slice (some { block := g, off := off }) n c, Value.int IntKind.i64 ↑n, Value.bool false, undef, undef, undef, Value.slice (some { block := g, off := off }) n c, Value.int IntKind.i64 ↑n, Value.int IntKind.i64 ↑k, fx 9, fx 0, fx 1, Value.slice (some ⟨g, off, none⟩) k c, fx 3, fx 4, fx 5, fx 6, fx 7, fx 8, fx 10, fx 11, undef] []; rw [h0, h1] <;> rfl, ⟨hC.1, fun h14 h15 => hC.2 h14 h15⟩, rfl, kP⟩
    ·have h2 : fx 2 = .slice (some ⟨g, off, none⟩) k c := hd.1 rfl
     have HIk := hid (HT2.out.below hC.1)
     go_wp2_with fail
     refine (ih (ls.take k) _ k c w' (by omega) (by omega) (by omega) HIk (hid HP.out.1)).mono ?_
     rintro e w2 ⟨rfl, hq⟩
     rw [HA.out]
     go_wp2_with fail
     exact ⟨_, by show _ = Act.mk #[Value.slice (some { block := g, off := off }) n c, undef, Value.pointer (some { block := w.heap.size, off := 0 }), Value.int IntKind.i64 ↑k, fx 12, fx 14, Value.slice (some { block := g, off := off }) n c, Value.int IntKind.i64 ↑n, Value.bool false, undef, undef, Value.slice (some { block := g, off := off }) n c, Value.int IntKind.i64 ↑n, Value.bool false, undef, undef, undef, Value.slice (some { block := g, off := off }) n c, Value.int IntKind.i64 ↑n, Value.int IntKind.i64 ↑k, fx 9, fx 0, fx 1, fx 2, ndV a, fx 4, fx 5, fx 6, fx 7, fx 8, fx 10, fx 11, undef] []; rw [h2] <;> rfl, ⟨hC.1.trans (hq.mono hC.1.size), fun h14 h15 => (hC.2 h14 h15).below hq⟩, rfl, fun j v t _ _ h => wRr_below hq j v t h⟩
    ·go_wp2_with fail
     exact ⟨_, rfl, ⟨hC.1, fun h14 h15 => hC.2 h14 h15⟩, rfl, kP⟩
    ·go_wp2_with fail
     exact ⟨_, rfl, ⟨hC.1, fun h14 h15 => hC.2 h14 h15⟩, rfl, kP⟩
    ·have h4 : fx 4 = .slice (some ⟨g, off, none⟩) n c := hd.1 rfl
     have h5 : fx 5 = .int .i64 ((k : Nat)) := hd.2.1 rfl
     go_wp2_with fail
     exact ⟨_, by show _ = Act.mk #[Value.slice (some { block := g, off := off }) n c, undef, Value.pointer (some { block := w.heap.size, off := 0 }), Value.int IntKind.i64 ↑k, fx 12, fx 14, Value.slice (some { block := g, off := off }) n c, Value.int IntKind.i64 ↑n, Value.bool false, undef, undef, Value.slice (some { block := g, off := off }) n c, Value.int IntKind.i64 ↑n, Value.bool false, undef, undef, undef, Value.slice (some { block := g, off := off }) n c, Value.int IntKind.i64 ↑n, Value.int IntKind.i64 ↑k, fx 9, fx 0, fx 1, fx 2, fx 3, fx 4, fx 5, Value.slice (some ⟨g, off + k * 34, none⟩) (n - k) (c - k), fx 7, fx 8, fx 10, fx 11, undef] []; rw [h4, h5] <;> rfl, ⟨hC.1, fun h14 h15 => hC.2 h14 h15⟩, rfl, kP⟩
    ·have h6 : fx 6 = .slice (some ⟨g, off + k * 34, none⟩) (n - k) (c - k) := hd.1 rfl
     have HIk := hid (HT3.out.below hC.1)
     go_wp2_with fail
     refine (ih (ls.drop k) _ (n - k) (c - k) w' (by omega) (by omega) (by omega) HIk (hid HP.out.2)).mono ?_
     rintro e w2 ⟨rfl, hq⟩
     rw [HB.out]
     go_wp2_with fail
     exact ⟨_, by show _ = Act.mk #[Value.slice (some { block := g, off := off }) n c, undef, Value.pointer (some { block := w.heap.size, off := 0 }), Value.int IntKind.i64 ↑k, fx 12, fx 14, Value.slice (some { block := g, off := off }) n c, Value.int IntKind.i64 ↑n, Value.bool false, undef, undef, Value.slice (some { block := g, off := off }) n c, Value.int IntKind.i64 ↑n, Value.bool false, undef, undef, undef, Value.slice (some { block := g, off := off }) n c, Value.int IntKind.i64 ↑n, Value.int IntKind.i64 ↑k, fx 9, fx 0, fx 1, fx 2, fx 3, fx 4, fx 5, fx 6, ndV b, fx 8, fx 10, fx 11, undef] []; rw [h6] <;> rfl, ⟨hC.1.trans (hq.mono hC.1.size), fun h14 h15 => (hC.2 h14 h15).below hq⟩, rfl, fun j v t _ _ h => wRr_below hq j v t h⟩
    ·have h3 : fx 3 = ndV a := hd.1 rfl
     have h7 : fx 7 = ndV b := hd.2.1 rfl
     go_wp2_with fail
     refine (rjoin_yes a b w' HOA HOB HVV.out).mono ?_
     rintro e w2 ⟨rfl, hq⟩
     rw [HRT.out]
     go_wp2_with fail
     exact ⟨_, by show _ = Act.mk #[Value.slice (some { block := g, off := off }) n c, undef, Value.pointer (some { block := w.heap.size, off := 0 }), Value.int IntKind.i64 ↑k, fx 12, fx 14, Value.slice (some { block := g, off := off }) n c, Value.int IntKind.i64 ↑n, Value.bool false, undef, undef, Value.slice (some { block := g, off := off }) n c, Value.int IntKind.i64 ↑n, Value.bool false, undef, undef, undef, Value.slice (some { block := g, off := off }) n c, Value.int IntKind.i64 ↑n, Value.int IntKind.i64 ↑k, fx 9, fx 0, fx 1, fx 2, fx 3, fx 4, fx 5, fx 6, fx 7, Value.tuple #[ndV r, .int .i64 0], fx 10, fx 11, undef] []; rw [h3, h7] <;> rfl, ⟨hC.1.trans (hq.mono hC.1.size), fun h14 h15 => (hC.2 h14 h15).below hq⟩, rfl, fun j v t _ _ h => wRr_below hq j v t h⟩
    ·have h8 : fx 8 = .tuple #[ndV r, .int .i64 0] := hd.1 rfl
     go_wp2_with fail
     exact ⟨_, by show _ = Act.mk #[Value.slice (some { block := g, off := off }) n c, undef, Value.pointer (some { block := w.heap.size, off := 0 }), Value.int IntKind.i64 ↑k, fx 12, fx 14, Value.slice (some { block := g, off := off }) n c, Value.int IntKind.i64 ↑n, Value.bool false, undef, undef, Value.slice (some { block := g, off := off }) n c, Value.int IntKind.i64 ↑n, Value.bool false, undef, undef, undef, Value.slice (some { block := g, off := off }) n c, Value.int IntKind.i64 ↑n, Value.int IntKind.i64 ↑k, Value.tuple #[ndV r, .int .i64 0], fx 0, fx 1, fx 2, fx 3, fx 4, fx 5, fx 6, fx 7, fx 8, fx 10, fx 11, undef] []; rw [h8] <;> rfl, ⟨hC.1, fun h14 h15 => hC.2 h14 h15⟩, rfl, kP⟩
    ·have h9 : fx 9 = .tuple #[ndV r, .int .i64 0] := hd.1 rfl
     go_wp2_with fail
     exact ⟨_, by show _ = Act.mk #[Value.slice (some { block := g, off := off }) n c, undef, Value.pointer (some { block := w.heap.size, off := 0 }), Value.int IntKind.i64 ↑k, fx 12, fx 14, Value.slice (some { block := g, off := off }) n c, Value.int IntKind.i64 ↑n, Value.bool false, undef, undef, Value.slice (some { block := g, off := off }) n c, Value.int IntKind.i64 ↑n, Value.bool false, undef, undef, undef, Value.slice (some { block := g, off := off }) n c, Value.int IntKind.i64 ↑n, Value.int IntKind.i64 ↑k, fx 9, fx 0, fx 1, fx 2, fx 3, fx 4, fx 5, fx 6, fx 7, fx 8, ndV r, fx 11, undef] []; rw [h9] <;> rfl, ⟨hC.1, fun h14 h15 => hC.2 h14 h15⟩, rfl, kP⟩
    ·have h9 : fx 9 = .tuple #[ndV r, .int .i64 0] := hd.1 rfl
     go_wp2_with fail
     exact ⟨_, by show _ = Act.mk #[Value.slice (some { block := g, off := off }) n c, undef, Value.pointer (some { block := w.heap.size, off := 0 }), Value.int IntKind.i64 ↑k, fx 12, fx 14, Value.slice (some { block := g, off := off }) n c, Value.int IntKind.i64 ↑n, Value.bool false, undef, undef, Value.slice (some { block := g, off := off }) n c, Value.int IntKind.i64 ↑n, Value.bool false, undef, undef, undef, Value.slice (some { block := g, off := off }) n c, Value.int IntKind.i64 ↑n, Value.int IntKind.i64 ↑k, fx 9, fx 0, fx 1, fx 2, fx 3, fx 4, fx 5, fx 6, fx 7, fx 8, fx 10, Value.int .i64 (0), undef] []; rw [h9] <;> rfl, ⟨hC.1, fun h14 h15 => hC.2 h14 h15⟩, rfl, kP⟩
    ·go_wp2_with fail
     rw [← zeroN_cells]
     have hbb : Below w'.heap.size w' (w'.alloc (.cells (ndC zeroN).toArray 39)) := (Below.refl _ _).alloc (Nat.le_refl _) _
     exact ⟨_, rfl, ⟨hC.1.trans (hbb.mono hC.1.size), fun _ _ => ⟨_, rfl, hC.1.size, heap_alloc_new _ _⟩⟩, trivial, fun j v t _ _ h => wRr_below hbb j v t h⟩
    ·have H12 := hid (hd.1 rfl)
     have h10 : fx 10 = ndV r := hd.2.1 rfl
     obtain ⟨q, h12, hq, hrow⟩ := hC.2 (hdn 12 (by kernel_rfl)) hi
     refine wpList_store_row rfl 39 (.tmp 4) (.tmp 30) rfl q (ndC r).toArray h12 h10 39 _ hrow HS1.out HS2.out (ndC_one _) ?_
     clear hd
     go_wp2_with fail
     exact ⟨undef, by rw [← h12, ← h10]; rfl, ⟨below_setRow hC.1 hq _, fun _ h => (updB_self h).elim⟩, ⟨q, h12, hq, setRow_heap _ _ _ _ _ _ hrow⟩, fun j v t hj _ h => by
      by_cases e : j = 12
      ·subst e; trivial
      ·exact wRr_pure j v t e (fun e => by subst e; rw [hi] at hj; cases hj) h⟩
    ·have h11 : fx 11 = .int .i64 (0) := hd.1 rfl
     go_wp2_with fail
     exact ⟨_, by show _ = Act.mk #[Value.slice (some { block := g, off := off }) n c, undef, Value.pointer (some { block := w.heap.size, off := 0 }), Value.int IntKind.i64 ↑k, fx 12, Value.int .i64 (0), Value.slice (some { block := g, off := off }) n c, Value.int IntKind.i64 ↑n, Value.bool false, undef, undef, Value.slice (some { block := g, off := off }) n c, Value.int IntKind.i64 ↑n, Value.bool false, undef, undef, undef, Value.slice (some { block := g, off := off }) n c, Value.int IntKind.i64 ↑n, Value.int IntKind.i64 ↑k, fx 9, fx 0, fx 1, fx 2, fx 3, fx 4, fx 5, fx 6, fx 7, fx 8, fx 10, fx 11, undef] []; rw [h11] <;> rfl, ⟨hC.1, fun h14 h15 => hC.2 h14 h15⟩, rfl, kP⟩
   ·intro L fx w' hC hS
    have H13 := hid (hS 13 (by decide) rfl)
    obtain ⟨q, e14, hq, hrow⟩ := H13.out
    have HB9 := hid hC.1
    have HQR := hid hrow
    have HR3 := hid ((hC.1.block w.heap.size (by rw [HS0.out]; omega)).trans HR0.out)
    replace e14 : fx 12 = _ := e14
    rw [e14]
    clear hS hC H13 hrow
    go_wp2_with (first | (refine wpList_load_row rfl 39 (.tmp 4) rfl q rfl 39 _ (0, 0) _ HQR.out Tryz.underlying39 rfl HS1.out ?_) | (refine wpList_store_row rfl 39 (.tmp 2) (.tmp 32) rfl w.heap.size (ndC r).toArray rfl rfl 39 (ndC zeroN).toArray HR3.out HS1.out HS2.out (ndC_one r) ?_))
    refine bodyPost_ret (results_cell_row rfl _ _ w.heap.size 39 _ (0, 0) _ rfl (setRow_heap w' w.heap.size _ _ _ _ HR3.out) Tryz.underlying39 rfl HS1.out) rfl ?_
    exact ⟨by rw [HR.out]; rfl, below_setRow (HB0.out.trans (HB9.out.mono HB0.out.size)) (Nat.le_refl _) _⟩
  ·have hn1 : n = 1 := by omega
   have d1 : decide ((n : Int) = 1) = true := eQ (by omega)
   have d11 : ((n : Int) == 1) = true := by rw [hn1]; rfl
   obtain ⟨x, HX⟩ : ∃ x, Hid (ls = [x]) := (List.length_eq_one_iff.1 (by rw [HNE.out]; exact hn1)).imp fun _ h => hid h
   have HXO : Hid (NdOk x) := hid (h.out.ok x (by rw [HX.out]; simp))
   obtain ⟨g', off', e, hg', hr⟩ := (h.out.below HB0.out).rd (by rw [HNE.out]; omega)
   cases e
   have HRX : Hid ((w.alloc (.cells (ndC zeroN).toArray 39)).rangeAt g off (ndC x)) := hid (by
    have := range_one hr h.out.ok 0 (by rw [HNE.out]; omega)
    simpa [HX.out] using this)
   have HS1 : Hid ((Tryz.prog.info? 39).map (·.size) = some (ndC x).toArray.size) := hid (by rw [size34 HXO.out]; simp)
   have HS2 : Hid (34 = (ndC x).toArray.size) := hid (by simp [ndC_length HXO.out])
   have HSX := hid (size34 HXO.out)
   have hlt : 0 < n := by omega
   have hlt2 : decide (0 < n) = true := eQ hlt
   clear hr
   rw [zeroN_cells] at HRX HR0
   go_wp2_with (first | (with_reducible refine wpList_load_mid rfl 39 (.tmp 15) rfl g off rfl (ndC x) _ HRX.out Tryz.underlying39 rfl HSX.out ?_) | (refine wpList_store_row rfl 39 (.tmp 2) (.tmp 16) rfl w.heap.size (ndC x).toArray rfl rfl 39 _ HR0.out HS1.out HS2.out (ndC_one x) ?_))
   rw [← zeroN_cells]
   rw [← zeroN_cells] at HR0
   refine bodyPost_ret (results_cell_row rfl _ _ w.heap.size 39 _ (0, 0) _ rfl (setRow_heap _ w.heap.size _ _ _ _ HR0.out) Tryz.underlying39 rfl HS1.out) rfl ?_
   exact ⟨by rw [HX.out, root_one]; rfl, below_setRow HB0.out (Nat.le_refl _) _⟩
theorem rroot_nil (A : Option Addr) (c : Nat) (w : World) :
  Calls Tryz.prog 126 #[.slice A 0 c] w fun e w' => e = .returned (ndV emptyN) ∧ Below w.heap.size w w' := by
 have HB0 := hid ((Below.refl _ w).alloc (Nat.le_refl _) (.cells (ndC zeroN).toArray 39))
 have HR0 := hid (heap_alloc_new w (.cells (ndC zeroN).toArray 39))
 rw [zeroN_cells] at HR0 HB0
 go_enter Tryz.func126, Tryz.ntmps126
 go_wp2_with fail
 generalize w.alloc (.cells #[.int .u8 0, .int .u8 0, .int .u8 0, .int .u8 0, .int .u8 0, .int .u8 0, .int .u8 0, .int .u8 0, .int .u8 0, .int .u8 0, .int .u8 0, .int .u8 0, .int .u8 0, .int .u8 0, .int .u8 0, .int .u8 0, .int .u8 0, .int .u8 0, .int .u8 0, .int .u8 0, .int .u8 0, .int .u8 0, .int .u8 0, .int .u8 0, .int .u8 0, .int .u8 0, .int .u8 0, .int .u8 0, .int .u8 0, .int .u8 0, .int .u8 0, .int .u8 0, .int .i64 0, .int .i64 0] 39) = W1 at *
 refine (rtagged_any sumTag none 0 0 [] W1 (by decide) (hid rfl) (Nat.le_refl _) (fun _ => rfl) (by omega) (hid (fun x hx => by cases hx)) (hid (fun h => by simp at h))).mono ?_
 rintro e W2 ⟨rfl, hq2⟩
 rw [sumTag_eq]
 have HB2 := hid (HB0.out.trans (hq2.mono HB0.out.size))
 have HR2 := hid ((hq2.block w.heap.size (Array.getElem?_eq_some_iff.1 HR0.out).1).trans HR0.out)
 have HS1 : Hid ((Tryz.prog.info? 39).map (·.size) = some (ndC emptyN).toArray.size) := hid (by rw [size34 emptyN_ok]; simp)
 have HS2 : Hid (34 = (ndC emptyN).toArray.size) := hid (by simp [ndC_length emptyN_ok])
 clear hq2
 go_wp2_with (first | (refine wpList_build_node1 rfl (.tmp 9) rfl (tagged sumT []) (tagged_length _ _) rfl ?_) | (refine wpList_store_row rfl 39 (.tmp 2) (.tmp 10) rfl w.heap.size (ndC emptyN).toArray rfl rfl 39 _ HR2.out HS1.out HS2.out (ndC_one _) ?_))
 refine bodyPost_ret (results_cell_row rfl _ _ w.heap.size 39 _ (0, 0) _ rfl (setRow_heap _ w.heap.size _ _ _ _ HR2.out) Tryz.underlying39 rfl HS1.out) rfl ?_
 exact ⟨rfl, below_setRow HB2.out (Nat.le_refl _) _⟩
theorem rRoot_any (ls : List Nd) (A : Option Addr) (n c : Nat) (w : World) (hn : n ≤ 9223372036854775807) (h : Hid (InN w A n c ls)) :
  Calls Tryz.prog 81 #[.slice A n c] w fun e w' => e = .returned (.tuple #[ndV (rootR ls), .int .i64 (rootE ls)]) ∧ Below w.heap.size w w' := by
 have HNE := hid (show ls.length = n from h.out.len)
 have HB0 := hid ((Below.refl _ w).alloc (Nat.le_refl _) (.cells (ndC zeroN).toArray 39))
 have HR0 := hid (heap_alloc_new w (.cells (ndC zeroN).toArray 39))
 have HIN := hid (h.out.below HB0.out)
 have HSZ : Hid ((Tryz.prog.info? 39).map (·.size) = some (ndC zeroN).toArray.size) := hid (by rw [size34 zeroN_ok]; simp)
 rw [zeroN_cells] at HR0 HB0 HIN
 have HRR : Hid (∀ W1, Below (w.alloc (.cells #[.int .u8 0, .int .u8 0, .int .u8 0, .int .u8 0, .int .u8 0, .int .u8 0, .int .u8 0, .int .u8 0, .int .u8 0, .int .u8 0, .int .u8 0, .int .u8 0, .int .u8 0, .int .u8 0, .int .u8 0, .int .u8 0, .int .u8 0, .int .u8 0, .int .u8 0, .int .u8 0, .int .u8 0, .int .u8 0, .int .u8 0, .int .u8 0, .int .u8 0, .int .u8 0, .int .u8 0, .int .u8 0, .int .u8 0, .int .u8 0, .int .u8 0, .int .u8 0, .int .i64 0, .int .i64 0] 39)).heap.size (w.alloc (.cells #[.int .u8 0, .int .u8 0, .int .u8 0, .int .u8 0, .int .u8 0, .int .u8 0, .int .u8 0, .int .u8 0, .int .u8 0, .int .u8 0, .int .u8 0, .int .u8 0, .int .u8 0, .int .u8 0, .int .u8 0, .int .u8 0, .int .u8 0, .int .u8 0, .int .u8 0, .int .u8 0, .int .u8 0, .int .u8 0, .int .u8 0, .int .u8 0, .int .u8 0, .int .u8 0, .int .u8 0, .int .u8 0, .int .u8 0, .int .u8 0, .int .u8 0, .int .u8 0, .int .i64 0, .int .i64 0] 39)) W1 → rootE ls = 0 → Calls Tryz.prog 126 #[.slice A n c] W1 fun e w' => e = .returned (ndV (rootR ls)) ∧ Below W1.heap.size W1 w') := hid (fun W1 hb he => by
  have hh : ls.length ≤ 4096 ∧ vL ls = true := by
   apply Classical.byContradiction
   intro hc
   rw [(rootR_no hc).2] at he
   omega
  by_cases h0 : n = 0
  ·have hl0 : ls = [] := List.eq_nil_of_length_eq_zero (by rw [HNE.out]; exact h0)
   subst hl0
   subst h0
   rw [rootR_nil.1]
   exact rroot_nil A c W1
  ·rw [(rootR_yes hh.1 hh.2 (by rw [HNE.out]; omega)).1]
   exact rroot_any n ls A n c W1 (Nat.le_refl _) (by omega) (by have := HNE.out; omega) (hid (HIN.out.below hb)) (hid hh.2))
 have HROK : Hid (NdOk (rootR ls)) := hid (rootR_ok h.out.ok)
 have HS1 : Hid ((Tryz.prog.info? 39).map (·.size) = some (ndC (rootR ls)).toArray.size) := hid (by rw [size34 HROK.out]; simp)
 have HS2 : Hid (34 = (ndC (rootR ls)).toArray.size) := hid (by simp [ndC_length HROK.out])
 go_enter Tryz.func81, Tryz.ntmps81
 go_wp2_with fail
 refine (rcheck_any ls A n c _ hn HIN).mono ?_
 rintro e W1 ⟨rfl, hq⟩
 have HB1 := hid (HB0.out.trans (hq.mono HB0.out.size))
 have HR1 := hid (row_kept HR0.out hq)
 have HQ1 := hid hq
 clear hq HB0 HR0
 by_cases he : rootE ls = 0
 ·have HEE := hid he
  rw [he]
  go_wp2_with fail
  refine (HRR.out W1 HQ1.out he).mono ?_
  rintro e W2 ⟨rfl, hq⟩
  have HB2 := hid (HB1.out.trans (hq.mono HB1.out.size))
  have HR2 := hid (row_kept HR1.out hq)
  clear hq
  obtain ⟨r, HR⟩ : ∃ r, Hid (rootR ls = r) := ⟨_, hid rfl⟩
  rw [HR.out] at HROK HS1 HS2
  rw [HR.out]
  go_wp2_with (refine wpList_store_row rfl 39 (.tmp 2) (.tmp 12) rfl w.heap.size (ndC r).toArray rfl rfl 39 _ HR2.out HS1.out HS2.out (ndC_one _) ?_)
  have hr := setRow_heap W2 w.heap.size _ (ndC r).toArray _ _ HR2.out
  have hl := run_loadVar_row (P := Tryz.prog) (W2.setRow w.heap.size (ndC r).toArray) w.heap.size 39 39 (ndC r).toArray (0, 0) _ hr Tryz.underlying39 rfl HS1.out
  refine bodyPost_ret (v := .tuple #[ndV r, .int .i64 0]) ?_ rfl ⟨by rw [HR.out, HEE.out], below_setRow HB2.out (Nat.le_refl _) _⟩
  unfold ndV
  simp [results, Tryz.results81, asAddr, hl]
 ·have hbad : ¬ (ls.length ≤ 4096 ∧ vL ls = true) := fun hh => he (by unfold rootE; exact if_pos hh)
  have HE := hid (rootR_no hbad)
  clear he hbad
  rw [HE.out.2]
  rw [← zeroN_cells] at HR1
  go_wp2_with (rw [← zeroN_cells]; refine wpList_store_row rfl 39 (.tmp 2) (.tmp 9) rfl w.heap.size (ndC zeroN).toArray ?ha ?hb 39 (ndC zeroN).toArray HR1.out HSZ.out rfl (ndC_one zeroN) ?_)
  all_goals first | rfl | skip
  have hr := setRow_heap W1 w.heap.size _ (ndC zeroN).toArray _ _ HR1.out
  have hl := run_loadVar_row (P := Tryz.prog) (W1.setRow w.heap.size (ndC zeroN).toArray) w.heap.size 39 39 (ndC zeroN).toArray (0, 0) _ hr Tryz.underlying39 rfl HSZ.out
  refine bodyPost_ret (v := .tuple #[ndV zeroN, .int .i64 410]) ?_ rfl ⟨by rw [HE.out.1, HE.out.2], below_setRow HB1.out (Nat.le_refl _) _⟩
  unfold ndV
  simp [results, Tryz.results81, asAddr, hl]
def wR43e (W1 : World) (gn : Nat) (on : Nat) (nn : Nat) (nc : Nat) (g : Nat) (off : Nat) (m : Nat) (mc : Nat) (jn : Nat) (xl : Nat) (xh : Nat) (r : Nd) : Nat → Value → Value → World → Prop
 | 0, fv, _, _ => fv = .slice (some ⟨gn, on, none⟩) nn nc
 | 1, fv, _, _ => fv = .slice (some ⟨g, off, none⟩) m mc
 | 2, fv, _, _ => fv = .int .i64 ((jn : Nat))
 | 3, fv, _, _ => fv = .pointer (some ⟨g, off + jn * 3, none⟩)
 | 4, fv, _, _ => fv = .pointer (some ⟨g, off + jn * 3, none⟩)
 | 5, fv, _, _ => fv = .int .i64 (xl : Nat)
 | 6, fv, _, _ => fv = .slice (some ⟨g, off, none⟩) m mc
 | 7, fv, _, _ => fv = .int .i64 ((jn : Nat))
 | 8, fv, _, _ => fv = .pointer (some ⟨g, off + jn * 3, none⟩)
 | 9, fv, _, _ => fv = .pointer (some ⟨g, off + jn * 3 + 1, none⟩)
 | 10, fv, _, _ => fv = .int .i64 (xh : Nat)
 | 11, fv, _, _ => fv = .slice (some ⟨gn, on + xl * 34, none⟩) (xh - xl) (nc - xl)
 | 12, fv, _, _ => fv = .tuple #[ndV r, .int .i64 0]
 | 13, fv, _, _ => fv = .tuple #[ndV r, .int .i64 0]
 | 14, fv, _, _ => fv = ndV r
 | 15, fv, _, _ => fv = .int .i64 0
 | 16, fv, _, _ => fv = fv
 | 17, fv, _, _ => fv = fv
 | 18, fv, fu, fw => fv = .int .i64 0 ∧ ∃ q, fu = .pointer (some ⟨q, 0, none⟩) ∧ fw.heap[q]? = some (.cells (ndC r).toArray 39 (0, 0)) ∧ Below W1.heap.size W1 fw
 | _, _, _, _ => True
theorem wR43e_below {W1 : World} {gn : Nat} {on : Nat} {nn : Nat} {nc : Nat} {g : Nat} {off : Nat} {m : Nat} {mc : Nat} {jn : Nat} {xl : Nat} {xh : Nat} {r : Nd} {w w' : World} (hb : Below w.heap.size w w') : ∀ j v u, wR43e W1 gn on nn nc g off m mc jn xl xh r j v u w → wR43e W1 gn on nn nc g off m mc jn xl xh r j v u w'
 | 0, v, u, h => h
 | 1, v, u, h => h
 | 2, v, u, h => h
 | 3, v, u, h => h
 | 4, v, u, h => h
 | 5, v, u, h => h
 | 6, v, u, h => h
 | 7, v, u, h => h
 | 8, v, u, h => h
 | 9, v, u, h => h
 | 10, v, u, h => h
 | 11, v, u, h => h
 | 12, v, u, h => h
 | 13, v, u, h => h
 | 14, v, u, h => h
 | 15, v, u, h => h
 | 16, v, u, h => h
 | 17, v, u, h => h
 | 18, v, u, ⟨h0, q, h1, h2, h3⟩ => ⟨h0, q, h1, row_kept h2 hb, h3.trans (hb.mono h3.size)⟩
 | n + 19, v, u, h => trivial
theorem wR43e_pure {W1 : World} {gn : Nat} {on : Nat} {nn : Nat} {nc : Nat} {g : Nat} {off : Nat} {m : Nat} {mc : Nat} {jn : Nat} {xl : Nat} {xh : Nat} {r : Nd} {w w' : World} : ∀ j v u, j ≠ 18 → wR43e W1 gn on nn nc g off m mc jn xl xh r j v u w → wR43e W1 gn on nn nc g off m mc jn xl xh r j v u w'
 | 0, v, u, _, h => h
 | 1, v, u, _, h => h
 | 2, v, u, _, h => h
 | 3, v, u, _, h => h
 | 4, v, u, _, h => h
 | 5, v, u, _, h => h
 | 6, v, u, _, h => h
 | 7, v, u, _, h => h
 | 8, v, u, _, h => h
 | 9, v, u, _, h => h
 | 10, v, u, _, h => h
 | 11, v, u, _, h => h
 | 12, v, u, _, h => h
 | 13, v, u, _, h => h
 | 14, v, u, _, h => h
 | 15, v, u, _, h => h
 | 16, v, u, _, h => h
 | 17, v, u, _, h => h
 | 18, v, u, hh, _ => absurd rfl hh
 | n + 19, v, u, _, h => trivial
def cNs (W1 : World) (r : Nd) (L : Nat → Bool) (fx : Nat → Value) (w' : World) : Prop := Below W1.heap.size W1 w' ∧ (L 16 = true → ∃ q, fx 16 = .pointer (some ⟨q, 0, none⟩) ∧ W1.heap.size ≤ q ∧ q < w'.heap.size ∧ w'.heap[q]? = some (.cells (ndC (bif L 17 then r else zeroN)).toArray 39 (0, 0)))
theorem cNs.below {W1 : World} {r : Nd} {L : Nat → Bool} {fx : Nat → Value} {w' w2 : World} (h : cNs W1 r L fx w') (hb : Below w'.heap.size w' w2) : cNs W1 r L fx w2 := by
 refine ⟨h.1.trans (hb.mono h.1.size), fun h10 => ?_⟩
 obtain ⟨q, e, h1, h2, h3⟩ := h.2 h10
 exact ⟨q, e, h1, Nat.lt_of_lt_of_le h2 hb.size, row_kept h3 hb⟩
theorem rshow43_yes (t : Tr) (p : TrP) (f g0 : Nat) (w : World) (h : Hid (TrOk w t p)) (hg : Hid (trG t = true)) (hfg : f < g0) (hgn : g0 ≤ p.n) (hn4 : p.n ≤ 4096) :
  Calls Tryz.prog 33 #[trV t p, .int .i64 (f : Nat), .int .i64 (g0 : Nat)] w fun e w' => ∃ A n c, e = .returned (.tuple #[.agg #[.int .i64 (f : Nat), .int .i64 (g0 : Nat), .slice A n c], .int .i64 0]) ∧ InN w' A n c ((parts f g0 0 p.n).map (pN (t.ln.map (ndL t.salt)))) ∧ Below w.heap.size w w' := by
 have HIT := hid (trV_info t p h.out.len)
 have HFT : Hid (ftB (f : Int) (g0 : Int) (p.n : Nat) = true) := hid (ftB_yes (by omega))
 have HPT := hid (rparts_any f g0 hfg (by omega) 0 p.n (by omega) hn4)
 have HLL := hid (parts_length hfg 0 p.n (by omega))
 have HPI := hid (fun x hx => parts_inside hfg 0 p.n (by omega) x hx)
 have HVL := hid (vL_ndL hg.out)
 have HB4 := hid hn4
 have hb0 := ((Below.refl _ w).alloc (Nat.le_refl _) (.cells (trC t p).toArray 27)).alloc (by simp) (.cells #[.int .i64 0, .int .i64 0, .slice none 0 0] 66)
 have hr0 := (Below.heap_alloc (w.alloc (.cells (trC t p).toArray 27)) (.cells #[.int .i64 0, .int .i64 0, .slice none 0 0] 66) w.heap.size (by simp)).trans (heap_alloc_new w (.cells (trC t p).toArray 27))
 have hr1 := heap_alloc_new (w.alloc (.cells (trC t p).toArray 27)) (.cells #[.int .i64 0, .int .i64 0, .slice none 0 0] 66)
 rw [World.size_alloc] at hr1
 obtain ⟨VA, HVA⟩ : ∃ V, Hid ((w.alloc (.cells (trC t p).toArray 27)).alloc (.cells #[.int .i64 0, .int .i64 0, .slice none 0 0] 66) = V) := ⟨_, hid rfl⟩
 rw [HVA.out] at hb0 hr0 hr1
 have HB0 := hid hb0
 have RT0 := hid hr0
 have RZ0 := hid hr1
 have KO0 := hid (h.out.below hb0)
 clear hb0 hr0 hr1
 rw [show trV t p = .agg (trC t p).toArray from rfl]
 go_enter Tryz.func33, Tryz.ntmps33
 go_wp2_with (first | (rw [HVA.out]) | (refine wpList_load_row rfl 27 (.tmp 3) rfl (w.heap.size) rfl 27 _ (0, 0) _ RT0.out Tryz.underlying27 rfl HIT.out ?_))
 rw [show Value.agg (trC t p).toArray = trV t p from rfl]
 refine (rnodes_yes t p _ KO0 hg).mono ?_
 rintro e U1 ⟨A1, n1, c1, rfl, hin, hq⟩
 have hn1 : n1 = p.n := by rw [← hin.len, List.length_map]; exact h.out.ln.len
 subst hn1
 obtain ⟨nds, HNDS⟩ : ∃ l, Hid (t.ln.map (ndL t.salt) = l) := ⟨_, hid rfl⟩
 rw [HNDS.out] at hin HVL
 have HB1 := hid (HB0.out.trans (hq.mono HB0.out.size))
 have RZ1 := hid (row_kept RZ0.out hq)
 have KN1 := hid hin
 have hsu : w.heap.size + 1 < U1.heap.size := (Array.getElem?_eq_some_iff.1 RZ1.out).1
 have HSU0 := hid hsu
 clear hq hin HB0 RT0 RZ0 KO0 hsu
 go_wp2_with fail
 refine (rfits_any _ _ _ _).mono ?_
 rintro e U2 ⟨rfl, rfl⟩
 rw [HFT.out]
 have hw3 := heap_alloc_new U1 (.cells #[.int .i64 (f : Nat), .int .i64 (g0 : Nat), .slice none 0 0] 66)
 have hb3 := (Below.refl _ U1).alloc (Nat.le_refl _) (.cells #[.int .i64 (f : Nat), .int .i64 (g0 : Nat), .slice none 0 0] 66)
 obtain ⟨U3, HU3⟩ : ∃ V, Hid (U1.alloc (.cells #[.int .i64 (f : Nat), .int .i64 (g0 : Nat), .slice none 0 0] 66) = V) := ⟨_, hid rfl⟩
 have hs3 : (U1.alloc (.cells #[.int .i64 (f : Nat), .int .i64 (g0 : Nat), .slice none 0 0] 66)).heap.size = U1.heap.size + 1 := by simp
 rw [HU3.out] at hw3 hb3 hs3
 have HS3 := hid hs3
 have HU := hid hb3
 have HB3 := hid (HB1.out.trans (hb3.mono HB1.out.size))
 have RZ3 := hid (row_kept RZ1.out hb3)
 have RP3 := hid hw3
 have KN3 := hid (KN1.out.below hb3)
 clear hw3 hb3 hs3 HB1 RZ1
 go_wp2_with (rw [HU3.out])
 refine (HPT.out _).mono ?_
 rintro e WB ⟨A2, n2, c2, rfl, ho, hq⟩
 obtain ⟨A2', n2', c2', e2, hi2⟩ := ho.slice
 cases e2
 have HBU := hid (HU.out.trans (hq.mono HU.out.size))
 have HBB := hid (HB3.out.trans (hq.mono HB3.out.size))
 have RZB := hid (row_kept RZ3.out hq)
 have RPB := hid (row_kept RP3.out hq)
 have KNB := hid (KN3.out.below hq)
 have KHB := hid hi2
 have HGB : Hid (∀ g o, A2 = some ⟨g, o, none⟩ → U1.heap.size < g) := hid (fun g o e => by
  have h1 := (ho.block g (by rw [e]; rfl)).1
  have h2 := HS3.out
  omega)
 have HNL : Hid (n2 = (parts f g0 0 p.n).length) := hid hi2.len.symm
 clear ho hq hi2 HB3 RZ3 RP3 KN3
 have HWB : Hid (U1.heap.size < WB.heap.size) := hid (Array.getElem?_eq_some_iff.1 RPB.out).1
 have HN2 : Hid (n2 ≤ 100000) := hid (by have := HLL.out; have := HB4.out; rw [HNL.out]; omega)
 have HBZ : Hid (w.heap.size + 1 < U1.heap.size) := HSU0
 obtain ⟨ls, HLS⟩ : ∃ l, Hid (parts f g0 0 p.n = l) := ⟨_, hid rfl⟩
 rw [HLS.out] at KHB HPI HLL HNL
 go_wp2_with fail
 go_loopw [12] (fun i wr => ∃ (j : Nat) (P : List Nd) (v : Value), j ≤ n2 ∧ i = .int .i64 j ∧ Hid (P = (ls.take j).map (pN nds)) ∧ Hid (wr.heap[U1.heap.size]? = some (.cells #[.int .i64 (f : Nat), .int .i64 (g0 : Nat), v] 66 (0, 0))) ∧ Hid (OwnN wr WB.heap.size v P) ∧ Hid (Below U1.heap.size WB wr) ∧ Hid (∀ k, U1.heap.size < k → k < WB.heap.size → wr.heap[k]? = WB.heap[k]?) ∧ ∃ A3 n3 c3, v = .slice A3 n3 c3) (fun i _ => n2 - (intOf i).toNat)
 case atStart => exact ⟨0, [], _, by omega, rfl, hid rfl, RPB, hid (OwnN.nil _ _), hid (Below.refl _ _), hid (fun _ _ _ => rfl), _, _, _, rfl⟩
 case round =>
  obtain ⟨j, P, v, hj, rfl, HP, RPW, HOW, HBW, HKW, A3, n3, c3, rfl⟩ := hrel
  by_cases hlt : j < n2
  ·have d1 : decide ((j : Int) < (n2 : Int)) = true := eQ (by omega)
   have d2 : decide (j < n2) = true := eQ hlt
   have HLT := hid hlt
   have hjl : j < ls.length := by rw [← HNL.out]; exact hlt
   obtain ⟨g, off, rfl, hgl, hr⟩ := KHB.out.rd (by omega)
   obtain ⟨x, HX⟩ : ∃ x, Hid (ls[j] = x) := ⟨_, hid rfl⟩
   obtain ⟨xl, xh, xi⟩ := x
   have hx := HPI.out ⟨xl, xh, xi⟩ (by rw [← HX.out]; exact List.getElem_mem hjl)
   simp only at hx
   obtain ⟨_, hx1, hx2⟩ := hx
   have hgu := HGB.out g off rfl
   have HR : Hid (wr.rangeAt g (off + j * 3) (shP ⟨xl, xh, xi⟩)) := hid (by
    rw [← HX.out]
    intro k u hk
    have h1 := range_elem (k := 3) (cells := shP) (fun _ => rfl) hr j hjl k u hk
    have h2 := HKW.out g hgu hgl
    unfold World.cell? at h1 ⊢
    rw [h2]; exact h1)
   have HGL : Hid (g < wr.heap.size) := hid (Nat.lt_of_lt_of_le hgl HBW.out.size)
   obtain ⟨gn, on, rfl, hgn1, hrn⟩ := KNB.out.rd (by rw [KNB.out.len]; omega)
   have HNW : Hid (InN wr (some ⟨gn, on, none⟩) p.n c1 nds) := hid (KN1.out.below (HBU.out.trans HBW.out))
   have hcap := HNW.out.cap
   have HSG : Hid (InN wr (some ⟨gn, on + xl * 34, none⟩) (xh - xl) (c1 - xl) (seg nds xl xh)) := hid ((HNW.out.take xh hx2).drop xl (by omega))
   have HSRR := hid (seg43_rootR (ls := nds) (by rw [HNW.out.len]; omega) HVL.out hx1 (by rw [HNW.out.len]; exact hx2))
   have HRO0 := hid (seg43_root_ok (ls := nds) HNW.out.ok HVL.out hx1 (by rw [HNW.out.len]; exact hx2))
   obtain ⟨r, HRR⟩ : ∃ q, Hid (root (seg nds xl xh) = q) := ⟨_, hid rfl⟩
   rw [HRR.out] at HSRR HRO0
   have HS34 := hid (size34e HRO0.out)
   have HT34 : Hid ((ndC zeroN).toArray.size = (ndC r).toArray.size) := hid (by simp [ndC_length HRO0.out, ndC_length zeroN_ok])
   have HPN : Hid (P ++ [r] = (ls.take (j + 1)).map (pN nds)) := hid (by rw [List.take_succ_eq_append_getElem hjl, List.map_append, ← HP.out, HX.out, ← HRR.out]; rfl)
   have HPL : Hid (P.length ≤ 100000) := hid (by have := HLL.out; have := HB4.out; rw [HP.out, List.length_map, List.length_take]; omega)
   have HXB : Hid (xl < xh ∧ xh ≤ p.n ∧ xh ≤ c1) := hid ⟨hx1, hx2, by omega⟩
   clear hr hrn hgn1 hgl hgu hx1 hx2 hcap HX
   go_wp2_with fail
   have HBL := hid (fun (a1 a2 : World) (hb : Below a1.heap.size a1 a2) => wR43e_below (W1 := wr) (gn := gn) (on := on) (nn := p.n) (nc := c1) (g := g) (off := off) (m := n2) (mc := c2) (jn := j) (xl := xl) (xh := xh) (r := r) hb)
   refine region_flow4 (by kernel_rfl) (by kernel_rfl) (fun i => Nat.beq i 18) (fun i => bif Nat.beq i 18 then 16 else i) (by kernel_rfl) (fun fx => #[trV t p, .int IntKind.i64 ↑f, .int IntKind.i64 ↑g0, .pointer (some { block := w.heap.size, off := 0 }), undef, undef, .pointer (some { block := w.heap.size + 1, off := 0 }), u7, .slice (some { block := gn, off := on }) p.n c1, .int IntKind.i64 0, .pointer (some { block := U1.heap.size, off := 0 }), .slice (some { block := g, off := off }) n2 c2, .int IntKind.i64 ↑j, fx 16, fx 18, .tuple #[.slice (some { block := gn, off := on }) p.n c1, .int IntKind.i64 0], trV t p, .tuple #[.slice (some { block := gn, off := on }) p.n c1, .int IntKind.i64 0], .slice (some { block := gn, off := on }) p.n c1, .int IntKind.i64 0, .int IntKind.i64 0, .bool false, undef, undef, .int IntKind.i64 ↑f, .int IntKind.i64 ↑g0, .slice (some { block := gn, off := on }) p.n c1, .int IntKind.i64 ↑p.n, .bool true, .bool false, undef, .int IntKind.i64 ↑f, .int IntKind.i64 ↑g0, .agg #[.int IntKind.i64 ↑f, .int IntKind.i64 ↑g0, .slice none 0 0], .int IntKind.i64 ↑f, .int IntKind.i64 ↑g0, .slice (some { block := gn, off := on }) p.n c1, .int IntKind.i64 ↑p.n, .slice (some { block := g, off := off }) n2 c2, .int IntKind.i64 ↑j, .slice (some { block := g, off := off }) n2 c2, .int IntKind.i64 ↑n2, .bool true, u43, u44, fx 13, fx 0, fx 1, fx 2, fx 3, fx 4, fx 5, fx 6, fx 7, fx 8, fx 9, fx 10, fx 11, fx 12, fx 14, fx 15, u61, u62, u63, u64, u65, u66, u67, u68, u69, u70, undef]) (fun i => bif Nat.beq i 0 then u46 else bif Nat.beq i 1 then u47 else bif Nat.beq i 2 then u48 else bif Nat.beq i 3 then u49 else bif Nat.beq i 4 then u50 else bif Nat.beq i 5 then u51 else bif Nat.beq i 6 then u52 else bif Nat.beq i 7 then u53 else bif Nat.beq i 8 then u54 else bif Nat.beq i 9 then u55 else bif Nat.beq i 10 then u56 else bif Nat.beq i 11 then u57 else bif Nat.beq i 12 then u58 else bif Nat.beq i 13 then u45 else bif Nat.beq i 14 then u59 else bif Nat.beq i 15 then u60 else bif Nat.beq i 16 then u13 else bif Nat.beq i 18 then u14 else undef) (fun L fx w' => cNs wr r L fx w') (fun fi fv fu fw => wR43e wr gn on p.n c1 g off n2 c2 j xl xh r fi fv fu fw) ⟨(Below.refl _ _).drew, (fun h => by cases h)⟩ ?_ ?_
   ·refine ⟨?_, ?_, ?_, ?_, ?_, ?_, ?_, ?_, ?_, ?_, ?_, ?_, ?_, ?_, ?_, ?_, ?_, ?_, ?_, trivial⟩
    all_goals intro L fx w' hC hi hcl hdn hd
    ·clear hd
     go_wp2_with fail
     exact ⟨_, rfl, hC, rfl, kP⟩
    ·clear hd
     go_wp2_with fail
     exact ⟨_, rfl, hC, rfl, kP⟩
    ·clear hd
     go_wp2_with fail
     exact ⟨_, rfl, hC, rfl, kP⟩
    ·have h1 : fx 1 = .slice (some ⟨g, off, none⟩) n2 c2 := hd.1 rfl
     have h2 : fx 2 = .int .i64 ((j : Nat)) := hd.2.1 rfl
     have hlt := HLT.out
     have hltn : decide (j < n2) = true := eQ hlt
     clear hd
     go_wp2_with fail
     exact ⟨_, by simp only [upd, h1, h2]; rfl, hC, rfl, kP⟩
    ·have h3 : fx 3 = .pointer (some ⟨g, off + j * 3, none⟩) := hd.1 rfl
     clear hd
     go_wp2_with fail
     exact ⟨_, by simp only [upd, h3]; rfl, hC, rfl, kP⟩
    ·have h4 : fx 4 = .pointer (some ⟨g, off + j * 3, none⟩) := hd.1 rfl
     have hrow := rangeAt_below HR.out HGL.out hC.1
     have hc0 : w'.cell? ⟨g, off + j * 3, none⟩ = some (.int .i64 (xl : Nat)) := hrow 0 _ rfl
     clear hrow
     clear hd
     go_wp2_with fail
     exact ⟨_, by simp only [upd, h4]; rfl, hC, rfl, kP⟩
    ·clear hd
     go_wp2_with fail
     exact ⟨_, rfl, hC, rfl, kP⟩
    ·clear hd
     go_wp2_with fail
     exact ⟨_, rfl, hC, rfl, kP⟩
    ·have h6 : fx 6 = .slice (some ⟨g, off, none⟩) n2 c2 := hd.1 rfl
     have h7 : fx 7 = .int .i64 ((j : Nat)) := hd.2.1 rfl
     have hlt := HLT.out
     have hltn : decide (j < n2) = true := eQ hlt
     clear hd
     go_wp2_with fail
     exact ⟨_, by simp only [upd, h6, h7]; rfl, hC, rfl, kP⟩
    ·have h8 : fx 8 = .pointer (some ⟨g, off + j * 3, none⟩) := hd.1 rfl
     clear hd
     go_wp2_with fail
     exact ⟨_, by simp only [upd, h8]; rfl, hC, rfl, kP⟩
    ·have h9 : fx 9 = .pointer (some ⟨g, off + j * 3 + 1, none⟩) := hd.1 rfl
     have hrow := rangeAt_below HR.out HGL.out hC.1
     have hc0 : w'.cell? ⟨g, off + j * 3 + 1, none⟩ = some (.int .i64 (xh : Nat)) := hrow 1 _ rfl
     clear hrow
     clear hd
     go_wp2_with fail
     exact ⟨_, by simp only [upd, h9]; rfl, hC, rfl, kP⟩
    ·have h0 : fx 0 = .slice (some ⟨gn, on, none⟩) p.n c1 := hd.1 rfl
     have h5 : fx 5 = .int .i64 (xl : Nat) := hd.2.1 rfl
     have h10 : fx 10 = .int .i64 (xh : Nat) := hd.2.2.1 rfl
     obtain ⟨hx1, hx2, hx3⟩ := HXB.out
     have hfc : xl ≤ c1 := by omega
     have hft : xl ≤ xh := by omega
     have d5 : decide (xl ≤ xh) = true := eQ hft
     clear hd
     go_wp2_with fail
     exact ⟨_, by simp only [upd, h0, h5, h10]; rfl, hC, rfl, kP⟩
    ·have h11 : fx 11 = .slice (some ⟨gn, on + xl * 34, none⟩) (xh - xl) (c1 - xl) := hd.1 rfl
     have HSk := hid (HSG.out.below hC.1)
     have hb4 := HB4.out
     obtain ⟨hx1, hx2, hx3⟩ := HXB.out
     clear hd
     go_wp2_with fail
     refine (rRoot_any (seg nds xl xh) _ (xh - xl) (c1 - xl) w' (by omega) HSk).mono ?_
     rintro e w2 ⟨rfl, hq⟩
     rw [HSRR.out.1, HSRR.out.2]
     go_wp2_with fail
     exact ⟨_, by simp only [upd, h11]; rfl, hC.below hq, rfl, fun i v u _ _ h => HBL.out _ _ hq i v u h⟩
    ·have h12 : fx 12 = .tuple #[ndV r, .int .i64 0] := hd.1 rfl
     clear hd
     go_wp2_with fail
     exact ⟨_, by simp only [upd, h12]; rfl, hC, rfl, kP⟩
    ·have h13 : fx 13 = .tuple #[ndV r, .int .i64 0] := hd.1 rfl
     clear hd
     go_wp2_with fail
     exact ⟨_, by simp only [upd, h13]; rfl, hC, rfl, kP⟩
    ·have h13 : fx 13 = .tuple #[ndV r, .int .i64 0] := hd.1 rfl
     clear hd
     go_wp2_with fail
     exact ⟨_, by simp only [upd, h13]; rfl, hC, rfl, kP⟩
    ·have h11 : L 17 = false := nQ hi (fun h => hcl 17 16 h (by kernel_rfl))
     clear hd
     go_wp2_with fail
     rw [← zeroN_cells]
     have hq : Below w'.heap.size w' (w'.alloc (.cells (ndC zeroN).toArray 39)) := (Below.refl _ _).alloc (Nat.le_refl _) _
     refine ⟨Value.pointer (some ⟨w'.heap.size, 0, none⟩), rfl, ⟨(hC.below hq).1, fun _ => ⟨w'.heap.size, rfl, hC.1.size, by simp, ?_⟩⟩, rfl, fun i v u _ _ h => HBL.out _ _ hq i v u h⟩
     show _ = some (Obj.cells (ndC (bif L 17 then r else zeroN)).toArray 39 (0, 0))
     rw [h11]
     exact heap_alloc_new w' _
    ·have H16 := hid (hd.1 rfl)
     have h14 : fx 14 = ndV r := hd.2.1 rfl
     obtain ⟨q, e10, hq1, hq2, hrow0⟩ := hC.2 (hdn 16 (by kernel_rfl))
     have hrow : w'.heap[q]? = some (.cells (ndC zeroN).toArray 39 (0, 0)) := by have := hrow0; rw [hi] at this; exact this
     refine wpList_store_row rfl 39 (.tmp 13) (.tmp 59) rfl q (ndC r).toArray e10 h14 39 _ hrow HS34.out HT34.out (ndC_one _) ?_
     clear hd
     go_wp2_with fail
     refine ⟨undef, by simp only [upd, h14, e10]; rfl, ⟨below_setRow hC.1 hq1 _, fun _ => ⟨q, e10, hq1, by rw [setRow_size]; exact hq2, setRow_heap _ _ _ _ _ _ hrow⟩⟩, rfl, fun j v t hj hu h => ?_⟩
     by_cases e : j = 18
     ·subst e; exact absurd (hcl 18 17 hj (by kernel_rfl)) (by rw [hi]; exact Bool.false_ne_true)
     ·exact wR43e_pure j v t e h
    ·have h15 : fx 15 = .int .i64 0 := hd.1 rfl
     obtain ⟨q, e10, hq1, hq2, hrow0⟩ := hC.2 (hdn 16 (by kernel_rfl))
     rw [hdn 17 (by kernel_rfl)] at hrow0
     clear hd
     go_wp2_with fail
     exact ⟨Value.int .i64 0, by simp only [upd, h15, e10]; rfl, hC, ⟨rfl, q, e10, hrow0, hC.1⟩, kP⟩
   ·intro L fo w' hC hS
    have H18 := hid (hS 18 (by decide) rfl)
    obtain ⟨e12, q, e10, hrow, hbw⟩ := H18.out
    have e10' : fo 16 = .pointer (some ⟨q, 0, none⟩) := e10
    rw [e12, e10']
    have HQR := hid hrow
    have RPa := (hbw.block U1.heap.size (Nat.lt_of_lt_of_le HWB.out HBW.out.size)).trans RPW.out
    have HOW2 := hid (HOW.out.below hbw)
    have hba := (Below.refl _ w').alloc (Nat.le_refl _) (.cells (flatN [r]).toArray 39)
    have HA6 := hid (HOW2.out.below hba)
    have HRF := hid (heap_alloc_new w' (.cells (flatN [r]).toArray 39))
    have HBx := hid (hbw.trans (hba.mono hbw.size))
    have HSZ : Hid (WB.heap.size ≤ (w'.alloc (.cells (flatN [r]).toArray 39)).heap.size) := hid (Nat.le_trans HBW.out.size HBx.out.size)
    have RP6 := hid (row_kept RPa hba)
    have k2 := cell_of_row _ _ 2 _ _ _ RPa
    have hnn := HN2.out
    clear hS hC e12 e10 e10' H18 hrow hbw hba RPa
    go_wp2_with (first | (refine wpList_load_row rfl 39 (.tmp 13) rfl q rfl 39 _ (0, 0) _ HQR.out Tryz.underlying39 rfl HS34.out ?_) | (refine wpList_build_nodes1 rfl (.tmp 67) rfl r rfl HRO0.out ?_) | (refine wpList_append_node rfl (.tmp 66) (.tmp 68) rfl WB.heap.size _ P r rfl HA6 HRO0.out w'.heap.size rfl HRF HPL.out HSZ.out ?_; intro v2 w2 HO2 HG2; obtain ⟨A4, n4, c4, rfl⟩ := HO2.out.form; have hrp := (HG2.out.block U1.heap.size (Array.getElem?_eq_some_iff.1 RP6.out).1 (fun e => absurd (HA6.out.block _ e.symm).1 (by have := HWB.out; omega))).trans RP6.out; have kq := cell_of_row _ _ 2 _ _ _ hrp; have fq := frozen_of_row _ _ 2 _ _ hrp))
    have HG3 := HG2.out
    have hlow : ∀ k, k < WB.heap.size → w2.heap[k]? = wr.heap[k]? := fun k hk => by
     have h1 := HBW.out.size
     have h2 := HBx.out.size
     exact (HG3.block k (by omega) (fun e => absurd (HA6.out.block _ e.symm).1 (by omega))).trans (HBx.out.block k (by omega))
    have ebq := setCell_eq_setRow w2 U1.heap.size 2 _ _ _ (.slice A4 n4 c4) hrp
    have hBq := ((HBW.out.trans (HBx.out.mono (Nat.le_trans (Nat.le_of_lt HWB.out) HBW.out.size))).grown HG3 (Nat.le_trans (Nat.le_of_lt HWB.out) HSZ.out) (fun k e => Nat.le_trans (Nat.le_of_lt HWB.out) (HA6.out.block _ e).1))
    rw [HPN.out] at HO2
    rw [ebq]
    go_roundw
    case rel =>
     refine ⟨j + 1, _, .slice A4 n4 c4, by omega, by go_num, hid rfl, hid (setRow_heap _ _ _ _ _ _ hrp), hid (HO2.out.kept fun k hk => setRow_other _ _ _ _ (by have := (HO2.out.block k hk).1; have := HWB.out; omega)), hid (below_setRow hBq (Nat.le_refl _) _), hid (fun k h1 h2 => (setRow_other _ _ _ _ (by omega)).trans ((hlow k h2).trans (HKW.out k h1 h2))), _, _, _, rfl⟩
    case measure => simp [intOf]; omega
  ·have d1 : decide ((j : Int) < (n2 : Int)) = false := dQ (by omega)
   have d1n : decide (j < n2) = false := dQ hlt
   have HPF : Hid (P = ls.map (pN nds)) := hid (by rw [HP.out, List.take_of_length_le (by rw [← HNL.out]; omega)])
   have hz := (HBW.out.block (w.heap.size + 1) HBZ.out).trans RZB.out
   have HPIX := hid (part_info (.int .i64 (f : Nat)) (.int .i64 (g0 : Nat)) (.slice A3 n3 c3))
   have hb0 : Below w.heap.size w wr := HBB.out.trans (HBW.out.mono (by have := HBB.out.size; have := HBZ.out; omega))
   have lay : ∀ (V : World) (k : Nat) (cs : Array Value) (v : Value), V.heap[w.heap.size + 1]? = some (.cells cs 66 (0, 0)) → Below w.heap.size w V → (∀ q, q ≠ w.heap.size + 1 → V.heap[q]? = wr.heap[q]?) → ∃ X, Hid (V.setCell ⟨w.heap.size + 1, k, none⟩ v = X) ∧ X.heap[w.heap.size + 1]? = some (.cells (cs.setIfInBounds k v) 66 (0, 0)) ∧ Below w.heap.size w X ∧ (∀ q, q ≠ w.heap.size + 1 → X.heap[q]? = wr.heap[q]?) := fun V k cs v hV hB hk =>
    ⟨_, hid rfl, by rw [setCell_eq_setRow V (w.heap.size + 1) k _ _ _ v hV]; exact setRow_heap _ _ _ _ _ _ hV, by rw [setCell_eq_setRow V (w.heap.size + 1) k _ _ _ v hV]; exact below_setRow hB (Nat.le_succ _) _, fun q hq => by rw [setCell_eq_setRow V (w.heap.size + 1) k _ _ _ v hV, setRow_other _ _ _ _ hq]; exact hk q hq⟩
   obtain ⟨Xa, HXa, ra, ba, oa⟩ := lay wr 0 _ (.int .i64 (f : Nat)) hz hb0 (fun _ _ => rfl)
   obtain ⟨Xb, HXb, rb, bb, ob⟩ := lay Xa 1 _ (.int .i64 (g0 : Nat)) ra ba oa
   obtain ⟨Xc, HXc, rc, bc, oc⟩ := lay Xb 2 _ (.slice A3 n3 c3) rb bb ob
   have xa := HXa.out
   have xb := HXb.out
   have xc := HXc.out
   have ka := cell_of_row _ _ 0 _ _ _ hz
   have kb := cell_of_row _ _ 1 _ _ _ ra
   have kc := cell_of_row _ _ 2 _ _ _ rb
   have fa := frozen_of_row _ _ 0 _ _ hz
   have fb := frozen_of_row _ _ 1 _ _ ra
   have fc := frozen_of_row _ _ 2 _ _ rb
   have HRC := hid rc
   have HBC := hid bc
   have HOC := hid (HOW.out.kept fun q hq => oc q (by have := (HOW.out.block q hq).1; have := HWB.out; have := HBZ.out; omega))
   clear lay hz ra ba oa rb bb ob rc bc oc hb0
   go_wp2_with (with_reducible refine wpList_here ?_; refine wpList_load_row rfl 66 (.tmp 10) rfl U1.heap.size rfl 66 _ (0, 0) _ RPW.out Tryz.underlying66 rfl HPIX.out ?_)
   have hl := run_loadVar_row (P := Tryz.prog) Xc (w.heap.size + 1) 66 66 #[.int .i64 (f : Nat), .int .i64 (g0 : Nat), .slice A3 n3 c3] (0, 0) _ HRC.out Tryz.underlying66 rfl HPIX.out
   obtain ⟨A5, n5, c5, e5, hi5, _⟩ := HOC.out.slice (fun y hy => by
    rw [HPF.out] at hy
    obtain ⟨x, hx, rfl⟩ := List.mem_map.1 hy
    have hb := HPI.out x hx
    exact seg43_root_ok KN1.out.ok HVL.out hb.2.1 (by rw [KN1.out.len]; exact hb.2.2))
   cases e5
   refine bodyPost_ret (v := .tuple #[.agg #[.int .i64 (f : Nat), .int .i64 (g0 : Nat), .slice A3 n3 c3], .int .i64 0]) ?_ rfl ⟨_, _, _, rfl, by rw [HLS.out, HNDS.out, ← HPF.out]; exact hi5, HBC.out⟩
   simp [results, Tryz.results33, asAddr, hl]
end Go.Proofs.YtmfmgeapecapiaaGreatDoor
