/- sizarref41.Leaf. sizarref42.Nodes. sizarref43: lists of parts that show an interval (three cells each). sizarref43.half, fits, Parts. sizarref43.Show, refused. -/
import Derived.Test.YtmfmgeapecapiaaGreatDoorSH17
import Derived.Test.YtmfmgeapecapiaaGreatDoorSH6
import Derived.Test.YtmfmgeapecapiaaGreatDoorSH15
import Derived.Test.YtmfmgeapecapiaaGreatDoorSH7
import Derived.Test.YtmfmgeapecapiaaGreatDoorSH13
import Derived.Laws.AppendOwnNone
import Derived.Test.YtmfmgeapecapiaaGreatDoorSH11
set_option maxHeartbeats 64000001
open Go.Lib (hid)
namespace Go.Proofs.YtmfmgeapecapiaaGreatDoor
open Go.RowKit SzSha SzTree
set_option linter.unusedVariables false
set_option maxRecDepth 100000
def wFr (W0 : World) (ba : Nat) (br : Nat) (A7 : Option Addr) (n7 : Nat) (c7 : Nat) (c0 : Int) (c1 : Int) (c2 : Int) (c3 : Int) (c4 : Int) (l : List Nat) : Nat → Value → World → Prop
 | 0, fv, _ => fv = .slice A7 n7 c7
 | 1, fv, _ => fv = dgV (leafN c0 c1 c2 c3 c4 l).d
 | 2, fv, _ => fv = .pointer (some ⟨ba, 3, none⟩)
 | 3, fv, _ => fv = .int .i64 (c3)
 | 4, fv, _ => fv = .pointer (some ⟨ba, 2, none⟩)
 | 5, fv, _ => fv = .int .i64 (c2)
 | 6, fv, _ => fv = .pointer (some ⟨ba, 3, none⟩)
 | 7, fv, _ => fv = .int .i64 (c3)
 | 8, fv, _ => fv = .int .i64 (c2 * c3)
 | 9, fv, _ => fv = ndV (leafN c0 c1 c2 c3 c4 l)
 | 10, fv, fw => fw.heap[br]? = some (.cells (ndC (leafN c0 c1 c2 c3 c4 l)).toArray 39 (0, 0)) ∧ Below W0.heap.size W0 fw
 | 11, fv, _ => fv = .int .i64 (0)
 | _, _, _ => True
theorem wFr_below {W0 : World} {ba : Nat} {br : Nat} {A7 : Option Addr} {n7 : Nat} {c7 : Nat} {c0 : Int} {c1 : Int} {c2 : Int} {c3 : Int} {c4 : Int} {l : List Nat} {w w' : World} (hb : Below w.heap.size w w') : ∀ j v, wFr W0 ba br A7 n7 c7 c0 c1 c2 c3 c4 l j v w → wFr W0 ba br A7 n7 c7 c0 c1 c2 c3 c4 l j v w'
 | 0, v, h => h
 | 1, v, h => h
 | 2, v, h => h
 | 3, v, h => h
 | 4, v, h => h
 | 5, v, h => h
 | 6, v, h => h
 | 7, v, h => h
 | 8, v, h => h
 | 9, v, h => h
 | 10, v, h => ⟨(hb.block br (Array.getElem?_eq_some_iff.1 h.1).1).trans h.1, h.2.trans (hb.mono h.2.size)⟩
 | 11, v, h => h
 | n + 12, v, h => trivial
theorem wFr_pure {W0 : World} {ba : Nat} {br : Nat} {A7 : Option Addr} {n7 : Nat} {c7 : Nat} {c0 : Int} {c1 : Int} {c2 : Int} {c3 : Int} {c4 : Int} {l : List Nat} {w w' : World} : ∀ j v, j ≠ 10 → wFr W0 ba br A7 n7 c7 c0 c1 c2 c3 c4 l j v w → wFr W0 ba br A7 n7 c7 c0 c1 c2 c3 c4 l j v w'
 | 0, v, _, h => h
 | 1, v, _, h => h
 | 2, v, _, h => h
 | 3, v, _, h => h
 | 4, v, _, h => h
 | 5, v, _, h => h
 | 6, v, _, h => h
 | 7, v, _, h => h
 | 8, v, _, h => h
 | 9, v, _, h => h
 | 10, v, hh, _ => absurd rfl hh
 | 11, v, _, h => h
 | n + 12, v, _, h => trivial
theorem rleaf_no (c0 c1 c2 c3 c4 : Int) (l : List Nat) (w : World) (hv : ¬ lOk c0 c1 c2 c3 c4) :
  Calls Tryz.prog 44 #[.agg #[.int .i64 c0, .int .i64 c1, .int .i64 c2, .int .i64 c3, .int .i64 c4], dgV l] w fun e w' => e = .returned (.tuple #[ndV zeroN, .int .i64 410]) ∧ Below w.heap.size w w' := by
 have HV : Hid (decide (lOk c0 c1 c2 c3 c4) = false) := hid (dQ hv)
 clear hv
 obtain ⟨X, HX⟩ : ∃ X, Hid ((l.map fun x => Value.int .u8 (x : Nat)).toArray = X) := ⟨_, hid rfl⟩
 have e0 : dgV l = .agg X := by unfold dgV; rw [HX.out]
 rw [e0]
 clear e0
 obtain ⟨t1, t2, t3, t4⟩ := three_rows3 w #[.int .i64 c0, .int .i64 c1, .int .i64 c2, .int .i64 c3, .int .i64 c4] X #[.int .u8 0, .int .u8 0, .int .u8 0, .int .u8 0, .int .u8 0, .int .u8 0, .int .u8 0, .int .u8 0, .int .u8 0, .int .u8 0, .int .u8 0, .int .u8 0, .int .u8 0, .int .u8 0, .int .u8 0, .int .u8 0, .int .u8 0, .int .u8 0, .int .u8 0, .int .u8 0, .int .u8 0, .int .u8 0, .int .u8 0, .int .u8 0, .int .u8 0, .int .u8 0, .int .u8 0, .int .u8 0, .int .u8 0, .int .u8 0, .int .u8 0, .int .u8 0, .int .i64 0, .int .i64 0] 45 25 39
 have HB1 := hid t1
 have HRL := hid t2
 have HRR := hid t4
 clear t1 t2 t3 t4
 have HSZ : Hid ((Tryz.prog.info? 39).map (·.size) = some (ndC zeroN).toArray.size) := hid (by rw [size34 zeroN_ok]; simp)
 go_enter Tryz.func44, Tryz.ntmps44
 go_wp2_with (refine wpList_load_row rfl 45 (.tmp 2) rfl w.heap.size rfl 45 _ (0, 0) _ HRL.out Tryz.underlying45 rfl (by kernel_rfl) ?_)
 refine (rline_any c0 c1 c2 c3 c4 _).mono ?_
 rintro e W1 ⟨rfl, hq⟩
 rw [HV.out]
 have HRR1 := hid ((hq.block _ (Array.getElem?_eq_some_iff.1 HRR.out).1).trans HRR.out)
 have HB2 := hid (HB1.out.trans (hq.mono HB1.out.size))
 clear hq
 rw [← zeroN_cells] at HRR1
 go_wp2_with (rw [← zeroN_cells]; refine wpList_store_row rfl 39 (.tmp 4) (.tmp 10) rfl (w.heap.size + 1 + 1) (ndC zeroN).toArray ?ha ?hb 39 (ndC zeroN).toArray HRR1.out HSZ.out rfl (ndC_one zeroN) ?_)
 all_goals first | rfl | skip
 have hr := setRow_heap W1 (w.heap.size + 1 + 1) _ (ndC zeroN).toArray _ _ HRR1.out
 have hl := run_loadVar_row (P := Tryz.prog) (W1.setRow (w.heap.size + 1 + 1) (ndC zeroN).toArray) (w.heap.size + 1 + 1) 39 39 (ndC zeroN).toArray (0, 0) _ hr Tryz.underlying39 rfl HSZ.out
 refine bodyPost_ret (v := .tuple #[ndV zeroN, .int .i64 410]) ?_ rfl ⟨rfl, below_setRow HB2.out (by omega) _⟩
 unfold ndV
 simp [results, Tryz.results44, asAddr, hl]
theorem rleaf_yes (c0 c1 c2 c3 c4 : Int) (l : List Nat) (w : World) (hv : lOk c0 c1 c2 c3 c4) (hl : Hid (l.length = 32)) (hb : Hid (Bytes l)) :
  Calls Tryz.prog 44 #[.agg #[.int .i64 c0, .int .i64 c1, .int .i64 c2, .int .i64 c3, .int .i64 c4], dgV l] w fun e w' => e = .returned (.tuple #[ndV (leafN c0 c1 c2 c3 c4 l), .int .i64 0]) ∧ Below w.heap.size w w' := by
 have HV : Hid (decide (lOk c0 c1 c2 c3 c4) = true) := hid (eQ hv)
 unfold lOk at hv
 have hm := mul_leaf (a := c2) (b := c3) (by omega) (by omega) (by omega) (by omega)
 have HJ : Hid (NdOk (leafN c0 c1 c2 c3 c4 l)) := hid ⟨tagged_length _ _, tagged_bytes _ _, by simp only [leafN]; omega, by simp only [leafN]; omega⟩
 have HW1 : Hid (IntKind.i64.wrap (c2 * c3) = c2 * c3) := hid (IntWalk.i64_in _ (by omega))
 have HZS : Hid (∀ z ∈ ([c0, c1, c2, c3, c4] : List Int), -9223372036854775808 ≤ z ∧ z ≤ 9223372036854775807) := hid (fun z hz => by
  simp only [List.mem_cons, List.not_mem_nil, or_false] at hz
  rcases hz with rfl | rfl | rfl | rfl | rfl <;> omega)
 have HS1 : Hid ((Tryz.prog.info? 39).map (·.size) = some (ndC (leafN c0 c1 c2 c3 c4 l)).toArray.size) := hid (by rw [size34 HJ.out]; simp)
 have HS2 : Hid (34 = (ndC (leafN c0 c1 c2 c3 c4 l)).toArray.size) := hid (by simp [ndC_length HJ.out])
 clear hv hm
 obtain ⟨X, HX⟩ : ∃ X, Hid ((l.map fun x => Value.int .u8 (x : Nat)).toArray = X) := ⟨_, hid rfl⟩
 have e0 : dgV l = .agg X := by unfold dgV; rw [HX.out]
 rw [e0]
 clear e0
 obtain ⟨t1, t2, t3, t4⟩ := three_rows3 w #[.int .i64 c0, .int .i64 c1, .int .i64 c2, .int .i64 c3, .int .i64 c4] X #[.int .u8 0, .int .u8 0, .int .u8 0, .int .u8 0, .int .u8 0, .int .u8 0, .int .u8 0, .int .u8 0, .int .u8 0, .int .u8 0, .int .u8 0, .int .u8 0, .int .u8 0, .int .u8 0, .int .u8 0, .int .u8 0, .int .u8 0, .int .u8 0, .int .u8 0, .int .u8 0, .int .u8 0, .int .u8 0, .int .u8 0, .int .u8 0, .int .u8 0, .int .u8 0, .int .u8 0, .int .u8 0, .int .u8 0, .int .u8 0, .int .u8 0, .int .u8 0, .int .i64 0, .int .i64 0] 45 25 39
 have HB1 := hid t1
 have HRL := hid t2
 have HRS := hid t3
 have HRR := hid t4
 clear t1 t2 t3 t4
 go_enter Tryz.func44, Tryz.ntmps44
 go_wp2_with (refine wpList_load_row rfl 45 (.tmp 2) rfl w.heap.size rfl 45 _ (0, 0) _ HRL.out Tryz.underlying45 rfl (by kernel_rfl) ?_)
 refine (rline_any c0 c1 c2 c3 c4 _).mono ?_
 rintro e W1 ⟨rfl, hq⟩
 rw [HV.out]
 have hrr := (hq.block _ (Array.getElem?_eq_some_iff.1 HRR.out).1).trans HRR.out
 have hrl := (hq.block _ (Array.getElem?_eq_some_iff.1 HRL.out).1).trans HRL.out
 have hrs := (hq.block _ (Array.getElem?_eq_some_iff.1 HRS.out).1).trans HRS.out
 have hsz1 : w.heap.size + 1 + 1 + 1 ≤ W1.heap.size := (Array.getElem?_eq_some_iff.1 hrr).1
 have hbn := (Below.refl _ W1).alloc (Nat.le_refl _) (.cells #[] 5)
 have HSZ : Hid (w.heap.size + 1 + 1 + 1 ≤ (W1.alloc (.cells #[] 5)).heap.size) := hid (Nat.le_trans hsz1 hbn.size)
 have hb2 := HB1.out.trans (hq.mono HB1.out.size)
 have HBN := hid (hb2.trans (hbn.mono hb2.size))
 have HRRn := hid (row_kept hrr hbn)
 have HRLn := hid (row_kept hrl hbn)
 have HRD : Hid (Rd (W1.alloc (.cells #[] 5)) (W1.alloc (.cells #[] 5)).heap.size (some ⟨w.heap.size + 1, 0, none⟩) l) := hid (fun _ => ⟨_, 0, rfl, by have := HSZ.out; omega, bytesAt_arr (by rw [HX.out]; exact row_kept hrs hbn)⟩)
 have HO0 := hid (OwnB.empty W1 (w.heap.size + 1 + 1 + 1) hsz1)
 have HL0 : Hid (([] : List Nat).length + 32 ≤ 1099511627776) := hid (by simp)
 clear hq hrr hrl hrs hsz1 hbn hb2
 go_wp2_with (at_builtin; refine wpList_append_bytes rfl (.tmp 11) (.tmp 12) rfl (w.heap.size + 1 + 1 + 1) _ [] l rfl HO0 (some ⟨w.heap.size + 1, 0, none⟩) 32 32 rfl hl (fun h => by cases h) HRD HL0.out HSZ.out ?_; intro v1 W4 HO4 HB4; have k0 := five_cells ((HB4.out.block _ (by omega)).trans HRLn.out) 0 (by omega); have k1 := five_cells ((HB4.out.block _ (by omega)).trans HRLn.out) 1 (by omega); have k2 := five_cells ((HB4.out.block _ (by omega)).trans HRLn.out) 2 (by omega); have k3 := five_cells ((HB4.out.block _ (by omega)).trans HRLn.out) 3 (by omega); have k4 := five_cells ((HB4.out.block _ (by omega)).trans HRLn.out) 4 (by omega))
 have HRL4 := hid ((HB4.out.block _ (by omega)).trans HRLn.out)
 have HRR4 := hid ((HB4.out.block _ (by omega)).trans HRRn.out)
 have HBT4 := hid (HBN.out.trans (HB4.out.mono (by omega)))
 have HSZ4 := hid (Nat.le_trans HSZ.out HB4.out.size)
 clear k0 k1 k2 k3 k4
 have hq := heap_alloc_new W4 (.cells #[.int .i64 c0, .int .i64 c1, .int .i64 c2, .int .i64 c3, .int .i64 c4] 3)
 have hba := (Below.refl _ W4).alloc (Nat.le_refl _) (.cells #[.int .i64 c0, .int .i64 c1, .int .i64 c2, .int .i64 c3, .int .i64 c4] 3)
 have HBT5 := hid (HBT4.out.trans (hba.mono HBT4.out.size))
 have HSZ5 := hid (Nat.le_trans HSZ4.out hba.size)
 have HO5 := hid (HO4.out.below hba)
 have HRL5 := hid (row_kept HRL4.out hba)
 have HRR5 := hid (row_kept HRR4.out hba)
 have HCS : Hid (∀ i, i < 5 → (W4.alloc (.cells #[.int .i64 c0, .int .i64 c1, .int .i64 c2, .int .i64 c3, .int .i64 c4] 3)).cell? ⟨W4.heap.size, i, none⟩ = some (.int .i64 (([c0, c1, c2, c3, c4] : List Int).getD i 0))) := hid (fun i hi => five_cells hq i hi)
 clear hq hba
 refine (rints_any ([c0, c1, c2, c3, c4] : List Int) W4.heap.size 5 5 _ HZS rfl (by omega) HCS (by simp)).mono ?_
 rintro e W6 ⟨v6, rfl, ho6, hq6⟩
 obtain ⟨A6, n6, c6, rfl, hn6, hc6, hA6, HR6⟩ := ho6.slice
 have HBT6 := hid (HBT5.out.trans (hq6.mono HBT5.out.size))
 have HSZ6 := hid (Nat.le_trans HSZ5.out hq6.size)
 have HO6 := hid (HO5.out.below hq6)
 have HRL6 := hid (row_kept HRL5.out hq6)
 have HRR6 := hid (row_kept HRR5.out hq6)
 have HEL : Hid (n6 ≤ 100) := hid (by rw [← hn6.out]; have := encI_length ([c0, c1, c2, c3, c4] : List Int); simp only [List.length_cons, List.length_nil] at this; omega)
 have HL6 : Hid (([] ++ l).length + n6 ≤ 1099511627776) := hid (by rw [List.nil_append, hl.out]; have := HEL.out; omega)
 clear ho6 hq6
 go_wp2_with (at_builtin; refine wpList_append_bytes rfl (.tmp 14) (.tmp 26) rfl (w.heap.size + 1 + 1 + 1) _ ([] ++ l) (encI ([c0, c1, c2, c3, c4] : List Int)) rfl HO6 A6 n6 c6 rfl hn6 hA6.out HR6 HL6.out HSZ6.out ?_; intro v7 W7 HO7 HB7)
 obtain ⟨A7, n7, c7, rfl, hn7, hc7, hA7, HR7⟩ := HO7.out.slice
 have HRL7 := hid ((HB7.out.block _ (by omega)).trans HRL6.out)
 have HRR7 := hid ((HB7.out.block _ (by omega)).trans HRR6.out)
 have HBT7 := hid (HBT6.out.trans (HB7.out.mono (by omega)))
 have HN7 : n7 ≤ 1000 := by rw [← hn7.out]; have := HEL.out; simp only [List.length_append, List.nil_append, hl.out, hn6.out]; omega
 have HBY : Hid (Bytes ([] ++ l ++ encI ([c0, c1, c2, c3, c4] : List Int))) := hid (bytes_app (bytes_app (fun x hx => by cases hx) hb.out) (encI_bytes _))
 have HLD : Hid (dgV (tagged (strL lineTag) ([] ++ l ++ encI ([c0, c1, c2, c3, c4] : List Int))) = dgV (leafN c0 c1 c2 c3 c4 l).d) := hid (by rw [← leaf_d, List.nil_append]; rfl)
 clear HRL HRS HRR HBN HRLn HRRn HRD HO0 HL0 HO4 HB4 HRL4 HRR4 HBT4 HSZ4 HBT5 HSZ5 HO5 HRL5 HRR5 HCS HBT6 HSZ6 HO6 HRL6 HRR6 HL6 HO7 HB7 HR6
 refine region_flow3 (by kernel_rfl) (by kernel_rfl) (fun i => Nat.beq i 10 || Nat.beq i 11) (fun i => i) (by kernel_rfl) (fun fx => #[.agg #[.int IntKind.i64 c0, .int IntKind.i64 c1, .int IntKind.i64 c2, .int IntKind.i64 c3, .int IntKind.i64 c4], .agg X, .pointer (some { block := w.heap.size, off := 0 }), .pointer (some { block := w.heap.size + 1, off := 0 }), .pointer (some { block := w.heap.size + 1 + 1, off := 0 }), fx 11, .slice A7 n7 c7, .agg #[.int IntKind.i64 c0, .int IntKind.i64 c1, .int IntKind.i64 c2, .int IntKind.i64 c3, .int IntKind.i64 c4], .bool true, .bool false, undef, .slice (some { block := W1.heap.size, off := 0 }) 0 0, .slice (some { block := w.heap.size + 1, off := 0 }) 32 32, v1, v1, .pointer (some { block := w.heap.size, off := 0 }), .int IntKind.i64 c0, .pointer (some { block := w.heap.size, off := 1 }), .int IntKind.i64 c1, .pointer (some { block := w.heap.size, off := 2 }), .int IntKind.i64 c2, .pointer (some { block := w.heap.size, off := 3 }), .int IntKind.i64 c3, .pointer (some { block := w.heap.size, off := 4 }), .int IntKind.i64 c4, .slice (some { block := W4.heap.size, off := 0 }) 5 5, .slice A6 n6 c6, .slice A7 n7 c7, fx 0, fx 1, fx 2, fx 3, fx 4, fx 5, fx 6, fx 7, fx 8, fx 9]) (fun i => bif Nat.beq i 11 then Value.int IntKind.i64 0 else undef) (fun L fx w' => (L 10 = false → Below W7.heap.size W7 w')) (fun fi fv _ fw => wFr w w.heap.size (w.heap.size + 1 + 1) A7 n7 c7 c0 c1 c2 c3 c4 l fi fv fw) (fun _ => (Below.refl _ _).drew) ?_ ?_
 ·refine ⟨?_, ?_, ?_, ?_, ?_, ?_, ?_, ?_, ?_, ?_, ?_, ?_, trivial⟩
  all_goals intro L fx w' hC hi hcl hdn hd
  ·have hnd : L 10 = false := nQ hi (fun h => (hcl 1 0 (hcl 9 1 (hcl 10 9 h (by kernel_rfl)) (by kernel_rfl)) (by kernel_rfl)))
   go_wp2_with fail
   exact ⟨_, rfl, (fun _ => hC hnd), rfl, kP⟩
  ·have h0 : fx 0 = .slice A7 n7 c7 := hd.1 rfl
   have hnd : L 10 = false := nQ hi (fun h => (hcl 9 1 (hcl 10 9 h (by kernel_rfl)) (by kernel_rfl)))
   have hb12 := hC hnd
   have HRk := hid ((HR7.out.below hb12 (Nat.le_refl _)).mono hb12.size)
   go_wp2_with fail
   refine (rtagged_any lineTag A7 n7 c7 _ w' (by decide) hn7 hc7 hA7.out (by omega) HBY HRk).mono ?_
   rintro e w2 ⟨rfl, hq⟩
   rw [HLD.out]
   go_wp2_with fail
   exact ⟨_, by show _ = Act.mk #[Value.agg #[Value.int IntKind.i64 c0, Value.int IntKind.i64 c1, Value.int IntKind.i64 c2, Value.int IntKind.i64 c3, Value.int IntKind.i64 c4], Value.agg X, Value.pointer (some { block := w.heap.size, off := 0 }), Value.pointer (some { block := w.heap.size + 1, off := 0 }), Value.pointer (some { block := w.heap.size + 1 + 1, off := 0 }), fx 11, Value.slice A7 n7 c7, Value.agg #[Value.int IntKind.i64 c0, Value.int IntKind.i64 c1, Value.int IntKind.i64 c2, Value.int IntKind.i64 c3, Value.int IntKind.i64 c4], Value.bool true, Value.bool false, undef, Value.slice (some { block := W1.heap.size, off := 0 }) 0 0, Value.slice (some { block := w.heap.size + 1, off := 0 }) 32 32, v1, v1, Value.pointer (some { block := w.heap.size, off := 0 }), Value.int IntKind.i64 c0, Value.pointer (some { block := w.heap.size, off := 1 }), Value.int IntKind.i64 c1, Value.pointer (some { block := w.heap.size, off := 2 }), Value.int IntKind.i64 c2, Value.pointer (some { block := w.heap.size, off := 3 }), Value.int IntKind.i64 c3, Value.pointer (some { block := w.heap.size, off := 4 }), Value.int IntKind.i64 c4, Value.slice (some { block := W4.heap.size, off := 0 }) 5 5, Value.slice A6 n6 c6, Value.slice A7 n7 c7, fx 0, dgV (leafN c0 c1 c2 c3 c4 l).d, fx 2, fx 3, fx 4, fx 5, fx 6, fx 7, fx 8, fx 9] []; rw [h0] <;> rfl, fun _ => hb12.trans (hq.mono hb12.size), rfl, fun j v t _ _ h => wFr_below hq j v h⟩
  ·have hnd : L 10 = false := nQ hi (fun h => (hcl 3 2 (hcl 9 3 (hcl 10 9 h (by kernel_rfl)) (by kernel_rfl)) (by kernel_rfl)))
   go_wp2_with fail
   exact ⟨_, rfl, (fun _ => hC hnd), rfl, kP⟩
  ·have h2 : fx 2 = .pointer (some ⟨w.heap.size, 3, none⟩) := hd.1 rfl
   have hnd : L 10 = false := nQ hi (fun h => (hcl 9 3 (hcl 10 9 h (by kernel_rfl)) (by kernel_rfl)))
   have hc : w'.cell? ⟨w.heap.size, 3, none⟩ = some (.int .i64 c3) := five_cells (row_kept HRL7.out (hC hnd)) 3 (by omega)
   go_wp2_with fail
   exact ⟨_, by show _ = Act.mk #[Value.agg #[Value.int IntKind.i64 c0, Value.int IntKind.i64 c1, Value.int IntKind.i64 c2, Value.int IntKind.i64 c3, Value.int IntKind.i64 c4], Value.agg X, Value.pointer (some { block := w.heap.size, off := 0 }), Value.pointer (some { block := w.heap.size + 1, off := 0 }), Value.pointer (some { block := w.heap.size + 1 + 1, off := 0 }), fx 11, Value.slice A7 n7 c7, Value.agg #[Value.int IntKind.i64 c0, Value.int IntKind.i64 c1, Value.int IntKind.i64 c2, Value.int IntKind.i64 c3, Value.int IntKind.i64 c4], Value.bool true, Value.bool false, undef, Value.slice (some { block := W1.heap.size, off := 0 }) 0 0, Value.slice (some { block := w.heap.size + 1, off := 0 }) 32 32, v1, v1, Value.pointer (some { block := w.heap.size, off := 0 }), Value.int IntKind.i64 c0, Value.pointer (some { block := w.heap.size, off := 1 }), Value.int IntKind.i64 c1, Value.pointer (some { block := w.heap.size, off := 2 }), Value.int IntKind.i64 c2, Value.pointer (some { block := w.heap.size, off := 3 }), Value.int IntKind.i64 c3, Value.pointer (some { block := w.heap.size, off := 4 }), Value.int IntKind.i64 c4, Value.slice (some { block := W4.heap.size, off := 0 }) 5 5, Value.slice A6 n6 c6, Value.slice A7 n7 c7, fx 0, fx 1, fx 2, Value.int .i64 (c3), fx 4, fx 5, fx 6, fx 7, fx 8, fx 9] []; rw [h2] <;> rfl, (fun _ => hC hnd), rfl, kP⟩
  ·have hnd : L 10 = false := nQ hi (fun h => (hcl 5 4 (hcl 8 5 (hcl 9 8 (hcl 10 9 h (by kernel_rfl)) (by kernel_rfl)) (by kernel_rfl)) (by kernel_rfl)))
   go_wp2_with fail
   exact ⟨_, rfl, (fun _ => hC hnd), rfl, kP⟩
  ·have h4 : fx 4 = .pointer (some ⟨w.heap.size, 2, none⟩) := hd.1 rfl
   have hnd : L 10 = false := nQ hi (fun h => (hcl 8 5 (hcl 9 8 (hcl 10 9 h (by kernel_rfl)) (by kernel_rfl)) (by kernel_rfl)))
   have hc : w'.cell? ⟨w.heap.size, 2, none⟩ = some (.int .i64 c2) := five_cells (row_kept HRL7.out (hC hnd)) 2 (by omega)
   go_wp2_with fail
   exact ⟨_, by show _ = Act.mk #[Value.agg #[Value.int IntKind.i64 c0, Value.int IntKind.i64 c1, Value.int IntKind.i64 c2, Value.int IntKind.i64 c3, Value.int IntKind.i64 c4], Value.agg X, Value.pointer (some { block := w.heap.size, off := 0 }), Value.pointer (some { block := w.heap.size + 1, off := 0 }), Value.pointer (some { block := w.heap.size + 1 + 1, off := 0 }), fx 11, Value.slice A7 n7 c7, Value.agg #[Value.int IntKind.i64 c0, Value.int IntKind.i64 c1, Value.int IntKind.i64 c2, Value.int IntKind.i64 c3, Value.int IntKind.i64 c4], Value.bool true, Value.bool false, undef, Value.slice (some { block := W1.heap.size, off := 0 }) 0 0, Value.slice (some { block := w.heap.size + 1, off := 0 }) 32 32, v1, v1, Value.pointer (some { block := w.heap.size, off := 0 }), Value.int IntKind.i64 c0, Value.pointer (some { block := w.heap.size, off := 1 }), Value.int IntKind.i64 c1, Value.pointer (some { block := w.heap.size, off := 2 }), Value.int IntKind.i64 c2, Value.pointer (some { block := w.heap.size, off := 3 }), Value.int IntKind.i64 c3, Value.pointer (some { block := w.heap.size, off := 4 }), Value.int IntKind.i64 c4, Value.slice (some { block := W4.heap.size, off := 0 }) 5 5, Value.slice A6 n6 c6, Value.slice A7 n7 c7, fx 0, fx 1, fx 2, fx 3, fx 4, Value.int .i64 (c2), fx 6, fx 7, fx 8, fx 9] []; rw [h4] <;> rfl, (fun _ => hC hnd), rfl, kP⟩
  ·have hnd : L 10 = false := nQ hi (fun h => (hcl 7 6 (hcl 8 7 (hcl 9 8 (hcl 10 9 h (by kernel_rfl)) (by kernel_rfl)) (by kernel_rfl)) (by kernel_rfl)))
   go_wp2_with fail
   exact ⟨_, rfl, (fun _ => hC hnd), rfl, kP⟩
  ·have h6 : fx 6 = .pointer (some ⟨w.heap.size, 3, none⟩) := hd.1 rfl
   have hnd : L 10 = false := nQ hi (fun h => (hcl 8 7 (hcl 9 8 (hcl 10 9 h (by kernel_rfl)) (by kernel_rfl)) (by kernel_rfl)))
   have hc : w'.cell? ⟨w.heap.size, 3, none⟩ = some (.int .i64 c3) := five_cells (row_kept HRL7.out (hC hnd)) 3 (by omega)
   go_wp2_with fail
   exact ⟨_, by show _ = Act.mk #[Value.agg #[Value.int IntKind.i64 c0, Value.int IntKind.i64 c1, Value.int IntKind.i64 c2, Value.int IntKind.i64 c3, Value.int IntKind.i64 c4], Value.agg X, Value.pointer (some { block := w.heap.size, off := 0 }), Value.pointer (some { block := w.heap.size + 1, off := 0 }), Value.pointer (some { block := w.heap.size + 1 + 1, off := 0 }), fx 11, Value.slice A7 n7 c7, Value.agg #[Value.int IntKind.i64 c0, Value.int IntKind.i64 c1, Value.int IntKind.i64 c2, Value.int IntKind.i64 c3, Value.int IntKind.i64 c4], Value.bool true, Value.bool false, undef, Value.slice (some { block := W1.heap.size, off := 0 }) 0 0, Value.slice (some { block := w.heap.size + 1, off := 0 }) 32 32, v1, v1, Value.pointer (some { block := w.heap.size, off := 0 }), Value.int IntKind.i64 c0, Value.pointer (some { block := w.heap.size, off := 1 }), Value.int IntKind.i64 c1, Value.pointer (some { block := w.heap.size, off := 2 }), Value.int IntKind.i64 c2, Value.pointer (some { block := w.heap.size, off := 3 }), Value.int IntKind.i64 c3, Value.pointer (some { block := w.heap.size, off := 4 }), Value.int IntKind.i64 c4, Value.slice (some { block := W4.heap.size, off := 0 }) 5 5, Value.slice A6 n6 c6, Value.slice A7 n7 c7, fx 0, fx 1, fx 2, fx 3, fx 4, fx 5, fx 6, Value.int .i64 (c3), fx 8, fx 9] []; rw [h6] <;> rfl, (fun _ => hC hnd), rfl, kP⟩
  ·have h5 : fx 5 = .int .i64 (c2) := hd.1 rfl
   have h7 : fx 7 = .int .i64 (c3) := hd.2.1 rfl
   have hnd : L 10 = false := nQ hi (fun h => (hcl 9 8 (hcl 10 9 h (by kernel_rfl)) (by kernel_rfl)))
   have hw : IntKind.i64.wrap (c2 * c3) = c2 * c3 := HW1.out
   go_wp2_with fail
   exact ⟨_, by show _ = Act.mk #[Value.agg #[Value.int IntKind.i64 c0, Value.int IntKind.i64 c1, Value.int IntKind.i64 c2, Value.int IntKind.i64 c3, Value.int IntKind.i64 c4], Value.agg X, Value.pointer (some { block := w.heap.size, off := 0 }), Value.pointer (some { block := w.heap.size + 1, off := 0 }), Value.pointer (some { block := w.heap.size + 1 + 1, off := 0 }), fx 11, Value.slice A7 n7 c7, Value.agg #[Value.int IntKind.i64 c0, Value.int IntKind.i64 c1, Value.int IntKind.i64 c2, Value.int IntKind.i64 c3, Value.int IntKind.i64 c4], Value.bool true, Value.bool false, undef, Value.slice (some { block := W1.heap.size, off := 0 }) 0 0, Value.slice (some { block := w.heap.size + 1, off := 0 }) 32 32, v1, v1, Value.pointer (some { block := w.heap.size, off := 0 }), Value.int IntKind.i64 c0, Value.pointer (some { block := w.heap.size, off := 1 }), Value.int IntKind.i64 c1, Value.pointer (some { block := w.heap.size, off := 2 }), Value.int IntKind.i64 c2, Value.pointer (some { block := w.heap.size, off := 3 }), Value.int IntKind.i64 c3, Value.pointer (some { block := w.heap.size, off := 4 }), Value.int IntKind.i64 c4, Value.slice (some { block := W4.heap.size, off := 0 }) 5 5, Value.slice A6 n6 c6, Value.slice A7 n7 c7, fx 0, fx 1, fx 2, fx 3, fx 4, fx 5, fx 6, fx 7, Value.int .i64 (c2 * c3), fx 9] []; rw [h5, h7] <;> rfl, (fun _ => hC hnd), rfl, kP⟩
  ·have h1 : fx 1 = dgV (leafN c0 c1 c2 c3 c4 l).d := hd.1 rfl
   have h3 : fx 3 = .int .i64 (c3) := hd.2.1 rfl
   have h8 : fx 8 = .int .i64 (c2 * c3) := hd.2.2.1 rfl
   have hnd : L 10 = false := nQ hi (fun h => (hcl 10 9 h (by kernel_rfl)))
   refine wpList_build_node rfl (.tmp 29) (.tmp 31) (.tmp 36) rfl (leafN c0 c1 c2 c3 c4 l).d c3 (c2 * c3) HJ.out.len h1 h3 h8 ?_
   clear hd
   go_wp2_with fail
   exact ⟨_, by show _ = Act.mk #[Value.agg #[Value.int IntKind.i64 c0, Value.int IntKind.i64 c1, Value.int IntKind.i64 c2, Value.int IntKind.i64 c3, Value.int IntKind.i64 c4], Value.agg X, Value.pointer (some { block := w.heap.size, off := 0 }), Value.pointer (some { block := w.heap.size + 1, off := 0 }), Value.pointer (some { block := w.heap.size + 1 + 1, off := 0 }), fx 11, Value.slice A7 n7 c7, Value.agg #[Value.int IntKind.i64 c0, Value.int IntKind.i64 c1, Value.int IntKind.i64 c2, Value.int IntKind.i64 c3, Value.int IntKind.i64 c4], Value.bool true, Value.bool false, undef, Value.slice (some { block := W1.heap.size, off := 0 }) 0 0, Value.slice (some { block := w.heap.size + 1, off := 0 }) 32 32, v1, v1, Value.pointer (some { block := w.heap.size, off := 0 }), Value.int IntKind.i64 c0, Value.pointer (some { block := w.heap.size, off := 1 }), Value.int IntKind.i64 c1, Value.pointer (some { block := w.heap.size, off := 2 }), Value.int IntKind.i64 c2, Value.pointer (some { block := w.heap.size, off := 3 }), Value.int IntKind.i64 c3, Value.pointer (some { block := w.heap.size, off := 4 }), Value.int IntKind.i64 c4, Value.slice (some { block := W4.heap.size, off := 0 }) 5 5, Value.slice A6 n6 c6, Value.slice A7 n7 c7, fx 0, fx 1, fx 2, fx 3, fx 4, fx 5, fx 6, fx 7, fx 8, ndV (leafN c0 c1 c2 c3 c4 l)] []; rw [h1, h3, h8] <;> rfl, fun _ => hC hnd, rfl, kP⟩
  ·have h9 : fx 9 = ndV (leafN c0 c1 c2 c3 c4 l) := hd.1 rfl
   have hb21 := hC hi
   have hrow := row_kept HRR7.out hb21
   refine wpList_store_row rfl 39 (.tmp 4) (.tmp 37) rfl (w.heap.size + 1 + 1) (ndC (leafN c0 c1 c2 c3 c4 l)).toArray rfl h9 39 _ hrow HS1.out HS2.out (ndC_one _) ?_
   clear hd
   go_wp2_with fail
   refine ⟨undef, by rw [← h9]; rfl, fun h => (updB_self h).elim, ⟨setRow_heap _ _ _ _ _ _ hrow, below_setRow (HBT7.out.trans (hb21.mono HBT7.out.size)) (by omega) _⟩, fun j v t hj hu h => ?_⟩
   refine wFr_pure j v ?_ h
   intro e
   subst e
   rw [hi] at hj; cases hj
  ·go_wp2_with fail
   exact ⟨_, rfl, fun h => hC h, rfl, kP⟩
 ·intro L fx w' hC hS
  have H10 := hid (hS 10 (by decide) rfl)
  have H11 := hid (hS 11 (by decide) rfl)
  have h11 : fx 11 = .int .i64 0 := H11.out
  rw [h11]
  clear hS h11 H11
  go_wp2_with fail
  have hl := run_loadVar_row (P := Tryz.prog) w' (w.heap.size + 1 + 1) 39 39 (ndC (leafN c0 c1 c2 c3 c4 l)).toArray (0, 0) _ H10.out.1 Tryz.underlying39 rfl HS1.out
  refine bodyPost_ret (v := .tuple #[ndV (leafN c0 c1 c2 c3 c4 l), .int .i64 0]) ?_ rfl ⟨rfl, H10.out.2⟩
  unfold ndV
  simp [results, Tryz.results44, asAddr, hl]
theorem rleaf_any (c0 c1 c2 c3 c4 : Int) (l : List Nat) (w : World) (hl : Hid (l.length = 32)) (hb : Hid (Bytes l)) :
  Calls Tryz.prog 44 #[.agg #[.int .i64 c0, .int .i64 c1, .int .i64 c2, .int .i64 c3, .int .i64 c4], dgV l] w fun e w' => e = .returned (.tuple #[ndV (leafR c0 c1 c2 c3 c4 l), .int .i64 (leafE c0 c1 c2 c3 c4)]) ∧ Below w.heap.size w w' := by
 by_cases h : lOk c0 c1 c2 c3 c4
 ·unfold leafR leafE
  rw [if_pos h, if_pos h]
  exact rleaf_yes c0 c1 c2 c3 c4 l w h hl hb
 ·unfold leafR leafE
  rw [if_neg h, if_neg h]
  exact rleaf_no c0 c1 c2 c3 c4 l w h
def wNq (W1 : World) (bt : Nat) (g : Nat) (off : Nat) (n : Nat) (c : Nat) (jn : Nat) (t : Tr) (x : Ln) (s : List Nat) (r : Nd) : Nat → Value → Value → World → Prop
 | 0, fv, _, _ => fv = .pointer (some { block := bt, off := 4 })
 | 1, fv, _, _ => fv = .slice (some ⟨g, off, none⟩) n c
 | 2, fv, _, _ => fv = .int .i64 ((jn : Nat))
 | 3, fv, _, _ => fv = .pointer (some ⟨g, off + jn * 5, none⟩)
 | 4, fv, _, _ => fv = lnV x
 | 5, fv, _, _ => fv = .pointer (some { block := bt, off := 6 })
 | 6, fv, _, _ => fv = dgV t.salt
 | 7, fv, _, _ => fv = .pointer (some { block := bt, off := 4 })
 | 8, fv, _, _ => fv = .slice (some ⟨g, off, none⟩) n c
 | 9, fv, _, _ => fv = .int .i64 ((jn : Nat))
 | 10, fv, _, _ => fv = .pointer (some ⟨g, off + jn * 5, none⟩)
 | 11, fv, _, _ => fv = lnV x
 | 12, fv, _, _ => fv = dgV s
 | 13, fv, _, _ => fv = .tuple #[ndV r, .int .i64 0]
 | 14, fv, _, _ => fv = .tuple #[ndV r, .int .i64 0]
 | 15, fv, _, _ => fv = ndV r
 | 16, fv, _, _ => fv = .int .i64 0
 | 17, fv, _, _ => fv = fv
 | 18, fv, _, _ => fv = fv
 | 19, fv, fu, fw => fv = .int .i64 0 ∧ ∃ q, fu = .pointer (some ⟨q, 0, none⟩) ∧ fw.heap[q]? = some (.cells (ndC r).toArray 39 (0, 0)) ∧ Below W1.heap.size W1 fw
 | _, _, _, _ => True
theorem wNq_below {W1 : World} {bt : Nat} {g : Nat} {off : Nat} {n : Nat} {c : Nat} {jn : Nat} {t : Tr} {x : Ln} {s : List Nat} {r : Nd} {w w' : World} (hb : Below w.heap.size w w') : ∀ j v u, wNq W1 bt g off n c jn t x s r j v u w → wNq W1 bt g off n c jn t x s r j v u w'
 | 0, v, u, h => h
 | 1, v, u, h => h
 | 2, v, u, h => h
 | 3, v, u, h => h
 | 4, v, u, h => h
 | 5, v, u, h => h
 | 6, v, u, h => h
 | 7, v, u, h => h
 | 8, v, u, h => h
 | 9, v, u, h => h
 | 10, v, u, h => h
 | 11, v, u, h => h
 | 12, v, u, h => h
 | 13, v, u, h => h
 | 14, v, u, h => h
 | 15, v, u, h => h
 | 16, v, u, h => h
 | 17, v, u, h => h
 | 18, v, u, h => h
 | 19, v, u, ⟨h0, q, h1, h2, h3⟩ => ⟨h0, q, h1, row_kept h2 hb, h3.trans (hb.mono h3.size)⟩
 | n + 20, v, u, h => trivial
theorem wNq_pure {W1 : World} {bt : Nat} {g : Nat} {off : Nat} {n : Nat} {c : Nat} {jn : Nat} {t : Tr} {x : Ln} {s : List Nat} {r : Nd} {w w' : World} : ∀ j v u, j ≠ 19 → wNq W1 bt g off n c jn t x s r j v u w → wNq W1 bt g off n c jn t x s r j v u w'
 | 0, v, u, _, h => h
 | 1, v, u, _, h => h
 | 2, v, u, _, h => h
 | 3, v, u, _, h => h
 | 4, v, u, _, h => h
 | 5, v, u, _, h => h
 | 6, v, u, _, h => h
 | 7, v, u, _, h => h
 | 8, v, u, _, h => h
 | 9, v, u, _, h => h
 | 10, v, u, _, h => h
 | 11, v, u, _, h => h
 | 12, v, u, _, h => h
 | 13, v, u, _, h => h
 | 14, v, u, _, h => h
 | 15, v, u, _, h => h
 | 16, v, u, _, h => h
 | 17, v, u, _, h => h
 | 18, v, u, _, h => h
 | 19, v, u, hh, _ => absurd rfl hh
 | n + 20, v, u, _, h => trivial
theorem rleaf_x (x : Ln) (l : List Nat) (w : World) (hl : Hid (DgOk l)) (hv : vLn x = true) : Calls Tryz.prog 44 #[lnV x, dgV l] w fun e w' => e = .returned (.tuple #[ndV (leafR x.c0 x.c1 x.c2 x.c3 x.c4 l), .int .i64 0]) ∧ Below w.heap.size w w' := by
 have h := rleaf_any x.c0 x.c1 x.c2 x.c3 x.c4 l w (hid hl.out.len) (hid hl.out.bytes)
 rw [show leafE x.c0 x.c1 x.c2 x.c3 x.c4 = 0 from by unfold leafE; exact if_pos (of_decide_eq_true hv)] at h
 exact h
theorem own_emptyN2 {w : World} {g M : Nat} (h : w.heap[g]? = some (.cells #[] 39 (0, 0))) (hM : M ≤ g) : OwnN w M (.slice (some ⟨g, 0, none⟩) 0 0) [] :=
 ⟨rfl, .inr ⟨g, 0, #[], rfl, hM, h, Nat.le_refl _, Nat.zero_le _, rfl, rfl⟩⟩
def cNq (W1 : World) (r : Nd) (L : Nat → Bool) (fx : Nat → Value) (w' : World) : Prop := Below W1.heap.size W1 w' ∧ (L 17 = true → ∃ q, fx 17 = .pointer (some ⟨q, 0, none⟩) ∧ W1.heap.size ≤ q ∧ q < w'.heap.size ∧ w'.heap[q]? = some (.cells (ndC (bif L 18 then r else zeroN)).toArray 39 (0, 0)))
theorem cNq.below {W1 : World} {r : Nd} {L : Nat → Bool} {fx : Nat → Value} {w' w2 : World} (h : cNq W1 r L fx w') (hb : Below w'.heap.size w' w2) : cNq W1 r L fx w2 := by
 refine ⟨h.1.trans (hb.mono h.1.size), fun h10 => ?_⟩
 obtain ⟨q, e, h1, h2, h3⟩ := h.2 h10
 exact ⟨q, e, h1, Nat.lt_of_lt_of_le h2 hb.size, row_kept h3 hb⟩
theorem rnodes_no (t : Tr) (p : TrP) (w : World) (h : Hid (TrOk w t p)) (hg : Hid (trG t = false)) :
  Calls Tryz.prog 11 #[trV t p] w fun e w' => e = .returned (.tuple #[.slice none 0 0, .int .i64 420]) ∧ Below w.heap.size w w' := by
 have HE : Hid (trE t = 420) := hid (trE_no hg.out)
 have HB0 := hid ((Below.refl _ w).alloc (Nat.le_refl _) (.cells (trC t p).toArray 27))
 have HR0 := hid (heap_alloc_new w (.cells (trC t p).toArray 27))
 have HO1 := hid (h.out.below HB0.out)
 have HIT := hid (trV_info t p h.out.len)
 rw [show trV t p = .agg (trC t p).toArray from rfl]
 go_enter Tryz.func11, Tryz.ntmps11
 go_wp2_with (refine wpList_load_row rfl 27 (.tmp 1) rfl w.heap.size rfl 27 _ (0, 0) _ HR0.out Tryz.underlying27 rfl HIT.out ?_)
 rw [show Value.agg (trC t p).toArray = trV t p from rfl]
 refine (rcheck42_any t p _ HO1).mono ?_
 rintro e W2 ⟨rfl, hq1⟩
 have HB2 := hid (HB0.out.trans (hq1.mono HB0.out.size))
 have HR2 := hid (row_kept HR0.out hq1)
 have HO2 := hid (HO1.out.below hq1)
 clear hq1 HR0 HO1 HB0
 rw [HE.out]
 go_wp2_with fail
 go_ret2
 exact ⟨rfl, HB2.out⟩
theorem rnodes_yes (t : Tr) (p : TrP) (w : World) (h : Hid (TrOk w t p)) (hg : Hid (trG t = true)) :
  Calls Tryz.prog 11 #[trV t p] w fun e w' => ∃ A' n' c', e = .returned (.tuple #[.slice A' n' c', .int .i64 0]) ∧ InN w' A' n' c' (t.ln.map (ndL t.salt)) ∧ Below w.heap.size w w' := by
 have HE : Hid (trE t = 0) := hid (trE_yes hg.out)
 have HN := hid (show t.ln.length = p.n from h.out.ln.len)
 have HNL : Hid (p.n ≤ 100000) := hid (by have := trG_lns hg.out; rw [HN.out] at this; exact this)
 have HSA : Hid (DgOk t.salt) := hid ⟨h.out.len, h.out.bytes⟩
 have HSK := hid (dgC_infoK HSA.out)
 have HVA : Hid (∀ x ∈ t.ln, vLn x = true) := hid (chkE_all _ _ (trG_parts hg.out).2.1)
 have HB0 := hid ((Below.refl _ w).alloc (Nat.le_refl _) (.cells (trC t p).toArray 27))
 have HR0 := hid (heap_alloc_new w (.cells (trC t p).toArray 27))
 have HO1 := hid (h.out.below HB0.out)
 have HIT := hid (trV_info t p h.out.len)
 rw [show trV t p = .agg (trC t p).toArray from rfl]
 go_enter Tryz.func11, Tryz.ntmps11
 go_wp2_with (refine wpList_load_row rfl 27 (.tmp 1) rfl w.heap.size rfl 27 _ (0, 0) _ HR0.out Tryz.underlying27 rfl HIT.out ?_)
 rw [show Value.agg (trC t p).toArray = trV t p from rfl]
 refine (rcheck42_any t p _ HO1).mono ?_
 rintro e W2 ⟨rfl, hq1⟩
 have HB2 := hid (HB0.out.trans (hq1.mono HB0.out.size))
 have HR2 := hid (row_kept HR0.out hq1)
 have HO2 := hid (HO1.out.below hq1)
 clear hq1 HR0 HO1 HB0
 rw [HE.out]
 have HI2 := hid HO2.out.ln
 have HBE := hid ((Below.refl W2.heap.size W2).alloc (Nat.le_refl _) (.cells #[] 39))
 have HOE := hid (own_emptyN2 (heap_alloc_new W2 (.cells #[] 39)) (Nat.le_refl W2.heap.size))
 go_wp2_with fail
 go_loopw [5, 4] (fun i dd wr => ∃ (j : Nat) (P : List Nd), j ≤ p.n ∧ i = .int .i64 j ∧ Hid (P = (t.ln.take j).map (ndL t.salt)) ∧ Hid (OwnN wr W2.heap.size dd P) ∧ Hid (Below W2.heap.size W2 wr) ∧ ∃ A3 n3 c3, dd = .slice A3 n3 c3) (fun i _ _ => p.n - (intOf i).toNat)
 case atStart => exact ⟨0, [], by omega, rfl, hid rfl, HOE, HBE, _, _, _, rfl⟩
 case round =>
  clear HOE HBE
  obtain ⟨j, P, hj, rfl, HP, HOW, HB, A3, n3, c3, rfl⟩ := hrel
  have kl : wr.cell? ⟨w.heap.size, 4, none⟩ = some (.slice p.A p.n p.c) := by rw [cell_of_row _ _ _ _ _ _ (row_kept HR2.out HB.out)]; rfl
  by_cases hlt : j < p.n
  ·have d1 : decide ((j : Int) < (p.n : Int)) = true := eQ (by omega)
   have d2 : decide (j < p.n) = true := eQ hlt
   have HLT := hid hlt
   have hjl : j < t.ln.length := by rw [HN.out]; exact hlt
   obtain ⟨g, off, eA, hgl, hr⟩ := HI2.out.rd (by omega)
   obtain ⟨x, HX⟩ : ∃ x, Hid (t.ln[j] = x) := ⟨_, hid rfl⟩
   have HVX : Hid (vLn x = true) := hid (by rw [← HX.out]; exact HVA.out _ (List.getElem_mem hjl))
   have HR : Hid (wr.rangeAt g (off + j * 5) (lnC x)) := hid (by
    rw [← HX.out]
    exact rangeAt_below (range_elem lnC_len4 hr j hjl) hgl HB.out)
   have HGL : Hid (g < wr.heap.size) := hid (Nat.lt_of_lt_of_le hgl HB.out.size)
   have HII := hid (lnC_infoL4 x)
   have HPL : Hid (P.length ≤ 100000) := hid (by have := HNL.out; rw [HP.out, List.length_map, List.length_take]; omega)
   obtain ⟨s, HS⟩ : ∃ s, Hid (saltN t.salt 1 (nLn x) = s) := ⟨_, hid rfl⟩
   have HSO : Hid (DgOk s) := hid (by rw [← HS.out]; exact saltN_ok _ _ _)
   obtain ⟨r, HD⟩ : ∃ r, Hid (leafR x.c0 x.c1 x.c2 x.c3 x.c4 s = r) := ⟨_, hid rfl⟩
   have HRO : Hid (NdOk r) := hid (by rw [← HD.out]; exact leafR_okL x s)
   have HS34 := hid (size34e HRO.out)
   have HT34 : Hid ((ndC zeroN).toArray.size = (ndC r).toArray.size) := hid (by simp [ndC_length HRO.out, ndC_length zeroN_ok])
   have HPN : Hid (P ++ [r] = (t.ln.take (j + 1)).map (ndL t.salt)) := hid (by rw [List.take_succ_eq_append_getElem hjl, List.map_append, ← HP.out, HX.out, ← HD.out, ← HS.out]; rfl)
   rw [eA] at kl
   have HTC := hid kl
   have HTB : Hid (w.heap.size < wr.heap.size) := hid (Array.getElem?_eq_some_iff.1 (row_kept HR2.out HB.out)).1
   have HTR := hid (row_kept HR2.out HB.out)
   clear hr eA
   go_wp2_with fail
   clear kl
   have HBL := hid (fun (a1 a2 : World) (hb : Below a1.heap.size a1 a2) => wNq_below (W1 := wr) (bt := w.heap.size) (g := g) (off := off) (n := p.n) (c := p.c) (jn := j) (t := t) (x := x) (s := s) (r := r) hb)
   refine region_flow4 (by kernel_rfl) (by kernel_rfl) (fun i => Nat.beq i 19) (fun i => bif Nat.beq i 19 then 17 else i) (by kernel_rfl) (fun fx => #[trV t p, .pointer (some { block := w.heap.size, off := 0 }), .slice none 0 0, .int IntKind.i64 0, .slice A3 n3 c3, .int IntKind.i64 ↑j, fx 17, fx 19, trV t p, .int IntKind.i64 0, .bool false, .slice (some { block := W2.heap.size, off := 0 }) 0 0, .int IntKind.i64 ↑j, .pointer (some { block := w.heap.size, off := 4 }), .slice (some { block := g, off := off }) p.n p.c, .int IntKind.i64 ↑p.n, .bool true, u17, u18, fx 14, fx 0, fx 1, fx 2, fx 3, fx 4, fx 5, fx 6, fx 7, fx 8, fx 9, fx 10, fx 11, fx 12, fx 13, fx 15, fx 16, u36, u37, u38, u39, undef]) (fun i => bif Nat.beq i 0 then u20 else bif Nat.beq i 1 then u21 else bif Nat.beq i 2 then u22 else bif Nat.beq i 3 then u23 else bif Nat.beq i 4 then u24 else bif Nat.beq i 5 then u25 else bif Nat.beq i 6 then u26 else bif Nat.beq i 7 then u27 else bif Nat.beq i 8 then u28 else bif Nat.beq i 9 then u29 else bif Nat.beq i 10 then u30 else bif Nat.beq i 11 then u31 else bif Nat.beq i 12 then u32 else bif Nat.beq i 13 then u33 else bif Nat.beq i 14 then u19 else bif Nat.beq i 15 then u34 else bif Nat.beq i 16 then u35 else bif Nat.beq i 17 then u6 else bif Nat.beq i 19 then u7 else undef) (fun L fx w' => cNq wr r L fx w') (fun fi fv fu fw => wNq wr w.heap.size g off p.n p.c j t x s r fi fv fu fw) ⟨(Below.refl _ _).drew, (fun h => by cases h)⟩ ?_ ?_
   ·refine ⟨?_, ?_, ?_, ?_, ?_, ?_, ?_, ?_, ?_, ?_, ?_, ?_, ?_, ?_, ?_, ?_, ?_, ?_, ?_, ?_, trivial⟩
    all_goals intro L fx w' hC hi hcl hdn hd
    ·clear hd
     go_wp2_with fail
     exact ⟨_, rfl, hC, rfl, kP⟩
    ·have h0 : fx 0 = .pointer (some { block := w.heap.size, off := 4 }) := hd.1 rfl
     have hcc := (hC.1.cell (p := ⟨w.heap.size, 4, none⟩) HTB.out).trans HTC.out
     clear hd
     go_wp2_with fail
     exact ⟨_, by simp only [upd, h0]; rfl, hC, rfl, kP⟩
    ·clear hd
     go_wp2_with fail
     exact ⟨_, rfl, hC, rfl, kP⟩
    ·have h1 : fx 1 = .slice (some ⟨g, off, none⟩) p.n p.c := hd.1 rfl
     have h2 : fx 2 = .int .i64 ((j : Nat)) := hd.2.1 rfl
     have hlt := HLT.out
     have hltn : decide (j < p.n) = true := eQ hlt
     clear hd
     go_wp2_with fail
     exact ⟨_, by simp only [upd, h1, h2]; rfl, hC, rfl, kP⟩
    ·have h3 : fx 3 = .pointer (some ⟨g, off + j * 5, none⟩) := hd.1 rfl
     have hrow := rangeAt_below HR.out HGL.out hC.1
     refine wpList_load_mid rfl 45 (.tmp 23) rfl g (off + j * 5) h3 (lnC x) _ hrow Tryz.underlying45 rfl HII.out ?_
     rw [show Value.agg (lnC x).toArray = lnV x from rfl]
     clear hd
     go_wp2_with fail
     exact ⟨_, by simp only [upd, h3]; rfl, hC, rfl, kP⟩
    ·clear hd
     go_wp2_with fail
     exact ⟨_, rfl, hC, rfl, kP⟩
    ·have h5 : fx 5 = .pointer (some { block := w.heap.size, off := 6 }) := hd.1 rfl
     have hrow := tr_salt (row_kept HTR.out hC.1)
     refine wpList_load_mid rfl 25 (.tmp 25) rfl w.heap.size 6 h5 (dgC t.salt) _ hrow Tryz.underlying25 rfl HSK.out ?_
     clear hd
     go_wp2_with fail
     exact ⟨_, by simp only [upd, h5]; rfl, hC, rfl, kP⟩
    ·clear hd
     go_wp2_with fail
     exact ⟨_, rfl, hC, rfl, kP⟩
    ·have h7 : fx 7 = .pointer (some { block := w.heap.size, off := 4 }) := hd.1 rfl
     have hcc := (hC.1.cell (p := ⟨w.heap.size, 4, none⟩) HTB.out).trans HTC.out
     clear hd
     go_wp2_with fail
     exact ⟨_, by simp only [upd, h7]; rfl, hC, rfl, kP⟩
    ·clear hd
     go_wp2_with fail
     exact ⟨_, rfl, hC, rfl, kP⟩
    ·have h8 : fx 8 = .slice (some ⟨g, off, none⟩) p.n p.c := hd.1 rfl
     have h9 : fx 9 = .int .i64 ((j : Nat)) := hd.2.1 rfl
     have hlt := HLT.out
     have hltn : decide (j < p.n) = true := eQ hlt
     clear hd
     go_wp2_with fail
     exact ⟨_, by simp only [upd, h8, h9]; rfl, hC, rfl, kP⟩
    ·have h10 : fx 10 = .pointer (some ⟨g, off + j * 5, none⟩) := hd.1 rfl
     have hrow := rangeAt_below HR.out HGL.out hC.1
     refine wpList_load_mid rfl 45 (.tmp 30) rfl g (off + j * 5) h10 (lnC x) _ hrow Tryz.underlying45 rfl HII.out ?_
     rw [show Value.agg (lnC x).toArray = lnV x from rfl]
     clear hd
     go_wp2_with fail
     exact ⟨_, by simp only [upd, h10]; rfl, hC, rfl, kP⟩
    ·have h6 : fx 6 = dgV t.salt := hd.1 rfl
     have h11 : fx 11 = lnV x := hd.2.1 rfl
     clear hd
     go_wp2_with fail
     refine (rsaltL t.salt x w' HSA).mono ?_
     rintro e w2 ⟨rfl, hq⟩
     rw [HS.out]
     go_wp2_with fail
     exact ⟨_, by simp only [upd, h6, h11]; rfl, hC.below hq, rfl, fun i v u _ _ h => HBL.out _ _ hq i v u h⟩
    ·have h4 : fx 4 = lnV x := hd.1 rfl
     have h12 : fx 12 = dgV s := hd.2.1 rfl
     clear hd
     go_wp2_with fail
     refine (rleaf_x x s w' HSO HVX.out).mono ?_
     rintro e w2 ⟨rfl, hq⟩
     rw [HD.out]
     go_wp2_with fail
     exact ⟨_, by simp only [upd, h4, h12]; rfl, hC.below hq, rfl, fun i v u _ _ h => HBL.out _ _ hq i v u h⟩
    ·have h13 : fx 13 = .tuple #[ndV r, .int .i64 0] := hd.1 rfl
     clear hd
     go_wp2_with fail
     exact ⟨_, by simp only [upd, h13]; rfl, hC, rfl, kP⟩
    ·have h14 : fx 14 = .tuple #[ndV r, .int .i64 0] := hd.1 rfl
     clear hd
     go_wp2_with fail
     exact ⟨_, by simp only [upd, h14]; rfl, hC, rfl, kP⟩
    ·have h14 : fx 14 = .tuple #[ndV r, .int .i64 0] := hd.1 rfl
     clear hd
     go_wp2_with fail
     exact ⟨_, by simp only [upd, h14]; rfl, hC, rfl, kP⟩
    ·have h11 : L 18 = false := nQ hi (fun h => hcl 18 17 h (by kernel_rfl))
     clear hd
     go_wp2_with fail
     rw [← zeroN_cells]
     have hq : Below w'.heap.size w' (w'.alloc (.cells (ndC zeroN).toArray 39)) := (Below.refl _ _).alloc (Nat.le_refl _) _
     refine ⟨Value.pointer (some ⟨w'.heap.size, 0, none⟩), rfl, ⟨(hC.below hq).1, fun _ => ⟨w'.heap.size, rfl, hC.1.size, by simp, ?_⟩⟩, rfl, fun i v u _ _ h => HBL.out _ _ hq i v u h⟩
     show _ = some (Obj.cells (ndC (bif L 18 then r else zeroN)).toArray 39 (0, 0))
     rw [h11]
     exact heap_alloc_new w' _
    ·have H17 := hid (hd.1 rfl)
     have h15 : fx 15 = ndV r := hd.2.1 rfl
     obtain ⟨q, e10, hq1, hq2, hrow0⟩ := hC.2 (hdn 17 (by kernel_rfl))
     have hrow : w'.heap[q]? = some (.cells (ndC zeroN).toArray 39 (0, 0)) := by have := hrow0; rw [hi] at this; exact this
     refine wpList_store_row rfl 39 (.tmp 6) (.tmp 34) rfl q (ndC r).toArray e10 h15 39 _ hrow HS34.out HT34.out (ndC_one _) ?_
     clear hd
     go_wp2_with fail
     refine ⟨undef, by simp only [upd, h15, e10]; rfl, ⟨below_setRow hC.1 hq1 _, fun _ => ⟨q, e10, hq1, by rw [setRow_size]; exact hq2, setRow_heap _ _ _ _ _ _ hrow⟩⟩, rfl, fun j v t hj hu h => ?_⟩
     by_cases e : j = 19
     ·subst e; exact absurd (hcl 19 18 hj (by kernel_rfl)) (by rw [hi]; exact Bool.false_ne_true)
     ·exact wNq_pure j v t e h
    ·have h16 : fx 16 = .int .i64 0 := hd.1 rfl
     obtain ⟨q, e10, hq1, hq2, hrow0⟩ := hC.2 (hdn 17 (by kernel_rfl))
     rw [hdn 18 (by kernel_rfl)] at hrow0
     clear hd
     go_wp2_with fail
     exact ⟨Value.int .i64 0, by simp only [upd, h16, e10]; rfl, hC, ⟨rfl, q, e10, hrow0, hC.1⟩, kP⟩
   ·intro L fo w' hC hS
    have H19 := hid (hS 19 (by decide) rfl)
    obtain ⟨e12, q, e10, hrow, hbw⟩ := H19.out
    have e10' : fo 17 = .pointer (some ⟨q, 0, none⟩) := e10
    rw [e12, e10']
    have HQR := hid hrow
    have HOW2 := hid (HOW.out.below hbw)
    have HB3 := hid (HB.out.trans (hbw.mono HB.out.size))
    have hba := (Below.refl _ w').alloc (Nat.le_refl _) (.cells (flatN [r]).toArray 39)
    have HA6 := hid (HOW2.out.below hba)
    have HRF := hid (heap_alloc_new w' (.cells (flatN [r]).toArray 39))
    have HB4 := hid (HB3.out.trans (hba.mono HB3.out.size))
    have HSZ := hid HB4.out.size
    have hnn := HNL.out
    clear hS hC e12 e10 e10' H19 hrow hbw hba
    go_wp2_with (first | (refine wpList_load_row rfl 39 (.tmp 6) rfl q rfl 39 _ (0, 0) _ HQR.out Tryz.underlying39 rfl HS34.out ?_) | (refine wpList_build_nodes1 rfl (.tmp 37) rfl r rfl HRO.out ?_) | (refine wpList_append_node rfl (.tmp 36) (.tmp 38) rfl W2.heap.size _ P r rfl HA6 HRO.out w'.heap.size rfl HRF HPL.out HSZ.out ?_; intro v2 w2 HO2 HG2; obtain ⟨A2, n2, c2, rfl⟩ := HO2.out.form))
    have HB5 := hid (HB4.out.grown HG2.out HSZ.out (fun k hk => (HA6.out.block k hk).1))
    rw [HPN.out] at HO2
    go_roundw
    case rel => exact ⟨j + 1, _, by omega, by go_num, hid rfl, HO2, HB5, _, _, _, rfl⟩
    case measure => simp [intOf]; omega
  ·have d1 : decide ((j : Int) < (p.n : Int)) = false := dQ (by omega)
   have d1n : decide (j < p.n) = false := dQ hlt
   have HPF : Hid (P = t.ln.map (ndL t.salt)) := hid (by rw [HP.out, List.take_of_length_le (by rw [HN.out]; omega)])
   have HPO : Hid (∀ y ∈ P, NdOk y) := hid (fun y hy => by
    rw [HPF.out] at hy
    obtain ⟨x, _, rfl⟩ := List.mem_map.1 hy
    exact leafR_okL x _)
   obtain ⟨A4, n4, c4, e4, hin4, ht4⟩ := HOW.out.slice HPO.out
   cases e4
   have HI4 := hid hin4
   have HB4 := hid (HB2.out.trans (HB.out.mono HB2.out.size))
   clear hin4 ht4
   go_wp2_with fail
   go_ret2
   exact ⟨_, _, _, rfl, by rw [← HPF.out]; exact HI4.out, HB4.out⟩
open Go.Shelf
/-- a part as cells -/
def shP (x : Pt) : List Value := [.int .i64 (x.lo : Nat), .int .i64 (x.hi : Nat), .bool x.ins]
def flatH (ls : List Pt) : List Value := ls.flatMap shP
theorem flatH_append (a b : List Pt) : flatH (a ++ b) = flatH a ++ flatH b := by unfold flatH; rw [List.flatMap_append]
theorem flatH_length : ∀ ls : List Pt, (flatH ls).length = ls.length * 3
 | [] => rfl
 | x :: ls => by
  show (shP x ++ flatH ls).length = _
  rw [List.length_append, flatH_length ls, List.length_cons]
  show 3 + _ = _
  omega
theorem flatH_one (ls : List Pt) : ∀ u ∈ flatH ls, u.oneCell' = true := fun u hu => by
 obtain ⟨n, _, h⟩ := List.mem_flatMap.1 hu
 unfold shP at h
 simp only [List.mem_cons, List.not_mem_nil, or_false] at h
 rcases h with rfl | rfl | rfl <;> rfl
theorem info_shown : ∃ i, Tryz.prog.info? 131 = some i ∧ i.zero = some (.agg #[.int .i64 0, .int .i64 0, .bool false]) ∧ i.size = 3 ∧ i.bytes = 24 := by
 refine ⟨_, rfl, ?_, ?_, ?_⟩ <;> kernel_rfl
theorem fill_shown1 (n : Pt) {i : TypeInfo} {z : Value} (hs : i.size = 3) : Instr.fill (fun j => some (j * i.size, i.size)) ((Array.range (1 * i.size)).map (z.cells[· % z.cells.size]!)) [(0, .agg (shP n).toArray)] = some (flatH [n]).toArray := by
 rw [hs]
 have e1 : ([(0, .agg (shP n).toArray)] : List (Nat × Value)) = (([.agg (shP n).toArray] : List Value).zipIdx 0).map fun x => (x.2, x.1) := by simp
 rw [e1, Great.fill_whole (by omega) [.agg (shP n).toArray] _ (fun v hv => by
  simp only [List.mem_cons, List.not_mem_nil, or_false] at hv
  subst hv; rfl) (by simp)]
 rfl
theorem wpList_build_shown1 {w : World} {ops : Array Oper} {rest : List Oper} {o : Oper} {a : Act} {Q : Exit → Act → World → Prop} (hg : o.guard = none) (x : Operand)
  (ho : o.op = .buildSlice 128 1 #[(0, x)]) (n : Pt) (hx : a.eval x = .agg (shP n).toArray)
  (h : wpList Tryz.prog ops Q rest (a.put o.dst (.slice (some ⟨w.heap.size, 0, none⟩) 1 1)) (w.alloc (.cells (flatH [n]).toArray 131))) : wpList Tryz.prog ops Q (o :: rest) a w := by
 obtain ⟨i0, hi, hz, hs, _⟩ := info_shown
 refine wpList_buildSlice hg 128 131 1 _ ho _ i0 _ Tryz.underlying128 hi hz (by rw [hs]; omega) (by rw [hs]; omega) ?_ h
 have e1 : (#[(0, x)].map fun (i, x) => (i, a.eval x)).toList = [(0, .agg (shP n).toArray)] := by simp [hx]
 rw [e1]; exact fill_shown1 n hs
def OwnH (w : World) (base : Nat) (v : Value) (ls : List Pt) : Prop := w.ownsRow base 131 3 v ls.length (flatH ls)
theorem OwnH.kept {w w' : World} {base : Nat} {v : Value} {ls : List Pt} (h : OwnH w base v ls) (hk : ∀ g, v.ownBlock = some g → w'.heap[g]? = w.heap[g]?) : OwnH w' base v ls := by
 refine ⟨h.1, ?_⟩
 rcases h.2 with h0 | ⟨g, cap, cur, rfl, hb, hh, r⟩
 ·exact .inl h0
 ·exact .inr ⟨g, cap, cur, rfl, hb, (hk g rfl).trans hh, r⟩
theorem OwnH.block {w : World} {base : Nat} {v : Value} {ls : List Pt} (h : OwnH w base v ls) (g : Nat) (hg : v.ownBlock = some g) : base ≤ g ∧ g < w.heap.size ∧ ∃ cur, w.heap[g]? = some (.cells cur 131 (0, 0)) := by
 rcases h.2 with ⟨rfl, h0⟩ | ⟨g', cap, cur, rfl, hb, hh, r⟩
 ·cases hg
 ·have : g' = g := by simpa [Value.ownBlock] using hg
  subst this
  exact ⟨hb, (Array.getElem?_eq_some_iff.1 hh).1, cur, hh⟩
theorem OwnH.below {w w' : World} {base : Nat} {v : Value} {ls : List Pt} (h : OwnH w base v ls) (hb : Below w.heap.size w w') : OwnH w' base v ls := h.kept fun g hg => hb.block g (h.block g hg).2.1
theorem OwnH.form {w : World} {base : Nat} {v : Value} {ls : List Pt} (h : OwnH w base v ls) : ∃ A n c, v = .slice A n c := by
 rcases h.2 with ⟨rfl, h0⟩ | ⟨g, cap, cur, rfl, r⟩
 ·exact ⟨_, _, _, rfl⟩
 ·exact ⟨_, _, _, rfl⟩
/-- a slice of parts -/
structure InH (w : World) (A : Option Addr) (n c : Nat) (ls : List Pt) : Prop where
 len : ls.length = n
 cap : n ≤ c
 none_ : A = none → c = 0
 rd : 0 < ls.length → ∃ g off, A = some ⟨g, off, none⟩ ∧ g < w.heap.size ∧ w.rangeAt g off (flatH ls)
theorem OwnH.slice {w : World} {base : Nat} {v : Value} {ls : List Pt} (h : OwnH w base v ls) : ∃ A n c, v = .slice A n c ∧ InH w A n c ls := by
 rcases h.2 with ⟨rfl, h0⟩ | ⟨g, cap, cur, rfl, hb, hh, hc, hm, hs, ht⟩
 ·exact ⟨none, 0, 0, rfl, ⟨h0, Nat.le_refl _, fun _ => rfl, fun h1 => by omega⟩⟩
 ·refine ⟨_, _, cap, rfl, ⟨rfl, hc, (fun e => by cases e), fun _ => ⟨g, 0, rfl, (Array.getElem?_eq_some_iff.1 hh).1, fun j u hj => ?_⟩⟩⟩
  have hj2 : j < ls.length * 3 := by rw [← flatH_length ls]; exact (List.getElem?_eq_some_iff.1 hj).1
  rw [Nat.zero_add, cell_of_row w g j cur _ _ hh]
  rw [← ht, List.getElem?_take_of_lt hj2] at hj
  simpa using hj
theorem OwnH.one {w : World} {g M : Nat} {x : Pt} (h : w.heap[g]? = some (.cells (flatH [x]).toArray 131 (0, 0))) (hM : M ≤ g) : OwnH w M (.slice (some ⟨g, 0, none⟩) 1 1) [x] :=
 ⟨rfl, .inr ⟨g, 1, _, rfl, hM, h, Nat.le_refl _, by unfold maxLen; omega, rfl, rfl⟩⟩
theorem wpList_append_shown {w : World} {ops : Array Oper} {rest : List Oper} {o : Oper} {a : Act} {Q : Exit → Act → World → Prop} (hgd : o.guard = none) (s x : Operand)
  (ho : o.op = .call { callee := .builtin .append, args := #[s, x], argTypes := #[128, 128] })
  (base : Nat) (v : Value) (ls ps : List Pt) (A : Option Addr) (n c : Nat) (hs : a.eval s = v) (hown : Hid (OwnH w base v ls)) (hx : a.eval x = .slice A n c) (hin : Hid (InH w A n c ps)) (hlen : ls.length ≤ 100000) (hn : n ≤ 100000) (hbase : base ≤ w.heap.size)
  (h : ∀ v' w', Hid (OwnH w' base v' (ls ++ ps)) → Hid (w.grownBy w' v.ownBlock) → Hid (v'.ownBlock = v.ownBlock ∨ v'.ownBlock = some w.heap.size) → wpList Tryz.prog ops Q rest (a.put o.dst v') w') : wpList Tryz.prog ops Q (o :: rest) a w := by
 obtain ⟨i0, hi, hz, hz1, hz2⟩ := info_shown
 rcases A with _ | ad
 ·have hc := hin.out.none_ rfl
  have h0 : n = 0 := by have := hin.out.cap; omega
  have hp : ps = [] := List.eq_nil_of_length_eq_zero (by rw [hin.out.len]; exact h0)
  subst hp h0 hc
  refine wpList_append_own_none hgd s x _ ho base _ i0 3 Tryz.underlying128 hi v _ _ hs hown.out hx ?_
  exact h v w (hid (by rw [List.append_nil]; exact hown.out)) (hid ⟨rfl, rfl, rfl, Nat.le_refl _, fun _ _ _ => rfl⟩) (hid (.inl rfl))
 ·have hl := flatH_length ps
  rw [hin.out.len] at hl
  refine wpList_append_own_at _ hgd s x _ ho base _ i0 _ 3 24 Tryz.underlying128 hi hz hz1 hz2 (by simp [Value.cells]) (by omega) v _ _ hs hown.out ad n c (flatH ps) hx hl (fun j u hu => ?_) (flatH_one _) (by unfold maxLen; omega) (by omega) hbase ?_
  ·have hj := (List.getElem?_eq_some_iff.1 hu).1
   obtain ⟨g, off, e, hg, hr⟩ := hin.out.rd (by rw [hin.out.len]; omega)
   cases e
   rw [add_row]; exact hr j u hu
  ·intro v' w' h1 h2 h3 h4
   refine h v' w' (hid ?_) (hid h2) (hid h4)
   unfold OwnH
   rw [flatH_append, List.length_append, hin.out.len]; exact h1
theorem rh_step43 {f k n : Nat} (hlt : 2 * k < n) (hn : n ≤ 1000000) (h : 18446744073709551616 ≤ k * 2 ^ f) : ∃ g, halfF f k n = halfF g (2 * k) n ∧ 18446744073709551616 ≤ 2 * k * 2 ^ g := by
 cases f with
 | zero => rw [Nat.pow_zero] at h; omega
 | succ g =>
  refine ⟨g, ?_, ?_⟩
  ·conv => lhs; unfold halfF
   rw [if_pos hlt]
  ·rw [Nat.pow_succ] at h
   rw [show 2 * k * 2 ^ g = k * (2 ^ g * 2) by rw [Nat.mul_comm (2 ^ g) 2, ← Nat.mul_assoc, Nat.mul_comm k 2]]
   exact h
theorem rh_end43 {f k n : Nat} (hlt : ¬ 2 * k < n) : halfF f k n = k := by
 cases f with
 | zero => rfl
 | succ f => unfold halfF; rw [if_neg hlt]
theorem rhalf43_any (n : Nat) (w : World) (hn : n ≤ 1000000) : Calls Tryz.prog 124 #[.int .i64 (n : Nat)] w fun e w' => e = .returned (.int .i64 (half n : Nat)) ∧ w = w' := by
 go_enter Tryz.func124, Tryz.ntmps124
 go_wp2_with fail
 go_loop [3] (fun v => ∃ k : Nat, v = .int .i64 (k : Nat) ∧ 1 ≤ k ∧ k ≤ 1000000 ∧ Hid (∃ f, halfF f k n = half n ∧ 18446744073709551616 ≤ k * 2 ^ f)) (fun v => n - (intOf v).toNat)
 case atStart => exact ⟨1, rfl, by omega, by omega, hid ⟨64, rfl, by decide⟩⟩
 case round =>
  obtain ⟨k, rfl, hk1, hk2, HF⟩ := hrel
  by_cases hlt : 2 * k < n
  ·have d1 : decide (2 * (k : Int) < (n : Int)) = true := eQ (by omega)
   have HF2 : Hid (∃ f, halfF f (2 * k) n = half n ∧ 18446744073709551616 ≤ 2 * k * 2 ^ f) := hid (by
    obtain ⟨f, h1, h2⟩ := HF.out
    obtain ⟨g, h3, h4⟩ := rh_step43 hlt hn h2
    exact ⟨g, by rw [← h3]; exact h1, h4⟩)
   go_wp2_with fail
   go_round
   case rel => exact ⟨2 * k, by go_num, by omega, by omega, HF2⟩
   case measure => simp [intOf]; omega
  ·have d1 : decide (2 * (k : Int) < (n : Int)) = false := dQ (by omega)
   have HE : Hid (half n = k) := hid (by
    obtain ⟨f, h1, _⟩ := HF.out
    rw [← h1]; exact rh_end43 hlt)
   go_wp2_with fail
   go_ret
   exact ⟨by rw [HE.out]; rfl, rfl⟩
theorem rfits_any (f t m : Int) (w : World) : Calls Tryz.prog 79 #[.int .i64 f, .int .i64 t, .int .i64 m] w fun e w' => e = .returned (.bool (ftB f t m)) ∧ w = w' := by
 unfold ftB
 by_cases h0 : 0 ≤ f
 ·have d0 : decide (0 ≤ f) = true := eQ h0
  by_cases h1 : f < t
  ·have d1 : decide (f < t) = true := eQ h1
   by_cases h2 : t ≤ m
   ·have d2 : decide (t ≤ m) = true := eQ h2
    go_enter Tryz.func79, Tryz.ntmps79
    go_wp2_with fail
    go_ret
    exact ⟨by first | rfl | (rw [d0, d1, d2]; rfl), rfl⟩
   ·have d2 : decide (t ≤ m) = false := dQ h2
    go_enter Tryz.func79, Tryz.ntmps79
    go_wp2_with fail
    go_ret
    exact ⟨by first | rfl | (rw [d0, d1, d2]; rfl), rfl⟩
  ·have d1 : decide (f < t) = false := dQ h1
   go_enter Tryz.func79, Tryz.ntmps79
   go_wp2_with fail
   go_ret
   exact ⟨by first | rfl | (rw [d0, d1]; rfl), rfl⟩
 ·have d0 : decide (0 ≤ f) = false := dQ h0
  go_enter Tryz.func79, Tryz.ntmps79
  go_wp2_with fail
  go_ret
  exact ⟨by first | rfl | (rw [d0]; rfl), rfl⟩
def RPts (f t lo hi : Nat) : Prop := hi ≤ 4096 → ∀ w : World, Calls Tryz.prog 80 #[.int .i64 (f : Nat), .int .i64 (t : Nat), .int .i64 (lo : Nat), .int .i64 (hi : Nat)] w fun e w' => ∃ A n c, e = .returned (.slice A n c) ∧ OwnH w' w.heap.size (.slice A n c) (parts f t lo hi) ∧ Below w.heap.size w w'
theorem rparts_leaf (f t lo up : Nat) (hft : f < t) (ht : t ≤ 4096) (hlt : lo < up) (hc : (insB f t lo up || outB f t lo up) = true) : RPts f t lo up := by
 intro hhi w
 rw [parts_leaf hlt hc]
 unfold insB outB at hc
 unfold insB
 obtain ⟨b, HB⟩ : ∃ b, Hid ((decide (f ≤ lo) && decide (up ≤ t)) = b) := ⟨_, hid rfl⟩
 rw [HB.out]
 obtain ⟨W, HW⟩ : ∃ W, Hid (w.alloc (.cells (flatH [⟨lo, up, b⟩]).toArray 131) = W) := ⟨_, hid rfl⟩
 have hr := heap_alloc_new w (.cells (flatH [⟨lo, up, b⟩]).toArray 131)
 have hb := (Below.refl _ w).alloc (Nat.le_refl _) (.cells (flatH [⟨lo, up, b⟩]).toArray 131)
 rw [HW.out] at hr hb
 have HO := hid (OwnH.one hr (Nat.le_refl _))
 have HBW := hid hb
 clear hr hb
 obtain ⟨b1, e1⟩ : ∃ b, decide (f ≤ lo) = b := ⟨_, rfl⟩
 obtain ⟨b2, e2⟩ : ∃ b, decide (up ≤ t) = b := ⟨_, rfl⟩
 obtain ⟨b3, e3⟩ : ∃ b, decide (up ≤ f) = b := ⟨_, rfl⟩
 obtain ⟨b4, e4⟩ : ∃ b, decide (t ≤ lo) = b := ⟨_, rfl⟩
 have d1 : decide ((f : Int) ≤ (lo : Int)) = b1 := by rw [← e1]; simp
 have d2 : decide ((up : Int) ≤ (t : Int)) = b2 := by rw [← e2]; simp
 have d3 : decide ((up : Int) ≤ (f : Int)) = b3 := by rw [← e3]; simp
 have d4 : decide ((t : Int) ≤ (lo : Int)) = b4 := by rw [← e4]; simp
 have HC := hid hc
 rw [e1, e2] at HB
 rw [e1, e2, e3, e4] at HC
 have HF : Hid (f < t) := hid hft
 clear hc hft
 cases b1
 ·cases b3
  ·cases b4
   ·have := HC.out; cases this
   ·have hbt : b = false := HB.out.symm
    subst hbt
    go_enter Tryz.func80, Tryz.ntmps80
    go_wp2_with (first | (refine wpList_build_shown1 rfl (.tmp 32) rfl ⟨lo, up, false⟩ rfl ?_; rw [HW.out]))
    go_ret
    exact ⟨_, _, _, rfl, HO.out, HBW.out⟩
  ·have hbt : b = false := HB.out.symm
   subst hbt
   go_enter Tryz.func80, Tryz.ntmps80
   go_wp2_with (first | (refine wpList_build_shown1 rfl (.tmp 32) rfl ⟨lo, up, false⟩ rfl ?_; rw [HW.out]))
   go_ret
   exact ⟨_, _, _, rfl, HO.out, HBW.out⟩
 ·cases b2
  ·cases b3
   ·cases b4
    ·have := HC.out; cases this
    ·have hbt : b = false := HB.out.symm
     subst hbt
     go_enter Tryz.func80, Tryz.ntmps80
     go_wp2_with (first | (refine wpList_build_shown1 rfl (.tmp 32) rfl ⟨lo, up, false⟩ rfl ?_; rw [HW.out]))
     go_ret
     exact ⟨_, _, _, rfl, HO.out, HBW.out⟩
   ·have hbt : b = false := HB.out.symm
    subst hbt
    go_enter Tryz.func80, Tryz.ntmps80
    go_wp2_with (first | (refine wpList_build_shown1 rfl (.tmp 32) rfl ⟨lo, up, false⟩ rfl ?_; rw [HW.out]))
    go_ret
    exact ⟨_, _, _, rfl, HO.out, HBW.out⟩
  ·have hbt : b = true := HB.out.symm
   subst hbt
   go_enter Tryz.func80, Tryz.ntmps80
   go_wp2_with (first | (refine wpList_build_shown1 rfl (.tmp 20) rfl ⟨lo, up, true⟩ rfl ?_; rw [HW.out]))
   go_ret
   exact ⟨_, _, _, rfl, HO.out, HBW.out⟩
theorem rparts_cut (f t lo up mid : Nat) (hft : f < t) (ht : t ≤ 4096) (hlt : lo < up) (hc : (insB f t lo up || outB f t lo up) = false) (hm : Hid (lo + half (up - lo) = mid)) (hm1 : lo < mid) (hm2 : mid < up) (ih1 : RPts f t lo mid) (ih2 : RPts f t mid up) : RPts f t lo up := by
 intro hhi w
 rw [parts_cut hlt hft hc, hm.out]
 have HL1 := hid (parts_length hft lo mid hm1)
 have HL2 := hid (parts_length hft mid up hm2)
 obtain ⟨dn, HDN⟩ : ∃ k, Hid (up - lo = k) := ⟨_, hid rfl⟩
 obtain ⟨hf, HHF⟩ : ∃ k, Hid (half dn = k) := ⟨_, hid rfl⟩
 have hmm : lo + hf = mid := by rw [← HHF.out, ← HDN.out]; exact hm.out
 have w1 : IntKind.i64.wrap ((up : Int) - (lo : Int)) = (dn : Int) := by have := HDN.out; rw [IntWalk.i64_in _ (by omega)]; omega
 have w2 : IntKind.i64.wrap ((lo : Int) + (hf : Int)) = (mid : Int) := by rw [IntWalk.i64_in _ (by omega)]; omega
 have hdn : dn ≤ 1000000 := by have := HDN.out; omega
 have q1 := ih1 (by omega)
 have q2 := ih2 hhi
 have HQ1 := hid q1
 have HQ2 := hid q2
 have HLN : Hid (mid ≤ 4096 ∧ up ≤ 4096) := hid ⟨by omega, hhi⟩
 obtain ⟨b1, e1⟩ : ∃ b, decide (f ≤ lo) = b := ⟨_, rfl⟩
 obtain ⟨b2, e2⟩ : ∃ b, decide (up ≤ t) = b := ⟨_, rfl⟩
 obtain ⟨b3, e3⟩ : ∃ b, decide (up ≤ f) = b := ⟨_, rfl⟩
 obtain ⟨b4, e4⟩ : ∃ b, decide (t ≤ lo) = b := ⟨_, rfl⟩
 have d1 : decide ((f : Int) ≤ (lo : Int)) = b1 := by rw [← e1]; simp
 have d2 : decide ((up : Int) ≤ (t : Int)) = b2 := by rw [← e2]; simp
 have d3 : decide ((up : Int) ≤ (f : Int)) = b3 := by rw [← e3]; simp
 have d4 : decide ((t : Int) ≤ (lo : Int)) = b4 := by rw [← e4]; simp
 have HC := hid hc
 unfold insB outB at HC
 rw [e1, e2, e3, e4] at HC
 clear q1 q2 ih1 ih2 hc hm1 hm2 hlt hhi hmm hft ht
 have h3 : b3 = false := by cases b3 with
  | false => rfl
  | true => have := HC.out; simp at this
 have h4 : b4 = false := by cases b4 with
  | false => rfl
  | true => have := HC.out; simp at this
 subst h3 h4
 obtain ⟨mm, hmm⟩ : ∃ q, q = mid := ⟨_, rfl⟩
 cases b1
 rotate_left
 ·cases b2
  rotate_left
  ·have := HC.out; simp at this
  go_enter Tryz.func80, Tryz.ntmps80
  go_wp2_with fail
  refine (rhalf43_any dn _ hdn).mono ?_
  rintro e w2 ⟨rfl, rfl⟩
  rw [HHF.out]
  go_wp2_with fail
  refine (HQ1.out _).mono ?_
  rintro e w3 ⟨A1, n1, c1, rfl, ho1, hb1⟩
  have HO1 := hid ho1
  have HB1 := hid hb1
  clear ho1 hb1
  go_wp2_with fail
  refine (HQ2.out _).mono ?_
  rintro e w4 ⟨A2, n2, c2, rfl, ho2, hb2⟩
  obtain ⟨A3, n3, c3, e3, hi3⟩ := ho2.slice
  cases e3
  have HI := hid hi3
  have HO2 := hid (HO1.out.below hb2)
  have HB2 := hid (HB1.out.trans (hb2.mono HB1.out.size))
  have HN : Hid (n2 ≤ 100000 ∧ (parts f t lo mid).length ≤ 100000) := hid ⟨by rw [← hi3.len]; have := HL2.out; have := HLN.out; omega, by have := HL1.out; have := HLN.out; omega⟩
  clear ho2 hb2 hi3
  go_wp2_with (first | (refine wpList_append_shown rfl (.tmp 44) (.tmp 49) rfl w.heap.size _ _ _ A2 n2 c2 rfl HO2 rfl HI HN.out.2 HN.out.1 HB2.out.size ?_; intro v2 w5 HO3 HG HV; obtain ⟨A4, n4, c4, rfl⟩ := HO3.out.form))
  go_ret
  exact ⟨_, _, _, rfl, HO3.out, HB2.out.grown HG.out HB2.out.size (fun k e => (HO2.out.block k e).1)⟩
 go_enter Tryz.func80, Tryz.ntmps80
 go_wp2_with fail
 refine (rhalf43_any dn _ hdn).mono ?_
 rintro e w2 ⟨rfl, rfl⟩
 rw [HHF.out]
 go_wp2_with fail
 refine (HQ1.out _).mono ?_
 rintro e w3 ⟨A1, n1, c1, rfl, ho1, hb1⟩
 have HO1 := hid ho1
 have HB1 := hid hb1
 clear ho1 hb1
 go_wp2_with fail
 refine (HQ2.out _).mono ?_
 rintro e w4 ⟨A2, n2, c2, rfl, ho2, hb2⟩
 obtain ⟨A3, n3, c3, e3, hi3⟩ := ho2.slice
 cases e3
 have HI := hid hi3
 have HO2 := hid (HO1.out.below hb2)
 have HB2 := hid (HB1.out.trans (hb2.mono HB1.out.size))
 have HN : Hid (n2 ≤ 100000 ∧ (parts f t lo mid).length ≤ 100000) := hid ⟨by rw [← hi3.len]; have := HL2.out; have := HLN.out; omega, by have := HL1.out; have := HLN.out; omega⟩
 clear ho2 hb2 hi3
 go_wp2_with (first | (refine wpList_append_shown rfl (.tmp 44) (.tmp 49) rfl w.heap.size _ _ _ A2 n2 c2 rfl HO2 rfl HI HN.out.2 HN.out.1 HB2.out.size ?_; intro v2 w5 HO3 HG HV; obtain ⟨A4, n4, c4, rfl⟩ := HO3.out.form))
 go_ret
 exact ⟨_, _, _, rfl, HO3.out, HB2.out.grown HG.out HB2.out.size (fun k e => (HO2.out.block k e).1)⟩
theorem rparts_any (f t : Nat) (hft : f < t) (ht : t ≤ 4096) (lo hi : Nat) (h : lo < hi) : RPts f t lo hi :=
 parts_ind hft (M := RPts f t) (fun lo hi hlt hc => rparts_leaf f t lo hi hft ht hlt hc) (fun lo hi hlt hc h1 h2 ih1 ih2 => rparts_cut f t lo hi _ hft ht hlt hc (hid rfl) (by omega) (by omega) ih1 ih2) (hi - lo) lo hi h (Nat.le_refl _)
theorem rnodes_e43 (t : Tr) (p : TrP) (w : World) (h : Hid (TrOk w t p)) :
  Calls Tryz.prog 11 #[trV t p] w fun e w' => ∃ A' n' c', e = .returned (.tuple #[.slice A' n' c', .int .i64 (trE t)]) ∧ (trE t = 0 → n' = t.ln.length) ∧ Below w.heap.size w w' := by
 cases hg : trG t with
 | true => rw [trE_yes hg]; exact (rnodes_yes t p w h (hid hg)).mono fun e w' ⟨A, n, c, e1, hi, hq⟩ => ⟨A, n, c, e1, fun _ => by rw [← hi.len, List.length_map], hq⟩
 | false => rw [trE_no hg]; exact (rnodes_no t p w h (hid hg)).mono fun e w' ⟨e1, hq⟩ => ⟨none, 0, 0, e1, (fun e => by cases e), hq⟩
theorem rshow43_no (t : Tr) (p : TrP) (f g : Int) (w : World) (h : Hid (TrOk w t p)) (hbad : Hid (shG t f g = false)) :
  Calls Tryz.prog 33 #[trV t p, .int .i64 f, .int .i64 g] w fun e w' => e = .returned (.tuple #[.agg #[.int .i64 0, .int .i64 0, .slice none 0 0], .int .i64 (shE t f g)]) ∧ Below w.heap.size w w' := by
 have HIT := hid (trV_info t p h.out.len)
 have HKEY : Hid ((trE t = 420 ∧ shE t f g = 420) ∨ (trE t = 0 ∧ ftB f g (t.ln.length : Nat) = false ∧ shE t f g = 430)) := hid (by
  have hb := hbad.out
  unfold shG at hb
  cases hg : trG t with
  | false => exact .inl ⟨trE_no hg, by unfold shE; rw [hg]; rfl⟩
  | true =>
   rw [hg] at hb
   have hb2 : ftB f g (t.ln.length : Nat) = false := hb
   exact .inr ⟨trE_yes hg, hb2, by unfold shE; rw [hg, hb2]; rfl⟩)
 clear hbad
 have hb0 := ((Below.refl _ w).alloc (Nat.le_refl _) (.cells (trC t p).toArray 27)).alloc (by simp) (.cells #[.int .i64 0, .int .i64 0, .slice none 0 0] 66)
 have hr0 := (Below.heap_alloc (w.alloc (.cells (trC t p).toArray 27)) (.cells #[.int .i64 0, .int .i64 0, .slice none 0 0] 66) w.heap.size (by simp)).trans (heap_alloc_new w (.cells (trC t p).toArray 27))
 have hr1 := heap_alloc_new (w.alloc (.cells (trC t p).toArray 27)) (.cells #[.int .i64 0, .int .i64 0, .slice none 0 0] 66)
 rw [World.size_alloc] at hr1
 obtain ⟨VA, HVA⟩ : ∃ V, Hid ((w.alloc (.cells (trC t p).toArray 27)).alloc (.cells #[.int .i64 0, .int .i64 0, .slice none 0 0] 66) = V) := ⟨_, hid rfl⟩
 rw [HVA.out] at hb0 hr0 hr1
 have HB0 := hid hb0
 have RT0 := hid hr0
 have RZ0 := hid hr1
 have KO0 := hid (h.out.below hb0)
 clear hb0 hr0 hr1
 rw [show trV t p = .agg (trC t p).toArray from rfl]
 go_enter Tryz.func33, Tryz.ntmps33
 go_wp2_with (first | (rw [HVA.out]) | (refine wpList_load_row rfl 27 (.tmp 3) rfl (w.heap.size) rfl 27 _ (0, 0) _ RT0.out Tryz.underlying27 rfl HIT.out ?_))
 rw [show Value.agg (trC t p).toArray = trV t p from rfl]
 refine (rnodes_e43 t p _ KO0).mono ?_
 rintro e U1 ⟨A2, n2, c2, rfl, hn, hq⟩
 have HB1 := hid (HB0.out.trans (hq.mono HB0.out.size))
 have RZ1 := hid (row_kept RZ0.out hq)
 have HNN := hid hn
 clear hq hn HB0 RT0 RZ0 KO0
 have HPI : Hid ((Tryz.prog.info? 66).map (·.size) = some (#[.int .i64 0, .int .i64 0, .slice none 0 0] : Array Value).size) := hid (part_info _ _ _)
 have hl := run_loadVar_row (P := Tryz.prog) U1 (w.heap.size + 1) 66 66 #[.int .i64 0, .int .i64 0, .slice none 0 0] (0, 0) _ RZ1.out Tryz.underlying66 rfl HPI.out
 have HL := hid hl
 clear hl
 have kz0 := cell_of_row _ _ 0 _ _ _ RZ1.out
 have kz1 := cell_of_row _ _ 1 _ _ _ RZ1.out
 have kz2 := cell_of_row _ _ 2 _ _ _ RZ1.out
 have fz0 := frozen_of_row _ _ 0 _ _ RZ1.out
 have fz1 := frozen_of_row _ _ 1 _ _ RZ1.out
 have fz2 := frozen_of_row _ _ 2 _ _ RZ1.out
 have hs0 : U1.setCell ⟨w.heap.size + 1, 0, none⟩ (.int .i64 0) = U1 := by rw [setCell_eq_setRow U1 (w.heap.size + 1) 0 _ _ _ _ RZ1.out]; exact setRow_self _ _ _ _ _ RZ1.out
 have hs1 : U1.setCell ⟨w.heap.size + 1, 1, none⟩ (.int .i64 0) = U1 := by rw [setCell_eq_setRow U1 (w.heap.size + 1) 1 _ _ _ _ RZ1.out]; exact setRow_self _ _ _ _ _ RZ1.out
 have hs2 : U1.setCell ⟨w.heap.size + 1, 2, none⟩ (.slice none 0 0) = U1 := by rw [setCell_eq_setRow U1 (w.heap.size + 1) 2 _ _ _ _ RZ1.out]; exact setRow_self _ _ _ _ _ RZ1.out
 rcases HKEY.out with ⟨e1, e2⟩ | ⟨e1, hf, e2⟩
 ·rw [e1]
  have HE2 := hid e2
  clear e1 e2
  go_wp2_with fail
  refine bodyPost_ret (v := .tuple #[.agg #[.int .i64 0, .int .i64 0, .slice none 0 0], .int .i64 420]) ?_ rfl ⟨by rw [HE2.out], HB1.out⟩
  have hl := HL.out
  simp [results, Tryz.results33, asAddr, hl]
 ·have hnn := HNN.out e1
  rw [e1]
  have HE2 := hid e2
  clear e1 e2
  subst hnn
  go_wp2_with fail
  refine (rfits_any _ _ _ _).mono ?_
  rintro e U2 ⟨rfl, rfl⟩
  rw [hf]
  go_wp2_with fail
  refine bodyPost_ret (v := .tuple #[.agg #[.int .i64 0, .int .i64 0, .slice none 0 0], .int .i64 430]) ?_ rfl ⟨by rw [HE2.out], HB1.out⟩
  have hl := HL.out
  simp [results, Tryz.results33, asAddr, hl]
end Go.Proofs.YtmfmgeapecapiaaGreatDoor
