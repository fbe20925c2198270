/- The law TreeLeafSpec holds: Leaf and Salt of the program are those of the reference, for every line, salt and numbers. -/
import Derived.Test.YtgcmbiegbclhmaaDoorRefB
import Derived.Test.YtgcmbiegbclhmaaDoorTreeSane
import Derived.Test.YtgcmbiegbclhmaaDoorArgNd
import Derived.Test.YtgcmbiegbclhmaaDoorTreeLawKit
import Derived.Lib.SmallJoins
import Derived.Test.YtgcmbiegbclhmaaDoorCards
import Derived.Test.YtgcmbiegbclhmaaDoorTie
namespace Go.Proofs.YtgcmbiegbclhmaaDoor.treeLeafSpec
open Go.ChangeShapes Go.WideShapes Go.ChangeAt Go.RowKit SzSha SzTree
set_option linter.unusedVariables false
set_option maxRecDepth 100000
def wLS (r : Nd) (e0 : Int) (X : Array Value) (k : Int) (z : Int) (s : List Nat) : Nat → Value → World → Prop
  | 0, fv, _ => fv = ndV r
  | 1, fv, _ => fv = ndV r
  | 2, fv, _ => fv = Value.bool true
  | 3, fv, _ => fv = Value.bool true
  | 4, fv, _ => fv = Value.int .i64 (e0)
  | 5, fv, _ => fv = Value.int .i64 (e0)
  | 6, fv, _ => fv = Value.bool true
  | 7, fv, _ => fv = Value.bool true
  | 8, fv, _ => fv = Value.bool true
  | 9, fv, _ => fv = Value.agg X
  | 10, fv, _ => fv = Value.int .i64 (k)
  | 11, fv, _ => fv = Value.int .i64 (z)
  | 12, fv, _ => fv = dgV s
  | 13, fv, _ => fv = Value.agg X
  | 14, fv, _ => fv = Value.int .i64 (k)
  | 15, fv, _ => fv = Value.int .i64 (z)
  | 16, fv, _ => fv = dgV s
  | 17, fv, _ => fv = Value.bool true
  | 18, fv, _ => fv = Value.bool true
  | 19, fv, _ => fv = Value.bool true
  | _, _, _ => True
theorem wLS_below {r : Nd} {e0 : Int} {X : Array Value} {k : Int} {z : Int} {s : List Nat} {w w' : World} (hb : Below w.heap.size w w') : ∀ j v, wLS r e0 X k z s j v w → wLS r e0 X k z s j v w'
  | 0, v, h => h
  | 1, v, h => h
  | 2, v, h => h
  | 3, v, h => h
  | 4, v, h => h
  | 5, v, h => h
  | 6, v, h => h
  | 7, v, h => h
  | 8, v, h => h
  | 9, v, h => h
  | 10, v, h => h
  | 11, v, h => h
  | 12, v, h => h
  | 13, v, h => h
  | 14, v, h => h
  | 15, v, h => h
  | 16, v, h => h
  | 17, v, h => h
  | 18, v, h => h
  | 19, v, h => h
  | n + 20, v, h => trivial
set_option maxHeartbeats 8000000 in
theorem walk1 (c0 c1 c2 c3 c4 : Int) (p : List Nat) (k z : Int) (w : World) (hp : Hid (p.length = 32)) (hb : Hid (Bytes p)) (hk1 : -9223372036854775808 ≤ k) (hk2 : k ≤ 9223372036854775807) (hz1 : -9223372036854775808 ≤ z) (hz2 : z ≤ 9223372036854775807) (hT : Hid (Tabs w)) :
    Calls Tryd.prog 8 #[.agg #[.int .i64 c0, .int .i64 c1, .int .i64 c2, .int .i64 c3, .int .i64 c4], dgV p, .int .i64 k, .int .i64 z] w fun e w' => e = .returned (.bool true) ∧ Below w.heap.size w w' := by
  obtain ⟨r, HRR⟩ : ∃ r, Hid (leafR c0 c1 c2 c3 c4 p = r) := ⟨_, Lib.hid rfl⟩
  obtain ⟨e0, HE0⟩ : ∃ e, Hid (leafE c0 c1 c2 c3 c4 = e) := ⟨_, Lib.hid rfl⟩
  obtain ⟨s, HSS⟩ : ∃ s, Hid (saltN p k z = s) := ⟨_, Lib.hid rfl⟩
  have HSL : Hid (s.length = 32 ∧ Bytes s) := Lib.hid (by rw [← HSS.out]; exact ⟨tagged_length _ _, tagged_bytes _ _⟩)
  have HRO : Hid (NdOk r) := Lib.hid (by rw [← HRR.out]; exact leafR_ok _ _ _ _ _ _)
  have HS1 : Hid ((Tryd.prog.info? 26).map (·.size) = some (ndC r).toArray.size) := Lib.hid (by rw [size34 HRO.out]; simp)
  have HS2 : Hid (34 = (ndC r).toArray.size) := Lib.hid (by simp [ndC_length HRO.out])
  obtain ⟨X, HX⟩ : ∃ X, Hid ((p.map fun x => Value.int .u8 (x : Nat)).toArray = X) := ⟨_, Lib.hid rfl⟩
  have HXS : Hid ((Tryd.prog.info? 24).map (·.size) = some X.size) := Lib.hid (by rw [← HX.out]; exact size32 _ hp.out)
  have HPX : Hid (dgV p = .agg X) := Lib.hid (by unfold dgV; rw [HX.out])
  rw [HPX.out]
  have hb0 := ((Below.refl _ w).alloc (Nat.le_refl _) (.cells #[.int .i64 c0, .int .i64 c1, .int .i64 c2, .int .i64 c3, .int .i64 c4] 49)).alloc (by simp) (.cells X 24)
  have hr0 := (Below.heap_alloc (w.alloc (.cells #[.int .i64 c0, .int .i64 c1, .int .i64 c2, .int .i64 c3, .int .i64 c4] 49)) (.cells X 24) w.heap.size (by simp)).trans (heap_alloc_new w (.cells #[.int .i64 c0, .int .i64 c1, .int .i64 c2, .int .i64 c3, .int .i64 c4] 49))
  have hr1 := heap_alloc_new (w.alloc (.cells #[.int .i64 c0, .int .i64 c1, .int .i64 c2, .int .i64 c3, .int .i64 c4] 49)) (.cells X 24)
  rw [World.size_alloc] at hr1
  have HB0 := Lib.hid hb0
  have RL0 := Lib.hid hr0
  have RX0 := Lib.hid hr1
  clear hb0 hr0 hr1
  go_enter Tryd.func8, Tryd.ntmps8
  go_wp2_with fail
  refine (sane_any _ (Lib.hid (hT.out.below HB0.out))).mono ?_
  rintro e U1 ⟨rfl, hq⟩
  have HB1 := Lib.hid (HB0.out.trans (hq.mono HB0.out.size))
  have RL1 := Lib.hid (row_kept RL0.out hq)
  have RX1 := Lib.hid (row_kept RX0.out hq)
  clear hq HB0 RL0 RX0
  go_wp2_with (first | (refine wpList_load_row rfl 49 (.tmp 4) rfl w.heap.size rfl 49 _ (0, 0) _ RL1.out Tryd.underlying49 rfl (by kernel_rfl) ?_) | (refine wpList_load_row rfl 24 (.tmp 5) rfl (w.heap.size + 1) rfl 24 _ (0, 0) _ RX1.out Tryd.underlying24 rfl HXS.out ?_))
  rw [← HPX.out]
  refine (leaf_any c0 c1 c2 c3 c4 p _ hp hb (Lib.hid (hT.out.below HB1.out))).mono ?_
  rintro e U2 ⟨rfl, hq⟩
  rw [HRR.out, HE0.out, HPX.out]
  have HB2 := Lib.hid (HB1.out.trans (hq.mono HB1.out.size))
  have RL2 := Lib.hid (row_kept RL1.out hq)
  have RX2 := Lib.hid (row_kept RX1.out hq)
  clear hq HB1 RL1 RX1
  obtain ⟨V3, HV3⟩ : ∃ V, Hid ((U2.alloc (.cells (ndC zeroN).toArray 26)).setRow U2.heap.size (ndC r).toArray = V) := ⟨_, Lib.hid rfl⟩
  have hlr := laid_row U2 (ndC zeroN).toArray (ndC r).toArray 26
  rw [HV3.out] at hlr
  have HZ3 := Lib.hid (heap_alloc_new U2 (.cells (ndC zeroN).toArray 26))
  rw [zeroN_cells] at HZ3 HV3
  have HB3 := Lib.hid (HB2.out.trans (hlr.1.mono HB2.out.size))
  have RX3 := Lib.hid (row_kept RX2.out hlr.1)
  have RL3 := Lib.hid (row_kept RL2.out hlr.1)
  have RN3 := Lib.hid hlr.2.2
  clear hlr
  go_wp2_with (first | (refine wpList_store_row rfl 26 (.tmp 9) (.tmp 19) rfl U2.heap.size (ndC r).toArray rfl rfl 26 _ HZ3.out HS1.out HS2.out (ndC_one r) ?_; rw [HV3.out]) | (refine wpList_load_row rfl 49 (.tmp 4) rfl w.heap.size rfl 49 _ (0, 0) _ RL3.out Tryd.underlying49 rfl (by kernel_rfl) ?_) | (refine wpList_load_row rfl 24 (.tmp 5) rfl (w.heap.size + 1) rfl 24 _ (0, 0) _ RX3.out Tryd.underlying24 rfl HXS.out ?_))
  rw [← HPX.out]
  refine (rleaf_any c0 c1 c2 c3 c4 p _ hp hb).mono ?_
  rintro e U3 ⟨rfl, hq⟩
  rw [HRR.out, HE0.out, HPX.out]
  have HB4 := Lib.hid (HB3.out.trans (hq.mono HB3.out.size))
  have RL4 := Lib.hid (row_kept RL3.out hq)
  have RX4 := Lib.hid (row_kept RX3.out hq)
  have RA4 := Lib.hid (row_kept RN3.out hq)
  clear hq HB2 RL2 RX2 HB3 RL3 RX3 RN3
  obtain ⟨V5, HV5⟩ : ∃ V, Hid ((U3.alloc (.cells (ndC zeroN).toArray 26)).setRow U3.heap.size (ndC r).toArray = V) := ⟨_, Lib.hid rfl⟩
  have hlr := laid_row U3 (ndC zeroN).toArray (ndC r).toArray 26
  rw [HV5.out] at hlr
  have HZ5 := Lib.hid (heap_alloc_new U3 (.cells (ndC zeroN).toArray 26))
  rw [zeroN_cells] at HZ5 HV5
  have HB5 := Lib.hid (HB4.out.trans (hlr.1.mono HB4.out.size))
  have RX5 := Lib.hid (row_kept RX4.out hlr.1)
  have RL5 := Lib.hid (row_kept RL4.out hlr.1)
  have RN5 := Lib.hid hlr.2.2
  have RA5 := Lib.hid (row_kept RA4.out hlr.1)
  clear hlr
  go_wp2_with (refine wpList_store_row rfl 26 (.tmp 11) (.tmp 25) rfl U3.heap.size (ndC r).toArray rfl rfl 26 _ HZ5.out HS1.out HS2.out (ndC_one r) ?_; rw [HV5.out])
  clear HB4 RL4 RX4 RA4
  refine region_flow3 (by kernel_rfl) (by kernel_rfl) (fun i => Nat.beq i 19) (fun i => i) (by kernel_rfl) (fun fx => #[Value.agg #[Value.int IntKind.i64 c0, Value.int IntKind.i64 c1, Value.int IntKind.i64 c2, Value.int IntKind.i64 c3, Value.int IntKind.i64 c4], Value.agg X, Value.int IntKind.i64 k, Value.int IntKind.i64 z, Value.pointer (some { block := w.heap.size, off := 0 }), Value.pointer (some { block := w.heap.size + 1, off := 0 }), undef, undef, fx 19, Value.pointer (some { block := U2.heap.size, off := 0 }), Value.int IntKind.i64 e0, Value.pointer (some { block := U3.heap.size, off := 0 }), Value.int IntKind.i64 e0, Value.bool true, Value.bool false, Value.tuple #[ndV r, Value.int IntKind.i64 e0], Value.agg #[Value.int IntKind.i64 c0, Value.int IntKind.i64 c1, Value.int IntKind.i64 c2, Value.int IntKind.i64 c3, Value.int IntKind.i64 c4], Value.agg X, Value.tuple #[ndV r, Value.int IntKind.i64 e0], ndV r, Value.int IntKind.i64 e0, Value.tuple #[ndV r, Value.int IntKind.i64 e0], Value.agg #[Value.int IntKind.i64 c0, Value.int IntKind.i64 c1, Value.int IntKind.i64 c2, Value.int IntKind.i64 c3, Value.int IntKind.i64 c4], Value.agg X, Value.tuple #[ndV r, Value.int IntKind.i64 e0], ndV r, Value.int IntKind.i64 e0, fx 0, fx 1, fx 2, fx 3, fx 4, fx 5, fx 6, fx 7, fx 8, fx 9, fx 10, fx 11, fx 12, fx 13, fx 14, fx 15, fx 16, fx 17, fx 18]) (fun i => bif Nat.beq i 19 then Value.bool false else undef) (fun L fx w' => Below V5.heap.size V5 w') (fun fi fv _ fw => wLS r e0 X k z s fi fv fw) (Below.refl _ _).drew ?_ ?_
  · refine ⟨?_, ?_, ?_, ?_, ?_, ?_, ?_, ?_, ?_, ?_, ?_, ?_, ?_, ?_, ?_, ?_, ?_, ?_, ?_, ?_, trivial⟩
    all_goals intro L fx w' hC hi hcl hdn hd
    · have hrow := row_kept RA5.out hC
      refine wpList_load_row rfl 26 (.tmp 9) rfl U2.heap.size rfl 26 _ (0, 0) _ hrow Tryd.underlying26 rfl HS1.out ?_
      clear hd
      go_wp2_with fail
      exact ⟨_, rfl, hC, rfl, fun _ _ _ _ _ h => h⟩
    · have hrow := row_kept RN5.out hC
      refine wpList_load_row rfl 26 (.tmp 11) rfl U3.heap.size rfl 26 _ (0, 0) _ hrow Tryd.underlying26 rfl HS1.out ?_
      clear hd
      go_wp2_with fail
      exact ⟨_, rfl, hC, rfl, fun _ _ _ _ _ h => h⟩
    · have h0 : fx 0 = ndV r := hd.1 rfl
      have h1 : fx 1 = ndV r := hd.2.1 rfl
      refine wpList_eql_nd rfl (.tmp 27) (.tmp 28) _ rfl r r h0 h1 HRO.out HRO.out ?_
      rw [ndEq_refl]
      clear hd
      go_wp2_with fail
      exact ⟨_, by show _ = Act.mk #[Value.agg #[Value.int IntKind.i64 c0, Value.int IntKind.i64 c1, Value.int IntKind.i64 c2, Value.int IntKind.i64 c3, Value.int IntKind.i64 c4], Value.agg X, Value.int IntKind.i64 k, Value.int IntKind.i64 z, Value.pointer (some { block := w.heap.size, off := 0 }), Value.pointer (some { block := w.heap.size + 1, off := 0 }), undef, undef, fx 19, Value.pointer (some { block := U2.heap.size, off := 0 }), Value.int IntKind.i64 e0, Value.pointer (some { block := U3.heap.size, off := 0 }), Value.int IntKind.i64 e0, Value.bool true, Value.bool false, Value.tuple #[ndV r, Value.int IntKind.i64 e0], Value.agg #[Value.int IntKind.i64 c0, Value.int IntKind.i64 c1, Value.int IntKind.i64 c2, Value.int IntKind.i64 c3, Value.int IntKind.i64 c4], Value.agg X, Value.tuple #[ndV r, Value.int IntKind.i64 e0], ndV r, Value.int IntKind.i64 e0, Value.tuple #[ndV r, Value.int IntKind.i64 e0], Value.agg #[Value.int IntKind.i64 c0, Value.int IntKind.i64 c1, Value.int IntKind.i64 c2, Value.int IntKind.i64 c3, Value.int IntKind.i64 c4], Value.agg X, Value.tuple #[ndV r, Value.int IntKind.i64 e0], ndV r, Value.int IntKind.i64 e0, fx 0, fx 1, Value.bool true, fx 3, fx 4, fx 5, fx 6, fx 7, fx 8, fx 9, fx 10, fx 11, fx 12, fx 13, fx 14, fx 15, fx 16, fx 17, fx 18] []; rw [h0, h1] <;> rfl, hC, rfl, fun _ _ _ _ _ h => h⟩
    · have h2 : fx 2 = Value.bool true := hd.1 rfl
      go_wp2_with fail
      exact ⟨_, by show _ = Act.mk #[Value.agg #[Value.int IntKind.i64 c0, Value.int IntKind.i64 c1, Value.int IntKind.i64 c2, Value.int IntKind.i64 c3, Value.int IntKind.i64 c4], Value.agg X, Value.int IntKind.i64 k, Value.int IntKind.i64 z, Value.pointer (some { block := w.heap.size, off := 0 }), Value.pointer (some { block := w.heap.size + 1, off := 0 }), undef, undef, fx 19, Value.pointer (some { block := U2.heap.size, off := 0 }), Value.int IntKind.i64 e0, Value.pointer (some { block := U3.heap.size, off := 0 }), Value.int IntKind.i64 e0, Value.bool true, Value.bool false, Value.tuple #[ndV r, Value.int IntKind.i64 e0], Value.agg #[Value.int IntKind.i64 c0, Value.int IntKind.i64 c1, Value.int IntKind.i64 c2, Value.int IntKind.i64 c3, Value.int IntKind.i64 c4], Value.agg X, Value.tuple #[ndV r, Value.int IntKind.i64 e0], ndV r, Value.int IntKind.i64 e0, Value.tuple #[ndV r, Value.int IntKind.i64 e0], Value.agg #[Value.int IntKind.i64 c0, Value.int IntKind.i64 c1, Value.int IntKind.i64 c2, Value.int IntKind.i64 c3, Value.int IntKind.i64 c4], Value.agg X, Value.tuple #[ndV r, Value.int IntKind.i64 e0], ndV r, Value.int IntKind.i64 e0, fx 0, fx 1, fx 2, Value.bool true, fx 4, fx 5, fx 6, fx 7, fx 8, fx 9, fx 10, fx 11, fx 12, fx 13, fx 14, fx 15, fx 16, fx 17, fx 18] []; rw [h2] <;> rfl, hC, rfl, fun _ _ _ _ _ h => h⟩
    · have h3 : fx 3 = Value.bool true := hd.1 rfl
      go_wp2_with fail
      exact ⟨_, by show _ = Act.mk #[Value.agg #[Value.int IntKind.i64 c0, Value.int IntKind.i64 c1, Value.int IntKind.i64 c2, Value.int IntKind.i64 c3, Value.int IntKind.i64 c4], Value.agg X, Value.int IntKind.i64 k, Value.int IntKind.i64 z, Value.pointer (some { block := w.heap.size, off := 0 }), Value.pointer (some { block := w.heap.size + 1, off := 0 }), undef, undef, fx 19, Value.pointer (some { block := U2.heap.size, off := 0 }), Value.int IntKind.i64 e0, Value.pointer (some { block := U3.heap.size, off := 0 }), Value.int IntKind.i64 e0, Value.bool true, Value.bool false, Value.tuple #[ndV r, Value.int IntKind.i64 e0], Value.agg #[Value.int IntKind.i64 c0, Value.int IntKind.i64 c1, Value.int IntKind.i64 c2, Value.int IntKind.i64 c3, Value.int IntKind.i64 c4], Value.agg X, Value.tuple #[ndV r, Value.int IntKind.i64 e0], ndV r, Value.int IntKind.i64 e0, Value.tuple #[ndV r, Value.int IntKind.i64 e0], Value.agg #[Value.int IntKind.i64 c0, Value.int IntKind.i64 c1, Value.int IntKind.i64 c2, Value.int IntKind.i64 c3, Value.int IntKind.i64 c4], Value.agg X, Value.tuple #[ndV r, Value.int IntKind.i64 e0], ndV r, Value.int IntKind.i64 e0, fx 0, fx 1, fx 2, fx 3, Value.int .i64 (e0), fx 5, fx 6, fx 7, fx 8, fx 9, fx 10, fx 11, fx 12, fx 13, fx 14, fx 15, fx 16, fx 17, fx 18] []; rw [h3] <;> rfl, hC, rfl, fun _ _ _ _ _ h => h⟩
    · have h3 : fx 3 = Value.bool true := hd.1 rfl
      go_wp2_with fail
      exact ⟨_, by show _ = Act.mk #[Value.agg #[Value.int IntKind.i64 c0, Value.int IntKind.i64 c1, Value.int IntKind.i64 c2, Value.int IntKind.i64 c3, Value.int IntKind.i64 c4], Value.agg X, Value.int IntKind.i64 k, Value.int IntKind.i64 z, Value.pointer (some { block := w.heap.size, off := 0 }), Value.pointer (some { block := w.heap.size + 1, off := 0 }), undef, undef, fx 19, Value.pointer (some { block := U2.heap.size, off := 0 }), Value.int IntKind.i64 e0, Value.pointer (some { block := U3.heap.size, off := 0 }), Value.int IntKind.i64 e0, Value.bool true, Value.bool false, Value.tuple #[ndV r, Value.int IntKind.i64 e0], Value.agg #[Value.int IntKind.i64 c0, Value.int IntKind.i64 c1, Value.int IntKind.i64 c2, Value.int IntKind.i64 c3, Value.int IntKind.i64 c4], Value.agg X, Value.tuple #[ndV r, Value.int IntKind.i64 e0], ndV r, Value.int IntKind.i64 e0, Value.tuple #[ndV r, Value.int IntKind.i64 e0], Value.agg #[Value.int IntKind.i64 c0, Value.int IntKind.i64 c1, Value.int IntKind.i64 c2, Value.int IntKind.i64 c3, Value.int IntKind.i64 c4], Value.agg X, Value.tuple #[ndV r, Value.int IntKind.i64 e0], ndV r, Value.int IntKind.i64 e0, fx 0, fx 1, fx 2, fx 3, fx 4, Value.int .i64 (e0), fx 6, fx 7, fx 8, fx 9, fx 10, fx 11, fx 12, fx 13, fx 14, fx 15, fx 16, fx 17, fx 18] []; rw [h3] <;> rfl, hC, rfl, fun _ _ _ _ _ h => h⟩
    · have h4 : fx 4 = Value.int .i64 (e0) := hd.1 rfl
      have h5 : fx 5 = Value.int .i64 (e0) := hd.2.1 rfl
      have h3 : fx 3 = Value.bool true := hd.2.2.1 rfl
      have de : (e0 == e0) = true := beq_self_eq_true e0
      go_wp2_with fail
      exact ⟨_, by show _ = Act.mk #[Value.agg #[Value.int IntKind.i64 c0, Value.int IntKind.i64 c1, Value.int IntKind.i64 c2, Value.int IntKind.i64 c3, Value.int IntKind.i64 c4], Value.agg X, Value.int IntKind.i64 k, Value.int IntKind.i64 z, Value.pointer (some { block := w.heap.size, off := 0 }), Value.pointer (some { block := w.heap.size + 1, off := 0 }), undef, undef, fx 19, Value.pointer (some { block := U2.heap.size, off := 0 }), Value.int IntKind.i64 e0, Value.pointer (some { block := U3.heap.size, off := 0 }), Value.int IntKind.i64 e0, Value.bool true, Value.bool false, Value.tuple #[ndV r, Value.int IntKind.i64 e0], Value.agg #[Value.int IntKind.i64 c0, Value.int IntKind.i64 c1, Value.int IntKind.i64 c2, Value.int IntKind.i64 c3, Value.int IntKind.i64 c4], Value.agg X, Value.tuple #[ndV r, Value.int IntKind.i64 e0], ndV r, Value.int IntKind.i64 e0, Value.tuple #[ndV r, Value.int IntKind.i64 e0], Value.agg #[Value.int IntKind.i64 c0, Value.int IntKind.i64 c1, Value.int IntKind.i64 c2, Value.int IntKind.i64 c3, Value.int IntKind.i64 c4], Value.agg X, Value.tuple #[ndV r, Value.int IntKind.i64 e0], ndV r, Value.int IntKind.i64 e0, fx 0, fx 1, fx 2, fx 3, fx 4, fx 5, Value.bool true, fx 7, fx 8, fx 9, fx 10, fx 11, fx 12, fx 13, fx 14, fx 15, fx 16, fx 17, fx 18] []; rw [h4, h5, h3] <;> rfl, hC, rfl, fun _ _ _ _ _ h => h⟩
    · have h3 : fx 3 = Value.bool true := hd.1 rfl
      have h6 : fx 6 = Value.bool true := hd.2.1 rfl
      go_wp2_with fail
      exact ⟨_, by show _ = Act.mk #[Value.agg #[Value.int IntKind.i64 c0, Value.int IntKind.i64 c1, Value.int IntKind.i64 c2, Value.int IntKind.i64 c3, Value.int IntKind.i64 c4], Value.agg X, Value.int IntKind.i64 k, Value.int IntKind.i64 z, Value.pointer (some { block := w.heap.size, off := 0 }), Value.pointer (some { block := w.heap.size + 1, off := 0 }), undef, undef, fx 19, Value.pointer (some { block := U2.heap.size, off := 0 }), Value.int IntKind.i64 e0, Value.pointer (some { block := U3.heap.size, off := 0 }), Value.int IntKind.i64 e0, Value.bool true, Value.bool false, Value.tuple #[ndV r, Value.int IntKind.i64 e0], Value.agg #[Value.int IntKind.i64 c0, Value.int IntKind.i64 c1, Value.int IntKind.i64 c2, Value.int IntKind.i64 c3, Value.int IntKind.i64 c4], Value.agg X, Value.tuple #[ndV r, Value.int IntKind.i64 e0], ndV r, Value.int IntKind.i64 e0, Value.tuple #[ndV r, Value.int IntKind.i64 e0], Value.agg #[Value.int IntKind.i64 c0, Value.int IntKind.i64 c1, Value.int IntKind.i64 c2, Value.int IntKind.i64 c3, Value.int IntKind.i64 c4], Value.agg X, Value.tuple #[ndV r, Value.int IntKind.i64 e0], ndV r, Value.int IntKind.i64 e0, fx 0, fx 1, fx 2, fx 3, fx 4, fx 5, fx 6, Value.bool true, fx 8, fx 9, fx 10, fx 11, fx 12, fx 13, fx 14, fx 15, fx 16, fx 17, fx 18] []; rw [h3, h6] <;> rfl, hC, rfl, fun _ _ _ _ _ h => h⟩
    · have h7 : fx 7 = Value.bool true := hd.1 rfl
      go_wp2_with fail
      exact ⟨_, by show _ = Act.mk #[Value.agg #[Value.int IntKind.i64 c0, Value.int IntKind.i64 c1, Value.int IntKind.i64 c2, Value.int IntKind.i64 c3, Value.int IntKind.i64 c4], Value.agg X, Value.int IntKind.i64 k, Value.int IntKind.i64 z, Value.pointer (some { block := w.heap.size, off := 0 }), Value.pointer (some { block := w.heap.size + 1, off := 0 }), undef, undef, fx 19, Value.pointer (some { block := U2.heap.size, off := 0 }), Value.int IntKind.i64 e0, Value.pointer (some { block := U3.heap.size, off := 0 }), Value.int IntKind.i64 e0, Value.bool true, Value.bool false, Value.tuple #[ndV r, Value.int IntKind.i64 e0], Value.agg #[Value.int IntKind.i64 c0, Value.int IntKind.i64 c1, Value.int IntKind.i64 c2, Value.int IntKind.i64 c3, Value.int IntKind.i64 c4], Value.agg X, Value.tuple #[ndV r, Value.int IntKind.i64 e0], ndV r, Value.int IntKind.i64 e0, Value.tuple #[ndV r, Value.int IntKind.i64 e0], Value.agg #[Value.int IntKind.i64 c0, Value.int IntKind.i64 c1, Value.int IntKind.i64 c2, Value.int IntKind.i64 c3, Value.int IntKind.i64 c4], Value.agg X, Value.tuple #[ndV r, Value.int IntKind.i64 e0], ndV r, Value.int IntKind.i64 e0, fx 0, fx 1, fx 2, fx 3, fx 4, fx 5, fx 6, fx 7, Value.bool true, fx 9, fx 10, fx 11, fx 12, fx 13, fx 14, fx 15, fx 16, fx 17, fx 18] []; rw [h7] <;> rfl, hC, rfl, fun _ _ _ _ _ h => h⟩
    · have h8 : fx 8 = Value.bool true := hd.1 rfl
      have hrow := row_kept RX5.out hC
      dsimp only
      rw [h8]
      refine wpList_unguard rfl ?_
      refine wpList_load_row rfl 24 (.tmp 5) rfl (w.heap.size + 1) rfl 24 _ (0, 0) _ hrow Tryd.underlying24 rfl HXS.out ?_
      clear hd
      go_wp2_with fail
      exact ⟨_, by show _ = Act.mk #[Value.agg #[Value.int IntKind.i64 c0, Value.int IntKind.i64 c1, Value.int IntKind.i64 c2, Value.int IntKind.i64 c3, Value.int IntKind.i64 c4], Value.agg X, Value.int IntKind.i64 k, Value.int IntKind.i64 z, Value.pointer (some { block := w.heap.size, off := 0 }), Value.pointer (some { block := w.heap.size + 1, off := 0 }), undef, undef, fx 19, Value.pointer (some { block := U2.heap.size, off := 0 }), Value.int IntKind.i64 e0, Value.pointer (some { block := U3.heap.size, off := 0 }), Value.int IntKind.i64 e0, Value.bool true, Value.bool false, Value.tuple #[ndV r, Value.int IntKind.i64 e0], Value.agg #[Value.int IntKind.i64 c0, Value.int IntKind.i64 c1, Value.int IntKind.i64 c2, Value.int IntKind.i64 c3, Value.int IntKind.i64 c4], Value.agg X, Value.tuple #[ndV r, Value.int IntKind.i64 e0], ndV r, Value.int IntKind.i64 e0, Value.tuple #[ndV r, Value.int IntKind.i64 e0], Value.agg #[Value.int IntKind.i64 c0, Value.int IntKind.i64 c1, Value.int IntKind.i64 c2, Value.int IntKind.i64 c3, Value.int IntKind.i64 c4], Value.agg X, Value.tuple #[ndV r, Value.int IntKind.i64 e0], ndV r, Value.int IntKind.i64 e0, fx 0, fx 1, fx 2, fx 3, fx 4, fx 5, fx 6, fx 7, fx 8, Value.agg X, fx 10, fx 11, fx 12, fx 13, fx 14, fx 15, fx 16, fx 17, fx 18] []; rw [h8] <;> rfl, hC, rfl, fun _ _ _ _ _ h => h⟩
    · have h8 : fx 8 = Value.bool true := hd.1 rfl
      go_wp2_with fail
      exact ⟨_, by show _ = Act.mk #[Value.agg #[Value.int IntKind.i64 c0, Value.int IntKind.i64 c1, Value.int IntKind.i64 c2, Value.int IntKind.i64 c3, Value.int IntKind.i64 c4], Value.agg X, Value.int IntKind.i64 k, Value.int IntKind.i64 z, Value.pointer (some { block := w.heap.size, off := 0 }), Value.pointer (some { block := w.heap.size + 1, off := 0 }), undef, undef, fx 19, Value.pointer (some { block := U2.heap.size, off := 0 }), Value.int IntKind.i64 e0, Value.pointer (some { block := U3.heap.size, off := 0 }), Value.int IntKind.i64 e0, Value.bool true, Value.bool false, Value.tuple #[ndV r, Value.int IntKind.i64 e0], Value.agg #[Value.int IntKind.i64 c0, Value.int IntKind.i64 c1, Value.int IntKind.i64 c2, Value.int IntKind.i64 c3, Value.int IntKind.i64 c4], Value.agg X, Value.tuple #[ndV r, Value.int IntKind.i64 e0], ndV r, Value.int IntKind.i64 e0, Value.tuple #[ndV r, Value.int IntKind.i64 e0], Value.agg #[Value.int IntKind.i64 c0, Value.int IntKind.i64 c1, Value.int IntKind.i64 c2, Value.int IntKind.i64 c3, Value.int IntKind.i64 c4], Value.agg X, Value.tuple #[ndV r, Value.int IntKind.i64 e0], ndV r, Value.int IntKind.i64 e0, fx 0, fx 1, fx 2, fx 3, fx 4, fx 5, fx 6, fx 7, fx 8, fx 9, Value.int .i64 (k), fx 11, fx 12, fx 13, fx 14, fx 15, fx 16, fx 17, fx 18] []; rw [h8] <;> rfl, hC, rfl, fun _ _ _ _ _ h => h⟩
    · have h8 : fx 8 = Value.bool true := hd.1 rfl
      go_wp2_with fail
      exact ⟨_, by show _ = Act.mk #[Value.agg #[Value.int IntKind.i64 c0, Value.int IntKind.i64 c1, Value.int IntKind.i64 c2, Value.int IntKind.i64 c3, Value.int IntKind.i64 c4], Value.agg X, Value.int IntKind.i64 k, Value.int IntKind.i64 z, Value.pointer (some { block := w.heap.size, off := 0 }), Value.pointer (some { block := w.heap.size + 1, off := 0 }), undef, undef, fx 19, Value.pointer (some { block := U2.heap.size, off := 0 }), Value.int IntKind.i64 e0, Value.pointer (some { block := U3.heap.size, off := 0 }), Value.int IntKind.i64 e0, Value.bool true, Value.bool false, Value.tuple #[ndV r, Value.int IntKind.i64 e0], Value.agg #[Value.int IntKind.i64 c0, Value.int IntKind.i64 c1, Value.int IntKind.i64 c2, Value.int IntKind.i64 c3, Value.int IntKind.i64 c4], Value.agg X, Value.tuple #[ndV r, Value.int IntKind.i64 e0], ndV r, Value.int IntKind.i64 e0, Value.tuple #[ndV r, Value.int IntKind.i64 e0], Value.agg #[Value.int IntKind.i64 c0, Value.int IntKind.i64 c1, Value.int IntKind.i64 c2, Value.int IntKind.i64 c3, Value.int IntKind.i64 c4], Value.agg X, Value.tuple #[ndV r, Value.int IntKind.i64 e0], ndV r, Value.int IntKind.i64 e0, fx 0, fx 1, fx 2, fx 3, fx 4, fx 5, fx 6, fx 7, fx 8, fx 9, fx 10, Value.int .i64 (z), fx 12, fx 13, fx 14, fx 15, fx 16, fx 17, fx 18] []; rw [h8] <;> rfl, hC, rfl, fun _ _ _ _ _ h => h⟩
    · have h9 : fx 9 = Value.agg X := hd.1 rfl
      have h10 : fx 10 = Value.int .i64 (k) := hd.2.1 rfl
      have h11 : fx 11 = Value.int .i64 (z) := hd.2.2.1 rfl
      have h8 : fx 8 = Value.bool true := hd.2.2.2.2.1 rfl
      have HTk := Lib.hid (hT.out.below (HB5.out.trans (hC.mono HB5.out.size)))
      go_wp2_with fail
      rw [← HPX.out]
      refine (salt_any p k z w' hp hb hk1 hk2 hz1 hz2 HTk).mono ?_
      rintro e w2 ⟨rfl, hq⟩
      rw [HSS.out, HPX.out]
      go_wp2_with fail
      exact ⟨_, by show _ = Act.mk #[Value.agg #[Value.int IntKind.i64 c0, Value.int IntKind.i64 c1, Value.int IntKind.i64 c2, Value.int IntKind.i64 c3, Value.int IntKind.i64 c4], Value.agg X, Value.int IntKind.i64 k, Value.int IntKind.i64 z, Value.pointer (some { block := w.heap.size, off := 0 }), Value.pointer (some { block := w.heap.size + 1, off := 0 }), undef, undef, fx 19, Value.pointer (some { block := U2.heap.size, off := 0 }), Value.int IntKind.i64 e0, Value.pointer (some { block := U3.heap.size, off := 0 }), Value.int IntKind.i64 e0, Value.bool true, Value.bool false, Value.tuple #[ndV r, Value.int IntKind.i64 e0], Value.agg #[Value.int IntKind.i64 c0, Value.int IntKind.i64 c1, Value.int IntKind.i64 c2, Value.int IntKind.i64 c3, Value.int IntKind.i64 c4], Value.agg X, Value.tuple #[ndV r, Value.int IntKind.i64 e0], ndV r, Value.int IntKind.i64 e0, Value.tuple #[ndV r, Value.int IntKind.i64 e0], Value.agg #[Value.int IntKind.i64 c0, Value.int IntKind.i64 c1, Value.int IntKind.i64 c2, Value.int IntKind.i64 c3, Value.int IntKind.i64 c4], Value.agg X, Value.tuple #[ndV r, Value.int IntKind.i64 e0], ndV r, Value.int IntKind.i64 e0, fx 0, fx 1, fx 2, fx 3, fx 4, fx 5, fx 6, fx 7, fx 8, fx 9, fx 10, fx 11, dgV s, fx 13, fx 14, fx 15, fx 16, fx 17, fx 18] []; rw [h9, h10, h11, h8] <;> rfl, hC.trans (hq.mono hC.size), rfl, fun j v t _ _ h => wLS_below hq j v h⟩
    · have h8 : fx 8 = Value.bool true := hd.1 rfl
      have hrow := row_kept RX5.out hC
      dsimp only
      rw [h8]
      refine wpList_unguard rfl ?_
      refine wpList_load_row rfl 24 (.tmp 5) rfl (w.heap.size + 1) rfl 24 _ (0, 0) _ hrow Tryd.underlying24 rfl HXS.out ?_
      clear hd
      go_wp2_with fail
      exact ⟨_, by show _ = Act.mk #[Value.agg #[Value.int IntKind.i64 c0, Value.int IntKind.i64 c1, Value.int IntKind.i64 c2, Value.int IntKind.i64 c3, Value.int IntKind.i64 c4], Value.agg X, Value.int IntKind.i64 k, Value.int IntKind.i64 z, Value.pointer (some { block := w.heap.size, off := 0 }), Value.pointer (some { block := w.heap.size + 1, off := 0 }), undef, undef, fx 19, Value.pointer (some { block := U2.heap.size, off := 0 }), Value.int IntKind.i64 e0, Value.pointer (some { block := U3.heap.size, off := 0 }), Value.int IntKind.i64 e0, Value.bool true, Value.bool false, Value.tuple #[ndV r, Value.int IntKind.i64 e0], Value.agg #[Value.int IntKind.i64 c0, Value.int IntKind.i64 c1, Value.int IntKind.i64 c2, Value.int IntKind.i64 c3, Value.int IntKind.i64 c4], Value.agg X, Value.tuple #[ndV r, Value.int IntKind.i64 e0], ndV r, Value.int IntKind.i64 e0, Value.tuple #[ndV r, Value.int IntKind.i64 e0], Value.agg #[Value.int IntKind.i64 c0, Value.int IntKind.i64 c1, Value.int IntKind.i64 c2, Value.int IntKind.i64 c3, Value.int IntKind.i64 c4], Value.agg X, Value.tuple #[ndV r, Value.int IntKind.i64 e0], ndV r, Value.int IntKind.i64 e0, fx 0, fx 1, fx 2, fx 3, fx 4, fx 5, fx 6, fx 7, fx 8, fx 9, fx 10, fx 11, fx 12, Value.agg X, fx 14, fx 15, fx 16, fx 17, fx 18] []; rw [h8] <;> rfl, hC, rfl, fun _ _ _ _ _ h => h⟩
    · have h8 : fx 8 = Value.bool true := hd.1 rfl
      go_wp2_with fail
      exact ⟨_, by show _ = Act.mk #[Value.agg #[Value.int IntKind.i64 c0, Value.int IntKind.i64 c1, Value.int IntKind.i64 c2, Value.int IntKind.i64 c3, Value.int IntKind.i64 c4], Value.agg X, Value.int IntKind.i64 k, Value.int IntKind.i64 z, Value.pointer (some { block := w.heap.size, off := 0 }), Value.pointer (some { block := w.heap.size + 1, off := 0 }), undef, undef, fx 19, Value.pointer (some { block := U2.heap.size, off := 0 }), Value.int IntKind.i64 e0, Value.pointer (some { block := U3.heap.size, off := 0 }), Value.int IntKind.i64 e0, Value.bool true, Value.bool false, Value.tuple #[ndV r, Value.int IntKind.i64 e0], Value.agg #[Value.int IntKind.i64 c0, Value.int IntKind.i64 c1, Value.int IntKind.i64 c2, Value.int IntKind.i64 c3, Value.int IntKind.i64 c4], Value.agg X, Value.tuple #[ndV r, Value.int IntKind.i64 e0], ndV r, Value.int IntKind.i64 e0, Value.tuple #[ndV r, Value.int IntKind.i64 e0], Value.agg #[Value.int IntKind.i64 c0, Value.int IntKind.i64 c1, Value.int IntKind.i64 c2, Value.int IntKind.i64 c3, Value.int IntKind.i64 c4], Value.agg X, Value.tuple #[ndV r, Value.int IntKind.i64 e0], ndV r, Value.int IntKind.i64 e0, fx 0, fx 1, fx 2, fx 3, fx 4, fx 5, fx 6, fx 7, fx 8, fx 9, fx 10, fx 11, fx 12, fx 13, Value.int .i64 (k), fx 15, fx 16, fx 17, fx 18] []; rw [h8] <;> rfl, hC, rfl, fun _ _ _ _ _ h => h⟩
    · have h8 : fx 8 = Value.bool true := hd.1 rfl
      go_wp2_with fail
      exact ⟨_, by show _ = Act.mk #[Value.agg #[Value.int IntKind.i64 c0, Value.int IntKind.i64 c1, Value.int IntKind.i64 c2, Value.int IntKind.i64 c3, Value.int IntKind.i64 c4], Value.agg X, Value.int IntKind.i64 k, Value.int IntKind.i64 z, Value.pointer (some { block := w.heap.size, off := 0 }), Value.pointer (some { block := w.heap.size + 1, off := 0 }), undef, undef, fx 19, Value.pointer (some { block := U2.heap.size, off := 0 }), Value.int IntKind.i64 e0, Value.pointer (some { block := U3.heap.size, off := 0 }), Value.int IntKind.i64 e0, Value.bool true, Value.bool false, Value.tuple #[ndV r, Value.int IntKind.i64 e0], Value.agg #[Value.int IntKind.i64 c0, Value.int IntKind.i64 c1, Value.int IntKind.i64 c2, Value.int IntKind.i64 c3, Value.int IntKind.i64 c4], Value.agg X, Value.tuple #[ndV r, Value.int IntKind.i64 e0], ndV r, Value.int IntKind.i64 e0, Value.tuple #[ndV r, Value.int IntKind.i64 e0], Value.agg #[Value.int IntKind.i64 c0, Value.int IntKind.i64 c1, Value.int IntKind.i64 c2, Value.int IntKind.i64 c3, Value.int IntKind.i64 c4], Value.agg X, Value.tuple #[ndV r, Value.int IntKind.i64 e0], ndV r, Value.int IntKind.i64 e0, fx 0, fx 1, fx 2, fx 3, fx 4, fx 5, fx 6, fx 7, fx 8, fx 9, fx 10, fx 11, fx 12, fx 13, fx 14, Value.int .i64 (z), fx 16, fx 17, fx 18] []; rw [h8] <;> rfl, hC, rfl, fun _ _ _ _ _ h => h⟩
    · have h13 : fx 13 = Value.agg X := hd.1 rfl
      have h14 : fx 14 = Value.int .i64 (k) := hd.2.1 rfl
      have h15 : fx 15 = Value.int .i64 (z) := hd.2.2.1 rfl
      have h8 : fx 8 = Value.bool true := hd.2.2.2.2.1 rfl
      go_wp2_with fail
      rw [← HPX.out]
      refine (rsalt_any p k z w' hp hb hk1 hk2 hz1 hz2).mono ?_
      rintro e w2 ⟨rfl, hq⟩
      rw [HSS.out, HPX.out]
      go_wp2_with fail
      exact ⟨_, by show _ = Act.mk #[Value.agg #[Value.int IntKind.i64 c0, Value.int IntKind.i64 c1, Value.int IntKind.i64 c2, Value.int IntKind.i64 c3, Value.int IntKind.i64 c4], Value.agg X, Value.int IntKind.i64 k, Value.int IntKind.i64 z, Value.pointer (some { block := w.heap.size, off := 0 }), Value.pointer (some { block := w.heap.size + 1, off := 0 }), undef, undef, fx 19, Value.pointer (some { block := U2.heap.size, off := 0 }), Value.int IntKind.i64 e0, Value.pointer (some { block := U3.heap.size, off := 0 }), Value.int IntKind.i64 e0, Value.bool true, Value.bool false, Value.tuple #[ndV r, Value.int IntKind.i64 e0], Value.agg #[Value.int IntKind.i64 c0, Value.int IntKind.i64 c1, Value.int IntKind.i64 c2, Value.int IntKind.i64 c3, Value.int IntKind.i64 c4], Value.agg X, Value.tuple #[ndV r, Value.int IntKind.i64 e0], ndV r, Value.int IntKind.i64 e0, Value.tuple #[ndV r, Value.int IntKind.i64 e0], Value.agg #[Value.int IntKind.i64 c0, Value.int IntKind.i64 c1, Value.int IntKind.i64 c2, Value.int IntKind.i64 c3, Value.int IntKind.i64 c4], Value.agg X, Value.tuple #[ndV r, Value.int IntKind.i64 e0], ndV r, Value.int IntKind.i64 e0, fx 0, fx 1, fx 2, fx 3, fx 4, fx 5, fx 6, fx 7, fx 8, fx 9, fx 10, fx 11, fx 12, fx 13, fx 14, fx 15, dgV s, fx 17, fx 18] []; rw [h13, h14, h15, h8] <;> rfl, hC.trans (hq.mono hC.size), rfl, fun j v t _ _ h => wLS_below hq j v h⟩
    · have h12 : fx 12 = dgV s := hd.1 rfl
      have h16 : fx 16 = dgV s := hd.2.1 rfl
      have h8 : fx 8 = Value.bool true := hd.2.2.1 rfl
      dsimp only
      rw [h8]
      refine wpList_unguard rfl ?_
      refine wpList_eql_dg rfl (.tmp 39) (.tmp 43) _ rfl s s h12 h16 HSL.out.1 HSL.out.1 HSL.out.2 HSL.out.2 ?_
      rw [beq_self_eq_true]
      clear hd
      go_wp2_with fail
      exact ⟨_, by show _ = Act.mk #[Value.agg #[Value.int IntKind.i64 c0, Value.int IntKind.i64 c1, Value.int IntKind.i64 c2, Value.int IntKind.i64 c3, Value.int IntKind.i64 c4], Value.agg X, Value.int IntKind.i64 k, Value.int IntKind.i64 z, Value.pointer (some { block := w.heap.size, off := 0 }), Value.pointer (some { block := w.heap.size + 1, off := 0 }), undef, undef, fx 19, Value.pointer (some { block := U2.heap.size, off := 0 }), Value.int IntKind.i64 e0, Value.pointer (some { block := U3.heap.size, off := 0 }), Value.int IntKind.i64 e0, Value.bool true, Value.bool false, Value.tuple #[ndV r, Value.int IntKind.i64 e0], Value.agg #[Value.int IntKind.i64 c0, Value.int IntKind.i64 c1, Value.int IntKind.i64 c2, Value.int IntKind.i64 c3, Value.int IntKind.i64 c4], Value.agg X, Value.tuple #[ndV r, Value.int IntKind.i64 e0], ndV r, Value.int IntKind.i64 e0, Value.tuple #[ndV r, Value.int IntKind.i64 e0], Value.agg #[Value.int IntKind.i64 c0, Value.int IntKind.i64 c1, Value.int IntKind.i64 c2, Value.int IntKind.i64 c3, Value.int IntKind.i64 c4], Value.agg X, Value.tuple #[ndV r, Value.int IntKind.i64 e0], ndV r, Value.int IntKind.i64 e0, fx 0, fx 1, fx 2, fx 3, fx 4, fx 5, fx 6, fx 7, fx 8, fx 9, fx 10, fx 11, fx 12, fx 13, fx 14, fx 15, fx 16, Value.bool true, fx 18] []; rw [h12, h16, h8] <;> rfl, hC, rfl, fun _ _ _ _ _ h => h⟩
    · have h8 : fx 8 = Value.bool true := hd.1 rfl
      have h17 : fx 17 = Value.bool true := hd.2.1 rfl
      go_wp2_with fail
      exact ⟨_, by show _ = Act.mk #[Value.agg #[Value.int IntKind.i64 c0, Value.int IntKind.i64 c1, Value.int IntKind.i64 c2, Value.int IntKind.i64 c3, Value.int IntKind.i64 c4], Value.agg X, Value.int IntKind.i64 k, Value.int IntKind.i64 z, Value.pointer (some { block := w.heap.size, off := 0 }), Value.pointer (some { block := w.heap.size + 1, off := 0 }), undef, undef, fx 19, Value.pointer (some { block := U2.heap.size, off := 0 }), Value.int IntKind.i64 e0, Value.pointer (some { block := U3.heap.size, off := 0 }), Value.int IntKind.i64 e0, Value.bool true, Value.bool false, Value.tuple #[ndV r, Value.int IntKind.i64 e0], Value.agg #[Value.int IntKind.i64 c0, Value.int IntKind.i64 c1, Value.int IntKind.i64 c2, Value.int IntKind.i64 c3, Value.int IntKind.i64 c4], Value.agg X, Value.tuple #[ndV r, Value.int IntKind.i64 e0], ndV r, Value.int IntKind.i64 e0, Value.tuple #[ndV r, Value.int IntKind.i64 e0], Value.agg #[Value.int IntKind.i64 c0, Value.int IntKind.i64 c1, Value.int IntKind.i64 c2, Value.int IntKind.i64 c3, Value.int IntKind.i64 c4], Value.agg X, Value.tuple #[ndV r, Value.int IntKind.i64 e0], ndV r, Value.int IntKind.i64 e0, fx 0, fx 1, fx 2, fx 3, fx 4, fx 5, fx 6, fx 7, fx 8, fx 9, fx 10, fx 11, fx 12, fx 13, fx 14, fx 15, fx 16, fx 17, Value.bool true] []; rw [h8, h17] <;> rfl, hC, rfl, fun _ _ _ _ _ h => h⟩
    · have h18 : fx 18 = Value.bool true := hd.1 rfl
      go_wp2_with fail
      exact ⟨_, by show _ = Act.mk #[Value.agg #[Value.int IntKind.i64 c0, Value.int IntKind.i64 c1, Value.int IntKind.i64 c2, Value.int IntKind.i64 c3, Value.int IntKind.i64 c4], Value.agg X, Value.int IntKind.i64 k, Value.int IntKind.i64 z, Value.pointer (some { block := w.heap.size, off := 0 }), Value.pointer (some { block := w.heap.size + 1, off := 0 }), undef, undef, Value.bool true, Value.pointer (some { block := U2.heap.size, off := 0 }), Value.int IntKind.i64 e0, Value.pointer (some { block := U3.heap.size, off := 0 }), Value.int IntKind.i64 e0, Value.bool true, Value.bool false, Value.tuple #[ndV r, Value.int IntKind.i64 e0], Value.agg #[Value.int IntKind.i64 c0, Value.int IntKind.i64 c1, Value.int IntKind.i64 c2, Value.int IntKind.i64 c3, Value.int IntKind.i64 c4], Value.agg X, Value.tuple #[ndV r, Value.int IntKind.i64 e0], ndV r, Value.int IntKind.i64 e0, Value.tuple #[ndV r, Value.int IntKind.i64 e0], Value.agg #[Value.int IntKind.i64 c0, Value.int IntKind.i64 c1, Value.int IntKind.i64 c2, Value.int IntKind.i64 c3, Value.int IntKind.i64 c4], Value.agg X, Value.tuple #[ndV r, Value.int IntKind.i64 e0], ndV r, Value.int IntKind.i64 e0, fx 0, fx 1, fx 2, fx 3, fx 4, fx 5, fx 6, fx 7, fx 8, fx 9, fx 10, fx 11, fx 12, fx 13, fx 14, fx 15, fx 16, fx 17, fx 18] []; rw [h18] <;> rfl, hC, rfl, fun _ _ _ _ _ h => h⟩
  · intro L fx w' hC hS
    have H19 := Lib.hid (hS 19 (by decide) rfl)
    have h19 : fx 19 = Value.bool true := H19.out
    have HBE := Lib.hid (HB5.out.trans (hC.mono HB5.out.size))
    rw [h19]
    clear hS hC h19 H19
    go_wp2_with fail
    go_ret
    exact ⟨rfl, HBE.out⟩
theorem walk (w : World) (hT : Tabs w) (l : Ln) (hl : LnOk l) (p : List Nat) (hp : p.length = 32) (bp : Bytes p) (k : Int) (hk1 : -9223372036854775808 ≤ k) (hk2 : k ≤ 9223372036854775807) (z : Int) (hz1 : -9223372036854775808 ≤ z) (hz2 : z ≤ 9223372036854775807) :
    Calls Tryd.prog 8 #[.agg #[.int .i64 l.c0, .int .i64 l.c1, .int .i64 l.c2, .int .i64 l.c3, .int .i64 l.c4], dgV p, .int .i64 k, .int .i64 z] w fun e w' => e = .returned (.bool true) ∧ Below w.heap.size w w' :=
  walk1 l.c0 l.c1 l.c2 l.c3 l.c4 p k z w (Lib.hid hp) (Lib.hid bp) hk1 hk2 hz1 hz2 (Lib.hid hT)
set_option maxRecDepth 100000 in
theorem lifted (os : Os) (started : os.Started) (H : Type) (enc : TypeId × Value → H) :
    ReturnsInHanded {} Tryd.checked os 8 .any (fun w args => (Rows.treeLeafSpecSpec.pre enc Tryd.prog Tryd.f8 [] false w args ∧ laidMetH Tryd.prog laidL w) ∧ sizedMet enc Tryd.prog Tryd.f8 (OpenSpec.ofChange Rows.treeLeafSpecSpec) false w args)
      (Rows.treeLeafSpecSpec.post enc Tryd.prog Tryd.f8 false true false false) := by
  refine returnsInHanded_of_change_and (C := Tryd.checked) (X := fun w _ => laidMetH Tryd.prog laidL w) (fun _ _ _ hh h => h.of_heap hh) own started (by kernel_rfl) Tryd.func8
    (ChangeSpec.witness_shaped (enc := enc) (C := Tryd.checked) (os := os) (X := fun w _ => laidMetH Tryd.prog laidL w) false (World.doorLaid Tryd.prog 400 os) #[.agg #[.int .i64 0, .int .i64 0, .int .i64 0, .int .i64 0, .int .i64 0], .agg (Array.replicate 32 (.int .u8 0)), .int .i64 0, .int .i64 0] 8 rfl (World.shaped_of_RefB (by kernel_rfl) (by kernel_rfl)) (by kernel_rfl) (by kernel_rfl) (by kernel_rfl) (door_met os _)) ?_
  intro W base args ds gs before hval0 hW _ hsz0 hL _
  have hval : ∀ (j : Nat) t v, Tryd.f8.params[j]? = some t → args[j]? = some v → Value.okWide Tryd.prog W .any base t v := hval0
  have hW' := hW
  obtain ⟨p, q, hA0, hV, rfl, hfz, hnd⟩ := hW
  have hA : DataW.TrodAll enc Tryd.prog W 0 (fun _ => true) true Tryd.f8.params.toList args.toList ds p := hA0
  have hsz : (DataW.weightsEach Tryd.prog (Tryd.f8.params.toList ++ Rows.treeLeafSpecSpec.plain.varTypes Tryd.prog) (ds ++ gs)).all (· ≤ reachBytes) = true := hsz0
  rw [Tryd.params8] at hA hval hsz
  obtain ⟨v0, vs0, d0, ds0, p0, q0, hargs, rfl, rfl, h0, r0⟩ := trodAll_cons hA
  obtain ⟨v1, vs1, d1, ds1, p1, q1, rfl, rfl, rfl, h1, r1⟩ := trodAll_cons r0
  obtain ⟨v2, vs2, d2, ds2, p2, q2, rfl, rfl, rfl, h2, r2⟩ := trodAll_cons r1
  obtain ⟨v3, vs3, d3, ds3, p3, q3, rfl, rfl, rfl, h3, r3⟩ := trodAll_cons r2
  obtain ⟨rfl, rfl, rfl⟩ := trodAll_nil r3
  obtain rfl : args = #[v0, v1, v2, v3] := by cases args; simp_all
  obtain ⟨rfl, rfl⟩ := trodVars_none hV
  obtain ⟨l0, rfl, e0⟩ := arg_ln (hval 0 49 v0 rfl rfl) h0
  obtain ⟨l1, rfl, e1, y1⟩ := arg_dig (hval 1 24 v1 rfl rfl) h1
  obtain ⟨a2, rfl, rfl, rfl, w2⟩ := open_int Tryd.underlying3 (hval 2 3 v2 rfl rfl) h2
  have b2 := bounds_i64 w2
  obtain ⟨a3, rfl, rfl, rfl, w3⟩ := open_int Tryd.underlying3 (hval 3 3 v3 rfl rfl) h3
  have b3 := bounds_i64 w3
  refine (walk W (tabs_of hL) l0 e0 l1 e1 y1 a2 b2.1 b2.2 a3 b3.1 b3.2).mono fun e W' ⟨he, hg⟩ => ?_
  subst he
  exact ⟨_, rfl, law_post (by kernel_rfl) rfl rfl (fun _ => ⟨rfl, rfl, rfl⟩) hW' hg⟩
theorem over : Rows.treeLeafSpecRow.holds Tryd.pinned (OpenSpec.ofChange Rows.treeLeafSpecSpec) :=
  OpenClaim.holds_of_wide 8 Tryd.f8 rfl rfl rfl rfl rfl rfl rfl ⟨rfl, rfl, rfl, rfl, rfl⟩ rfl rfl rfl rfl rfl (by kernel_rfl) Tryd.func8 (by kernel_rfl)
    (of_decide_eq_true (by kernel_rfl)) (by unfold Func.isWrapper; first | (rw [if_pos (by decide +kernel)]; kernel_rfl) | (rw [if_neg (by decide +kernel)]; exact ⟨rfl, rfl⟩))
    (fun os started H enc _ => lifted os started H enc)
/-- THE STATEMENT: the card -/
theorem proved : Rows.TreeLeafSpecCardSaid :=
  Claim7.holds_tied_plain_at .later [] [.data, .data] true Rows.treeLeafSpecCard.stood.harness false
    over (fun _ h => by cases h) (by kernel_rfl) (fun _ h => by cases h) treeLeafSpec_row_tie rfl ⟨rfl, rfl⟩ (by kernel_rfl) rfl
    (fun f fn hf hfn => by
      obtain rfl : f = 8 := Option.some.inj ((show Tryd.prog.funcNamed "sizar/sizarlaw41.TreeLeafSpec" = some 8 by kernel_rfl).symm.trans hf) |>.symm
      obtain rfl : fn = Tryd.f8 := (Option.some.inj (Tryd.func8.symm.trans hfn)).symm
      exact ⟨by kernel_rfl, fun j t ht => stands_of (show Tryd.f8.params.all (fun t => !Tryd.prog.wantsStandIn t) = true by kernel_rfl) ht⟩)
    (by kernel_rfl)
#print axioms proved
end Go.Proofs.YtgcmbiegbclhmaaDoor.treeLeafSpec
