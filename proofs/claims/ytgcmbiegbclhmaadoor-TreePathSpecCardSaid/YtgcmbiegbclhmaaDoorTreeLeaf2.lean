/- sizar/tree.Leaf. -/
import Derived.Test.YtgcmbiegbclhmaaDoorTreeLeaf
import Derived.Test.YtgcmbiegbclhmaaDoorTreeJoin2
namespace Go.Proofs.YtgcmbiegbclhmaaDoor
open Go.RowKit SzSha SzTree
set_option linter.unusedVariables false
set_option maxRecDepth 100000
/-- a line is valid -/
def lOk (c0 c1 c2 c3 c4 : Int) : Prop := 0 ≤ c0 ∧ c0 < 4096 ∧ 0 ≤ c1 ∧ c1 < 1024 ∧ 0 ≤ c2 ∧ c2 ≤ 12 ∧ 0 ≤ c3 ∧ c3 ≤ 60 ∧ 0 ≤ c4 ∧ c4 < 7
theorem zeros34 : (#[.int .u8 0, .int .u8 0, .int .u8 0, .int .u8 0, .int .u8 0, .int .u8 0, .int .u8 0, .int .u8 0, .int .u8 0, .int .u8 0, .int .u8 0, .int .u8 0, .int .u8 0, .int .u8 0, .int .u8 0, .int .u8 0, .int .u8 0, .int .u8 0, .int .u8 0, .int .u8 0, .int .u8 0, .int .u8 0, .int .u8 0, .int .u8 0, .int .u8 0, .int .u8 0, .int .u8 0, .int .u8 0, .int .u8 0, .int .u8 0, .int .u8 0, .int .u8 0, .int .i64 0, .int .i64 0] : Array Value) = (ndC zeroN).toArray := zeroN_cells.symm

set_option maxHeartbeats 4000000 in
theorem leaf_n0 (c0 c1 c2 c3 c4 : Int) (l : List Nat) (w : World) (d0 : decide (c0 < 0) = true) :
    Calls Tryd.prog 25 #[.agg #[.int .i64 c0, .int .i64 c1, .int .i64 c2, .int .i64 c3, .int .i64 c4], dgV l] w fun e w' => e = .returned (.tuple #[ndV zeroN, .int .i64 410]) ∧ Below w.heap.size w w' := by
  have HSZ : Hid ((Tryd.prog.info? 26).map (·.size) = some (ndC zeroN).toArray.size) := Lib.hid (by rw [size34 zeroN_ok]; simp)
  obtain ⟨X, HX⟩ : ∃ X, Hid ((l.map fun x => Value.int .u8 (x : Nat)).toArray = X) := ⟨_, Lib.hid rfl⟩
  have e0 : dgV l = .agg X := by unfold dgV; rw [HX.out]
  rw [e0]
  clear e0
  obtain ⟨t1, t2, t3, t4⟩ := three_rows3 w #[.int .i64 c0, .int .i64 c1, .int .i64 c2, .int .i64 c3, .int .i64 c4] X #[.int .u8 0, .int .u8 0, .int .u8 0, .int .u8 0, .int .u8 0, .int .u8 0, .int .u8 0, .int .u8 0, .int .u8 0, .int .u8 0, .int .u8 0, .int .u8 0, .int .u8 0, .int .u8 0, .int .u8 0, .int .u8 0, .int .u8 0, .int .u8 0, .int .u8 0, .int .u8 0, .int .u8 0, .int .u8 0, .int .u8 0, .int .u8 0, .int .u8 0, .int .u8 0, .int .u8 0, .int .u8 0, .int .u8 0, .int .u8 0, .int .u8 0, .int .u8 0, .int .i64 0, .int .i64 0] 49 24 26
  have HB1 := Lib.hid t1
  have HRR := Lib.hid t4
  have k0 := five_cells t2 0 (by omega)
  have k1 := five_cells t2 1 (by omega)
  have k2 := five_cells t2 2 (by omega)
  have k3 := five_cells t2 3 (by omega)
  have k4 := five_cells t2 4 (by omega)
  have HSZ2 := HSZ
  have HON := Lib.hid (ndC_one zeroN)
  rw [← zeros34] at HSZ2 HON
  clear t1 t2 t3 t4
  go_enter Tryd.func25, Tryd.ntmps25
  go_wp2_with (first | (refine wpList_load_row rfl 26 (.tmp 4) rfl (w.heap.size + 1 + 1) rfl 26 _ (0, 0) _ HRR.out Tryd.underlying26 rfl HSZ2.out ?_) | (refine wpList_store_row rfl 26 (.tmp 4) (.tmp 54) rfl (w.heap.size + 1 + 1) #[.int .u8 0, .int .u8 0, .int .u8 0, .int .u8 0, .int .u8 0, .int .u8 0, .int .u8 0, .int .u8 0, .int .u8 0, .int .u8 0, .int .u8 0, .int .u8 0, .int .u8 0, .int .u8 0, .int .u8 0, .int .u8 0, .int .u8 0, .int .u8 0, .int .u8 0, .int .u8 0, .int .u8 0, .int .u8 0, .int .u8 0, .int .u8 0, .int .u8 0, .int .u8 0, .int .u8 0, .int .u8 0, .int .u8 0, .int .u8 0, .int .u8 0, .int .u8 0, .int .i64 0, .int .i64 0] ?ha ?hb 26 _ HRR.out HSZ2.out rfl HON.out ?hc))
  rw [zeros34] at HB1 HRR
  rw [zeros34]
  have hr := setRow_heap _ (w.heap.size + 1 + 1) _ (ndC zeroN).toArray _ _ HRR.out
  have hl := run_loadVar_row (P := Tryd.prog) _ (w.heap.size + 1 + 1) 26 26 (ndC zeroN).toArray (0, 0) _ hr Tryd.underlying26 rfl HSZ.out
  refine bodyPost_ret (v := .tuple #[ndV zeroN, .int .i64 410]) ?_ rfl ⟨rfl, below_setRow HB1.out (by omega) _⟩
  unfold ndV
  simp [results, Tryd.results25, asAddr, hl]

set_option maxHeartbeats 4000000 in
theorem leaf_n1 (c0 c1 c2 c3 c4 : Int) (l : List Nat) (w : World) (d0 : decide (c0 < 0) = false) (d1 : decide (4096 ≤ c0) = true) :
    Calls Tryd.prog 25 #[.agg #[.int .i64 c0, .int .i64 c1, .int .i64 c2, .int .i64 c3, .int .i64 c4], dgV l] w fun e w' => e = .returned (.tuple #[ndV zeroN, .int .i64 410]) ∧ Below w.heap.size w w' := by
  have HSZ : Hid ((Tryd.prog.info? 26).map (·.size) = some (ndC zeroN).toArray.size) := Lib.hid (by rw [size34 zeroN_ok]; simp)
  obtain ⟨X, HX⟩ : ∃ X, Hid ((l.map fun x => Value.int .u8 (x : Nat)).toArray = X) := ⟨_, Lib.hid rfl⟩
  have e0 : dgV l = .agg X := by unfold dgV; rw [HX.out]
  rw [e0]
  clear e0
  obtain ⟨t1, t2, t3, t4⟩ := three_rows3 w #[.int .i64 c0, .int .i64 c1, .int .i64 c2, .int .i64 c3, .int .i64 c4] X #[.int .u8 0, .int .u8 0, .int .u8 0, .int .u8 0, .int .u8 0, .int .u8 0, .int .u8 0, .int .u8 0, .int .u8 0, .int .u8 0, .int .u8 0, .int .u8 0, .int .u8 0, .int .u8 0, .int .u8 0, .int .u8 0, .int .u8 0, .int .u8 0, .int .u8 0, .int .u8 0, .int .u8 0, .int .u8 0, .int .u8 0, .int .u8 0, .int .u8 0, .int .u8 0, .int .u8 0, .int .u8 0, .int .u8 0, .int .u8 0, .int .u8 0, .int .u8 0, .int .i64 0, .int .i64 0] 49 24 26
  have HB1 := Lib.hid t1
  have HRR := Lib.hid t4
  have k0 := five_cells t2 0 (by omega)
  have k1 := five_cells t2 1 (by omega)
  have k2 := five_cells t2 2 (by omega)
  have k3 := five_cells t2 3 (by omega)
  have k4 := five_cells t2 4 (by omega)
  have HSZ2 := HSZ
  have HON := Lib.hid (ndC_one zeroN)
  rw [← zeros34] at HSZ2 HON
  clear t1 t2 t3 t4
  go_enter Tryd.func25, Tryd.ntmps25
  go_wp2_with (first | (refine wpList_load_row rfl 26 (.tmp 4) rfl (w.heap.size + 1 + 1) rfl 26 _ (0, 0) _ HRR.out Tryd.underlying26 rfl HSZ2.out ?_) | (refine wpList_store_row rfl 26 (.tmp 4) (.tmp 54) rfl (w.heap.size + 1 + 1) #[.int .u8 0, .int .u8 0, .int .u8 0, .int .u8 0, .int .u8 0, .int .u8 0, .int .u8 0, .int .u8 0, .int .u8 0, .int .u8 0, .int .u8 0, .int .u8 0, .int .u8 0, .int .u8 0, .int .u8 0, .int .u8 0, .int .u8 0, .int .u8 0, .int .u8 0, .int .u8 0, .int .u8 0, .int .u8 0, .int .u8 0, .int .u8 0, .int .u8 0, .int .u8 0, .int .u8 0, .int .u8 0, .int .u8 0, .int .u8 0, .int .u8 0, .int .u8 0, .int .i64 0, .int .i64 0] ?ha ?hb 26 _ HRR.out HSZ2.out rfl HON.out ?hc))
  rw [zeros34] at HB1 HRR
  rw [zeros34]
  have hr := setRow_heap _ (w.heap.size + 1 + 1) _ (ndC zeroN).toArray _ _ HRR.out
  have hl := run_loadVar_row (P := Tryd.prog) _ (w.heap.size + 1 + 1) 26 26 (ndC zeroN).toArray (0, 0) _ hr Tryd.underlying26 rfl HSZ.out
  refine bodyPost_ret (v := .tuple #[ndV zeroN, .int .i64 410]) ?_ rfl ⟨rfl, below_setRow HB1.out (by omega) _⟩
  unfold ndV
  simp [results, Tryd.results25, asAddr, hl]

set_option maxHeartbeats 4000000 in
theorem leaf_n2 (c0 c1 c2 c3 c4 : Int) (l : List Nat) (w : World) (d0 : decide (c0 < 0) = false) (d1 : decide (4096 ≤ c0) = false) (d2 : decide (c1 < 0) = true) :
    Calls Tryd.prog 25 #[.agg #[.int .i64 c0, .int .i64 c1, .int .i64 c2, .int .i64 c3, .int .i64 c4], dgV l] w fun e w' => e = .returned (.tuple #[ndV zeroN, .int .i64 410]) ∧ Below w.heap.size w w' := by
  have HSZ : Hid ((Tryd.prog.info? 26).map (·.size) = some (ndC zeroN).toArray.size) := Lib.hid (by rw [size34 zeroN_ok]; simp)
  obtain ⟨X, HX⟩ : ∃ X, Hid ((l.map fun x => Value.int .u8 (x : Nat)).toArray = X) := ⟨_, Lib.hid rfl⟩
  have e0 : dgV l = .agg X := by unfold dgV; rw [HX.out]
  rw [e0]
  clear e0
  obtain ⟨t1, t2, t3, t4⟩ := three_rows3 w #[.int .i64 c0, .int .i64 c1, .int .i64 c2, .int .i64 c3, .int .i64 c4] X #[.int .u8 0, .int .u8 0, .int .u8 0, .int .u8 0, .int .u8 0, .int .u8 0, .int .u8 0, .int .u8 0, .int .u8 0, .int .u8 0, .int .u8 0, .int .u8 0, .int .u8 0, .int .u8 0, .int .u8 0, .int .u8 0, .int .u8 0, .int .u8 0, .int .u8 0, .int .u8 0, .int .u8 0, .int .u8 0, .int .u8 0, .int .u8 0, .int .u8 0, .int .u8 0, .int .u8 0, .int .u8 0, .int .u8 0, .int .u8 0, .int .u8 0, .int .u8 0, .int .i64 0, .int .i64 0] 49 24 26
  have HB1 := Lib.hid t1
  have HRR := Lib.hid t4
  have k0 := five_cells t2 0 (by omega)
  have k1 := five_cells t2 1 (by omega)
  have k2 := five_cells t2 2 (by omega)
  have k3 := five_cells t2 3 (by omega)
  have k4 := five_cells t2 4 (by omega)
  have HSZ2 := HSZ
  have HON := Lib.hid (ndC_one zeroN)
  rw [← zeros34] at HSZ2 HON
  clear t1 t2 t3 t4
  go_enter Tryd.func25, Tryd.ntmps25
  go_wp2_with (first | (refine wpList_load_row rfl 26 (.tmp 4) rfl (w.heap.size + 1 + 1) rfl 26 _ (0, 0) _ HRR.out Tryd.underlying26 rfl HSZ2.out ?_) | (refine wpList_store_row rfl 26 (.tmp 4) (.tmp 54) rfl (w.heap.size + 1 + 1) #[.int .u8 0, .int .u8 0, .int .u8 0, .int .u8 0, .int .u8 0, .int .u8 0, .int .u8 0, .int .u8 0, .int .u8 0, .int .u8 0, .int .u8 0, .int .u8 0, .int .u8 0, .int .u8 0, .int .u8 0, .int .u8 0, .int .u8 0, .int .u8 0, .int .u8 0, .int .u8 0, .int .u8 0, .int .u8 0, .int .u8 0, .int .u8 0, .int .u8 0, .int .u8 0, .int .u8 0, .int .u8 0, .int .u8 0, .int .u8 0, .int .u8 0, .int .u8 0, .int .i64 0, .int .i64 0] ?ha ?hb 26 _ HRR.out HSZ2.out rfl HON.out ?hc))
  rw [zeros34] at HB1 HRR
  rw [zeros34]
  have hr := setRow_heap _ (w.heap.size + 1 + 1) _ (ndC zeroN).toArray _ _ HRR.out
  have hl := run_loadVar_row (P := Tryd.prog) _ (w.heap.size + 1 + 1) 26 26 (ndC zeroN).toArray (0, 0) _ hr Tryd.underlying26 rfl HSZ.out
  refine bodyPost_ret (v := .tuple #[ndV zeroN, .int .i64 410]) ?_ rfl ⟨rfl, below_setRow HB1.out (by omega) _⟩
  unfold ndV
  simp [results, Tryd.results25, asAddr, hl]

set_option maxHeartbeats 4000000 in
theorem leaf_n3 (c0 c1 c2 c3 c4 : Int) (l : List Nat) (w : World) (d0 : decide (c0 < 0) = false) (d1 : decide (4096 ≤ c0) = false) (d2 : decide (c1 < 0) = false) (d3 : decide (1024 ≤ c1) = true) :
    Calls Tryd.prog 25 #[.agg #[.int .i64 c0, .int .i64 c1, .int .i64 c2, .int .i64 c3, .int .i64 c4], dgV l] w fun e w' => e = .returned (.tuple #[ndV zeroN, .int .i64 410]) ∧ Below w.heap.size w w' := by
  have HSZ : Hid ((Tryd.prog.info? 26).map (·.size) = some (ndC zeroN).toArray.size) := Lib.hid (by rw [size34 zeroN_ok]; simp)
  obtain ⟨X, HX⟩ : ∃ X, Hid ((l.map fun x => Value.int .u8 (x : Nat)).toArray = X) := ⟨_, Lib.hid rfl⟩
  have e0 : dgV l = .agg X := by unfold dgV; rw [HX.out]
  rw [e0]
  clear e0
  obtain ⟨t1, t2, t3, t4⟩ := three_rows3 w #[.int .i64 c0, .int .i64 c1, .int .i64 c2, .int .i64 c3, .int .i64 c4] X #[.int .u8 0, .int .u8 0, .int .u8 0, .int .u8 0, .int .u8 0, .int .u8 0, .int .u8 0, .int .u8 0, .int .u8 0, .int .u8 0, .int .u8 0, .int .u8 0, .int .u8 0, .int .u8 0, .int .u8 0, .int .u8 0, .int .u8 0, .int .u8 0, .int .u8 0, .int .u8 0, .int .u8 0, .int .u8 0, .int .u8 0, .int .u8 0, .int .u8 0, .int .u8 0, .int .u8 0, .int .u8 0, .int .u8 0, .int .u8 0, .int .u8 0, .int .u8 0, .int .i64 0, .int .i64 0] 49 24 26
  have HB1 := Lib.hid t1
  have HRR := Lib.hid t4
  have k0 := five_cells t2 0 (by omega)
  have k1 := five_cells t2 1 (by omega)
  have k2 := five_cells t2 2 (by omega)
  have k3 := five_cells t2 3 (by omega)
  have k4 := five_cells t2 4 (by omega)
  have HSZ2 := HSZ
  have HON := Lib.hid (ndC_one zeroN)
  rw [← zeros34] at HSZ2 HON
  clear t1 t2 t3 t4
  go_enter Tryd.func25, Tryd.ntmps25
  go_wp2_with (first | (refine wpList_load_row rfl 26 (.tmp 4) rfl (w.heap.size + 1 + 1) rfl 26 _ (0, 0) _ HRR.out Tryd.underlying26 rfl HSZ2.out ?_) | (refine wpList_store_row rfl 26 (.tmp 4) (.tmp 54) rfl (w.heap.size + 1 + 1) #[.int .u8 0, .int .u8 0, .int .u8 0, .int .u8 0, .int .u8 0, .int .u8 0, .int .u8 0, .int .u8 0, .int .u8 0, .int .u8 0, .int .u8 0, .int .u8 0, .int .u8 0, .int .u8 0, .int .u8 0, .int .u8 0, .int .u8 0, .int .u8 0, .int .u8 0, .int .u8 0, .int .u8 0, .int .u8 0, .int .u8 0, .int .u8 0, .int .u8 0, .int .u8 0, .int .u8 0, .int .u8 0, .int .u8 0, .int .u8 0, .int .u8 0, .int .u8 0, .int .i64 0, .int .i64 0] ?ha ?hb 26 _ HRR.out HSZ2.out rfl HON.out ?hc))
  rw [zeros34] at HB1 HRR
  rw [zeros34]
  have hr := setRow_heap _ (w.heap.size + 1 + 1) _ (ndC zeroN).toArray _ _ HRR.out
  have hl := run_loadVar_row (P := Tryd.prog) _ (w.heap.size + 1 + 1) 26 26 (ndC zeroN).toArray (0, 0) _ hr Tryd.underlying26 rfl HSZ.out
  refine bodyPost_ret (v := .tuple #[ndV zeroN, .int .i64 410]) ?_ rfl ⟨rfl, below_setRow HB1.out (by omega) _⟩
  unfold ndV
  simp [results, Tryd.results25, asAddr, hl]

set_option maxHeartbeats 4000000 in
theorem leaf_n4 (c0 c1 c2 c3 c4 : Int) (l : List Nat) (w : World) (d0 : decide (c0 < 0) = false) (d1 : decide (4096 ≤ c0) = false) (d2 : decide (c1 < 0) = false) (d3 : decide (1024 ≤ c1) = false) (d4 : decide (c2 < 0) = true) :
    Calls Tryd.prog 25 #[.agg #[.int .i64 c0, .int .i64 c1, .int .i64 c2, .int .i64 c3, .int .i64 c4], dgV l] w fun e w' => e = .returned (.tuple #[ndV zeroN, .int .i64 410]) ∧ Below w.heap.size w w' := by
  have HSZ : Hid ((Tryd.prog.info? 26).map (·.size) = some (ndC zeroN).toArray.size) := Lib.hid (by rw [size34 zeroN_ok]; simp)
  obtain ⟨X, HX⟩ : ∃ X, Hid ((l.map fun x => Value.int .u8 (x : Nat)).toArray = X) := ⟨_, Lib.hid rfl⟩
  have e0 : dgV l = .agg X := by unfold dgV; rw [HX.out]
  rw [e0]
  clear e0
  obtain ⟨t1, t2, t3, t4⟩ := three_rows3 w #[.int .i64 c0, .int .i64 c1, .int .i64 c2, .int .i64 c3, .int .i64 c4] X #[.int .u8 0, .int .u8 0, .int .u8 0, .int .u8 0, .int .u8 0, .int .u8 0, .int .u8 0, .int .u8 0, .int .u8 0, .int .u8 0, .int .u8 0, .int .u8 0, .int .u8 0, .int .u8 0, .int .u8 0, .int .u8 0, .int .u8 0, .int .u8 0, .int .u8 0, .int .u8 0, .int .u8 0, .int .u8 0, .int .u8 0, .int .u8 0, .int .u8 0, .int .u8 0, .int .u8 0, .int .u8 0, .int .u8 0, .int .u8 0, .int .u8 0, .int .u8 0, .int .i64 0, .int .i64 0] 49 24 26
  have HB1 := Lib.hid t1
  have HRR := Lib.hid t4
  have k0 := five_cells t2 0 (by omega)
  have k1 := five_cells t2 1 (by omega)
  have k2 := five_cells t2 2 (by omega)
  have k3 := five_cells t2 3 (by omega)
  have k4 := five_cells t2 4 (by omega)
  have HSZ2 := HSZ
  have HON := Lib.hid (ndC_one zeroN)
  rw [← zeros34] at HSZ2 HON
  clear t1 t2 t3 t4
  go_enter Tryd.func25, Tryd.ntmps25
  go_wp2_with (first | (refine wpList_load_row rfl 26 (.tmp 4) rfl (w.heap.size + 1 + 1) rfl 26 _ (0, 0) _ HRR.out Tryd.underlying26 rfl HSZ2.out ?_) | (refine wpList_store_row rfl 26 (.tmp 4) (.tmp 54) rfl (w.heap.size + 1 + 1) #[.int .u8 0, .int .u8 0, .int .u8 0, .int .u8 0, .int .u8 0, .int .u8 0, .int .u8 0, .int .u8 0, .int .u8 0, .int .u8 0, .int .u8 0, .int .u8 0, .int .u8 0, .int .u8 0, .int .u8 0, .int .u8 0, .int .u8 0, .int .u8 0, .int .u8 0, .int .u8 0, .int .u8 0, .int .u8 0, .int .u8 0, .int .u8 0, .int .u8 0, .int .u8 0, .int .u8 0, .int .u8 0, .int .u8 0, .int .u8 0, .int .u8 0, .int .u8 0, .int .i64 0, .int .i64 0] ?ha ?hb 26 _ HRR.out HSZ2.out rfl HON.out ?hc))
  rw [zeros34] at HB1 HRR
  rw [zeros34]
  have hr := setRow_heap _ (w.heap.size + 1 + 1) _ (ndC zeroN).toArray _ _ HRR.out
  have hl := run_loadVar_row (P := Tryd.prog) _ (w.heap.size + 1 + 1) 26 26 (ndC zeroN).toArray (0, 0) _ hr Tryd.underlying26 rfl HSZ.out
  refine bodyPost_ret (v := .tuple #[ndV zeroN, .int .i64 410]) ?_ rfl ⟨rfl, below_setRow HB1.out (by omega) _⟩
  unfold ndV
  simp [results, Tryd.results25, asAddr, hl]

set_option maxHeartbeats 4000000 in
theorem leaf_n5 (c0 c1 c2 c3 c4 : Int) (l : List Nat) (w : World) (d0 : decide (c0 < 0) = false) (d1 : decide (4096 ≤ c0) = false) (d2 : decide (c1 < 0) = false) (d3 : decide (1024 ≤ c1) = false) (d4 : decide (c2 < 0) = false) (d5 : decide (12 < c2) = true) :
    Calls Tryd.prog 25 #[.agg #[.int .i64 c0, .int .i64 c1, .int .i64 c2, .int .i64 c3, .int .i64 c4], dgV l] w fun e w' => e = .returned (.tuple #[ndV zeroN, .int .i64 410]) ∧ Below w.heap.size w w' := by
  have HSZ : Hid ((Tryd.prog.info? 26).map (·.size) = some (ndC zeroN).toArray.size) := Lib.hid (by rw [size34 zeroN_ok]; simp)
  obtain ⟨X, HX⟩ : ∃ X, Hid ((l.map fun x => Value.int .u8 (x : Nat)).toArray = X) := ⟨_, Lib.hid rfl⟩
  have e0 : dgV l = .agg X := by unfold dgV; rw [HX.out]
  rw [e0]
  clear e0
  obtain ⟨t1, t2, t3, t4⟩ := three_rows3 w #[.int .i64 c0, .int .i64 c1, .int .i64 c2, .int .i64 c3, .int .i64 c4] X #[.int .u8 0, .int .u8 0, .int .u8 0, .int .u8 0, .int .u8 0, .int .u8 0, .int .u8 0, .int .u8 0, .int .u8 0, .int .u8 0, .int .u8 0, .int .u8 0, .int .u8 0, .int .u8 0, .int .u8 0, .int .u8 0, .int .u8 0, .int .u8 0, .int .u8 0, .int .u8 0, .int .u8 0, .int .u8 0, .int .u8 0, .int .u8 0, .int .u8 0, .int .u8 0, .int .u8 0, .int .u8 0, .int .u8 0, .int .u8 0, .int .u8 0, .int .u8 0, .int .i64 0, .int .i64 0] 49 24 26
  have HB1 := Lib.hid t1
  have HRR := Lib.hid t4
  have k0 := five_cells t2 0 (by omega)
  have k1 := five_cells t2 1 (by omega)
  have k2 := five_cells t2 2 (by omega)
  have k3 := five_cells t2 3 (by omega)
  have k4 := five_cells t2 4 (by omega)
  have HSZ2 := HSZ
  have HON := Lib.hid (ndC_one zeroN)
  rw [← zeros34] at HSZ2 HON
  clear t1 t2 t3 t4
  go_enter Tryd.func25, Tryd.ntmps25
  go_wp2_with (first | (refine wpList_load_row rfl 26 (.tmp 4) rfl (w.heap.size + 1 + 1) rfl 26 _ (0, 0) _ HRR.out Tryd.underlying26 rfl HSZ2.out ?_) | (refine wpList_store_row rfl 26 (.tmp 4) (.tmp 54) rfl (w.heap.size + 1 + 1) #[.int .u8 0, .int .u8 0, .int .u8 0, .int .u8 0, .int .u8 0, .int .u8 0, .int .u8 0, .int .u8 0, .int .u8 0, .int .u8 0, .int .u8 0, .int .u8 0, .int .u8 0, .int .u8 0, .int .u8 0, .int .u8 0, .int .u8 0, .int .u8 0, .int .u8 0, .int .u8 0, .int .u8 0, .int .u8 0, .int .u8 0, .int .u8 0, .int .u8 0, .int .u8 0, .int .u8 0, .int .u8 0, .int .u8 0, .int .u8 0, .int .u8 0, .int .u8 0, .int .i64 0, .int .i64 0] ?ha ?hb 26 _ HRR.out HSZ2.out rfl HON.out ?hc))
  rw [zeros34] at HB1 HRR
  rw [zeros34]
  have hr := setRow_heap _ (w.heap.size + 1 + 1) _ (ndC zeroN).toArray _ _ HRR.out
  have hl := run_loadVar_row (P := Tryd.prog) _ (w.heap.size + 1 + 1) 26 26 (ndC zeroN).toArray (0, 0) _ hr Tryd.underlying26 rfl HSZ.out
  refine bodyPost_ret (v := .tuple #[ndV zeroN, .int .i64 410]) ?_ rfl ⟨rfl, below_setRow HB1.out (by omega) _⟩
  unfold ndV
  simp [results, Tryd.results25, asAddr, hl]

set_option maxHeartbeats 4000000 in
theorem leaf_n6 (c0 c1 c2 c3 c4 : Int) (l : List Nat) (w : World) (d0 : decide (c0 < 0) = false) (d1 : decide (4096 ≤ c0) = false) (d2 : decide (c1 < 0) = false) (d3 : decide (1024 ≤ c1) = false) (d4 : decide (c2 < 0) = false) (d5 : decide (12 < c2) = false) (d6 : decide (c3 < 0) = true) :
    Calls Tryd.prog 25 #[.agg #[.int .i64 c0, .int .i64 c1, .int .i64 c2, .int .i64 c3, .int .i64 c4], dgV l] w fun e w' => e = .returned (.tuple #[ndV zeroN, .int .i64 410]) ∧ Below w.heap.size w w' := by
  have HSZ : Hid ((Tryd.prog.info? 26).map (·.size) = some (ndC zeroN).toArray.size) := Lib.hid (by rw [size34 zeroN_ok]; simp)
  obtain ⟨X, HX⟩ : ∃ X, Hid ((l.map fun x => Value.int .u8 (x : Nat)).toArray = X) := ⟨_, Lib.hid rfl⟩
  have e0 : dgV l = .agg X := by unfold dgV; rw [HX.out]
  rw [e0]
  clear e0
  obtain ⟨t1, t2, t3, t4⟩ := three_rows3 w #[.int .i64 c0, .int .i64 c1, .int .i64 c2, .int .i64 c3, .int .i64 c4] X #[.int .u8 0, .int .u8 0, .int .u8 0, .int .u8 0, .int .u8 0, .int .u8 0, .int .u8 0, .int .u8 0, .int .u8 0, .int .u8 0, .int .u8 0, .int .u8 0, .int .u8 0, .int .u8 0, .int .u8 0, .int .u8 0, .int .u8 0, .int .u8 0, .int .u8 0, .int .u8 0, .int .u8 0, .int .u8 0, .int .u8 0, .int .u8 0, .int .u8 0, .int .u8 0, .int .u8 0, .int .u8 0, .int .u8 0, .int .u8 0, .int .u8 0, .int .u8 0, .int .i64 0, .int .i64 0] 49 24 26
  have HB1 := Lib.hid t1
  have HRR := Lib.hid t4
  have k0 := five_cells t2 0 (by omega)
  have k1 := five_cells t2 1 (by omega)
  have k2 := five_cells t2 2 (by omega)
  have k3 := five_cells t2 3 (by omega)
  have k4 := five_cells t2 4 (by omega)
  have HSZ2 := HSZ
  have HON := Lib.hid (ndC_one zeroN)
  rw [← zeros34] at HSZ2 HON
  clear t1 t2 t3 t4
  go_enter Tryd.func25, Tryd.ntmps25
  go_wp2_with (first | (refine wpList_load_row rfl 26 (.tmp 4) rfl (w.heap.size + 1 + 1) rfl 26 _ (0, 0) _ HRR.out Tryd.underlying26 rfl HSZ2.out ?_) | (refine wpList_store_row rfl 26 (.tmp 4) (.tmp 54) rfl (w.heap.size + 1 + 1) #[.int .u8 0, .int .u8 0, .int .u8 0, .int .u8 0, .int .u8 0, .int .u8 0, .int .u8 0, .int .u8 0, .int .u8 0, .int .u8 0, .int .u8 0, .int .u8 0, .int .u8 0, .int .u8 0, .int .u8 0, .int .u8 0, .int .u8 0, .int .u8 0, .int .u8 0, .int .u8 0, .int .u8 0, .int .u8 0, .int .u8 0, .int .u8 0, .int .u8 0, .int .u8 0, .int .u8 0, .int .u8 0, .int .u8 0, .int .u8 0, .int .u8 0, .int .u8 0, .int .i64 0, .int .i64 0] ?ha ?hb 26 _ HRR.out HSZ2.out rfl HON.out ?hc))
  rw [zeros34] at HB1 HRR
  rw [zeros34]
  have hr := setRow_heap _ (w.heap.size + 1 + 1) _ (ndC zeroN).toArray _ _ HRR.out
  have hl := run_loadVar_row (P := Tryd.prog) _ (w.heap.size + 1 + 1) 26 26 (ndC zeroN).toArray (0, 0) _ hr Tryd.underlying26 rfl HSZ.out
  refine bodyPost_ret (v := .tuple #[ndV zeroN, .int .i64 410]) ?_ rfl ⟨rfl, below_setRow HB1.out (by omega) _⟩
  unfold ndV
  simp [results, Tryd.results25, asAddr, hl]

set_option maxHeartbeats 4000000 in
theorem leaf_n7 (c0 c1 c2 c3 c4 : Int) (l : List Nat) (w : World) (d0 : decide (c0 < 0) = false) (d1 : decide (4096 ≤ c0) = false) (d2 : decide (c1 < 0) = false) (d3 : decide (1024 ≤ c1) = false) (d4 : decide (c2 < 0) = false) (d5 : decide (12 < c2) = false) (d6 : decide (c3 < 0) = false) (d7 : decide (60 < c3) = true) :
    Calls Tryd.prog 25 #[.agg #[.int .i64 c0, .int .i64 c1, .int .i64 c2, .int .i64 c3, .int .i64 c4], dgV l] w fun e w' => e = .returned (.tuple #[ndV zeroN, .int .i64 410]) ∧ Below w.heap.size w w' := by
  have HSZ : Hid ((Tryd.prog.info? 26).map (·.size) = some (ndC zeroN).toArray.size) := Lib.hid (by rw [size34 zeroN_ok]; simp)
  obtain ⟨X, HX⟩ : ∃ X, Hid ((l.map fun x => Value.int .u8 (x : Nat)).toArray = X) := ⟨_, Lib.hid rfl⟩
  have e0 : dgV l = .agg X := by unfold dgV; rw [HX.out]
  rw [e0]
  clear e0
  obtain ⟨t1, t2, t3, t4⟩ := three_rows3 w #[.int .i64 c0, .int .i64 c1, .int .i64 c2, .int .i64 c3, .int .i64 c4] X #[.int .u8 0, .int .u8 0, .int .u8 0, .int .u8 0, .int .u8 0, .int .u8 0, .int .u8 0, .int .u8 0, .int .u8 0, .int .u8 0, .int .u8 0, .int .u8 0, .int .u8 0, .int .u8 0, .int .u8 0, .int .u8 0, .int .u8 0, .int .u8 0, .int .u8 0, .int .u8 0, .int .u8 0, .int .u8 0, .int .u8 0, .int .u8 0, .int .u8 0, .int .u8 0, .int .u8 0, .int .u8 0, .int .u8 0, .int .u8 0, .int .u8 0, .int .u8 0, .int .i64 0, .int .i64 0] 49 24 26
  have HB1 := Lib.hid t1
  have HRR := Lib.hid t4
  have k0 := five_cells t2 0 (by omega)
  have k1 := five_cells t2 1 (by omega)
  have k2 := five_cells t2 2 (by omega)
  have k3 := five_cells t2 3 (by omega)
  have k4 := five_cells t2 4 (by omega)
  have HSZ2 := HSZ
  have HON := Lib.hid (ndC_one zeroN)
  rw [← zeros34] at HSZ2 HON
  clear t1 t2 t3 t4
  go_enter Tryd.func25, Tryd.ntmps25
  go_wp2_with (first | (refine wpList_load_row rfl 26 (.tmp 4) rfl (w.heap.size + 1 + 1) rfl 26 _ (0, 0) _ HRR.out Tryd.underlying26 rfl HSZ2.out ?_) | (refine wpList_store_row rfl 26 (.tmp 4) (.tmp 54) rfl (w.heap.size + 1 + 1) #[.int .u8 0, .int .u8 0, .int .u8 0, .int .u8 0, .int .u8 0, .int .u8 0, .int .u8 0, .int .u8 0, .int .u8 0, .int .u8 0, .int .u8 0, .int .u8 0, .int .u8 0, .int .u8 0, .int .u8 0, .int .u8 0, .int .u8 0, .int .u8 0, .int .u8 0, .int .u8 0, .int .u8 0, .int .u8 0, .int .u8 0, .int .u8 0, .int .u8 0, .int .u8 0, .int .u8 0, .int .u8 0, .int .u8 0, .int .u8 0, .int .u8 0, .int .u8 0, .int .i64 0, .int .i64 0] ?ha ?hb 26 _ HRR.out HSZ2.out rfl HON.out ?hc))
  rw [zeros34] at HB1 HRR
  rw [zeros34]
  have hr := setRow_heap _ (w.heap.size + 1 + 1) _ (ndC zeroN).toArray _ _ HRR.out
  have hl := run_loadVar_row (P := Tryd.prog) _ (w.heap.size + 1 + 1) 26 26 (ndC zeroN).toArray (0, 0) _ hr Tryd.underlying26 rfl HSZ.out
  refine bodyPost_ret (v := .tuple #[ndV zeroN, .int .i64 410]) ?_ rfl ⟨rfl, below_setRow HB1.out (by omega) _⟩
  unfold ndV
  simp [results, Tryd.results25, asAddr, hl]

set_option maxHeartbeats 4000000 in
theorem leaf_n8 (c0 c1 c2 c3 c4 : Int) (l : List Nat) (w : World) (d0 : decide (c0 < 0) = false) (d1 : decide (4096 ≤ c0) = false) (d2 : decide (c1 < 0) = false) (d3 : decide (1024 ≤ c1) = false) (d4 : decide (c2 < 0) = false) (d5 : decide (12 < c2) = false) (d6 : decide (c3 < 0) = false) (d7 : decide (60 < c3) = false) (d8 : decide (c4 < 0) = true) :
    Calls Tryd.prog 25 #[.agg #[.int .i64 c0, .int .i64 c1, .int .i64 c2, .int .i64 c3, .int .i64 c4], dgV l] w fun e w' => e = .returned (.tuple #[ndV zeroN, .int .i64 410]) ∧ Below w.heap.size w w' := by
  have HSZ : Hid ((Tryd.prog.info? 26).map (·.size) = some (ndC zeroN).toArray.size) := Lib.hid (by rw [size34 zeroN_ok]; simp)
  obtain ⟨X, HX⟩ : ∃ X, Hid ((l.map fun x => Value.int .u8 (x : Nat)).toArray = X) := ⟨_, Lib.hid rfl⟩
  have e0 : dgV l = .agg X := by unfold dgV; rw [HX.out]
  rw [e0]
  clear e0
  obtain ⟨t1, t2, t3, t4⟩ := three_rows3 w #[.int .i64 c0, .int .i64 c1, .int .i64 c2, .int .i64 c3, .int .i64 c4] X #[.int .u8 0, .int .u8 0, .int .u8 0, .int .u8 0, .int .u8 0, .int .u8 0, .int .u8 0, .int .u8 0, .int .u8 0, .int .u8 0, .int .u8 0, .int .u8 0, .int .u8 0, .int .u8 0, .int .u8 0, .int .u8 0, .int .u8 0, .int .u8 0, .int .u8 0, .int .u8 0, .int .u8 0, .int .u8 0, .int .u8 0, .int .u8 0, .int .u8 0, .int .u8 0, .int .u8 0, .int .u8 0, .int .u8 0, .int .u8 0, .int .u8 0, .int .u8 0, .int .i64 0, .int .i64 0] 49 24 26
  have HB1 := Lib.hid t1
  have HRR := Lib.hid t4
  have k0 := five_cells t2 0 (by omega)
  have k1 := five_cells t2 1 (by omega)
  have k2 := five_cells t2 2 (by omega)
  have k3 := five_cells t2 3 (by omega)
  have k4 := five_cells t2 4 (by omega)
  have HSZ2 := HSZ
  have HON := Lib.hid (ndC_one zeroN)
  rw [← zeros34] at HSZ2 HON
  clear t1 t2 t3 t4
  go_enter Tryd.func25, Tryd.ntmps25
  go_wp2_with (first | (refine wpList_load_row rfl 26 (.tmp 4) rfl (w.heap.size + 1 + 1) rfl 26 _ (0, 0) _ HRR.out Tryd.underlying26 rfl HSZ2.out ?_) | (refine wpList_store_row rfl 26 (.tmp 4) (.tmp 54) rfl (w.heap.size + 1 + 1) #[.int .u8 0, .int .u8 0, .int .u8 0, .int .u8 0, .int .u8 0, .int .u8 0, .int .u8 0, .int .u8 0, .int .u8 0, .int .u8 0, .int .u8 0, .int .u8 0, .int .u8 0, .int .u8 0, .int .u8 0, .int .u8 0, .int .u8 0, .int .u8 0, .int .u8 0, .int .u8 0, .int .u8 0, .int .u8 0, .int .u8 0, .int .u8 0, .int .u8 0, .int .u8 0, .int .u8 0, .int .u8 0, .int .u8 0, .int .u8 0, .int .u8 0, .int .u8 0, .int .i64 0, .int .i64 0] ?ha ?hb 26 _ HRR.out HSZ2.out rfl HON.out ?hc))
  rw [zeros34] at HB1 HRR
  rw [zeros34]
  have hr := setRow_heap _ (w.heap.size + 1 + 1) _ (ndC zeroN).toArray _ _ HRR.out
  have hl := run_loadVar_row (P := Tryd.prog) _ (w.heap.size + 1 + 1) 26 26 (ndC zeroN).toArray (0, 0) _ hr Tryd.underlying26 rfl HSZ.out
  refine bodyPost_ret (v := .tuple #[ndV zeroN, .int .i64 410]) ?_ rfl ⟨rfl, below_setRow HB1.out (by omega) _⟩
  unfold ndV
  simp [results, Tryd.results25, asAddr, hl]

set_option maxHeartbeats 4000000 in
theorem leaf_n9 (c0 c1 c2 c3 c4 : Int) (l : List Nat) (w : World) (d0 : decide (c0 < 0) = false) (d1 : decide (4096 ≤ c0) = false) (d2 : decide (c1 < 0) = false) (d3 : decide (1024 ≤ c1) = false) (d4 : decide (c2 < 0) = false) (d5 : decide (12 < c2) = false) (d6 : decide (c3 < 0) = false) (d7 : decide (60 < c3) = false) (d8 : decide (c4 < 0) = false) (d9 : decide (7 ≤ c4) = true) :
    Calls Tryd.prog 25 #[.agg #[.int .i64 c0, .int .i64 c1, .int .i64 c2, .int .i64 c3, .int .i64 c4], dgV l] w fun e w' => e = .returned (.tuple #[ndV zeroN, .int .i64 410]) ∧ Below w.heap.size w w' := by
  have HSZ : Hid ((Tryd.prog.info? 26).map (·.size) = some (ndC zeroN).toArray.size) := Lib.hid (by rw [size34 zeroN_ok]; simp)
  obtain ⟨X, HX⟩ : ∃ X, Hid ((l.map fun x => Value.int .u8 (x : Nat)).toArray = X) := ⟨_, Lib.hid rfl⟩
  have e0 : dgV l = .agg X := by unfold dgV; rw [HX.out]
  rw [e0]
  clear e0
  obtain ⟨t1, t2, t3, t4⟩ := three_rows3 w #[.int .i64 c0, .int .i64 c1, .int .i64 c2, .int .i64 c3, .int .i64 c4] X #[.int .u8 0, .int .u8 0, .int .u8 0, .int .u8 0, .int .u8 0, .int .u8 0, .int .u8 0, .int .u8 0, .int .u8 0, .int .u8 0, .int .u8 0, .int .u8 0, .int .u8 0, .int .u8 0, .int .u8 0, .int .u8 0, .int .u8 0, .int .u8 0, .int .u8 0, .int .u8 0, .int .u8 0, .int .u8 0, .int .u8 0, .int .u8 0, .int .u8 0, .int .u8 0, .int .u8 0, .int .u8 0, .int .u8 0, .int .u8 0, .int .u8 0, .int .u8 0, .int .i64 0, .int .i64 0] 49 24 26
  have HB1 := Lib.hid t1
  have HRR := Lib.hid t4
  have k0 := five_cells t2 0 (by omega)
  have k1 := five_cells t2 1 (by omega)
  have k2 := five_cells t2 2 (by omega)
  have k3 := five_cells t2 3 (by omega)
  have k4 := five_cells t2 4 (by omega)
  have HSZ2 := HSZ
  have HON := Lib.hid (ndC_one zeroN)
  rw [← zeros34] at HSZ2 HON
  clear t1 t2 t3 t4
  go_enter Tryd.func25, Tryd.ntmps25
  go_wp2_with (first | (refine wpList_load_row rfl 26 (.tmp 4) rfl (w.heap.size + 1 + 1) rfl 26 _ (0, 0) _ HRR.out Tryd.underlying26 rfl HSZ2.out ?_) | (refine wpList_store_row rfl 26 (.tmp 4) (.tmp 54) rfl (w.heap.size + 1 + 1) #[.int .u8 0, .int .u8 0, .int .u8 0, .int .u8 0, .int .u8 0, .int .u8 0, .int .u8 0, .int .u8 0, .int .u8 0, .int .u8 0, .int .u8 0, .int .u8 0, .int .u8 0, .int .u8 0, .int .u8 0, .int .u8 0, .int .u8 0, .int .u8 0, .int .u8 0, .int .u8 0, .int .u8 0, .int .u8 0, .int .u8 0, .int .u8 0, .int .u8 0, .int .u8 0, .int .u8 0, .int .u8 0, .int .u8 0, .int .u8 0, .int .u8 0, .int .u8 0, .int .i64 0, .int .i64 0] ?ha ?hb 26 _ HRR.out HSZ2.out rfl HON.out ?hc))
  rw [zeros34] at HB1 HRR
  rw [zeros34]
  have hr := setRow_heap _ (w.heap.size + 1 + 1) _ (ndC zeroN).toArray _ _ HRR.out
  have hl := run_loadVar_row (P := Tryd.prog) _ (w.heap.size + 1 + 1) 26 26 (ndC zeroN).toArray (0, 0) _ hr Tryd.underlying26 rfl HSZ.out
  refine bodyPost_ret (v := .tuple #[ndV zeroN, .int .i64 410]) ?_ rfl ⟨rfl, below_setRow HB1.out (by omega) _⟩
  unfold ndV
  simp [results, Tryd.results25, asAddr, hl]

theorem leaf_no (c0 c1 c2 c3 c4 : Int) (l : List Nat) (w : World) (h : ¬ lOk c0 c1 c2 c3 c4) :
    Calls Tryd.prog 25 #[.agg #[.int .i64 c0, .int .i64 c1, .int .i64 c2, .int .i64 c3, .int .i64 c4], dgV l] w fun e w' => e = .returned (.tuple #[ndV zeroN, .int .i64 410]) ∧ Below w.heap.size w w' := by
  by_cases b0 : c0 < 0
  · exact leaf_n0 c0 c1 c2 c3 c4 l w  (decide_eq_true b0)
  by_cases b1 : 4096 ≤ c0
  · exact leaf_n1 c0 c1 c2 c3 c4 l w (decide_eq_false b0) (decide_eq_true b1)
  by_cases b2 : c1 < 0
  · exact leaf_n2 c0 c1 c2 c3 c4 l w (decide_eq_false b0) (decide_eq_false b1) (decide_eq_true b2)
  by_cases b3 : 1024 ≤ c1
  · exact leaf_n3 c0 c1 c2 c3 c4 l w (decide_eq_false b0) (decide_eq_false b1) (decide_eq_false b2) (decide_eq_true b3)
  by_cases b4 : c2 < 0
  · exact leaf_n4 c0 c1 c2 c3 c4 l w (decide_eq_false b0) (decide_eq_false b1) (decide_eq_false b2) (decide_eq_false b3) (decide_eq_true b4)
  by_cases b5 : 12 < c2
  · exact leaf_n5 c0 c1 c2 c3 c4 l w (decide_eq_false b0) (decide_eq_false b1) (decide_eq_false b2) (decide_eq_false b3) (decide_eq_false b4) (decide_eq_true b5)
  by_cases b6 : c3 < 0
  · exact leaf_n6 c0 c1 c2 c3 c4 l w (decide_eq_false b0) (decide_eq_false b1) (decide_eq_false b2) (decide_eq_false b3) (decide_eq_false b4) (decide_eq_false b5) (decide_eq_true b6)
  by_cases b7 : 60 < c3
  · exact leaf_n7 c0 c1 c2 c3 c4 l w (decide_eq_false b0) (decide_eq_false b1) (decide_eq_false b2) (decide_eq_false b3) (decide_eq_false b4) (decide_eq_false b5) (decide_eq_false b6) (decide_eq_true b7)
  by_cases b8 : c4 < 0
  · exact leaf_n8 c0 c1 c2 c3 c4 l w (decide_eq_false b0) (decide_eq_false b1) (decide_eq_false b2) (decide_eq_false b3) (decide_eq_false b4) (decide_eq_false b5) (decide_eq_false b6) (decide_eq_false b7) (decide_eq_true b8)
  by_cases b9 : 7 ≤ c4
  · exact leaf_n9 c0 c1 c2 c3 c4 l w (decide_eq_false b0) (decide_eq_false b1) (decide_eq_false b2) (decide_eq_false b3) (decide_eq_false b4) (decide_eq_false b5) (decide_eq_false b6) (decide_eq_false b7) (decide_eq_false b8) (decide_eq_true b9)
  exact absurd (show lOk c0 c1 c2 c3 c4 by unfold lOk; omega) h
end Go.Proofs.YtgcmbiegbclhmaaDoor