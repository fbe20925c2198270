/- sizar/tree.Leaf. sizar/tree.half. sizar/tree.Root$1: the root of valid leaves. sizar/tree.Root. region_flow4: as region_flow3, and whoever is done, all that it waits for (phases and chains too) is done. Rows of elements, exchanged pairwise. -/
import Derived.Test.YtmfmgeapecapiaaDoorDB4
import Derived.Test.YtmfmgeapecapiaaDoorDB1
import Derived.Test.YtmfmgeapecapiaaDoorDB3
import Derived.IntWalk
import Derived.Test.YtmfmgeapecapiaaDoorDB2
namespace Go.Proofs.YtmfmgeapecapiaaDoor
open Go.RowKit SzSha SzTree
set_option linter.unusedVariables false
set_option maxRecDepth 100000
/-- a line is valid -/
def lOk (c0 c1 c2 c3 c4 : Int) : Prop := 0 ≤ c0 ∧ c0 < 4096 ∧ 0 ≤ c1 ∧ c1 < 1024 ∧ 0 ≤ c2 ∧ c2 ≤ 12 ∧ 0 ≤ c3 ∧ c3 ≤ 60 ∧ 0 ≤ c4 ∧ c4 < 7
theorem zeros34 : (#[.int .u8 0, .int .u8 0, .int .u8 0, .int .u8 0, .int .u8 0, .int .u8 0, .int .u8 0, .int .u8 0, .int .u8 0, .int .u8 0, .int .u8 0, .int .u8 0, .int .u8 0, .int .u8 0, .int .u8 0, .int .u8 0, .int .u8 0, .int .u8 0, .int .u8 0, .int .u8 0, .int .u8 0, .int .u8 0, .int .u8 0, .int .u8 0, .int .u8 0, .int .u8 0, .int .u8 0, .int .u8 0, .int .u8 0, .int .u8 0, .int .u8 0, .int .u8 0, .int .i64 0, .int .i64 0] : Array Value) = (ndC zeroN).toArray := zeroN_cells.symm

set_option maxHeartbeats 4000000 in
theorem leaf_n0 (c0 c1 c2 c3 c4 : Int) (l : List Nat) (w : World) (d0 : decide (c0 < 0) = true) :
    Calls Tryd.prog 27 #[.agg #[.int .i64 c0, .int .i64 c1, .int .i64 c2, .int .i64 c3, .int .i64 c4], dgV l] w fun e w' => e = .returned (.tuple #[ndV zeroN, .int .i64 410]) ∧ Below w.heap.size w w' := by
  have HSZ : Hid ((Tryd.prog.info? 31).map (·.size) = some (ndC zeroN).toArray.size) := Lib.hid (by rw [size34 zeroN_ok]; simp)
  obtain ⟨X, HX⟩ : ∃ X, Hid ((l.map fun x => Value.int .u8 (x : Nat)).toArray = X) := ⟨_, Lib.hid rfl⟩
  have e0 : dgV l = .agg X := by unfold dgV; rw [HX.out]
  rw [e0]
  clear e0
  obtain ⟨t1, t2, t3, t4⟩ := three_rows3 w #[.int .i64 c0, .int .i64 c1, .int .i64 c2, .int .i64 c3, .int .i64 c4] X #[.int .u8 0, .int .u8 0, .int .u8 0, .int .u8 0, .int .u8 0, .int .u8 0, .int .u8 0, .int .u8 0, .int .u8 0, .int .u8 0, .int .u8 0, .int .u8 0, .int .u8 0, .int .u8 0, .int .u8 0, .int .u8 0, .int .u8 0, .int .u8 0, .int .u8 0, .int .u8 0, .int .u8 0, .int .u8 0, .int .u8 0, .int .u8 0, .int .u8 0, .int .u8 0, .int .u8 0, .int .u8 0, .int .u8 0, .int .u8 0, .int .u8 0, .int .u8 0, .int .i64 0, .int .i64 0] 41 25 31
  have HB1 := Lib.hid t1
  have HRR := Lib.hid t4
  have k0 := five_cells t2 0 (by omega)
  have k1 := five_cells t2 1 (by omega)
  have k2 := five_cells t2 2 (by omega)
  have k3 := five_cells t2 3 (by omega)
  have k4 := five_cells t2 4 (by omega)
  have HSZ2 := HSZ
  have HON := Lib.hid (ndC_one zeroN)
  rw [← zeros34] at HSZ2 HON
  clear t1 t2 t3 t4
  go_enter Tryd.func27, Tryd.ntmps27
  go_wp2_with (first | (refine wpList_load_row rfl 31 (.tmp 4) rfl (w.heap.size + 1 + 1) rfl 31 _ (0, 0) _ HRR.out Tryd.underlying31 rfl HSZ2.out ?_) | (refine wpList_store_row rfl 31 (.tmp 4) (.tmp 54) rfl (w.heap.size + 1 + 1) #[.int .u8 0, .int .u8 0, .int .u8 0, .int .u8 0, .int .u8 0, .int .u8 0, .int .u8 0, .int .u8 0, .int .u8 0, .int .u8 0, .int .u8 0, .int .u8 0, .int .u8 0, .int .u8 0, .int .u8 0, .int .u8 0, .int .u8 0, .int .u8 0, .int .u8 0, .int .u8 0, .int .u8 0, .int .u8 0, .int .u8 0, .int .u8 0, .int .u8 0, .int .u8 0, .int .u8 0, .int .u8 0, .int .u8 0, .int .u8 0, .int .u8 0, .int .u8 0, .int .i64 0, .int .i64 0] ?ha ?hb 31 _ HRR.out HSZ2.out rfl HON.out ?hc))
  rw [zeros34] at HB1 HRR
  rw [zeros34]
  have hr := setRow_heap _ (w.heap.size + 1 + 1) _ (ndC zeroN).toArray _ _ HRR.out
  have hl := run_loadVar_row (P := Tryd.prog) _ (w.heap.size + 1 + 1) 31 31 (ndC zeroN).toArray (0, 0) _ hr Tryd.underlying31 rfl HSZ.out
  refine bodyPost_ret (v := .tuple #[ndV zeroN, .int .i64 410]) ?_ rfl ⟨rfl, below_setRow HB1.out (by omega) _⟩
  unfold ndV
  simp [results, Tryd.results27, asAddr, hl]

set_option maxHeartbeats 4000000 in
theorem leaf_n1 (c0 c1 c2 c3 c4 : Int) (l : List Nat) (w : World) (d0 : decide (c0 < 0) = false) (d1 : decide (4096 ≤ c0) = true) :
    Calls Tryd.prog 27 #[.agg #[.int .i64 c0, .int .i64 c1, .int .i64 c2, .int .i64 c3, .int .i64 c4], dgV l] w fun e w' => e = .returned (.tuple #[ndV zeroN, .int .i64 410]) ∧ Below w.heap.size w w' := by
  have HSZ : Hid ((Tryd.prog.info? 31).map (·.size) = some (ndC zeroN).toArray.size) := Lib.hid (by rw [size34 zeroN_ok]; simp)
  obtain ⟨X, HX⟩ : ∃ X, Hid ((l.map fun x => Value.int .u8 (x : Nat)).toArray = X) := ⟨_, Lib.hid rfl⟩
  have e0 : dgV l = .agg X := by unfold dgV; rw [HX.out]
  rw [e0]
  clear e0
  obtain ⟨t1, t2, t3, t4⟩ := three_rows3 w #[.int .i64 c0, .int .i64 c1, .int .i64 c2, .int .i64 c3, .int .i64 c4] X #[.int .u8 0, .int .u8 0, .int .u8 0, .int .u8 0, .int .u8 0, .int .u8 0, .int .u8 0, .int .u8 0, .int .u8 0, .int .u8 0, .int .u8 0, .int .u8 0, .int .u8 0, .int .u8 0, .int .u8 0, .int .u8 0, .int .u8 0, .int .u8 0, .int .u8 0, .int .u8 0, .int .u8 0, .int .u8 0, .int .u8 0, .int .u8 0, .int .u8 0, .int .u8 0, .int .u8 0, .int .u8 0, .int .u8 0, .int .u8 0, .int .u8 0, .int .u8 0, .int .i64 0, .int .i64 0] 41 25 31
  have HB1 := Lib.hid t1
  have HRR := Lib.hid t4
  have k0 := five_cells t2 0 (by omega)
  have k1 := five_cells t2 1 (by omega)
  have k2 := five_cells t2 2 (by omega)
  have k3 := five_cells t2 3 (by omega)
  have k4 := five_cells t2 4 (by omega)
  have HSZ2 := HSZ
  have HON := Lib.hid (ndC_one zeroN)
  rw [← zeros34] at HSZ2 HON
  clear t1 t2 t3 t4
  go_enter Tryd.func27, Tryd.ntmps27
  go_wp2_with (first | (refine wpList_load_row rfl 31 (.tmp 4) rfl (w.heap.size + 1 + 1) rfl 31 _ (0, 0) _ HRR.out Tryd.underlying31 rfl HSZ2.out ?_) | (refine wpList_store_row rfl 31 (.tmp 4) (.tmp 54) rfl (w.heap.size + 1 + 1) #[.int .u8 0, .int .u8 0, .int .u8 0, .int .u8 0, .int .u8 0, .int .u8 0, .int .u8 0, .int .u8 0, .int .u8 0, .int .u8 0, .int .u8 0, .int .u8 0, .int .u8 0, .int .u8 0, .int .u8 0, .int .u8 0, .int .u8 0, .int .u8 0, .int .u8 0, .int .u8 0, .int .u8 0, .int .u8 0, .int .u8 0, .int .u8 0, .int .u8 0, .int .u8 0, .int .u8 0, .int .u8 0, .int .u8 0, .int .u8 0, .int .u8 0, .int .u8 0, .int .i64 0, .int .i64 0] ?ha ?hb 31 _ HRR.out HSZ2.out rfl HON.out ?hc))
  rw [zeros34] at HB1 HRR
  rw [zeros34]
  have hr := setRow_heap _ (w.heap.size + 1 + 1) _ (ndC zeroN).toArray _ _ HRR.out
  have hl := run_loadVar_row (P := Tryd.prog) _ (w.heap.size + 1 + 1) 31 31 (ndC zeroN).toArray (0, 0) _ hr Tryd.underlying31 rfl HSZ.out
  refine bodyPost_ret (v := .tuple #[ndV zeroN, .int .i64 410]) ?_ rfl ⟨rfl, below_setRow HB1.out (by omega) _⟩
  unfold ndV
  simp [results, Tryd.results27, asAddr, hl]

set_option maxHeartbeats 4000000 in
theorem leaf_n2 (c0 c1 c2 c3 c4 : Int) (l : List Nat) (w : World) (d0 : decide (c0 < 0) = false) (d1 : decide (4096 ≤ c0) = false) (d2 : decide (c1 < 0) = true) :
    Calls Tryd.prog 27 #[.agg #[.int .i64 c0, .int .i64 c1, .int .i64 c2, .int .i64 c3, .int .i64 c4], dgV l] w fun e w' => e = .returned (.tuple #[ndV zeroN, .int .i64 410]) ∧ Below w.heap.size w w' := by
  have HSZ : Hid ((Tryd.prog.info? 31).map (·.size) = some (ndC zeroN).toArray.size) := Lib.hid (by rw [size34 zeroN_ok]; simp)
  obtain ⟨X, HX⟩ : ∃ X, Hid ((l.map fun x => Value.int .u8 (x : Nat)).toArray = X) := ⟨_, Lib.hid rfl⟩
  have e0 : dgV l = .agg X := by unfold dgV; rw [HX.out]
  rw [e0]
  clear e0
  obtain ⟨t1, t2, t3, t4⟩ := three_rows3 w #[.int .i64 c0, .int .i64 c1, .int .i64 c2, .int .i64 c3, .int .i64 c4] X #[.int .u8 0, .int .u8 0, .int .u8 0, .int .u8 0, .int .u8 0, .int .u8 0, .int .u8 0, .int .u8 0, .int .u8 0, .int .u8 0, .int .u8 0, .int .u8 0, .int .u8 0, .int .u8 0, .int .u8 0, .int .u8 0, .int .u8 0, .int .u8 0, .int .u8 0, .int .u8 0, .int .u8 0, .int .u8 0, .int .u8 0, .int .u8 0, .int .u8 0, .int .u8 0, .int .u8 0, .int .u8 0, .int .u8 0, .int .u8 0, .int .u8 0, .int .u8 0, .int .i64 0, .int .i64 0] 41 25 31
  have HB1 := Lib.hid t1
  have HRR := Lib.hid t4
  have k0 := five_cells t2 0 (by omega)
  have k1 := five_cells t2 1 (by omega)
  have k2 := five_cells t2 2 (by omega)
  have k3 := five_cells t2 3 (by omega)
  have k4 := five_cells t2 4 (by omega)
  have HSZ2 := HSZ
  have HON := Lib.hid (ndC_one zeroN)
  rw [← zeros34] at HSZ2 HON
  clear t1 t2 t3 t4
  go_enter Tryd.func27, Tryd.ntmps27
  go_wp2_with (first | (refine wpList_load_row rfl 31 (.tmp 4) rfl (w.heap.size + 1 + 1) rfl 31 _ (0, 0) _ HRR.out Tryd.underlying31 rfl HSZ2.out ?_) | (refine wpList_store_row rfl 31 (.tmp 4) (.tmp 54) rfl (w.heap.size + 1 + 1) #[.int .u8 0, .int .u8 0, .int .u8 0, .int .u8 0, .int .u8 0, .int .u8 0, .int .u8 0, .int .u8 0, .int .u8 0, .int .u8 0, .int .u8 0, .int .u8 0, .int .u8 0, .int .u8 0, .int .u8 0, .int .u8 0, .int .u8 0, .int .u8 0, .int .u8 0, .int .u8 0, .int .u8 0, .int .u8 0, .int .u8 0, .int .u8 0, .int .u8 0, .int .u8 0, .int .u8 0, .int .u8 0, .int .u8 0, .int .u8 0, .int .u8 0, .int .u8 0, .int .i64 0, .int .i64 0] ?ha ?hb 31 _ HRR.out HSZ2.out rfl HON.out ?hc))
  rw [zeros34] at HB1 HRR
  rw [zeros34]
  have hr := setRow_heap _ (w.heap.size + 1 + 1) _ (ndC zeroN).toArray _ _ HRR.out
  have hl := run_loadVar_row (P := Tryd.prog) _ (w.heap.size + 1 + 1) 31 31 (ndC zeroN).toArray (0, 0) _ hr Tryd.underlying31 rfl HSZ.out
  refine bodyPost_ret (v := .tuple #[ndV zeroN, .int .i64 410]) ?_ rfl ⟨rfl, below_setRow HB1.out (by omega) _⟩
  unfold ndV
  simp [results, Tryd.results27, asAddr, hl]

set_option maxHeartbeats 4000000 in
theorem leaf_n3 (c0 c1 c2 c3 c4 : Int) (l : List Nat) (w : World) (d0 : decide (c0 < 0) = false) (d1 : decide (4096 ≤ c0) = false) (d2 : decide (c1 < 0) = false) (d3 : decide (1024 ≤ c1) = true) :
    Calls Tryd.prog 27 #[.agg #[.int .i64 c0, .int .i64 c1, .int .i64 c2, .int .i64 c3, .int .i64 c4], dgV l] w fun e w' => e = .returned (.tuple #[ndV zeroN, .int .i64 410]) ∧ Below w.heap.size w w' := by
  have HSZ : Hid ((Tryd.prog.info? 31).map (·.size) = some (ndC zeroN).toArray.size) := Lib.hid (by rw [size34 zeroN_ok]; simp)
  obtain ⟨X, HX⟩ : ∃ X, Hid ((l.map fun x => Value.int .u8 (x : Nat)).toArray = X) := ⟨_, Lib.hid rfl⟩
  have e0 : dgV l = .agg X := by unfold dgV; rw [HX.out]
  rw [e0]
  clear e0
  obtain ⟨t1, t2, t3, t4⟩ := three_rows3 w #[.int .i64 c0, .int .i64 c1, .int .i64 c2, .int .i64 c3, .int .i64 c4] X #[.int .u8 0, .int .u8 0, .int .u8 0, .int .u8 0, .int .u8 0, .int .u8 0, .int .u8 0, .int .u8 0, .int .u8 0, .int .u8 0, .int .u8 0, .int .u8 0, .int .u8 0, .int .u8 0, .int .u8 0, .int .u8 0, .int .u8 0, .int .u8 0, .int .u8 0, .int .u8 0, .int .u8 0, .int .u8 0, .int .u8 0, .int .u8 0, .int .u8 0, .int .u8 0, .int .u8 0, .int .u8 0, .int .u8 0, .int .u8 0, .int .u8 0, .int .u8 0, .int .i64 0, .int .i64 0] 41 25 31
  have HB1 := Lib.hid t1
  have HRR := Lib.hid t4
  have k0 := five_cells t2 0 (by omega)
  have k1 := five_cells t2 1 (by omega)
  have k2 := five_cells t2 2 (by omega)
  have k3 := five_cells t2 3 (by omega)
  have k4 := five_cells t2 4 (by omega)
  have HSZ2 := HSZ
  have HON := Lib.hid (ndC_one zeroN)
  rw [← zeros34] at HSZ2 HON
  clear t1 t2 t3 t4
  go_enter Tryd.func27, Tryd.ntmps27
  go_wp2_with (first | (refine wpList_load_row rfl 31 (.tmp 4) rfl (w.heap.size + 1 + 1) rfl 31 _ (0, 0) _ HRR.out Tryd.underlying31 rfl HSZ2.out ?_) | (refine wpList_store_row rfl 31 (.tmp 4) (.tmp 54) rfl (w.heap.size + 1 + 1) #[.int .u8 0, .int .u8 0, .int .u8 0, .int .u8 0, .int .u8 0, .int .u8 0, .int .u8 0, .int .u8 0, .int .u8 0, .int .u8 0, .int .u8 0, .int .u8 0, .int .u8 0, .int .u8 0, .int .u8 0, .int .u8 0, .int .u8 0, .int .u8 0, .int .u8 0, .int .u8 0, .int .u8 0, .int .u8 0, .int .u8 0, .int .u8 0, .int .u8 0, .int .u8 0, .int .u8 0, .int .u8 0, .int .u8 0, .int .u8 0, .int .u8 0, .int .u8 0, .int .i64 0, .int .i64 0] ?ha ?hb 31 _ HRR.out HSZ2.out rfl HON.out ?hc))
  rw [zeros34] at HB1 HRR
  rw [zeros34]
  have hr := setRow_heap _ (w.heap.size + 1 + 1) _ (ndC zeroN).toArray _ _ HRR.out
  have hl := run_loadVar_row (P := Tryd.prog) _ (w.heap.size + 1 + 1) 31 31 (ndC zeroN).toArray (0, 0) _ hr Tryd.underlying31 rfl HSZ.out
  refine bodyPost_ret (v := .tuple #[ndV zeroN, .int .i64 410]) ?_ rfl ⟨rfl, below_setRow HB1.out (by omega) _⟩
  unfold ndV
  simp [results, Tryd.results27, asAddr, hl]

set_option maxHeartbeats 4000000 in
theorem leaf_n4 (c0 c1 c2 c3 c4 : Int) (l : List Nat) (w : World) (d0 : decide (c0 < 0) = false) (d1 : decide (4096 ≤ c0) = false) (d2 : decide (c1 < 0) = false) (d3 : decide (1024 ≤ c1) = false) (d4 : decide (c2 < 0) = true) :
    Calls Tryd.prog 27 #[.agg #[.int .i64 c0, .int .i64 c1, .int .i64 c2, .int .i64 c3, .int .i64 c4], dgV l] w fun e w' => e = .returned (.tuple #[ndV zeroN, .int .i64 410]) ∧ Below w.heap.size w w' := by
  have HSZ : Hid ((Tryd.prog.info? 31).map (·.size) = some (ndC zeroN).toArray.size) := Lib.hid (by rw [size34 zeroN_ok]; simp)
  obtain ⟨X, HX⟩ : ∃ X, Hid ((l.map fun x => Value.int .u8 (x : Nat)).toArray = X) := ⟨_, Lib.hid rfl⟩
  have e0 : dgV l = .agg X := by unfold dgV; rw [HX.out]
  rw [e0]
  clear e0
  obtain ⟨t1, t2, t3, t4⟩ := three_rows3 w #[.int .i64 c0, .int .i64 c1, .int .i64 c2, .int .i64 c3, .int .i64 c4] X #[.int .u8 0, .int .u8 0, .int .u8 0, .int .u8 0, .int .u8 0, .int .u8 0, .int .u8 0, .int .u8 0, .int .u8 0, .int .u8 0, .int .u8 0, .int .u8 0, .int .u8 0, .int .u8 0, .int .u8 0, .int .u8 0, .int .u8 0, .int .u8 0, .int .u8 0, .int .u8 0, .int .u8 0, .int .u8 0, .int .u8 0, .int .u8 0, .int .u8 0, .int .u8 0, .int .u8 0, .int .u8 0, .int .u8 0, .int .u8 0, .int .u8 0, .int .u8 0, .int .i64 0, .int .i64 0] 41 25 31
  have HB1 := Lib.hid t1
  have HRR := Lib.hid t4
  have k0 := five_cells t2 0 (by omega)
  have k1 := five_cells t2 1 (by omega)
  have k2 := five_cells t2 2 (by omega)
  have k3 := five_cells t2 3 (by omega)
  have k4 := five_cells t2 4 (by omega)
  have HSZ2 := HSZ
  have HON := Lib.hid (ndC_one zeroN)
  rw [← zeros34] at HSZ2 HON
  clear t1 t2 t3 t4
  go_enter Tryd.func27, Tryd.ntmps27
  go_wp2_with (first | (refine wpList_load_row rfl 31 (.tmp 4) rfl (w.heap.size + 1 + 1) rfl 31 _ (0, 0) _ HRR.out Tryd.underlying31 rfl HSZ2.out ?_) | (refine wpList_store_row rfl 31 (.tmp 4) (.tmp 54) rfl (w.heap.size + 1 + 1) #[.int .u8 0, .int .u8 0, .int .u8 0, .int .u8 0, .int .u8 0, .int .u8 0, .int .u8 0, .int .u8 0, .int .u8 0, .int .u8 0, .int .u8 0, .int .u8 0, .int .u8 0, .int .u8 0, .int .u8 0, .int .u8 0, .int .u8 0, .int .u8 0, .int .u8 0, .int .u8 0, .int .u8 0, .int .u8 0, .int .u8 0, .int .u8 0, .int .u8 0, .int .u8 0, .int .u8 0, .int .u8 0, .int .u8 0, .int .u8 0, .int .u8 0, .int .u8 0, .int .i64 0, .int .i64 0] ?ha ?hb 31 _ HRR.out HSZ2.out rfl HON.out ?hc))
  rw [zeros34] at HB1 HRR
  rw [zeros34]
  have hr := setRow_heap _ (w.heap.size + 1 + 1) _ (ndC zeroN).toArray _ _ HRR.out
  have hl := run_loadVar_row (P := Tryd.prog) _ (w.heap.size + 1 + 1) 31 31 (ndC zeroN).toArray (0, 0) _ hr Tryd.underlying31 rfl HSZ.out
  refine bodyPost_ret (v := .tuple #[ndV zeroN, .int .i64 410]) ?_ rfl ⟨rfl, below_setRow HB1.out (by omega) _⟩
  unfold ndV
  simp [results, Tryd.results27, asAddr, hl]

set_option maxHeartbeats 4000000 in
theorem leaf_n5 (c0 c1 c2 c3 c4 : Int) (l : List Nat) (w : World) (d0 : decide (c0 < 0) = false) (d1 : decide (4096 ≤ c0) = false) (d2 : decide (c1 < 0) = false) (d3 : decide (1024 ≤ c1) = false) (d4 : decide (c2 < 0) = false) (d5 : decide (12 < c2) = true) :
    Calls Tryd.prog 27 #[.agg #[.int .i64 c0, .int .i64 c1, .int .i64 c2, .int .i64 c3, .int .i64 c4], dgV l] w fun e w' => e = .returned (.tuple #[ndV zeroN, .int .i64 410]) ∧ Below w.heap.size w w' := by
  have HSZ : Hid ((Tryd.prog.info? 31).map (·.size) = some (ndC zeroN).toArray.size) := Lib.hid (by rw [size34 zeroN_ok]; simp)
  obtain ⟨X, HX⟩ : ∃ X, Hid ((l.map fun x => Value.int .u8 (x : Nat)).toArray = X) := ⟨_, Lib.hid rfl⟩
  have e0 : dgV l = .agg X := by unfold dgV; rw [HX.out]
  rw [e0]
  clear e0
  obtain ⟨t1, t2, t3, t4⟩ := three_rows3 w #[.int .i64 c0, .int .i64 c1, .int .i64 c2, .int .i64 c3, .int .i64 c4] X #[.int .u8 0, .int .u8 0, .int .u8 0, .int .u8 0, .int .u8 0, .int .u8 0, .int .u8 0, .int .u8 0, .int .u8 0, .int .u8 0, .int .u8 0, .int .u8 0, .int .u8 0, .int .u8 0, .int .u8 0, .int .u8 0, .int .u8 0, .int .u8 0, .int .u8 0, .int .u8 0, .int .u8 0, .int .u8 0, .int .u8 0, .int .u8 0, .int .u8 0, .int .u8 0, .int .u8 0, .int .u8 0, .int .u8 0, .int .u8 0, .int .u8 0, .int .u8 0, .int .i64 0, .int .i64 0] 41 25 31
  have HB1 := Lib.hid t1
  have HRR := Lib.hid t4
  have k0 := five_cells t2 0 (by omega)
  have k1 := five_cells t2 1 (by omega)
  have k2 := five_cells t2 2 (by omega)
  have k3 := five_cells t2 3 (by omega)
  have k4 := five_cells t2 4 (by omega)
  have HSZ2 := HSZ
  have HON := Lib.hid (ndC_one zeroN)
  rw [← zeros34] at HSZ2 HON
  clear t1 t2 t3 t4
  go_enter Tryd.func27, Tryd.ntmps27
  go_wp2_with (first | (refine wpList_load_row rfl 31 (.tmp 4) rfl (w.heap.size + 1 + 1) rfl 31 _ (0, 0) _ HRR.out Tryd.underlying31 rfl HSZ2.out ?_) | (refine wpList_store_row rfl 31 (.tmp 4) (.tmp 54) rfl (w.heap.size + 1 + 1) #[.int .u8 0, .int .u8 0, .int .u8 0, .int .u8 0, .int .u8 0, .int .u8 0, .int .u8 0, .int .u8 0, .int .u8 0, .int .u8 0, .int .u8 0, .int .u8 0, .int .u8 0, .int .u8 0, .int .u8 0, .int .u8 0, .int .u8 0, .int .u8 0, .int .u8 0, .int .u8 0, .int .u8 0, .int .u8 0, .int .u8 0, .int .u8 0, .int .u8 0, .int .u8 0, .int .u8 0, .int .u8 0, .int .u8 0, .int .u8 0, .int .u8 0, .int .u8 0, .int .i64 0, .int .i64 0] ?ha ?hb 31 _ HRR.out HSZ2.out rfl HON.out ?hc))
  rw [zeros34] at HB1 HRR
  rw [zeros34]
  have hr := setRow_heap _ (w.heap.size + 1 + 1) _ (ndC zeroN).toArray _ _ HRR.out
  have hl := run_loadVar_row (P := Tryd.prog) _ (w.heap.size + 1 + 1) 31 31 (ndC zeroN).toArray (0, 0) _ hr Tryd.underlying31 rfl HSZ.out
  refine bodyPost_ret (v := .tuple #[ndV zeroN, .int .i64 410]) ?_ rfl ⟨rfl, below_setRow HB1.out (by omega) _⟩
  unfold ndV
  simp [results, Tryd.results27, asAddr, hl]

set_option maxHeartbeats 4000000 in
theorem leaf_n6 (c0 c1 c2 c3 c4 : Int) (l : List Nat) (w : World) (d0 : decide (c0 < 0) = false) (d1 : decide (4096 ≤ c0) = false) (d2 : decide (c1 < 0) = false) (d3 : decide (1024 ≤ c1) = false) (d4 : decide (c2 < 0) = false) (d5 : decide (12 < c2) = false) (d6 : decide (c3 < 0) = true) :
    Calls Tryd.prog 27 #[.agg #[.int .i64 c0, .int .i64 c1, .int .i64 c2, .int .i64 c3, .int .i64 c4], dgV l] w fun e w' => e = .returned (.tuple #[ndV zeroN, .int .i64 410]) ∧ Below w.heap.size w w' := by
  have HSZ : Hid ((Tryd.prog.info? 31).map (·.size) = some (ndC zeroN).toArray.size) := Lib.hid (by rw [size34 zeroN_ok]; simp)
  obtain ⟨X, HX⟩ : ∃ X, Hid ((l.map fun x => Value.int .u8 (x : Nat)).toArray = X) := ⟨_, Lib.hid rfl⟩
  have e0 : dgV l = .agg X := by unfold dgV; rw [HX.out]
  rw [e0]
  clear e0
  obtain ⟨t1, t2, t3, t4⟩ := three_rows3 w #[.int .i64 c0, .int .i64 c1, .int .i64 c2, .int .i64 c3, .int .i64 c4] X #[.int .u8 0, .int .u8 0, .int .u8 0, .int .u8 0, .int .u8 0, .int .u8 0, .int .u8 0, .int .u8 0, .int .u8 0, .int .u8 0, .int .u8 0, .int .u8 0, .int .u8 0, .int .u8 0, .int .u8 0, .int .u8 0, .int .u8 0, .int .u8 0, .int .u8 0, .int .u8 0, .int .u8 0, .int .u8 0, .int .u8 0, .int .u8 0, .int .u8 0, .int .u8 0, .int .u8 0, .int .u8 0, .int .u8 0, .int .u8 0, .int .u8 0, .int .u8 0, .int .i64 0, .int .i64 0] 41 25 31
  have HB1 := Lib.hid t1
  have HRR := Lib.hid t4
  have k0 := five_cells t2 0 (by omega)
  have k1 := five_cells t2 1 (by omega)
  have k2 := five_cells t2 2 (by omega)
  have k3 := five_cells t2 3 (by omega)
  have k4 := five_cells t2 4 (by omega)
  have HSZ2 := HSZ
  have HON := Lib.hid (ndC_one zeroN)
  rw [← zeros34] at HSZ2 HON
  clear t1 t2 t3 t4
  go_enter Tryd.func27, Tryd.ntmps27
  go_wp2_with (first | (refine wpList_load_row rfl 31 (.tmp 4) rfl (w.heap.size + 1 + 1) rfl 31 _ (0, 0) _ HRR.out Tryd.underlying31 rfl HSZ2.out ?_) | (refine wpList_store_row rfl 31 (.tmp 4) (.tmp 54) rfl (w.heap.size + 1 + 1) #[.int .u8 0, .int .u8 0, .int .u8 0, .int .u8 0, .int .u8 0, .int .u8 0, .int .u8 0, .int .u8 0, .int .u8 0, .int .u8 0, .int .u8 0, .int .u8 0, .int .u8 0, .int .u8 0, .int .u8 0, .int .u8 0, .int .u8 0, .int .u8 0, .int .u8 0, .int .u8 0, .int .u8 0, .int .u8 0, .int .u8 0, .int .u8 0, .int .u8 0, .int .u8 0, .int .u8 0, .int .u8 0, .int .u8 0, .int .u8 0, .int .u8 0, .int .u8 0, .int .i64 0, .int .i64 0] ?ha ?hb 31 _ HRR.out HSZ2.out rfl HON.out ?hc))
  rw [zeros34] at HB1 HRR
  rw [zeros34]
  have hr := setRow_heap _ (w.heap.size + 1 + 1) _ (ndC zeroN).toArray _ _ HRR.out
  have hl := run_loadVar_row (P := Tryd.prog) _ (w.heap.size + 1 + 1) 31 31 (ndC zeroN).toArray (0, 0) _ hr Tryd.underlying31 rfl HSZ.out
  refine bodyPost_ret (v := .tuple #[ndV zeroN, .int .i64 410]) ?_ rfl ⟨rfl, below_setRow HB1.out (by omega) _⟩
  unfold ndV
  simp [results, Tryd.results27, asAddr, hl]

set_option maxHeartbeats 4000000 in
theorem leaf_n7 (c0 c1 c2 c3 c4 : Int) (l : List Nat) (w : World) (d0 : decide (c0 < 0) = false) (d1 : decide (4096 ≤ c0) = false) (d2 : decide (c1 < 0) = false) (d3 : decide (1024 ≤ c1) = false) (d4 : decide (c2 < 0) = false) (d5 : decide (12 < c2) = false) (d6 : decide (c3 < 0) = false) (d7 : decide (60 < c3) = true) :
    Calls Tryd.prog 27 #[.agg #[.int .i64 c0, .int .i64 c1, .int .i64 c2, .int .i64 c3, .int .i64 c4], dgV l] w fun e w' => e = .returned (.tuple #[ndV zeroN, .int .i64 410]) ∧ Below w.heap.size w w' := by
  have HSZ : Hid ((Tryd.prog.info? 31).map (·.size) = some (ndC zeroN).toArray.size) := Lib.hid (by rw [size34 zeroN_ok]; simp)
  obtain ⟨X, HX⟩ : ∃ X, Hid ((l.map fun x => Value.int .u8 (x : Nat)).toArray = X) := ⟨_, Lib.hid rfl⟩
  have e0 : dgV l = .agg X := by unfold dgV; rw [HX.out]
  rw [e0]
  clear e0
  obtain ⟨t1, t2, t3, t4⟩ := three_rows3 w #[.int .i64 c0, .int .i64 c1, .int .i64 c2, .int .i64 c3, .int .i64 c4] X #[.int .u8 0, .int .u8 0, .int .u8 0, .int .u8 0, .int .u8 0, .int .u8 0, .int .u8 0, .int .u8 0, .int .u8 0, .int .u8 0, .int .u8 0, .int .u8 0, .int .u8 0, .int .u8 0, .int .u8 0, .int .u8 0, .int .u8 0, .int .u8 0, .int .u8 0, .int .u8 0, .int .u8 0, .int .u8 0, .int .u8 0, .int .u8 0, .int .u8 0, .int .u8 0, .int .u8 0, .int .u8 0, .int .u8 0, .int .u8 0, .int .u8 0, .int .u8 0, .int .i64 0, .int .i64 0] 41 25 31
  have HB1 := Lib.hid t1
  have HRR := Lib.hid t4
  have k0 := five_cells t2 0 (by omega)
  have k1 := five_cells t2 1 (by omega)
  have k2 := five_cells t2 2 (by omega)
  have k3 := five_cells t2 3 (by omega)
  have k4 := five_cells t2 4 (by omega)
  have HSZ2 := HSZ
  have HON := Lib.hid (ndC_one zeroN)
  rw [← zeros34] at HSZ2 HON
  clear t1 t2 t3 t4
  go_enter Tryd.func27, Tryd.ntmps27
  go_wp2_with (first | (refine wpList_load_row rfl 31 (.tmp 4) rfl (w.heap.size + 1 + 1) rfl 31 _ (0, 0) _ HRR.out Tryd.underlying31 rfl HSZ2.out ?_) | (refine wpList_store_row rfl 31 (.tmp 4) (.tmp 54) rfl (w.heap.size + 1 + 1) #[.int .u8 0, .int .u8 0, .int .u8 0, .int .u8 0, .int .u8 0, .int .u8 0, .int .u8 0, .int .u8 0, .int .u8 0, .int .u8 0, .int .u8 0, .int .u8 0, .int .u8 0, .int .u8 0, .int .u8 0, .int .u8 0, .int .u8 0, .int .u8 0, .int .u8 0, .int .u8 0, .int .u8 0, .int .u8 0, .int .u8 0, .int .u8 0, .int .u8 0, .int .u8 0, .int .u8 0, .int .u8 0, .int .u8 0, .int .u8 0, .int .u8 0, .int .u8 0, .int .i64 0, .int .i64 0] ?ha ?hb 31 _ HRR.out HSZ2.out rfl HON.out ?hc))
  rw [zeros34] at HB1 HRR
  rw [zeros34]
  have hr := setRow_heap _ (w.heap.size + 1 + 1) _ (ndC zeroN).toArray _ _ HRR.out
  have hl := run_loadVar_row (P := Tryd.prog) _ (w.heap.size + 1 + 1) 31 31 (ndC zeroN).toArray (0, 0) _ hr Tryd.underlying31 rfl HSZ.out
  refine bodyPost_ret (v := .tuple #[ndV zeroN, .int .i64 410]) ?_ rfl ⟨rfl, below_setRow HB1.out (by omega) _⟩
  unfold ndV
  simp [results, Tryd.results27, asAddr, hl]

set_option maxHeartbeats 4000000 in
theorem leaf_n8 (c0 c1 c2 c3 c4 : Int) (l : List Nat) (w : World) (d0 : decide (c0 < 0) = false) (d1 : decide (4096 ≤ c0) = false) (d2 : decide (c1 < 0) = false) (d3 : decide (1024 ≤ c1) = false) (d4 : decide (c2 < 0) = false) (d5 : decide (12 < c2) = false) (d6 : decide (c3 < 0) = false) (d7 : decide (60 < c3) = false) (d8 : decide (c4 < 0) = true) :
    Calls Tryd.prog 27 #[.agg #[.int .i64 c0, .int .i64 c1, .int .i64 c2, .int .i64 c3, .int .i64 c4], dgV l] w fun e w' => e = .returned (.tuple #[ndV zeroN, .int .i64 410]) ∧ Below w.heap.size w w' := by
  have HSZ : Hid ((Tryd.prog.info? 31).map (·.size) = some (ndC zeroN).toArray.size) := Lib.hid (by rw [size34 zeroN_ok]; simp)
  obtain ⟨X, HX⟩ : ∃ X, Hid ((l.map fun x => Value.int .u8 (x : Nat)).toArray = X) := ⟨_, Lib.hid rfl⟩
  have e0 : dgV l = .agg X := by unfold dgV; rw [HX.out]
  rw [e0]
  clear e0
  obtain ⟨t1, t2, t3, t4⟩ := three_rows3 w #[.int .i64 c0, .int .i64 c1, .int .i64 c2, .int .i64 c3, .int .i64 c4] X #[.int .u8 0, .int .u8 0, .int .u8 0, .int .u8 0, .int .u8 0, .int .u8 0, .int .u8 0, .int .u8 0, .int .u8 0, .int .u8 0, .int .u8 0, .int .u8 0, .int .u8 0, .int .u8 0, .int .u8 0, .int .u8 0, .int .u8 0, .int .u8 0, .int .u8 0, .int .u8 0, .int .u8 0, .int .u8 0, .int .u8 0, .int .u8 0, .int .u8 0, .int .u8 0, .int .u8 0, .int .u8 0, .int .u8 0, .int .u8 0, .int .u8 0, .int .u8 0, .int .i64 0, .int .i64 0] 41 25 31
  have HB1 := Lib.hid t1
  have HRR := Lib.hid t4
  have k0 := five_cells t2 0 (by omega)
  have k1 := five_cells t2 1 (by omega)
  have k2 := five_cells t2 2 (by omega)
  have k3 := five_cells t2 3 (by omega)
  have k4 := five_cells t2 4 (by omega)
  have HSZ2 := HSZ
  have HON := Lib.hid (ndC_one zeroN)
  rw [← zeros34] at HSZ2 HON
  clear t1 t2 t3 t4
  go_enter Tryd.func27, Tryd.ntmps27
  go_wp2_with (first | (refine wpList_load_row rfl 31 (.tmp 4) rfl (w.heap.size + 1 + 1) rfl 31 _ (0, 0) _ HRR.out Tryd.underlying31 rfl HSZ2.out ?_) | (refine wpList_store_row rfl 31 (.tmp 4) (.tmp 54) rfl (w.heap.size + 1 + 1) #[.int .u8 0, .int .u8 0, .int .u8 0, .int .u8 0, .int .u8 0, .int .u8 0, .int .u8 0, .int .u8 0, .int .u8 0, .int .u8 0, .int .u8 0, .int .u8 0, .int .u8 0, .int .u8 0, .int .u8 0, .int .u8 0, .int .u8 0, .int .u8 0, .int .u8 0, .int .u8 0, .int .u8 0, .int .u8 0, .int .u8 0, .int .u8 0, .int .u8 0, .int .u8 0, .int .u8 0, .int .u8 0, .int .u8 0, .int .u8 0, .int .u8 0, .int .u8 0, .int .i64 0, .int .i64 0] ?ha ?hb 31 _ HRR.out HSZ2.out rfl HON.out ?hc))
  rw [zeros34] at HB1 HRR
  rw [zeros34]
  have hr := setRow_heap _ (w.heap.size + 1 + 1) _ (ndC zeroN).toArray _ _ HRR.out
  have hl := run_loadVar_row (P := Tryd.prog) _ (w.heap.size + 1 + 1) 31 31 (ndC zeroN).toArray (0, 0) _ hr Tryd.underlying31 rfl HSZ.out
  refine bodyPost_ret (v := .tuple #[ndV zeroN, .int .i64 410]) ?_ rfl ⟨rfl, below_setRow HB1.out (by omega) _⟩
  unfold ndV
  simp [results, Tryd.results27, asAddr, hl]

set_option maxHeartbeats 4000000 in
theorem leaf_n9 (c0 c1 c2 c3 c4 : Int) (l : List Nat) (w : World) (d0 : decide (c0 < 0) = false) (d1 : decide (4096 ≤ c0) = false) (d2 : decide (c1 < 0) = false) (d3 : decide (1024 ≤ c1) = false) (d4 : decide (c2 < 0) = false) (d5 : decide (12 < c2) = false) (d6 : decide (c3 < 0) = false) (d7 : decide (60 < c3) = false) (d8 : decide (c4 < 0) = false) (d9 : decide (7 ≤ c4) = true) :
    Calls Tryd.prog 27 #[.agg #[.int .i64 c0, .int .i64 c1, .int .i64 c2, .int .i64 c3, .int .i64 c4], dgV l] w fun e w' => e = .returned (.tuple #[ndV zeroN, .int .i64 410]) ∧ Below w.heap.size w w' := by
  have HSZ : Hid ((Tryd.prog.info? 31).map (·.size) = some (ndC zeroN).toArray.size) := Lib.hid (by rw [size34 zeroN_ok]; simp)
  obtain ⟨X, HX⟩ : ∃ X, Hid ((l.map fun x => Value.int .u8 (x : Nat)).toArray = X) := ⟨_, Lib.hid rfl⟩
  have e0 : dgV l = .agg X := by unfold dgV; rw [HX.out]
  rw [e0]
  clear e0
  obtain ⟨t1, t2, t3, t4⟩ := three_rows3 w #[.int .i64 c0, .int .i64 c1, .int .i64 c2, .int .i64 c3, .int .i64 c4] X #[.int .u8 0, .int .u8 0, .int .u8 0, .int .u8 0, .int .u8 0, .int .u8 0, .int .u8 0, .int .u8 0, .int .u8 0, .int .u8 0, .int .u8 0, .int .u8 0, .int .u8 0, .int .u8 0, .int .u8 0, .int .u8 0, .int .u8 0, .int .u8 0, .int .u8 0, .int .u8 0, .int .u8 0, .int .u8 0, .int .u8 0, .int .u8 0, .int .u8 0, .int .u8 0, .int .u8 0, .int .u8 0, .int .u8 0, .int .u8 0, .int .u8 0, .int .u8 0, .int .i64 0, .int .i64 0] 41 25 31
  have HB1 := Lib.hid t1
  have HRR := Lib.hid t4
  have k0 := five_cells t2 0 (by omega)
  have k1 := five_cells t2 1 (by omega)
  have k2 := five_cells t2 2 (by omega)
  have k3 := five_cells t2 3 (by omega)
  have k4 := five_cells t2 4 (by omega)
  have HSZ2 := HSZ
  have HON := Lib.hid (ndC_one zeroN)
  rw [← zeros34] at HSZ2 HON
  clear t1 t2 t3 t4
  go_enter Tryd.func27, Tryd.ntmps27
  go_wp2_with (first | (refine wpList_load_row rfl 31 (.tmp 4) rfl (w.heap.size + 1 + 1) rfl 31 _ (0, 0) _ HRR.out Tryd.underlying31 rfl HSZ2.out ?_) | (refine wpList_store_row rfl 31 (.tmp 4) (.tmp 54) rfl (w.heap.size + 1 + 1) #[.int .u8 0, .int .u8 0, .int .u8 0, .int .u8 0, .int .u8 0, .int .u8 0, .int .u8 0, .int .u8 0, .int .u8 0, .int .u8 0, .int .u8 0, .int .u8 0, .int .u8 0, .int .u8 0, .int .u8 0, .int .u8 0, .int .u8 0, .int .u8 0, .int .u8 0, .int .u8 0, .int .u8 0, .int .u8 0, .int .u8 0, .int .u8 0, .int .u8 0, .int .u8 0, .int .u8 0, .int .u8 0, .int .u8 0, .int .u8 0, .int .u8 0, .int .u8 0, .int .i64 0, .int .i64 0] ?ha ?hb 31 _ HRR.out HSZ2.out rfl HON.out ?hc))
  rw [zeros34] at HB1 HRR
  rw [zeros34]
  have hr := setRow_heap _ (w.heap.size + 1 + 1) _ (ndC zeroN).toArray _ _ HRR.out
  have hl := run_loadVar_row (P := Tryd.prog) _ (w.heap.size + 1 + 1) 31 31 (ndC zeroN).toArray (0, 0) _ hr Tryd.underlying31 rfl HSZ.out
  refine bodyPost_ret (v := .tuple #[ndV zeroN, .int .i64 410]) ?_ rfl ⟨rfl, below_setRow HB1.out (by omega) _⟩
  unfold ndV
  simp [results, Tryd.results27, asAddr, hl]

theorem leaf_no (c0 c1 c2 c3 c4 : Int) (l : List Nat) (w : World) (h : ¬ lOk c0 c1 c2 c3 c4) :
    Calls Tryd.prog 27 #[.agg #[.int .i64 c0, .int .i64 c1, .int .i64 c2, .int .i64 c3, .int .i64 c4], dgV l] w fun e w' => e = .returned (.tuple #[ndV zeroN, .int .i64 410]) ∧ Below w.heap.size w w' := by
  by_cases b0 : c0 < 0
  · exact leaf_n0 c0 c1 c2 c3 c4 l w  (decide_eq_true b0)
  by_cases b1 : 4096 ≤ c0
  · exact leaf_n1 c0 c1 c2 c3 c4 l w (decide_eq_false b0) (decide_eq_true b1)
  by_cases b2 : c1 < 0
  · exact leaf_n2 c0 c1 c2 c3 c4 l w (decide_eq_false b0) (decide_eq_false b1) (decide_eq_true b2)
  by_cases b3 : 1024 ≤ c1
  · exact leaf_n3 c0 c1 c2 c3 c4 l w (decide_eq_false b0) (decide_eq_false b1) (decide_eq_false b2) (decide_eq_true b3)
  by_cases b4 : c2 < 0
  · exact leaf_n4 c0 c1 c2 c3 c4 l w (decide_eq_false b0) (decide_eq_false b1) (decide_eq_false b2) (decide_eq_false b3) (decide_eq_true b4)
  by_cases b5 : 12 < c2
  · exact leaf_n5 c0 c1 c2 c3 c4 l w (decide_eq_false b0) (decide_eq_false b1) (decide_eq_false b2) (decide_eq_false b3) (decide_eq_false b4) (decide_eq_true b5)
  by_cases b6 : c3 < 0
  · exact leaf_n6 c0 c1 c2 c3 c4 l w (decide_eq_false b0) (decide_eq_false b1) (decide_eq_false b2) (decide_eq_false b3) (decide_eq_false b4) (decide_eq_false b5) (decide_eq_true b6)
  by_cases b7 : 60 < c3
  · exact leaf_n7 c0 c1 c2 c3 c4 l w (decide_eq_false b0) (decide_eq_false b1) (decide_eq_false b2) (decide_eq_false b3) (decide_eq_false b4) (decide_eq_false b5) (decide_eq_false b6) (decide_eq_true b7)
  by_cases b8 : c4 < 0
  · exact leaf_n8 c0 c1 c2 c3 c4 l w (decide_eq_false b0) (decide_eq_false b1) (decide_eq_false b2) (decide_eq_false b3) (decide_eq_false b4) (decide_eq_false b5) (decide_eq_false b6) (decide_eq_false b7) (decide_eq_true b8)
  by_cases b9 : 7 ≤ c4
  · exact leaf_n9 c0 c1 c2 c3 c4 l w (decide_eq_false b0) (decide_eq_false b1) (decide_eq_false b2) (decide_eq_false b3) (decide_eq_false b4) (decide_eq_false b5) (decide_eq_false b6) (decide_eq_false b7) (decide_eq_false b8) (decide_eq_true b9)
  exact absurd (show lOk c0 c1 c2 c3 c4 by unfold lOk; omega) h
end Go.Proofs.YtmfmgeapecapiaaDoor
namespace Go.Proofs.YtmfmgeapecapiaaDoor
open Go.RowKit SzSha SzTree
set_option linter.unusedVariables false
set_option maxRecDepth 100000
theorem half_step {f k n : Nat} (h : 2 * k < n) (hn : n ≤ 1000000) (hf : 18446744073709551616 ≤ k * 2 ^ f) : ∃ g, halfF f k n = halfF g (2 * k) n ∧ 18446744073709551616 ≤ (2 * k) * 2 ^ g := by
  cases f with
  | zero => simp at hf; omega
  | succ f => refine ⟨f, by conv => lhs; unfold halfF
                            rw [if_pos h], by rw [Nat.pow_succ] at hf; rw [show 2 * k * 2 ^ f = k * (2 ^ f * 2) by rw [Nat.mul_comm 2 k, Nat.mul_assoc, Nat.mul_comm 2]]; exact hf⟩
theorem half_end {f k n : Nat} (h : ¬ 2 * k < n) : halfF f k n = k := by
  cases f with
  | zero => rfl
  | succ f => unfold halfF; rw [if_neg h]
set_option maxHeartbeats 2000000 in
theorem half_any (n : Nat) (w : World) (hn : n ≤ 1000000) : Calls Tryd.prog 109 #[.int .i64 (n : Nat)] w fun e w' => e = .returned (.int .i64 (half n : Nat)) ∧ w = w' := by
  go_enter Tryd.func109, Tryd.ntmps109
  go_wp2_with fail
  go_loop [3] (fun v => ∃ k : Nat, v = .int .i64 (k : Nat) ∧ 1 ≤ k ∧ k ≤ 1000000 ∧ Hid (∃ f, halfF f k n = half n ∧ 18446744073709551616 ≤ k * 2 ^ f)) (fun v => n - (intOf v).toNat)
  case atStart => exact ⟨1, rfl, by omega, by omega, Lib.hid ⟨64, rfl, by decide⟩⟩
  case round =>
    obtain ⟨k, rfl, hk1, hk2, HF⟩ := hrel
    by_cases hlt : 2 * k < n
    · have d1 : decide (2 * (k : Int) < (n : Int)) = true := decide_eq_true (by omega)
      have HF2 : Hid (∃ f, halfF f (2 * k) n = half n ∧ 18446744073709551616 ≤ 2 * k * 2 ^ f) := Lib.hid (by
        obtain ⟨f, h1, h2⟩ := HF.out
        obtain ⟨g, h3, h4⟩ := half_step hlt hn h2
        exact ⟨g, by rw [← h3]; exact h1, h4⟩)
      go_wp2_with fail
      go_round
      case rel => exact ⟨2 * k, by go_num, by omega, by omega, HF2⟩
      case measure => simp [intOf]; omega
    · have d1 : decide (2 * (k : Int) < (n : Int)) = false := decide_eq_false (by omega)
      have HE : Hid (half n = k) := Lib.hid (by
        obtain ⟨f, h1, _⟩ := HF.out
        rw [← h1]; exact half_end hlt)
      go_wp2_with fail
      go_ret
      exact ⟨by rw [HE.out]; rfl, rfl⟩
end Go.Proofs.YtmfmgeapecapiaaDoor
namespace Go.Proofs.YtmfmgeapecapiaaDoor
open Go.RowKit SzSha SzTree
set_option linter.unusedVariables false
set_option maxRecDepth 100000
theorem root_ok : ∀ (m : Nat) (ls : List Nd), ls.length ≤ m → 1 ≤ ls.length → (∀ x ∈ ls, NdOk x) → vL ls = true → NdOk (root ls)
  | 0, ls, h, h1, _, _ => by omega
  | m + 1, ls, h, h1, ho, hv => by
    by_cases h2 : 2 ≤ ls.length
    · have hb := half_bd h2
      rw [root_two h2]
      have e : ls = ls.take (half ls.length) ++ ls.drop (half ls.length) := (List.take_append_drop _ _).symm
      have hv' := hv
      rw [e] at hv'
      have hp := vL_parts hv'
      refine join_ok (root_ok m _ (by rw [List.length_take]; omega) (by rw [List.length_take]; omega) (fun x hx => ho x (List.mem_of_mem_take hx)) hp.1) (root_ok m _ (by rw [List.length_drop]; omega) (by rw [List.length_drop]; omega) (fun x hx => ho x (List.mem_of_mem_drop hx)) hp.2) (vL_two hv' (by rw [List.length_take]; omega) (by rw [List.length_drop]; omega))
    · obtain ⟨x, rfl⟩ : ∃ x, ls = [x] := List.length_eq_one_iff.1 (by omega)
      rw [root_one]; exact ho x (by simp)
theorem InN.take {w : World} {g off n c : Nat} {ls : List Nd} (h : InN w (some ⟨g, off, none⟩) n c ls) (k : Nat) (hk : k ≤ n) : InN w (some ⟨g, off, none⟩) k c (ls.take k) :=
  ⟨by rw [List.length_take, h.len]; omega, by have := h.cap; omega, (fun e => by cases e), fun x hx => h.ok x (List.mem_of_mem_take hx), fun h0 => by
    rw [List.length_take] at h0
    obtain ⟨g', off', e, hg, hr⟩ := h.rd (by omega)
    cases e
    refine ⟨g, off, rfl, hg, fun j v hj => hr j v ?_⟩
    have e2 : flatN ls = flatN (ls.take k) ++ flatN (ls.drop k) := by unfold flatN; rw [← List.flatMap_append, List.take_append_drop]
    rw [e2, List.getElem?_append_left (List.getElem?_eq_some_iff.1 hj).1]; exact hj⟩
theorem flatN_length : ∀ (ls : List Nd), (∀ x ∈ ls, NdOk x) → (flatN ls).length = ls.length * 34
  | [], _ => rfl
  | n :: ls, ho => by
    have h1 := ndC_length (ho n (by simp))
    have h2 := flatN_length ls (fun x hx => ho x (List.mem_cons_of_mem _ hx))
    show ((n :: ls).flatMap ndC).length = _
    rw [List.flatMap_cons, List.length_append, h1]
    have h3 : (ls.flatMap ndC).length = ls.length * 34 := h2
    rw [h3, List.length_cons]; omega
theorem InN.drop {w : World} {g off n c : Nat} {ls : List Nd} (h : InN w (some ⟨g, off, none⟩) n c ls) (k : Nat) (hk : k ≤ n) : InN w (some ⟨g, off + k * 34, none⟩) (n - k) (c - k) (ls.drop k) :=
  ⟨by rw [List.length_drop, h.len], by have := h.cap; omega, (fun e => by cases e), fun x hx => h.ok x (List.mem_of_mem_drop hx), fun h0 => by
    rw [List.length_drop] at h0
    obtain ⟨g', off', e, hg, hr⟩ := h.rd (by omega)
    cases e
    refine ⟨g, off + k * 34, rfl, hg, fun j v hj => ?_⟩
    have e2 : flatN ls = flatN (ls.take k) ++ flatN (ls.drop k) := by unfold flatN; rw [← List.flatMap_append, List.take_append_drop]
    have e3 : (flatN (ls.take k)).length = k * 34 := by
      rw [flatN_length _ (fun x hx => h.ok x (List.mem_of_mem_take hx)), List.length_take, h.len]
      rw [show min k n = k by omega]
    rw [Nat.add_assoc]
    refine hr (k * 34 + j) v ?_
    rw [e2, List.getElem?_append_right (by omega), e3, Nat.add_sub_cancel_left]; exact hj⟩

def wR (M : Nat) (bf : Nat) (g : Nat) (off : Nat) (n : Nat) (c : Nat) (k : Nat) (a : Nd) (b : Nd) (r : Nd) : Nat → Value → Value → World → Prop
  | 0, fv, _, _ => fv = Value.func (.func 108) #[] #[.pointer (some ⟨bf, 0, none⟩)]
  | 1, fv, _, _ => fv = Value.slice (some ⟨g, off, none⟩) n c
  | 2, fv, _, _ => fv = Value.int .i64 ((k : Nat))
  | 3, fv, _, _ => fv = Value.slice (some ⟨g, off, none⟩) k c
  | 4, fv, _, _ => fv = ndV a
  | 5, fv, _, _ => fv = Value.func (.func 108) #[] #[.pointer (some ⟨bf, 0, none⟩)]
  | 6, fv, _, _ => fv = Value.slice (some ⟨g, off, none⟩) n c
  | 7, fv, _, _ => fv = Value.int .i64 ((k : Nat))
  | 8, fv, _, _ => fv = Value.slice (some ⟨g, off + k * 34, none⟩) (n - k) (c - k)
  | 9, fv, _, _ => fv = ndV b
  | 10, fv, _, _ => fv = Value.tuple #[ndV r, .int .i64 0]
  | 11, fv, _, _ => fv = Value.tuple #[ndV r, .int .i64 0]
  | 12, fv, _, _ => fv = ndV r
  | 13, fv, _, _ => fv = Value.int .i64 (0)
  | 14, fv, fu, fw => True
  | 15, fv, fu, fw => ∃ q, fu = .pointer (some ⟨q, 0, none⟩) ∧ M ≤ q ∧ fw.heap[q]? = some (.cells (ndC r).toArray 31 (0, 0))
  | 16, fv, _, _ => fv = Value.int .i64 (0)
  | _, _, _, _ => True
theorem wR_below {M : Nat} {bf : Nat} {g : Nat} {off : Nat} {n : Nat} {c : Nat} {k : Nat} {a : Nd} {b : Nd} {r : Nd} {w w' : World} (hb : Below w.heap.size w w') : ∀ j v u, wR M bf g off n c k a b r j v u w → wR M bf g off n c k a b r j v u w'
  | 0, v, u, h => h
  | 1, v, u, h => h
  | 2, v, u, h => h
  | 3, v, u, h => h
  | 4, v, u, h => h
  | 5, v, u, h => h
  | 6, v, u, h => h
  | 7, v, u, h => h
  | 8, v, u, h => h
  | 9, v, u, h => h
  | 10, v, u, h => h
  | 11, v, u, h => h
  | 12, v, u, h => h
  | 13, v, u, h => h
  | 14, v, u, h => h
  | 15, v, u, ⟨q, h1, h2, h3⟩ => ⟨q, h1, h2, (hb.block q (Array.getElem?_eq_some_iff.1 h3).1).trans h3⟩
  | 16, v, u, h => h
  | n + 17, v, u, h => trivial
theorem wR_pure {M : Nat} {bf : Nat} {g : Nat} {off : Nat} {n : Nat} {c : Nat} {k : Nat} {a : Nd} {b : Nd} {r : Nd} {w w' : World} : ∀ j v u, j ≠ 14 → j ≠ 15 → wR M bf g off n c k a b r j v u w → wR M bf g off n c k a b r j v u w'
  | 0, v, u, _, _, h => h
  | 1, v, u, _, _, h => h
  | 2, v, u, _, _, h => h
  | 3, v, u, _, _, h => h
  | 4, v, u, _, _, h => h
  | 5, v, u, _, _, h => h
  | 6, v, u, _, _, h => h
  | 7, v, u, _, _, h => h
  | 8, v, u, _, _, h => h
  | 9, v, u, _, _, h => h
  | 10, v, u, _, _, h => h
  | 11, v, u, _, _, h => h
  | 12, v, u, _, _, h => h
  | 13, v, u, _, _, h => h
  | 14, v, u, hh, _, _ => absurd rfl hh
  | 15, v, u, _, hh, _ => absurd rfl hh
  | 16, v, u, _, _, h => h
  | n + 17, v, u, _, _, h => trivial

/-- the cell of a node that the region makes
-/
def NewN (M : Nat) (p : Value) (w : World) : Prop := ∃ q, p = .pointer (some ⟨q, 0, none⟩) ∧ M ≤ q ∧ w.heap[q]? = some (.cells (ndC zeroN).toArray 31 (0, 0))
theorem NewN.below {M : Nat} {p : Value} {w w' : World} (h : NewN M p w) (hb : Below w.heap.size w w') : NewN M p w' := by
  obtain ⟨q, h1, h2, h3⟩ := h
  exact ⟨q, h1, h2, (hb.block q (Array.getElem?_eq_some_iff.1 h3).1).trans h3⟩

set_option maxHeartbeats 4000000 in
theorem fold_any : ∀ (m : Nat) (ls : List Nd) (A : Option Addr) (n c bf : Nat) (w : World), n ≤ m → 1 ≤ n → n ≤ 4096 → Hid (InN w A n c ls) → Hid (vL ls = true) → Hid (w.cell? ⟨bf, 0, none⟩ = some (.func (.func 108) #[] #[.pointer (some ⟨bf, 0, none⟩)])) → Hid (Tabs w) →
    Calls Tryd.prog 108 #[.slice A n c, .pointer (some ⟨bf, 0, none⟩)] w fun e w' => e = .returned (ndV (root ls)) ∧ Below w.heap.size w w' := by
  intro m
  induction m with
  | zero => intro ls A n c bf w h1 h2; omega
  | succ m ih =>
    intro ls A n c bf w hm h1 hn h hv hF hT
    obtain ⟨g, off, rfl, hg, hr⟩ := h.out.rd (by rw [h.out.len]; omega)
    have HNE := Lib.hid (show ls.length = n from h.out.len)
    have hcap := h.out.cap
    clear hr
    have HB0 := Lib.hid ((Below.refl _ w).alloc (Nat.le_refl _) (.cells (ndC zeroN).toArray 31))
    have HR0 := Lib.hid (heap_alloc_new w (.cells (ndC zeroN).toArray 31))
    have HS0 : Hid ((w.alloc (.cells (ndC zeroN).toArray 31)).heap.size = w.heap.size + 1) := Lib.hid (by simp)
    have HROK : Hid (NdOk (root ls)) := Lib.hid (root_ok _ ls (Nat.le_refl _) (by rw [h.out.len]; omega) h.out.ok hv.out)
    obtain ⟨HF1⟩ : Nonempty (Hid ((w.alloc (.cells (ndC zeroN).toArray 31)).cell? ⟨bf, 0, none⟩ = some (.func (.func 108) #[] #[.pointer (some ⟨bf, 0, none⟩)]))) := ⟨Lib.hid ((HB0.out.cell (p := ⟨bf, 0, none⟩) (block_lt_of_cell hF.out)).trans hF.out)⟩
    go_enter Tryd.func108, Tryd.ntmps108
    by_cases h2 : 2 ≤ n
    · have d1 : decide ((n : Int) = 1) = false := decide_eq_false (by omega)
      have HIN := Lib.hid (h.out.below HB0.out)
      have HT1 := Lib.hid (hT.out.below HB0.out)
      go_wp2_with fail
      rw [← zeroN_cells]
      generalize w.alloc (.cells (ndC zeroN).toArray 31) = W1 at *
      refine (half_any n _ (by omega)).mono ?_
      rintro e w2 ⟨rfl, rfl⟩
      obtain ⟨k, HK⟩ : ∃ k, Hid (half n = k) := ⟨_, Lib.hid rfl⟩
      have hkb := half_bd h2
      rw [HK.out] at hkb
      rw [HK.out]
      go_wp2_with fail
      have HP : Hid (vL (ls.take k) = true ∧ vL (ls.drop k) = true) := Lib.hid (vL_parts (by rw [List.take_append_drop]; exact hv.out))
      have HT2 := Lib.hid (HIN.out.take k (by omega))
      have HT3 := Lib.hid (HIN.out.drop k (by omega))
      have HLT : Hid ((ls.take k).length = k ∧ (ls.drop k).length = n - k) := Lib.hid ⟨by rw [List.length_take, HNE.out]; omega, by rw [List.length_drop, HNE.out]⟩
      have HVV : Hid (vL [root (ls.take k), root (ls.drop k)] = true) := Lib.hid (vL_two (by rw [List.take_append_drop]; exact hv.out) (by rw [HLT.out.1]; omega) (by rw [HLT.out.2]; omega))
      have HOA : Hid (NdOk (root (ls.take k))) := Lib.hid (root_ok _ _ (Nat.le_refl _) (by rw [HLT.out.1]; omega) HT2.out.ok HP.out.1)
      have HOB : Hid (NdOk (root (ls.drop k))) := Lib.hid (root_ok _ _ (Nat.le_refl _) (by rw [HLT.out.2]; omega) HT3.out.ok HP.out.2)
      have HRT : Hid (joinN (root (ls.take k)) (root (ls.drop k)) = root ls) := Lib.hid (by rw [root_two (l := ls) (by rw [HNE.out]; exact h2), HNE.out, HK.out])
      have HS1 : Hid ((Tryd.prog.info? 31).map (·.size) = some (ndC (root ls)).toArray.size) := Lib.hid (by rw [size34 HROK.out]; simp)
      have HS2 : Hid (34 = (ndC (root ls)).toArray.size) := Lib.hid (by simp [ndC_length HROK.out])
      obtain ⟨a, HA⟩ : ∃ a, Hid (root (ls.take k) = a) := ⟨_, Lib.hid rfl⟩
      obtain ⟨b, HB⟩ : ∃ b, Hid (root (ls.drop k) = b) := ⟨_, Lib.hid rfl⟩
      obtain ⟨r, HR⟩ : ∃ r, Hid (root ls = r) := ⟨_, Lib.hid rfl⟩
      rw [HA.out, HB.out] at HVV HRT
      rw [HA.out] at HOA
      rw [HB.out] at HOB
      rw [HR.out] at HRT HROK HS1 HS2
      refine region_flow3 (by kernel_rfl) (by kernel_rfl) (fun i => Nat.beq i 15) (fun i => bif Nat.beq i 15 then 14 else i) (by kernel_rfl) (fun fx => #[Value.slice (some ⟨g, off, none⟩) n c, Value.pointer (some ⟨bf, 0, none⟩), undef, Value.pointer (some ⟨w.heap.size, 0, none⟩), Value.int .i64 ((k : Nat)), fx 14, fx 16, Value.slice (some ⟨g, off, none⟩) n c, Value.int .i64 ((n : Nat)), Value.bool false, undef, undef, undef, Value.slice (some ⟨g, off, none⟩) n c, Value.int .i64 ((n : Nat)), Value.int .i64 ((k : Nat)), fx 11, fx 0, fx 1, fx 2, fx 3, fx 4, fx 5, fx 6, fx 7, fx 8, fx 9, fx 10, fx 12, fx 13, undef]) (fun _ => undef) (fun L fx w' => Below W1.heap.size W1 w' ∧ (L 14 = true → L 15 = false → NewN W1.heap.size (fx 14) w')) (fun fi fv fu fw => wR W1.heap.size bf g off n c k a b r fi fv fu fw) ⟨(Below.refl _ _).drew, fun h => by cases h⟩ ?_ ?_
      · refine ⟨?_, ?_, ?_, ?_, ?_, ?_, ?_, ?_, ?_, ?_, ?_, ?_, ?_, ?_, ?_, ?_, ?_, trivial⟩
        all_goals intro L fx w' hC hi hcl hdn hd
        · have hc : w'.cell? ⟨bf, 0, none⟩ = some (.func (.func 108) #[] #[.pointer (some ⟨bf, 0, none⟩)]) := (hC.1.cell (p := ⟨bf, 0, none⟩) (block_lt_of_cell HF1.out)).trans HF1.out
          go_wp2_with fail
          exact ⟨_, rfl, ⟨hC.1, fun h14 h15 => hC.2 h14 h15⟩, rfl, fun _ _ _ _ _ h => h⟩
        · go_wp2_with fail
          exact ⟨_, rfl, ⟨hC.1, fun h14 h15 => hC.2 h14 h15⟩, rfl, fun _ _ _ _ _ h => h⟩
        · go_wp2_with fail
          exact ⟨_, rfl, ⟨hC.1, fun h14 h15 => hC.2 h14 h15⟩, rfl, fun _ _ _ _ _ h => h⟩
        · have h1 : fx 1 = Value.slice (some ⟨g, off, none⟩) n c := hd.1 rfl
          have h2 : fx 2 = Value.int .i64 ((k : Nat)) := hd.2.1 rfl
          go_wp2_with fail
          exact ⟨_, by rw [← h1, ← h2]; rfl, ⟨hC.1, fun h14 h15 => hC.2 h14 h15⟩, rfl, fun _ _ _ _ _ h => h⟩
        · have h0 : fx 0 = Value.func (.func 108) #[] #[.pointer (some ⟨bf, 0, none⟩)] := hd.1 rfl
          have h3 : fx 3 = Value.slice (some ⟨g, off, none⟩) k c := hd.2.1 rfl
          have HFC : Hid (w'.cell? ⟨bf, 0, none⟩ = some (.func (.func 108) #[] #[.pointer (some ⟨bf, 0, none⟩)])) := Lib.hid ((hC.1.cell (p := ⟨bf, 0, none⟩) (block_lt_of_cell HF1.out)).trans HF1.out)
          have HIk := Lib.hid (HT2.out.below hC.1)
          have HTk := Lib.hid (HT1.out.below hC.1)
          go_wp2_with fail
          refine (ih (ls.take k) _ k c bf w' (by omega) (by omega) (by omega) HIk (Lib.hid HP.out.1) HFC HTk).mono ?_
          rintro e w2 ⟨rfl, hq⟩
          rw [HA.out]
          go_wp2_with fail
          exact ⟨_, by rw [← h0, ← h3]; rfl, ⟨hC.1.trans (hq.mono hC.1.size), fun h14 h15 => (hC.2 h14 h15).below hq⟩, rfl, fun j v t _ _ h => wR_below hq j v t h⟩
        · have hc : w'.cell? ⟨bf, 0, none⟩ = some (.func (.func 108) #[] #[.pointer (some ⟨bf, 0, none⟩)]) := (hC.1.cell (p := ⟨bf, 0, none⟩) (block_lt_of_cell HF1.out)).trans HF1.out
          go_wp2_with fail
          exact ⟨_, rfl, ⟨hC.1, fun h14 h15 => hC.2 h14 h15⟩, rfl, fun _ _ _ _ _ h => h⟩
        · go_wp2_with fail
          exact ⟨_, rfl, ⟨hC.1, fun h14 h15 => hC.2 h14 h15⟩, rfl, fun _ _ _ _ _ h => h⟩
        · go_wp2_with fail
          exact ⟨_, rfl, ⟨hC.1, fun h14 h15 => hC.2 h14 h15⟩, rfl, fun _ _ _ _ _ h => h⟩
        · have h6 : fx 6 = Value.slice (some ⟨g, off, none⟩) n c := hd.1 rfl
          have h7 : fx 7 = Value.int .i64 ((k : Nat)) := hd.2.1 rfl
          go_wp2_with fail
          exact ⟨_, by rw [← h6, ← h7]; rfl, ⟨hC.1, fun h14 h15 => hC.2 h14 h15⟩, rfl, fun _ _ _ _ _ h => h⟩
        · have h5 : fx 5 = Value.func (.func 108) #[] #[.pointer (some ⟨bf, 0, none⟩)] := hd.1 rfl
          have h8 : fx 8 = Value.slice (some ⟨g, off + k * 34, none⟩) (n - k) (c - k) := hd.2.1 rfl
          have HFC : Hid (w'.cell? ⟨bf, 0, none⟩ = some (.func (.func 108) #[] #[.pointer (some ⟨bf, 0, none⟩)])) := Lib.hid ((hC.1.cell (p := ⟨bf, 0, none⟩) (block_lt_of_cell HF1.out)).trans HF1.out)
          have HIk := Lib.hid (HT3.out.below hC.1)
          have HTk := Lib.hid (HT1.out.below hC.1)
          go_wp2_with fail
          refine (ih (ls.drop k) _ (n - k) (c - k) bf w' (by omega) (by omega) (by omega) HIk (Lib.hid HP.out.2) HFC HTk).mono ?_
          rintro e w2 ⟨rfl, hq⟩
          rw [HB.out]
          go_wp2_with fail
          exact ⟨_, by rw [← h5, ← h8]; rfl, ⟨hC.1.trans (hq.mono hC.1.size), fun h14 h15 => (hC.2 h14 h15).below hq⟩, rfl, fun j v t _ _ h => wR_below hq j v t h⟩
        · have h4 : fx 4 = ndV a := hd.1 rfl
          have h9 : fx 9 = ndV b := hd.2.1 rfl
          have HTk := Lib.hid (HT1.out.below hC.1)
          go_wp2_with fail
          refine (join_yes a b w' HOA.out HOB.out HVV.out HTk).mono ?_
          rintro e w2 ⟨rfl, hq⟩
          rw [HRT.out]
          go_wp2_with fail
          exact ⟨_, by rw [← h4, ← h9]; rfl, ⟨hC.1.trans (hq.mono hC.1.size), fun h14 h15 => (hC.2 h14 h15).below hq⟩, rfl, fun j v t _ _ h => wR_below hq j v t h⟩
        · have h10 : fx 10 = Value.tuple #[ndV r, .int .i64 0] := hd.1 rfl
          go_wp2_with fail
          exact ⟨_, by rw [← h10]; rfl, ⟨hC.1, fun h14 h15 => hC.2 h14 h15⟩, rfl, fun _ _ _ _ _ h => h⟩
        · have h11 : fx 11 = Value.tuple #[ndV r, .int .i64 0] := hd.1 rfl
          go_wp2_with fail
          exact ⟨_, by rw [← h11]; rfl, ⟨hC.1, fun h14 h15 => hC.2 h14 h15⟩, rfl, fun _ _ _ _ _ h => h⟩
        · have h11 : fx 11 = Value.tuple #[ndV r, .int .i64 0] := hd.1 rfl
          go_wp2_with fail
          exact ⟨_, by rw [← h11]; rfl, ⟨hC.1, fun h14 h15 => hC.2 h14 h15⟩, rfl, fun _ _ _ _ _ h => h⟩
        · go_wp2_with fail
          rw [← zeroN_cells]
          have hbb : Below w'.heap.size w' (w'.alloc (.cells (ndC zeroN).toArray 31)) := (Below.refl _ _).alloc (Nat.le_refl _) _
          exact ⟨_, rfl, ⟨hC.1.trans (hbb.mono hC.1.size), fun _ _ => ⟨_, rfl, hC.1.size, heap_alloc_new _ _⟩⟩, trivial, fun j v t _ _ h => wR_below hbb j v t h⟩
        · have H14 := Lib.hid (hd.1 rfl)
          have h12 : fx 12 = ndV r := hd.2.1 rfl
          obtain ⟨q, h14, hq, hrow⟩ := hC.2 (hdn 14 (by kernel_rfl)) hi
          refine wpList_store_row rfl 31 (.tmp 5) (.tmp 28) rfl q (ndC r).toArray h14 h12 31 _ hrow HS1.out HS2.out (ndC_one _) ?_
          clear hd
          go_wp2_with fail
          exact ⟨undef, by rw [← h14, ← h12]; rfl, ⟨below_setRow hC.1 hq _, fun _ h => (updB_self h).elim⟩, ⟨q, h14, hq, setRow_heap _ _ _ _ _ _ hrow⟩, fun j v t hj _ h => by
            by_cases e : j = 14
            · subst e; trivial
            · exact wR_pure j v t e (fun e => by subst e; rw [hi] at hj; cases hj) h⟩
        · have h13 : fx 13 = Value.int .i64 (0) := hd.1 rfl
          go_wp2_with fail
          exact ⟨_, by rw [← h13]; rfl, ⟨hC.1, fun h14 h15 => hC.2 h14 h15⟩, rfl, fun _ _ _ _ _ h => h⟩
      · intro L fx w' hC hS
        have H15 := Lib.hid (hS 15 (by decide) rfl)

        obtain ⟨q, e14, hq, hrow⟩ := H15.out
        have HB9 := Lib.hid hC.1
        have HQR := Lib.hid hrow
        have HR3 := Lib.hid ((hC.1.block w.heap.size (by rw [HS0.out]; omega)).trans HR0.out)
        have HSZ : Hid ((Tryd.prog.info? 31).map (·.size) = some (ndC zeroN).toArray.size) := Lib.hid (by rw [size34 zeroN_ok]; simp)
        replace e14 : fx 14 = _ := e14
        rw [e14]
        clear hS hC H15 hrow
        go_wp2_with (first | (refine wpList_load_row rfl 31 (.tmp 5) rfl q rfl 31 _ (0, 0) _ HQR.out Tryd.underlying31 rfl HS1.out ?_) | (refine wpList_store_row rfl 31 (.tmp 3) (.tmp 30) rfl w.heap.size (ndC r).toArray rfl rfl 31 (ndC zeroN).toArray HR3.out HS1.out HS2.out (ndC_one r) ?_))
        refine bodyPost_ret (results_cell_row rfl _ _ w.heap.size 31 _ (0, 0) _ rfl (setRow_heap w' w.heap.size _ _ _ _ HR3.out) Tryd.underlying31 rfl HS1.out) rfl ?_
        exact ⟨by rw [HR.out]; rfl, below_setRow (HB0.out.trans (HB9.out.mono HB0.out.size)) (Nat.le_refl _) _⟩
    · have hn1 : n = 1 := by omega
      have d1 : decide ((n : Int) = 1) = true := decide_eq_true (by omega)
      obtain ⟨x, HX⟩ : ∃ x, Hid (ls = [x]) := (List.length_eq_one_iff.1 (by rw [HNE.out]; exact hn1)).imp fun _ h => Lib.hid h
      have HXO : Hid (NdOk x) := Lib.hid (h.out.ok x (by rw [HX.out]; simp))
      obtain ⟨g', off', e, hg', hr⟩ := (h.out.below HB0.out).rd (by rw [HNE.out]; omega)
      cases e
      have HRX : Hid ((w.alloc (.cells (ndC zeroN).toArray 31)).rangeAt g off (ndC x)) := Lib.hid (by
        have := range_one hr h.out.ok 0 (by rw [HNE.out]; omega)
        simpa [HX.out] using this)
      have HS1 : Hid ((Tryd.prog.info? 31).map (·.size) = some (ndC x).toArray.size) := Lib.hid (by rw [size34 HXO.out]; simp)
      have HS2 : Hid (34 = (ndC x).toArray.size) := Lib.hid (by simp [ndC_length HXO.out])
      have HSX := Lib.hid (size34 HXO.out)
      have hlt : 0 < n := by omega
      clear hr
      rw [zeroN_cells] at HRX HR0
      go_wp2_with (first | (with_reducible refine wpList_load_mid rfl 31 (.tmp 11) rfl g off rfl (ndC x) _ HRX.out Tryd.underlying31 rfl HSX.out ?_) | (refine wpList_store_row rfl 31 (.tmp 3) (.tmp 12) rfl w.heap.size (ndC x).toArray rfl rfl 31 _ HR0.out HS1.out HS2.out (ndC_one x) ?_))
      rw [← zeroN_cells]
      rw [← zeroN_cells] at HR0
      refine bodyPost_ret (results_cell_row rfl _ _ w.heap.size 31 _ (0, 0) _ rfl (setRow_heap _ w.heap.size _ _ _ _ HR0.out) Tryd.underlying31 rfl HS1.out) rfl ?_
      exact ⟨by rw [HX.out, root_one]; rfl, below_setRow HB0.out (Nat.le_refl _) _⟩
end Go.Proofs.YtmfmgeapecapiaaDoor
namespace Go.Proofs.YtmfmgeapecapiaaDoor
open Go.RowKit SzSha SzTree
set_option linter.unusedVariables false
set_option maxRecDepth 100000
def emptyN : Nd := ⟨tagged sumT [], 0, 0⟩
theorem emptyN_ok : NdOk emptyN := ⟨tagged_length _ _, tagged_bytes _ _, by simp [emptyN], by simp [emptyN]⟩
/-- Root -/
def rootR (ls : List Nd) : Nd := if ls.length ≤ 4096 ∧ vL ls = true then (if ls = [] then emptyN else root ls) else zeroN
def rootE (ls : List Nd) : Int := if ls.length ≤ 4096 ∧ vL ls = true then 0 else 410
theorem rootR_ok {ls : List Nd} (h : ∀ x ∈ ls, NdOk x) : NdOk (rootR ls) := by
  unfold rootR
  split
  · rename_i hh
    split
    · exact emptyN_ok
    · rename_i h2
      exact root_ok _ ls (Nat.le_refl _) (List.length_pos_iff.2 h2) h hh.2
  · exact zeroN_ok
theorem rootR_yes {ls : List Nd} (h1 : ls.length ≤ 4096) (h2 : vL ls = true) (h3 : 1 ≤ ls.length) : rootR ls = root ls ∧ rootE ls = 0 := by
  have hh : ls.length ≤ 4096 ∧ vL ls = true := ⟨h1, h2⟩
  have h0 : ¬ ls = [] := fun e => by subst e; simp at h3
  unfold rootR rootE
  exact ⟨by rw [if_pos hh, if_neg h0], if_pos hh⟩
theorem rootR_no {ls : List Nd} (h : ¬ (ls.length ≤ 4096 ∧ vL ls = true)) : rootR ls = zeroN ∧ rootE ls = 410 := by
  unfold rootR rootE
  exact ⟨if_neg h, if_neg h⟩
theorem rootR_nil : rootR [] = emptyN ∧ rootE [] = 0 := by
  have hh : ([] : List Nd).length ≤ 4096 ∧ vL [] = true := ⟨by simp, rfl⟩
  unfold rootR rootE
  exact ⟨by rw [if_pos hh, if_pos rfl], if_pos hh⟩
set_option maxHeartbeats 4000000 in
theorem built_node1 (d : List Nat) (h : d.length = 32) : Tryd.prog.built 31 [(0, dgV d)] = some (ndC ⟨d, 0, 0⟩).toArray := by
  rcases d with _ | ⟨x0, d⟩
  · simp at h
  rcases d with _ | ⟨x1, d⟩
  · simp at h
  rcases d with _ | ⟨x2, d⟩
  · simp at h
  rcases d with _ | ⟨x3, d⟩
  · simp at h
  rcases d with _ | ⟨x4, d⟩
  · simp at h
  rcases d with _ | ⟨x5, d⟩
  · simp at h
  rcases d with _ | ⟨x6, d⟩
  · simp at h
  rcases d with _ | ⟨x7, d⟩
  · simp at h
  rcases d with _ | ⟨x8, d⟩
  · simp at h
  rcases d with _ | ⟨x9, d⟩
  · simp at h
  rcases d with _ | ⟨x10, d⟩
  · simp at h
  rcases d with _ | ⟨x11, d⟩
  · simp at h
  rcases d with _ | ⟨x12, d⟩
  · simp at h
  rcases d with _ | ⟨x13, d⟩
  · simp at h
  rcases d with _ | ⟨x14, d⟩
  · simp at h
  rcases d with _ | ⟨x15, d⟩
  · simp at h
  rcases d with _ | ⟨x16, d⟩
  · simp at h
  rcases d with _ | ⟨x17, d⟩
  · simp at h
  rcases d with _ | ⟨x18, d⟩
  · simp at h
  rcases d with _ | ⟨x19, d⟩
  · simp at h
  rcases d with _ | ⟨x20, d⟩
  · simp at h
  rcases d with _ | ⟨x21, d⟩
  · simp at h
  rcases d with _ | ⟨x22, d⟩
  · simp at h
  rcases d with _ | ⟨x23, d⟩
  · simp at h
  rcases d with _ | ⟨x24, d⟩
  · simp at h
  rcases d with _ | ⟨x25, d⟩
  · simp at h
  rcases d with _ | ⟨x26, d⟩
  · simp at h
  rcases d with _ | ⟨x27, d⟩
  · simp at h
  rcases d with _ | ⟨x28, d⟩
  · simp at h
  rcases d with _ | ⟨x29, d⟩
  · simp at h
  rcases d with _ | ⟨x30, d⟩
  · simp at h
  rcases d with _ | ⟨x31, d⟩
  · simp at h
  rcases d with _ | ⟨y, d⟩
  · clear h
    kernel_rfl
  · simp at h
theorem wpList_build_node1 {w : World} {ops : Array Oper} {rest : List Oper} {o : Oper} {a : Act} {Q : Exit → Act → World → Prop} (hg : o.guard = none) (x : Operand)
    (ho : o.op = .build 31 #[(0, x)]) (d : List Nat) (hd : d.length = 32) (hx : a.eval x = dgV d)
    (h : wpList Tryd.prog ops Q rest (a.put o.dst (ndV ⟨d, 0, 0⟩)) w) : wpList Tryd.prog ops Q (o :: rest) a w := by
  have e1 : (#[(0, x)].map fun (i, x) => (i, a.eval x)).toList = [(0, dgV d)] := by simp [hx]
  refine wpList_build hg 31 _ ho (by rw [e1, built_node1 d hd]; rfl) ?_
  rw [e1, built_node1 d hd]
  exact h
set_option maxHeartbeats 4000000 in
theorem root_any (ls : List Nd) (A : Option Addr) (n c : Nat) (w : World) (hn : n ≤ 9223372036854775807) (h : Hid (InN w A n c ls)) (hT : Hid (Tabs w)) :
    Calls Tryd.prog 70 #[.slice A n c] w fun e w' => e = .returned (.tuple #[ndV (rootR ls), .int .i64 (rootE ls)]) ∧ Below w.heap.size w w' := by
  have HNE := Lib.hid (show ls.length = n from h.out.len)
  have HB0 := Lib.hid ((Below.refl _ w).alloc (Nat.le_refl _) (.cells (ndC zeroN).toArray 31))
  have HR0 := Lib.hid (heap_alloc_new w (.cells (ndC zeroN).toArray 31))
  have HS0 : Hid ((w.alloc (.cells (ndC zeroN).toArray 31)).heap.size = w.heap.size + 1) := Lib.hid (by simp)
  have HSZ : Hid ((Tryd.prog.info? 31).map (·.size) = some (ndC zeroN).toArray.size) := Lib.hid (by rw [size34 zeroN_ok]; simp)
  have HZ2 : Hid ((ndC zeroN).toArray.size = (ndC zeroN).toArray.size) := Lib.hid rfl
  have HIN := Lib.hid (h.out.below HB0.out)
  have HT1 := Lib.hid (hT.out.below HB0.out)
  rw [zeroN_cells] at HR0 HS0 HB0 HIN HT1
  go_enter Tryd.func70, Tryd.ntmps70
  by_cases hbig : 4096 < n
  · have d1 : decide (4096 < (n : Int)) = true := decide_eq_true (by omega)
    have HE := Lib.hid (rootR_no (ls := ls) (fun hh => by have := HNE.out; omega))
    go_wp2_with (first | (refine wpList_load_row rfl 31 (.tmp 2) rfl w.heap.size rfl 31 _ (0, 0) _ HR0.out Tryd.underlying31 rfl HSZ.out ?_) | (refine wpList_store_row rfl 31 (.tmp 2) (.tmp 13) rfl w.heap.size (ndC zeroN).toArray rfl rfl 31 _ HR0.out HSZ.out rfl (ndC_one zeroN) ?_))
    rw [← zeroN_cells]
    rw [← zeroN_cells] at HR0 HB0
    have hr := setRow_heap (w.alloc (.cells (ndC zeroN).toArray 31)) w.heap.size _ (ndC zeroN).toArray _ _ HR0.out
    have hl := run_loadVar_row (P := Tryd.prog) ((w.alloc (.cells (ndC zeroN).toArray 31)).setRow w.heap.size (ndC zeroN).toArray) w.heap.size 31 31 (ndC zeroN).toArray (0, 0) _ hr Tryd.underlying31 rfl HSZ.out
    refine bodyPost_ret (v := .tuple #[ndV zeroN, .int .i64 410]) ?_ rfl ⟨by rw [HE.out.1, HE.out.2], below_setRow HB0.out (Nat.le_refl _) _⟩
    unfold ndV
    simp [results, Tryd.results70, asAddr, hl]
  · have d1 : decide (4096 < (n : Int)) = false := decide_eq_false (by omega)
    go_wp2_with fail
    refine (valid_any ls A n c _ (by omega) HIN).mono ?_
    rintro e W1 ⟨rfl, hq⟩
    have HB1 := Lib.hid (HB0.out.trans (hq.mono HB0.out.size))
    have HR1 := Lib.hid ((hq.block w.heap.size (by rw [HS0.out]; omega)).trans HR0.out)
    have HIN1 := Lib.hid (HIN.out.below hq)
    have HT2 := Lib.hid (HT1.out.below hq)
    clear HB0 HR0 HS0 HIN HT1 hq
    by_cases hv : vL ls = true
    · rw [hv]
      by_cases h0 : n = 0
      · have hl0 : ls = [] := List.eq_nil_of_length_eq_zero (by rw [HNE.out]; exact h0)
        subst hl0
        subst h0
        go_wp2_with fail
        refine (tagged_any sumTag none 0 0 [] W1 (by decide) (Lib.hid rfl) (Nat.le_refl _) (fun _ => rfl) (by omega) (Lib.hid (fun x hx => by cases hx)) HT2 (Lib.hid (fun h => by simp at h))).mono ?_
        rintro e W2 ⟨rfl, hq2⟩
        rw [sumTag_eq]
        have HB2 := Lib.hid (HB1.out.trans (hq2.mono HB1.out.size))
        have HR2 := Lib.hid ((hq2.block w.heap.size (Array.getElem?_eq_some_iff.1 HR1.out).1).trans HR1.out)
        have HE := Lib.hid rootR_nil
        have HS1 : Hid ((Tryd.prog.info? 31).map (·.size) = some (ndC emptyN).toArray.size) := Lib.hid (by rw [size34 emptyN_ok]; simp)
        have HS2 : Hid (34 = (ndC emptyN).toArray.size) := Lib.hid (by simp [ndC_length emptyN_ok])
        clear hq2
        go_wp2_with (first | (refine wpList_build_node1 rfl (.tmp 17) rfl (tagged sumT []) (tagged_length _ _) rfl ?_) | (refine wpList_store_row rfl 31 (.tmp 2) (.tmp 18) rfl w.heap.size (ndC emptyN).toArray rfl rfl 31 _ HR2.out HS1.out HS2.out (ndC_one _) ?_))
        have hr := setRow_heap W2 w.heap.size _ (ndC emptyN).toArray _ _ HR2.out
        have hl := run_loadVar_row (P := Tryd.prog) (W2.setRow w.heap.size (ndC emptyN).toArray) w.heap.size 31 31 (ndC emptyN).toArray (0, 0) _ hr Tryd.underlying31 rfl HS1.out
        refine bodyPost_ret (v := .tuple #[ndV emptyN, .int .i64 0]) ?_ rfl ⟨by rw [HE.out.1, HE.out.2], below_setRow HB2.out (Nat.le_refl _) _⟩
        unfold ndV
        simp [results, Tryd.results70, asAddr, hl]
      · have d2 : decide ((n : Int) = 0) = false := decide_eq_false (by omega)
        go_wp2_with fail
        have HE := Lib.hid (rootR_yes (ls := ls) (by rw [HNE.out]; omega) hv (by rw [HNE.out]; omega))
        have HROK : Hid (NdOk (root ls)) := Lib.hid (root_ok _ ls (Nat.le_refl _) (by rw [HNE.out]; omega) h.out.ok hv)
        have HS1 : Hid ((Tryd.prog.info? 31).map (·.size) = some (ndC (root ls)).toArray.size) := Lib.hid (by rw [size34 HROK.out]; simp)
        have HS2 : Hid (34 = (ndC (root ls)).toArray.size) := Lib.hid (by simp [ndC_length HROK.out])
        have HBF := Lib.hid ((Below.refl _ W1).alloc (Nat.le_refl _) (.cells #[.func (.func 108) #[] #[.pointer (some ⟨W1.heap.size, 0, none⟩)]] 190))
        refine (fold_any n ls A n c W1.heap.size _ (Nat.le_refl _) (by omega) (by omega) (Lib.hid (HIN1.out.below HBF.out)) (Lib.hid hv) (Lib.hid (by rw [cell_of_row _ _ _ _ _ _ (heap_alloc_new W1 _)]; rfl)) (Lib.hid (HT2.out.below HBF.out))).mono ?_
        rintro e W2 ⟨rfl, hq2⟩
        have hq3 := HBF.out.trans (hq2.mono HBF.out.size)
        have HB2 := Lib.hid (HB1.out.trans (hq3.mono HB1.out.size))
        have HR2 := Lib.hid ((hq3.block w.heap.size (Array.getElem?_eq_some_iff.1 HR1.out).1).trans HR1.out)
        clear hq2 hq3
        go_wp2_with (refine wpList_store_row rfl 31 (.tmp 2) (.tmp 22) rfl w.heap.size (ndC (root ls)).toArray rfl rfl 31 _ HR2.out HS1.out HS2.out (ndC_one _) ?_)
        have hr := setRow_heap W2 w.heap.size _ (ndC (root ls)).toArray _ _ HR2.out
        have hl := run_loadVar_row (P := Tryd.prog) (W2.setRow w.heap.size (ndC (root ls)).toArray) w.heap.size 31 31 (ndC (root ls)).toArray (0, 0) _ hr Tryd.underlying31 rfl HS1.out
        refine bodyPost_ret (v := .tuple #[ndV (root ls), .int .i64 0]) ?_ rfl ⟨by rw [HE.out.1, HE.out.2], below_setRow HB2.out (Nat.le_refl _) _⟩
        unfold ndV
        simp [results, Tryd.results70, asAddr, hl]
    · have hv2 : vL ls = false := by simpa using hv
      rw [hv2]
      have HE := Lib.hid (rootR_no (ls := ls) (fun hh => hv hh.2))
      go_wp2_with (first | (refine wpList_load_row rfl 31 (.tmp 2) rfl w.heap.size rfl 31 _ (0, 0) _ HR1.out Tryd.underlying31 rfl HSZ.out ?_) | (refine wpList_store_row rfl 31 (.tmp 2) (.tmp 13) rfl w.heap.size (ndC zeroN).toArray rfl rfl 31 _ HR1.out HSZ.out rfl (ndC_one zeroN) ?_))
      rw [← zeroN_cells] at HR1
      have hr := setRow_heap W1 w.heap.size _ (ndC zeroN).toArray _ _ HR1.out
      have hl := run_loadVar_row (P := Tryd.prog) (W1.setRow w.heap.size (ndC zeroN).toArray) w.heap.size 31 31 (ndC zeroN).toArray (0, 0) _ hr Tryd.underlying31 rfl HSZ.out
      refine bodyPost_ret (v := .tuple #[ndV zeroN, .int .i64 410]) ?_ rfl ⟨by rw [HE.out.1, HE.out.2], below_setRow HB1.out (Nat.le_refl _) _⟩
      unfold ndV
      simp [results, Tryd.results70, asAddr, hl]
end Go.Proofs.YtmfmgeapecapiaaDoor
namespace Go.Proofs.YtmfmgeapecapiaaDoor
section
variable {P : Program} {ops : Array Oper}
def waitsB (l : List Oper) (m j : Nat) : Bool := (l[m]?.map fun o => o.after.any fun e => Region.binds .any e && Nat.beq e.on j).getD false
def FlowAll4 (P : Program) (ops : Array Oper) (E : Nat → Bool) (l0 : List Oper) (k : Nat → Nat) (build : (Nat → Value) → Array Value) (df : List Deferred) (C : (Nat → Bool) → (Nat → Value) → World → Prop) (S : Nat → Value → Value → World → Prop) : Nat → List Oper → Prop
  | _, [] => True
  | i, o :: l => (∀ L x w, C L x w → L i = false → (∀ m j, L m = true → waitsB l0 m j = true → L j = true) → (∀ m, waitsB l0 i m = true → L m = true) → Deps3 k S x w o.after.toList → wpList P ops (FlowPost3 E l0 k build df C S i L x w) [o] ⟨build x, df⟩ w) ∧ FlowAll4 P ops E l0 k build df C S (i + 1) l
theorem FlowAll4.at {l0 : List Oper} {E : Nat → Bool} {k : Nat → Nat} {build : (Nat → Value) → Array Value} {df : List Deferred} {C : (Nat → Bool) → (Nat → Value) → World → Prop} {S : Nat → Value → Value → World → Prop} :
    ∀ (l : List Oper) (m i : Nat) (o : Oper), FlowAll4 P ops E l0 k build df C S m l → l[i]? = some o → ∀ L x w, C L x w → L (m + i) = false → (∀ m' j, L m' = true → waitsB l0 m' j = true → L j = true) → (∀ m', waitsB l0 (m + i) m' = true → L m' = true) → Deps3 k S x w o.after.toList → wpList P ops (FlowPost3 E l0 k build df C S (m + i) L x w) [o] ⟨build x, df⟩ w
  | [], m, i, o, _, h => by simp at h
  | o' :: l, m, 0, o, h, ho => by
    have : o' = o := by simpa using ho
    subst this
    exact h.1
  | o' :: l, m, i + 1, o, h, ho => by
    have := FlowAll4.at l (m + 1) i o h.2 (by simpa using ho)
    rw [show m + (i + 1) = m + 1 + i by omega]
    exact this
theorem any_flow4 {E : Nat → Bool} {k : Nat → Nat} {l : List Oper} {Q : Exit → Act → World → Prop} {build : (Nat → Value) → Array Value} {df : List Deferred} {C : (Nat → Bool) → (Nat → Value) → World → Prop} {S : Nat → Value → Value → World → Prop} (hB : flowB l = true) (hk : tiedB k l = true) (hall : FlowAll4 P l.toArray E l k build df C S 0 l)
    (hend : ∀ L x w, C L x w → (∀ i, i < l.length → E i = true → S i (x i) (x (k i)) w) → Q .normal ⟨build x, df⟩ w) :
    ∀ (f : Nat) (listed : Array Bool) (x : Nat → Value) (w : World), listed.size = l.length → cnt listed l.length ≤ f → C (fun j => listed.getD j false) x w → (∀ i, listed.getD i false = true → (E i = true ∨ ∃ m, m < l.length ∧ listed.getD m true = false ∧ usesB l m i = true) → S i (x i) (x (k i)) w) → (∀ i, listed.getD i false = true → listed.getD (k i) false = true) → (∀ m j, listed.getD m false = true → waitsB l m j = true → listed.getD j false = true) → wpAny P .any l.toArray Q f listed ⟨build x, df⟩ w := by
  have hfull : ∀ (listed : Array Bool) (x : Nat → Value) (w : World), listed.size = l.length → C (fun j => listed.getD j false) x w → (∀ i, listed.getD i false = true → (E i = true ∨ ∃ m, m < l.length ∧ listed.getD m true = false ∧ usesB l m i = true) → S i (x i) (x (k i)) w) → Region.ready .any l.toArray listed = [] → Q .normal ⟨build x, df⟩ w := by
    intro listed x w hs hC hS hr
    have hlt : ∀ n i, i < n → i < l.length → listed.getD i true = true := by
      intro n
      induction n with
      | zero => intro i hi; omega
      | succ n ih =>
        intro i hi hil
        rcases Nat.lt_or_ge i n with h | h
        · exact ih i h hil
        · obtain rfl : i = n := by omega
          apply Classical.byContradiction
          intro hne
          have hf : listed.getD i true = false := by simpa using hne
          have : i ∈ Region.ready .any l.toArray listed := by
            refine mem_ready.2 ⟨hf, l[i], by simp [hil], fun e he hbd => ?_⟩
            have h1 := List.all_eq_true.1 hB i (by simpa using hil)
            simp only [List.getElem?_eq_getElem hil, Option.map_some, Option.getD_some] at h1
            have h2 := Array.all_eq_true_iff_forall_mem.1 h1 e he
            have h3 : e.on < i := by rw [hbd] at h2; simpa using h2
            have h4 := ih e.on h3 (by omega)
            have h5 : e.on < listed.size := by omega
            simp only [Array.getD, h5, dite_true] at h4 ⊢
            exact h4
          rw [hr] at this
          cases this
    refine hend _ x w hC fun i hi hE => hS i ?_ (.inl hE)
    have h4 := hlt (i + 1) i (by omega) hi
    have h5 : i < listed.size := by omega
    simp only [Array.getD, h5, dite_true] at h4 ⊢
    exact h4
  intro f
  induction f with
  | zero =>
    intro listed x w hs hc hC hS hT hD
    have hr : Region.ready .any l.toArray listed = [] := by
      rw [List.eq_nil_iff_forall_not_mem]
      intro i hi
      obtain ⟨hu, o, ho, _⟩ := mem_ready.1 hi
      have hil : i < l.length := by have := (Array.getElem?_eq_some_iff.1 ho).1; simpa using this
      have : 0 < cnt listed l.length := List.countP_pos_iff.2 ⟨i, by simpa using hil, by rw [hu]; rfl⟩
      omega
    exact ⟨hr, hfull listed x w hs hC hS hr⟩
  | succ f ih =>
    intro listed x w hs hc hC hS hT hD
    refine ⟨fun hr => hfull listed x w hs hC hS hr, fun i hi => ?_⟩
    obtain ⟨hu, o, ho, hd⟩ := mem_ready.1 hi
    have hil : i < l.length := by have := (Array.getElem?_eq_some_iff.1 ho).1; simpa using this
    have hol : l[i]? = some o := by simpa using ho
    have hui : listed.getD i false = false := by
      have : i < listed.size := by omega
      simp only [Array.getD, this, dite_true] at hu ⊢
      exact hu
    have hdn : ∀ j, waitsB l (0 + i) j = true → listed.getD j false = true := fun j huse => by
      rw [Nat.zero_add] at huse
      unfold waitsB at huse
      rw [hol, Option.map_some, Option.getD_some] at huse
      obtain ⟨q, hq, h2⟩ := Array.any_eq_true.1 huse
      simp only [Bool.and_eq_true] at h2
      have h3 := hd _ (Array.getElem_mem hq) h2.1
      rw [Nat.eq_of_beq_eq_true h2.2] at h3
      exact h3
    have hstep := hall.at l 0 i o hol (fun j => listed.getD j false) x w hC (by rw [Nat.zero_add]; exact hui) hD hdn (deps3_of _ fun e he hb => hS e.on (hd e (by simpa using he) (dataE_binds hb)) (.inr ⟨i, hil, hu, by
      unfold usesB
      rw [hol, Option.map_some, Option.getD_some]
      exact Array.any_eq_true'.2 ⟨e, by simpa using he, by rw [hb]; simp⟩⟩))
    rw [Nat.zero_add] at hstep
    refine wpOp_flow ho (fun e a w he h => ?_) (fun a' w' h => ?_) hstep
    · cases e <;> first | exact he rfl | exact h
    · obtain ⟨v, rfl, hC', hS', hk'⟩ := h
      have hfe : (fun j => (listed.setIfInBounds i true).getD j false) = updB (fun j => listed.getD j false) i := by
        funext j
        by_cases e : j = i
        · subst e
          have h1 : j < (listed.setIfInBounds j true).size := by simp; omega
          rw [updB_same]
          simp only [Array.getD, h1, dite_true]; simp
        · rw [getD_set_ne false (Ne.symm e)]
          unfold updB
          rw [show Nat.beq j i = false by cases hb : Nat.beq j i; rfl; exact absurd (Nat.eq_of_beq_eq_true hb) e]; rfl
      have hset0 : ∀ m, listed.getD m false = true → (listed.setIfInBounds i true).getD m false = true := fun m hm => by
        have := congrFun hfe m
        rw [this]; unfold updB; simp only [hm, Bool.or_true]
      refine ih _ _ _ (by simp [hs]) ?_ (by rw [hfe]; exact hC') (fun j hj hn => ?_) (fun j hj => ?_) fun m j hm huse => ?_
      · have h1 := countP_drop (p := fun k => !listed.getD k true) (q := fun k => !(listed.setIfInBounds i true).getD k true) (i := i) (List.range l.length) List.nodup_range (by simpa using hil) (by rw [hu]; rfl)
          (by have : i < (listed.setIfInBounds i true).size := by simp; omega
              simp only [Array.getD, this, dite_true]; simp) (fun j hj => by rw [getD_set_ne true (Ne.symm hj)])
        have h2 : cnt listed l.length ≤ f + 1 := hc
        unfold cnt at h2 ⊢
        omega
      · by_cases e : j = i
        · subst e; rw [upd_same]; exact hS'
        · rw [getD_set_ne false (Ne.symm e)] at hj
          have hki : k j ≠ i := fun e2 => by
            have := hT j hj
            rw [e2, getD_both hu] at this
            cases this
          rw [upd_ne x v e, upd_ne x v hki]
          have hn' : E j = true ∨ ∃ m, m < l.length ∧ m ≠ i ∧ listed.getD m true = false ∧ usesB l m j = true := by
            rcases hn with h | ⟨m, h1, h2, h3⟩
            · exact .inl h
            · refine .inr ⟨m, h1, ?_, ?_, h3⟩
              · intro em
                subst em
                have : m < (listed.setIfInBounds m true).size := by simp; omega
                simp only [Array.getD, this, dite_true] at h2
                simp at h2
              · by_cases em : m = i
                · subst em
                  have : m < (listed.setIfInBounds m true).size := by simp; omega
                  simp only [Array.getD, this, dite_true] at h2
                  simp at h2
                · rwa [getD_set_ne true (Ne.symm em)] at h2
          refine hk' j _ _ hj ?_ (hS j hj ?_)
          · rcases hn' with h | ⟨m, h1, h2, h4, h3⟩
            · exact .inl h
            · refine .inr ⟨m, mem_users h1 h3, h2, ?_⟩
              have : m < listed.size := by omega
              simp only [Array.getD, this, dite_true] at h4 ⊢
              exact h4
          · rcases hn' with h | ⟨m, h1, _, h2, h3⟩
            · exact .inl h
            · exact .inr ⟨m, h1, h2, h3⟩
      · have hset : ∀ m, listed.getD m false = true → (listed.setIfInBounds i true).getD m false = true := fun m hm => by
          by_cases e : m = i
          · subst e; rw [getD_both hu] at hm; cases hm
          · rw [getD_set_ne false (Ne.symm e)]; exact hm
        by_cases e : j = i
        · subst e
          have h1 := List.all_eq_true.1 hk j (by simpa using hil)
          simp only [Bool.or_eq_true] at h1
          rcases h1 with h1 | h1
          · rw [Nat.eq_of_beq_eq_true h1]; exact hj
          · have ho' : l[j]? = some o := by simpa using ho
            rw [ho', Option.map_some, Option.getD_some] at h1
            obtain ⟨m, hm, h2⟩ := Array.any_eq_true.1 h1
            obtain ⟨e, he, h2⟩ : ∃ e ∈ o.after, (Region.binds .any e && Nat.beq e.on (k j)) = true := ⟨_, Array.getElem_mem hm, h2⟩
            simp only [Bool.and_eq_true] at h2
            rw [← Nat.eq_of_beq_eq_true h2.2]
            exact hset _ (hd e he h2.1)
        · rw [getD_set_ne false (Ne.symm e)] at hj
          exact hset _ (hT j hj)
      · by_cases e : m = i
        · subst e
          unfold waitsB at huse
          rw [hol, Option.map_some, Option.getD_some] at huse
          obtain ⟨q, hq, h2⟩ := Array.any_eq_true.1 huse
          simp only [Bool.and_eq_true] at h2
          have h3 := hd _ (Array.getElem_mem hq) h2.1
          rw [Nat.eq_of_beq_eq_true h2.2] at h3
          exact hset0 _ h3
        · rw [getD_set_ne false (Ne.symm e)] at hm
          exact hset0 _ (hD m j hm huse)
/-- the region -/
theorem region_flow4 {l : List Oper} {Q : Exit → Act → World → Prop} {id : Nat} {df : List Deferred} {w : World} (hm : P.follows .mixedOrders = true) (hB : flowB l = true) (E : Nat → Bool)
    (k : Nat → Nat) (hk : tiedB k l = true) (build : (Nat → Value) → Array Value) (x0 : Nat → Value) (C : (Nat → Bool) → (Nat → Value) → World → Prop) (S : Nat → Value → Value → World → Prop) (hC : C (fun _ => false) x0 w.drew) (hall : FlowAll4 P l.toArray E l k build df C S 0 l)
    (hend : ∀ L x w, C L x w → (∀ i, i < l.length → E i = true → S i (x i) (x (k i)) w) → Q .normal ⟨build x, df⟩ w) : (Code.region id l.toArray true).wp P Q ⟨build x0, df⟩ w := by
  have hf : (fun j => (Array.replicate l.toArray.size false).getD j false) = fun _ => false := by funext j; exact getD_replicate_false _ _
  refine wp_region_any hm (any_flow4 hB hk hall hend _ _ _ _ (by simp) ?_ (by rw [hf]; exact hC) (fun i hi => ?_) (fun i hi => ?_) fun m j hm _ => ?_)
  · have : cnt (Array.replicate l.toArray.size false) l.length ≤ (List.range l.length).length := List.countP_le_length
    simpa using this
  · rw [getD_replicate_false] at hi; cases hi
  · rw [getD_replicate_false] at hi; cases hi
  · rw [getD_replicate_false] at hm; cases hm
end
end Go.Proofs.YtmfmgeapecapiaaDoor
namespace Go.Proofs.YtmfmgeapecapiaaDoor
open Go.RowKit SzSha SzTree
set_option linter.unusedVariables false
set_option maxRecDepth 100000
variable {α : Type}
/-- n elements of k cells each, from an offset of a block on; none is frozen -/
def Rw (enc : α → List Value) (s : Nat) (w : World) (g off n : Nat) (F : Nat → α) : Prop := ∀ k, k < n → w.rangeAt g (off + k * s) (enc (F k)) ∧ w.there g (off + k * s) s
def swF (F : Nat → α) (i j : Nat) (a b : Bool) (k : Nat) : α := bif a && Nat.beq k i then F j else bif b && Nat.beq k j then F i else F k
def curF (f : Nat → α) (n i k : Nat) : α := if k < i ∨ n - i ≤ k then f (n - 1 - k) else f k
theorem mul_gap {k k' s : Nat} (h : k < k') : k * s + s ≤ k' * s := by
  have := Nat.mul_le_mul_right s (show k + 1 ≤ k' from h)
  rw [Nat.succ_mul] at this; exact this
theorem Rw.set {enc : α → List Value} {s : Nat} {w : World} {g off n : Nat} {F : Nat → α} (h : Rw enc s w g off n F) (hs : ∀ k, k < n → (enc (F k)).length = s) (k0 : Nat) (hk0 : k0 < n) (x : α) (hx : (enc x).length = s) :
    Rw enc s (w.setCells g (off + k0 * s) (enc x)) g off n (fun k => bif Nat.beq k k0 then x else F k) := fun k hk => by
  refine ⟨?_, World.there_setCells (h k hk).2 _ _ _⟩
  by_cases e : k = k0
  · subst e
    show (w.setCells g (off + k * s) (enc x)).rangeAt g (off + k * s) (enc (bif Nat.beq k k then x else F k))
    rw [show Nat.beq k k = true by simp]
    exact World.rangeAt_setCells_same w g _ _ (by rw [hx]; exact (h k hk0).2)
  · show (w.setCells g (off + k0 * s) (enc x)).rangeAt g (off + k * s) (enc (bif Nat.beq k k0 then x else F k))
    rw [show Nat.beq k k0 = false by cases hb : Nat.beq k k0; rfl; exact absurd (Nat.eq_of_beq_eq_true hb) e]
    refine World.rangeAt_setCells_apart (h k hk).1 _ _ _ ?_
    rw [hs k hk, hx]
    rcases Nat.lt_or_gt_of_ne e with h' | h'
    · have := mul_gap (s := s) h'; omega
    · have := mul_gap (s := s) h'; omega
theorem Rw.congr {enc : α → List Value} {s : Nat} {w : World} {g off n : Nat} {F G : Nat → α} (h : Rw enc s w g off n F) (e : ∀ k, k < n → F k = G k) : Rw enc s w g off n G := fun k hk => by rw [← e k hk]; exact h k hk
theorem Rw.drew {enc : α → List Value} {s : Nat} {w : World} {g off n : Nat} {F : Nat → α} (h : Rw enc s w g off n F) : Rw enc s w.drew g off n F := h
theorem beq_no {k i : Nat} (h : k ≠ i) : Nat.beq k i = false := by cases hb : Nat.beq k i; rfl; exact absurd (Nat.eq_of_beq_eq_true hb) h
theorem swF_len {enc : α → List Value} {s n i j : Nat} {F : Nat → α} (hs : ∀ k, k < n → (enc (F k)).length = s) (hi : i < n) (hj : j < n) (a b : Bool) : ∀ k, k < n → (enc (swF F i j a b k)).length = s := fun k hk => by
  unfold swF
  cases a && Nat.beq k i <;> cases b && Nat.beq k j <;> first | exact hs _ hk | exact hs _ hi | exact hs _ hj
theorem swF_one (F : Nat → α) (i j k : Nat) : (bif Nat.beq k i then F j else swF F i j false false k) = swF F i j true false k := by
  unfold swF; cases Nat.beq k i <;> rfl
theorem swF_two (F : Nat → α) {i j : Nat} (h : i < j) (k : Nat) : (bif Nat.beq k j then F i else swF F i j true false k) = swF F i j true true k := by
  by_cases e : k = i
  · subst e
    unfold swF
    rw [beq_no (show k ≠ j by omega)]; simp
  · unfold swF
    rw [beq_no e]; cases Nat.beq k j <;> rfl
theorem curF_len {enc : α → List Value} {s n i : Nat} {f : Nat → α} (hs : ∀ k, k < n → (enc (f k)).length = s) : ∀ k, k < n → (enc (curF f n i k)).length = s := fun k hk => by
  unfold curF; split
  · exact hs _ (by omega)
  · exact hs _ hk
theorem curF_next (f : Nat → α) {n i j : Nat} (h : i + j + 1 = n) (hij : i < j) (k : Nat) (hk : k < n) : swF (curF f n i) i j true true k = curF f n (i + 1) k := by
  unfold swF
  by_cases e1 : k = i
  · subst e1
    rw [show Nat.beq k k = true by simp]
    show curF f n k j = _
    unfold curF
    rw [if_neg (by omega), if_pos (by omega), show n - 1 - k = j by omega]
  · rw [beq_no e1]
    by_cases e2 : k = j
    · subst e2
      rw [show Nat.beq k k = true by simp]
      show curF f n i i = _
      unfold curF
      rw [if_neg (by omega), if_pos (by omega), show n - 1 - k = i by omega]
    · rw [beq_no e2]
      show curF f n i k = _
      unfold curF
      by_cases h3 : k < i ∨ n - i ≤ k
      · rw [if_pos h3, if_pos (by omega)]
      · rw [if_neg h3, if_neg (by omega)]
theorem curF_zero (f : Nat → α) (n k : Nat) (hk : k < n) : f k = curF f n 0 k := by unfold curF; rw [if_neg (by omega)]
theorem curF_end (f : Nat → α) {n i : Nat} (h : n ≤ 2 * i + 1) (k : Nat) (hk : k < n) : curF f n i k = f (n - 1 - k) := by
  unfold curF; split
  · rfl
  · rw [show n - 1 - k = k by omega]

theorem grown_setCells {a w : World} {g : Nat} (h : a.grownBy w (some g)) (o : Nat) (vs : List Value) : a.grownBy (w.setCells g o vs) (some g) := by
  induction vs generalizing o w with
  | nil => exact h
  | cons v vs ih => exact ih (only_setCell h (.inl rfl) v) _
def bC (b : Bool) : List Value := [.bool b]
theorem setCells_one (w : World) (g off i : Nat) (b : Bool) : w.setCells g (off + i * 1) (bC b) = w.setCell ⟨g, off + i, none⟩ (.bool b) := by
  rw [Nat.mul_one]; rfl
end Go.Proofs.YtmfmgeapecapiaaDoor
