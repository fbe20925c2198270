/- sizar/tree.Leaf. sizar/tree.Leaf, every line; slices of three nodes built. Digests compared. Nodes compared; sizarref41.Same. Nodes, lines and slices of them that came in. Claims and transcripts that came in. The kit of layers 42 and 43. sizar/sums.Cover. sizar/sums.Show: the deferred closure. sizar/digest: leaf, node. -/
import Derived.Test.YtmfmgeapecapiaaDoorCV5
import Derived.Test.YtmfmgeapecapiaaDoorCV4
import Derived.Test.YtmfmgeapecapiaaDoorCV2
import Derived.Stop.BytesEq
import Derived.Test.YtmfmgeapecapiaaDoorCV3
import Derived.Laws.StructEq
import Derived.Deep.Slices
import Derived.Test.YtmfmgeapecapiaaDoorCV0
import Derived.Maps.AppendAt
import Derived.Laws.AppendOwn
import Derived.RecoverIn
import Derived.Laws.Pointers
namespace Go.Proofs.YtmfmgeapecapiaaDoor
open Go.RowKit SzSha SzTree
set_option linter.unusedVariables false
set_option maxRecDepth 100000
/-- a line is valid -/
def lOk (c0 c1 c2 c3 c4 : Int) : Prop := 0 ≤ c0 ∧ c0 < 4096 ∧ 0 ≤ c1 ∧ c1 < 1024 ∧ 0 ≤ c2 ∧ c2 ≤ 12 ∧ 0 ≤ c3 ∧ c3 ≤ 60 ∧ 0 ≤ c4 ∧ c4 < 7
theorem zeros34 : (#[.int .u8 0, .int .u8 0, .int .u8 0, .int .u8 0, .int .u8 0, .int .u8 0, .int .u8 0, .int .u8 0, .int .u8 0, .int .u8 0, .int .u8 0, .int .u8 0, .int .u8 0, .int .u8 0, .int .u8 0, .int .u8 0, .int .u8 0, .int .u8 0, .int .u8 0, .int .u8 0, .int .u8 0, .int .u8 0, .int .u8 0, .int .u8 0, .int .u8 0, .int .u8 0, .int .u8 0, .int .u8 0, .int .u8 0, .int .u8 0, .int .u8 0, .int .u8 0, .int .i64 0, .int .i64 0] : Array Value) = (ndC zeroN).toArray := zeroN_cells.symm

set_option maxHeartbeats 4000000 in
theorem leaf_n0 (c0 c1 c2 c3 c4 : Int) (l : List Nat) (w : World) (d0 : decide (c0 < 0) = true) :
    Calls Tryd.prog 27 #[.agg #[.int .i64 c0, .int .i64 c1, .int .i64 c2, .int .i64 c3, .int .i64 c4], dgV l] w fun e w' => e = .returned (.tuple #[ndV zeroN, .int .i64 410]) ∧ Below w.heap.size w w' := by
  have HSZ : Hid ((Tryd.prog.info? 31).map (·.size) = some (ndC zeroN).toArray.size) := Lib.hid (by rw [size34 zeroN_ok]; simp)
  obtain ⟨X, HX⟩ : ∃ X, Hid ((l.map fun x => Value.int .u8 (x : Nat)).toArray = X) := ⟨_, Lib.hid rfl⟩
  have e0 : dgV l = .agg X := by unfold dgV; rw [HX.out]
  rw [e0]
  clear e0
  obtain ⟨t1, t2, t3, t4⟩ := three_rows3 w #[.int .i64 c0, .int .i64 c1, .int .i64 c2, .int .i64 c3, .int .i64 c4] X #[.int .u8 0, .int .u8 0, .int .u8 0, .int .u8 0, .int .u8 0, .int .u8 0, .int .u8 0, .int .u8 0, .int .u8 0, .int .u8 0, .int .u8 0, .int .u8 0, .int .u8 0, .int .u8 0, .int .u8 0, .int .u8 0, .int .u8 0, .int .u8 0, .int .u8 0, .int .u8 0, .int .u8 0, .int .u8 0, .int .u8 0, .int .u8 0, .int .u8 0, .int .u8 0, .int .u8 0, .int .u8 0, .int .u8 0, .int .u8 0, .int .u8 0, .int .u8 0, .int .i64 0, .int .i64 0] 41 25 31
  have HB1 := Lib.hid t1
  have HRR := Lib.hid t4
  have k0 := five_cells t2 0 (by omega)
  have k1 := five_cells t2 1 (by omega)
  have k2 := five_cells t2 2 (by omega)
  have k3 := five_cells t2 3 (by omega)
  have k4 := five_cells t2 4 (by omega)
  have HSZ2 := HSZ
  have HON := Lib.hid (ndC_one zeroN)
  rw [← zeros34] at HSZ2 HON
  clear t1 t2 t3 t4
  go_enter Tryd.func27, Tryd.ntmps27
  go_wp2_with (first | (refine wpList_load_row rfl 31 (.tmp 4) rfl (w.heap.size + 1 + 1) rfl 31 _ (0, 0) _ HRR.out Tryd.underlying31 rfl HSZ2.out ?_) | (refine wpList_store_row rfl 31 (.tmp 4) (.tmp 54) rfl (w.heap.size + 1 + 1) #[.int .u8 0, .int .u8 0, .int .u8 0, .int .u8 0, .int .u8 0, .int .u8 0, .int .u8 0, .int .u8 0, .int .u8 0, .int .u8 0, .int .u8 0, .int .u8 0, .int .u8 0, .int .u8 0, .int .u8 0, .int .u8 0, .int .u8 0, .int .u8 0, .int .u8 0, .int .u8 0, .int .u8 0, .int .u8 0, .int .u8 0, .int .u8 0, .int .u8 0, .int .u8 0, .int .u8 0, .int .u8 0, .int .u8 0, .int .u8 0, .int .u8 0, .int .u8 0, .int .i64 0, .int .i64 0] ?ha ?hb 31 _ HRR.out HSZ2.out rfl HON.out ?hc))
  rw [zeros34] at HB1 HRR
  rw [zeros34]
  have hr := setRow_heap _ (w.heap.size + 1 + 1) _ (ndC zeroN).toArray _ _ HRR.out
  have hl := run_loadVar_row (P := Tryd.prog) _ (w.heap.size + 1 + 1) 31 31 (ndC zeroN).toArray (0, 0) _ hr Tryd.underlying31 rfl HSZ.out
  refine bodyPost_ret (v := .tuple #[ndV zeroN, .int .i64 410]) ?_ rfl ⟨rfl, below_setRow HB1.out (by omega) _⟩
  unfold ndV
  simp [results, Tryd.results27, asAddr, hl]

set_option maxHeartbeats 4000000 in
theorem leaf_n1 (c0 c1 c2 c3 c4 : Int) (l : List Nat) (w : World) (d0 : decide (c0 < 0) = false) (d1 : decide (4096 ≤ c0) = true) :
    Calls Tryd.prog 27 #[.agg #[.int .i64 c0, .int .i64 c1, .int .i64 c2, .int .i64 c3, .int .i64 c4], dgV l] w fun e w' => e = .returned (.tuple #[ndV zeroN, .int .i64 410]) ∧ Below w.heap.size w w' := by
  have HSZ : Hid ((Tryd.prog.info? 31).map (·.size) = some (ndC zeroN).toArray.size) := Lib.hid (by rw [size34 zeroN_ok]; simp)
  obtain ⟨X, HX⟩ : ∃ X, Hid ((l.map fun x => Value.int .u8 (x : Nat)).toArray = X) := ⟨_, Lib.hid rfl⟩
  have e0 : dgV l = .agg X := by unfold dgV; rw [HX.out]
  rw [e0]
  clear e0
  obtain ⟨t1, t2, t3, t4⟩ := three_rows3 w #[.int .i64 c0, .int .i64 c1, .int .i64 c2, .int .i64 c3, .int .i64 c4] X #[.int .u8 0, .int .u8 0, .int .u8 0, .int .u8 0, .int .u8 0, .int .u8 0, .int .u8 0, .int .u8 0, .int .u8 0, .int .u8 0, .int .u8 0, .int .u8 0, .int .u8 0, .int .u8 0, .int .u8 0, .int .u8 0, .int .u8 0, .int .u8 0, .int .u8 0, .int .u8 0, .int .u8 0, .int .u8 0, .int .u8 0, .int .u8 0, .int .u8 0, .int .u8 0, .int .u8 0, .int .u8 0, .int .u8 0, .int .u8 0, .int .u8 0, .int .u8 0, .int .i64 0, .int .i64 0] 41 25 31
  have HB1 := Lib.hid t1
  have HRR := Lib.hid t4
  have k0 := five_cells t2 0 (by omega)
  have k1 := five_cells t2 1 (by omega)
  have k2 := five_cells t2 2 (by omega)
  have k3 := five_cells t2 3 (by omega)
  have k4 := five_cells t2 4 (by omega)
  have HSZ2 := HSZ
  have HON := Lib.hid (ndC_one zeroN)
  rw [← zeros34] at HSZ2 HON
  clear t1 t2 t3 t4
  go_enter Tryd.func27, Tryd.ntmps27
  go_wp2_with (first | (refine wpList_load_row rfl 31 (.tmp 4) rfl (w.heap.size + 1 + 1) rfl 31 _ (0, 0) _ HRR.out Tryd.underlying31 rfl HSZ2.out ?_) | (refine wpList_store_row rfl 31 (.tmp 4) (.tmp 54) rfl (w.heap.size + 1 + 1) #[.int .u8 0, .int .u8 0, .int .u8 0, .int .u8 0, .int .u8 0, .int .u8 0, .int .u8 0, .int .u8 0, .int .u8 0, .int .u8 0, .int .u8 0, .int .u8 0, .int .u8 0, .int .u8 0, .int .u8 0, .int .u8 0, .int .u8 0, .int .u8 0, .int .u8 0, .int .u8 0, .int .u8 0, .int .u8 0, .int .u8 0, .int .u8 0, .int .u8 0, .int .u8 0, .int .u8 0, .int .u8 0, .int .u8 0, .int .u8 0, .int .u8 0, .int .u8 0, .int .i64 0, .int .i64 0] ?ha ?hb 31 _ HRR.out HSZ2.out rfl HON.out ?hc))
  rw [zeros34] at HB1 HRR
  rw [zeros34]
  have hr := setRow_heap _ (w.heap.size + 1 + 1) _ (ndC zeroN).toArray _ _ HRR.out
  have hl := run_loadVar_row (P := Tryd.prog) _ (w.heap.size + 1 + 1) 31 31 (ndC zeroN).toArray (0, 0) _ hr Tryd.underlying31 rfl HSZ.out
  refine bodyPost_ret (v := .tuple #[ndV zeroN, .int .i64 410]) ?_ rfl ⟨rfl, below_setRow HB1.out (by omega) _⟩
  unfold ndV
  simp [results, Tryd.results27, asAddr, hl]

set_option maxHeartbeats 4000000 in
theorem leaf_n2 (c0 c1 c2 c3 c4 : Int) (l : List Nat) (w : World) (d0 : decide (c0 < 0) = false) (d1 : decide (4096 ≤ c0) = false) (d2 : decide (c1 < 0) = true) :
    Calls Tryd.prog 27 #[.agg #[.int .i64 c0, .int .i64 c1, .int .i64 c2, .int .i64 c3, .int .i64 c4], dgV l] w fun e w' => e = .returned (.tuple #[ndV zeroN, .int .i64 410]) ∧ Below w.heap.size w w' := by
  have HSZ : Hid ((Tryd.prog.info? 31).map (·.size) = some (ndC zeroN).toArray.size) := Lib.hid (by rw [size34 zeroN_ok]; simp)
  obtain ⟨X, HX⟩ : ∃ X, Hid ((l.map fun x => Value.int .u8 (x : Nat)).toArray = X) := ⟨_, Lib.hid rfl⟩
  have e0 : dgV l = .agg X := by unfold dgV; rw [HX.out]
  rw [e0]
  clear e0
  obtain ⟨t1, t2, t3, t4⟩ := three_rows3 w #[.int .i64 c0, .int .i64 c1, .int .i64 c2, .int .i64 c3, .int .i64 c4] X #[.int .u8 0, .int .u8 0, .int .u8 0, .int .u8 0, .int .u8 0, .int .u8 0, .int .u8 0, .int .u8 0, .int .u8 0, .int .u8 0, .int .u8 0, .int .u8 0, .int .u8 0, .int .u8 0, .int .u8 0, .int .u8 0, .int .u8 0, .int .u8 0, .int .u8 0, .int .u8 0, .int .u8 0, .int .u8 0, .int .u8 0, .int .u8 0, .int .u8 0, .int .u8 0, .int .u8 0, .int .u8 0, .int .u8 0, .int .u8 0, .int .u8 0, .int .u8 0, .int .i64 0, .int .i64 0] 41 25 31
  have HB1 := Lib.hid t1
  have HRR := Lib.hid t4
  have k0 := five_cells t2 0 (by omega)
  have k1 := five_cells t2 1 (by omega)
  have k2 := five_cells t2 2 (by omega)
  have k3 := five_cells t2 3 (by omega)
  have k4 := five_cells t2 4 (by omega)
  have HSZ2 := HSZ
  have HON := Lib.hid (ndC_one zeroN)
  rw [← zeros34] at HSZ2 HON
  clear t1 t2 t3 t4
  go_enter Tryd.func27, Tryd.ntmps27
  go_wp2_with (first | (refine wpList_load_row rfl 31 (.tmp 4) rfl (w.heap.size + 1 + 1) rfl 31 _ (0, 0) _ HRR.out Tryd.underlying31 rfl HSZ2.out ?_) | (refine wpList_store_row rfl 31 (.tmp 4) (.tmp 54) rfl (w.heap.size + 1 + 1) #[.int .u8 0, .int .u8 0, .int .u8 0, .int .u8 0, .int .u8 0, .int .u8 0, .int .u8 0, .int .u8 0, .int .u8 0, .int .u8 0, .int .u8 0, .int .u8 0, .int .u8 0, .int .u8 0, .int .u8 0, .int .u8 0, .int .u8 0, .int .u8 0, .int .u8 0, .int .u8 0, .int .u8 0, .int .u8 0, .int .u8 0, .int .u8 0, .int .u8 0, .int .u8 0, .int .u8 0, .int .u8 0, .int .u8 0, .int .u8 0, .int .u8 0, .int .u8 0, .int .i64 0, .int .i64 0] ?ha ?hb 31 _ HRR.out HSZ2.out rfl HON.out ?hc))
  rw [zeros34] at HB1 HRR
  rw [zeros34]
  have hr := setRow_heap _ (w.heap.size + 1 + 1) _ (ndC zeroN).toArray _ _ HRR.out
  have hl := run_loadVar_row (P := Tryd.prog) _ (w.heap.size + 1 + 1) 31 31 (ndC zeroN).toArray (0, 0) _ hr Tryd.underlying31 rfl HSZ.out
  refine bodyPost_ret (v := .tuple #[ndV zeroN, .int .i64 410]) ?_ rfl ⟨rfl, below_setRow HB1.out (by omega) _⟩
  unfold ndV
  simp [results, Tryd.results27, asAddr, hl]

set_option maxHeartbeats 4000000 in
theorem leaf_n3 (c0 c1 c2 c3 c4 : Int) (l : List Nat) (w : World) (d0 : decide (c0 < 0) = false) (d1 : decide (4096 ≤ c0) = false) (d2 : decide (c1 < 0) = false) (d3 : decide (1024 ≤ c1) = true) :
    Calls Tryd.prog 27 #[.agg #[.int .i64 c0, .int .i64 c1, .int .i64 c2, .int .i64 c3, .int .i64 c4], dgV l] w fun e w' => e = .returned (.tuple #[ndV zeroN, .int .i64 410]) ∧ Below w.heap.size w w' := by
  have HSZ : Hid ((Tryd.prog.info? 31).map (·.size) = some (ndC zeroN).toArray.size) := Lib.hid (by rw [size34 zeroN_ok]; simp)
  obtain ⟨X, HX⟩ : ∃ X, Hid ((l.map fun x => Value.int .u8 (x : Nat)).toArray = X) := ⟨_, Lib.hid rfl⟩
  have e0 : dgV l = .agg X := by unfold dgV; rw [HX.out]
  rw [e0]
  clear e0
  obtain ⟨t1, t2, t3, t4⟩ := three_rows3 w #[.int .i64 c0, .int .i64 c1, .int .i64 c2, .int .i64 c3, .int .i64 c4] X #[.int .u8 0, .int .u8 0, .int .u8 0, .int .u8 0, .int .u8 0, .int .u8 0, .int .u8 0, .int .u8 0, .int .u8 0, .int .u8 0, .int .u8 0, .int .u8 0, .int .u8 0, .int .u8 0, .int .u8 0, .int .u8 0, .int .u8 0, .int .u8 0, .int .u8 0, .int .u8 0, .int .u8 0, .int .u8 0, .int .u8 0, .int .u8 0, .int .u8 0, .int .u8 0, .int .u8 0, .int .u8 0, .int .u8 0, .int .u8 0, .int .u8 0, .int .u8 0, .int .i64 0, .int .i64 0] 41 25 31
  have HB1 := Lib.hid t1
  have HRR := Lib.hid t4
  have k0 := five_cells t2 0 (by omega)
  have k1 := five_cells t2 1 (by omega)
  have k2 := five_cells t2 2 (by omega)
  have k3 := five_cells t2 3 (by omega)
  have k4 := five_cells t2 4 (by omega)
  have HSZ2 := HSZ
  have HON := Lib.hid (ndC_one zeroN)
  rw [← zeros34] at HSZ2 HON
  clear t1 t2 t3 t4
  go_enter Tryd.func27, Tryd.ntmps27
  go_wp2_with (first | (refine wpList_load_row rfl 31 (.tmp 4) rfl (w.heap.size + 1 + 1) rfl 31 _ (0, 0) _ HRR.out Tryd.underlying31 rfl HSZ2.out ?_) | (refine wpList_store_row rfl 31 (.tmp 4) (.tmp 54) rfl (w.heap.size + 1 + 1) #[.int .u8 0, .int .u8 0, .int .u8 0, .int .u8 0, .int .u8 0, .int .u8 0, .int .u8 0, .int .u8 0, .int .u8 0, .int .u8 0, .int .u8 0, .int .u8 0, .int .u8 0, .int .u8 0, .int .u8 0, .int .u8 0, .int .u8 0, .int .u8 0, .int .u8 0, .int .u8 0, .int .u8 0, .int .u8 0, .int .u8 0, .int .u8 0, .int .u8 0, .int .u8 0, .int .u8 0, .int .u8 0, .int .u8 0, .int .u8 0, .int .u8 0, .int .u8 0, .int .i64 0, .int .i64 0] ?ha ?hb 31 _ HRR.out HSZ2.out rfl HON.out ?hc))
  rw [zeros34] at HB1 HRR
  rw [zeros34]
  have hr := setRow_heap _ (w.heap.size + 1 + 1) _ (ndC zeroN).toArray _ _ HRR.out
  have hl := run_loadVar_row (P := Tryd.prog) _ (w.heap.size + 1 + 1) 31 31 (ndC zeroN).toArray (0, 0) _ hr Tryd.underlying31 rfl HSZ.out
  refine bodyPost_ret (v := .tuple #[ndV zeroN, .int .i64 410]) ?_ rfl ⟨rfl, below_setRow HB1.out (by omega) _⟩
  unfold ndV
  simp [results, Tryd.results27, asAddr, hl]

set_option maxHeartbeats 4000000 in
theorem leaf_n4 (c0 c1 c2 c3 c4 : Int) (l : List Nat) (w : World) (d0 : decide (c0 < 0) = false) (d1 : decide (4096 ≤ c0) = false) (d2 : decide (c1 < 0) = false) (d3 : decide (1024 ≤ c1) = false) (d4 : decide (c2 < 0) = true) :
    Calls Tryd.prog 27 #[.agg #[.int .i64 c0, .int .i64 c1, .int .i64 c2, .int .i64 c3, .int .i64 c4], dgV l] w fun e w' => e = .returned (.tuple #[ndV zeroN, .int .i64 410]) ∧ Below w.heap.size w w' := by
  have HSZ : Hid ((Tryd.prog.info? 31).map (·.size) = some (ndC zeroN).toArray.size) := Lib.hid (by rw [size34 zeroN_ok]; simp)
  obtain ⟨X, HX⟩ : ∃ X, Hid ((l.map fun x => Value.int .u8 (x : Nat)).toArray = X) := ⟨_, Lib.hid rfl⟩
  have e0 : dgV l = .agg X := by unfold dgV; rw [HX.out]
  rw [e0]
  clear e0
  obtain ⟨t1, t2, t3, t4⟩ := three_rows3 w #[.int .i64 c0, .int .i64 c1, .int .i64 c2, .int .i64 c3, .int .i64 c4] X #[.int .u8 0, .int .u8 0, .int .u8 0, .int .u8 0, .int .u8 0, .int .u8 0, .int .u8 0, .int .u8 0, .int .u8 0, .int .u8 0, .int .u8 0, .int .u8 0, .int .u8 0, .int .u8 0, .int .u8 0, .int .u8 0, .int .u8 0, .int .u8 0, .int .u8 0, .int .u8 0, .int .u8 0, .int .u8 0, .int .u8 0, .int .u8 0, .int .u8 0, .int .u8 0, .int .u8 0, .int .u8 0, .int .u8 0, .int .u8 0, .int .u8 0, .int .u8 0, .int .i64 0, .int .i64 0] 41 25 31
  have HB1 := Lib.hid t1
  have HRR := Lib.hid t4
  have k0 := five_cells t2 0 (by omega)
  have k1 := five_cells t2 1 (by omega)
  have k2 := five_cells t2 2 (by omega)
  have k3 := five_cells t2 3 (by omega)
  have k4 := five_cells t2 4 (by omega)
  have HSZ2 := HSZ
  have HON := Lib.hid (ndC_one zeroN)
  rw [← zeros34] at HSZ2 HON
  clear t1 t2 t3 t4
  go_enter Tryd.func27, Tryd.ntmps27
  go_wp2_with (first | (refine wpList_load_row rfl 31 (.tmp 4) rfl (w.heap.size + 1 + 1) rfl 31 _ (0, 0) _ HRR.out Tryd.underlying31 rfl HSZ2.out ?_) | (refine wpList_store_row rfl 31 (.tmp 4) (.tmp 54) rfl (w.heap.size + 1 + 1) #[.int .u8 0, .int .u8 0, .int .u8 0, .int .u8 0, .int .u8 0, .int .u8 0, .int .u8 0, .int .u8 0, .int .u8 0, .int .u8 0, .int .u8 0, .int .u8 0, .int .u8 0, .int .u8 0, .int .u8 0, .int .u8 0, .int .u8 0, .int .u8 0, .int .u8 0, .int .u8 0, .int .u8 0, .int .u8 0, .int .u8 0, .int .u8 0, .int .u8 0, .int .u8 0, .int .u8 0, .int .u8 0, .int .u8 0, .int .u8 0, .int .u8 0, .int .u8 0, .int .i64 0, .int .i64 0] ?ha ?hb 31 _ HRR.out HSZ2.out rfl HON.out ?hc))
  rw [zeros34] at HB1 HRR
  rw [zeros34]
  have hr := setRow_heap _ (w.heap.size + 1 + 1) _ (ndC zeroN).toArray _ _ HRR.out
  have hl := run_loadVar_row (P := Tryd.prog) _ (w.heap.size + 1 + 1) 31 31 (ndC zeroN).toArray (0, 0) _ hr Tryd.underlying31 rfl HSZ.out
  refine bodyPost_ret (v := .tuple #[ndV zeroN, .int .i64 410]) ?_ rfl ⟨rfl, below_setRow HB1.out (by omega) _⟩
  unfold ndV
  simp [results, Tryd.results27, asAddr, hl]

set_option maxHeartbeats 4000000 in
theorem leaf_n5 (c0 c1 c2 c3 c4 : Int) (l : List Nat) (w : World) (d0 : decide (c0 < 0) = false) (d1 : decide (4096 ≤ c0) = false) (d2 : decide (c1 < 0) = false) (d3 : decide (1024 ≤ c1) = false) (d4 : decide (c2 < 0) = false) (d5 : decide (12 < c2) = true) :
    Calls Tryd.prog 27 #[.agg #[.int .i64 c0, .int .i64 c1, .int .i64 c2, .int .i64 c3, .int .i64 c4], dgV l] w fun e w' => e = .returned (.tuple #[ndV zeroN, .int .i64 410]) ∧ Below w.heap.size w w' := by
  have HSZ : Hid ((Tryd.prog.info? 31).map (·.size) = some (ndC zeroN).toArray.size) := Lib.hid (by rw [size34 zeroN_ok]; simp)
  obtain ⟨X, HX⟩ : ∃ X, Hid ((l.map fun x => Value.int .u8 (x : Nat)).toArray = X) := ⟨_, Lib.hid rfl⟩
  have e0 : dgV l = .agg X := by unfold dgV; rw [HX.out]
  rw [e0]
  clear e0
  obtain ⟨t1, t2, t3, t4⟩ := three_rows3 w #[.int .i64 c0, .int .i64 c1, .int .i64 c2, .int .i64 c3, .int .i64 c4] X #[.int .u8 0, .int .u8 0, .int .u8 0, .int .u8 0, .int .u8 0, .int .u8 0, .int .u8 0, .int .u8 0, .int .u8 0, .int .u8 0, .int .u8 0, .int .u8 0, .int .u8 0, .int .u8 0, .int .u8 0, .int .u8 0, .int .u8 0, .int .u8 0, .int .u8 0, .int .u8 0, .int .u8 0, .int .u8 0, .int .u8 0, .int .u8 0, .int .u8 0, .int .u8 0, .int .u8 0, .int .u8 0, .int .u8 0, .int .u8 0, .int .u8 0, .int .u8 0, .int .i64 0, .int .i64 0] 41 25 31
  have HB1 := Lib.hid t1
  have HRR := Lib.hid t4
  have k0 := five_cells t2 0 (by omega)
  have k1 := five_cells t2 1 (by omega)
  have k2 := five_cells t2 2 (by omega)
  have k3 := five_cells t2 3 (by omega)
  have k4 := five_cells t2 4 (by omega)
  have HSZ2 := HSZ
  have HON := Lib.hid (ndC_one zeroN)
  rw [← zeros34] at HSZ2 HON
  clear t1 t2 t3 t4
  go_enter Tryd.func27, Tryd.ntmps27
  go_wp2_with (first | (refine wpList_load_row rfl 31 (.tmp 4) rfl (w.heap.size + 1 + 1) rfl 31 _ (0, 0) _ HRR.out Tryd.underlying31 rfl HSZ2.out ?_) | (refine wpList_store_row rfl 31 (.tmp 4) (.tmp 54) rfl (w.heap.size + 1 + 1) #[.int .u8 0, .int .u8 0, .int .u8 0, .int .u8 0, .int .u8 0, .int .u8 0, .int .u8 0, .int .u8 0, .int .u8 0, .int .u8 0, .int .u8 0, .int .u8 0, .int .u8 0, .int .u8 0, .int .u8 0, .int .u8 0, .int .u8 0, .int .u8 0, .int .u8 0, .int .u8 0, .int .u8 0, .int .u8 0, .int .u8 0, .int .u8 0, .int .u8 0, .int .u8 0, .int .u8 0, .int .u8 0, .int .u8 0, .int .u8 0, .int .u8 0, .int .u8 0, .int .i64 0, .int .i64 0] ?ha ?hb 31 _ HRR.out HSZ2.out rfl HON.out ?hc))
  rw [zeros34] at HB1 HRR
  rw [zeros34]
  have hr := setRow_heap _ (w.heap.size + 1 + 1) _ (ndC zeroN).toArray _ _ HRR.out
  have hl := run_loadVar_row (P := Tryd.prog) _ (w.heap.size + 1 + 1) 31 31 (ndC zeroN).toArray (0, 0) _ hr Tryd.underlying31 rfl HSZ.out
  refine bodyPost_ret (v := .tuple #[ndV zeroN, .int .i64 410]) ?_ rfl ⟨rfl, below_setRow HB1.out (by omega) _⟩
  unfold ndV
  simp [results, Tryd.results27, asAddr, hl]

set_option maxHeartbeats 4000000 in
theorem leaf_n6 (c0 c1 c2 c3 c4 : Int) (l : List Nat) (w : World) (d0 : decide (c0 < 0) = false) (d1 : decide (4096 ≤ c0) = false) (d2 : decide (c1 < 0) = false) (d3 : decide (1024 ≤ c1) = false) (d4 : decide (c2 < 0) = false) (d5 : decide (12 < c2) = false) (d6 : decide (c3 < 0) = true) :
    Calls Tryd.prog 27 #[.agg #[.int .i64 c0, .int .i64 c1, .int .i64 c2, .int .i64 c3, .int .i64 c4], dgV l] w fun e w' => e = .returned (.tuple #[ndV zeroN, .int .i64 410]) ∧ Below w.heap.size w w' := by
  have HSZ : Hid ((Tryd.prog.info? 31).map (·.size) = some (ndC zeroN).toArray.size) := Lib.hid (by rw [size34 zeroN_ok]; simp)
  obtain ⟨X, HX⟩ : ∃ X, Hid ((l.map fun x => Value.int .u8 (x : Nat)).toArray = X) := ⟨_, Lib.hid rfl⟩
  have e0 : dgV l = .agg X := by unfold dgV; rw [HX.out]
  rw [e0]
  clear e0
  obtain ⟨t1, t2, t3, t4⟩ := three_rows3 w #[.int .i64 c0, .int .i64 c1, .int .i64 c2, .int .i64 c3, .int .i64 c4] X #[.int .u8 0, .int .u8 0, .int .u8 0, .int .u8 0, .int .u8 0, .int .u8 0, .int .u8 0, .int .u8 0, .int .u8 0, .int .u8 0, .int .u8 0, .int .u8 0, .int .u8 0, .int .u8 0, .int .u8 0, .int .u8 0, .int .u8 0, .int .u8 0, .int .u8 0, .int .u8 0, .int .u8 0, .int .u8 0, .int .u8 0, .int .u8 0, .int .u8 0, .int .u8 0, .int .u8 0, .int .u8 0, .int .u8 0, .int .u8 0, .int .u8 0, .int .u8 0, .int .i64 0, .int .i64 0] 41 25 31
  have HB1 := Lib.hid t1
  have HRR := Lib.hid t4
  have k0 := five_cells t2 0 (by omega)
  have k1 := five_cells t2 1 (by omega)
  have k2 := five_cells t2 2 (by omega)
  have k3 := five_cells t2 3 (by omega)
  have k4 := five_cells t2 4 (by omega)
  have HSZ2 := HSZ
  have HON := Lib.hid (ndC_one zeroN)
  rw [← zeros34] at HSZ2 HON
  clear t1 t2 t3 t4
  go_enter Tryd.func27, Tryd.ntmps27
  go_wp2_with (first | (refine wpList_load_row rfl 31 (.tmp 4) rfl (w.heap.size + 1 + 1) rfl 31 _ (0, 0) _ HRR.out Tryd.underlying31 rfl HSZ2.out ?_) | (refine wpList_store_row rfl 31 (.tmp 4) (.tmp 54) rfl (w.heap.size + 1 + 1) #[.int .u8 0, .int .u8 0, .int .u8 0, .int .u8 0, .int .u8 0, .int .u8 0, .int .u8 0, .int .u8 0, .int .u8 0, .int .u8 0, .int .u8 0, .int .u8 0, .int .u8 0, .int .u8 0, .int .u8 0, .int .u8 0, .int .u8 0, .int .u8 0, .int .u8 0, .int .u8 0, .int .u8 0, .int .u8 0, .int .u8 0, .int .u8 0, .int .u8 0, .int .u8 0, .int .u8 0, .int .u8 0, .int .u8 0, .int .u8 0, .int .u8 0, .int .u8 0, .int .i64 0, .int .i64 0] ?ha ?hb 31 _ HRR.out HSZ2.out rfl HON.out ?hc))
  rw [zeros34] at HB1 HRR
  rw [zeros34]
  have hr := setRow_heap _ (w.heap.size + 1 + 1) _ (ndC zeroN).toArray _ _ HRR.out
  have hl := run_loadVar_row (P := Tryd.prog) _ (w.heap.size + 1 + 1) 31 31 (ndC zeroN).toArray (0, 0) _ hr Tryd.underlying31 rfl HSZ.out
  refine bodyPost_ret (v := .tuple #[ndV zeroN, .int .i64 410]) ?_ rfl ⟨rfl, below_setRow HB1.out (by omega) _⟩
  unfold ndV
  simp [results, Tryd.results27, asAddr, hl]

set_option maxHeartbeats 4000000 in
theorem leaf_n7 (c0 c1 c2 c3 c4 : Int) (l : List Nat) (w : World) (d0 : decide (c0 < 0) = false) (d1 : decide (4096 ≤ c0) = false) (d2 : decide (c1 < 0) = false) (d3 : decide (1024 ≤ c1) = false) (d4 : decide (c2 < 0) = false) (d5 : decide (12 < c2) = false) (d6 : decide (c3 < 0) = false) (d7 : decide (60 < c3) = true) :
    Calls Tryd.prog 27 #[.agg #[.int .i64 c0, .int .i64 c1, .int .i64 c2, .int .i64 c3, .int .i64 c4], dgV l] w fun e w' => e = .returned (.tuple #[ndV zeroN, .int .i64 410]) ∧ Below w.heap.size w w' := by
  have HSZ : Hid ((Tryd.prog.info? 31).map (·.size) = some (ndC zeroN).toArray.size) := Lib.hid (by rw [size34 zeroN_ok]; simp)
  obtain ⟨X, HX⟩ : ∃ X, Hid ((l.map fun x => Value.int .u8 (x : Nat)).toArray = X) := ⟨_, Lib.hid rfl⟩
  have e0 : dgV l = .agg X := by unfold dgV; rw [HX.out]
  rw [e0]
  clear e0
  obtain ⟨t1, t2, t3, t4⟩ := three_rows3 w #[.int .i64 c0, .int .i64 c1, .int .i64 c2, .int .i64 c3, .int .i64 c4] X #[.int .u8 0, .int .u8 0, .int .u8 0, .int .u8 0, .int .u8 0, .int .u8 0, .int .u8 0, .int .u8 0, .int .u8 0, .int .u8 0, .int .u8 0, .int .u8 0, .int .u8 0, .int .u8 0, .int .u8 0, .int .u8 0, .int .u8 0, .int .u8 0, .int .u8 0, .int .u8 0, .int .u8 0, .int .u8 0, .int .u8 0, .int .u8 0, .int .u8 0, .int .u8 0, .int .u8 0, .int .u8 0, .int .u8 0, .int .u8 0, .int .u8 0, .int .u8 0, .int .i64 0, .int .i64 0] 41 25 31
  have HB1 := Lib.hid t1
  have HRR := Lib.hid t4
  have k0 := five_cells t2 0 (by omega)
  have k1 := five_cells t2 1 (by omega)
  have k2 := five_cells t2 2 (by omega)
  have k3 := five_cells t2 3 (by omega)
  have k4 := five_cells t2 4 (by omega)
  have HSZ2 := HSZ
  have HON := Lib.hid (ndC_one zeroN)
  rw [← zeros34] at HSZ2 HON
  clear t1 t2 t3 t4
  go_enter Tryd.func27, Tryd.ntmps27
  go_wp2_with (first | (refine wpList_load_row rfl 31 (.tmp 4) rfl (w.heap.size + 1 + 1) rfl 31 _ (0, 0) _ HRR.out Tryd.underlying31 rfl HSZ2.out ?_) | (refine wpList_store_row rfl 31 (.tmp 4) (.tmp 54) rfl (w.heap.size + 1 + 1) #[.int .u8 0, .int .u8 0, .int .u8 0, .int .u8 0, .int .u8 0, .int .u8 0, .int .u8 0, .int .u8 0, .int .u8 0, .int .u8 0, .int .u8 0, .int .u8 0, .int .u8 0, .int .u8 0, .int .u8 0, .int .u8 0, .int .u8 0, .int .u8 0, .int .u8 0, .int .u8 0, .int .u8 0, .int .u8 0, .int .u8 0, .int .u8 0, .int .u8 0, .int .u8 0, .int .u8 0, .int .u8 0, .int .u8 0, .int .u8 0, .int .u8 0, .int .u8 0, .int .i64 0, .int .i64 0] ?ha ?hb 31 _ HRR.out HSZ2.out rfl HON.out ?hc))
  rw [zeros34] at HB1 HRR
  rw [zeros34]
  have hr := setRow_heap _ (w.heap.size + 1 + 1) _ (ndC zeroN).toArray _ _ HRR.out
  have hl := run_loadVar_row (P := Tryd.prog) _ (w.heap.size + 1 + 1) 31 31 (ndC zeroN).toArray (0, 0) _ hr Tryd.underlying31 rfl HSZ.out
  refine bodyPost_ret (v := .tuple #[ndV zeroN, .int .i64 410]) ?_ rfl ⟨rfl, below_setRow HB1.out (by omega) _⟩
  unfold ndV
  simp [results, Tryd.results27, asAddr, hl]

set_option maxHeartbeats 4000000 in
theorem leaf_n8 (c0 c1 c2 c3 c4 : Int) (l : List Nat) (w : World) (d0 : decide (c0 < 0) = false) (d1 : decide (4096 ≤ c0) = false) (d2 : decide (c1 < 0) = false) (d3 : decide (1024 ≤ c1) = false) (d4 : decide (c2 < 0) = false) (d5 : decide (12 < c2) = false) (d6 : decide (c3 < 0) = false) (d7 : decide (60 < c3) = false) (d8 : decide (c4 < 0) = true) :
    Calls Tryd.prog 27 #[.agg #[.int .i64 c0, .int .i64 c1, .int .i64 c2, .int .i64 c3, .int .i64 c4], dgV l] w fun e w' => e = .returned (.tuple #[ndV zeroN, .int .i64 410]) ∧ Below w.heap.size w w' := by
  have HSZ : Hid ((Tryd.prog.info? 31).map (·.size) = some (ndC zeroN).toArray.size) := Lib.hid (by rw [size34 zeroN_ok]; simp)
  obtain ⟨X, HX⟩ : ∃ X, Hid ((l.map fun x => Value.int .u8 (x : Nat)).toArray = X) := ⟨_, Lib.hid rfl⟩
  have e0 : dgV l = .agg X := by unfold dgV; rw [HX.out]
  rw [e0]
  clear e0
  obtain ⟨t1, t2, t3, t4⟩ := three_rows3 w #[.int .i64 c0, .int .i64 c1, .int .i64 c2, .int .i64 c3, .int .i64 c4] X #[.int .u8 0, .int .u8 0, .int .u8 0, .int .u8 0, .int .u8 0, .int .u8 0, .int .u8 0, .int .u8 0, .int .u8 0, .int .u8 0, .int .u8 0, .int .u8 0, .int .u8 0, .int .u8 0, .int .u8 0, .int .u8 0, .int .u8 0, .int .u8 0, .int .u8 0, .int .u8 0, .int .u8 0, .int .u8 0, .int .u8 0, .int .u8 0, .int .u8 0, .int .u8 0, .int .u8 0, .int .u8 0, .int .u8 0, .int .u8 0, .int .u8 0, .int .u8 0, .int .i64 0, .int .i64 0] 41 25 31
  have HB1 := Lib.hid t1
  have HRR := Lib.hid t4
  have k0 := five_cells t2 0 (by omega)
  have k1 := five_cells t2 1 (by omega)
  have k2 := five_cells t2 2 (by omega)
  have k3 := five_cells t2 3 (by omega)
  have k4 := five_cells t2 4 (by omega)
  have HSZ2 := HSZ
  have HON := Lib.hid (ndC_one zeroN)
  rw [← zeros34] at HSZ2 HON
  clear t1 t2 t3 t4
  go_enter Tryd.func27, Tryd.ntmps27
  go_wp2_with (first | (refine wpList_load_row rfl 31 (.tmp 4) rfl (w.heap.size + 1 + 1) rfl 31 _ (0, 0) _ HRR.out Tryd.underlying31 rfl HSZ2.out ?_) | (refine wpList_store_row rfl 31 (.tmp 4) (.tmp 54) rfl (w.heap.size + 1 + 1) #[.int .u8 0, .int .u8 0, .int .u8 0, .int .u8 0, .int .u8 0, .int .u8 0, .int .u8 0, .int .u8 0, .int .u8 0, .int .u8 0, .int .u8 0, .int .u8 0, .int .u8 0, .int .u8 0, .int .u8 0, .int .u8 0, .int .u8 0, .int .u8 0, .int .u8 0, .int .u8 0, .int .u8 0, .int .u8 0, .int .u8 0, .int .u8 0, .int .u8 0, .int .u8 0, .int .u8 0, .int .u8 0, .int .u8 0, .int .u8 0, .int .u8 0, .int .u8 0, .int .i64 0, .int .i64 0] ?ha ?hb 31 _ HRR.out HSZ2.out rfl HON.out ?hc))
  rw [zeros34] at HB1 HRR
  rw [zeros34]
  have hr := setRow_heap _ (w.heap.size + 1 + 1) _ (ndC zeroN).toArray _ _ HRR.out
  have hl := run_loadVar_row (P := Tryd.prog) _ (w.heap.size + 1 + 1) 31 31 (ndC zeroN).toArray (0, 0) _ hr Tryd.underlying31 rfl HSZ.out
  refine bodyPost_ret (v := .tuple #[ndV zeroN, .int .i64 410]) ?_ rfl ⟨rfl, below_setRow HB1.out (by omega) _⟩
  unfold ndV
  simp [results, Tryd.results27, asAddr, hl]

set_option maxHeartbeats 4000000 in
theorem leaf_n9 (c0 c1 c2 c3 c4 : Int) (l : List Nat) (w : World) (d0 : decide (c0 < 0) = false) (d1 : decide (4096 ≤ c0) = false) (d2 : decide (c1 < 0) = false) (d3 : decide (1024 ≤ c1) = false) (d4 : decide (c2 < 0) = false) (d5 : decide (12 < c2) = false) (d6 : decide (c3 < 0) = false) (d7 : decide (60 < c3) = false) (d8 : decide (c4 < 0) = false) (d9 : decide (7 ≤ c4) = true) :
    Calls Tryd.prog 27 #[.agg #[.int .i64 c0, .int .i64 c1, .int .i64 c2, .int .i64 c3, .int .i64 c4], dgV l] w fun e w' => e = .returned (.tuple #[ndV zeroN, .int .i64 410]) ∧ Below w.heap.size w w' := by
  have HSZ : Hid ((Tryd.prog.info? 31).map (·.size) = some (ndC zeroN).toArray.size) := Lib.hid (by rw [size34 zeroN_ok]; simp)
  obtain ⟨X, HX⟩ : ∃ X, Hid ((l.map fun x => Value.int .u8 (x : Nat)).toArray = X) := ⟨_, Lib.hid rfl⟩
  have e0 : dgV l = .agg X := by unfold dgV; rw [HX.out]
  rw [e0]
  clear e0
  obtain ⟨t1, t2, t3, t4⟩ := three_rows3 w #[.int .i64 c0, .int .i64 c1, .int .i64 c2, .int .i64 c3, .int .i64 c4] X #[.int .u8 0, .int .u8 0, .int .u8 0, .int .u8 0, .int .u8 0, .int .u8 0, .int .u8 0, .int .u8 0, .int .u8 0, .int .u8 0, .int .u8 0, .int .u8 0, .int .u8 0, .int .u8 0, .int .u8 0, .int .u8 0, .int .u8 0, .int .u8 0, .int .u8 0, .int .u8 0, .int .u8 0, .int .u8 0, .int .u8 0, .int .u8 0, .int .u8 0, .int .u8 0, .int .u8 0, .int .u8 0, .int .u8 0, .int .u8 0, .int .u8 0, .int .u8 0, .int .i64 0, .int .i64 0] 41 25 31
  have HB1 := Lib.hid t1
  have HRR := Lib.hid t4
  have k0 := five_cells t2 0 (by omega)
  have k1 := five_cells t2 1 (by omega)
  have k2 := five_cells t2 2 (by omega)
  have k3 := five_cells t2 3 (by omega)
  have k4 := five_cells t2 4 (by omega)
  have HSZ2 := HSZ
  have HON := Lib.hid (ndC_one zeroN)
  rw [← zeros34] at HSZ2 HON
  clear t1 t2 t3 t4
  go_enter Tryd.func27, Tryd.ntmps27
  go_wp2_with (first | (refine wpList_load_row rfl 31 (.tmp 4) rfl (w.heap.size + 1 + 1) rfl 31 _ (0, 0) _ HRR.out Tryd.underlying31 rfl HSZ2.out ?_) | (refine wpList_store_row rfl 31 (.tmp 4) (.tmp 54) rfl (w.heap.size + 1 + 1) #[.int .u8 0, .int .u8 0, .int .u8 0, .int .u8 0, .int .u8 0, .int .u8 0, .int .u8 0, .int .u8 0, .int .u8 0, .int .u8 0, .int .u8 0, .int .u8 0, .int .u8 0, .int .u8 0, .int .u8 0, .int .u8 0, .int .u8 0, .int .u8 0, .int .u8 0, .int .u8 0, .int .u8 0, .int .u8 0, .int .u8 0, .int .u8 0, .int .u8 0, .int .u8 0, .int .u8 0, .int .u8 0, .int .u8 0, .int .u8 0, .int .u8 0, .int .u8 0, .int .i64 0, .int .i64 0] ?ha ?hb 31 _ HRR.out HSZ2.out rfl HON.out ?hc))
  rw [zeros34] at HB1 HRR
  rw [zeros34]
  have hr := setRow_heap _ (w.heap.size + 1 + 1) _ (ndC zeroN).toArray _ _ HRR.out
  have hl := run_loadVar_row (P := Tryd.prog) _ (w.heap.size + 1 + 1) 31 31 (ndC zeroN).toArray (0, 0) _ hr Tryd.underlying31 rfl HSZ.out
  refine bodyPost_ret (v := .tuple #[ndV zeroN, .int .i64 410]) ?_ rfl ⟨rfl, below_setRow HB1.out (by omega) _⟩
  unfold ndV
  simp [results, Tryd.results27, asAddr, hl]

theorem leaf_no (c0 c1 c2 c3 c4 : Int) (l : List Nat) (w : World) (h : ¬ lOk c0 c1 c2 c3 c4) :
    Calls Tryd.prog 27 #[.agg #[.int .i64 c0, .int .i64 c1, .int .i64 c2, .int .i64 c3, .int .i64 c4], dgV l] w fun e w' => e = .returned (.tuple #[ndV zeroN, .int .i64 410]) ∧ Below w.heap.size w w' := by
  by_cases b0 : c0 < 0
  · exact leaf_n0 c0 c1 c2 c3 c4 l w  (decide_eq_true b0)
  by_cases b1 : 4096 ≤ c0
  · exact leaf_n1 c0 c1 c2 c3 c4 l w (decide_eq_false b0) (decide_eq_true b1)
  by_cases b2 : c1 < 0
  · exact leaf_n2 c0 c1 c2 c3 c4 l w (decide_eq_false b0) (decide_eq_false b1) (decide_eq_true b2)
  by_cases b3 : 1024 ≤ c1
  · exact leaf_n3 c0 c1 c2 c3 c4 l w (decide_eq_false b0) (decide_eq_false b1) (decide_eq_false b2) (decide_eq_true b3)
  by_cases b4 : c2 < 0
  · exact leaf_n4 c0 c1 c2 c3 c4 l w (decide_eq_false b0) (decide_eq_false b1) (decide_eq_false b2) (decide_eq_false b3) (decide_eq_true b4)
  by_cases b5 : 12 < c2
  · exact leaf_n5 c0 c1 c2 c3 c4 l w (decide_eq_false b0) (decide_eq_false b1) (decide_eq_false b2) (decide_eq_false b3) (decide_eq_false b4) (decide_eq_true b5)
  by_cases b6 : c3 < 0
  · exact leaf_n6 c0 c1 c2 c3 c4 l w (decide_eq_false b0) (decide_eq_false b1) (decide_eq_false b2) (decide_eq_false b3) (decide_eq_false b4) (decide_eq_false b5) (decide_eq_true b6)
  by_cases b7 : 60 < c3
  · exact leaf_n7 c0 c1 c2 c3 c4 l w (decide_eq_false b0) (decide_eq_false b1) (decide_eq_false b2) (decide_eq_false b3) (decide_eq_false b4) (decide_eq_false b5) (decide_eq_false b6) (decide_eq_true b7)
  by_cases b8 : c4 < 0
  · exact leaf_n8 c0 c1 c2 c3 c4 l w (decide_eq_false b0) (decide_eq_false b1) (decide_eq_false b2) (decide_eq_false b3) (decide_eq_false b4) (decide_eq_false b5) (decide_eq_false b6) (decide_eq_false b7) (decide_eq_true b8)
  by_cases b9 : 7 ≤ c4
  · exact leaf_n9 c0 c1 c2 c3 c4 l w (decide_eq_false b0) (decide_eq_false b1) (decide_eq_false b2) (decide_eq_false b3) (decide_eq_false b4) (decide_eq_false b5) (decide_eq_false b6) (decide_eq_false b7) (decide_eq_false b8) (decide_eq_true b9)
  exact absurd (show lOk c0 c1 c2 c3 c4 by unfold lOk; omega) h
end Go.Proofs.YtmfmgeapecapiaaDoor
namespace Go.Proofs.YtmfmgeapecapiaaDoor
open Go.RowKit SzSha SzTree
set_option linter.unusedVariables false
set_option maxRecDepth 100000
instance (c0 c1 c2 c3 c4 : Int) : Decidable (lOk c0 c1 c2 c3 c4) := by unfold lOk; infer_instance
/-- Leaf -/
def leafR (c0 c1 c2 c3 c4 : Int) (l : List Nat) : Nd := if lOk c0 c1 c2 c3 c4 then leafN c0 c1 c2 c3 c4 l else zeroN
def leafE (c0 c1 c2 c3 c4 : Int) : Int := if lOk c0 c1 c2 c3 c4 then 0 else 410
theorem leafN_ok {c0 c1 c2 c3 c4 : Int} (l : List Nat) (h : lOk c0 c1 c2 c3 c4) : NdOk (leafN c0 c1 c2 c3 c4 l) := by
  unfold lOk at h
  have hm := mul_leaf (a := c2) (b := c3) (by omega) (by omega) (by omega) (by omega)
  exact ⟨tagged_length _ _, tagged_bytes _ _, by simp only [leafN]; omega, by simp only [leafN]; omega⟩
theorem leafN_v {c0 c1 c2 c3 c4 : Int} (l : List Nat) (h : lOk c0 c1 c2 c3 c4) : vN (leafN c0 c1 c2 c3 c4 l) = true := by
  unfold lOk at h
  have hm := mul_leaf (a := c2) (b := c3) (by omega) (by omega) (by omega) (by omega)
  have hh : 0 ≤ (leafN c0 c1 c2 c3 c4 l).c ∧ (leafN c0 c1 c2 c3 c4 l).c ≤ 1073741824 ∧ 0 ≤ (leafN c0 c1 c2 c3 c4 l).p ∧ (leafN c0 c1 c2 c3 c4 l).p ≤ 12 * (leafN c0 c1 c2 c3 c4 l).c := by simp only [leafN]; omega
  simp only [vN, Bool.and_eq_true, decide_eq_true_eq]
  omega
theorem leaf_any (c0 c1 c2 c3 c4 : Int) (l : List Nat) (w : World) (hl : Hid (l.length = 32)) (hb : Hid (Bytes l)) (hT : Hid (Tabs w)) :
    Calls Tryd.prog 27 #[.agg #[.int .i64 c0, .int .i64 c1, .int .i64 c2, .int .i64 c3, .int .i64 c4], dgV l] w fun e w' => e = .returned (.tuple #[ndV (leafR c0 c1 c2 c3 c4 l), .int .i64 (leafE c0 c1 c2 c3 c4)]) ∧ Below w.heap.size w w' := by
  by_cases h : lOk c0 c1 c2 c3 c4
  · rw [leafR, leafE, if_pos h, if_pos h]
    exact leaf_yes c0 c1 c2 c3 c4 l w (by unfold lOk at h; exact h) hl hb hT
  · rw [leafR, leafE, if_neg h, if_neg h]
    exact leaf_no c0 c1 c2 c3 c4 l w h
end Go.Proofs.YtmfmgeapecapiaaDoor
namespace Go.Proofs.YtmfmgeapecapiaaDoor
open Go.RowKit SzSha
set_option linter.unusedVariables false
theorem sizeOf_u8 (w : World) : (sizeOf 5).run Tryd.prog w = .ok 1 w := by
  obtain ⟨i0, hi, hz0, hz1, hz2⟩ := info_parts info_u8
  simp [sizeOf, typeInfo, hi, hz1]
theorem dg_cells8 (l : List Nat) (hb : Bytes l) : dgV l = .agg ((l.map UInt8.ofNat).map Extern.Stop.cell).toArray := by
  unfold dgV
  rw [List.map_map]
  congr 2
  apply List.map_congr_left
  intro x hx
  show Value.int .u8 (x : Nat) = Extern.Stop.cell (UInt8.ofNat x)
  have := hb x hx
  unfold Extern.Stop.cell
  rw [UInt8.toNat_ofNat', Nat.mod_eq_of_lt (by omega)]; rfl
theorem ofNat_inj : ∀ (l m : List Nat), Bytes l → Bytes m → (l.map UInt8.ofNat == m.map UInt8.ofNat) = (l == m)
  | [], [], _, _ => rfl
  | [], _ :: _, _, _ => rfl
  | _ :: _, [], _, _ => rfl
  | x :: l, y :: m, hl, hm => by
    have ih := ofNat_inj l m (fun z hz => hl z (List.mem_cons_of_mem _ hz)) (fun z hz => hm z (List.mem_cons_of_mem _ hz))
    have hx := hl x (by simp)
    have hy := hm y (by simp)
    simp only [List.map_cons, List.cons_beq_cons, ih]
    congr 1
    rw [Bool.eq_iff_iff]
    simp only [beq_iff_eq, ← UInt8.toNat_inj, UInt8.toNat_ofNat', Nat.mod_eq_of_lt (show x < 2 ^ 8 by omega), Nat.mod_eq_of_lt (show y < 2 ^ 8 by omega)]
theorem equal_dg (d : Nat) (l m : List Nat) (hl : l.length = 32) (hm : m.length = 32) (bl : Bytes l) (bm : Bytes m) (w : World) : (Op.equalIn (d + 2) 25 (dgV l) (dgV m)).run Tryd.prog w = .ok (l == m) w := by
  rw [dg_cells8 l bl, dg_cells8 m bm, run_equalIn_bytes w d 25 5 32 Tryd.underlying25 Tryd.underlying5 sizeOf_u8 _ _ (by simpa using hl) (by simpa using hm), ofNat_inj l m bl bm]
end Go.Proofs.YtmfmgeapecapiaaDoor
namespace Go.Proofs.YtmfmgeapecapiaaDoor
open Go.RowKit SzSha SzTree
set_option linter.unusedVariables false
set_option maxRecDepth 100000
/-- equality of nodes -/
def ndEq (a b : Nd) : Bool := a.d == b.d && (a.c == b.c && a.p == b.p)
theorem ndEq_iff (a b : Nd) : ndEq a b = true ↔ a = b := by
  cases a; cases b
  simp [ndEq]
theorem ndEq_refl (a : Nd) : ndEq a a = true := (ndEq_iff a a).2 rfl
theorem part_d {n : Nd} (h : NdOk n) (w : World) : (part 25 (ndC n).toArray 0).run Tryd.prog w = .ok (dgV n.d) w := by
  have e : (ndC n).take 32 = n.d.map fun x => Value.int .u8 (x : Nat) := by unfold ndC; rw [List.take_left' (by simp [h.len])]
  have hu := Tryd.underlying25
  simp [part, isAgg, run_underlying hu, dgV, ← e]
theorem part_c {n : Nd} (h : NdOk n) (w : World) : (part 3 (ndC n).toArray 32).run Tryd.prog w = .ok (.int .i64 n.c) w := by
  have hu := Tryd.underlying3
  have hc := ndC_c h
  simp [part, isAgg, run_underlying hu, hc]
theorem part_p {n : Nd} (h : NdOk n) (w : World) : (part 3 (ndC n).toArray 33).run Tryd.prog w = .ok (.int .i64 n.p) w := by
  have hu := Tryd.underlying3
  have hc := ndC_p h
  simp [part, isAgg, run_underlying hu, hc]
theorem equal_nd (a b : Nd) (ha : NdOk a) (hb : NdOk b) (w : World) : (Op.equalIn 10000 31 (ndV a) (ndV b)).run Tryd.prog w = .ok (ndEq a b) w := by
  have hf : (Tryd.prog.fieldsOf 31).toList.map (fun f => (f.name != "_", f.type, f.offset)) = [(true, 25, 0), (true, 3, 32), (true, 3, 33)] := by kernel_rfl
  have hS : Tryd.prog.underlying 31 = some (.struct (Tryd.prog.fieldsOf 31)) := by kernel_rfl
  have hp : Tryd.prog.stoodInHeld 31 = false := by kernel_rfl
  unfold ndV
  rw [show (10000 : Nat) = 9999 + 1 from rfl, run_equalIn_agg w 9999 _ _ _ hS hp]
  generalize (Tryd.prog.fieldsOf 31).toList = fs at hf
  obtain ⟨f1, f2, f3, rfl⟩ : ∃ f1 f2 f3, fs = [f1, f2, f3] := by
    have hl := congrArg List.length hf
    simp only [List.length_map, List.length_cons, List.length_nil] at hl
    rcases fs with _ | ⟨f1, fs⟩
    · simp at hl
    rcases fs with _ | ⟨f2, fs⟩
    · simp at hl
    rcases fs with _ | ⟨f3, fs⟩
    · simp at hl
    rcases fs with _ | ⟨f4, fs⟩
    · exact ⟨f1, f2, f3, rfl⟩
    · simp at hl
  simp only [List.map_cons, List.map_nil, List.cons.injEq, Prod.mk.injEq, and_true, bne_iff_ne, ne_eq] at hf
  obtain ⟨⟨n1, t1, o1⟩, ⟨n2, t2, o2⟩, n3, t3, o3⟩ := hf
  have q1 := equal_dg 9997 a.d b.d ha.len hb.len ha.bytes hb.bytes w
  have q2 := run_equalIn_int (P := Tryd.prog) w 9998 3 .i64 _ a.c b.c Tryd.underlying3
  have q3 := run_equalIn_int (P := Tryd.prog) w 9998 3 .i64 _ a.p b.p Tryd.underlying3
  simp only [Nat.reduceAdd] at q1 q2 q3
  have e3 : (Op.eqFields 9999 (ndC a).toArray (ndC b).toArray [f3]).run Tryd.prog w = .ok (a.p == b.p) w := by
    simp only [Op.eqFields, n3, t3, o3, not_false_eq_true, ne_eq, if_true, Sem.run_bind, part_p ha, part_p hb, Result.andThen_ok, q3]
    cases a.p == b.p <;> rfl
  have e2 : (Op.eqFields 9999 (ndC a).toArray (ndC b).toArray [f2, f3]).run Tryd.prog w = .ok (a.c == b.c && a.p == b.p) w := by
    rw [Op.eqFields]
    simp only [n2, t2, o2, not_false_eq_true, ne_eq, if_true, Sem.run_bind, part_c ha, part_c hb, Result.andThen_ok, q2]
    cases a.c == b.c
    · rfl
    · exact e3
  rw [Op.eqFields]
  simp only [n1, t1, o1, not_false_eq_true, ne_eq, if_true, Sem.run_bind, part_d ha, part_d hb, Result.andThen_ok, q1]
  unfold ndEq
  cases a.d == b.d
  · rfl
  · exact e2
theorem eql_nd (a b : Nd) (ha : NdOk a) (hb : NdOk b) (w : World) : (binOp .eql 31 (ndV a) (ndV b)).run Tryd.prog w = .ok (.bool (ndEq a b)) w := by
  have := equal_nd a b ha hb w
  unfold ndV at this ⊢
  rw [run_eql_struct, this]; rfl
theorem guard_nd (op : BinOp) (x y : Operand) (a b : Nd) (w : World) : (eqGuard op 31 x y (ndV a) (ndV b)).run Tryd.prog w = .ok () w := by
  unfold ndV
  exact run_eqGuard_agg w op _ x y _ _ (by kernel_rfl)
theorem wpList_eql_nd {w : World} {ops : Array Oper} {rest : List Oper} {o : Oper} {a : Act} {Q : Exit → Act → World → Prop} (hg : o.guard = none) (x y : Operand) (t : TypeId)
    (ho : o.op = .binOp .eql 31 x y t) (m n : Nd) (hx : a.eval x = ndV m) (hy : a.eval y = ndV n) (hm : NdOk m) (hn : NdOk n)
    (h : wpList Tryd.prog ops Q rest (a.put o.dst (.bool (ndEq m n))) w) : wpList Tryd.prog ops Q (o :: rest) a w :=
  wpList_plain hg fun _ hK => by
    unfold Oper.wp execOp
    simp only [ho, hx, hy, Sem.run_bind, guard_nd, eql_nd m n hm hn, Result.andThen_ok]
    exact hK _ _ h
end Go.Proofs.YtmfmgeapecapiaaDoor
namespace Go.Proofs.YtmfmgeapecapiaaDoor
open Go.ChangeShapes Go.WideShapes Go.ChangeAt Go.RowKit SzSha SzTree Go.Deep
set_option linter.unusedVariables false
set_option maxRecDepth 100000
section
variable {H : Type} {enc : TypeId × Value → H} {W : World} {base : Nat} {spare : Nat → Bool} {held : Bool} {fuel : Nat}
/-- a line -/
structure Ln where
  c0 : Int
  c1 : Int
  c2 : Int
  c3 : Int
  c4 : Int
def lnC (l : Ln) : List Value := [.int .i64 l.c0, .int .i64 l.c1, .int .i64 l.c2, .int .i64 l.c3, .int .i64 l.c4]
def I64 (z : Int) : Prop := -9223372036854775808 ≤ z ∧ z ≤ 9223372036854775807
structure LnOk (l : Ln) : Prop where
  b0 : I64 l.c0
  b1 : I64 l.c1
  b2 : I64 l.c2
  b3 : I64 l.c3
  b4 : I64 l.c4
instance : Inhabited Nd := ⟨⟨[], 0, 0⟩⟩
instance : Inhabited Ln := ⟨⟨0, 0, 0, 0, 0⟩⟩
/-- a slice of lines that came in -/
structure InLn (w : World) (A : Option Addr) (n c : Nat) (ls : List Ln) : Prop where
  len : ls.length = n
  cap : n ≤ c
  none_ : A = none → c = 0
  ok : ∀ x ∈ ls, LnOk x
  rd : 0 < ls.length → ∃ g off, A = some ⟨g, off, none⟩ ∧ g < w.heap.size ∧ w.rangeAt g off (ls.flatMap lnC)
end
end Go.Proofs.YtmfmgeapecapiaaDoor
namespace Go.Proofs.YtmfmgeapecapiaaDoor
open Go.ChangeShapes Go.WideShapes Go.ChangeAt Go.RowKit SzSha SzTree Go.Deep
set_option linter.unusedVariables false
set_option maxRecDepth 100000
/-- a claim -/
structure Cl where
  p : Int
  r : Int
  m : Bool
def clC (c : Cl) : List Value := [.int .i64 c.p, .int .i64 c.r, .bool c.m]
structure ClOk (c : Cl) : Prop where
  b0 : I64 c.p
  b1 : I64 c.r
instance : Inhabited Cl := ⟨⟨0, 0, false⟩⟩
/-- a slice of claims that came in -/
structure InCl (w : World) (A : Option Addr) (n c : Nat) (ls : List Cl) : Prop where
  len : ls.length = n
  cap : n ≤ c
  none_ : A = none → c = 0
  ok : ∀ x ∈ ls, ClOk x
  rd : 0 < ls.length → ∃ g off, A = some ⟨g, off, none⟩ ∧ g < w.heap.size ∧ w.rangeAt g off (ls.flatMap clC)
/-- a transcript; where its slices lie -/
structure Tr where
  cam : Int
  stu : Int
  ver : Int
  kno : Int
  ln : List Ln
  cl : List Cl
  salt : List Nat
structure TrP where
  A : Option Addr
  n : Nat
  c : Nat
  A2 : Option Addr
  n2 : Nat
  c2 : Nat
def trC (t : Tr) (p : TrP) : List Value := [.int .i64 t.cam, .int .i64 t.stu, .int .i64 t.ver, .int .i64 t.kno, .slice p.A p.n p.c, .slice p.A2 p.n2 p.c2] ++ t.salt.map fun x => Value.int .u8 (x : Nat)
def trV (t : Tr) (p : TrP) : Value := .agg (trC t p).toArray
structure TrOk (w : World) (t : Tr) (p : TrP) : Prop where
  b0 : I64 t.cam
  b1 : I64 t.stu
  b2 : I64 t.ver
  b3 : I64 t.kno
  ln : InLn w p.A p.n p.c t.ln
  cl : InCl w p.A2 p.n2 p.c2 t.cl
  len : t.salt.length = 32
  bytes : Bytes t.salt
  mn : p.n ≤ maxLen
  mc : p.n2 ≤ maxLen
section
variable {H : Type} {enc : TypeId × Value → H} {W : World} {base : Nat} {fuel : Nat}
end
end Go.Proofs.YtmfmgeapecapiaaDoor
namespace Go.Proofs.YtmfmgeapecapiaaDoor
open Go.RowKit SzSha SzTree
set_option linter.unusedVariables false
set_option maxRecDepth 100000
theorem row_kept {w w' : World} {b : Nat} {cs : Array Value} {t : TypeId} (h : w.heap[b]? = some (.cells cs t (0, 0))) (hb : Below w.heap.size w w') : w'.heap[b]? = some (.cells cs t (0, 0)) := (hb.block b (Array.getElem?_eq_some_iff.1 h).1).trans h
theorem wpList_unguard {P : Program} {ops : Array Oper} {rest : List Oper} {o : Oper} {a : Act} {w : World} {Q : Exit → Act → World → Prop} (hw : Region.wanted o (yielded ops a.tmps) = true) (h : wpList P ops Q ({ o with guard := none } :: rest) a w) : wpList P ops Q (o :: rest) a w := by
  unfold wpList at h ⊢
  rw [if_pos hw]
  rw [if_pos (by unfold Region.wanted; rfl)] at h
  exact h
end Go.Proofs.YtmfmgeapecapiaaDoor
namespace Go.Proofs.YtmfmgeapecapiaaDoor
open Go.RowKit Go.Shelf SzSha SzTree
set_option linter.unusedVariables false
set_option maxRecDepth 100000
attribute [local go_sem] Oper.semAt_some
/-- a part's bounds as cells -/
def spC (x : Pt) : List Value := [.int .i64 (x.lo : Nat), .int .i64 (x.hi : Nat)]
def flatS (ls : List Pt) : List Value := ls.flatMap spC
theorem flatS_append (a b : List Pt) : flatS (a ++ b) = flatS a ++ flatS b := by unfold flatS; rw [List.flatMap_append]
theorem flatS_length : ∀ ls : List Pt, (flatS ls).length = ls.length * 2
  | [] => rfl
  | x :: ls => by
    show (spC x ++ flatS ls).length = _
    rw [List.length_append, flatS_length ls, List.length_cons]
    show 2 + _ = _
    omega
theorem flatS_one (ls : List Pt) : ∀ u ∈ flatS ls, u.oneCell' = true := fun u hu => by
  obtain ⟨n, _, h⟩ := List.mem_flatMap.1 hu
  unfold spC at h
  simp only [List.mem_cons, List.not_mem_nil, or_false] at h
  rcases h with rfl | rfl <;> rfl
theorem info_span : ∃ i, Tryd.prog.info? 97 = some i ∧ i.zero = some (.agg #[.int .i64 0, .int .i64 0]) ∧ i.size = 2 ∧ i.bytes = 16 := by
  refine ⟨_, rfl, ?_, ?_, ?_⟩ <;> kernel_rfl
theorem fill_span1 (n : Pt) {i : TypeInfo} {z : Value} (hs : i.size = 2) : Instr.fill (fun j => some (j * i.size, i.size)) ((Array.range (1 * i.size)).map (z.cells[· % z.cells.size]!)) [(0, .agg (spC n).toArray)] = some (flatS [n]).toArray := by
  rw [hs]
  have e1 : ([(0, .agg (spC n).toArray)] : List (Nat × Value)) = (([.agg (spC n).toArray] : List Value).zipIdx 0).map fun x => (x.2, x.1) := by simp
  rw [e1, Great.fill_whole (by omega) [.agg (spC n).toArray] _ (fun v hv => by
    simp only [List.mem_cons, List.not_mem_nil, or_false] at hv
    subst hv; rfl) (by simp)]
  rfl
theorem wpListIn_build_span1 {F : Fence} {nF : Nat} {w : World} {ops : Array Oper} {rest : List Oper} {o : Oper} {a : Act} {Q : Exit → Act → World → Prop} (hg : o.guard = none) (x : Operand)
    (ho : o.op = .buildSlice 90 1 #[(0, x)]) (n : Pt) (hx : a.eval x = .agg (spC n).toArray)
    (h : wpListIn F nF Tryd.prog ops Q rest (a.put o.dst (.slice (some ⟨w.heap.size, 0, none⟩) 1 1)) (w.alloc (.cells (flatS [n]).toArray 97))) : wpListIn F nF Tryd.prog ops Q (o :: rest) a w := by
  obtain ⟨i0, hi, hz, hs, _⟩ := info_span
  refine wpListIn_buildSlice hg 90 97 1 _ ho _ i0 _ Tryd.underlying90 hi hz (by rw [hs]; omega) (by rw [hs]; omega) ?_ h
  have e1 : (#[(0, x)].map fun (i, x) => (i, a.eval x)).toList = [(0, .agg (spC n).toArray)] := by simp [hx]
  rw [e1]; exact fill_span1 n hs
def OwnS (w : World) (base : Nat) (v : Value) (ls : List Pt) : Prop := w.ownsRow base 97 2 v ls.length (flatS ls)
theorem OwnS.nil (w : World) (base : Nat) : OwnS w base (.slice none 0 0) [] := ⟨rfl, .inl ⟨rfl, rfl⟩⟩
theorem OwnS.kept {w w' : World} {base : Nat} {v : Value} {ls : List Pt} (h : OwnS w base v ls) (hk : ∀ g, v.ownBlock = some g → w'.heap[g]? = w.heap[g]?) : OwnS w' base v ls := by
  refine ⟨h.1, ?_⟩
  rcases h.2 with h0 | ⟨g, cap, cur, rfl, hb, hh, r⟩
  · exact .inl h0
  · exact .inr ⟨g, cap, cur, rfl, hb, (hk g rfl).trans hh, r⟩
theorem OwnS.block {w : World} {base : Nat} {v : Value} {ls : List Pt} (h : OwnS w base v ls) (g : Nat) (hg : v.ownBlock = some g) : base ≤ g ∧ g < w.heap.size ∧ ∃ cur, w.heap[g]? = some (.cells cur 97 (0, 0)) := by
  rcases h.2 with ⟨rfl, h0⟩ | ⟨g', cap, cur, rfl, hb, hh, r⟩
  · cases hg
  · have : g' = g := by simpa [Value.ownBlock] using hg
    subst this
    exact ⟨hb, (Array.getElem?_eq_some_iff.1 hh).1, cur, hh⟩
theorem OwnS.below {w w' : World} {base : Nat} {v : Value} {ls : List Pt} (h : OwnS w base v ls) (hb : Below w.heap.size w w') : OwnS w' base v ls := h.kept fun g hg => hb.block g (h.block g hg).2.1
theorem OwnS.form {w : World} {base : Nat} {v : Value} {ls : List Pt} (h : OwnS w base v ls) : ∃ A n c, v = .slice A n c := by
  rcases h.2 with ⟨rfl, h0⟩ | ⟨g, cap, cur, rfl, r⟩
  · exact ⟨_, _, _, rfl⟩
  · exact ⟨_, _, _, rfl⟩
theorem OwnS.own {w w' : World} {base : Nat} {v : Value} {ls : List Pt} {row : Option Nat} (h : OwnS w base v ls) (hg : w.grownBy w' row) (hr : ∀ r, row = some r → ∃ o : Obj, w.heap[r]? = some o ∧ o.isCells = false) : OwnS w' base v ls := h.kept fun g hgg => by
  obtain ⟨_, hlt, cur, hc⟩ := h.block g hgg
  refine hg.block g hlt (fun e => ?_)
  obtain ⟨o, ho, hn⟩ := hr g e.symm
  rw [ho] at hc; cases hc; cases hn
/-- a slice of spans -/
structure InS (w : World) (A : Option Addr) (n c : Nat) (ls : List Pt) : Prop where
  len : ls.length = n
  cap : n ≤ c
  none_ : A = none → c = 0
  rd : 0 < ls.length → ∃ g off, A = some ⟨g, off, none⟩ ∧ g < w.heap.size ∧ w.rangeAt g off (flatS ls)
theorem InS.below {w w' : World} {A : Option Addr} {n c : Nat} {ls : List Pt} (h : InS w A n c ls) (hb : Below w.heap.size w w') : InS w' A n c ls :=
  ⟨h.len, h.cap, h.none_, fun h0 => by
    obtain ⟨g, off, e, hg, hr⟩ := h.rd h0
    exact ⟨g, off, e, Nat.lt_of_lt_of_le hg hb.size, rangeAt_below hr hg hb⟩⟩
theorem OwnS.slice {w : World} {base : Nat} {v : Value} {ls : List Pt} (h : OwnS w base v ls) : ∃ A n c, v = .slice A n c ∧ InS w A n c ls := by
  rcases h.2 with ⟨rfl, h0⟩ | ⟨g, cap, cur, rfl, hb, hh, hc, hm, hs, ht⟩
  · exact ⟨none, 0, 0, rfl, ⟨h0, Nat.le_refl _, fun _ => rfl, fun h1 => by omega⟩⟩
  · refine ⟨_, _, cap, rfl, ⟨rfl, hc, (fun e => by cases e), fun _ => ⟨g, 0, rfl, (Array.getElem?_eq_some_iff.1 hh).1, fun j u hj => ?_⟩⟩⟩
    have hj2 : j < ls.length * 2 := by rw [← flatS_length ls]; exact (List.getElem?_eq_some_iff.1 hj).1
    rw [Nat.zero_add, cell_of_row w g j cur _ _ hh]
    rw [← ht, List.getElem?_take_of_lt hj2] at hj
    simpa using hj
theorem wpListIn_append_span {F : Fence} {nF : Nat} {w : World} {ops : Array Oper} {rest : List Oper} {o : Oper} {a : Act} {Q : Exit → Act → World → Prop} (hgd : o.guard = none) (s x : Operand)
    (ho : o.op = .call { callee := .builtin .append, args := #[s, x], argTypes := #[90, 90] })
    (base : Nat) (v : Value) (ls : List Pt) (n : Pt) (hs : a.eval s = v) (hown : Hid (OwnS w base v ls)) (g : Nat) (hx : a.eval x = .slice (some ⟨g, 0, none⟩) 1 1)
    (hr : Hid (w.heap[g]? = some (.cells (flatS [n]).toArray 97 (0, 0)))) (hlen : ls.length ≤ 100000) (hbase : base ≤ w.heap.size)
    (h : ∀ v' w', Hid (OwnS w' base v' (ls ++ [n])) → Hid (w.grownBy w' v.ownBlock) → Hid (v'.ownBlock = v.ownBlock ∨ v'.ownBlock = some w.heap.size) → wpListIn F nF Tryd.prog ops Q rest (a.put o.dst v') w') : wpListIn F nF Tryd.prog ops Q (o :: rest) a w := by
  obtain ⟨i0, hi, hz, hz1, hz2⟩ := info_span
  refine wpListIn_append_own_at _ hgd s x _ ho base _ i0 _ 2 16 Tryd.underlying90 hi hz hz1 hz2 (by simp [Value.cells]) (by omega) v _ _ hs hown.out ⟨g, 0, none⟩ 1 1 (flatS [n]) hx (by rw [flatS_length]; rfl) (fun j u hu => by rw [add_row]; exact range_row hr.out j u hu) (flatS_one _) (by unfold maxLen; omega) (by omega) hbase ?_
  intro v' w' h1 h2 h3 h4
  refine h v' w' (Lib.hid ?_) (Lib.hid h2) (Lib.hid h4)
  unfold OwnS
  rw [flatS_append, List.length_append]; exact h1
/-- a block that is neither the box B nor what the slice in its cell o owns -/
def FrB (B o : Nat) (b : Nat) (W : World) : Prop := b ≠ B ∧ ∃ cs t f v, W.heap[B]? = some (.cells cs t f) ∧ cs[o]? = some v ∧ v.ownBlock ≠ some b
theorem frB_own (B o M : Nat) : FrOwn M (FrB B o) := fun b s W W' row hs hg hr => by
  obtain ⟨h1, cs, t, f, v, h2, h3, h4⟩ := hs
  refine ⟨h1, cs, t, f, v, (hg.block B (Array.getElem?_eq_some_iff.1 h2).1 (fun e => ?_)).trans h2, h3, h4⟩
  obtain ⟨o, ho, hn⟩ := (hr B e.symm).2
  rw [ho] at h2; cases h2; cases hn
theorem ownS_own (b base : Nat) (t : TypeId) {β : Type} (f : β → List Pt) : Own (fun s W => ∃ v, Boxed W b t v ∧ OwnS W base v (f s)) := fun s W W' row hs hg hrow => by
  obtain ⟨v, hb, ho⟩ := hs
  exact ⟨v, row_own b t #[v] s W W' row hb hg hrow, ho.own hg hrow⟩
theorem setCell_other_row {w : World} {B o b : Nat} {cs : Array Value} {t : TypeId} {q : Obj} {v : Value} (hB : w.heap[B]? = some (.cells cs t (0, 0))) (hb : w.heap[b]? = some q) (hne : b ≠ B) : (w.setCell ⟨B, o, none⟩ v).heap[b]? = some q := by
  rw [setCell_eq_setRow w B o cs t (0, 0) v hB]
  exact (setRow_other w B b _ hne).trans hb
/-- an append to the slice in the box leaves the other blocks -/
theorem frB_kept {V w1 : World} {B o : Nat} {t : TypeId} {cs : Array Value} {v v' : Value} {tmp : Obj} (hB : V.heap[B]? = some (.cells cs t (0, 0))) (hv : cs[o]? = some v) (h1 : w1.heap[B]? = some (.cells cs t (0, 0)))
    (hg : (V.alloc tmp).grownBy w1 v.ownBlock) (ho : v'.ownBlock = v.ownBlock ∨ v'.ownBlock = some (V.alloc tmp).heap.size) : KpF (FrB B o) V (w1.setCell ⟨B, o, none⟩ v') := by
  have e := setCell_eq_setRow w1 B o cs t (0, 0) v' h1
  have hsz : V.heap.size ≤ w1.heap.size := by have := hg.size; rw [World.size_alloc] at this; omega
  refine ⟨by rw [e, setRow_size]; exact hsz, fun b q hfr hq => ?_⟩
  obtain ⟨hne, cs2, t2, f2, u, hB2, hu, hown⟩ := hfr
  rw [hB] at hB2
  cases hB2
  rw [hv] at hu
  cases hu
  have hlt := (Array.getElem?_eq_some_iff.1 hq).1
  have hq2 : w1.heap[b]? = some q := (hg.block b (by rw [World.size_alloc]; omega) (fun e2 => hown e2.symm)).trans ((Below.heap_alloc V tmp b hlt).trans hq)
  refine ⟨⟨hne, cs.setIfInBounds o v', t, (0, 0), v', by rw [e]; exact setRow_heap _ _ _ _ _ _ h1, ?_, ?_⟩, setCell_other_row h1 hq2 hne⟩
  · have hol := (Array.getElem?_eq_some_iff.1 hv).1
    simp [hol]
  · rcases ho with e2 | e2
    · rw [e2]; exact hown
    · rw [e2, World.size_alloc]
      intro e3
      cases e3
      omega
theorem parts_length {f t : Nat} (hft : f < t) (lo hi : Nat) (h : lo < hi) : (parts f t lo hi).length ≤ hi - lo :=
  parts_ind hft (M := fun lo hi => (parts f t lo hi).length ≤ hi - lo) (fun lo hi hlt hc => by rw [parts_leaf hlt hc]; simp; omega) (fun lo hi hlt hc h1 h2 i1 i2 => by rw [parts_cut hlt hft hc, List.length_append]; omega) (hi - lo) lo hi h (Nat.le_refl _)
theorem ftB_no {f t m : Int} (h : ¬ (0 ≤ f ∧ f < t ∧ t ≤ m ∧ m ≤ 4096)) : ftB f t m = false := by
  unfold ftB
  by_cases h0 : 0 ≤ f
  · by_cases h1 : f < t
    · by_cases h2 : t ≤ m
      · have h3 : ¬ m ≤ 4096 := fun h3 => h ⟨h0, h1, h2, h3⟩
        simp [h0, h1, h2, h3]
      · simp [h0, h1, h2]
    · simp [h0, h1]
  · simp [h0]
theorem ftB_yes {f t m : Int} (h : 0 ≤ f ∧ f < t ∧ t ≤ m ∧ m ≤ 4096) : ftB f t m = true := by
  unfold ftB; simp [h.1, h.2.1, h.2.2.1, h.2.2.2]
set_option maxRecDepth 100000 in
set_option maxHeartbeats 4000000 in
theorem cover_no (f t m : Int) (w : World) (h : ¬ (0 ≤ f ∧ f < t ∧ t ≤ m ∧ m ≤ 4096)) :
    Calls Tryd.prog 39 #[.int .i64 f, .int .i64 t, .int .i64 m] w fun e w' => e = .returned (.tuple #[.slice none 0 0, .int .i64 430]) ∧ Below w.heap.size w w' := by
  have hft := ftB_no h
  have hr := heap_alloc_new w (.cells #[.slice none 0 0] 90)
  have hb := (Below.refl _ w).alloc (Nat.le_refl _) (.cells #[.slice none 0 0] 90)
  have c0 := cell_of_row _ _ 0 _ _ _ hr
  have f0 := frozen_of_row _ _ 0 _ _ hr
  have HB := Lib.hid hb
  have HF := Lib.hid hft
  clear hr hb hft h
  refine (callsIn_wide (n := 5)).1 ?_
  refine callsIn_of_wp_marks Tryd.func39 rfl trivial ?_ rfl
  simp only [Tryd.ntmps39, List.size_toArray, List.length_cons, List.length_nil, Nat.reduceAdd, Nat.reduceSub, Array.replicate_succ, Array.replicate_zero, List.push_toArray, List.append_toArray, List.nil_append, List.cons_append]
  gi_wp2_with (refine ⟨trivial, ?_⟩; gi_at_call 68; refine (callsIn_wide.2 (fits_any f t m _)).mono ?_; rintro e w' ⟨rfl, rfl⟩; rw [HF.out])
  refine ⟨.tuple #[.slice none 0 0, .int .i64 430], ?_, rfl, HB.out⟩
  simp [results, Tryd.results39, asAddr, c0, go_sem]
set_option maxRecDepth 100000 in
set_option maxHeartbeats 8000000 in
theorem cover_yes (f t m : Nat) (w : World) (h1 : f < t) (h2 : t ≤ m) (h3 : m ≤ 4096) :
    Calls Tryd.prog 39 #[.int .i64 (f : Nat), .int .i64 (t : Nat), .int .i64 (m : Nat)] w fun e w' => ∃ A n c, e = .returned (.tuple #[.slice A n c, .int .i64 0]) ∧ InS w' A n c ((parts f t 0 m).filter (·.ins)) ∧ Below w.heap.size w w' := by
  have HF := Lib.hid (ftB_yes (f := (f : Int)) (t := (t : Int)) (m := (m : Int)) (by omega))
  obtain ⟨W1, HW1⟩ : ∃ V, Hid (w.alloc (.cells #[.slice none 0 0] 90) = V) := ⟨_, Lib.hid rfl⟩
  have hr := heap_alloc_new w (.cells #[.slice none 0 0] 90)
  have hb := (Below.refl _ w).alloc (Nat.le_refl _) (.cells #[.slice none 0 0] 90)
  have hs1 : W1.heap.size = w.heap.size + 1 := by rw [← HW1.out]; simp
  rw [HW1.out] at hr hb
  obtain ⟨W2, HW2⟩ : ∃ V, Hid ((W1.alloc (.cells #[.int .i64 (f : Nat), .int .i64 (t : Nat)] 97)).alloc (.cells #[.int .i64 0, .int .i64 (m : Nat)] 97) = V) := ⟨_, Lib.hid rfl⟩
  have hba := ((Below.refl _ W1).alloc (Nat.le_refl _) (.cells #[.int .i64 (f : Nat), .int .i64 (t : Nat)] 97)).alloc (by simp) (.cells #[.int .i64 0, .int .i64 (m : Nat)] 97)
  have hra := (Below.heap_alloc (W1.alloc (.cells #[.int .i64 (f : Nat), .int .i64 (t : Nat)] 97)) (.cells #[.int .i64 0, .int .i64 (m : Nat)] 97) W1.heap.size (by simp)).trans (heap_alloc_new W1 (.cells #[.int .i64 (f : Nat), .int .i64 (t : Nat)] 97))
  have hrb := heap_alloc_new (W1.alloc (.cells #[.int .i64 (f : Nat), .int .i64 (t : Nat)] 97)) (.cells #[.int .i64 0, .int .i64 (m : Nat)] 97)
  have hs2 : W2.heap.size = w.heap.size + 3 := by rw [← HW2.out]; simp; omega
  rw [World.size_alloc] at hrb
  rw [HW2.out] at hba hra hrb
  have hr2 := row_kept hr hba
  have HPT : Hid (PtsAt (FrB w.heap.size 0) f t 0 m W1.heap.size (W1.heap.size + 1) W2) := Lib.hid ⟨hra, hrb, ⟨by omega, _, _, _, _, hr2, rfl, by simp [Value.ownBlock]⟩, ⟨by omega, _, _, _, _, hr2, rfl, by simp [Value.ownBlock]⟩⟩
  have HR2 := Lib.hid hr2
  have HB2 := Lib.hid (hb.trans (hba.mono hb.size))
  have HS1 := Lib.hid hs1
  have HS2 := Lib.hid hs2
  clear hr hb hba hra hrb hr2 hs1 hs2
  refine (callsIn_wide (n := 5)).1 ?_
  refine callsIn_of_wp_marks Tryd.func39 rfl trivial ?_ rfl
  simp only [Tryd.ntmps39, List.size_toArray, List.length_cons, List.length_nil, Nat.reduceAdd, Nat.reduceSub, Array.replicate_succ, Array.replicate_zero, List.push_toArray, List.append_toArray, List.nil_append, List.cons_append]
  gi_wp2_with (first | (rw [HW1.out]) | (refine ⟨trivial, ?_⟩; gi_at_call 68; refine (callsIn_wide.2 (fits_any _ _ _ _)).mono ?_; rintro e w' ⟨rfl, rfl⟩; rw [HF.out]) | (refine ⟨trivial, ?_⟩; gi_at_call 69; refine (callsIn_wide.2 (parts_any f t 0 m _)).mono ?_; rintro e w' ⟨rfl, rfl⟩; rw [show ((0 : Nat) : Int) = 0 from rfl, HW2.out]))
  refine rangeFunc_own (gf := 106) (lb := #[.pointer (some ⟨W1.heap.size, 0, none⟩), .pointer (some ⟨W1.heap.size + 1, 0, none⟩)]) rfl (enters_of Tryd.func106 (by kernel_rfl) rfl)
    (parts1_seq f t h1 (by omega) 0 m (by omega) (by omega) (FrB w.heap.size 0) _ _ _ HPT) (fun _ => rfl)
    (fun pre V => (∃ v, Boxed V w.heap.size 90 v ∧ OwnS V w.heap.size v (pre.filter (·.ins))) ∧ Below w.heap.size w V)
    (fun _ _ _ => False)
    (OwnFrom.and (Own.from (ownS_own _ _ _ _) _) (ownFrom_below (Nat.le_refl _) HB2.out.size))
    (fun _ _ _ _ _ hs _ _ => hs)
    (frB_own _ _ _)
    (fun pre V o hs => by
      obtain ⟨⟨v, hb, ho⟩, hB⟩ := hs
      have hlt := (Array.getElem?_eq_some_iff.1 hb).1
      refine ⟨by omega, _, _, _, v, (Below.heap_alloc V o _ hlt).trans hb, rfl, fun e => ?_⟩
      have := (ho.block _ e).2.1
      omega)
    ⟨⟨_, HR2.out, OwnS.nil _ _⟩, HB2.out⟩
    (fun x a' V => ∃ sb, a' = { tmps := #[.int .i64 (f : Nat), .int .i64 (t : Nat), .int .i64 (m : Nat), undef, undef, undef, .pointer (some ⟨w.heap.size, 0, none⟩), .int .i64 0, .pointer (some ⟨sb, 0, none⟩), .bool x.ins, .int .i64 (f : Nat), .int .i64 (t : Nat), .int .i64 (m : Nat), .bool true, .bool false, .int .i64 (f : Nat), .int .i64 (t : Nat), .agg #[.int .i64 (f : Nat), .int .i64 (t : Nat)], .int .i64 (m : Nat), .agg #[.int .i64 0, .int .i64 (m : Nat)], .func (.func 106) #[] #[.pointer (some ⟨W1.heap.size, 0, none⟩), .pointer (some ⟨W1.heap.size + 1, 0, none⟩)], .agg #[.int .i64 (x.lo : Nat), .int .i64 (x.hi : Nat)], .bool x.ins, undef, undef, undef, undef, undef, undef], defers := [] } ∧ V.heap[sb]? = some (.cells #[.int .i64 (x.lo : Nat), .int .i64 (x.hi : Nat)] 97 (0, 0)))
    (fun x a' s A B row hs hg hr => by
      obtain ⟨sb, e, hh⟩ := hs
      exact ⟨sb, e, row_own sb _ _ () A B row hh hg (fun r e => (hr r e).2)⟩)
    ?assign ?body ?done ?stop
  case assign =>
    rintro l2 ys ⟨xl, xh, xi⟩ V K ⟨⟨v, hb, ho⟩, hB⟩ hK
    have hbb : Below V.heap.size V (V.alloc (.cells #[.int .i64 (xl : Nat), .int .i64 (xh : Nat)] 97)) := (Below.refl _ _).alloc (Nat.le_refl _) _
    simp only [encP]
    gi_wp2_with fail
    exact hK _ _ (KpF.alloc (frB_own _ _ V.heap.size) V _) ⟨⟨v, hb.alloc _, ho.below hbb⟩, hB.trans (hbb.mono hB.size)⟩ ⟨_, rfl, heap_alloc_new _ _⟩
  case body =>
    rintro l2 ys ⟨xl, xh, xi⟩ a' V hl2 hpp ⟨⟨v, hb, ho⟩, hB⟩ ⟨sb, rfl, hsb⟩
    have hlen := hpp.length_le
    have hpl := parts_length h1 0 m (by omega)
    rw [List.length_append, List.length_singleton] at hlen
    cases xi with
    | false =>
      gi_wp2_with fail
      refine ⟨KpF.refl _ _, ⟨⟨v, hb, ?_⟩, hB⟩⟩
      rw [List.filter_append]; simpa using ho
    | true =>
      have cl := hb.cell
      have cs0 := cell_of_row _ sb 0 _ _ _ hsb
      have cs1 := cell_of_row _ sb 1 _ _ _ hsb
      have HLN : Hid ((ys.filter (·.ins)).length ≤ 100000) := Lib.hid (Nat.le_trans (List.length_filter_le _ _) (by omega))
      have hba := (Below.refl V.heap.size V).alloc (Nat.le_refl _) (.cells (flatS [⟨xl, xh, true⟩]).toArray 97)
      have HOA := Lib.hid (ho.below hba)
      have HRA := Lib.hid (heap_alloc_new V (.cells (flatS [⟨xl, xh, true⟩]).toArray 97))
      have HSZ : Hid (w.heap.size ≤ (V.alloc (.cells (flatS [⟨xl, xh, true⟩]).toArray 97)).heap.size) := Lib.hid (by rw [World.size_alloc]; have := hB.size; omega)
      have HB := Lib.hid hB
      have HO := Lib.hid ho
      have HBX := Lib.hid hb
      have cla : (V.alloc (.cells (flatS [⟨xl, xh, true⟩]).toArray 97)).cell? ⟨w.heap.size, 0, none⟩ = some v := (hb.alloc _).cell
      obtain ⟨A1, n1, c1, rfl⟩ := ho.form
      clear hba hB ho hb hpp hlen hpl
      gi_wp2_with (first | (refine wpListIn_build_span1 rfl (.tmp 25) rfl ⟨xl, xh, true⟩ rfl ?_) | (refine wpListIn_append_span rfl (.tmp 24) (.tmp 26) rfl w.heap.size _ (ys.filter (·.ins)) ⟨xl, xh, true⟩ rfl HOA V.heap.size rfl HRA HLN.out HSZ.out ?_; intro v2 w2 HO2 HG2 HOB; obtain ⟨a1, a2, a3, a4, a5⟩ := Boxed.appended HBX.out (by decide) HO.out HB.out.size (Nat.le_refl _) HO2.out HG2.out; have q1 := a1.cell; have q2 := a1.frozen; obtain ⟨A2, n2, c2, rfl⟩ := HO2.out.form))
      refine ⟨frB_kept HBX.out rfl a1 HG2.out HOB.out, ⟨⟨_, a2, ?_⟩, HB.out.trans a5⟩⟩
      rw [List.filter_append]
      exact a3
  case done =>
    rintro D ys V hD rfl ⟨⟨v, hb, ho⟩, hB⟩ hkw hfD hd
    obtain ⟨A1, n1, c1, rfl⟩ := ho.form
    have cl := hb.cell
    have fz := hb.frozen
    have hd' : (V.setCell ⟨w.heap.size, 0, none⟩ (.slice A1 n1 c1)).heap[D]? = some (.deferred (some [])) := setCell_other_row hb hd (by have := HS2.out; omega)
    have hb' := hb.set (.slice A1 n1 c1)
    have hbz : ((V.setCell ⟨w.heap.size, 0, none⟩ (.slice A1 n1 c1)).putObj D (.deferred none)).heap[w.heap.size]? = some (.cells #[.slice A1 n1 c1] 90 (0, 0)) := (World.putObj_heap_other (by have := HS2.out; omega)).trans hb'
    have cz := cell_of_row _ _ 0 _ _ _ hbz
    have hoz : OwnS ((V.setCell ⟨w.heap.size, 0, none⟩ (.slice A1 n1 c1)).putObj D (.deferred none)) w.heap.size (.slice A1 n1 c1) (List.filter (·.ins) (parts f t 0 m)) := ho.kept fun g hg => by
      obtain ⟨_, hlt, cur, hcur⟩ := ho.block g hg
      have h5 : g ≠ D := fun e => by rw [e, hd] at hcur; cases hcur
      have h6 : g ≠ w.heap.size := fun e => by rw [e, hb] at hcur; cases hcur
      exact (World.putObj_heap_other h5).trans ((setCell_other_row hb hcur h6).trans hcur.symm)
    have hbf : Below w.heap.size w ((V.setCell ⟨w.heap.size, 0, none⟩ (.slice A1 n1 c1)).putObj D (.deferred none)) := (hB.setCell (p := ⟨w.heap.size, 0, none⟩) (Nat.le_refl _) _).trans (belowK_b (w := w) (Nat.le_refl _) _ D _ _ (by have := HS2.out; omega) hd' rfl rfl)
    obtain ⟨A2, n2, c2, e2, hin⟩ := hoz.slice
    cases e2
    have HIN := Lib.hid hin
    have HBF := Lib.hid hbf
    have HD' := Lib.hid hd'
    have HCZ := Lib.hid cz
    clear hbz cz hoz hbf hin hd' hb' hkw ho hB
    gi_wp2_with fail
    refine ⟨by simp, .inl ⟨_, _, rfl, run_takeDeferred HD'.out, ?_⟩⟩
    refine ⟨.tuple #[.slice A1 n1 c1, .int .i64 0], ?_, A1, n1, c1, rfl, HIN.out, HBF.out⟩
    have cz := HCZ.out
    simp [results, Tryd.results39, asAddr, cz, go_sem]
  case stop =>
    rintro D c pre V hD hs h hfD hd
    exact h.elim
end Go.Proofs.YtmfmgeapecapiaaDoor
namespace Go.Proofs.YtmfmgeapecapiaaDoor
open Go.RowKit Go.Shelf SzSha SzTree
set_option linter.unusedVariables false
set_option maxRecDepth 100000
/-- a deferred call that recovers, inside the wide fence -/
theorem callsDW_of_wpS {P : Program} {f : FuncId} {fn : Func} {c : Code} {args : Array Value} {u : FrameMode} {w : World} {n : Nat} {R : Ending → FrameMode → World → Prop}
    (hf : P.funcs[f]? = some fn) (hb : fn.body = some c)
    (h : ∀ (c₀ : Frame) (cs : List Frame), c₀.mode = u → c.wpS P (bodyPostS P fn c₀ cs R) { tmps := args ++ Array.replicate (fn.ntmps - args.size) undef, defers := [] } (c₀ :: cs) w) :
    CallsDIn Fence.wide n P f args u w R := by
  refine ⟨trivial, fun c₀ cs hu _ => ?_⟩
  obtain ⟨b, hB⟩ : ∃ b : Frame, b = { (default : Frame) with fn := f, kind := .deferred } := ⟨_, rfl⟩
  have hk : b.kind = .deferred := by rw [hB]
  have hr0 : b.roundOf = none := by rw [hB]; rfl
  have hfn : b.fn = f := by rw [hB]
  have henter : Frame.enter P f args .deferred = b.at { tmps := args ++ Array.replicate (fn.ntmps - args.size) undef, defers := [] } [.code c] := by
    rw [hB]; simp [Frame.enter, Frame.at, hf, hb]
  obtain ⟨e, a', cs', w', hq, harr⟩ := h c₀ cs hu b [] hk hr0
  rw [← henter] at harr
  cases e with
  | normal =>
    obtain ⟨hd, u', rfl, v, hr, hR⟩ := hq
    exact ⟨.returned v, u', w', _, hR, comesIn_wide.2 (Steps.trans harr (.one step_end)), hk, hfn, rfl, hd, fn, by show P.funcs[b.fn]? = some fn; rw [hfn]; exact hf, hr⟩
  | ret =>
    obtain ⟨hd, u', rfl, v, hr, hR⟩ := hq
    obtain ⟨todo, hs⟩ := harr
    exact ⟨.returned v, u', w', _, hR, comesIn_wide.2 hs, hk, hfn, rfl, hd, fn, by show P.funcs[b.fn]? = some fn; rw [hfn]; exact hf, hr⟩
  | panic chain =>
    obtain ⟨hd, u', rfl, hR⟩ := hq
    obtain ⟨todo, hs⟩ := harr
    exact ⟨.panicked chain, u', w', _, hR, comesIn_wide.2 hs, hk, hfn, rfl, hd, fn, by show P.funcs[b.fn]? = some fn; rw [hfn]; exact hf⟩
  | exit id => exact hq.elim
  | goto l => exact hq.elim
  | outgrown =>
    obtain ⟨u', hR⟩ := hq
    exact ⟨.outgrown, u', w', b, hR, comesIn_wide.2 (harr.resolve_left (by rw [hB]; simp)), hk, hfn, trivial⟩
theorem show1_idle (b : Nat) (w : World) (n : Nat) :
    CallsDIn Fence.wide n Tryd.prog 64 #[.pointer (some ⟨b, 0, none⟩)] .returning w fun e u' w' => e = .returned (.tuple #[]) ∧ u' = .returning ∧ w' = w := by
  refine callsDW_of_wpS Tryd.func64 rfl fun c₀ cs hu => ?_
  apply wpS_region
  simp [wpOpsS, go_sem, recoverD, hu, Tryd.ntmps64]
  refine (caught_nil _ w).mono ?_
  rintro e w' ⟨rfl, rfl⟩
  refine ⟨rfl, .returning, by cases c₀; simp_all, .tuple #[], ?_, rfl, rfl, rfl⟩
  simp [results, Tryd.results64]
theorem show1_panic (b : Nat) (z z0 : Int) (w : World) (hc : w.cell? ⟨b, 0, none⟩ = some (.int .i64 z0)) (hf : w.frozen? ⟨b, 0, none⟩ = false) (n : Nat) :
    CallsDIn Fence.wide n Tryd.prog 64 #[.pointer (some ⟨b, 0, none⟩)] (.panicking [{ v := .iface 186 (.agg #[.int .i64 z]), recovered := false }]) w fun e u' w' => e = .returned (.tuple #[]) ∧ u' = .panicking [{ v := .iface 186 (.agg #[.int .i64 z]), recovered := true }] ∧ w' = (w.setCell ⟨b, 0, none⟩ (.int .i64 z)).alloc (.cells #[.int .i64 z] 186) := by
  refine callsDW_of_wpS Tryd.func64 rfl fun c₀ cs hu => ?_
  apply wpS_region
  simp [wpOpsS, go_sem, recoverD, hu, Tryd.ntmps64]
  refine (caught_fail z z0 b w hc hf).mono ?_
  rintro e w' ⟨rfl, rfl⟩
  refine ⟨rfl, _, rfl, .tuple #[], ?_, rfl, rfl, rfl⟩
  simp [results, Tryd.results64]
end Go.Proofs.YtmfmgeapecapiaaDoor
namespace Go.Proofs.YtmfmgeapecapiaaDoor
open Go.RowKit SzSha SzTree
set_option linter.unusedVariables false
set_option maxRecDepth 100000
/-- a digest's cells -/
def dgC (l : List Nat) : List Value := l.map fun x => Value.int .u8 (x : Nat)
theorem dgV_agg (l : List Nat) : dgV l = .agg (dgC l).toArray := rfl
theorem dgC_length (l : List Nat) : (dgC l).length = l.length := by simp [dgC]
structure DgOk (l : List Nat) : Prop where
  len : l.length = 32
  bytes : Bytes l
theorem dgC_size {l : List Nat} (h : DgOk l) : 32 = (dgC l).toArray.size := by simp [dgC, h.len]
theorem dgC_info {l : List Nat} (h : DgOk l) : (Tryd.prog.info? 25).map (·.size) = some (dgC l).toArray.size := size32 l h.len
theorem dgC_one (l : List Nat) : (dgC l).toArray.all (·.oneCell') = true := oneCells l
def zeroD : List Nat := List.replicate 32 0
theorem zeroD_ok : DgOk zeroD := ⟨by simp [zeroD], fun x hx => by have := List.eq_of_mem_replicate hx; omega⟩
theorem zeroD_cells : (dgC zeroD).toArray = #[.int .u8 0, .int .u8 0, .int .u8 0, .int .u8 0, .int .u8 0, .int .u8 0, .int .u8 0, .int .u8 0, .int .u8 0, .int .u8 0, .int .u8 0, .int .u8 0, .int .u8 0, .int .u8 0, .int .u8 0, .int .u8 0, .int .u8 0, .int .u8 0, .int .u8 0, .int .u8 0, .int .u8 0, .int .u8 0, .int .u8 0, .int .u8 0, .int .u8 0, .int .u8 0, .int .u8 0, .int .u8 0, .int .u8 0, .int .u8 0, .int .u8 0, .int .u8 0] := by simp [zeroD, dgC, List.replicate]
end Go.Proofs.YtmfmgeapecapiaaDoor
