/- Unequal digests. sizar/disclose: verify. sizar/disclose: verify. Roots; lines and claims that are shown. Lines and claims compared. sizarlaw42.example. sizar/disclose.Listed. -/
import Derived.Test.YtmfmgeapecapiaaGreatDoorCS8
import Derived.Test.YtmfmgeapecapiaaGreatDoorCS4
set_option maxHeartbeats 16000001
namespace Go.Proofs.YtmfmgeapecapiaaGreatDoor
open Go.RowKit SzSha SzTree
set_option linter.unusedVariables false
set_option maxRecDepth 100000
theorem wpList_neq_dg {w : World} {ops : Array Oper} {rest : List Oper} {o : Oper} {a : Act} {Q : Exit → Act → World → Prop} (hg : o.guard = none) (x y : Operand) (t : TypeId)
  (ho : o.op = .binOp .neq 25 x y t) (l m : List Nat) (hx : a.eval x = dgV l) (hy : a.eval y = dgV m) (hl : DgOk l) (hm : DgOk m)
  (h : wpList Tryz.prog ops Q rest (a.put o.dst (.bool (!(l == m)))) w) : wpList Tryz.prog ops Q (o :: rest) a w :=
 wpList_plain hg fun _ hK => by
  unfold Oper.wp execOp
  simp only [ho, hx, hy, Sem.run_bind, guard_dg, neq_dg l m hl.len hm.len hl.bytes hm.bytes, Result.andThen_ok]
  exact hK _ _ h
/-- what verify answers -/
def vfE (v : Bool) (d : Dg) (i m : Int) (ps : List Dg) (r : Dg) : Int := if v && (decide (dclE i m ps.length = 0) && (dclR d i m ps == r)) then 0 else 420
theorem vfE_0 {v : Bool} (d : Dg) (i m : Int) (ps : List Dg) (r : Dg) (h : v = false) : vfE v d i m ps r = 420 := by unfold vfE; rw [h]; rfl
theorem vfE_1 {v : Bool} (d : Dg) (i m : Int) (ps : List Dg) (r : Dg) (h : dclE i m ps.length = 1) : vfE v d i m ps r = 420 := by unfold vfE; rw [h]; cases v <;> rfl
theorem vfE_2 {v : Bool} (d : Dg) (i m : Int) (ps : List Dg) (r : Dg) (h : (dclR d i m ps == r) = false) : vfE v d i m ps r = 420 := by unfold vfE; rw [h]; cases v <;> simp
theorem vfE_3 {v : Bool} (d : Dg) (i m : Int) (ps : List Dg) (r : Dg) (hv : v = true) (he : dclE i m ps.length = 0) (h : (dclR d i m ps == r) = true) : vfE v d i m ps r = 0 := by unfold vfE; rw [h, hv, he]; rfl
theorem verifyL_0 (x : Ln) (s : List Nat) (i m : Int) (ps : List Dg) (A : Option Addr) (n c : Nat) (r : List Nat) (w : World) (hs : Hid (DgOk s)) (hr : Hid (DgOk r)) (hn : n ≤ 100000) (h : Hid (InD w A n c ps)) (hT : Hid (Tabs w)) (hv : Hid (vLn x = false)) :
  Calls Tryz.prog 63 #[.agg tabL, lnV x, dgV s, .int .i64 i, .int .i64 m, .slice A n c, dgV r] w fun e w' => e = .returned (.int .i64 (vfE (vLn x) (lfL x s) i m ps r)) ∧ Below w.heap.size w w' := by
 have HRS : Hid (vfE (vLn x) (lfL x s) i m ps r = 420) := Lib.hid (vfE_0 _ _ _ _ _ hv.out)
 obtain ⟨t1, t2, t3, t4, t5⟩ := rows_four w tabL (lnC x).toArray (dgC s).toArray 86 45 25 (.cells (dgC r).toArray 25)
 have HB0 := Lib.hid t1
 have HR1 := Lib.hid t3
 have HR2 := Lib.hid t4
 have HR3 := Lib.hid t5
 have HT0 := Lib.hid t2
 have hT1 := Lib.hid (hT.out.below t1)
 have HIX := Lib.hid (lnC_info4 x)
 have HIS := Lib.hid (dgC_info hs.out)
 have HIR := Lib.hid (dgC_info hr.out)
 have kf : ((((w.alloc (.cells tabL 86)).alloc (.cells (lnC x).toArray 45)).alloc (.cells (dgC s).toArray 25)).alloc (.cells (dgC r).toArray 25)).cell? ⟨w.heap.size, 1, none⟩ = some (.func (.func 96) #[] #[]) := by rw [cell_of_row _ _ _ _ _ _ HT0.out]; rfl
 clear t1 t2 t3 t4 t5
 rw [dgV_agg s, dgV_agg r, show lnV x = .agg (lnC x).toArray from rfl]
 go_enter Tryz.func63, Tryz.ntmps63
 go_wp2_with (refine wpList_load_row rfl 45 (.tmp 8) rfl (w.heap.size + 1) rfl 45 _ (0, 0) _ HR1.out Tryz.underlying45 rfl HIX.out ?_)
 rw [show Value.agg (lnC x).toArray = lnV x from rfl]
 refine (vline_x x _).mono ?_
 rintro e w1 ⟨rfl, hq1⟩
 rw [hv.out]
 clear kf
 have HB1 := Lib.hid (HB0.out.trans (hq1.mono HB0.out.size))
 clear hq1
 go_wp2_with fail
 go_ret
 exact ⟨by rw [HRS.out]; rfl, HB1.out⟩
theorem verifyL_1 (x : Ln) (s : List Nat) (i m : Int) (ps : List Dg) (A : Option Addr) (n c : Nat) (r : List Nat) (w : World) (hs : Hid (DgOk s)) (hr : Hid (DgOk r)) (hn : n ≤ 100000) (h : Hid (InD w A n c ps)) (hT : Hid (Tabs w)) (hv : Hid (vLn x = true)) (he : Hid (dclE i m ps.length = 1)) :
  Calls Tryz.prog 63 #[.agg tabL, lnV x, dgV s, .int .i64 i, .int .i64 m, .slice A n c, dgV r] w fun e w' => e = .returned (.int .i64 (vfE (vLn x) (lfL x s) i m ps r)) ∧ Below w.heap.size w w' := by
 have HRS : Hid (vfE (vLn x) (lfL x s) i m ps r = 420) := Lib.hid (vfE_1 _ _ _ _ _ he.out)
 obtain ⟨t1, t2, t3, t4, t5⟩ := rows_four w tabL (lnC x).toArray (dgC s).toArray 86 45 25 (.cells (dgC r).toArray 25)
 have HB0 := Lib.hid t1
 have HR1 := Lib.hid t3
 have HR2 := Lib.hid t4
 have HR3 := Lib.hid t5
 have HT0 := Lib.hid t2
 have hT1 := Lib.hid (hT.out.below t1)
 have HIX := Lib.hid (lnC_info4 x)
 have HIS := Lib.hid (dgC_info hs.out)
 have HIR := Lib.hid (dgC_info hr.out)
 have kf : ((((w.alloc (.cells tabL 86)).alloc (.cells (lnC x).toArray 45)).alloc (.cells (dgC s).toArray 25)).alloc (.cells (dgC r).toArray 25)).cell? ⟨w.heap.size, 1, none⟩ = some (.func (.func 96) #[] #[]) := by rw [cell_of_row _ _ _ _ _ _ HT0.out]; rfl
 clear t1 t2 t3 t4 t5
 rw [dgV_agg s, dgV_agg r, show lnV x = .agg (lnC x).toArray from rfl]
 go_enter Tryz.func63, Tryz.ntmps63
 go_wp2_with (refine wpList_load_row rfl 45 (.tmp 8) rfl (w.heap.size + 1) rfl 45 _ (0, 0) _ HR1.out Tryz.underlying45 rfl HIX.out ?_)
 rw [show Value.agg (lnC x).toArray = lnV x from rfl]
 refine (vline_x x _).mono ?_
 rintro e w1 ⟨rfl, hq1⟩
 rw [hv.out]
 clear kf
 have HB1 := Lib.hid (HB0.out.trans (hq1.mono HB0.out.size))
 have HX1 := Lib.hid (row_kept HR1.out hq1)
 have HS1 := Lib.hid (row_kept HR2.out hq1)
 have HRR1 := Lib.hid (row_kept HR3.out hq1)
 have hT2 := Lib.hid (hT1.out.below hq1)
 have kg : w1.cell? ⟨w.heap.size, 3, none⟩ = some (.func (.func 95) #[] #[]) := by rw [cell_of_row _ _ _ _ _ _ (row_kept HT0.out hq1)]; rfl
 clear hq1
 go_wp2_with (first | (refine wpList_load_row rfl 45 (.tmp 8) rfl (w.heap.size + 1) rfl 45 _ (0, 0) _ HX1.out Tryz.underlying45 rfl HIX.out ?_) | (refine wpList_load_row rfl 25 (.tmp 9) rfl (w.heap.size + 1 + 1) rfl 25 _ (0, 0) _ HS1.out Tryz.underlying25 rfl HIS.out ?_))
 rw [show Value.agg (lnC x).toArray = lnV x from rfl, ← dgV_agg s]
 refine (leafL x s _ hs hT2).mono ?_
 rintro e w2 ⟨rfl, hq2⟩
 have HB2 := Lib.hid (HB1.out.trans (hq2.mono HB1.out.size))
 have HRR2 := Lib.hid (row_kept HRR1.out hq2)
 have hT3 := Lib.hid (hT2.out.below hq2)
 have HIP := Lib.hid (h.out.below HB2.out)
 have HLO := Lib.hid (lfL_ok x s)
 clear hq2 kg
 go_wp2_with fail
 refine (dclimb_any (lfL x s) i m ps A n c _ HLO (by omega) HIP hT3 hn).mono ?_
 rintro e w3 ⟨rfl, hq3⟩
 rw [he.out]
 obtain ⟨dr, HDR⟩ : ∃ dr, Hid (dclR (lfL x s) i m ps = dr) := ⟨_, Lib.hid rfl⟩
 have HDO : Hid (DgOk dr) := Lib.hid (by rw [← HDR.out]; exact dclR_ok _ _ _ _)
 have HN1 := Lib.hid (dgC_info HDO.out)
 have HN2 := Lib.hid (dgC_size HDO.out)
 rw [HDR.out]
 have HB3 := Lib.hid (HB2.out.trans (hq3.mono HB2.out.size))
 have HRR3 := Lib.hid (row_kept HRR2.out hq3)
 clear hq3
 obtain ⟨W4, HW4⟩ : ∃ W, Hid ((w3.alloc (.cells #[.int .u8 0, .int .u8 0, .int .u8 0, .int .u8 0, .int .u8 0, .int .u8 0, .int .u8 0, .int .u8 0, .int .u8 0, .int .u8 0, .int .u8 0, .int .u8 0, .int .u8 0, .int .u8 0, .int .u8 0, .int .u8 0, .int .u8 0, .int .u8 0, .int .u8 0, .int .u8 0, .int .u8 0, .int .u8 0, .int .u8 0, .int .u8 0, .int .u8 0, .int .u8 0, .int .u8 0, .int .u8 0, .int .u8 0, .int .u8 0, .int .u8 0, .int .u8 0] 25)).setRow w3.heap.size (dgC dr).toArray = W) := ⟨_, Lib.hid rfl⟩
 have hw4 := setRow_heap (w3.alloc (.cells #[.int .u8 0, .int .u8 0, .int .u8 0, .int .u8 0, .int .u8 0, .int .u8 0, .int .u8 0, .int .u8 0, .int .u8 0, .int .u8 0, .int .u8 0, .int .u8 0, .int .u8 0, .int .u8 0, .int .u8 0, .int .u8 0, .int .u8 0, .int .u8 0, .int .u8 0, .int .u8 0, .int .u8 0, .int .u8 0, .int .u8 0, .int .u8 0, .int .u8 0, .int .u8 0, .int .u8 0, .int .u8 0, .int .u8 0, .int .u8 0, .int .u8 0, .int .u8 0] 25)) w3.heap.size _ (dgC dr).toArray _ _ (heap_alloc_new w3 _)
 have hb4 := below_setRow ((Below.refl _ w3).alloc (Nat.le_refl _) (.cells #[.int .u8 0, .int .u8 0, .int .u8 0, .int .u8 0, .int .u8 0, .int .u8 0, .int .u8 0, .int .u8 0, .int .u8 0, .int .u8 0, .int .u8 0, .int .u8 0, .int .u8 0, .int .u8 0, .int .u8 0, .int .u8 0, .int .u8 0, .int .u8 0, .int .u8 0, .int .u8 0, .int .u8 0, .int .u8 0, .int .u8 0, .int .u8 0, .int .u8 0, .int .u8 0, .int .u8 0, .int .u8 0, .int .u8 0, .int .u8 0, .int .u8 0, .int .u8 0] 25)) (Nat.le_refl _) (dgC dr).toArray
 rw [HW4.out] at hw4 hb4
 have HRD := Lib.hid hw4
 have HRR4 := Lib.hid (row_kept HRR3.out hb4)
 have HB4 := Lib.hid (HB3.out.trans (hb4.mono HB3.out.size))
 clear hw4 hb4
 rw [dgV_agg dr]
 go_wp2_with (refine wpList_store_row rfl 25 (.tmp 15) (.tmp 32) rfl w3.heap.size (dgC dr).toArray rfl rfl 25 _ (heap_alloc_new w3 _) HN1.out HN2.out (dgC_one _) ?_; rw [HW4.out])
 go_ret
 exact ⟨by rw [HRS.out]; rfl, HB4.out⟩
theorem verifyL_2 (x : Ln) (s : List Nat) (i m : Int) (ps : List Dg) (A : Option Addr) (n c : Nat) (r : List Nat) (w : World) (hs : Hid (DgOk s)) (hr : Hid (DgOk r)) (hn : n ≤ 100000) (h : Hid (InD w A n c ps)) (hT : Hid (Tabs w)) (hv : Hid (vLn x = true)) (he : Hid (dclE i m ps.length = 0)) (hq : Hid ((dclR (lfL x s) i m ps == r) = false)) :
  Calls Tryz.prog 63 #[.agg tabL, lnV x, dgV s, .int .i64 i, .int .i64 m, .slice A n c, dgV r] w fun e w' => e = .returned (.int .i64 (vfE (vLn x) (lfL x s) i m ps r)) ∧ Below w.heap.size w w' := by
 have HRS : Hid (vfE (vLn x) (lfL x s) i m ps r = 420) := Lib.hid (vfE_2 _ _ _ _ _ hq.out)
 obtain ⟨t1, t2, t3, t4, t5⟩ := rows_four w tabL (lnC x).toArray (dgC s).toArray 86 45 25 (.cells (dgC r).toArray 25)
 have HB0 := Lib.hid t1
 have HR1 := Lib.hid t3
 have HR2 := Lib.hid t4
 have HR3 := Lib.hid t5
 have HT0 := Lib.hid t2
 have hT1 := Lib.hid (hT.out.below t1)
 have HIX := Lib.hid (lnC_info4 x)
 have HIS := Lib.hid (dgC_info hs.out)
 have HIR := Lib.hid (dgC_info hr.out)
 have kf : ((((w.alloc (.cells tabL 86)).alloc (.cells (lnC x).toArray 45)).alloc (.cells (dgC s).toArray 25)).alloc (.cells (dgC r).toArray 25)).cell? ⟨w.heap.size, 1, none⟩ = some (.func (.func 96) #[] #[]) := by rw [cell_of_row _ _ _ _ _ _ HT0.out]; rfl
 clear t1 t2 t3 t4 t5
 rw [dgV_agg s, dgV_agg r, show lnV x = .agg (lnC x).toArray from rfl]
 go_enter Tryz.func63, Tryz.ntmps63
 go_wp2_with (refine wpList_load_row rfl 45 (.tmp 8) rfl (w.heap.size + 1) rfl 45 _ (0, 0) _ HR1.out Tryz.underlying45 rfl HIX.out ?_)
 rw [show Value.agg (lnC x).toArray = lnV x from rfl]
 refine (vline_x x _).mono ?_
 rintro e w1 ⟨rfl, hq1⟩
 rw [hv.out]
 clear kf
 have HB1 := Lib.hid (HB0.out.trans (hq1.mono HB0.out.size))
 have HX1 := Lib.hid (row_kept HR1.out hq1)
 have HS1 := Lib.hid (row_kept HR2.out hq1)
 have HRR1 := Lib.hid (row_kept HR3.out hq1)
 have hT2 := Lib.hid (hT1.out.below hq1)
 have kg : w1.cell? ⟨w.heap.size, 3, none⟩ = some (.func (.func 95) #[] #[]) := by rw [cell_of_row _ _ _ _ _ _ (row_kept HT0.out hq1)]; rfl
 clear hq1
 go_wp2_with (first | (refine wpList_load_row rfl 45 (.tmp 8) rfl (w.heap.size + 1) rfl 45 _ (0, 0) _ HX1.out Tryz.underlying45 rfl HIX.out ?_) | (refine wpList_load_row rfl 25 (.tmp 9) rfl (w.heap.size + 1 + 1) rfl 25 _ (0, 0) _ HS1.out Tryz.underlying25 rfl HIS.out ?_))
 rw [show Value.agg (lnC x).toArray = lnV x from rfl, ← dgV_agg s]
 refine (leafL x s _ hs hT2).mono ?_
 rintro e w2 ⟨rfl, hq2⟩
 have HB2 := Lib.hid (HB1.out.trans (hq2.mono HB1.out.size))
 have HRR2 := Lib.hid (row_kept HRR1.out hq2)
 have hT3 := Lib.hid (hT2.out.below hq2)
 have HIP := Lib.hid (h.out.below HB2.out)
 have HLO := Lib.hid (lfL_ok x s)
 clear hq2 kg
 go_wp2_with fail
 refine (dclimb_any (lfL x s) i m ps A n c _ HLO (by omega) HIP hT3 hn).mono ?_
 rintro e w3 ⟨rfl, hq3⟩
 rw [he.out]
 obtain ⟨dr, HDR⟩ : ∃ dr, Hid (dclR (lfL x s) i m ps = dr) := ⟨_, Lib.hid rfl⟩
 have HDO : Hid (DgOk dr) := Lib.hid (by rw [← HDR.out]; exact dclR_ok _ _ _ _)
 have HN1 := Lib.hid (dgC_info HDO.out)
 have HN2 := Lib.hid (dgC_size HDO.out)
 rw [HDR.out]
 have HB3 := Lib.hid (HB2.out.trans (hq3.mono HB2.out.size))
 have HRR3 := Lib.hid (row_kept HRR2.out hq3)
 clear hq3
 obtain ⟨W4, HW4⟩ : ∃ W, Hid ((w3.alloc (.cells #[.int .u8 0, .int .u8 0, .int .u8 0, .int .u8 0, .int .u8 0, .int .u8 0, .int .u8 0, .int .u8 0, .int .u8 0, .int .u8 0, .int .u8 0, .int .u8 0, .int .u8 0, .int .u8 0, .int .u8 0, .int .u8 0, .int .u8 0, .int .u8 0, .int .u8 0, .int .u8 0, .int .u8 0, .int .u8 0, .int .u8 0, .int .u8 0, .int .u8 0, .int .u8 0, .int .u8 0, .int .u8 0, .int .u8 0, .int .u8 0, .int .u8 0, .int .u8 0] 25)).setRow w3.heap.size (dgC dr).toArray = W) := ⟨_, Lib.hid rfl⟩
 have hw4 := setRow_heap (w3.alloc (.cells #[.int .u8 0, .int .u8 0, .int .u8 0, .int .u8 0, .int .u8 0, .int .u8 0, .int .u8 0, .int .u8 0, .int .u8 0, .int .u8 0, .int .u8 0, .int .u8 0, .int .u8 0, .int .u8 0, .int .u8 0, .int .u8 0, .int .u8 0, .int .u8 0, .int .u8 0, .int .u8 0, .int .u8 0, .int .u8 0, .int .u8 0, .int .u8 0, .int .u8 0, .int .u8 0, .int .u8 0, .int .u8 0, .int .u8 0, .int .u8 0, .int .u8 0, .int .u8 0] 25)) w3.heap.size _ (dgC dr).toArray _ _ (heap_alloc_new w3 _)
 have hb4 := below_setRow ((Below.refl _ w3).alloc (Nat.le_refl _) (.cells #[.int .u8 0, .int .u8 0, .int .u8 0, .int .u8 0, .int .u8 0, .int .u8 0, .int .u8 0, .int .u8 0, .int .u8 0, .int .u8 0, .int .u8 0, .int .u8 0, .int .u8 0, .int .u8 0, .int .u8 0, .int .u8 0, .int .u8 0, .int .u8 0, .int .u8 0, .int .u8 0, .int .u8 0, .int .u8 0, .int .u8 0, .int .u8 0, .int .u8 0, .int .u8 0, .int .u8 0, .int .u8 0, .int .u8 0, .int .u8 0, .int .u8 0, .int .u8 0] 25)) (Nat.le_refl _) (dgC dr).toArray
 rw [HW4.out] at hw4 hb4
 have HRD := Lib.hid hw4
 have HRR4 := Lib.hid (row_kept HRR3.out hb4)
 have HB4 := Lib.hid (HB3.out.trans (hb4.mono HB3.out.size))
 clear hw4 hb4
 rw [dgV_agg dr]
 have hq' := hq.out
 rw [HDR.out] at hq'
 have hqq : (!(dr == r)) = true := by rw [hq']; rfl
 go_wp2_with (first | (refine wpList_store_row rfl 25 (.tmp 15) (.tmp 32) rfl w3.heap.size (dgC dr).toArray rfl rfl 25 _ (heap_alloc_new w3 _) HN1.out HN2.out (dgC_one _) ?_; rw [HW4.out]) | (refine wpList_unguard rfl ?_; refine wpList_load_row rfl 25 (.tmp 15) rfl w3.heap.size rfl 25 _ (0, 0) _ HRD.out Tryz.underlying25 rfl HN1.out ?_) | (refine wpList_unguard rfl ?_; refine wpList_load_row rfl 25 (.tmp 13) rfl (w.heap.size + 1 + 1 + 1) rfl 25 _ (0, 0) _ HRR4.out Tryz.underlying25 rfl HIR.out ?_) | (refine wpList_unguard rfl ?_; refine wpList_neq_dg rfl (.tmp 37) (.tmp 38) _ rfl dr r rfl rfl HDO.out hr.out ?_; rw [hqq]))
 go_ret
 exact ⟨by rw [HRS.out]; rfl, HB4.out⟩
theorem verifyL_3 (x : Ln) (s : List Nat) (i m : Int) (ps : List Dg) (A : Option Addr) (n c : Nat) (r : List Nat) (w : World) (hs : Hid (DgOk s)) (hr : Hid (DgOk r)) (hn : n ≤ 100000) (h : Hid (InD w A n c ps)) (hT : Hid (Tabs w)) (hv : Hid (vLn x = true)) (he : Hid (dclE i m ps.length = 0)) (hq : Hid ((dclR (lfL x s) i m ps == r) = true)) :
  Calls Tryz.prog 63 #[.agg tabL, lnV x, dgV s, .int .i64 i, .int .i64 m, .slice A n c, dgV r] w fun e w' => e = .returned (.int .i64 (vfE (vLn x) (lfL x s) i m ps r)) ∧ Below w.heap.size w w' := by
 have HRS : Hid (vfE (vLn x) (lfL x s) i m ps r = 0) := Lib.hid (vfE_3 _ _ _ _ _ hv.out he.out hq.out)
 obtain ⟨t1, t2, t3, t4, t5⟩ := rows_four w tabL (lnC x).toArray (dgC s).toArray 86 45 25 (.cells (dgC r).toArray 25)
 have HB0 := Lib.hid t1
 have HR1 := Lib.hid t3
 have HR2 := Lib.hid t4
 have HR3 := Lib.hid t5
 have HT0 := Lib.hid t2
 have hT1 := Lib.hid (hT.out.below t1)
 have HIX := Lib.hid (lnC_info4 x)
 have HIS := Lib.hid (dgC_info hs.out)
 have HIR := Lib.hid (dgC_info hr.out)
 have kf : ((((w.alloc (.cells tabL 86)).alloc (.cells (lnC x).toArray 45)).alloc (.cells (dgC s).toArray 25)).alloc (.cells (dgC r).toArray 25)).cell? ⟨w.heap.size, 1, none⟩ = some (.func (.func 96) #[] #[]) := by rw [cell_of_row _ _ _ _ _ _ HT0.out]; rfl
 clear t1 t2 t3 t4 t5
 rw [dgV_agg s, dgV_agg r, show lnV x = .agg (lnC x).toArray from rfl]
 go_enter Tryz.func63, Tryz.ntmps63
 go_wp2_with (refine wpList_load_row rfl 45 (.tmp 8) rfl (w.heap.size + 1) rfl 45 _ (0, 0) _ HR1.out Tryz.underlying45 rfl HIX.out ?_)
 rw [show Value.agg (lnC x).toArray = lnV x from rfl]
 refine (vline_x x _).mono ?_
 rintro e w1 ⟨rfl, hq1⟩
 rw [hv.out]
 clear kf
 have HB1 := Lib.hid (HB0.out.trans (hq1.mono HB0.out.size))
 have HX1 := Lib.hid (row_kept HR1.out hq1)
 have HS1 := Lib.hid (row_kept HR2.out hq1)
 have HRR1 := Lib.hid (row_kept HR3.out hq1)
 have hT2 := Lib.hid (hT1.out.below hq1)
 have kg : w1.cell? ⟨w.heap.size, 3, none⟩ = some (.func (.func 95) #[] #[]) := by rw [cell_of_row _ _ _ _ _ _ (row_kept HT0.out hq1)]; rfl
 clear hq1
 go_wp2_with (first | (refine wpList_load_row rfl 45 (.tmp 8) rfl (w.heap.size + 1) rfl 45 _ (0, 0) _ HX1.out Tryz.underlying45 rfl HIX.out ?_) | (refine wpList_load_row rfl 25 (.tmp 9) rfl (w.heap.size + 1 + 1) rfl 25 _ (0, 0) _ HS1.out Tryz.underlying25 rfl HIS.out ?_))
 rw [show Value.agg (lnC x).toArray = lnV x from rfl, ← dgV_agg s]
 refine (leafL x s _ hs hT2).mono ?_
 rintro e w2 ⟨rfl, hq2⟩
 have HB2 := Lib.hid (HB1.out.trans (hq2.mono HB1.out.size))
 have HRR2 := Lib.hid (row_kept HRR1.out hq2)
 have hT3 := Lib.hid (hT2.out.below hq2)
 have HIP := Lib.hid (h.out.below HB2.out)
 have HLO := Lib.hid (lfL_ok x s)
 clear hq2 kg
 go_wp2_with fail
 refine (dclimb_any (lfL x s) i m ps A n c _ HLO (by omega) HIP hT3 hn).mono ?_
 rintro e w3 ⟨rfl, hq3⟩
 rw [he.out]
 obtain ⟨dr, HDR⟩ : ∃ dr, Hid (dclR (lfL x s) i m ps = dr) := ⟨_, Lib.hid rfl⟩
 have HDO : Hid (DgOk dr) := Lib.hid (by rw [← HDR.out]; exact dclR_ok _ _ _ _)
 have HN1 := Lib.hid (dgC_info HDO.out)
 have HN2 := Lib.hid (dgC_size HDO.out)
 rw [HDR.out]
 have HB3 := Lib.hid (HB2.out.trans (hq3.mono HB2.out.size))
 have HRR3 := Lib.hid (row_kept HRR2.out hq3)
 clear hq3
 obtain ⟨W4, HW4⟩ : ∃ W, Hid ((w3.alloc (.cells #[.int .u8 0, .int .u8 0, .int .u8 0, .int .u8 0, .int .u8 0, .int .u8 0, .int .u8 0, .int .u8 0, .int .u8 0, .int .u8 0, .int .u8 0, .int .u8 0, .int .u8 0, .int .u8 0, .int .u8 0, .int .u8 0, .int .u8 0, .int .u8 0, .int .u8 0, .int .u8 0, .int .u8 0, .int .u8 0, .int .u8 0, .int .u8 0, .int .u8 0, .int .u8 0, .int .u8 0, .int .u8 0, .int .u8 0, .int .u8 0, .int .u8 0, .int .u8 0] 25)).setRow w3.heap.size (dgC dr).toArray = W) := ⟨_, Lib.hid rfl⟩
 have hw4 := setRow_heap (w3.alloc (.cells #[.int .u8 0, .int .u8 0, .int .u8 0, .int .u8 0, .int .u8 0, .int .u8 0, .int .u8 0, .int .u8 0, .int .u8 0, .int .u8 0, .int .u8 0, .int .u8 0, .int .u8 0, .int .u8 0, .int .u8 0, .int .u8 0, .int .u8 0, .int .u8 0, .int .u8 0, .int .u8 0, .int .u8 0, .int .u8 0, .int .u8 0, .int .u8 0, .int .u8 0, .int .u8 0, .int .u8 0, .int .u8 0, .int .u8 0, .int .u8 0, .int .u8 0, .int .u8 0] 25)) w3.heap.size _ (dgC dr).toArray _ _ (heap_alloc_new w3 _)
 have hb4 := below_setRow ((Below.refl _ w3).alloc (Nat.le_refl _) (.cells #[.int .u8 0, .int .u8 0, .int .u8 0, .int .u8 0, .int .u8 0, .int .u8 0, .int .u8 0, .int .u8 0, .int .u8 0, .int .u8 0, .int .u8 0, .int .u8 0, .int .u8 0, .int .u8 0, .int .u8 0, .int .u8 0, .int .u8 0, .int .u8 0, .int .u8 0, .int .u8 0, .int .u8 0, .int .u8 0, .int .u8 0, .int .u8 0, .int .u8 0, .int .u8 0, .int .u8 0, .int .u8 0, .int .u8 0, .int .u8 0, .int .u8 0, .int .u8 0] 25)) (Nat.le_refl _) (dgC dr).toArray
 rw [HW4.out] at hw4 hb4
 have HRD := Lib.hid hw4
 have HRR4 := Lib.hid (row_kept HRR3.out hb4)
 have HB4 := Lib.hid (HB3.out.trans (hb4.mono HB3.out.size))
 clear hw4 hb4
 rw [dgV_agg dr]
 have hq' := hq.out
 rw [HDR.out] at hq'
 have hqq : (!(dr == r)) = false := by rw [hq']; rfl
 go_wp2_with (first | (refine wpList_store_row rfl 25 (.tmp 15) (.tmp 32) rfl w3.heap.size (dgC dr).toArray rfl rfl 25 _ (heap_alloc_new w3 _) HN1.out HN2.out (dgC_one _) ?_; rw [HW4.out]) | (refine wpList_unguard rfl ?_; refine wpList_load_row rfl 25 (.tmp 15) rfl w3.heap.size rfl 25 _ (0, 0) _ HRD.out Tryz.underlying25 rfl HN1.out ?_) | (refine wpList_unguard rfl ?_; refine wpList_load_row rfl 25 (.tmp 13) rfl (w.heap.size + 1 + 1 + 1) rfl 25 _ (0, 0) _ HRR4.out Tryz.underlying25 rfl HIR.out ?_) | (refine wpList_unguard rfl ?_; refine wpList_neq_dg rfl (.tmp 37) (.tmp 38) _ rfl dr r rfl rfl HDO.out hr.out ?_; rw [hqq]))
 go_ret
 exact ⟨by rw [HRS.out]; rfl, HB4.out⟩
theorem verifyL (x : Ln) (s : List Nat) (i m : Int) (ps : List Dg) (A : Option Addr) (n c : Nat) (r : List Nat) (w : World) (hs : Hid (DgOk s)) (hr : Hid (DgOk r)) (hn : n ≤ 100000) (h : Hid (InD w A n c ps)) (hT : Hid (Tabs w)) :
  Calls Tryz.prog 63 #[.agg tabL, lnV x, dgV s, .int .i64 i, .int .i64 m, .slice A n c, dgV r] w fun e w' => e = .returned (.int .i64 (vfE (vLn x) (lfL x s) i m ps r)) ∧ Below w.heap.size w w' := by
 by_cases hv : vLn x = true
 ·by_cases he : dArg i m ps.length
  ·exact verifyL_1 x s i m ps A n c r w  hs hr hn h hT (Lib.hid hv) (Lib.hid (by unfold dclE; rw [if_pos he]))
  ·by_cases hq : (dclR (lfL x s) i m ps == r) = true
   ·exact verifyL_3 x s i m ps A n c r w  hs hr hn h hT (Lib.hid hv) (Lib.hid (by unfold dclE; rw [if_neg he])) (Lib.hid hq)
   ·exact verifyL_2 x s i m ps A n c r w  hs hr hn h hT (Lib.hid hv) (Lib.hid (by unfold dclE; rw [if_neg he])) (Lib.hid (by simpa using hq))
 ·exact verifyL_0 x s i m ps A n c r w  hs hr hn h hT (Lib.hid (by simpa using hv))
theorem verifyK_0 (x : Cl) (s : List Nat) (i m : Int) (ps : List Dg) (A : Option Addr) (n c : Nat) (r : List Nat) (w : World) (hx : Hid (ClOk x)) (hs : Hid (DgOk s)) (hr : Hid (DgOk r)) (hn : n ≤ 100000) (h : Hid (InD w A n c ps)) (hT : Hid (Tabs w)) (hv : Hid (vCl x = false)) :
  Calls Tryz.prog 67 #[.agg tabK, clV x, dgV s, .int .i64 i, .int .i64 m, .slice A n c, dgV r] w fun e w' => e = .returned (.int .i64 (vfE (vCl x) (lfK x s) i m ps r)) ∧ Below w.heap.size w w' := by
 have HRS : Hid (vfE (vCl x) (lfK x s) i m ps r = 420) := Lib.hid (vfE_0 _ _ _ _ _ hv.out)
 obtain ⟨t1, t2, t3, t4, t5⟩ := rows_four w tabK (clC x).toArray (dgC s).toArray 95 56 25 (.cells (dgC r).toArray 25)
 have HB0 := Lib.hid t1
 have HR1 := Lib.hid t3
 have HR2 := Lib.hid t4
 have HR3 := Lib.hid t5
 have HT0 := Lib.hid t2
 have hT1 := Lib.hid (hT.out.below t1)
 have HIX := Lib.hid (clC_info4 x)
 have HIS := Lib.hid (dgC_info hs.out)
 have HIR := Lib.hid (dgC_info hr.out)
 have kf : ((((w.alloc (.cells tabK 95)).alloc (.cells (clC x).toArray 56)).alloc (.cells (dgC s).toArray 25)).alloc (.cells (dgC r).toArray 25)).cell? ⟨w.heap.size, 1, none⟩ = some (.func (.func 107) #[] #[]) := by rw [cell_of_row _ _ _ _ _ _ HT0.out]; rfl
 clear t1 t2 t3 t4 t5
 rw [dgV_agg s, dgV_agg r, show clV x = .agg (clC x).toArray from rfl]
 go_enter Tryz.func67, Tryz.ntmps67
 go_wp2_with (refine wpList_load_row rfl 56 (.tmp 8) rfl (w.heap.size + 1) rfl 56 _ (0, 0) _ HR1.out Tryz.underlying56 rfl HIX.out ?_)
 rw [show Value.agg (clC x).toArray = clV x from rfl]
 refine (vclaim_x x _).mono ?_
 rintro e w1 ⟨rfl, hq1⟩
 rw [hv.out]
 clear kf
 have HB1 := Lib.hid (HB0.out.trans (hq1.mono HB0.out.size))
 clear hq1
 go_wp2_with fail
 go_ret
 exact ⟨by rw [HRS.out]; rfl, HB1.out⟩
theorem verifyK_1 (x : Cl) (s : List Nat) (i m : Int) (ps : List Dg) (A : Option Addr) (n c : Nat) (r : List Nat) (w : World) (hx : Hid (ClOk x)) (hs : Hid (DgOk s)) (hr : Hid (DgOk r)) (hn : n ≤ 100000) (h : Hid (InD w A n c ps)) (hT : Hid (Tabs w)) (hv : Hid (vCl x = true)) (he : Hid (dclE i m ps.length = 1)) :
  Calls Tryz.prog 67 #[.agg tabK, clV x, dgV s, .int .i64 i, .int .i64 m, .slice A n c, dgV r] w fun e w' => e = .returned (.int .i64 (vfE (vCl x) (lfK x s) i m ps r)) ∧ Below w.heap.size w w' := by
 have HRS : Hid (vfE (vCl x) (lfK x s) i m ps r = 420) := Lib.hid (vfE_1 _ _ _ _ _ he.out)
 obtain ⟨t1, t2, t3, t4, t5⟩ := rows_four w tabK (clC x).toArray (dgC s).toArray 95 56 25 (.cells (dgC r).toArray 25)
 have HB0 := Lib.hid t1
 have HR1 := Lib.hid t3
 have HR2 := Lib.hid t4
 have HR3 := Lib.hid t5
 have HT0 := Lib.hid t2
 have hT1 := Lib.hid (hT.out.below t1)
 have HIX := Lib.hid (clC_info4 x)
 have HIS := Lib.hid (dgC_info hs.out)
 have HIR := Lib.hid (dgC_info hr.out)
 have kf : ((((w.alloc (.cells tabK 95)).alloc (.cells (clC x).toArray 56)).alloc (.cells (dgC s).toArray 25)).alloc (.cells (dgC r).toArray 25)).cell? ⟨w.heap.size, 1, none⟩ = some (.func (.func 107) #[] #[]) := by rw [cell_of_row _ _ _ _ _ _ HT0.out]; rfl
 clear t1 t2 t3 t4 t5
 rw [dgV_agg s, dgV_agg r, show clV x = .agg (clC x).toArray from rfl]
 go_enter Tryz.func67, Tryz.ntmps67
 go_wp2_with (refine wpList_load_row rfl 56 (.tmp 8) rfl (w.heap.size + 1) rfl 56 _ (0, 0) _ HR1.out Tryz.underlying56 rfl HIX.out ?_)
 rw [show Value.agg (clC x).toArray = clV x from rfl]
 refine (vclaim_x x _).mono ?_
 rintro e w1 ⟨rfl, hq1⟩
 rw [hv.out]
 clear kf
 have HB1 := Lib.hid (HB0.out.trans (hq1.mono HB0.out.size))
 have HX1 := Lib.hid (row_kept HR1.out hq1)
 have HS1 := Lib.hid (row_kept HR2.out hq1)
 have HRR1 := Lib.hid (row_kept HR3.out hq1)
 have hT2 := Lib.hid (hT1.out.below hq1)
 have kg : w1.cell? ⟨w.heap.size, 3, none⟩ = some (.func (.func 105) #[] #[]) := by rw [cell_of_row _ _ _ _ _ _ (row_kept HT0.out hq1)]; rfl
 clear hq1
 go_wp2_with (first | (refine wpList_load_row rfl 56 (.tmp 8) rfl (w.heap.size + 1) rfl 56 _ (0, 0) _ HX1.out Tryz.underlying56 rfl HIX.out ?_) | (refine wpList_load_row rfl 25 (.tmp 9) rfl (w.heap.size + 1 + 1) rfl 25 _ (0, 0) _ HS1.out Tryz.underlying25 rfl HIS.out ?_))
 rw [show Value.agg (clC x).toArray = clV x from rfl, ← dgV_agg s]
 refine (leafK x s _ hx hs hT2).mono ?_
 rintro e w2 ⟨rfl, hq2⟩
 have HB2 := Lib.hid (HB1.out.trans (hq2.mono HB1.out.size))
 have HRR2 := Lib.hid (row_kept HRR1.out hq2)
 have hT3 := Lib.hid (hT2.out.below hq2)
 have HIP := Lib.hid (h.out.below HB2.out)
 have HLO := Lib.hid (lfK_ok x s)
 clear hq2 kg
 go_wp2_with fail
 refine (dclimb_any (lfK x s) i m ps A n c _ HLO (by omega) HIP hT3 hn).mono ?_
 rintro e w3 ⟨rfl, hq3⟩
 rw [he.out]
 obtain ⟨dr, HDR⟩ : ∃ dr, Hid (dclR (lfK x s) i m ps = dr) := ⟨_, Lib.hid rfl⟩
 have HDO : Hid (DgOk dr) := Lib.hid (by rw [← HDR.out]; exact dclR_ok _ _ _ _)
 have HN1 := Lib.hid (dgC_info HDO.out)
 have HN2 := Lib.hid (dgC_size HDO.out)
 rw [HDR.out]
 have HB3 := Lib.hid (HB2.out.trans (hq3.mono HB2.out.size))
 have HRR3 := Lib.hid (row_kept HRR2.out hq3)
 clear hq3
 obtain ⟨W4, HW4⟩ : ∃ W, Hid ((w3.alloc (.cells #[.int .u8 0, .int .u8 0, .int .u8 0, .int .u8 0, .int .u8 0, .int .u8 0, .int .u8 0, .int .u8 0, .int .u8 0, .int .u8 0, .int .u8 0, .int .u8 0, .int .u8 0, .int .u8 0, .int .u8 0, .int .u8 0, .int .u8 0, .int .u8 0, .int .u8 0, .int .u8 0, .int .u8 0, .int .u8 0, .int .u8 0, .int .u8 0, .int .u8 0, .int .u8 0, .int .u8 0, .int .u8 0, .int .u8 0, .int .u8 0, .int .u8 0, .int .u8 0] 25)).setRow w3.heap.size (dgC dr).toArray = W) := ⟨_, Lib.hid rfl⟩
 have hw4 := setRow_heap (w3.alloc (.cells #[.int .u8 0, .int .u8 0, .int .u8 0, .int .u8 0, .int .u8 0, .int .u8 0, .int .u8 0, .int .u8 0, .int .u8 0, .int .u8 0, .int .u8 0, .int .u8 0, .int .u8 0, .int .u8 0, .int .u8 0, .int .u8 0, .int .u8 0, .int .u8 0, .int .u8 0, .int .u8 0, .int .u8 0, .int .u8 0, .int .u8 0, .int .u8 0, .int .u8 0, .int .u8 0, .int .u8 0, .int .u8 0, .int .u8 0, .int .u8 0, .int .u8 0, .int .u8 0] 25)) w3.heap.size _ (dgC dr).toArray _ _ (heap_alloc_new w3 _)
 have hb4 := below_setRow ((Below.refl _ w3).alloc (Nat.le_refl _) (.cells #[.int .u8 0, .int .u8 0, .int .u8 0, .int .u8 0, .int .u8 0, .int .u8 0, .int .u8 0, .int .u8 0, .int .u8 0, .int .u8 0, .int .u8 0, .int .u8 0, .int .u8 0, .int .u8 0, .int .u8 0, .int .u8 0, .int .u8 0, .int .u8 0, .int .u8 0, .int .u8 0, .int .u8 0, .int .u8 0, .int .u8 0, .int .u8 0, .int .u8 0, .int .u8 0, .int .u8 0, .int .u8 0, .int .u8 0, .int .u8 0, .int .u8 0, .int .u8 0] 25)) (Nat.le_refl _) (dgC dr).toArray
 rw [HW4.out] at hw4 hb4
 have HRD := Lib.hid hw4
 have HRR4 := Lib.hid (row_kept HRR3.out hb4)
 have HB4 := Lib.hid (HB3.out.trans (hb4.mono HB3.out.size))
 clear hw4 hb4
 rw [dgV_agg dr]
 go_wp2_with (refine wpList_store_row rfl 25 (.tmp 15) (.tmp 32) rfl w3.heap.size (dgC dr).toArray rfl rfl 25 _ (heap_alloc_new w3 _) HN1.out HN2.out (dgC_one _) ?_; rw [HW4.out])
 go_ret
 exact ⟨by rw [HRS.out]; rfl, HB4.out⟩
theorem verifyK_2 (x : Cl) (s : List Nat) (i m : Int) (ps : List Dg) (A : Option Addr) (n c : Nat) (r : List Nat) (w : World) (hx : Hid (ClOk x)) (hs : Hid (DgOk s)) (hr : Hid (DgOk r)) (hn : n ≤ 100000) (h : Hid (InD w A n c ps)) (hT : Hid (Tabs w)) (hv : Hid (vCl x = true)) (he : Hid (dclE i m ps.length = 0)) (hq : Hid ((dclR (lfK x s) i m ps == r) = false)) :
  Calls Tryz.prog 67 #[.agg tabK, clV x, dgV s, .int .i64 i, .int .i64 m, .slice A n c, dgV r] w fun e w' => e = .returned (.int .i64 (vfE (vCl x) (lfK x s) i m ps r)) ∧ Below w.heap.size w w' := by
 have HRS : Hid (vfE (vCl x) (lfK x s) i m ps r = 420) := Lib.hid (vfE_2 _ _ _ _ _ hq.out)
 obtain ⟨t1, t2, t3, t4, t5⟩ := rows_four w tabK (clC x).toArray (dgC s).toArray 95 56 25 (.cells (dgC r).toArray 25)
 have HB0 := Lib.hid t1
 have HR1 := Lib.hid t3
 have HR2 := Lib.hid t4
 have HR3 := Lib.hid t5
 have HT0 := Lib.hid t2
 have hT1 := Lib.hid (hT.out.below t1)
 have HIX := Lib.hid (clC_info4 x)
 have HIS := Lib.hid (dgC_info hs.out)
 have HIR := Lib.hid (dgC_info hr.out)
 have kf : ((((w.alloc (.cells tabK 95)).alloc (.cells (clC x).toArray 56)).alloc (.cells (dgC s).toArray 25)).alloc (.cells (dgC r).toArray 25)).cell? ⟨w.heap.size, 1, none⟩ = some (.func (.func 107) #[] #[]) := by rw [cell_of_row _ _ _ _ _ _ HT0.out]; rfl
 clear t1 t2 t3 t4 t5
 rw [dgV_agg s, dgV_agg r, show clV x = .agg (clC x).toArray from rfl]
 go_enter Tryz.func67, Tryz.ntmps67
 go_wp2_with (refine wpList_load_row rfl 56 (.tmp 8) rfl (w.heap.size + 1) rfl 56 _ (0, 0) _ HR1.out Tryz.underlying56 rfl HIX.out ?_)
 rw [show Value.agg (clC x).toArray = clV x from rfl]
 refine (vclaim_x x _).mono ?_
 rintro e w1 ⟨rfl, hq1⟩
 rw [hv.out]
 clear kf
 have HB1 := Lib.hid (HB0.out.trans (hq1.mono HB0.out.size))
 have HX1 := Lib.hid (row_kept HR1.out hq1)
 have HS1 := Lib.hid (row_kept HR2.out hq1)
 have HRR1 := Lib.hid (row_kept HR3.out hq1)
 have hT2 := Lib.hid (hT1.out.below hq1)
 have kg : w1.cell? ⟨w.heap.size, 3, none⟩ = some (.func (.func 105) #[] #[]) := by rw [cell_of_row _ _ _ _ _ _ (row_kept HT0.out hq1)]; rfl
 clear hq1
 go_wp2_with (first | (refine wpList_load_row rfl 56 (.tmp 8) rfl (w.heap.size + 1) rfl 56 _ (0, 0) _ HX1.out Tryz.underlying56 rfl HIX.out ?_) | (refine wpList_load_row rfl 25 (.tmp 9) rfl (w.heap.size + 1 + 1) rfl 25 _ (0, 0) _ HS1.out Tryz.underlying25 rfl HIS.out ?_))
 rw [show Value.agg (clC x).toArray = clV x from rfl, ← dgV_agg s]
 refine (leafK x s _ hx hs hT2).mono ?_
 rintro e w2 ⟨rfl, hq2⟩
 have HB2 := Lib.hid (HB1.out.trans (hq2.mono HB1.out.size))
 have HRR2 := Lib.hid (row_kept HRR1.out hq2)
 have hT3 := Lib.hid (hT2.out.below hq2)
 have HIP := Lib.hid (h.out.below HB2.out)
 have HLO := Lib.hid (lfK_ok x s)
 clear hq2 kg
 go_wp2_with fail
 refine (dclimb_any (lfK x s) i m ps A n c _ HLO (by omega) HIP hT3 hn).mono ?_
 rintro e w3 ⟨rfl, hq3⟩
 rw [he.out]
 obtain ⟨dr, HDR⟩ : ∃ dr, Hid (dclR (lfK x s) i m ps = dr) := ⟨_, Lib.hid rfl⟩
 have HDO : Hid (DgOk dr) := Lib.hid (by rw [← HDR.out]; exact dclR_ok _ _ _ _)
 have HN1 := Lib.hid (dgC_info HDO.out)
 have HN2 := Lib.hid (dgC_size HDO.out)
 rw [HDR.out]
 have HB3 := Lib.hid (HB2.out.trans (hq3.mono HB2.out.size))
 have HRR3 := Lib.hid (row_kept HRR2.out hq3)
 clear hq3
 obtain ⟨W4, HW4⟩ : ∃ W, Hid ((w3.alloc (.cells #[.int .u8 0, .int .u8 0, .int .u8 0, .int .u8 0, .int .u8 0, .int .u8 0, .int .u8 0, .int .u8 0, .int .u8 0, .int .u8 0, .int .u8 0, .int .u8 0, .int .u8 0, .int .u8 0, .int .u8 0, .int .u8 0, .int .u8 0, .int .u8 0, .int .u8 0, .int .u8 0, .int .u8 0, .int .u8 0, .int .u8 0, .int .u8 0, .int .u8 0, .int .u8 0, .int .u8 0, .int .u8 0, .int .u8 0, .int .u8 0, .int .u8 0, .int .u8 0] 25)).setRow w3.heap.size (dgC dr).toArray = W) := ⟨_, Lib.hid rfl⟩
 have hw4 := setRow_heap (w3.alloc (.cells #[.int .u8 0, .int .u8 0, .int .u8 0, .int .u8 0, .int .u8 0, .int .u8 0, .int .u8 0, .int .u8 0, .int .u8 0, .int .u8 0, .int .u8 0, .int .u8 0, .int .u8 0, .int .u8 0, .int .u8 0, .int .u8 0, .int .u8 0, .int .u8 0, .int .u8 0, .int .u8 0, .int .u8 0, .int .u8 0, .int .u8 0, .int .u8 0, .int .u8 0, .int .u8 0, .int .u8 0, .int .u8 0, .int .u8 0, .int .u8 0, .int .u8 0, .int .u8 0] 25)) w3.heap.size _ (dgC dr).toArray _ _ (heap_alloc_new w3 _)
 have hb4 := below_setRow ((Below.refl _ w3).alloc (Nat.le_refl _) (.cells #[.int .u8 0, .int .u8 0, .int .u8 0, .int .u8 0, .int .u8 0, .int .u8 0, .int .u8 0, .int .u8 0, .int .u8 0, .int .u8 0, .int .u8 0, .int .u8 0, .int .u8 0, .int .u8 0, .int .u8 0, .int .u8 0, .int .u8 0, .int .u8 0, .int .u8 0, .int .u8 0, .int .u8 0, .int .u8 0, .int .u8 0, .int .u8 0, .int .u8 0, .int .u8 0, .int .u8 0, .int .u8 0, .int .u8 0, .int .u8 0, .int .u8 0, .int .u8 0] 25)) (Nat.le_refl _) (dgC dr).toArray
 rw [HW4.out] at hw4 hb4
 have HRD := Lib.hid hw4
 have HRR4 := Lib.hid (row_kept HRR3.out hb4)
 have HB4 := Lib.hid (HB3.out.trans (hb4.mono HB3.out.size))
 clear hw4 hb4
 rw [dgV_agg dr]
 have hq' := hq.out
 rw [HDR.out] at hq'
 have hqq : (!(dr == r)) = true := by rw [hq']; rfl
 go_wp2_with (first | (refine wpList_store_row rfl 25 (.tmp 15) (.tmp 32) rfl w3.heap.size (dgC dr).toArray rfl rfl 25 _ (heap_alloc_new w3 _) HN1.out HN2.out (dgC_one _) ?_; rw [HW4.out]) | (refine wpList_unguard rfl ?_; refine wpList_load_row rfl 25 (.tmp 15) rfl w3.heap.size rfl 25 _ (0, 0) _ HRD.out Tryz.underlying25 rfl HN1.out ?_) | (refine wpList_unguard rfl ?_; refine wpList_load_row rfl 25 (.tmp 13) rfl (w.heap.size + 1 + 1 + 1) rfl 25 _ (0, 0) _ HRR4.out Tryz.underlying25 rfl HIR.out ?_) | (refine wpList_unguard rfl ?_; refine wpList_neq_dg rfl (.tmp 37) (.tmp 38) _ rfl dr r rfl rfl HDO.out hr.out ?_; rw [hqq]))
 go_ret
 exact ⟨by rw [HRS.out]; rfl, HB4.out⟩
theorem verifyK_3 (x : Cl) (s : List Nat) (i m : Int) (ps : List Dg) (A : Option Addr) (n c : Nat) (r : List Nat) (w : World) (hx : Hid (ClOk x)) (hs : Hid (DgOk s)) (hr : Hid (DgOk r)) (hn : n ≤ 100000) (h : Hid (InD w A n c ps)) (hT : Hid (Tabs w)) (hv : Hid (vCl x = true)) (he : Hid (dclE i m ps.length = 0)) (hq : Hid ((dclR (lfK x s) i m ps == r) = true)) :
  Calls Tryz.prog 67 #[.agg tabK, clV x, dgV s, .int .i64 i, .int .i64 m, .slice A n c, dgV r] w fun e w' => e = .returned (.int .i64 (vfE (vCl x) (lfK x s) i m ps r)) ∧ Below w.heap.size w w' := by
 have HRS : Hid (vfE (vCl x) (lfK x s) i m ps r = 0) := Lib.hid (vfE_3 _ _ _ _ _ hv.out he.out hq.out)
 obtain ⟨t1, t2, t3, t4, t5⟩ := rows_four w tabK (clC x).toArray (dgC s).toArray 95 56 25 (.cells (dgC r).toArray 25)
 have HB0 := Lib.hid t1
 have HR1 := Lib.hid t3
 have HR2 := Lib.hid t4
 have HR3 := Lib.hid t5
 have HT0 := Lib.hid t2
 have hT1 := Lib.hid (hT.out.below t1)
 have HIX := Lib.hid (clC_info4 x)
 have HIS := Lib.hid (dgC_info hs.out)
 have HIR := Lib.hid (dgC_info hr.out)
 have kf : ((((w.alloc (.cells tabK 95)).alloc (.cells (clC x).toArray 56)).alloc (.cells (dgC s).toArray 25)).alloc (.cells (dgC r).toArray 25)).cell? ⟨w.heap.size, 1, none⟩ = some (.func (.func 107) #[] #[]) := by rw [cell_of_row _ _ _ _ _ _ HT0.out]; rfl
 clear t1 t2 t3 t4 t5
 rw [dgV_agg s, dgV_agg r, show clV x = .agg (clC x).toArray from rfl]
 go_enter Tryz.func67, Tryz.ntmps67
 go_wp2_with (refine wpList_load_row rfl 56 (.tmp 8) rfl (w.heap.size + 1) rfl 56 _ (0, 0) _ HR1.out Tryz.underlying56 rfl HIX.out ?_)
 rw [show Value.agg (clC x).toArray = clV x from rfl]
 refine (vclaim_x x _).mono ?_
 rintro e w1 ⟨rfl, hq1⟩
 rw [hv.out]
 clear kf
 have HB1 := Lib.hid (HB0.out.trans (hq1.mono HB0.out.size))
 have HX1 := Lib.hid (row_kept HR1.out hq1)
 have HS1 := Lib.hid (row_kept HR2.out hq1)
 have HRR1 := Lib.hid (row_kept HR3.out hq1)
 have hT2 := Lib.hid (hT1.out.below hq1)
 have kg : w1.cell? ⟨w.heap.size, 3, none⟩ = some (.func (.func 105) #[] #[]) := by rw [cell_of_row _ _ _ _ _ _ (row_kept HT0.out hq1)]; rfl
 clear hq1
 go_wp2_with (first | (refine wpList_load_row rfl 56 (.tmp 8) rfl (w.heap.size + 1) rfl 56 _ (0, 0) _ HX1.out Tryz.underlying56 rfl HIX.out ?_) | (refine wpList_load_row rfl 25 (.tmp 9) rfl (w.heap.size + 1 + 1) rfl 25 _ (0, 0) _ HS1.out Tryz.underlying25 rfl HIS.out ?_))
 rw [show Value.agg (clC x).toArray = clV x from rfl, ← dgV_agg s]
 refine (leafK x s _ hx hs hT2).mono ?_
 rintro e w2 ⟨rfl, hq2⟩
 have HB2 := Lib.hid (HB1.out.trans (hq2.mono HB1.out.size))
 have HRR2 := Lib.hid (row_kept HRR1.out hq2)
 have hT3 := Lib.hid (hT2.out.below hq2)
 have HIP := Lib.hid (h.out.below HB2.out)
 have HLO := Lib.hid (lfK_ok x s)
 clear hq2 kg
 go_wp2_with fail
 refine (dclimb_any (lfK x s) i m ps A n c _ HLO (by omega) HIP hT3 hn).mono ?_
 rintro e w3 ⟨rfl, hq3⟩
 rw [he.out]
 obtain ⟨dr, HDR⟩ : ∃ dr, Hid (dclR (lfK x s) i m ps = dr) := ⟨_, Lib.hid rfl⟩
 have HDO : Hid (DgOk dr) := Lib.hid (by rw [← HDR.out]; exact dclR_ok _ _ _ _)
 have HN1 := Lib.hid (dgC_info HDO.out)
 have HN2 := Lib.hid (dgC_size HDO.out)
 rw [HDR.out]
 have HB3 := Lib.hid (HB2.out.trans (hq3.mono HB2.out.size))
 have HRR3 := Lib.hid (row_kept HRR2.out hq3)
 clear hq3
 obtain ⟨W4, HW4⟩ : ∃ W, Hid ((w3.alloc (.cells #[.int .u8 0, .int .u8 0, .int .u8 0, .int .u8 0, .int .u8 0, .int .u8 0, .int .u8 0, .int .u8 0, .int .u8 0, .int .u8 0, .int .u8 0, .int .u8 0, .int .u8 0, .int .u8 0, .int .u8 0, .int .u8 0, .int .u8 0, .int .u8 0, .int .u8 0, .int .u8 0, .int .u8 0, .int .u8 0, .int .u8 0, .int .u8 0, .int .u8 0, .int .u8 0, .int .u8 0, .int .u8 0, .int .u8 0, .int .u8 0, .int .u8 0, .int .u8 0] 25)).setRow w3.heap.size (dgC dr).toArray = W) := ⟨_, Lib.hid rfl⟩
 have hw4 := setRow_heap (w3.alloc (.cells #[.int .u8 0, .int .u8 0, .int .u8 0, .int .u8 0, .int .u8 0, .int .u8 0, .int .u8 0, .int .u8 0, .int .u8 0, .int .u8 0, .int .u8 0, .int .u8 0, .int .u8 0, .int .u8 0, .int .u8 0, .int .u8 0, .int .u8 0, .int .u8 0, .int .u8 0, .int .u8 0, .int .u8 0, .int .u8 0, .int .u8 0, .int .u8 0, .int .u8 0, .int .u8 0, .int .u8 0, .int .u8 0, .int .u8 0, .int .u8 0, .int .u8 0, .int .u8 0] 25)) w3.heap.size _ (dgC dr).toArray _ _ (heap_alloc_new w3 _)
 have hb4 := below_setRow ((Below.refl _ w3).alloc (Nat.le_refl _) (.cells #[.int .u8 0, .int .u8 0, .int .u8 0, .int .u8 0, .int .u8 0, .int .u8 0, .int .u8 0, .int .u8 0, .int .u8 0, .int .u8 0, .int .u8 0, .int .u8 0, .int .u8 0, .int .u8 0, .int .u8 0, .int .u8 0, .int .u8 0, .int .u8 0, .int .u8 0, .int .u8 0, .int .u8 0, .int .u8 0, .int .u8 0, .int .u8 0, .int .u8 0, .int .u8 0, .int .u8 0, .int .u8 0, .int .u8 0, .int .u8 0, .int .u8 0, .int .u8 0] 25)) (Nat.le_refl _) (dgC dr).toArray
 rw [HW4.out] at hw4 hb4
 have HRD := Lib.hid hw4
 have HRR4 := Lib.hid (row_kept HRR3.out hb4)
 have HB4 := Lib.hid (HB3.out.trans (hb4.mono HB3.out.size))
 clear hw4 hb4
 rw [dgV_agg dr]
 have hq' := hq.out
 rw [HDR.out] at hq'
 have hqq : (!(dr == r)) = false := by rw [hq']; rfl
 go_wp2_with (first | (refine wpList_store_row rfl 25 (.tmp 15) (.tmp 32) rfl w3.heap.size (dgC dr).toArray rfl rfl 25 _ (heap_alloc_new w3 _) HN1.out HN2.out (dgC_one _) ?_; rw [HW4.out]) | (refine wpList_unguard rfl ?_; refine wpList_load_row rfl 25 (.tmp 15) rfl w3.heap.size rfl 25 _ (0, 0) _ HRD.out Tryz.underlying25 rfl HN1.out ?_) | (refine wpList_unguard rfl ?_; refine wpList_load_row rfl 25 (.tmp 13) rfl (w.heap.size + 1 + 1 + 1) rfl 25 _ (0, 0) _ HRR4.out Tryz.underlying25 rfl HIR.out ?_) | (refine wpList_unguard rfl ?_; refine wpList_neq_dg rfl (.tmp 37) (.tmp 38) _ rfl dr r rfl rfl HDO.out hr.out ?_; rw [hqq]))
 go_ret
 exact ⟨by rw [HRS.out]; rfl, HB4.out⟩
theorem verifyK (x : Cl) (s : List Nat) (i m : Int) (ps : List Dg) (A : Option Addr) (n c : Nat) (r : List Nat) (w : World) (hx : Hid (ClOk x)) (hs : Hid (DgOk s)) (hr : Hid (DgOk r)) (hn : n ≤ 100000) (h : Hid (InD w A n c ps)) (hT : Hid (Tabs w)) :
  Calls Tryz.prog 67 #[.agg tabK, clV x, dgV s, .int .i64 i, .int .i64 m, .slice A n c, dgV r] w fun e w' => e = .returned (.int .i64 (vfE (vCl x) (lfK x s) i m ps r)) ∧ Below w.heap.size w w' := by
 by_cases hv : vCl x = true
 ·by_cases he : dArg i m ps.length
  ·exact verifyK_1 x s i m ps A n c r w hx hs hr hn h hT (Lib.hid hv) (Lib.hid (by unfold dclE; rw [if_pos he]))
  ·by_cases hq : (dclR (lfK x s) i m ps == r) = true
   ·exact verifyK_3 x s i m ps A n c r w hx hs hr hn h hT (Lib.hid hv) (Lib.hid (by unfold dclE; rw [if_neg he])) (Lib.hid hq)
   ·exact verifyK_2 x s i m ps A n c r w hx hs hr hn h hT (Lib.hid hv) (Lib.hid (by unfold dclE; rw [if_neg he])) (Lib.hid (by simpa using hq))
 ·exact verifyK_0 x s i m ps A n c r w hx hs hr hn h hT (Lib.hid (by simpa using hv))
/-- a root -/
structure Rt where
 cam : Int
 stu : Int
 ver : Int
 kno : Int
 lin : Int
 cla : Int
 tree : Nd
 listed : List Nat
 claimed : List Nat
 prev : List Nat
 sr : Int
 ss : Int
def rtC (r : Rt) : List Value := [.int .i64 r.cam, .int .i64 r.stu, .int .i64 r.ver, .int .i64 r.kno, .int .i64 r.lin, .int .i64 r.cla] ++ (ndC r.tree ++ (dgC r.listed ++ (dgC r.claimed ++ (dgC r.prev ++ [.int .i64 r.sr, .int .i64 r.ss]))))
structure RtOk (r : Rt) : Prop where
 b0 : I64 r.cam
 b1 : I64 r.stu
 b2 : I64 r.ver
 b3 : I64 r.kno
 b4 : I64 r.lin
 b5 : I64 r.cla
 tree : NdOk r.tree
 listed : DgOk r.listed
 claimed : DgOk r.claimed
 prev : DgOk r.prev
 b6 : I64 r.sr
 b7 : I64 r.ss
theorem app_range {w : World} {g ty : Nat} {a b c : List Value} (h : w.heap[g]? = some (.cells (a ++ (b ++ c)).toArray ty (0, 0))) : w.rangeAt g a.length b := fun j v hj => by
 have hj2 : j < b.length := (List.getElem?_eq_some_iff.1 hj).1
 rw [cell_of_row w g (a.length + j) _ _ _ h, List.getElem?_toArray, List.getElem?_append_right (by omega), Nat.add_sub_cancel_left, List.getElem?_append_left hj2]
 exact hj
theorem dgC_len32 {l : List Nat} (h : DgOk l) : (dgC l).length = 32 := by rw [dgC_length]; exact h.len
theorem rt_listed {w : World} {g ty : Nat} {r : Rt} (hr : RtOk r) (h : w.heap[g]? = some (.cells (rtC r).toArray ty (0, 0))) : w.rangeAt g 40 (dgC r.listed) := by
 unfold rtC at h
 rw [← List.append_assoc] at h
 have := app_range h
 rwa [show ([Value.int .i64 r.cam, .int .i64 r.stu, .int .i64 r.ver, .int .i64 r.kno, .int .i64 r.lin, .int .i64 r.cla] ++ ndC r.tree).length = 40 by rw [List.length_append, ndC_length hr.tree]; rfl] at this
theorem rt_claimed {w : World} {g ty : Nat} {r : Rt} (hr : RtOk r) (h : w.heap[g]? = some (.cells (rtC r).toArray ty (0, 0))) : w.rangeAt g 72 (dgC r.claimed) := by
 unfold rtC at h
 rw [← List.append_assoc, ← List.append_assoc] at h
 have := app_range h
 rwa [show ([Value.int .i64 r.cam, .int .i64 r.stu, .int .i64 r.ver, .int .i64 r.kno, .int .i64 r.lin, .int .i64 r.cla] ++ ndC r.tree ++ dgC r.listed).length = 72 by rw [List.length_append, List.length_append, ndC_length hr.tree, dgC_len32 hr.listed]; rfl] at this
/-- what is shown -/
def shCL (i : Int) (x : Ln) (s : List Nat) (A : Option Addr) (n c : Nat) : List Value := [.int .i64 i] ++ (lnC x ++ (dgC s ++ [.slice A n c]))
theorem shCL_x {w : World} {g ty : Nat} {i : Int} {x : Ln} {s : List Nat} {A : Option Addr} {n c : Nat} (h : w.heap[g]? = some (.cells (shCL i x s A n c).toArray ty (0, 0))) : w.rangeAt g 1 (lnC x) := app_range h
theorem shCL_s {w : World} {g ty : Nat} {i : Int} {x : Ln} {s : List Nat} {A : Option Addr} {n c : Nat} (h : w.heap[g]? = some (.cells (shCL i x s A n c).toArray ty (0, 0))) : w.rangeAt g 6 (dgC s) := by
 unfold shCL at h
 rw [← List.append_assoc] at h
 exact app_range h
theorem shCL_p {w : World} {g ty : Nat} {i : Int} {x : Ln} {s : List Nat} {A : Option Addr} {n c : Nat} (hs : DgOk s) (h : w.heap[g]? = some (.cells (shCL i x s A n c).toArray ty (0, 0))) : w.cell? ⟨g, 38, none⟩ = some (.slice A n c) := by
 unfold shCL at h
 rw [← List.append_assoc, ← List.append_assoc, ← List.append_nil [Value.slice A n c]] at h
 have := app_range h 0 (.slice A n c) rfl
 rwa [show ([Value.int .i64 i] ++ lnC x ++ dgC s).length = 38 by rw [List.length_append, dgC_len32 hs]; rfl] at this
theorem shCL_info {i : Int} {x : Ln} {s : List Nat} {A : Option Addr} {n c : Nat} (hs : DgOk s) : (Tryz.prog.info? 48).map (·.size) = some (shCL i x s A n c).toArray.size := by
 have e : (shCL i x s A n c).toArray.size = 39 := by simp [shCL, dgC_len32 hs, lnC]
 rw [e]; show _ = some 39; kernel_rfl
/-- what is shown -/
def shCK (i : Int) (x : Cl) (s : List Nat) (A : Option Addr) (n c : Nat) : List Value := [.int .i64 i] ++ (clC x ++ (dgC s ++ [.slice A n c]))
theorem shCK_x {w : World} {g ty : Nat} {i : Int} {x : Cl} {s : List Nat} {A : Option Addr} {n c : Nat} (h : w.heap[g]? = some (.cells (shCK i x s A n c).toArray ty (0, 0))) : w.rangeAt g 1 (clC x) := app_range h
theorem shCK_s {w : World} {g ty : Nat} {i : Int} {x : Cl} {s : List Nat} {A : Option Addr} {n c : Nat} (h : w.heap[g]? = some (.cells (shCK i x s A n c).toArray ty (0, 0))) : w.rangeAt g 4 (dgC s) := by
 unfold shCK at h
 rw [← List.append_assoc] at h
 exact app_range h
theorem shCK_p {w : World} {g ty : Nat} {i : Int} {x : Cl} {s : List Nat} {A : Option Addr} {n c : Nat} (hs : DgOk s) (h : w.heap[g]? = some (.cells (shCK i x s A n c).toArray ty (0, 0))) : w.cell? ⟨g, 36, none⟩ = some (.slice A n c) := by
 unfold shCK at h
 rw [← List.append_assoc, ← List.append_assoc, ← List.append_nil [Value.slice A n c]] at h
 have := app_range h 0 (.slice A n c) rfl
 rwa [show ([Value.int .i64 i] ++ clC x ++ dgC s).length = 36 by rw [List.length_append, dgC_len32 hs]; rfl] at this
theorem shCK_info {i : Int} {x : Cl} {s : List Nat} {A : Option Addr} {n c : Nat} (hs : DgOk s) : (Tryz.prog.info? 58).map (·.size) = some (shCK i x s A n c).toArray.size := by
 have e : (shCK i x s A n c).toArray.size = 37 := by simp [shCK, dgC_len32 hs, clC]
 rw [e]; show _ = some 37; kernel_rfl
/-- equality -/
def lnEq (a b : Ln) : Bool := a.c0 == b.c0 && (a.c1 == b.c1 && (a.c2 == b.c2 && (a.c3 == b.c3 && (a.c4 == b.c4))))
theorem ln_part0 (x : Ln) (w : World) : (part 3 (lnC x).toArray 0).run Tryz.prog w = .ok (.int .i64 x.c0) w := by
 have hu := Tryz.underlying3
 simp [part, isAgg, run_underlying hu, lnC]
theorem ln_part1 (x : Ln) (w : World) : (part 3 (lnC x).toArray 1).run Tryz.prog w = .ok (.int .i64 x.c1) w := by
 have hu := Tryz.underlying3
 simp [part, isAgg, run_underlying hu, lnC]
theorem ln_part2 (x : Ln) (w : World) : (part 3 (lnC x).toArray 2).run Tryz.prog w = .ok (.int .i64 x.c2) w := by
 have hu := Tryz.underlying3
 simp [part, isAgg, run_underlying hu, lnC]
theorem ln_part3 (x : Ln) (w : World) : (part 3 (lnC x).toArray 3).run Tryz.prog w = .ok (.int .i64 x.c3) w := by
 have hu := Tryz.underlying3
 simp [part, isAgg, run_underlying hu, lnC]
theorem ln_part4 (x : Ln) (w : World) : (part 3 (lnC x).toArray 4).run Tryz.prog w = .ok (.int .i64 x.c4) w := by
 have hu := Tryz.underlying3
 simp [part, isAgg, run_underlying hu, lnC]
theorem equal_ln (a b : Ln) (w : World) : (Op.equalIn 10000 45 (lnV a) (lnV b)).run Tryz.prog w = .ok (lnEq a b) w := by
 have hf : (Tryz.prog.fieldsOf 45).toList.map (fun f => (f.name != "_", f.type, f.offset)) = [(true, 3, 0), (true, 3, 1), (true, 3, 2), (true, 3, 3), (true, 3, 4)] := by kernel_rfl
 have hS : Tryz.prog.underlying 45 = some (.struct (Tryz.prog.fieldsOf 45)) := by kernel_rfl
 have hp : Tryz.prog.stoodInHeld 45 = false := by kernel_rfl
 unfold lnV
 rw [show (10000 : Nat) = 9999 + 1 from rfl, run_equalIn_agg w 9999 _ _ _ hS hp]
 generalize (Tryz.prog.fieldsOf 45).toList = fs at hf
 obtain ⟨f0, f1, f2, f3, f4, rfl⟩ : ∃ f0 f1 f2 f3 f4, fs = [f0, f1, f2, f3, f4] := by
  have hl := congrArg List.length hf
  simp only [List.length_map, List.length_cons, List.length_nil] at hl
  rcases fs with _ | ⟨f0, fs⟩
  ·simp at hl
  rcases fs with _ | ⟨f1, fs⟩
  ·simp at hl
  rcases fs with _ | ⟨f2, fs⟩
  ·simp at hl
  rcases fs with _ | ⟨f3, fs⟩
  ·simp at hl
  rcases fs with _ | ⟨f4, fs⟩
  ·simp at hl
  rcases fs with _ | ⟨f5, fs⟩
  ·exact ⟨f0, f1, f2, f3, f4, rfl⟩
  ·simp at hl
 simp only [List.map_cons, List.map_nil, List.cons.injEq, Prod.mk.injEq, and_true, bne_iff_ne, ne_eq] at hf
 obtain ⟨⟨n0, t0, o0⟩, ⟨n1, t1, o1⟩, ⟨n2, t2, o2⟩, ⟨n3, t3, o3⟩, n4, t4, o4⟩ := hf
 have q0 := run_equalIn_int (P := Tryz.prog) w 9998 3 .i64 _ a.c0 b.c0 Tryz.underlying3
 have q1 := run_equalIn_int (P := Tryz.prog) w 9998 3 .i64 _ a.c1 b.c1 Tryz.underlying3
 have q2 := run_equalIn_int (P := Tryz.prog) w 9998 3 .i64 _ a.c2 b.c2 Tryz.underlying3
 have q3 := run_equalIn_int (P := Tryz.prog) w 9998 3 .i64 _ a.c3 b.c3 Tryz.underlying3
 have q4 := run_equalIn_int (P := Tryz.prog) w 9998 3 .i64 _ a.c4 b.c4 Tryz.underlying3
 simp only [Nat.reduceAdd] at q0 q1 q2 q3 q4
 have e4 : (Op.eqFields 9999 (lnC a).toArray (lnC b).toArray [f4]).run Tryz.prog w = .ok (a.c4 == b.c4) w := by
  simp only [Op.eqFields, n4, t4, o4, not_false_eq_true, ne_eq, if_true, Sem.run_bind, ln_part4, Result.andThen_ok, q4]
  cases a.c4 == b.c4 <;> rfl
 have e3 : (Op.eqFields 9999 (lnC a).toArray (lnC b).toArray [f3, f4]).run Tryz.prog w = .ok (a.c3 == b.c3 && (a.c4 == b.c4)) w := by
  rw [Op.eqFields]
  simp only [n3, t3, o3, not_false_eq_true, ne_eq, if_true, Sem.run_bind, ln_part3, Result.andThen_ok, q3]
  cases a.c3 == b.c3
  ·rfl
  ·exact e4
 have e2 : (Op.eqFields 9999 (lnC a).toArray (lnC b).toArray [f2, f3, f4]).run Tryz.prog w = .ok (a.c2 == b.c2 && (a.c3 == b.c3 && (a.c4 == b.c4))) w := by
  rw [Op.eqFields]
  simp only [n2, t2, o2, not_false_eq_true, ne_eq, if_true, Sem.run_bind, ln_part2, Result.andThen_ok, q2]
  cases a.c2 == b.c2
  ·rfl
  ·exact e3
 have e1 : (Op.eqFields 9999 (lnC a).toArray (lnC b).toArray [f1, f2, f3, f4]).run Tryz.prog w = .ok (a.c1 == b.c1 && (a.c2 == b.c2 && (a.c3 == b.c3 && (a.c4 == b.c4)))) w := by
  rw [Op.eqFields]
  simp only [n1, t1, o1, not_false_eq_true, ne_eq, if_true, Sem.run_bind, ln_part1, Result.andThen_ok, q1]
  cases a.c1 == b.c1
  ·rfl
  ·exact e2
 have e0 : (Op.eqFields 9999 (lnC a).toArray (lnC b).toArray [f0, f1, f2, f3, f4]).run Tryz.prog w = .ok (a.c0 == b.c0 && (a.c1 == b.c1 && (a.c2 == b.c2 && (a.c3 == b.c3 && (a.c4 == b.c4))))) w := by
  rw [Op.eqFields]
  simp only [n0, t0, o0, not_false_eq_true, ne_eq, if_true, Sem.run_bind, ln_part0, Result.andThen_ok, q0]
  cases a.c0 == b.c0
  ·rfl
  ·exact e1
 exact e0
theorem eql_ln (a b : Ln) (w : World) : (binOp .eql 45 (lnV a) (lnV b)).run Tryz.prog w = .ok (.bool ((lnEq a b))) w := by
 have := equal_ln a b w
 unfold lnV at this ⊢
 rw [run_eql_struct, this]; rfl
theorem guard_ln (op : BinOp) (x y : Operand) (a b : Ln) (w : World) : (eqGuard op 45 x y (lnV a) (lnV b)).run Tryz.prog w = .ok () w := by
 unfold lnV
 exact run_eqGuard_agg w op _ x y _ _ (by kernel_rfl)
theorem wpList_eql_ln {w : World} {ops : Array Oper} {rest : List Oper} {o : Oper} {a : Act} {Q : Exit → Act → World → Prop} (hg : o.guard = none) (x y : Operand) (t : TypeId)
  (ho : o.op = .binOp .eql 45 x y t) (m n : Ln) (hx : a.eval x = lnV m) (hy : a.eval y = lnV n)
  (h : wpList Tryz.prog ops Q rest (a.put o.dst (.bool ((lnEq m n)))) w) : wpList Tryz.prog ops Q (o :: rest) a w :=
 wpList_plain hg fun _ hK => by
  unfold Oper.wp execOp
  simp only [ho, hx, hy, Sem.run_bind, guard_ln, eql_ln m n, Result.andThen_ok]
  exact hK _ _ h
/-- equality -/
def clEq (a b : Cl) : Bool := a.p == b.p && (a.r == b.r && (a.m == b.m))
theorem cl_part0 (x : Cl) (w : World) : (part 3 (clC x).toArray 0).run Tryz.prog w = .ok (.int .i64 x.p) w := by
 have hu := Tryz.underlying3
 simp [part, isAgg, run_underlying hu, clC]
theorem cl_part1 (x : Cl) (w : World) : (part 3 (clC x).toArray 1).run Tryz.prog w = .ok (.int .i64 x.r) w := by
 have hu := Tryz.underlying3
 simp [part, isAgg, run_underlying hu, clC]
theorem cl_part2 (x : Cl) (w : World) : (part 4 (clC x).toArray 2).run Tryz.prog w = .ok (.bool x.m) w := by
 have hu := Tryz.underlying4
 simp [part, isAgg, run_underlying hu, clC]
theorem equal_cl (a b : Cl) (w : World) : (Op.equalIn 10000 56 (clV a) (clV b)).run Tryz.prog w = .ok (clEq a b) w := by
 have hf : (Tryz.prog.fieldsOf 56).toList.map (fun f => (f.name != "_", f.type, f.offset)) = [(true, 3, 0), (true, 3, 1), (true, 4, 2)] := by kernel_rfl
 have hS : Tryz.prog.underlying 56 = some (.struct (Tryz.prog.fieldsOf 56)) := by kernel_rfl
 have hp : Tryz.prog.stoodInHeld 56 = false := by kernel_rfl
 unfold clV
 rw [show (10000 : Nat) = 9999 + 1 from rfl, run_equalIn_agg w 9999 _ _ _ hS hp]
 generalize (Tryz.prog.fieldsOf 56).toList = fs at hf
 obtain ⟨f0, f1, f2, rfl⟩ : ∃ f0 f1 f2, fs = [f0, f1, f2] := by
  have hl := congrArg List.length hf
  simp only [List.length_map, List.length_cons, List.length_nil] at hl
  rcases fs with _ | ⟨f0, fs⟩
  ·simp at hl
  rcases fs with _ | ⟨f1, fs⟩
  ·simp at hl
  rcases fs with _ | ⟨f2, fs⟩
  ·simp at hl
  rcases fs with _ | ⟨f3, fs⟩
  ·exact ⟨f0, f1, f2, rfl⟩
  ·simp at hl
 simp only [List.map_cons, List.map_nil, List.cons.injEq, Prod.mk.injEq, and_true, bne_iff_ne, ne_eq] at hf
 obtain ⟨⟨n0, t0, o0⟩, ⟨n1, t1, o1⟩, n2, t2, o2⟩ := hf
 have q0 := run_equalIn_int (P := Tryz.prog) w 9998 3 .i64 _ a.p b.p Tryz.underlying3
 have q1 := run_equalIn_int (P := Tryz.prog) w 9998 3 .i64 _ a.r b.r Tryz.underlying3
 have q2 := run_equalIn_bool' (P := Tryz.prog) w 9998 4 a.m b.m Tryz.underlying4
 simp only [Nat.reduceAdd] at q0 q1 q2
 have e2 : (Op.eqFields 9999 (clC a).toArray (clC b).toArray [f2]).run Tryz.prog w = .ok (a.m == b.m) w := by
  simp only [Op.eqFields, n2, t2, o2, not_false_eq_true, ne_eq, if_true, Sem.run_bind, cl_part2, Result.andThen_ok, q2]
  cases a.m == b.m <;> rfl
 have e1 : (Op.eqFields 9999 (clC a).toArray (clC b).toArray [f1, f2]).run Tryz.prog w = .ok (a.r == b.r && (a.m == b.m)) w := by
  rw [Op.eqFields]
  simp only [n1, t1, o1, not_false_eq_true, ne_eq, if_true, Sem.run_bind, cl_part1, Result.andThen_ok, q1]
  cases a.r == b.r
  ·rfl
  ·exact e2
 have e0 : (Op.eqFields 9999 (clC a).toArray (clC b).toArray [f0, f1, f2]).run Tryz.prog w = .ok (a.p == b.p && (a.r == b.r && (a.m == b.m))) w := by
  rw [Op.eqFields]
  simp only [n0, t0, o0, not_false_eq_true, ne_eq, if_true, Sem.run_bind, cl_part0, Result.andThen_ok, q0]
  cases a.p == b.p
  ·rfl
  ·exact e1
 exact e0
theorem eql_cl (a b : Cl) (w : World) : (binOp .eql 56 (clV a) (clV b)).run Tryz.prog w = .ok (.bool ((clEq a b))) w := by
 have := equal_cl a b w
 unfold clV at this ⊢
 rw [run_eql_struct, this]; rfl
theorem guard_cl (op : BinOp) (x y : Operand) (a b : Cl) (w : World) : (eqGuard op 56 x y (clV a) (clV b)).run Tryz.prog w = .ok () w := by
 unfold clV
 exact run_eqGuard_agg w op _ x y _ _ (by kernel_rfl)
theorem wpList_eql_cl {w : World} {ops : Array Oper} {rest : List Oper} {o : Oper} {a : Act} {Q : Exit → Act → World → Prop} (hg : o.guard = none) (x y : Operand) (t : TypeId)
  (ho : o.op = .binOp .eql 56 x y t) (m n : Cl) (hx : a.eval x = clV m) (hy : a.eval y = clV n)
  (h : wpList Tryz.prog ops Q rest (a.put o.dst (.bool ((clEq m n)))) w) : wpList Tryz.prog ops Q (o :: rest) a w :=
 wpList_plain hg fun _ hK => by
  unfold Oper.wp execOp
  simp only [ho, hx, hy, Sem.run_bind, guard_cl, eql_cl m n, Result.andThen_ok]
  exact hK _ _ h
def exS : List Nat := 7 :: List.replicate 31 0
def exT : Tr := ⟨0, 5, 1, 8, [⟨3, 1, 6, 4, 0⟩, ⟨2, 2, 9, 10, 0⟩], [⟨4, 1, true⟩], exS⟩
theorem exS_ok : DgOk exS := ⟨rfl, fun x hx => by
 rcases List.mem_cons.1 hx with e | hx
 ·omega
 ·have := List.eq_of_mem_replicate hx; omega⟩
theorem built_exS : Tryz.prog.built 25 [(0, .int .u8 7)] = some (dgC exS).toArray := by kernel_rfl
theorem built_exT (p : TrP) : Tryz.prog.built 27 [(1, .int .i64 5), (2, .int .i64 1), (3, .int .i64 8), (4, .slice p.A p.n p.c), (5, .slice p.A2 p.n2 p.c2), (6, dgV exS)] = some (trC exT p).toArray := by kernel_rfl
theorem wpList_build_exS {w : World} {ops : Array Oper} {rest : List Oper} {o : Oper} {a : Act} {Q : Exit → Act → World → Prop} (hg : o.guard = none)
  (ho : o.op = .build 25 #[(0, .const (.int .u8 7))])
  (h : wpList Tryz.prog ops Q rest (a.put o.dst (dgV exS)) w) : wpList Tryz.prog ops Q (o :: rest) a w := by
 have e1 : (#[(0, Operand.const (.int .u8 7))].map fun (i, x) => (i, a.eval x)).toList = [(0, .int .u8 7)] := by
  have hc : ∀ v, a.eval (.const v) = v := fun _ => rfl
  simp [hc]
 refine wpList_build hg 25 _ ho (by rw [e1, built_exS]; rfl) ?_
 rw [e1, built_exS]
 exact h
theorem wpList_build_exT {w : World} {ops : Array Oper} {rest : List Oper} {o : Oper} {a : Act} {Q : Exit → Act → World → Prop} (hg : o.guard = none) (u4 u5 u6 : Operand)
  (ho : o.op = .build 27 #[(1, .const (.int .i64 5)), (2, .const (.int .i64 1)), (3, .const (.int .i64 8)), (4, u4), (5, u5), (6, u6)]) (p : TrP)
  (h4 : a.eval u4 = .slice p.A p.n p.c) (h5 : a.eval u5 = .slice p.A2 p.n2 p.c2) (h6 : a.eval u6 = dgV exS)
  (h : wpList Tryz.prog ops Q rest (a.put o.dst (.agg (trC exT p).toArray)) w) : wpList Tryz.prog ops Q (o :: rest) a w := by
 have e1 : (#[(1, Operand.const (.int .i64 5)), (2, Operand.const (.int .i64 1)), (3, Operand.const (.int .i64 8)), (4, u4), (5, u5), (6, u6)].map fun (i, x) => (i, a.eval x)).toList = [(1, .int .i64 5), (2, .int .i64 1), (3, .int .i64 8), (4, .slice p.A p.n p.c), (5, .slice p.A2 p.n2 p.c2), (6, dgV exS)] := by
  have hc : ∀ v, a.eval (.const v) = v := fun _ => rfl
  simp [h4, h5, h6, hc]
 refine wpList_build hg 27 _ ho (by rw [e1, built_exT]; rfl) ?_
 rw [e1, built_exT]
 exact h
theorem trC_one (t : Tr) (p : TrP) : (trC t p).toArray.all (·.oneCell') = true := by
 rw [Array.all_eq_true_iff_forall_mem]
 intro v hv
 have hv' : v ∈ trC t p := by simpa using hv
 unfold trC at hv'
 rcases List.mem_append.1 hv' with h | h
 ·simp only [List.mem_cons, List.not_mem_nil, or_false] at h
  rcases h with rfl | rfl | rfl | rfl | rfl | rfl <;> rfl
 ·obtain ⟨x, _, rfl⟩ := List.mem_map.1 h
  rfl
theorem example_any (w : World) :
  Calls Tryz.prog 39 #[] w fun e w' => ∃ p : TrP, e = .returned (trV exT p) ∧ TrOk w' exT p ∧ Below w.heap.size w w' := by
 obtain ⟨p, HP⟩ : ∃ p : TrP, Hid (p = ⟨some ⟨w.heap.size + 1, 0, none⟩, 2, 2, some ⟨w.heap.size + 1 + 1, 0, none⟩, 1, 1⟩) := ⟨_, Lib.hid rfl⟩
 have h1 := heap_alloc_new (w.alloc (.cells #[.int .i64 0, .int .i64 0, .int .i64 0, .int .i64 0, .slice none 0 0, .slice none 0 0, .int .u8 0, .int .u8 0, .int .u8 0, .int .u8 0, .int .u8 0, .int .u8 0, .int .u8 0, .int .u8 0, .int .u8 0, .int .u8 0, .int .u8 0, .int .u8 0, .int .u8 0, .int .u8 0, .int .u8 0, .int .u8 0, .int .u8 0, .int .u8 0, .int .u8 0, .int .u8 0, .int .u8 0, .int .u8 0, .int .u8 0, .int .u8 0, .int .u8 0, .int .u8 0, .int .u8 0, .int .u8 0, .int .u8 0, .int .u8 0, .int .u8 0, .int .u8 0] 27)) (.cells #[.int .i64 3, .int .i64 1, .int .i64 6, .int .i64 4, .int .i64 0, .int .i64 2, .int .i64 2, .int .i64 9, .int .i64 10, .int .i64 0] 45)
 have h2 := heap_alloc_new ((w.alloc (.cells #[.int .i64 0, .int .i64 0, .int .i64 0, .int .i64 0, .slice none 0 0, .slice none 0 0, .int .u8 0, .int .u8 0, .int .u8 0, .int .u8 0, .int .u8 0, .int .u8 0, .int .u8 0, .int .u8 0, .int .u8 0, .int .u8 0, .int .u8 0, .int .u8 0, .int .u8 0, .int .u8 0, .int .u8 0, .int .u8 0, .int .u8 0, .int .u8 0, .int .u8 0, .int .u8 0, .int .u8 0, .int .u8 0, .int .u8 0, .int .u8 0, .int .u8 0, .int .u8 0, .int .u8 0, .int .u8 0, .int .u8 0, .int .u8 0, .int .u8 0, .int .u8 0] 27)).alloc (.cells #[.int .i64 3, .int .i64 1, .int .i64 6, .int .i64 4, .int .i64 0, .int .i64 2, .int .i64 2, .int .i64 9, .int .i64 10, .int .i64 0] 45)) (.cells #[.int .i64 4, .int .i64 1, .bool true] 56)
 have h0 := heap_alloc_new w (.cells #[.int .i64 0, .int .i64 0, .int .i64 0, .int .i64 0, .slice none 0 0, .slice none 0 0, .int .u8 0, .int .u8 0, .int .u8 0, .int .u8 0, .int .u8 0, .int .u8 0, .int .u8 0, .int .u8 0, .int .u8 0, .int .u8 0, .int .u8 0, .int .u8 0, .int .u8 0, .int .u8 0, .int .u8 0, .int .u8 0, .int .u8 0, .int .u8 0, .int .u8 0, .int .u8 0, .int .u8 0, .int .u8 0, .int .u8 0, .int .u8 0, .int .u8 0, .int .u8 0, .int .u8 0, .int .u8 0, .int .u8 0, .int .u8 0, .int .u8 0, .int .u8 0] 27)
 rw [World.size_alloc] at h1
 rw [World.size_alloc, World.size_alloc] at h2
 have b2 := (Below.refl _ ((w.alloc (.cells #[.int .i64 0, .int .i64 0, .int .i64 0, .int .i64 0, .slice none 0 0, .slice none 0 0, .int .u8 0, .int .u8 0, .int .u8 0, .int .u8 0, .int .u8 0, .int .u8 0, .int .u8 0, .int .u8 0, .int .u8 0, .int .u8 0, .int .u8 0, .int .u8 0, .int .u8 0, .int .u8 0, .int .u8 0, .int .u8 0, .int .u8 0, .int .u8 0, .int .u8 0, .int .u8 0, .int .u8 0, .int .u8 0, .int .u8 0, .int .u8 0, .int .u8 0, .int .u8 0, .int .u8 0, .int .u8 0, .int .u8 0, .int .u8 0, .int .u8 0, .int .u8 0] 27)).alloc (.cells #[.int .i64 3, .int .i64 1, .int .i64 6, .int .i64 4, .int .i64 0, .int .i64 2, .int .i64 2, .int .i64 9, .int .i64 10, .int .i64 0] 45))).alloc (Nat.le_refl _) (.cells #[.int .i64 4, .int .i64 1, .bool true] 56)
 have b1 := (Below.refl _ (w.alloc (.cells #[.int .i64 0, .int .i64 0, .int .i64 0, .int .i64 0, .slice none 0 0, .slice none 0 0, .int .u8 0, .int .u8 0, .int .u8 0, .int .u8 0, .int .u8 0, .int .u8 0, .int .u8 0, .int .u8 0, .int .u8 0, .int .u8 0, .int .u8 0, .int .u8 0, .int .u8 0, .int .u8 0, .int .u8 0, .int .u8 0, .int .u8 0, .int .u8 0, .int .u8 0, .int .u8 0, .int .u8 0, .int .u8 0, .int .u8 0, .int .u8 0, .int .u8 0, .int .u8 0, .int .u8 0, .int .u8 0, .int .u8 0, .int .u8 0, .int .u8 0, .int .u8 0] 27))).alloc (Nat.le_refl _) (.cells #[.int .i64 3, .int .i64 1, .int .i64 6, .int .i64 4, .int .i64 0, .int .i64 2, .int .i64 2, .int .i64 9, .int .i64 10, .int .i64 0] 45)
 have b0 := (Below.refl _ w).alloc (Nat.le_refl _) (.cells #[.int .i64 0, .int .i64 0, .int .i64 0, .int .i64 0, .slice none 0 0, .slice none 0 0, .int .u8 0, .int .u8 0, .int .u8 0, .int .u8 0, .int .u8 0, .int .u8 0, .int .u8 0, .int .u8 0, .int .u8 0, .int .u8 0, .int .u8 0, .int .u8 0, .int .u8 0, .int .u8 0, .int .u8 0, .int .u8 0, .int .u8 0, .int .u8 0, .int .u8 0, .int .u8 0, .int .u8 0, .int .u8 0, .int .u8 0, .int .u8 0, .int .u8 0, .int .u8 0, .int .u8 0, .int .u8 0, .int .u8 0, .int .u8 0, .int .u8 0, .int .u8 0] 27)
 have HR0 := Lib.hid (row_kept (row_kept h0 b1) b2)
 have HR1 := Lib.hid (row_kept h1 b2)
 have HR2 := Lib.hid h2
 have HB := Lib.hid ((b0.trans (b1.mono b0.size)).trans (b2.mono (Nat.le_trans b0.size b1.size)))
 clear h0 h1 h2 b0 b1 b2
 have HN1 : Hid ((Tryz.prog.info? 27).map (·.size) = some (trC exT p).toArray.size) := Lib.hid (trV_info exT p rfl)
 have hN2 : (trC exT p).toArray.size = 38 := by simp [trC, exT, exS]
 have HN2 := Lib.hid hN2
 clear hN2
 go_enter Tryz.func39, Tryz.ntmps39
 go_wp2_with (first | (refine wpList_build_exS rfl rfl ?_) | (refine wpList_build_exT rfl (.tmp 3) (.tmp 5) (.tmp 6) rfl p (by rw [HP.out]; rfl) (by rw [HP.out]; rfl) rfl ?_) | (refine wpList_store_row rfl 27 (.tmp 0) (.tmp 7) rfl w.heap.size (trC exT p).toArray rfl rfl 27 _ HR0.out HN1.out HN2.out.symm (trC_one _ _) ?_))
 refine bodyPost_ret (results_cell_row rfl _ _ w.heap.size 27 _ (0, 0) _ rfl (setRow_heap _ w.heap.size _ _ _ _ HR0.out) Tryz.underlying27 rfl HN1.out) rfl ?_
 refine ⟨p, rfl, ?_, below_setRow HB.out (Nat.le_refl _) _⟩
 have hr1 := (setRow_other _ w.heap.size (w.heap.size + 1) (trC exT p).toArray (by omega)).trans HR1.out
 have hr2 := (setRow_other _ w.heap.size (w.heap.size + 1 + 1) (trC exT p).toArray (by omega)).trans HR2.out
 have hm : (2 : Nat) ≤ maxLen := by unfold maxLen; omega
 have g1 := (Array.getElem?_eq_some_iff.1 hr1).1
 have g2 := (Array.getElem?_eq_some_iff.1 hr2).1
 have q1 := range_row (cs := exT.ln.flatMap lnC) hr1
 have q2 := range_row (cs := exT.cl.flatMap clC) hr2
 generalize World.setRow _ _ _ = W4 at *
 have iI : ∀ z : Int, -100 ≤ z → z ≤ 100 → I64 z := fun z h1 h2 => by unfold I64; omega
 obtain rfl := HP.out
 exact ⟨iI _ (by decide) (by decide), iI _ (by decide) (by decide), iI _ (by decide) (by decide), iI _ (by decide) (by decide), ⟨rfl, Nat.le_refl _, (fun e => by cases e), (fun x hx => by
  simp only [exT, List.mem_cons, List.not_mem_nil, or_false] at hx
  rcases hx with rfl | rfl <;> exact ⟨iI _ (by decide) (by decide), iI _ (by decide) (by decide), iI _ (by decide) (by decide), iI _ (by decide) (by decide), iI _ (by decide) (by decide)⟩), fun _ => ⟨_, 0, rfl, g1, q1⟩⟩, ⟨rfl, Nat.le_refl _, (fun e => by cases e), (fun x hx => by
  simp only [exT, List.mem_cons, List.not_mem_nil, or_false] at hx
  subst hx
  exact ⟨iI _ (by decide) (by decide), iI _ (by decide) (by decide)⟩), fun _ => ⟨_, 0, rfl, g2, q2⟩⟩, exS_ok.len, exS_ok.bytes, hm, Nat.le_trans (show (1 : Nat) ≤ 2 by decide) hm⟩
def wLiL (W0 : World) (bt : Nat) (br : Nat) (t : Tr) (p : TrP) (P : List Dg) (d : List Nat) : Nat → Value → World → Prop
 | 0, fv, _ => fv = .agg tabL
 | 1, fv, _ => fv = .pointer (some { block := bt, off := 6 })
 | 2, fv, _ => fv = dgV t.salt
 | 3, fv, _ => fv = .pointer (some { block := bt, off := 4 })
 | 4, fv, _ => fv = .slice p.A p.n p.c
 | 5, fv, fw => ∃ A' n' c', fv = .slice A' n' c' ∧ InD fw A' n' c' P
 | 6, fv, _ => fv = dgV d
 | 7, fv, fw => fw.heap[br]? = some (.cells (dgC d).toArray 25 (0, 0)) ∧ Below W0.heap.size W0 fw
 | 8, fv, _ => fv = .int .i64 0
 | _, _, _ => True
theorem wLiL_below {W0 : World} {bt : Nat} {br : Nat} {t : Tr} {p : TrP} {P : List Dg} {d : List Nat} {w w' : World} (hb : Below w.heap.size w w') : ∀ j v, wLiL W0 bt br t p P d j v w → wLiL W0 bt br t p P d j v w'
 | 0, v, h => h
 | 1, v, h => h
 | 2, v, h => h
 | 3, v, h => h
 | 4, v, h => h
 | 5, v, ⟨A', n', c', h1, h2⟩ => ⟨A', n', c', h1, h2.below hb⟩
 | 6, v, h => h
 | 7, v, h => ⟨row_kept h.1 hb, h.2.trans (hb.mono h.2.size)⟩
 | 8, v, h => h
 | n + 9, v, h => trivial
theorem wLiL_pure {W0 : World} {bt : Nat} {br : Nat} {t : Tr} {p : TrP} {P : List Dg} {d : List Nat} {w w' : World} : ∀ j v, j ≠ 5 → j ≠ 7 → wLiL W0 bt br t p P d j v w → wLiL W0 bt br t p P d j v w'
 | 0, v, _, _, h => h
 | 1, v, _, _, h => h
 | 2, v, _, _, h => h
 | 3, v, _, _, h => h
 | 4, v, _, _, h => h
 | 5, v, hh, _, _ => absurd rfl hh
 | 6, v, _, _, h => h
 | 7, v, _, hh, _ => absurd rfl hh
 | 8, v, _, _, h => h
 | n + 9, v, _, _, h => trivial
/-- the digest of a list -/
def lstL (t : Tr) : Dg := if trG t then treeD (t.ln.map (lvL t.salt)) else zeroD
theorem lstL_ok (t : Tr) : DgOk (lstL t) := by
 unfold lstL
 split
 ·exact treeD_okD _
 ·exact zeroD_ok
theorem lstL_no (t : Tr) (p : TrP) (w : World) (h : Hid (TrOk w t p)) (hT : Hid (Tabs w)) (hg : Hid (trG t = false)) :
  Calls Tryz.prog 12 #[trV t p] w fun e w' => e = .returned (.tuple #[dgV (lstL t), .int .i64 (trE t)]) ∧ Below w.heap.size w w' := by
 have HE : Hid (lstL t = zeroD ∧ trE t = 420) := Lib.hid ⟨by unfold lstL; rw [hg.out]; rfl, trE_no hg.out⟩
 have HSZD := Lib.hid (dgC_info zeroD_ok)
 have HSZ2 := Lib.hid (dgC_size zeroD_ok)
 have hb0 := ((Below.refl _ w).alloc (Nat.le_refl _) (.cells (trC t p).toArray 27)).alloc (by simp) (.cells (dgC zeroD).toArray 25)
 have hr0 := (Below.heap_alloc (w.alloc (.cells (trC t p).toArray 27)) (.cells (dgC zeroD).toArray 25) w.heap.size (by simp)).trans (heap_alloc_new w (.cells (trC t p).toArray 27))
 have hr1 := heap_alloc_new (w.alloc (.cells (trC t p).toArray 27)) (.cells (dgC zeroD).toArray 25)
 rw [World.size_alloc] at hr1
 have HO1 := Lib.hid (h.out.below hb0)
 have hT1 := Lib.hid (hT.out.below hb0)
 rw [zeroD_cells] at hb0 hr0 HO1 hT1
 conv at hr1 => lhs; rw [zeroD_cells]
 have HB0 := Lib.hid hb0
 have HR0 := Lib.hid hr0
 have HR1 := Lib.hid hr1
 have HIT := Lib.hid (trV_info t p h.out.len)
 clear hb0 hr0 hr1
 rw [show trV t p = .agg (trC t p).toArray from rfl]
 go_enter Tryz.func12, Tryz.ntmps12
 go_wp2_with (refine wpList_load_row rfl 27 (.tmp 1) rfl w.heap.size rfl 27 _ (0, 0) _ HR0.out Tryz.underlying27 rfl HIT.out ?_)
 rw [show Value.agg (trC t p).toArray = trV t p from rfl]
 refine (check_any t p _ HO1).mono ?_
 rintro e w1 ⟨rfl, hq1⟩
 have HB1 := Lib.hid (HB0.out.trans (hq1.mono HB0.out.size))
 have HR2 := Lib.hid (row_kept HR0.out hq1)
 have HR3 := Lib.hid (row_kept HR1.out hq1)
 have HO2 := Lib.hid (HO1.out.below hq1)
 have hT2 := Lib.hid (hT1.out.below hq1)
 clear hq1 HR0 HR1 HO1 hT1 HB0
 rw [HE.out.2]
 go_wp2_with (first | (refine wpList_load_row rfl 25 (.tmp 2) rfl (w.heap.size + 1) rfl 25 _ (0, 0) _ HR3.out Tryz.underlying25 rfl HSZD.out ?_) | (refine wpList_store_row rfl 25 (.tmp 2) (.tmp 9) rfl (w.heap.size + 1) (dgC zeroD).toArray ?ha ?hb 25 _ HR3.out HSZD.out HSZ2.out (dgC_one zeroD) ?_))
 all_goals first | rfl | skip
 have hr := setRow_heap w1 (w.heap.size + 1) _ (dgC zeroD).toArray _ _ HR3.out
 have hl := run_loadVar_row (P := Tryz.prog) (World.setRow w1 (w.heap.size + 1) (dgC zeroD).toArray) (w.heap.size + 1) 25 25 (dgC zeroD).toArray (0, 0) _ hr Tryz.underlying25 rfl HSZD.out
 refine bodyPost_ret (v := .tuple #[dgV zeroD, .int .i64 420]) ?_ rfl ⟨by rw [HE.out.1, HE.out.2], below_setRow HB1.out (Nat.le_succ _) _⟩
 rw [dgV_agg zeroD]
 simp [results, Tryz.results12, asAddr, hl]
theorem lstL_yes (t : Tr) (p : TrP) (w : World) (h : Hid (TrOk w t p)) (hT : Hid (Tabs w)) (hg : Hid (trG t = true)) :
  Calls Tryz.prog 12 #[trV t p] w fun e w' => e = .returned (.tuple #[dgV (lstL t), .int .i64 (trE t)]) ∧ Below w.heap.size w w' := by
 obtain ⟨d, HD⟩ : ∃ d, Hid (treeD (t.ln.map (lvL t.salt)) = d) := ⟨_, Lib.hid rfl⟩
 obtain ⟨P, HP⟩ : ∃ P, Hid (t.ln.map (lvL t.salt) = P) := ⟨_, Lib.hid rfl⟩
 have HE : Hid (lstL t = d ∧ trE t = 0) := Lib.hid ⟨by unfold lstL; rw [hg.out, ← HD.out]; rfl, trE_yes hg.out⟩
 have HDO : Hid (DgOk d) := Lib.hid (by rw [← HD.out]; exact treeD_okD _)
 have HS1 := Lib.hid (dgC_info HDO.out)
 have HS2 := Lib.hid (dgC_size HDO.out)
 have HSO : Hid (DgOk t.salt) := Lib.hid ⟨h.out.len, h.out.bytes⟩
 have HSK := Lib.hid (dgC_infoK HSO.out)
 have HNL : Hid (p.n ≤ 100000) := Lib.hid (by have := trG_lns hg.out; have e := h.out.ln.len; omega)
 have HPN : Hid (P.length ≤ 100000) := Lib.hid (by rw [← HP.out, List.length_map]; exact trG_lns hg.out)
 rw [HP.out] at HD
 have hb0 := ((Below.refl _ w).alloc (Nat.le_refl _) (.cells (trC t p).toArray 27)).alloc (by simp) (.cells (dgC zeroD).toArray 25)
 have hr0 := (Below.heap_alloc (w.alloc (.cells (trC t p).toArray 27)) (.cells (dgC zeroD).toArray 25) w.heap.size (by simp)).trans (heap_alloc_new w (.cells (trC t p).toArray 27))
 have hr1 := heap_alloc_new (w.alloc (.cells (trC t p).toArray 27)) (.cells (dgC zeroD).toArray 25)
 rw [World.size_alloc] at hr1
 have HO1 := Lib.hid (h.out.below hb0)
 have hT1 := Lib.hid (hT.out.below hb0)
 rw [zeroD_cells] at hb0 hr0 HO1 hT1
 conv at hr1 => lhs; rw [zeroD_cells]
 have HB0 := Lib.hid hb0
 have HR0 := Lib.hid hr0
 have HR1 := Lib.hid hr1
 have HIT := Lib.hid (trV_info t p h.out.len)
 clear hb0 hr0 hr1
 rw [show trV t p = .agg (trC t p).toArray from rfl]
 go_enter Tryz.func12, Tryz.ntmps12
 go_wp2_with (refine wpList_load_row rfl 27 (.tmp 1) rfl w.heap.size rfl 27 _ (0, 0) _ HR0.out Tryz.underlying27 rfl HIT.out ?_)
 rw [show Value.agg (trC t p).toArray = trV t p from rfl]
 refine (check_any t p _ HO1).mono ?_
 rintro e w1 ⟨rfl, hq1⟩
 have HB1 := Lib.hid (HB0.out.trans (hq1.mono HB0.out.size))
 have HR2 := Lib.hid (row_kept HR0.out hq1)
 have HR3 := Lib.hid (row_kept HR1.out hq1)
 have HO2 := Lib.hid (HO1.out.below hq1)
 have hT2 := Lib.hid (hT1.out.below hq1)
 clear hq1 HR0 HR1 HO1 hT1 HB0
 rw [HE.out.2]
 go_wp2_with fail
 obtain ⟨W1, hW1⟩ : ∃ W, W = w1 := ⟨_, rfl⟩
 subst hW1
 refine region_flow4 (by kernel_rfl) (by kernel_rfl) (fun i => Nat.beq i 7 || Nat.beq i 8) (fun i => i) (by kernel_rfl) (fun fx => #[trV t p, .pointer (some { block := w.heap.size, off := 0 }), .pointer (some { block := w.heap.size + 1, off := 0 }), fx 8, .int IntKind.i64 0, trV t p, .int IntKind.i64 0, .int IntKind.i64 0, .bool false, undef, undef, fx 0, fx 1, fx 2, fx 3, fx 4, fx 5, fx 6]) (fun i => bif Nat.beq i 8 then Value.int IntKind.i64 0 else undef) (fun L fx w' => (L 7 = false → Below W1.heap.size W1 w')) (fun fi fv _ fw => wLiL w w.heap.size (w.heap.size + 1) t p P d fi fv fw) (fun _ => (Below.refl _ _).drew) ?_ ?_
 ·refine ⟨?_, ?_, ?_, ?_, ?_, ?_, ?_, ?_, ?_, trivial⟩
  all_goals intro L fx w' hC hi hcl hdn hd
  ·have hnd : L 7 = false := Bool.eq_false_iff.2 (fun h => by have := hcl 7 0 h (by kernel_rfl); rw [hi] at this; cases this)
   have hb12 := hC hnd
   go_wp2_with fail
   refine (lines_any w').mono ?_
   rintro e w2 ⟨rfl, hq⟩
   go_wp2_with fail
   exact ⟨_, rfl, fun _ => hb12.trans (hq.mono hb12.size), rfl, fun j v t _ _ h => wLiL_below hq j v h⟩
  ·have hnd : L 7 = false := Bool.eq_false_iff.2 (fun h => by have := hcl 7 1 h (by kernel_rfl); rw [hi] at this; cases this)
   go_wp2_with fail
   exact ⟨_, rfl, (fun _ => hC hnd), rfl, kP⟩
  ·have h1 : fx 1 = .pointer (some { block := w.heap.size, off := 6 }) := hd.1 rfl
   have hnd : L 7 = false := Bool.eq_false_iff.2 (fun h => by have := hcl 7 2 h (by kernel_rfl); rw [hi] at this; cases this)
   have hrow := tr_salt (row_kept HR2.out (hC hnd))
   refine wpList_load_mid rfl 25 (.tmp 12) rfl w.heap.size 6 h1 (dgC t.salt) _ hrow Tryz.underlying25 rfl HSK.out ?_
   clear hd
   go_wp2_with fail
   exact ⟨_, by simp only [upd, h1]; rfl, fun _ => hC hnd, rfl, kP⟩
  ·have hnd : L 7 = false := Bool.eq_false_iff.2 (fun h => by have := hcl 7 3 h (by kernel_rfl); rw [hi] at this; cases this)
   go_wp2_with fail
   exact ⟨_, rfl, (fun _ => hC hnd), rfl, kP⟩
  ·have h3 : fx 3 = .pointer (some { block := w.heap.size, off := 4 }) := hd.1 rfl
   have hnd : L 7 = false := Bool.eq_false_iff.2 (fun h => by have := hcl 7 4 h (by kernel_rfl); rw [hi] at this; cases this)
   have hcc : w'.cell? ⟨w.heap.size, 4, none⟩ = some (.slice p.A p.n p.c) := by rw [cell_of_row _ _ _ _ _ _ (row_kept HR2.out (hC hnd))]; rfl
   go_wp2_with fail
   exact ⟨_, by simp only [upd, h3]; rfl, (fun _ => hC hnd), rfl, kP⟩
  ·have h0 : fx 0 = .agg tabL := hd.1 rfl
   have h2 : fx 2 = dgV t.salt := hd.2.1 rfl
   have h4 : fx 4 = .slice p.A p.n p.c := hd.2.2.1 rfl
   have hnd : L 7 = false := Bool.eq_false_iff.2 (fun h => by have := hcl 7 5 h (by kernel_rfl); rw [hi] at this; cases this)
   have hb12 := hC hnd
   have HIK := Lib.hid (HO2.out.ln.below hb12)
   have HTK := Lib.hid (hT2.out.below hb12)
   go_wp2_with fail
   refine (leavesL t.salt t.ln p.A p.n p.c w' HNL.out HSO HIK HTK).mono ?_
   rintro e w2 ⟨A', n', c', rfl, hin, hq⟩
   rw [HP.out] at hin
   go_wp2_with fail
   exact ⟨Value.slice A' n' c', by simp only [upd, h0, h2, h4]; rfl, fun _ => hb12.trans (hq.mono hb12.size), ⟨_, _, _, rfl, hin⟩, fun j v t _ _ h => wLiL_below hq j v h⟩
  ·have H5 := Lib.hid (hd.1 rfl)
   have hnd : L 7 = false := Bool.eq_false_iff.2 (fun h => by have := hcl 7 6 h (by kernel_rfl); rw [hi] at this; cases this)
   have hb12 := hC hnd
   obtain ⟨A', n', c', h5, hin⟩ := H5.out
   have HIN := Lib.hid hin
   have hnn : n' ≤ 1099511627776 := by have e := hin.len; have := HPN.out; omega
   clear hin
   have HTK := Lib.hid (hT2.out.below hb12)
   go_wp2_with fail
   refine (dtree_any n' P A' n' c' w' (Nat.le_refl _) hnn HIN HTK).mono ?_
   rintro e w2 ⟨rfl, hq⟩
   rw [HD.out]
   go_wp2_with fail
   exact ⟨_, by first | rfl | (rw [← h5]; rfl), fun _ => hb12.trans (hq.mono hb12.size), rfl, fun j v t _ _ h => wLiL_below hq j v h⟩
  ·have h6 : fx 6 = dgV d := hd.1 rfl
   have hb21 := hC hi
   have hrow := row_kept HR3.out hb21
   refine wpList_store_row rfl 25 (.tmp 2) (.tmp 17) rfl (w.heap.size + 1) (dgC d).toArray rfl h6 25 _ hrow HS1.out HS2.out (dgC_one _) ?_
   clear hd
   go_wp2_with fail
   refine ⟨undef, by rw [← h6]; rfl, fun h => (updB_self h).elim, ⟨setRow_heap _ _ _ _ _ _ hrow, below_setRow (HB1.out.trans (hb21.mono HB1.out.size)) (by omega) _⟩, fun j v t hj hu h => ?_⟩
   refine wLiL_pure j v ?_ ?_ h <;> intro e <;> subst e
   ·refine absurd hu (not_needed (E := fun i => Nat.beq i 7 || Nat.beq i 8) (j := 5) [6] (by kernel_rfl) (by kernel_rfl) ?_)
    intro m hm hne; simp at hm; subst hm; exact hdn 6 (by kernel_rfl)
   ·rw [hi] at hj; cases hj
  ·go_wp2_with fail
   exact ⟨_, rfl, fun h => hC h, rfl, kP⟩
 ·intro L fo w' hC hS
  have H7 := Lib.hid (hS 7 (by decide) rfl)
  have H8 := Lib.hid (hS 8 (by decide) rfl)
  have h8 : fo 8 = .int .i64 0 := H8.out
  rw [h8]
  clear hS hC h8 H8
  go_wp2_with fail
  have hl := run_loadVar_row (P := Tryz.prog) w' (w.heap.size + 1) 25 25 (dgC d).toArray (0, 0) _ H7.out.1 Tryz.underlying25 rfl HS1.out
  refine bodyPost_ret (v := .tuple #[dgV d, .int .i64 0]) ?_ rfl ⟨by rw [HE.out.1, HE.out.2], H7.out.2⟩
  rw [dgV_agg d]
  simp [results, Tryz.results12, asAddr, hl]
theorem lstL_any (t : Tr) (p : TrP) (w : World) (h : Hid (TrOk w t p)) (hT : Hid (Tabs w)) :
  Calls Tryz.prog 12 #[trV t p] w fun e w' => e = .returned (.tuple #[dgV (lstL t), .int .i64 (trE t)]) ∧ Below w.heap.size w w' := by
 by_cases hg : trG t = true
 ·exact lstL_yes t p w h hT (Lib.hid hg)
 ·exact lstL_no t p w h hT (Lib.hid (by simpa using hg))
end Go.Proofs.YtmfmgeapecapiaaGreatDoor
