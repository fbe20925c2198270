/- sizar/sums.Verify: the deferred closure. Roots; lines and claims that are shown. sizar/sums.Verify. sizar/sums.Verify in one law. the nodes of a valid transcript are valid. sizar/sums.Show in one law. Parts that are shown are accepted, and lead to the sums of the lines: plain. sizarlaw42.example. sizarlaw42.root. -/
import Derived.Test.YtmfmgeapecapiaaGreatDoorVS10
import Derived.Test.YtmfmgeapecapiaaGreatDoorVS7
import Derived.Test.YtmfmgeapecapiaaGreatDoorVS5
import Derived.Deep.MidRow
set_option maxHeartbeats 64000001
open Go.Lib (hid)
namespace Go.Proofs.YtmfmgeapecapiaaGreatDoor
open Go.RowKit Go.Shelf SzSha SzTree
set_option linter.unusedVariables false
set_option maxRecDepth 100000
theorem ver1_idle (bc bp be : Nat) (w : World) (n : Nat) :
  CallsDIn Fence.wide n Tryz.prog 82 #[.pointer (some ⟨bc, 0, none⟩), .pointer (some ⟨bp, 0, none⟩), .pointer (some ⟨be, 0, none⟩)] .returning w fun e u' w' => e = .returned (.tuple #[]) ∧ u' = .returning ∧ w' = w := by
 refine callsDW_of_wpS Tryz.func82 rfl fun c₀ cs hu => ?_
 refine wpS_seq ?_
 apply wpS_region
 simp [wpOpsS, go_sem, recoverD, hu, Tryz.ntmps82]
 refine wpS_of_wp ?_
 go_wp2_with fail
 refine ⟨rfl, .returning, by cases c₀; simp_all, .tuple #[], ?_, rfl, rfl, rfl⟩
 simp [results, Tryz.results82]
theorem ver1_panic (bc bp be : Nat) (z c p z0 : Int) (w : World) (hc : w.heap[bc]? = some (.cells #[.int .i64 c] 3 (0, 0))) (hp : w.heap[bp]? = some (.cells #[.int .i64 p] 3 (0, 0))) (he : w.heap[be]? = some (.cells #[.int .i64 z0] 31 (0, 0))) (h1 : bc ≠ bp) (h2 : bc ≠ be) (h3 : bp ≠ be) (n : Nat) :
  CallsDIn Fence.wide n Tryz.prog 82 #[.pointer (some ⟨bc, 0, none⟩), .pointer (some ⟨bp, 0, none⟩), .pointer (some ⟨be, 0, none⟩)] (.panicking [{ v := .iface 160 (.agg #[.int .i64 z]), recovered := false }]) w fun e u' w' => e = .returned (.tuple #[]) ∧ u' = .panicking [{ v := .iface 160 (.agg #[.int .i64 z]), recovered := true }] ∧ w' = (((w.setCell ⟨bc, 0, none⟩ (.int .i64 0)).setCell ⟨bp, 0, none⟩ (.int .i64 0)).setCell ⟨be, 0, none⟩ (.int .i64 z)).alloc (.cells #[.int .i64 z] 160) := by
 obtain ⟨a1, a2, a3⟩ := set_one (v := .int .i64 0) hc
 have hp1 := (a2 bp h1.symm).trans hp
 have he1 := (a2 be h2.symm).trans he
 obtain ⟨b1, b2, b3⟩ := set_one (v := .int .i64 0) hp1
 have he2 := (b2 be h3.symm).trans he1
 have c0 := cell_of_row _ _ 0 _ _ _ hc
 have f0 := frozen_of_row _ _ 0 _ _ hc
 have c1 := cell_of_row _ _ 0 _ _ _ hp1
 have f1 := frozen_of_row _ _ 0 _ _ hp1
 have c2 := cell_of_row _ _ 0 _ _ _ he2
 have f2 := frozen_of_row _ _ 0 _ _ he2
 refine callsDW_of_wpS Tryz.func82 rfl fun c₀ cs hu => ?_
 refine wpS_seq ?_
 apply wpS_region
 simp [wpOpsS, go_sem, recoverD, hu, Tryz.ntmps82]
 clear a1 a2 a3 b1 b2 b3 hc hp he hp1 he1 he2
 refine wpS_of_wp ?_
 go_wp2_with fail
 refine (caught_fail z z0 be _ c2 f2).mono ?_
 rintro e w' ⟨rfl, rfl⟩
 go_wp2_with fail
 refine ⟨rfl, _, rfl, .tuple #[], ?_, rfl, rfl, rfl⟩
 simp [results, Tryz.results82]
/-- a root -/
structure Rt where
 cam : Int
 stu : Int
 ver : Int
 kno : Int
 lin : Int
 cla : Int
 tree : Nd
 listed : List Nat
 claimed : List Nat
 prev : List Nat
 sr : Int
 ss : Int
def rtC (r : Rt) : List Value := [.int .i64 r.cam, .int .i64 r.stu, .int .i64 r.ver, .int .i64 r.kno, .int .i64 r.lin, .int .i64 r.cla] ++ (ndC r.tree ++ (dgC r.listed ++ (dgC r.claimed ++ (dgC r.prev ++ [.int .i64 r.sr, .int .i64 r.ss]))))
structure RtOk (r : Rt) : Prop where
 b0 : I64 r.cam
 b1 : I64 r.stu
 b2 : I64 r.ver
 b3 : I64 r.kno
 b4 : I64 r.lin
 b5 : I64 r.cla
 tree : NdOk r.tree
 listed : DgOk r.listed
 claimed : DgOk r.claimed
 prev : DgOk r.prev
 b6 : I64 r.sr
 b7 : I64 r.ss
theorem app_range {w : World} {g ty : Nat} {a b c : List Value} (h : w.heap[g]? = some (.cells (a ++ (b ++ c)).toArray ty (0, 0))) : w.rangeAt g a.length b := fun j v hj => by
 have hj2 : j < b.length := (List.getElem?_eq_some_iff.1 hj).1
 rw [cell_of_row w g (a.length + j) _ _ _ h, List.getElem?_toArray, List.getElem?_append_right (by omega), Nat.add_sub_cancel_left, List.getElem?_append_left hj2]
 exact hj
theorem dgC_len32 {l : List Nat} (h : DgOk l) : (dgC l).length = 32 := by rw [dgC_length]; exact h.len
theorem rtC_info {r : Rt} (hr : RtOk r) : (Tryz.prog.info? 43).map (·.size) = some (rtC r).toArray.size := by
 have e : (rtC r).toArray.size = 138 := by simp [rtC, ndC_length hr.tree, dgC_len32 hr.listed, dgC_len32 hr.claimed, dgC_len32 hr.prev]
 rw [e]; show _ = some 138; kernel_rfl
attribute [local go_sem] Oper.semAt_some
theorem ver_left {w W : World} {bc bp be n0 : Nat} {z c p z0 : Int} (hc : W.heap[bc]? = some (.cells #[.int .i64 c] 3 (0, 0))) (hp : W.heap[bp]? = some (.cells #[.int .i64 p] 3 (0, 0))) (he : W.heap[be]? = some (.cells #[.int .i64 z0] 31 (0, 0))) (h1 : bc ≠ bp) (h2 : bc ≠ be) (h3 : bp ≠ be) (hB : Below n0 w W) (hn : n0 ≤ w.heap.size) (l1 : n0 ≤ bc) (l2 : n0 ≤ bp) (l3 : n0 ≤ be) :
  ((((W.setCell ⟨bc, 0, none⟩ (.int .i64 0)).setCell ⟨bp, 0, none⟩ (.int .i64 0)).setCell ⟨be, 0, none⟩ (.int .i64 z)).alloc (.cells #[.int .i64 z] 160)).cell? ⟨bc, 0, none⟩ = some (.int .i64 0) ∧
  ((((W.setCell ⟨bc, 0, none⟩ (.int .i64 0)).setCell ⟨bp, 0, none⟩ (.int .i64 0)).setCell ⟨be, 0, none⟩ (.int .i64 z)).alloc (.cells #[.int .i64 z] 160)).cell? ⟨bp, 0, none⟩ = some (.int .i64 0) ∧
  ((((W.setCell ⟨bc, 0, none⟩ (.int .i64 0)).setCell ⟨bp, 0, none⟩ (.int .i64 0)).setCell ⟨be, 0, none⟩ (.int .i64 z)).alloc (.cells #[.int .i64 z] 160)).cell? ⟨be, 0, none⟩ = some (.int .i64 z) ∧
  Below n0 w ((((W.setCell ⟨bc, 0, none⟩ (.int .i64 0)).setCell ⟨bp, 0, none⟩ (.int .i64 0)).setCell ⟨be, 0, none⟩ (.int .i64 z)).alloc (.cells #[.int .i64 z] 160)) := by
 obtain ⟨x1, x2, x3⟩ := set_one (v := .int .i64 0) hc
 obtain ⟨y1, y2, y3⟩ := set_one (v := .int .i64 0) ((x2 _ h1.symm).trans hp)
 obtain ⟨z1, z2, z3⟩ := set_one (v := .int .i64 z) ((y2 _ h3.symm).trans ((x2 _ h2.symm).trans he))
 have hb := ((hB.setCell (p := ⟨bc, 0, none⟩) l1 (.int .i64 0)).setCell (p := ⟨bp, 0, none⟩) l2 (.int .i64 0)).setCell (p := ⟨be, 0, none⟩) l3 (.int .i64 z)
 have hba := (Below.refl _ (((W.setCell ⟨bc, 0, none⟩ (.int .i64 0)).setCell ⟨bp, 0, none⟩ (.int .i64 0)).setCell ⟨be, 0, none⟩ (.int .i64 z))).alloc (Nat.le_refl _) (.cells #[.int .i64 z] 160)
 exact ⟨cell_of_row _ _ 0 _ _ _ (row_kept ((z2 _ h2).trans ((y2 _ h1).trans x1)) hba), cell_of_row _ _ 0 _ _ _ (row_kept ((z2 _ h3).trans y1) hba), cell_of_row _ _ 0 _ _ _ (row_kept z1 hba), hb.trans (hba.mono (Nat.le_trans hn hb.size))⟩
theorem ver43_no1 (r : Rt) (f t : Int) (A : Option Addr) (n cc : Nat) (w : World) (hr : Hid (RtOk r)) (hf : Hid (ftB f t r.lin = false)) :
  Calls Tryz.prog 35 #[.agg (rtC r).toArray, .agg #[.int .i64 f, .int .i64 t, .slice A n cc]] w fun e w' => e = .returned (.tuple #[.int .i64 0, .int .i64 0, .int .i64 430]) ∧ Below w.heap.size w w' := by
 have HIT : Hid ((Tryz.prog.info? 43).map (·.size) = some (rtC r).toArray.size) := hid (rtC_info hr.out)
 obtain ⟨W0, HW0⟩ : ∃ V, Hid (((((w.alloc (.cells (rtC r).toArray 43)).alloc (.cells #[.int .i64 f, .int .i64 t, .slice A n cc] 66)).alloc (.cells #[.int .i64 0] 3)).alloc (.cells #[.int .i64 0] 3)).alloc (.cells #[.int .i64 0] 31) = V) := ⟨_, hid rfl⟩
 obtain ⟨Wa, HWa⟩ : ∃ V, w.alloc (.cells (rtC r).toArray 43) = V := ⟨_, rfl⟩
 obtain ⟨Wb, HWb⟩ : ∃ V, Wa.alloc (.cells #[.int .i64 f, .int .i64 t, .slice A n cc] 66) = V := ⟨_, rfl⟩
 obtain ⟨Wc, HWc⟩ : ∃ V, Wb.alloc (.cells #[.int .i64 0] 3) = V := ⟨_, rfl⟩
 obtain ⟨Wd, HWd⟩ : ∃ V, Wc.alloc (.cells #[.int .i64 0] 3) = V := ⟨_, rfl⟩
 have e0 := HW0.out
 rw [HWa, HWb, HWc, HWd] at e0
 have ba := (Below.refl _ w).alloc (Nat.le_refl _) (.cells (rtC r).toArray 43)
 have bb := (Below.refl _ Wa).alloc (Nat.le_refl _) (.cells #[.int .i64 f, .int .i64 t, .slice A n cc] 66)
 have bc := (Below.refl _ Wb).alloc (Nat.le_refl _) (.cells #[.int .i64 0] 3)
 have bd := (Below.refl _ Wc).alloc (Nat.le_refl _) (.cells #[.int .i64 0] 3)
 have be := (Below.refl _ Wd).alloc (Nat.le_refl _) (.cells #[.int .i64 0] 31)
 have ra := heap_alloc_new w (.cells (rtC r).toArray 43)
 have rb := heap_alloc_new Wa (.cells #[.int .i64 f, .int .i64 t, .slice A n cc] 66)
 have rc := heap_alloc_new Wb (.cells #[.int .i64 0] 3)
 have rd := heap_alloc_new Wc (.cells #[.int .i64 0] 3)
 have re := heap_alloc_new Wd (.cells #[.int .i64 0] 31)
 have sa : Wa.heap.size = w.heap.size + 1 := by rw [← HWa]; simp
 have sb : Wb.heap.size = w.heap.size + 1 + 1 := by rw [← HWb]; simp [sa]
 have sc : Wc.heap.size = w.heap.size + 1 + 1 + 1 := by rw [← HWc]; simp [sb]
 have sd : Wd.heap.size = w.heap.size + 1 + 1 + 1 + 1 := by rw [← HWd]; simp [sc]
 have se : W0.heap.size = w.heap.size + 5 := by rw [← e0]; simp [sd]
 rw [HWa] at ba ra
 rw [HWb] at bb rb
 rw [HWc] at bc rc
 rw [HWd] at bd rd
 rw [e0] at be re
 have HR0 := hid (row_kept (row_kept (row_kept (row_kept ra bb) bc) bd) be)
 have hr1 := row_kept (row_kept (row_kept rb bc) bd) be
 have hr2 := row_kept (row_kept rc bd) be
 have hr3 := row_kept rd be
 have hr4 := re
 rw [sa] at hr1
 rw [sb] at hr2
 rw [sc] at hr3
 rw [sd] at hr4
 have HR1 := hid hr1
 have HR2 := hid hr2
 have HR3 := hid hr3
 have HR4 := hid hr4
 have HB0 := hid ((((ba.trans (bb.mono (by omega))).trans (bc.mono (by omega))).trans (bd.mono (by omega))).trans (be.mono (by omega)))
 have HS0 := hid se
 clear e0 ba bb bc bd be ra rb rc rd re sa sb sc sd se hr1 hr2 hr3 hr4 HWa HWb HWc HWd Wa Wb Wc Wd
 have cl4 : W0.cell? ⟨w.heap.size, 4, none⟩ = some (.int .i64 r.lin) := by rw [cell_of_row _ _ 4 _ _ _ HR0.out]; simp [rtC]
 have cp0 := cell_of_row _ _ 0 _ _ _ HR1.out
 have cp1 := cell_of_row _ _ 1 _ _ _ HR1.out
 have cp2 := cell_of_row _ _ 2 _ _ _ HR1.out
 have hmf : ∀ (fn : Fn) (first cap : Array Value) (w : World), (Instr.makeFunc fn first cap).run Tryz.prog w = .ok (.func fn first cap) w := fun _ _ _ _ => rfl
 refine (callsIn_wide (n := 5)).1 ?_
 refine callsIn_of_wp_marks Tryz.func35 rfl trivial ?_ rfl
 simp only [Tryz.ntmps35, List.size_toArray, List.length_cons, List.length_nil, Nat.reduceAdd, Nat.reduceSub, Array.replicate_succ, Array.replicate_zero, List.push_toArray, List.append_toArray, List.nil_append, List.cons_append]
 gi_wp2_with (first | (rw [HW0.out]) | (refine ⟨trivial, ?_⟩; gi_at_call 76; refine (callsIn_wide.2 (fits_any _ _ _ _)).mono ?_; rintro e w' ⟨rfl, rfl⟩; rw [hf.out]) | (refine ⟨trivial, ?_⟩; gi_at_call 75; refine (callsIn_wide.2 (demand_no 430 _)).mono ?_; rintro e w' ⟨rfl, rfl⟩))
 refine ⟨by simp, .inr ⟨by simp [Fence.wide], _, _, 82, #[.pointer (some ⟨w.heap.size + 1 + 1, 0, none⟩), .pointer (some ⟨w.heap.size + 1 + 1 + 1, 0, none⟩), .pointer (some ⟨w.heap.size + 1 + 1 + 1 + 1, 0, none⟩)], rfl, by simp [invoke, go_sem], fun _ _ => trivial, ?_⟩⟩
 refine (ver1_panic (w.heap.size + 1 + 1) (w.heap.size + 1 + 1 + 1) (w.heap.size + 1 + 1 + 1 + 1) 430 _ _ _ W0 HR2.out HR3.out HR4.out (by omega) (by omega) (by omega) _).mono ?_
 rintro e u' w'' ⟨rfl, rfl, rfl⟩
 obtain ⟨k0, k1, k2, k3⟩ := ver_left (z := 430) HR2.out HR3.out HR4.out (by omega) (by omega) (by omega) HB0.out (Nat.le_refl _) (by omega) (by omega) (by omega)
 refine ⟨.tuple #[.int .i64 0, .int .i64 0, .int .i64 430], ?_, rfl, k3⟩
 simp [results, Tryz.results35, asAddr, k0, k1, k2, go_sem]
theorem ver43_no2 (r : Rt) (f t m : Nat) (A : Option Addr) (n cc : Nat) (ls : List Nd) (w : World) (hr : Hid (RtOk r)) (hm : r.lin = (m : Nat)) (hft : f < t) (htm : t ≤ m) (hm4 : m ≤ 4096) (hin : Hid (InN w A n cc ls)) (hT : Hid (Tabs w)) (hl : ls.length ≤ 100000) (hv2 : vj f t 0 m ls = none) :
  Calls Tryz.prog 35 #[.agg (rtC r).toArray, .agg #[.int .i64 (f : Nat), .int .i64 (t : Nat), .slice A n cc]] w fun e w' => e = .returned (.tuple #[.int .i64 0, .int .i64 0, .int .i64 430]) ∧ Below w.heap.size w w' := by
 have HF := hid (ftB_yes (f := (f : Int)) (t := (t : Int)) (m := (m : Int)) (by omega))
 have HIT : Hid ((Tryz.prog.info? 43).map (·.size) = some (rtC r).toArray.size) := hid (rtC_info hr.out)
 obtain ⟨W0, HW0⟩ : ∃ V, Hid (((((w.alloc (.cells (rtC r).toArray 43)).alloc (.cells #[.int .i64 (f : Nat), .int .i64 (t : Nat), .slice A n cc] 66)).alloc (.cells #[.int .i64 0] 3)).alloc (.cells #[.int .i64 0] 3)).alloc (.cells #[.int .i64 0] 31) = V) := ⟨_, hid rfl⟩
 obtain ⟨Wa, HWa⟩ : ∃ V, w.alloc (.cells (rtC r).toArray 43) = V := ⟨_, rfl⟩
 obtain ⟨Wb, HWb⟩ : ∃ V, Wa.alloc (.cells #[.int .i64 (f : Nat), .int .i64 (t : Nat), .slice A n cc] 66) = V := ⟨_, rfl⟩
 obtain ⟨Wc, HWc⟩ : ∃ V, Wb.alloc (.cells #[.int .i64 0] 3) = V := ⟨_, rfl⟩
 obtain ⟨Wd, HWd⟩ : ∃ V, Wc.alloc (.cells #[.int .i64 0] 3) = V := ⟨_, rfl⟩
 have e0 := HW0.out
 rw [HWa, HWb, HWc, HWd] at e0
 have ba := (Below.refl _ w).alloc (Nat.le_refl _) (.cells (rtC r).toArray 43)
 have bb := (Below.refl _ Wa).alloc (Nat.le_refl _) (.cells #[.int .i64 (f : Nat), .int .i64 (t : Nat), .slice A n cc] 66)
 have bc := (Below.refl _ Wb).alloc (Nat.le_refl _) (.cells #[.int .i64 0] 3)
 have bd := (Below.refl _ Wc).alloc (Nat.le_refl _) (.cells #[.int .i64 0] 3)
 have be := (Below.refl _ Wd).alloc (Nat.le_refl _) (.cells #[.int .i64 0] 31)
 have ra := heap_alloc_new w (.cells (rtC r).toArray 43)
 have rb := heap_alloc_new Wa (.cells #[.int .i64 (f : Nat), .int .i64 (t : Nat), .slice A n cc] 66)
 have rc := heap_alloc_new Wb (.cells #[.int .i64 0] 3)
 have rd := heap_alloc_new Wc (.cells #[.int .i64 0] 3)
 have re := heap_alloc_new Wd (.cells #[.int .i64 0] 31)
 have sa : Wa.heap.size = w.heap.size + 1 := by rw [← HWa]; simp
 have sb : Wb.heap.size = w.heap.size + 1 + 1 := by rw [← HWb]; simp [sa]
 have sc : Wc.heap.size = w.heap.size + 1 + 1 + 1 := by rw [← HWc]; simp [sb]
 have sd : Wd.heap.size = w.heap.size + 1 + 1 + 1 + 1 := by rw [← HWd]; simp [sc]
 have se : W0.heap.size = w.heap.size + 5 := by rw [← e0]; simp [sd]
 rw [HWa] at ba ra
 rw [HWb] at bb rb
 rw [HWc] at bc rc
 rw [HWd] at bd rd
 rw [e0] at be re
 have HR0 := hid (row_kept (row_kept (row_kept (row_kept ra bb) bc) bd) be)
 have hr1 := row_kept (row_kept (row_kept rb bc) bd) be
 have hr2 := row_kept (row_kept rc bd) be
 have hr3 := row_kept rd be
 have hr4 := re
 rw [sa] at hr1
 rw [sb] at hr2
 rw [sc] at hr3
 rw [sd] at hr4
 have HR1 := hid hr1
 have HR2 := hid hr2
 have HR3 := hid hr3
 have HR4 := hid hr4
 have HB0 := hid ((((ba.trans (bb.mono (by omega))).trans (bc.mono (by omega))).trans (bd.mono (by omega))).trans (be.mono (by omega)))
 have HS0 := hid se
 clear e0 ba bb bc bd be ra rb rc rd re sa sb sc sd se hr1 hr2 hr3 hr4 HWa HWb HWc HWd Wa Wb Wc Wd
 have cl4 : W0.cell? ⟨w.heap.size, 4, none⟩ = some (.int .i64 r.lin) := by rw [cell_of_row _ _ 4 _ _ _ HR0.out]; simp [rtC, hm]
 have cp0 := cell_of_row _ _ 0 _ _ _ HR1.out
 have cp1 := cell_of_row _ _ 1 _ _ _ HR1.out
 have cp2 := cell_of_row _ _ 2 _ _ _ HR1.out
 obtain ⟨W1, HW1⟩ : ∃ V, Hid (W0.alloc (.cells #[.int .i64 (f : Nat), .int .i64 (t : Nat)] 119) = V) := ⟨_, hid rfl⟩
 have b1 := (Below.refl _ W0).alloc (Nat.le_refl _) (.cells #[.int .i64 (f : Nat), .int .i64 (t : Nat)] 119)
 have q1 := heap_alloc_new W0 (.cells #[.int .i64 (f : Nat), .int .i64 (t : Nat)] 119)
 have s1 : W1.heap.size = W0.heap.size + 1 := by rw [← HW1.out]; simp
 rw [HW1.out] at b1 q1
 obtain ⟨W2, HW2⟩ : ∃ V, Hid (W1.alloc (.cells #[.slice A n cc] 30) = V) := ⟨_, hid rfl⟩
 have b2 := (Below.refl _ W1).alloc (Nat.le_refl _) (.cells #[.slice A n cc] 30)
 have q2 := heap_alloc_new W1 (.cells #[.slice A n cc] 30)
 have s2 : W2.heap.size = W1.heap.size + 1 := by rw [← HW2.out]; simp
 rw [HW2.out] at b2 q2
 have cq2 := cell_of_row _ _ 2 _ _ _ (row_kept HR1.out b1)
 have HB1 := hid b1
 have HB2 := hid b2
 have HQ1 := hid q1
 have HQ2 := hid q2
 have HS1 := hid s1
 have HS2 := hid s2
 obtain ⟨W3, HW3⟩ : ∃ V, Hid (W2.alloc (.cells #[jnV W0.heap.size W1.heap.size (w.heap.size + 1 + 1) (w.heap.size + 1 + 1 + 1) W2.heap.size] 132) = V) := ⟨_, hid rfl⟩
 have b3 := (Below.refl _ W2).alloc (Nat.le_refl _) (.cells #[jnV W0.heap.size W1.heap.size (w.heap.size + 1 + 1) (w.heap.size + 1 + 1 + 1) W2.heap.size] 132)
 have q3 := heap_alloc_new W2 (.cells #[jnV W0.heap.size W1.heap.size (w.heap.size + 1 + 1) (w.heap.size + 1 + 1 + 1) W2.heap.size] 132)
 have s3 : W3.heap.size = W2.heap.size + 1 := by rw [← HW3.out]; simp
 rw [HW3.out] at b3 q3
 have b123 := (b1.trans (b2.mono (by omega))).trans (b3.mono (by omega))
 have bw3 := HB0.out.trans (b123.mono HB0.out.size)
 have s0 := HS0.out
 have HX : Hid (BX w W0.heap.size W1.heap.size (w.heap.size + 1 + 1) (w.heap.size + 1 + 1 + 1) W2.heap.size) := hid (by constructor <;> omega)
 have HV : Hid (VJ w W0.heap.size W1.heap.size (w.heap.size + 1 + 1) (w.heap.size + 1 + 1 + 1) W2.heap.size f t W3 ls 0 0) := hid ⟨bw3, row_kept (row_kept q1 b2) b3, ⟨A, n, cc, row_kept q2 b3, hin.out⟩, row_kept HR2.out b123, row_kept HR3.out b123, q3⟩
 have HC := hid (v2_all f t hft 0 m (by omega) hm4 w W0.heap.size W1.heap.size (w.heap.size + 1 + 1) (w.heap.size + 1 + 1 + 1) W2.heap.size HX hT W3 ls 0 0 HV hl (by simp))
 have HR03 := hid (row_kept HR0.out b123)
 have HR43 := hid (row_kept HR4.out b123)
 have HBW3 := hid bw3
 have HS3 := hid (show W3.heap.size = w.heap.size + 8 ∧ W0.heap.size = w.heap.size + 5 ∧ W1.heap.size = w.heap.size + 6 ∧ W2.heap.size = w.heap.size + 7 by omega)
 have cl43 : W3.cell? ⟨w.heap.size, 4, none⟩ = some (.int .i64 (m : Nat)) := by rw [cell_of_row _ _ 4 _ _ _ HR03.out]; simp [rtC, hm]
 have cj3 := cell_of_row _ _ 0 _ _ _ q3
 simp only [List.getElem?_toArray, List.getElem?_cons_zero] at cj3
 unfold jnV at cj3 HW3
 clear b1 b2 q1 q2 s1 s2 b3 q3 s3 b123 bw3 s0
 have hmf : ∀ (fn : Fn) (first cap : Array Value) (w : World), (Instr.makeFunc fn first cap).run Tryz.prog w = .ok (.func fn first cap) w := fun _ _ _ _ => rfl
 refine (callsIn_wide (n := 5)).1 ?_
 refine callsIn_of_wp_marks Tryz.func35 rfl trivial ?_ rfl
 simp only [Tryz.ntmps35, List.size_toArray, List.length_cons, List.length_nil, Nat.reduceAdd, Nat.reduceSub, Array.replicate_succ, Array.replicate_zero, List.push_toArray, List.append_toArray, List.nil_append, List.cons_append]
 gi_wp2_with (first | (rw [HW0.out]) | (rw [HW1.out]) | (rw [HW2.out]) | (rw [HW3.out]) | (refine ⟨trivial, ?_⟩; gi_at_call 76; refine (callsIn_wide.2 (fits_any _ _ _ _)).mono ?_; rintro e w' ⟨rfl, rfl⟩; rw [HF.out]) | (refine ⟨trivial, ?_⟩; gi_at_call 75; refine (callsIn_wide.2 (demand_yes 430 _)).mono ?_; rintro e w' ⟨rfl, rfl⟩))
 refine ⟨trivial, ?_⟩
 refine (callsIn_wide.2 HC.out).mono ?_
 intro e W4 hq
 rw [hv2] at hq
 obtain ⟨hk, rfl, lsx, cx, px, hv⟩ := hq
 have hs3 := HS3.out
 have he4 := hk.row HR43.out (by omega) (by omega) (by omega)
 refine ⟨by simp, .inr ⟨by simp [Fence.wide], _, _, 82, #[.pointer (some ⟨w.heap.size + 1 + 1, 0, none⟩), .pointer (some ⟨w.heap.size + 1 + 1 + 1, 0, none⟩), .pointer (some ⟨w.heap.size + 1 + 1 + 1 + 1, 0, none⟩)], rfl, by simp [invoke, go_sem], fun _ _ => trivial, ?_⟩⟩
 refine (ver1_panic (w.heap.size + 1 + 1) (w.heap.size + 1 + 1 + 1) (w.heap.size + 1 + 1 + 1 + 1) 430 _ _ _ W4 hv.cr hv.pt he4 (by omega) (by omega) (by omega) _).mono ?_
 rintro e u' w'' ⟨rfl, rfl, rfl⟩
 obtain ⟨k0, k1, k2, k3⟩ := ver_left (z := 430) hv.cr hv.pt he4 (by omega) (by omega) (by omega) (HBW3.out.trans hk.bel) (Nat.le_refl _) (by omega) (by omega) (by omega)
 refine ⟨.tuple #[.int .i64 0, .int .i64 0, .int .i64 430], ?_, rfl, k3⟩
 simp [results, Tryz.results35, asAddr, k0, k1, k2, go_sem]
theorem ver43_no3 (r : Rt) (f t m : Nat) (A : Option Addr) (n cc : Nat) (ls : List Nd) (w : World) (hr : Hid (RtOk r)) (hm : r.lin = (m : Nat)) (hft : f < t) (htm : t ≤ m) (hm4 : m ≤ 4096) (hin : Hid (InN w A n cc ls)) (hT : Hid (Tabs w)) (hl : ls.length ≤ 100000) (nd : Nd) (rr : List Nd) (c1 p1 : Int) (hv2 : vj f t 0 m ls = some (nd, rr, c1, p1)) (HNK : Hid (NdOk nd)) (hrr : rr ≠ []) :
  Calls Tryz.prog 35 #[.agg (rtC r).toArray, .agg #[.int .i64 (f : Nat), .int .i64 (t : Nat), .slice A n cc]] w fun e w' => e = .returned (.tuple #[.int .i64 0, .int .i64 0, .int .i64 430]) ∧ Below w.heap.size w w' := by
 have HF := hid (ftB_yes (f := (f : Int)) (t := (t : Int)) (m := (m : Int)) (by omega))
 have HIT : Hid ((Tryz.prog.info? 43).map (·.size) = some (rtC r).toArray.size) := hid (rtC_info hr.out)
 obtain ⟨W0, HW0⟩ : ∃ V, Hid (((((w.alloc (.cells (rtC r).toArray 43)).alloc (.cells #[.int .i64 (f : Nat), .int .i64 (t : Nat), .slice A n cc] 66)).alloc (.cells #[.int .i64 0] 3)).alloc (.cells #[.int .i64 0] 3)).alloc (.cells #[.int .i64 0] 31) = V) := ⟨_, hid rfl⟩
 obtain ⟨Wa, HWa⟩ : ∃ V, w.alloc (.cells (rtC r).toArray 43) = V := ⟨_, rfl⟩
 obtain ⟨Wb, HWb⟩ : ∃ V, Wa.alloc (.cells #[.int .i64 (f : Nat), .int .i64 (t : Nat), .slice A n cc] 66) = V := ⟨_, rfl⟩
 obtain ⟨Wc, HWc⟩ : ∃ V, Wb.alloc (.cells #[.int .i64 0] 3) = V := ⟨_, rfl⟩
 obtain ⟨Wd, HWd⟩ : ∃ V, Wc.alloc (.cells #[.int .i64 0] 3) = V := ⟨_, rfl⟩
 have e0 := HW0.out
 rw [HWa, HWb, HWc, HWd] at e0
 have ba := (Below.refl _ w).alloc (Nat.le_refl _) (.cells (rtC r).toArray 43)
 have bb := (Below.refl _ Wa).alloc (Nat.le_refl _) (.cells #[.int .i64 (f : Nat), .int .i64 (t : Nat), .slice A n cc] 66)
 have bc := (Below.refl _ Wb).alloc (Nat.le_refl _) (.cells #[.int .i64 0] 3)
 have bd := (Below.refl _ Wc).alloc (Nat.le_refl _) (.cells #[.int .i64 0] 3)
 have be := (Below.refl _ Wd).alloc (Nat.le_refl _) (.cells #[.int .i64 0] 31)
 have ra := heap_alloc_new w (.cells (rtC r).toArray 43)
 have rb := heap_alloc_new Wa (.cells #[.int .i64 (f : Nat), .int .i64 (t : Nat), .slice A n cc] 66)
 have rc := heap_alloc_new Wb (.cells #[.int .i64 0] 3)
 have rd := heap_alloc_new Wc (.cells #[.int .i64 0] 3)
 have re := heap_alloc_new Wd (.cells #[.int .i64 0] 31)
 have sa : Wa.heap.size = w.heap.size + 1 := by rw [← HWa]; simp
 have sb : Wb.heap.size = w.heap.size + 1 + 1 := by rw [← HWb]; simp [sa]
 have sc : Wc.heap.size = w.heap.size + 1 + 1 + 1 := by rw [← HWc]; simp [sb]
 have sd : Wd.heap.size = w.heap.size + 1 + 1 + 1 + 1 := by rw [← HWd]; simp [sc]
 have se : W0.heap.size = w.heap.size + 5 := by rw [← e0]; simp [sd]
 rw [HWa] at ba ra
 rw [HWb] at bb rb
 rw [HWc] at bc rc
 rw [HWd] at bd rd
 rw [e0] at be re
 have HR0 := hid (row_kept (row_kept (row_kept (row_kept ra bb) bc) bd) be)
 have hr1 := row_kept (row_kept (row_kept rb bc) bd) be
 have hr2 := row_kept (row_kept rc bd) be
 have hr3 := row_kept rd be
 have hr4 := re
 rw [sa] at hr1
 rw [sb] at hr2
 rw [sc] at hr3
 rw [sd] at hr4
 have HR1 := hid hr1
 have HR2 := hid hr2
 have HR3 := hid hr3
 have HR4 := hid hr4
 have HB0 := hid ((((ba.trans (bb.mono (by omega))).trans (bc.mono (by omega))).trans (bd.mono (by omega))).trans (be.mono (by omega)))
 have HS0 := hid se
 clear e0 ba bb bc bd be ra rb rc rd re sa sb sc sd se hr1 hr2 hr3 hr4 HWa HWb HWc HWd Wa Wb Wc Wd
 have cl4 : W0.cell? ⟨w.heap.size, 4, none⟩ = some (.int .i64 r.lin) := by rw [cell_of_row _ _ 4 _ _ _ HR0.out]; simp [rtC, hm]
 have cp0 := cell_of_row _ _ 0 _ _ _ HR1.out
 have cp1 := cell_of_row _ _ 1 _ _ _ HR1.out
 have cp2 := cell_of_row _ _ 2 _ _ _ HR1.out
 obtain ⟨W1, HW1⟩ : ∃ V, Hid (W0.alloc (.cells #[.int .i64 (f : Nat), .int .i64 (t : Nat)] 119) = V) := ⟨_, hid rfl⟩
 have b1 := (Below.refl _ W0).alloc (Nat.le_refl _) (.cells #[.int .i64 (f : Nat), .int .i64 (t : Nat)] 119)
 have q1 := heap_alloc_new W0 (.cells #[.int .i64 (f : Nat), .int .i64 (t : Nat)] 119)
 have s1 : W1.heap.size = W0.heap.size + 1 := by rw [← HW1.out]; simp
 rw [HW1.out] at b1 q1
 obtain ⟨W2, HW2⟩ : ∃ V, Hid (W1.alloc (.cells #[.slice A n cc] 30) = V) := ⟨_, hid rfl⟩
 have b2 := (Below.refl _ W1).alloc (Nat.le_refl _) (.cells #[.slice A n cc] 30)
 have q2 := heap_alloc_new W1 (.cells #[.slice A n cc] 30)
 have s2 : W2.heap.size = W1.heap.size + 1 := by rw [← HW2.out]; simp
 rw [HW2.out] at b2 q2
 have cq2 := cell_of_row _ _ 2 _ _ _ (row_kept HR1.out b1)
 have HB1 := hid b1
 have HB2 := hid b2
 have HQ1 := hid q1
 have HQ2 := hid q2
 have HS1 := hid s1
 have HS2 := hid s2
 obtain ⟨W3, HW3⟩ : ∃ V, Hid (W2.alloc (.cells #[jnV W0.heap.size W1.heap.size (w.heap.size + 1 + 1) (w.heap.size + 1 + 1 + 1) W2.heap.size] 132) = V) := ⟨_, hid rfl⟩
 have b3 := (Below.refl _ W2).alloc (Nat.le_refl _) (.cells #[jnV W0.heap.size W1.heap.size (w.heap.size + 1 + 1) (w.heap.size + 1 + 1 + 1) W2.heap.size] 132)
 have q3 := heap_alloc_new W2 (.cells #[jnV W0.heap.size W1.heap.size (w.heap.size + 1 + 1) (w.heap.size + 1 + 1 + 1) W2.heap.size] 132)
 have s3 : W3.heap.size = W2.heap.size + 1 := by rw [← HW3.out]; simp
 rw [HW3.out] at b3 q3
 have b123 := (b1.trans (b2.mono (by omega))).trans (b3.mono (by omega))
 have bw3 := HB0.out.trans (b123.mono HB0.out.size)
 have s0 := HS0.out
 have HX : Hid (BX w W0.heap.size W1.heap.size (w.heap.size + 1 + 1) (w.heap.size + 1 + 1 + 1) W2.heap.size) := hid (by constructor <;> omega)
 have HV : Hid (VJ w W0.heap.size W1.heap.size (w.heap.size + 1 + 1) (w.heap.size + 1 + 1 + 1) W2.heap.size f t W3 ls 0 0) := hid ⟨bw3, row_kept (row_kept q1 b2) b3, ⟨A, n, cc, row_kept q2 b3, hin.out⟩, row_kept HR2.out b123, row_kept HR3.out b123, q3⟩
 have HC := hid (v2_all f t hft 0 m (by omega) hm4 w W0.heap.size W1.heap.size (w.heap.size + 1 + 1) (w.heap.size + 1 + 1 + 1) W2.heap.size HX hT W3 ls 0 0 HV hl (by simp))
 have HR03 := hid (row_kept HR0.out b123)
 have HR43 := hid (row_kept HR4.out b123)
 have HBW3 := hid bw3
 have HS3 := hid (show W3.heap.size = w.heap.size + 8 ∧ W0.heap.size = w.heap.size + 5 ∧ W1.heap.size = w.heap.size + 6 ∧ W2.heap.size = w.heap.size + 7 by omega)
 have cl43 : W3.cell? ⟨w.heap.size, 4, none⟩ = some (.int .i64 (m : Nat)) := by rw [cell_of_row _ _ 4 _ _ _ HR03.out]; simp [rtC, hm]
 have cj3 := cell_of_row _ _ 0 _ _ _ q3
 simp only [List.getElem?_toArray, List.getElem?_cons_zero] at cj3
 unfold jnV at cj3 HW3
 clear b1 b2 q1 q2 s1 s2 b3 q3 s3 b123 bw3 s0
 have hmf : ∀ (fn : Fn) (first cap : Array Value) (w : World), (Instr.makeFunc fn first cap).run Tryz.prog w = .ok (.func fn first cap) w := fun _ _ _ _ => rfl
 refine (callsIn_wide (n := 5)).1 ?_
 refine callsIn_of_wp_marks Tryz.func35 rfl trivial ?_ rfl
 simp only [Tryz.ntmps35, List.size_toArray, List.length_cons, List.length_nil, Nat.reduceAdd, Nat.reduceSub, Array.replicate_succ, Array.replicate_zero, List.push_toArray, List.append_toArray, List.nil_append, List.cons_append]
 rw [wpIn_wide]
 go_wp2_with (first | (rw [HW0.out]) | (rw [HW1.out]) | (rw [HW2.out]) | (rw [HW3.out]) | (refine (fits_any _ _ _ _).mono ?_; rintro e w' ⟨rfl, rfl⟩; rw [HF.out]) | (refine (demand_yes 430 _).mono ?_; rintro e w' ⟨rfl, rfl⟩))
 refine HC.out.mono ?_
 intro e W4 hq
 rw [hv2] at hq
 obtain ⟨hk, rfl, hv⟩ := hq
 have hs3 := HS3.out
 have hr04 := hk.row HR03.out (by omega) (by omega) (by omega)
 have he4 := hk.row HR43.out (by omega) (by omega) (by omega)
 obtain ⟨W5, HW5⟩ : ∃ V, Hid ((W4.alloc (.cells (ndC zeroN).toArray 39)).setRow W4.heap.size (ndC nd).toArray = V) := ⟨_, hid rfl⟩
 have HRZ5 := hid (heap_alloc_new W4 (.cells (ndC zeroN).toArray 39))
 have hl5 := laid_row W4 (ndC zeroN).toArray (ndC nd).toArray 39
 rw [HW5.out] at hl5
 have HV5 := hid (hv.below hl5.1)
 have HB5 := hid ((HBW3.out.trans hk.bel).trans (hl5.1.mono (HBW3.out.trans hk.bel).size))
 have HR5 := hid (row_kept hr04 hl5.1)
 have HE5 := hid (row_kept he4 hl5.1)
 have HN5 := hid hl5.2.2
 have HSN : Hid ((Tryz.prog.info? 39).map (·.size) = some (ndC nd).toArray.size) := hid (by rw [size34 HNK.out]; simp)
 have HSN2 : Hid (34 = (ndC nd).toArray.size) := hid (by simp [ndC_length HNK.out])
 obtain ⟨A5, n5, cc5, hre5, hin5⟩ := HV5.out.rest
 have cre := cell_of_row _ _ 0 _ _ _ hre5
 have HI5 := hid hin5
 rw [zeroN_cells] at HRZ5 HW5
 clear hk hv hs3 hr04 he4 hl5 hre5 hin5 hv2
 have hn5 : 0 < n5 := by have := HI5.out.len; have := List.length_pos_iff.2 hrr; omega
 obtain ⟨n6, rfl⟩ : ∃ k, n5 = k + 1 := ⟨n5 - 1, by omega⟩
 have d5 : decide ((n6 : Int) + 1 = 0) = false := dQ (by omega)
 have d6 : ((n6 : Int) + 1 == 0) = false := by simpa using d5
 clear hn5 hrr
 go_wp2_with (first | (refine wpList_store_row rfl 39 (.tmp 10) (.tmp 32) rfl W4.heap.size (ndC nd).toArray rfl rfl 39 _ HRZ5.out HSN.out HSN2.out (ndC_one nd) ?_; rw [HW5.out]) | (refine (demand_no 430 _).mono ?_; rintro e w' ⟨rfl, rfl⟩))
 refine ⟨by simp, .inr ⟨by simp [Fence.wide], _, _, 82, #[.pointer (some ⟨w.heap.size + 1 + 1, 0, none⟩), .pointer (some ⟨w.heap.size + 1 + 1 + 1, 0, none⟩), .pointer (some ⟨w.heap.size + 1 + 1 + 1 + 1, 0, none⟩)], rfl, by simp [invoke, go_sem], fun _ _ => trivial, ?_⟩⟩
 refine (ver1_panic (w.heap.size + 1 + 1) (w.heap.size + 1 + 1 + 1) (w.heap.size + 1 + 1 + 1 + 1) 430 _ _ _ W5 HV5.out.cr HV5.out.pt HE5.out (by omega) (by omega) (by omega) _).mono ?_
 rintro e u' w'' ⟨rfl, rfl, rfl⟩
 obtain ⟨k0, k1, k2, k3⟩ := ver_left (z := 430) HV5.out.cr HV5.out.pt HE5.out (by omega) (by omega) (by omega) HB5.out (Nat.le_refl _) (by omega) (by omega) (by omega)
 refine ⟨.tuple #[.int .i64 0, .int .i64 0, .int .i64 430], ?_, rfl, k3⟩
 simp [results, Tryz.results35, asAddr, k0, k1, k2, go_sem]
theorem ver43_no4 (r : Rt) (f t m : Nat) (A : Option Addr) (n cc : Nat) (ls : List Nd) (w : World) (hr : Hid (RtOk r)) (hm : r.lin = (m : Nat)) (hft : f < t) (htm : t ≤ m) (hm4 : m ≤ 4096) (hin : Hid (InN w A n cc ls)) (hT : Hid (Tabs w)) (hl : ls.length ≤ 100000) (nd : Nd) (rr : List Nd) (c1 p1 : Int) (hv2 : vj f t 0 m ls = some (nd, rr, c1, p1)) (HNK : Hid (NdOk nd)) (hrr : rr = []) (hne : ndEq nd r.tree = false) :
  Calls Tryz.prog 35 #[.agg (rtC r).toArray, .agg #[.int .i64 (f : Nat), .int .i64 (t : Nat), .slice A n cc]] w fun e w' => e = .returned (.tuple #[.int .i64 0, .int .i64 0, .int .i64 430]) ∧ Below w.heap.size w w' := by
 have HF := hid (ftB_yes (f := (f : Int)) (t := (t : Int)) (m := (m : Int)) (by omega))
 have HIT : Hid ((Tryz.prog.info? 43).map (·.size) = some (rtC r).toArray.size) := hid (rtC_info hr.out)
 obtain ⟨W0, HW0⟩ : ∃ V, Hid (((((w.alloc (.cells (rtC r).toArray 43)).alloc (.cells #[.int .i64 (f : Nat), .int .i64 (t : Nat), .slice A n cc] 66)).alloc (.cells #[.int .i64 0] 3)).alloc (.cells #[.int .i64 0] 3)).alloc (.cells #[.int .i64 0] 31) = V) := ⟨_, hid rfl⟩
 obtain ⟨Wa, HWa⟩ : ∃ V, w.alloc (.cells (rtC r).toArray 43) = V := ⟨_, rfl⟩
 obtain ⟨Wb, HWb⟩ : ∃ V, Wa.alloc (.cells #[.int .i64 (f : Nat), .int .i64 (t : Nat), .slice A n cc] 66) = V := ⟨_, rfl⟩
 obtain ⟨Wc, HWc⟩ : ∃ V, Wb.alloc (.cells #[.int .i64 0] 3) = V := ⟨_, rfl⟩
 obtain ⟨Wd, HWd⟩ : ∃ V, Wc.alloc (.cells #[.int .i64 0] 3) = V := ⟨_, rfl⟩
 have e0 := HW0.out
 rw [HWa, HWb, HWc, HWd] at e0
 have ba := (Below.refl _ w).alloc (Nat.le_refl _) (.cells (rtC r).toArray 43)
 have bb := (Below.refl _ Wa).alloc (Nat.le_refl _) (.cells #[.int .i64 (f : Nat), .int .i64 (t : Nat), .slice A n cc] 66)
 have bc := (Below.refl _ Wb).alloc (Nat.le_refl _) (.cells #[.int .i64 0] 3)
 have bd := (Below.refl _ Wc).alloc (Nat.le_refl _) (.cells #[.int .i64 0] 3)
 have be := (Below.refl _ Wd).alloc (Nat.le_refl _) (.cells #[.int .i64 0] 31)
 have ra := heap_alloc_new w (.cells (rtC r).toArray 43)
 have rb := heap_alloc_new Wa (.cells #[.int .i64 (f : Nat), .int .i64 (t : Nat), .slice A n cc] 66)
 have rc := heap_alloc_new Wb (.cells #[.int .i64 0] 3)
 have rd := heap_alloc_new Wc (.cells #[.int .i64 0] 3)
 have re := heap_alloc_new Wd (.cells #[.int .i64 0] 31)
 have sa : Wa.heap.size = w.heap.size + 1 := by rw [← HWa]; simp
 have sb : Wb.heap.size = w.heap.size + 1 + 1 := by rw [← HWb]; simp [sa]
 have sc : Wc.heap.size = w.heap.size + 1 + 1 + 1 := by rw [← HWc]; simp [sb]
 have sd : Wd.heap.size = w.heap.size + 1 + 1 + 1 + 1 := by rw [← HWd]; simp [sc]
 have se : W0.heap.size = w.heap.size + 5 := by rw [← e0]; simp [sd]
 rw [HWa] at ba ra
 rw [HWb] at bb rb
 rw [HWc] at bc rc
 rw [HWd] at bd rd
 rw [e0] at be re
 have HR0 := hid (row_kept (row_kept (row_kept (row_kept ra bb) bc) bd) be)
 have hr1 := row_kept (row_kept (row_kept rb bc) bd) be
 have hr2 := row_kept (row_kept rc bd) be
 have hr3 := row_kept rd be
 have hr4 := re
 rw [sa] at hr1
 rw [sb] at hr2
 rw [sc] at hr3
 rw [sd] at hr4
 have HR1 := hid hr1
 have HR2 := hid hr2
 have HR3 := hid hr3
 have HR4 := hid hr4
 have HB0 := hid ((((ba.trans (bb.mono (by omega))).trans (bc.mono (by omega))).trans (bd.mono (by omega))).trans (be.mono (by omega)))
 have HS0 := hid se
 clear e0 ba bb bc bd be ra rb rc rd re sa sb sc sd se hr1 hr2 hr3 hr4 HWa HWb HWc HWd Wa Wb Wc Wd
 have cl4 : W0.cell? ⟨w.heap.size, 4, none⟩ = some (.int .i64 r.lin) := by rw [cell_of_row _ _ 4 _ _ _ HR0.out]; simp [rtC, hm]
 have cp0 := cell_of_row _ _ 0 _ _ _ HR1.out
 have cp1 := cell_of_row _ _ 1 _ _ _ HR1.out
 have cp2 := cell_of_row _ _ 2 _ _ _ HR1.out
 obtain ⟨W1, HW1⟩ : ∃ V, Hid (W0.alloc (.cells #[.int .i64 (f : Nat), .int .i64 (t : Nat)] 119) = V) := ⟨_, hid rfl⟩
 have b1 := (Below.refl _ W0).alloc (Nat.le_refl _) (.cells #[.int .i64 (f : Nat), .int .i64 (t : Nat)] 119)
 have q1 := heap_alloc_new W0 (.cells #[.int .i64 (f : Nat), .int .i64 (t : Nat)] 119)
 have s1 : W1.heap.size = W0.heap.size + 1 := by rw [← HW1.out]; simp
 rw [HW1.out] at b1 q1
 obtain ⟨W2, HW2⟩ : ∃ V, Hid (W1.alloc (.cells #[.slice A n cc] 30) = V) := ⟨_, hid rfl⟩
 have b2 := (Below.refl _ W1).alloc (Nat.le_refl _) (.cells #[.slice A n cc] 30)
 have q2 := heap_alloc_new W1 (.cells #[.slice A n cc] 30)
 have s2 : W2.heap.size = W1.heap.size + 1 := by rw [← HW2.out]; simp
 rw [HW2.out] at b2 q2
 have cq2 := cell_of_row _ _ 2 _ _ _ (row_kept HR1.out b1)
 have HB1 := hid b1
 have HB2 := hid b2
 have HQ1 := hid q1
 have HQ2 := hid q2
 have HS1 := hid s1
 have HS2 := hid s2
 obtain ⟨W3, HW3⟩ : ∃ V, Hid (W2.alloc (.cells #[jnV W0.heap.size W1.heap.size (w.heap.size + 1 + 1) (w.heap.size + 1 + 1 + 1) W2.heap.size] 132) = V) := ⟨_, hid rfl⟩
 have b3 := (Below.refl _ W2).alloc (Nat.le_refl _) (.cells #[jnV W0.heap.size W1.heap.size (w.heap.size + 1 + 1) (w.heap.size + 1 + 1 + 1) W2.heap.size] 132)
 have q3 := heap_alloc_new W2 (.cells #[jnV W0.heap.size W1.heap.size (w.heap.size + 1 + 1) (w.heap.size + 1 + 1 + 1) W2.heap.size] 132)
 have s3 : W3.heap.size = W2.heap.size + 1 := by rw [← HW3.out]; simp
 rw [HW3.out] at b3 q3
 have b123 := (b1.trans (b2.mono (by omega))).trans (b3.mono (by omega))
 have bw3 := HB0.out.trans (b123.mono HB0.out.size)
 have s0 := HS0.out
 have HX : Hid (BX w W0.heap.size W1.heap.size (w.heap.size + 1 + 1) (w.heap.size + 1 + 1 + 1) W2.heap.size) := hid (by constructor <;> omega)
 have HV : Hid (VJ w W0.heap.size W1.heap.size (w.heap.size + 1 + 1) (w.heap.size + 1 + 1 + 1) W2.heap.size f t W3 ls 0 0) := hid ⟨bw3, row_kept (row_kept q1 b2) b3, ⟨A, n, cc, row_kept q2 b3, hin.out⟩, row_kept HR2.out b123, row_kept HR3.out b123, q3⟩
 have HC := hid (v2_all f t hft 0 m (by omega) hm4 w W0.heap.size W1.heap.size (w.heap.size + 1 + 1) (w.heap.size + 1 + 1 + 1) W2.heap.size HX hT W3 ls 0 0 HV hl (by simp))
 have HR03 := hid (row_kept HR0.out b123)
 have HR43 := hid (row_kept HR4.out b123)
 have HBW3 := hid bw3
 have HS3 := hid (show W3.heap.size = w.heap.size + 8 ∧ W0.heap.size = w.heap.size + 5 ∧ W1.heap.size = w.heap.size + 6 ∧ W2.heap.size = w.heap.size + 7 by omega)
 have cl43 : W3.cell? ⟨w.heap.size, 4, none⟩ = some (.int .i64 (m : Nat)) := by rw [cell_of_row _ _ 4 _ _ _ HR03.out]; simp [rtC, hm]
 have cj3 := cell_of_row _ _ 0 _ _ _ q3
 simp only [List.getElem?_toArray, List.getElem?_cons_zero] at cj3
 unfold jnV at cj3 HW3
 clear b1 b2 q1 q2 s1 s2 b3 q3 s3 b123 bw3 s0
 have hmf : ∀ (fn : Fn) (first cap : Array Value) (w : World), (Instr.makeFunc fn first cap).run Tryz.prog w = .ok (.func fn first cap) w := fun _ _ _ _ => rfl
 refine (callsIn_wide (n := 5)).1 ?_
 refine callsIn_of_wp_marks Tryz.func35 rfl trivial ?_ rfl
 simp only [Tryz.ntmps35, List.size_toArray, List.length_cons, List.length_nil, Nat.reduceAdd, Nat.reduceSub, Array.replicate_succ, Array.replicate_zero, List.push_toArray, List.append_toArray, List.nil_append, List.cons_append]
 rw [wpIn_wide]
 go_wp2_with (first | (rw [HW0.out]) | (rw [HW1.out]) | (rw [HW2.out]) | (rw [HW3.out]) | (refine (fits_any _ _ _ _).mono ?_; rintro e w' ⟨rfl, rfl⟩; rw [HF.out]) | (refine (demand_yes 430 _).mono ?_; rintro e w' ⟨rfl, rfl⟩))
 refine HC.out.mono ?_
 intro e W4 hq
 rw [hv2] at hq
 obtain ⟨hk, rfl, hv⟩ := hq
 have hs3 := HS3.out
 have hr04 := hk.row HR03.out (by omega) (by omega) (by omega)
 have he4 := hk.row HR43.out (by omega) (by omega) (by omega)
 obtain ⟨W5, HW5⟩ : ∃ V, Hid ((W4.alloc (.cells (ndC zeroN).toArray 39)).setRow W4.heap.size (ndC nd).toArray = V) := ⟨_, hid rfl⟩
 have HRZ5 := hid (heap_alloc_new W4 (.cells (ndC zeroN).toArray 39))
 have hl5 := laid_row W4 (ndC zeroN).toArray (ndC nd).toArray 39
 rw [HW5.out] at hl5
 have HV5 := hid (hv.below hl5.1)
 have HB5 := hid ((HBW3.out.trans hk.bel).trans (hl5.1.mono (HBW3.out.trans hk.bel).size))
 have HR5 := hid (row_kept hr04 hl5.1)
 have HE5 := hid (row_kept he4 hl5.1)
 have HN5 := hid hl5.2.2
 have HSN : Hid ((Tryz.prog.info? 39).map (·.size) = some (ndC nd).toArray.size) := hid (by rw [size34 HNK.out]; simp)
 have HSN2 : Hid (34 = (ndC nd).toArray.size) := hid (by simp [ndC_length HNK.out])
 obtain ⟨A5, n5, cc5, hre5, hin5⟩ := HV5.out.rest
 have cre := cell_of_row _ _ 0 _ _ _ hre5
 have HI5 := hid hin5
 rw [zeroN_cells] at HRZ5 HW5
 clear hk hv hs3 hr04 he4 hl5 hre5 hin5 hv2
 have hn5 : n5 = 0 := by have := HI5.out.len; rw [hrr] at this; simpa using this.symm
 subst hn5
 have HRT : Hid (W5.rangeAt w.heap.size 6 (ndC r.tree)) := hid (fun j v hj => by
  rw [cell_of_row _ _ _ _ _ _ HR5.out]
  have hlj := (List.getElem?_eq_some_iff.1 hj).1
  simp only [List.getElem?_toArray]
  unfold rtC
  rw [List.getElem?_append_right (by simp), List.getElem?_append_left (by simpa using hlj)]
  simpa using hj)
 have HST : Hid ((Tryz.prog.info? 39).map (·.size) = some (ndC r.tree).length) := hid (by have := size34 hr.out.tree; simpa using this)
 clear hrr
 go_wp2_with (first | (refine wpList_store_row rfl 39 (.tmp 10) (.tmp 32) rfl W4.heap.size (ndC nd).toArray rfl rfl 39 _ HRZ5.out HSN.out HSN2.out (ndC_one nd) ?_; rw [HW5.out]) | (refine wpList_unguard rfl ?_; refine wpList_load_row rfl 39 (.tmp 10) rfl W4.heap.size rfl 39 _ (0, 0) _ HN5.out Tryz.underlying39 rfl HSN.out ?_) | (refine wpList_unguard rfl ?_; refine wpList_load_mid rfl 39 (.tmp 38) rfl w.heap.size 6 rfl (ndC r.tree) _ HRT.out Tryz.underlying39 rfl HST.out ?_) | (refine wpList_unguard rfl ?_; refine wpList_eql_nd rfl (.tmp 37) (.tmp 39) _ rfl nd r.tree rfl rfl HNK.out hr.out.tree ?_; rw [hne]) | (refine (demand_no 430 _).mono ?_; rintro e w' ⟨rfl, rfl⟩))
 refine ⟨by simp, .inr ⟨by simp [Fence.wide], _, _, 82, #[.pointer (some ⟨w.heap.size + 1 + 1, 0, none⟩), .pointer (some ⟨w.heap.size + 1 + 1 + 1, 0, none⟩), .pointer (some ⟨w.heap.size + 1 + 1 + 1 + 1, 0, none⟩)], rfl, by simp [invoke, go_sem], fun _ _ => trivial, ?_⟩⟩
 refine (ver1_panic (w.heap.size + 1 + 1) (w.heap.size + 1 + 1 + 1) (w.heap.size + 1 + 1 + 1 + 1) 430 _ _ _ W5 HV5.out.cr HV5.out.pt HE5.out (by omega) (by omega) (by omega) _).mono ?_
 rintro e u' w'' ⟨rfl, rfl, rfl⟩
 obtain ⟨k0, k1, k2, k3⟩ := ver_left (z := 430) HV5.out.cr HV5.out.pt HE5.out (by omega) (by omega) (by omega) HB5.out (Nat.le_refl _) (by omega) (by omega) (by omega)
 refine ⟨.tuple #[.int .i64 0, .int .i64 0, .int .i64 430], ?_, rfl, k3⟩
 simp [results, Tryz.results35, asAddr, k0, k1, k2, go_sem]
/-- what holds while Verify writes its results -/
structure C9 (q : Nat) (w : World) (c p : Int) (w' : World) : Prop where
 bel : Below q w w'
 cr : w'.heap[q + 1 + 1]? = some (.cells #[.int .i64 c] 3 (0, 0))
 pt : w'.heap[q + 1 + 1 + 1]? = some (.cells #[.int .i64 p] 3 (0, 0))
 er : w'.heap[q + 1 + 1 + 1 + 1]? = some (.cells #[.int .i64 0] 31 (0, 0))
theorem C9.below {q : Nat} {w w' w'' : World} {c p : Int} (h : C9 q w c p w') (hb : Below w'.heap.size w' w'') (hq : q ≤ w'.heap.size) : C9 q w c p w'' := ⟨h.bel.trans (hb.mono hq), row_kept h.cr hb, row_kept h.pt hb, row_kept h.er hb⟩
theorem C9.setC {q : Nat} {w w' : World} {c p : Int} (h : C9 q w c p w') : C9 q w c p (w'.setCell ⟨q + 1 + 1, 0, none⟩ (.int .i64 c)) := by
 obtain ⟨e1, e2, e3⟩ := set_one (v := .int .i64 c) h.cr
 exact ⟨h.bel.setCell (p := ⟨q + 1 + 1, 0, none⟩) (show q ≤ q + 1 + 1 by omega) _, e1, (e2 _ (by omega)).trans h.pt, (e2 _ (by omega)).trans h.er⟩
theorem C9.setP {q : Nat} {w w' : World} {c p : Int} (h : C9 q w c p w') : C9 q w c p (w'.setCell ⟨q + 1 + 1 + 1, 0, none⟩ (.int .i64 p)) := by
 obtain ⟨e1, e2, e3⟩ := set_one (v := .int .i64 p) h.pt
 exact ⟨h.bel.setCell (p := ⟨q + 1 + 1 + 1, 0, none⟩) (show q ≤ q + 1 + 1 + 1 by omega) _, (e2 _ (by omega)).trans h.cr, e1, (e2 _ (by omega)).trans h.er⟩
theorem C9.setE {q : Nat} {w w' : World} {c p : Int} (h : C9 q w c p w') : C9 q w c p (w'.setCell ⟨q + 1 + 1 + 1 + 1, 0, none⟩ (.int .i64 0)) := by
 obtain ⟨e1, e2, e3⟩ := set_one (v := .int .i64 0) h.er
 exact ⟨h.bel.setCell (p := ⟨q + 1 + 1 + 1 + 1, 0, none⟩) (show q ≤ q + 1 + 1 + 1 + 1 by omega) _, (e2 _ (by omega)).trans h.cr, (e2 _ (by omega)).trans h.pt, e1⟩
def s9 (c p : Int) : Nat → Value → World → Prop
 | 0, fv, _ => fv = .int .i64 c
 | 1, fv, _ => fv = .int .i64 p
 | _, _, _ => True
theorem s9_keep {c p : Int} {w w' : World} : ∀ j u, s9 c p j u w → s9 c p j u w'
 | 0, u, h => h
 | 1, u, h => h
 | n + 2, u, h => trivial
theorem ver43_yes (r : Rt) (f t m : Nat) (A : Option Addr) (n cc : Nat) (ls : List Nd) (w : World) (hr : Hid (RtOk r)) (hm : r.lin = (m : Nat)) (hft : f < t) (htm : t ≤ m) (hm4 : m ≤ 4096) (hin : Hid (InN w A n cc ls)) (hT : Hid (Tabs w)) (hl : ls.length ≤ 100000) (nd : Nd) (rr : List Nd) (c1 p1 : Int) (hv2 : vj f t 0 m ls = some (nd, rr, c1, p1)) (HNK : Hid (NdOk nd)) (hrr : rr = []) (hne : ndEq nd r.tree = true) :
  Calls Tryz.prog 35 #[.agg (rtC r).toArray, .agg #[.int .i64 (f : Nat), .int .i64 (t : Nat), .slice A n cc]] w fun e w' => e = .returned (.tuple #[.int .i64 c1, .int .i64 p1, .int .i64 0]) ∧ Below w.heap.size w w' := by
 have HF := hid (ftB_yes (f := (f : Int)) (t := (t : Int)) (m := (m : Int)) (by omega))
 have HIT : Hid ((Tryz.prog.info? 43).map (·.size) = some (rtC r).toArray.size) := hid (rtC_info hr.out)
 obtain ⟨W0, HW0⟩ : ∃ V, Hid (((((w.alloc (.cells (rtC r).toArray 43)).alloc (.cells #[.int .i64 (f : Nat), .int .i64 (t : Nat), .slice A n cc] 66)).alloc (.cells #[.int .i64 0] 3)).alloc (.cells #[.int .i64 0] 3)).alloc (.cells #[.int .i64 0] 31) = V) := ⟨_, hid rfl⟩
 obtain ⟨Wa, HWa⟩ : ∃ V, w.alloc (.cells (rtC r).toArray 43) = V := ⟨_, rfl⟩
 obtain ⟨Wb, HWb⟩ : ∃ V, Wa.alloc (.cells #[.int .i64 (f : Nat), .int .i64 (t : Nat), .slice A n cc] 66) = V := ⟨_, rfl⟩
 obtain ⟨Wc, HWc⟩ : ∃ V, Wb.alloc (.cells #[.int .i64 0] 3) = V := ⟨_, rfl⟩
 obtain ⟨Wd, HWd⟩ : ∃ V, Wc.alloc (.cells #[.int .i64 0] 3) = V := ⟨_, rfl⟩
 have e0 := HW0.out
 rw [HWa, HWb, HWc, HWd] at e0
 have ba := (Below.refl _ w).alloc (Nat.le_refl _) (.cells (rtC r).toArray 43)
 have bb := (Below.refl _ Wa).alloc (Nat.le_refl _) (.cells #[.int .i64 (f : Nat), .int .i64 (t : Nat), .slice A n cc] 66)
 have bc := (Below.refl _ Wb).alloc (Nat.le_refl _) (.cells #[.int .i64 0] 3)
 have bd := (Below.refl _ Wc).alloc (Nat.le_refl _) (.cells #[.int .i64 0] 3)
 have be := (Below.refl _ Wd).alloc (Nat.le_refl _) (.cells #[.int .i64 0] 31)
 have ra := heap_alloc_new w (.cells (rtC r).toArray 43)
 have rb := heap_alloc_new Wa (.cells #[.int .i64 (f : Nat), .int .i64 (t : Nat), .slice A n cc] 66)
 have rc := heap_alloc_new Wb (.cells #[.int .i64 0] 3)
 have rd := heap_alloc_new Wc (.cells #[.int .i64 0] 3)
 have re := heap_alloc_new Wd (.cells #[.int .i64 0] 31)
 have sa : Wa.heap.size = w.heap.size + 1 := by rw [← HWa]; simp
 have sb : Wb.heap.size = w.heap.size + 1 + 1 := by rw [← HWb]; simp [sa]
 have sc : Wc.heap.size = w.heap.size + 1 + 1 + 1 := by rw [← HWc]; simp [sb]
 have sd : Wd.heap.size = w.heap.size + 1 + 1 + 1 + 1 := by rw [← HWd]; simp [sc]
 have se : W0.heap.size = w.heap.size + 5 := by rw [← e0]; simp [sd]
 rw [HWa] at ba ra
 rw [HWb] at bb rb
 rw [HWc] at bc rc
 rw [HWd] at bd rd
 rw [e0] at be re
 have HR0 := hid (row_kept (row_kept (row_kept (row_kept ra bb) bc) bd) be)
 have hr1 := row_kept (row_kept (row_kept rb bc) bd) be
 have hr2 := row_kept (row_kept rc bd) be
 have hr3 := row_kept rd be
 have hr4 := re
 rw [sa] at hr1
 rw [sb] at hr2
 rw [sc] at hr3
 rw [sd] at hr4
 have HR1 := hid hr1
 have HR2 := hid hr2
 have HR3 := hid hr3
 have HR4 := hid hr4
 have HB0 := hid ((((ba.trans (bb.mono (by omega))).trans (bc.mono (by omega))).trans (bd.mono (by omega))).trans (be.mono (by omega)))
 have HS0 := hid se
 clear e0 ba bb bc bd be ra rb rc rd re sa sb sc sd se hr1 hr2 hr3 hr4 HWa HWb HWc HWd Wa Wb Wc Wd
 have cl4 : W0.cell? ⟨w.heap.size, 4, none⟩ = some (.int .i64 r.lin) := by rw [cell_of_row _ _ 4 _ _ _ HR0.out]; simp [rtC, hm]
 have cp0 := cell_of_row _ _ 0 _ _ _ HR1.out
 have cp1 := cell_of_row _ _ 1 _ _ _ HR1.out
 have cp2 := cell_of_row _ _ 2 _ _ _ HR1.out
 obtain ⟨W1, HW1⟩ : ∃ V, Hid (W0.alloc (.cells #[.int .i64 (f : Nat), .int .i64 (t : Nat)] 119) = V) := ⟨_, hid rfl⟩
 have b1 := (Below.refl _ W0).alloc (Nat.le_refl _) (.cells #[.int .i64 (f : Nat), .int .i64 (t : Nat)] 119)
 have q1 := heap_alloc_new W0 (.cells #[.int .i64 (f : Nat), .int .i64 (t : Nat)] 119)
 have s1 : W1.heap.size = W0.heap.size + 1 := by rw [← HW1.out]; simp
 rw [HW1.out] at b1 q1
 obtain ⟨W2, HW2⟩ : ∃ V, Hid (W1.alloc (.cells #[.slice A n cc] 30) = V) := ⟨_, hid rfl⟩
 have b2 := (Below.refl _ W1).alloc (Nat.le_refl _) (.cells #[.slice A n cc] 30)
 have q2 := heap_alloc_new W1 (.cells #[.slice A n cc] 30)
 have s2 : W2.heap.size = W1.heap.size + 1 := by rw [← HW2.out]; simp
 rw [HW2.out] at b2 q2
 have cq2 := cell_of_row _ _ 2 _ _ _ (row_kept HR1.out b1)
 have HB1 := hid b1
 have HB2 := hid b2
 have HQ1 := hid q1
 have HQ2 := hid q2
 have HS1 := hid s1
 have HS2 := hid s2
 obtain ⟨W3, HW3⟩ : ∃ V, Hid (W2.alloc (.cells #[jnV W0.heap.size W1.heap.size (w.heap.size + 1 + 1) (w.heap.size + 1 + 1 + 1) W2.heap.size] 132) = V) := ⟨_, hid rfl⟩
 have b3 := (Below.refl _ W2).alloc (Nat.le_refl _) (.cells #[jnV W0.heap.size W1.heap.size (w.heap.size + 1 + 1) (w.heap.size + 1 + 1 + 1) W2.heap.size] 132)
 have q3 := heap_alloc_new W2 (.cells #[jnV W0.heap.size W1.heap.size (w.heap.size + 1 + 1) (w.heap.size + 1 + 1 + 1) W2.heap.size] 132)
 have s3 : W3.heap.size = W2.heap.size + 1 := by rw [← HW3.out]; simp
 rw [HW3.out] at b3 q3
 have b123 := (b1.trans (b2.mono (by omega))).trans (b3.mono (by omega))
 have bw3 := HB0.out.trans (b123.mono HB0.out.size)
 have s0 := HS0.out
 have HX : Hid (BX w W0.heap.size W1.heap.size (w.heap.size + 1 + 1) (w.heap.size + 1 + 1 + 1) W2.heap.size) := hid (by constructor <;> omega)
 have HV : Hid (VJ w W0.heap.size W1.heap.size (w.heap.size + 1 + 1) (w.heap.size + 1 + 1 + 1) W2.heap.size f t W3 ls 0 0) := hid ⟨bw3, row_kept (row_kept q1 b2) b3, ⟨A, n, cc, row_kept q2 b3, hin.out⟩, row_kept HR2.out b123, row_kept HR3.out b123, q3⟩
 have HC := hid (v2_all f t hft 0 m (by omega) hm4 w W0.heap.size W1.heap.size (w.heap.size + 1 + 1) (w.heap.size + 1 + 1 + 1) W2.heap.size HX hT W3 ls 0 0 HV hl (by simp))
 have HR03 := hid (row_kept HR0.out b123)
 have HR43 := hid (row_kept HR4.out b123)
 have HBW3 := hid bw3
 have HS3 := hid (show W3.heap.size = w.heap.size + 8 ∧ W0.heap.size = w.heap.size + 5 ∧ W1.heap.size = w.heap.size + 6 ∧ W2.heap.size = w.heap.size + 7 by omega)
 have cl43 : W3.cell? ⟨w.heap.size, 4, none⟩ = some (.int .i64 (m : Nat)) := by rw [cell_of_row _ _ 4 _ _ _ HR03.out]; simp [rtC, hm]
 have cj3 := cell_of_row _ _ 0 _ _ _ q3
 simp only [List.getElem?_toArray, List.getElem?_cons_zero] at cj3
 unfold jnV at cj3 HW3
 clear b1 b2 q1 q2 s1 s2 b3 q3 s3 b123 bw3 s0
 have hmf : ∀ (fn : Fn) (first cap : Array Value) (w : World), (Instr.makeFunc fn first cap).run Tryz.prog w = .ok (.func fn first cap) w := fun _ _ _ _ => rfl
 refine (callsIn_wide (n := 5)).1 ?_
 refine callsIn_of_wp_marks Tryz.func35 rfl trivial ?_ rfl
 simp only [Tryz.ntmps35, List.size_toArray, List.length_cons, List.length_nil, Nat.reduceAdd, Nat.reduceSub, Array.replicate_succ, Array.replicate_zero, List.push_toArray, List.append_toArray, List.nil_append, List.cons_append]
 rw [wpIn_wide]
 go_wp2_with (first | (rw [HW0.out]) | (rw [HW1.out]) | (rw [HW2.out]) | (rw [HW3.out]) | (refine (fits_any _ _ _ _).mono ?_; rintro e w' ⟨rfl, rfl⟩; rw [HF.out]) | (refine (demand_yes 430 _).mono ?_; rintro e w' ⟨rfl, rfl⟩))
 refine HC.out.mono ?_
 intro e W4 hq
 rw [hv2] at hq
 obtain ⟨hk, rfl, hv⟩ := hq
 have hs3 := HS3.out
 have hr04 := hk.row HR03.out (by omega) (by omega) (by omega)
 have he4 := hk.row HR43.out (by omega) (by omega) (by omega)
 obtain ⟨W5, HW5⟩ : ∃ V, Hid ((W4.alloc (.cells (ndC zeroN).toArray 39)).setRow W4.heap.size (ndC nd).toArray = V) := ⟨_, hid rfl⟩
 have HRZ5 := hid (heap_alloc_new W4 (.cells (ndC zeroN).toArray 39))
 have hl5 := laid_row W4 (ndC zeroN).toArray (ndC nd).toArray 39
 rw [HW5.out] at hl5
 have HV5 := hid (hv.below hl5.1)
 have HB5 := hid ((HBW3.out.trans hk.bel).trans (hl5.1.mono (HBW3.out.trans hk.bel).size))
 have HR5 := hid (row_kept hr04 hl5.1)
 have HE5 := hid (row_kept he4 hl5.1)
 have HN5 := hid hl5.2.2
 have HSN : Hid ((Tryz.prog.info? 39).map (·.size) = some (ndC nd).toArray.size) := hid (by rw [size34 HNK.out]; simp)
 have HSN2 : Hid (34 = (ndC nd).toArray.size) := hid (by simp [ndC_length HNK.out])
 obtain ⟨A5, n5, cc5, hre5, hin5⟩ := HV5.out.rest
 have cre := cell_of_row _ _ 0 _ _ _ hre5
 have HI5 := hid hin5
 rw [zeroN_cells] at HRZ5 HW5
 clear hk hv hs3 hr04 he4 hl5 hre5 hin5 hv2
 have hn5 : n5 = 0 := by have := HI5.out.len; rw [hrr] at this; simpa using this.symm
 subst hn5
 have HRT : Hid (W5.rangeAt w.heap.size 6 (ndC r.tree)) := hid (fun j v hj => by
  rw [cell_of_row _ _ _ _ _ _ HR5.out]
  have hlj := (List.getElem?_eq_some_iff.1 hj).1
  simp only [List.getElem?_toArray]
  unfold rtC
  rw [List.getElem?_append_right (by simp), List.getElem?_append_left (by simpa using hlj)]
  simpa using hj)
 have HST : Hid ((Tryz.prog.info? 39).map (·.size) = some (ndC r.tree).length) := hid (by have := size34 hr.out.tree; simpa using this)
 clear hrr
 go_wp2_with (first | (refine wpList_store_row rfl 39 (.tmp 10) (.tmp 32) rfl W4.heap.size (ndC nd).toArray rfl rfl 39 _ HRZ5.out HSN.out HSN2.out (ndC_one nd) ?_; rw [HW5.out]) | (refine wpList_unguard rfl ?_; refine wpList_load_row rfl 39 (.tmp 10) rfl W4.heap.size rfl 39 _ (0, 0) _ HN5.out Tryz.underlying39 rfl HSN.out ?_) | (refine wpList_unguard rfl ?_; refine wpList_load_mid rfl 39 (.tmp 38) rfl w.heap.size 6 rfl (ndC r.tree) _ HRT.out Tryz.underlying39 rfl HST.out ?_) | (refine wpList_unguard rfl ?_; refine wpList_eql_nd rfl (.tmp 37) (.tmp 39) _ rfl nd r.tree rfl rfl HNK.out hr.out.tree ?_; rw [hne]) | (refine (demand_yes 430 _).mono ?_; rintro e w' ⟨rfl, rfl⟩))
 have HC9 : Hid (C9 w.heap.size w c1 p1 W5.drew) := hid ((show C9 w.heap.size w c1 p1 W5 from ⟨HB5.out, by have := HV5.out.cr; rwa [Int.zero_add] at this, by have := HV5.out.pt; rwa [Int.zero_add] at this, HE5.out⟩).below (Below.refl _ _).drew HB5.out.size)
 refine region_flow3 (by kernel_rfl) (by kernel_rfl) (fun i => false) (fun i => i) (by kernel_rfl) (fun fx => #[.agg (rtC r).toArray, .agg #[.int IntKind.i64 (f : Nat), .int IntKind.i64 (t : Nat), .slice A n cc], .pointer (some { block := w.heap.size, off := 0 }), .pointer (some { block := w.heap.size + 1, off := 0 }), .pointer (some { block := w.heap.size + 1 + 1, off := 0 }), .pointer (some { block := w.heap.size + 1 + 1 + 1, off := 0 }), .pointer (some { block := w.heap.size + 1 + 1 + 1 + 1, off := 0 }), .pointer (some { block := W0.heap.size, off := 0 }), .pointer (some { block := W1.heap.size, off := 0 }), .pointer (some { block := W2.heap.size, off := 0 }), .pointer (some { block := W4.heap.size, off := 0 }), .func (Fn.func 82) #[] #[.pointer (some { block := w.heap.size + 1 + 1, off := 0 }), .pointer (some { block := w.heap.size + 1 + 1 + 1, off := 0 }), .pointer (some { block := w.heap.size + 1 + 1 + 1 + 1, off := 0 })], .pointer (some { block := w.heap.size + 1, off := 0 }), .int IntKind.i64 (f : Nat), .pointer (some { block := w.heap.size + 1, off := 1 }), .int IntKind.i64 (t : Nat), .pointer (some { block := w.heap.size, off := 4 }), .int IntKind.i64 (m : Nat), .bool true, .tuple #[], .pointer (some { block := w.heap.size + 1, off := 0 }), .int IntKind.i64 (f : Nat), .pointer (some { block := w.heap.size + 1, off := 1 }), .int IntKind.i64 (t : Nat), .agg #[.int IntKind.i64 (f : Nat), .int IntKind.i64 (t : Nat)], .pointer (some { block := w.heap.size + 1, off := 2 }), .slice A n cc, .func (Fn.func 83) #[] #[.pointer (some { block := W0.heap.size, off := 0 }), .pointer (some { block := W1.heap.size, off := 0 }), .pointer (some { block := w.heap.size + 1 + 1, off := 0 }), .pointer (some { block := w.heap.size + 1 + 1 + 1, off := 0 }), .pointer (some { block := W2.heap.size, off := 0 })], .func (Fn.func 83) #[] #[.pointer (some { block := W0.heap.size, off := 0 }), .pointer (some { block := W1.heap.size, off := 0 }), .pointer (some { block := w.heap.size + 1 + 1, off := 0 }), .pointer (some { block := w.heap.size + 1 + 1 + 1, off := 0 }), .pointer (some { block := W2.heap.size, off := 0 })], .pointer (some { block := w.heap.size, off := 4 }), .int IntKind.i64 (m : Nat), .agg #[.int IntKind.i64 0, .int IntKind.i64 (m : Nat)], ndV nd, .slice A5 0 cc5, .int IntKind.i64 0, .bool true, .bool true, .agg (ndC nd).toArray, .pointer (some { block := w.heap.size, off := 6 }), .agg (ndC r.tree).toArray, .bool true, .bool true, .tuple #[], fx 0, fx 1]) (fun _ => undef) (fun _ _ w' => C9 w.heap.size w c1 p1 w') (fun fi fv _ fw => s9 c1 p1 fi fv fw) HC9.out ?_ ?_
 ·refine ⟨?_, ?_, ?_, ?_, ?_, trivial⟩
  all_goals intro L fx w' hC hi hcl hdn hd
  ·have k := cell_of_row _ _ 0 _ _ _ hC.cr
   go_wp2_with fail
   exact ⟨_, rfl, hC, rfl, fun j u t _ _ h => s9_keep j u h⟩
  ·have k := cell_of_row _ _ 0 _ _ _ hC.pt
   go_wp2_with fail
   exact ⟨_, rfl, hC, rfl, fun j u t _ _ h => s9_keep j u h⟩
  ·have h0 : fx 0 = .int .i64 c1 := hd.1 rfl
   have k := cell_of_row _ _ 0 _ _ _ hC.cr
   have k2 := frozen_of_row _ _ 0 _ _ hC.cr
   go_wp2_with fail
   exact ⟨undef, (by first | rfl | (rw [← h0]; rfl)), hC.setC, trivial, fun j u t _ _ h => s9_keep j u h⟩
  ·have h1 : fx 1 = .int .i64 p1 := hd.1 rfl
   have k := cell_of_row _ _ 0 _ _ _ hC.pt
   have k2 := frozen_of_row _ _ 0 _ _ hC.pt
   go_wp2_with fail
   exact ⟨undef, (by first | rfl | (rw [← h1]; rfl)), hC.setP, trivial, fun j u t _ _ h => s9_keep j u h⟩
  ·have k := cell_of_row _ _ 0 _ _ _ hC.er
   have k2 := frozen_of_row _ _ 0 _ _ hC.er
   go_wp2_with fail
   exact ⟨undef, rfl, hC.setE, trivial, fun j u t _ _ h => s9_keep j u h⟩
 ·intro L fx w' hC hS
  clear hS
  go_wp2_with fail
  refine ⟨by simp, .inr ⟨by simp [Fence.wide], _, _, 82, #[.pointer (some ⟨w.heap.size + 1 + 1, 0, none⟩), .pointer (some ⟨w.heap.size + 1 + 1 + 1, 0, none⟩), .pointer (some ⟨w.heap.size + 1 + 1 + 1 + 1, 0, none⟩)], rfl, by simp [invoke, go_sem], fun _ _ => trivial, ?_⟩⟩
  refine (ver1_idle _ _ _ _ _).mono ?_
  rintro e u' w'' ⟨rfl, rfl, rfl⟩
  have k0 := cell_of_row _ _ 0 _ _ _ hC.cr
  have k1 := cell_of_row _ _ 0 _ _ _ hC.pt
  have k2 := cell_of_row _ _ 0 _ _ _ hC.er
  simp only [List.getElem?_toArray, List.getElem?_cons_zero] at k0 k1 k2
  refine ⟨.tuple #[.int .i64 c1, .int .i64 p1, .int .i64 0], ?_, rfl, hC.bel⟩
  simp [results, Tryz.results35, asAddr, k0, k1, k2, go_sem]
/-- what Verify returns: credits, points, error -/
def vfS (m : Int) (tree : Nd) (f t : Int) (ls : List Nd) : Int × Int × Int :=
 if ftB f t m then
  match vj f.toNat t.toNat 0 m.toNat ls with
  | some (nd, [], c, p) => if ndEq nd tree then (c, p, 0) else (0, 0, 430)
  | _ => (0, 0, 430)
 else (0, 0, 430)
theorem ftB_iff {f t m : Int} (h : ftB f t m = true) : 0 ≤ f ∧ f < t ∧ t ≤ m ∧ m ≤ 4096 := by
 unfold ftB at h
 simpa using h
theorem verify43 (r : Rt) (f t : Int) (A : Option Addr) (n cc : Nat) (ls : List Nd) (w : World) (hr : Hid (RtOk r)) (hin : Hid (InN w A n cc ls)) (hT : Hid (Tabs w)) (hl : ls.length ≤ 100000) :
  Calls Tryz.prog 35 #[.agg (rtC r).toArray, .agg #[.int .i64 f, .int .i64 t, .slice A n cc]] w fun e w' => e = .returned (.tuple #[.int .i64 (vfS r.lin r.tree f t ls).1, .int .i64 (vfS r.lin r.tree f t ls).2.1, .int .i64 (vfS r.lin r.tree f t ls).2.2]) ∧ Below w.heap.size w w' := by
 cases hf : ftB f t r.lin with
 | false =>
  rw [show vfS r.lin r.tree f t ls = (0, 0, 430) by unfold vfS; rw [hf]; rfl]
  exact ver43_no1 r f t A n cc w hr (hid hf)
 | true =>
  obtain ⟨h0, h1, h2, h3⟩ := ftB_iff hf
  obtain ⟨f', rfl⟩ : ∃ k : Nat, f = (k : Int) := ⟨f.toNat, by omega⟩
  obtain ⟨t', rfl⟩ : ∃ k : Nat, t = (k : Int) := ⟨t.toNat, by omega⟩
  obtain ⟨m, hm⟩ : ∃ k : Nat, r.lin = (k : Int) := ⟨r.lin.toNat, by omega⟩
  have hft : f' < t' := by omega
  have htm : t' ≤ m := by omega
  have hm4 : m ≤ 4096 := by omega
  have hok : ∀ x ∈ ls, NdOk x := hin.out.ok
  cases hv : vj f' t' 0 m ls with
  | none =>
   rw [show vfS r.lin r.tree (f' : Int) (t' : Int) ls = (0, 0, 430) by unfold vfS; rw [hf, hm]; simp [hv]]
   exact ver43_no2 r f' t' m A n cc ls w hr hm hft htm hm4 hin hT hl hv
  | some q =>
   obtain ⟨nd, rr, c1, p1⟩ := q
   have hnd := hid (vj_okN hft 0 m (by omega) _ _ _ _ _ hok hv)
   cases rr with
   | cons x xs =>
    rw [show vfS r.lin r.tree (f' : Int) (t' : Int) ls = (0, 0, 430) by unfold vfS; rw [hf, hm]; simp [hv]]
    exact ver43_no3 r f' t' m A n cc ls w hr hm hft htm hm4 hin hT hl nd _ c1 p1 hv hnd (by simp)
   | nil =>
    cases he : ndEq nd r.tree with
    | false =>
     rw [show vfS r.lin r.tree (f' : Int) (t' : Int) ls = (0, 0, 430) by unfold vfS; rw [hf, hm]; simp [hv, he]]
     exact ver43_no4 r f' t' m A n cc ls w hr hm hft htm hm4 hin hT hl nd _ c1 p1 hv hnd rfl he
    | true =>
     rw [show vfS r.lin r.tree (f' : Int) (t' : Int) ls = (c1, p1, 0) by unfold vfS; rw [hf, hm]; simp [hv, he]]
     exact ver43_yes r f' t' m A n cc ls w hr hm hft htm hm4 hin hT hl nd _ c1 p1 hv hnd rfl he
theorem sumC43 : ∀ l : List Nd, (∀ x ∈ l, x.c ≤ 60) → sumC l ≤ 60 * (l.length : Int)
 | [], _ => by simp [sumC]
 | x :: l, h => by
  have h1 := h x (by simp)
  have h2 := sumC43 l (fun y hy => h y (List.mem_cons_of_mem _ hy))
  simp only [sumC, List.length_cons]; omega
theorem ndL_yes {x : Ln} (h : vLn x = true) (b : List Nat) : vN (ndL b x) = true ∧ (ndL b x).c ≤ 60 := by
 have hk : lOk x.c0 x.c1 x.c2 x.c3 x.c4 := of_decide_eq_true h
 have e : ndL b x = leafN x.c0 x.c1 x.c2 x.c3 x.c4 (saltN b 1 (nLn x)) := by unfold ndL leafR; exact if_pos hk
 rw [e]
 refine ⟨leafN_v _ hk, ?_⟩
 unfold lOk at hk
 show x.c3 ≤ 60
 omega
theorem vL_ndL {t : Tr} (h : trG t = true) : vL (t.ln.map (ndL t.salt)) = true := by
 obtain ⟨h1, h2, _⟩ := trG_parts h
 have ha := chkE_all _ _ h2
 have h3 : (t.ln.map (ndL t.salt)).all vN = true := List.all_eq_true.2 fun x hx => by
  obtain ⟨l, hl, rfl⟩ := List.mem_map.1 hx
  exact (ndL_yes (ha l hl) _).1
 have h4 : sumC (t.ln.map (ndL t.salt)) ≤ 60 * ((t.ln.map (ndL t.salt)).length : Int) := sumC43 _ fun x hx => by
  obtain ⟨l, hl, rfl⟩ := List.mem_map.1 hx
  exact (ndL_yes (ha l hl) _).2
 rw [List.length_map] at h4
 unfold vL
 rw [h3, Bool.true_and, decide_eq_true_eq]; omega
def shG (t : Tr) (f g : Int) : Bool := trG t && ftB f g (t.ln.length : Nat)
def shE (t : Tr) (f g : Int) : Int := if trG t then (if ftB f g (t.ln.length : Nat) then 0 else 430) else 420
def shN (t : Tr) (f g : Int) : List Nd := if shG t f g then (parts f.toNat g.toNat 0 t.ln.length).map (pN (t.ln.map (ndL t.salt))) else []
theorem show43 (t : Tr) (p : TrP) (f g : Int) (w : World) (h : Hid (TrOk w t p)) (hT : Hid (Tabs w)) :
  Calls Tryz.prog 32 #[trV t p, .int .i64 f, .int .i64 g] w fun e w' => ∃ A n c, e = .returned (.tuple #[.agg #[.int .i64 (if shG t f g then f else 0), .int .i64 (if shG t f g then g else 0), .slice A n c], .int .i64 (shE t f g)]) ∧ InN w' A n c (shN t f g) ∧ Below w.heap.size w w' := by
 have hn : t.ln.length = p.n := h.out.ln.len
 have hnone : ∀ w : World, InN w none 0 0 [] := fun w => ⟨rfl, Nat.le_refl _, (fun _ => rfl), (fun x hx => by cases hx), (fun h => by simp at h)⟩
 cases hg : trG t with
 | false =>
  have e1 : shG t f g = false := by unfold shG; rw [hg]; rfl
  have e2 : shE t f g = 420 := by unfold shE; rw [hg]; rfl
  have e3 : shN t f g = [] := by unfold shN; rw [e1]; rfl
  rw [e1, e2, e3]
  exact (show43_no1 t p f g w h hT (hid hg)).mono fun e w' hq => ⟨none, 0, 0, hq.1, hnone _, hq.2⟩
 | true =>
  cases hf : ftB f g (p.n : Nat) with
  | false =>
   have e1 : shG t f g = false := by unfold shG; rw [hg, hn, hf]; rfl
   have e2 : shE t f g = 430 := by unfold shE; rw [hg, hn, hf]; rfl
   have e3 : shN t f g = [] := by unfold shN; rw [e1]; rfl
   rw [e1, e2, e3]
   exact (show43_no2 t p f g w h hT (hid hg) (hid hf)).mono fun e w' hq => ⟨none, 0, 0, hq.1, hnone _, hq.2⟩
  | true =>
   have e1 : shG t f g = true := by unfold shG; rw [hg, hn, hf]; rfl
   have e2 : shE t f g = 0 := by unfold shE; rw [hg, hn, hf]; rfl
   obtain ⟨h0, h1, h2, h3⟩ := ftB_iff hf
   obtain ⟨f', rfl⟩ : ∃ k : Nat, f = (k : Int) := ⟨f.toNat, by omega⟩
   obtain ⟨g', rfl⟩ : ∃ k : Nat, g = (k : Int) := ⟨g.toNat, by omega⟩
   have e3 : shN t (f' : Int) (g' : Int) = (parts f' g' 0 p.n).map (pN (t.ln.map (ndL t.salt))) := by unfold shN; rw [e1, hn]; simp
   rw [e1, e2, e3]
   exact show43_yes t p f' g' w h hT (hid hg) (by omega) (by omega) (by omega) (hid (vL_ndL hg))
end Go.Proofs.YtmfmgeapecapiaaGreatDoor
namespace Go.Proofs.SzTree
open SzSha
set_option linter.unusedVariables false
theorem seg_nil (L : List Nd) {a b : Nat} (h : b ≤ a) : seg L a b = [] := by
 unfold seg
 exact List.drop_eq_nil_of_le (by rw [List.length_take]; omega)
/-- the lines of an interval inside a part -/
def segI (L : List Nd) (f t lo hi : Nat) : List Nd := seg L (max f lo) (min t hi)
theorem segI_cut (L : List Nd) {f t lo mid hi : Nat} (hft : f < t) (h1 : lo ≤ mid) (h2 : mid ≤ hi) : segI L f t lo mid ++ segI L f t mid hi = segI L f t lo hi := by
 unfold segI
 by_cases h3 : t ≤ mid
 ·rw [seg_nil L (a := max f mid) (b := min t hi) (by omega), List.append_nil, show min t mid = min t hi by omega]
 ·by_cases h4 : mid ≤ f
  ·rw [seg_nil L (a := max f lo) (b := min t mid) (by omega), List.nil_append, show max f mid = max f lo by omega]
  ·rw [show min t mid = mid by omega, show max f mid = mid by omega, seg_app L (max f lo) mid (min t hi) (by omega) (by omega)]
/-- parts that are shown join to the root of the part -/
theorem vj_shown (L : List Nd) (hv : vL L = true) {f t : Nat} (hft : f < t) (lo hi : Nat) (h : lo < hi) : hi ≤ L.length → ∀ rest,
  vj f t lo hi ((parts f t lo hi).map (fun x => root (seg L x.lo x.hi)) ++ rest) = some (root (seg L lo hi), rest, sumC (segI L f t lo hi), sumP (segI L f t lo hi)) := by
 refine parts_ind hft (M := fun lo hi => hi ≤ L.length → ∀ rest, vj f t lo hi ((parts f t lo hi).map (fun x => root (seg L x.lo x.hi)) ++ rest) = some (root (seg L lo hi), rest, sumC (segI L f t lo hi), sumP (segI L f t lo hi))) ?_ ?_ (hi - lo) lo hi h (Nat.le_refl _)
 ·intro lo hi hlt hc hn rest
  rw [vj_leaf hlt hc, parts_leaf hlt hc]
  have hl : (seg L lo hi).length = hi - lo := seg_length L lo hi hn
  have hvs := vL_root (l := seg L lo hi) (by omega) (vL_seg hv lo hi (by omega) hn)
  have hs := root_sums _ (seg L lo hi) rfl (by omega)
  show vj1 (insB f t lo hi) (root (seg L lo hi) :: rest) = _
  rw [vj1_cons, if_pos hvs, hs.1, hs.2]
  by_cases hi' : insB f t lo hi = true
  ·have hh := hi'
   unfold insB at hh
   simp only [Bool.and_eq_true, decide_eq_true_eq] at hh
   have e : segI L f t lo hi = seg L lo hi := by unfold segI; rw [show max f lo = lo by omega, show min t hi = hi by omega]
   rw [e, if_pos hi', if_pos hi']
  ·have e : segI L f t lo hi = [] := by
    have hh : insB f t lo hi = false := by simpa using hi'
    rw [hh] at hc
    unfold outB at hc
    simp only [Bool.false_or, Bool.or_eq_true, decide_eq_true_eq] at hc
    exact seg_nil L (by omega)
   rw [e, if_neg hi', if_neg hi']
   rfl
 ·intro lo hi hlt hc b1 b2 i1 i2 hn rest
  rw [vj_cut hlt hft hc, parts_cut hlt hft hc, List.map_append, List.append_assoc]
  unfold vjC
  rw [i1 (by omega)]
  dsimp only
  rw [i2 hn rest]
  dsimp only
  have hvs := vL_seg hv lo hi (by omega) hn
  rw [← seg_app L lo (lo + half (hi - lo)) hi (by omega) (by omega)] at hvs
  rw [if_pos (vL_two hvs (by rw [seg_length L _ _ (by omega)]; omega) (by rw [seg_length L _ _ hn]; omega)), ← root_seg L lo hi (by omega) hn, ← segI_cut L hft (lo := lo) (mid := lo + half (hi - lo)) (hi := hi) (by omega) (by omega), sumC_append, sumP_append]
end Go.Proofs.SzTree
namespace Go.Proofs.YtmfmgeapecapiaaGreatDoor
open Go.RowKit Go.Shelf SzSha SzTree
set_option linter.unusedVariables false
/-- the root of the tree of a transcript -/
def ndsT (t : Tr) : List Nd := t.ln.map (ndL t.salt)
theorem ndsT_length (t : Tr) : (ndsT t).length = t.ln.length := List.length_map _
theorem shG_iff {t : Tr} {f g : Int} (h : shG t f g = true) : trG t = true ∧ 0 ≤ f ∧ f < g ∧ g ≤ (t.ln.length : Nat) ∧ ((t.ln.length : Nat) : Int) ≤ 4096 := by
 unfold shG at h
 rw [Bool.and_eq_true] at h
 exact ⟨h.1, ftB_iff h.2⟩
/-- what is shown is accepted -/
theorem vfS_shown {t : Tr} {f g : Int} (h : shG t f g = true) {tree : Nd} (ht : tree = root (ndsT t)) : vfS (t.ln.length : Nat) tree f g (shN t f g) = (sumC (seg (ndsT t) f.toNat g.toNat), sumP (seg (ndsT t) f.toNat g.toNat), 0) := by
 obtain ⟨h1, h2, h3, h4, h5⟩ := shG_iff h
 have hl := ndsT_length t
 have e := vj_shown (ndsT t) (vL_ndL h1) (f := f.toNat) (t := g.toNat) (by omega) 0 t.ln.length (by omega) (by omega) []
 have es : segI (ndsT t) f.toNat g.toNat 0 t.ln.length = seg (ndsT t) f.toNat g.toNat := by unfold segI; rw [show max f.toNat 0 = f.toNat by omega, show min g.toNat t.ln.length = g.toNat by omega]
 have e0 : seg (ndsT t) 0 t.ln.length = ndsT t := by rw [← hl]; exact seg_all _
 rw [List.append_nil, e0, es] at e
 have ef : ftB f g ((t.ln.length : Nat) : Int) = true := by unfold shG at h; rw [Bool.and_eq_true] at h; exact h.2
 unfold vfS shN
 rw [if_pos ef, h, if_pos rfl, Int.toNat_natCast, show (parts f.toNat g.toNat 0 t.ln.length).map (pN (t.ln.map (ndL t.salt))) = (parts f.toNat g.toNat 0 t.ln.length).map (fun x => root (seg (ndsT t) x.lo x.hi)) from rfl, e]
 dsimp only
 rw [ht, ndEq_refl, if_pos rfl]
set_option maxRecDepth 100000
theorem trC_one (t : Tr) (p : TrP) : (trC t p).toArray.all (·.oneCell') = true := by
 rw [Array.all_eq_true_iff_forall_mem]
 intro v hv
 have hv' : v ∈ trC t p := by simpa using hv
 unfold trC at hv'
 rcases List.mem_append.1 hv' with h | h
 ·simp only [List.mem_cons, List.not_mem_nil, or_false] at h
  rcases h with rfl | rfl | rfl | rfl | rfl | rfl <;> rfl
 ·obtain ⟨x, _, rfl⟩ := List.mem_map.1 h
  rfl
theorem rtC_one (r : Rt) : (rtC r).toArray.all (·.oneCell') = true := by
 rw [Array.all_eq_true_iff_forall_mem]
 intro v hv
 have hv' : v ∈ rtC r := by simpa using hv
 unfold rtC at hv'
 have dg : ∀ l : List Nat, v ∈ dgC l → v.oneCell' = true := fun l h => by
  obtain ⟨x, _, rfl⟩ := List.mem_map.1 h
  rfl
 rcases List.mem_append.1 hv' with h | h
 ·simp only [List.mem_cons, List.not_mem_nil, or_false] at h
  rcases h with rfl | rfl | rfl | rfl | rfl | rfl <;> rfl
 rcases List.mem_append.1 h with h | h
 ·have := ndC_one r.tree
  rw [Array.all_eq_true_iff_forall_mem] at this
  exact this v (by simpa using h)
 rcases List.mem_append.1 h with h | h
 ·exact dg _ h
 rcases List.mem_append.1 h with h | h
 ·exact dg _ h
 rcases List.mem_append.1 h with h | h
 ·exact dg _ h
 ·simp only [List.mem_cons, List.not_mem_nil, or_false] at h
  rcases h with rfl | rfl <;> rfl
end Go.Proofs.YtmfmgeapecapiaaGreatDoor
