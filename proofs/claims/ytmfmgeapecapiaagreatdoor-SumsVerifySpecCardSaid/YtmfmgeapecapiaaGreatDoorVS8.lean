/- sizar/sums.Show. sizar/sums.Show answers. region_flow5: region_flow5, where an operation may also panic. sizar/sums.Verify: the join of the parts that show an interval. -/
import Derived.Test.YtmfmgeapecapiaaGreatDoorVS6
import Derived.Test.YtmfmgeapecapiaaGreatDoorVS7
import Derived.RangeFuncBox
import Derived.Test.YtmfmgeapecapiaaGreatDoorVS5
import Derived.Test.YtmfmgeapecapiaaGreatDoorVS2
import Derived.Test.YtmfmgeapecapiaaGreatDoorVS4
set_option maxHeartbeats 64000001
open Go.Lib (hid)
namespace Go.Proofs.YtmfmgeapecapiaaGreatDoor
open Go.RowKit Go.Shelf SzSha SzTree
set_option linter.unusedVariables false
set_option maxRecDepth 100000
attribute [local go_sem] Oper.semAt_some
theorem part_info (a b c : Value) : (Tryz.prog.info? 66).map (·.size) = some (#[a, b, c] : Array Value).size := by show _ = some 3; kernel_rfl
theorem show43_no1 (t : Tr) (p : TrP) (f g : Int) (w : World) (h : Hid (TrOk w t p)) (hT : Hid (Tabs w)) (hg : Hid (trG t = false)) :
  Calls Tryz.prog 32 #[trV t p, .int .i64 f, .int .i64 g] w fun e w' => e = .returned (.tuple #[.agg #[.int .i64 0, .int .i64 0, .slice none 0 0], .int .i64 420]) ∧ Below w.heap.size w w' := by
 have HIT : Hid ((Tryz.prog.info? 27).map (·.size) = some (trC t p).toArray.size) := hid (trV_info t p h.out.len)
 obtain ⟨W0, HW0⟩ : ∃ V, Hid (((w.alloc (.cells (trC t p).toArray 27)).alloc (.cells #[.int .i64 0, .int .i64 0, .slice none 0 0] 66)).alloc (.cells #[.int .i64 0] 31) = V) := ⟨_, hid rfl⟩
 have hb1 := (Below.refl _ w).alloc (Nat.le_refl _) (.cells (trC t p).toArray 27)
 have hb2 := (Below.refl _ (w.alloc (.cells (trC t p).toArray 27))).alloc (Nat.le_refl _) (.cells #[.int .i64 0, .int .i64 0, .slice none 0 0] 66)
 have hb3 := (Below.refl _ ((w.alloc (.cells (trC t p).toArray 27)).alloc (.cells #[.int .i64 0, .int .i64 0, .slice none 0 0] 66))).alloc (Nat.le_refl _) (.cells #[.int .i64 0] 31)
 have hr1 := row_kept (row_kept (heap_alloc_new w (.cells (trC t p).toArray 27)) hb2) hb3
 have hr2 := row_kept (heap_alloc_new (w.alloc (.cells (trC t p).toArray 27)) (.cells #[.int .i64 0, .int .i64 0, .slice none 0 0] 66)) hb3
 have hr3 := heap_alloc_new ((w.alloc (.cells (trC t p).toArray 27)).alloc (.cells #[.int .i64 0, .int .i64 0, .slice none 0 0] 66)) (.cells #[.int .i64 0] 31)
 have hbb := (hb1.trans (hb2.mono hb1.size)).trans (hb3.mono (hb1.trans (hb2.mono hb1.size)).size)
 rw [World.size_alloc] at hr2
 rw [World.size_alloc, World.size_alloc] at hr3
 rw [HW0.out] at hr1 hr2 hr3 hbb
 have hs0 : W0.heap.size = w.heap.size + 3 := by rw [← HW0.out]; simp
 have HR1 := hid hr1
 have HR2 := hid hr2
 have HR3 := hid hr3
 have HB0 := hid hbb
 have HS0 := hid hs0
 have HO0 := hid (h.out.below hbb)
 have hT0 := hid (hT.out.below hbb)
 clear hb1 hb2 hb3 hr1 hr2 hr3 hbb hs0
 rw [show trV t p = .agg (trC t p).toArray from rfl]
 have hmf : ∀ (fn : Fn) (first cap : Array Value) (w : World), (Instr.makeFunc fn first cap).run Tryz.prog w = .ok (.func fn first cap) w := fun _ _ _ _ => rfl
 refine (callsIn_wide (n := 5)).1 ?_
 refine callsIn_of_wp_marks Tryz.func32 rfl trivial ?_ rfl
 simp only [Tryz.ntmps32, List.size_toArray, List.length_cons, List.length_nil, Nat.reduceAdd, Nat.reduceSub, Array.replicate_succ, Array.replicate_zero, List.push_toArray, List.append_toArray, List.nil_append, List.cons_append]
 gi_wp2_with (first | (rw [HW0.out]) | (refine wpListIn_load_row rfl 27 (.tmp 3) rfl w.heap.size rfl 27 _ (0, 0) _ HR1.out Tryz.underlying27 rfl HIT.out ?_; rw [show Value.agg (trC t p).toArray = trV t p from rfl]) | (refine ⟨trivial, ?_⟩; gi_at_call 10; refine (callsIn_wide.2 (nodes_no t p W0 HO0 hT0 hg)).mono ?_))
 rintro e U1 ⟨rfl, hq1⟩
 obtain ⟨W2, HW2⟩ : ∃ V, Hid ((U1.alloc (.cells #[.slice none 0 0] 30)).setCell ⟨w.heap.size + 1 + 1, 0, none⟩ (.int .i64 420) = V) := ⟨_, hid rfl⟩
 have hba := (Below.refl _ U1).alloc (Nat.le_refl _) (.cells #[.slice none 0 0] 30)
 have hal := row_kept (row_kept HR3.out hq1) hba
 have hal2 := row_kept (row_kept HR2.out hq1) hba
 have hal3 := row_kept (row_kept HR1.out hq1) hba
 have hl1 := heap_alloc_new U1 (.cells #[.slice none 0 0] 30)
 have ex := setCell_eq_setRow (U1.alloc (.cells #[.slice none 0 0] 30)) (w.heap.size + 1 + 1) 0 _ _ _ (.int .i64 420) hal
 have hbs : Below (w.heap.size + 1 + 1) (U1.alloc (.cells #[.slice none 0 0] 30)) ((U1.alloc (.cells #[.slice none 0 0] 30)).setCell ⟨w.heap.size + 1 + 1, 0, none⟩ (.int .i64 420)) := (Below.refl _ _).setCell (p := ⟨w.heap.size + 1 + 1, 0, none⟩) (Nat.le_refl _) _
 have he3 := setRow_heap (U1.alloc (.cells #[.slice none 0 0] 30)) (w.heap.size + 1 + 1) _ (#[.int .i64 0].setIfInBounds 0 (.int .i64 420)) _ _ hal
 rw [← ex] at he3
 have hx3 := (hbs.block (w.heap.size + 1) (by omega)).trans hal2
 have ht3 := (hbs.block w.heap.size (by omega)).trans hal3
 have hu1 := HB0.out.trans (hq1.mono HB0.out.size)
 have hSU : w.heap.size + 3 ≤ U1.heap.size := by have := HS0.out; have := hq1.size; omega
 have hl2 : ((U1.alloc (.cells #[.slice none 0 0] 30)).setCell ⟨w.heap.size + 1 + 1, 0, none⟩ (.int .i64 420)).heap[U1.heap.size]? = some (.cells #[.slice none 0 0] 30 (0, 0)) := by
  exact setCell_other_row hal hl1 (by omega)
 have hw2 := (hu1.trans (hba.mono hu1.size)).trans (hbs.mono (by omega))
 have hs2 : ((U1.alloc (.cells #[.slice none 0 0] 30)).setCell ⟨w.heap.size + 1 + 1, 0, none⟩ (.int .i64 420)).heap.size = U1.heap.size + 1 := by rw [ex, setRow_size]; simp
 rw [HW2.out] at he3 hx3 ht3 hw2 hl2 hs2
 have HE2 : Hid (W2.heap[w.heap.size + 1 + 1]? = some (.cells #[.int .i64 420] 31 (0, 0))) := hid he3
 have HX2 := hid hx3
 have HT2 := hid ht3
 have HL2 := hid hl2
 have HB2 := hid hw2
 have HS2 := hid hs2
 have HSU := hid hSU
 have cf1 := frozen_of_row _ _ 0 _ _ hal
 have ce1 := cell_of_row _ _ 0 _ _ _ hal
 have ce2 := cell_of_row _ _ 0 _ _ _ HE2.out
 have cl2 := cell_of_row _ _ 0 _ _ _ HL2.out
 clear hal hal2 hal3 hl1 hq1 ex hbs hba hl2 he3 hx3 ht3 hu1 hSU hw2 hs2
 gi_wp2_with (first | (rw [HW2.out]) | (refine ⟨trivial, ?_⟩; gi_at_call 74; refine (callsIn_wide.2 (try_no 420 (by decide) _)).mono ?_; rintro e w' ⟨rfl, rfl⟩))
 clear cf1 ce1 ce2 cl2
 have cz := cell_of_row _ _ 0 _ _ _ HE2.out
 have fz := frozen_of_row _ _ 0 _ _ HE2.out
 have exz := setCell_eq_setRow W2 (w.heap.size + 1 + 1) 0 _ _ _ (.int .i64 420) HE2.out
 have hez := setRow_heap W2 (w.heap.size + 1 + 1) _ (#[.int .i64 420]) _ _ HE2.out
 have hbz : Below (w.heap.size + 1 + 1) W2 (W2.setCell ⟨w.heap.size + 1 + 1, 0, none⟩ (.int .i64 420)) := (Below.refl _ _).setCell (p := ⟨w.heap.size + 1 + 1, 0, none⟩) (Nat.le_refl _) _
 have hba2 := (Below.refl _ (W2.setCell ⟨w.heap.size + 1 + 1, 0, none⟩ (.int .i64 420))).alloc (Nat.le_refl _) (.cells #[.int .i64 420] 160)
 have hxz := row_kept ((hbz.block (w.heap.size + 1) (by omega)).trans HX2.out) hba2
 have hez2 := row_kept (show (W2.setCell ⟨w.heap.size + 1 + 1, 0, none⟩ (.int .i64 420)).heap[w.heap.size + 1 + 1]? = some (.cells #[.int .i64 420] 31 (0, 0)) by rw [exz]; exact hez) hba2
 have cez := cell_of_row _ _ 0 _ _ _ hez2
 have hszz : w.heap.size ≤ (W2.setCell ⟨w.heap.size + 1 + 1, 0, none⟩ (.int .i64 420)).heap.size := by rw [exz, setRow_size]; exact HB2.out.size
 have hbf := (HB2.out.trans (hbz.mono (by omega))).trans (hba2.mono hszz)
 have cx0 := cell_of_row _ _ 0 _ _ _ hxz
 have cx1 := cell_of_row _ _ 1 _ _ _ hxz
 have cx2 := cell_of_row _ _ 2 _ _ _ hxz
 simp at cx0 cx1 cx2 cez
 refine ⟨by simp, .inr ⟨by simp [Fence.wide], _, _, 72, #[.pointer (some ⟨w.heap.size + 1 + 1, 0, none⟩)], rfl, by simp [invoke, go_sem], fun _ _ => trivial, ?_⟩⟩
 refine (show1_panic (w.heap.size + 1 + 1) 420 _ _ cz fz _).mono ?_
 rintro e u' w'' ⟨rfl, rfl, rfl⟩
 refine ⟨.tuple #[.agg #[.int .i64 0, .int .i64 0, .slice none 0 0], .int .i64 420], ?_, rfl, hbf⟩
 simp [results, Tryz.results32, asAddr, cx0, cx1, cx2, cez, go_sem]
theorem show43_no2 (t : Tr) (p : TrP) (f g : Int) (w : World) (h : Hid (TrOk w t p)) (hT : Hid (Tabs w)) (hg : Hid (trG t = true)) (hf : Hid (ftB f g (p.n : Nat) = false)) :
  Calls Tryz.prog 32 #[trV t p, .int .i64 f, .int .i64 g] w fun e w' => e = .returned (.tuple #[.agg #[.int .i64 0, .int .i64 0, .slice none 0 0], .int .i64 430]) ∧ Below w.heap.size w w' := by
 have HIT : Hid ((Tryz.prog.info? 27).map (·.size) = some (trC t p).toArray.size) := hid (trV_info t p h.out.len)
 obtain ⟨W0, HW0⟩ : ∃ V, Hid (((w.alloc (.cells (trC t p).toArray 27)).alloc (.cells #[.int .i64 0, .int .i64 0, .slice none 0 0] 66)).alloc (.cells #[.int .i64 0] 31) = V) := ⟨_, hid rfl⟩
 have hb1 := (Below.refl _ w).alloc (Nat.le_refl _) (.cells (trC t p).toArray 27)
 have hb2 := (Below.refl _ (w.alloc (.cells (trC t p).toArray 27))).alloc (Nat.le_refl _) (.cells #[.int .i64 0, .int .i64 0, .slice none 0 0] 66)
 have hb3 := (Below.refl _ ((w.alloc (.cells (trC t p).toArray 27)).alloc (.cells #[.int .i64 0, .int .i64 0, .slice none 0 0] 66))).alloc (Nat.le_refl _) (.cells #[.int .i64 0] 31)
 have hr1 := row_kept (row_kept (heap_alloc_new w (.cells (trC t p).toArray 27)) hb2) hb3
 have hr2 := row_kept (heap_alloc_new (w.alloc (.cells (trC t p).toArray 27)) (.cells #[.int .i64 0, .int .i64 0, .slice none 0 0] 66)) hb3
 have hr3 := heap_alloc_new ((w.alloc (.cells (trC t p).toArray 27)).alloc (.cells #[.int .i64 0, .int .i64 0, .slice none 0 0] 66)) (.cells #[.int .i64 0] 31)
 have hbb := (hb1.trans (hb2.mono hb1.size)).trans (hb3.mono (hb1.trans (hb2.mono hb1.size)).size)
 rw [World.size_alloc] at hr2
 rw [World.size_alloc, World.size_alloc] at hr3
 rw [HW0.out] at hr1 hr2 hr3 hbb
 have hs0 : W0.heap.size = w.heap.size + 3 := by rw [← HW0.out]; simp
 have HR1 := hid hr1
 have HR2 := hid hr2
 have HR3 := hid hr3
 have HB0 := hid hbb
 have HS0 := hid hs0
 have HO0 := hid (h.out.below hbb)
 have hT0 := hid (hT.out.below hbb)
 clear hb1 hb2 hb3 hr1 hr2 hr3 hbb hs0
 rw [show trV t p = .agg (trC t p).toArray from rfl]
 have hmf : ∀ (fn : Fn) (first cap : Array Value) (w : World), (Instr.makeFunc fn first cap).run Tryz.prog w = .ok (.func fn first cap) w := fun _ _ _ _ => rfl
 refine (callsIn_wide (n := 5)).1 ?_
 refine callsIn_of_wp_marks Tryz.func32 rfl trivial ?_ rfl
 simp only [Tryz.ntmps32, List.size_toArray, List.length_cons, List.length_nil, Nat.reduceAdd, Nat.reduceSub, Array.replicate_succ, Array.replicate_zero, List.push_toArray, List.append_toArray, List.nil_append, List.cons_append]
 gi_wp2_with (first | (rw [HW0.out]) | (refine wpListIn_load_row rfl 27 (.tmp 3) rfl w.heap.size rfl 27 _ (0, 0) _ HR1.out Tryz.underlying27 rfl HIT.out ?_; rw [show Value.agg (trC t p).toArray = trV t p from rfl]) | (refine ⟨trivial, ?_⟩; gi_at_call 10; refine (callsIn_wide.2 (nodes_yes t p W0 HO0 hT0 hg)).mono ?_))
 rintro e U1 ⟨A1, n1, c1, rfl, hin, hq1⟩
 have hn1 : n1 = p.n := by have h9 := hin.len; rw [List.length_map] at h9; rw [← h9]; exact h.out.ln.len
 subst hn1
 obtain ⟨W2, HW2⟩ : ∃ V, Hid ((U1.alloc (.cells #[.slice A1 p.n c1] 30)).setCell ⟨w.heap.size + 1 + 1, 0, none⟩ (.int .i64 0) = V) := ⟨_, hid rfl⟩
 have hba := (Below.refl _ U1).alloc (Nat.le_refl _) (.cells #[.slice A1 p.n c1] 30)
 have hal := row_kept (row_kept HR3.out hq1) hba
 have hal2 := row_kept (row_kept HR2.out hq1) hba
 have hal3 := row_kept (row_kept HR1.out hq1) hba
 have hl1 := heap_alloc_new U1 (.cells #[.slice A1 p.n c1] 30)
 have ex := setCell_eq_setRow (U1.alloc (.cells #[.slice A1 p.n c1] 30)) (w.heap.size + 1 + 1) 0 _ _ _ (.int .i64 0) hal
 have hbs : Below (w.heap.size + 1 + 1) (U1.alloc (.cells #[.slice A1 p.n c1] 30)) ((U1.alloc (.cells #[.slice A1 p.n c1] 30)).setCell ⟨w.heap.size + 1 + 1, 0, none⟩ (.int .i64 0)) := (Below.refl _ _).setCell (p := ⟨w.heap.size + 1 + 1, 0, none⟩) (Nat.le_refl _) _
 have he3 := setRow_heap (U1.alloc (.cells #[.slice A1 p.n c1] 30)) (w.heap.size + 1 + 1) _ (#[.int .i64 0].setIfInBounds 0 (.int .i64 0)) _ _ hal
 rw [← ex] at he3
 have hx3 := (hbs.block (w.heap.size + 1) (by omega)).trans hal2
 have ht3 := (hbs.block w.heap.size (by omega)).trans hal3
 have hu1 := HB0.out.trans (hq1.mono HB0.out.size)
 have hSU : w.heap.size + 3 ≤ U1.heap.size := by have := HS0.out; have := hq1.size; omega
 have hl2 : ((U1.alloc (.cells #[.slice A1 p.n c1] 30)).setCell ⟨w.heap.size + 1 + 1, 0, none⟩ (.int .i64 0)).heap[U1.heap.size]? = some (.cells #[.slice A1 p.n c1] 30 (0, 0)) := by
  exact setCell_other_row hal hl1 (by omega)
 have hw2 := (hu1.trans (hba.mono hu1.size)).trans (hbs.mono (by omega))
 have hs2 : ((U1.alloc (.cells #[.slice A1 p.n c1] 30)).setCell ⟨w.heap.size + 1 + 1, 0, none⟩ (.int .i64 0)).heap.size = U1.heap.size + 1 := by rw [ex, setRow_size]; simp
 rw [HW2.out] at he3 hx3 ht3 hw2 hl2 hs2
 have HE2 : Hid (W2.heap[w.heap.size + 1 + 1]? = some (.cells #[.int .i64 0] 31 (0, 0))) := hid he3
 have HX2 := hid hx3
 have HT2 := hid ht3
 have HL2 := hid hl2
 have HB2 := hid hw2
 have HS2 := hid hs2
 have HSU := hid hSU
 have cf1 := frozen_of_row _ _ 0 _ _ hal
 have ce1 := cell_of_row _ _ 0 _ _ _ hal
 have ce2 := cell_of_row _ _ 0 _ _ _ HE2.out
 have cl2 := cell_of_row _ _ 0 _ _ _ HL2.out
 clear hal hal2 hal3 hl1 hq1 ex hbs hba hl2 he3 hx3 ht3 hu1 hSU hw2 hs2 hin
 gi_wp2_with (first | (rw [HW2.out]) | (refine ⟨trivial, ?_⟩; gi_at_call 74; refine (callsIn_wide.2 (try_ok _)).mono ?_; rintro e w' ⟨rfl, rfl⟩) | (refine ⟨trivial, ?_⟩; gi_at_call 76; refine (callsIn_wide.2 (fits_any f g (p.n : Nat) _)).mono ?_; rintro e w' ⟨rfl, rfl⟩; rw [hf.out]) | (refine ⟨trivial, ?_⟩; gi_at_call 75; refine (callsIn_wide.2 (demand_no 430 _)).mono ?_; rintro e w' ⟨rfl, rfl⟩))
 clear cf1 ce1 ce2 cl2
 have cz := cell_of_row _ _ 0 _ _ _ HE2.out
 have fz := frozen_of_row _ _ 0 _ _ HE2.out
 have exz := setCell_eq_setRow W2 (w.heap.size + 1 + 1) 0 _ _ _ (.int .i64 430) HE2.out
 have hez := setRow_heap W2 (w.heap.size + 1 + 1) _ (#[.int .i64 430]) _ _ HE2.out
 have hbz : Below (w.heap.size + 1 + 1) W2 (W2.setCell ⟨w.heap.size + 1 + 1, 0, none⟩ (.int .i64 430)) := (Below.refl _ _).setCell (p := ⟨w.heap.size + 1 + 1, 0, none⟩) (Nat.le_refl _) _
 have hba2 := (Below.refl _ (W2.setCell ⟨w.heap.size + 1 + 1, 0, none⟩ (.int .i64 430))).alloc (Nat.le_refl _) (.cells #[.int .i64 430] 160)
 have hxz := row_kept ((hbz.block (w.heap.size + 1) (by omega)).trans HX2.out) hba2
 have hez2 := row_kept (show (W2.setCell ⟨w.heap.size + 1 + 1, 0, none⟩ (.int .i64 430)).heap[w.heap.size + 1 + 1]? = some (.cells #[.int .i64 430] 31 (0, 0)) by rw [exz]; exact hez) hba2
 have cez := cell_of_row _ _ 0 _ _ _ hez2
 have hszz : w.heap.size ≤ (W2.setCell ⟨w.heap.size + 1 + 1, 0, none⟩ (.int .i64 430)).heap.size := by rw [exz, setRow_size]; exact HB2.out.size
 have hbf := (HB2.out.trans (hbz.mono (by omega))).trans (hba2.mono hszz)
 have cx0 := cell_of_row _ _ 0 _ _ _ hxz
 have cx1 := cell_of_row _ _ 1 _ _ _ hxz
 have cx2 := cell_of_row _ _ 2 _ _ _ hxz
 simp at cx0 cx1 cx2 cez
 refine ⟨by simp, .inr ⟨by simp [Fence.wide], _, _, 72, #[.pointer (some ⟨w.heap.size + 1 + 1, 0, none⟩)], rfl, by simp [invoke, go_sem], fun _ _ => trivial, ?_⟩⟩
 refine (show1_panic (w.heap.size + 1 + 1) 430 _ _ cz fz _).mono ?_
 rintro e u' w'' ⟨rfl, rfl, rfl⟩
 refine ⟨.tuple #[.agg #[.int .i64 0, .int .i64 0, .slice none 0 0], .int .i64 430], ?_, rfl, hbf⟩
 simp [results, Tryz.results32, asAddr, cx0, cx1, cx2, cez, go_sem]
attribute [local go_sem] Oper.semAt_some
theorem seg43_root_ok {ls : List Nd} (ho : ∀ x ∈ ls, NdOk x) (hv : vL ls = true) {a b : Nat} (h1 : a < b) (h2 : b ≤ ls.length) : NdOk (root (seg ls a b)) := by
 refine root_ok _ _ (Nat.le_refl _) (by rw [seg_length _ _ _ h2]; omega) (fun x hx => ho x ?_) (vL_seg hv a b (by omega) h2)
 exact List.mem_of_mem_take (List.mem_of_mem_drop hx)
theorem seg43_rootR {ls : List Nd} (hl : ls.length ≤ 4096) (hv : vL ls = true) {a b : Nat} (h1 : a < b) (h2 : b ≤ ls.length) : rootR (seg ls a b) = root (seg ls a b) ∧ rootE (seg ls a b) = 0 :=
 rootR_yes (by rw [seg_length _ _ _ h2]; omega) (vL_seg hv a b (by omega) h2) (by rw [seg_length _ _ _ h2]; omega)
theorem parts_inside {f t : Nat} (hft : f < t) : ∀ lo hi, lo < hi → ∀ x ∈ parts f t lo hi, lo ≤ x.lo ∧ x.lo < x.hi ∧ x.hi ≤ hi := fun lo hi h =>
 parts_ind hft (M := fun lo hi => ∀ x ∈ parts f t lo hi, lo ≤ x.lo ∧ x.lo < x.hi ∧ x.hi ≤ hi) (fun lo hi hlt hc x hx => by
  rw [parts_leaf hlt hc] at hx
  simp only [List.mem_singleton] at hx
  subst hx
  exact ⟨Nat.le_refl _, hlt, Nat.le_refl _⟩) (fun lo hi hlt hc h1 h2 i1 i2 x hx => by
  rw [parts_cut hlt hft hc, List.mem_append] at hx
  rcases hx with hx | hx
  ·have := i1 x hx; omega
  ·have := i2 x hx; omega) (hi - lo) lo hi h (Nat.le_refl _)
theorem InN.store_one {w : World} {A : Option Addr} {n c : Nat} {ls : List Nd} (h : InN w A n c ls) {b : Nat} {x v : Value} {t : TypeId} (hb : w.heap[b]? = some (.cells #[x] t (0, 0))) : InN (w.setCell ⟨b, 0, none⟩ v) A n c ls :=
 ⟨h.len, h.cap, h.none_, h.ok, fun h0 => by
  obtain ⟨g, off, e, hg, hr⟩ := h.rd h0
  have ex := setCell_eq_setRow w b 0 _ _ _ v hb
  refine ⟨g, off, e, by rw [ex, setRow_size]; exact hg, fun j u hj => ?_⟩
  have hne : g ≠ b := fun e => by
   subst e
   have hl := flatN_length ls h.ok
   have h1 : 1 < (flatN ls).length := by omega
   have hk := hr 1 _ (List.getElem?_eq_getElem h1)
   rw [cell_of_row w g _ _ _ _ hb] at hk
   have h2 := (Array.getElem?_eq_some_iff.1 hk).1
   simp at h2
  exact (World.cell?_of_block (by rw [ex]; exact setRow_other w b g _ hne)).trans (hr j u hj)⟩
/-- the node that a part shows -/
def pN (ls : List Nd) (x : Pt) : Nd := root (seg ls x.lo x.hi)
theorem OwnN.own {w w' : World} {base : Nat} {v : Value} {ls : List Nd} {row : Option Nat} (h : OwnN w base v ls) (hg : w.grownBy w' row) (hr : ∀ r, row = some r → ∃ o : Obj, w.heap[r]? = some o ∧ o.isCells = false) : OwnN w' base v ls := h.kept fun g hgg => by
 obtain ⟨_, hlt, cur, hc⟩ := h.block g hgg
 refine hg.block g hlt (fun e => ?_)
 obtain ⟨o, ho, hn⟩ := hr g e.symm
 rw [ho] at hc; cases hc; cases hn
/-- a struct's row whose last cell is a slice of its own -/
theorem rowN_own (b base : Nat) (t : TypeId) (x y : Value) {β : Type} (f : β → List Nd) : Own (fun s W => ∃ v, W.heap[b]? = some (.cells #[x, y, v] t (0, 0)) ∧ OwnN W base v (f s)) := fun s W W' row hs hg hrow => by
 obtain ⟨v, hb, ho⟩ := hs
 exact ⟨v, row_own b t #[x, y, v] s W W' row hb hg hrow, ho.own hg hrow⟩
theorem rowN_not {W : World} {B : Nat} {t e : TypeId} {cs : Array Value} (h : W.heap[B]? = some (.cells cs t (0, 0))) (hte : t ≠ e) {base size k : Nat} {v : Value} {xs : List Value} (hr : W.ownsRow base e size v k xs) : some B ≠ v.ownBlock := by
 rcases hr.2 with ⟨rfl, _⟩ | ⟨g, cap, cur, rfl, _, hgb, _⟩
 ·simp [Value.ownBlock]
 ·intro e'
  obtain rfl : B = g := by simpa [Value.ownBlock] using e'
  have := h.symm.trans hgb
  simp at this
  exact hte this.2
theorem rowN_appended {W w1 : World} {n₀ B o : Nat} {t e : TypeId} {size : Nat} {v v' : Value} {k m : Nat} {xs ys : List Value} {cs : Array Value} {tmp : Obj}
  (hv : W.heap[B]? = some (.cells cs t (0, 0))) (hte : t ≠ e) (hrow : W.ownsRow n₀ e size v k xs) (hn₀ : n₀ ≤ W.heap.size) (hB : n₀ ≤ B)
  (hown' : w1.ownsRow n₀ e size v' m ys) (hgrow : (W.alloc tmp).grownBy w1 v.ownBlock) :
  w1.heap[B]? = some (.cells cs t (0, 0)) ∧ (w1.setCell ⟨B, o, none⟩ v').heap[B]? = some (.cells (cs.setIfInBounds o v') t (0, 0)) ∧ (w1.setCell ⟨B, o, none⟩ v').ownsRow n₀ e size v' m ys ∧ Below n₀ W (w1.setCell ⟨B, o, none⟩ v') := by
 have hlt := (Array.getElem?_eq_some_iff.1 hv).1
 have hv1 : w1.heap[B]? = some (.cells cs t (0, 0)) := (hgrow.block B (by rw [World.size_alloc]; omega) (rowN_not hv hte hrow)).trans ((Below.heap_alloc W tmp B hlt).trans hv)
 have ex := setCell_eq_setRow w1 B o cs t (0, 0) v' hv1
 refine ⟨hv1, by rw [ex]; exact setRow_heap _ _ _ _ _ _ hv1, hown'.kept (row := some B) ⟨rfl, rfl, rfl, (KeepsWalks.setCell w1 _ v').size, fun k _ hk => Below.heap_setCell _ _ _ k (fun e => hk (by rw [e]))⟩ (.inr (rowN_not hv1 hte hown').symm), ?_⟩
 refine (((Below.refl n₀ W).alloc hn₀ tmp).grown hgrow (by simp; omega) fun j ej => ?_).setCell (p := ⟨B, o, none⟩) hB v'
 rcases hrow.2 with ⟨rfl, _⟩ | ⟨g, cap, cur, rfl, hb, _, _⟩
 ·simp [Value.ownBlock] at ej
 ·obtain rfl : g = j := by simpa [Value.ownBlock] using ej
  exact hb
theorem wpListIn_append_node2 {F : Fence} {nF : Nat} {w : World} {ops : Array Oper} {rest : List Oper} {o : Oper} {a : Act} {Q : Exit → Act → World → Prop} (hgd : o.guard = none) (s x : Operand)
  (ho : o.op = .call { callee := .builtin .append, args := #[s, x], argTypes := #[30, 30] })
  (base : Nat) (v : Value) (ls : List Nd) (n : Nd) (hs : a.eval s = v) (hown : Hid (OwnN w base v ls)) (hn : NdOk n) (g : Nat) (hx : a.eval x = .slice (some ⟨g, 0, none⟩) 1 1)
  (hr : Hid (w.heap[g]? = some (.cells (flatN [n]).toArray 39 (0, 0)))) (hlen : ls.length ≤ 100000) (hbase : base ≤ w.heap.size)
  (h : ∀ v' w', Hid (OwnN w' base v' (ls ++ [n])) → Hid (w.grownBy w' v.ownBlock) → Hid (v'.ownBlock = v.ownBlock ∨ v'.ownBlock = some w.heap.size) → wpListIn F nF Tryz.prog ops Q rest (a.put o.dst v') w') : wpListIn F nF Tryz.prog ops Q (o :: rest) a w := by
 obtain ⟨i0, hi, hz, hz1, hz2⟩ := info_node
 refine wpListIn_append_own_at _ hgd s x _ ho base _ i0 _ 34 48 Tryz.underlying30 hi hz hz1 hz2 (by simp [Value.cells]) (by omega) v _ _ hs hown.out ⟨g, 0, none⟩ 1 1 (flatN [n]) hx (by rw [flatN_length _ (fun y hy => by simp at hy; subst hy; exact hn)]; rfl) (fun j u hu => by rw [add_row]; exact range_row hr.out j u hu) (flatN_one _) (by unfold maxLen; omega) (by omega) hbase ?_
 intro v' w' h1 h2 h3 h4
 have := append_node_post hown.out h1 h2 hbase
 exact h v' w' (hid this) (hid h2) (hid h4)
theorem show43_yes (t : Tr) (p : TrP) (f g : Nat) (w : World) (h : Hid (TrOk w t p)) (hT : Hid (Tabs w)) (hg : Hid (trG t = true)) (hfg : f < g) (hgn : g ≤ p.n) (hn4 : p.n ≤ 4096) (hvL : Hid (vL (t.ln.map (ndL t.salt)) = true)) :
  Calls Tryz.prog 32 #[trV t p, .int .i64 (f : Nat), .int .i64 (g : Nat)] w fun e w' => ∃ A n c, e = .returned (.tuple #[.agg #[.int .i64 (f : Nat), .int .i64 (g : Nat), .slice A n c], .int .i64 0]) ∧ InN w' A n c ((parts f g 0 p.n).map (pN (t.ln.map (ndL t.salt)))) ∧ Below w.heap.size w w' := by
 have HF := hid (ftB_yes (f := (f : Int)) (t := (g : Int)) (m := (p.n : Int)) (by omega))
 have HIT : Hid ((Tryz.prog.info? 27).map (·.size) = some (trC t p).toArray.size) := hid (trV_info t p h.out.len)
 obtain ⟨W0, HW0⟩ : ∃ V, Hid (((w.alloc (.cells (trC t p).toArray 27)).alloc (.cells #[.int .i64 0, .int .i64 0, .slice none 0 0] 66)).alloc (.cells #[.int .i64 0] 31) = V) := ⟨_, hid rfl⟩
 have hb1 := (Below.refl _ w).alloc (Nat.le_refl _) (.cells (trC t p).toArray 27)
 have hb2 := (Below.refl _ (w.alloc (.cells (trC t p).toArray 27))).alloc (Nat.le_refl _) (.cells #[.int .i64 0, .int .i64 0, .slice none 0 0] 66)
 have hb3 := (Below.refl _ ((w.alloc (.cells (trC t p).toArray 27)).alloc (.cells #[.int .i64 0, .int .i64 0, .slice none 0 0] 66))).alloc (Nat.le_refl _) (.cells #[.int .i64 0] 31)
 have hr1 := row_kept (row_kept (heap_alloc_new w (.cells (trC t p).toArray 27)) hb2) hb3
 have hr2 := row_kept (heap_alloc_new (w.alloc (.cells (trC t p).toArray 27)) (.cells #[.int .i64 0, .int .i64 0, .slice none 0 0] 66)) hb3
 have hr3 := heap_alloc_new ((w.alloc (.cells (trC t p).toArray 27)).alloc (.cells #[.int .i64 0, .int .i64 0, .slice none 0 0] 66)) (.cells #[.int .i64 0] 31)
 have hbb := (hb1.trans (hb2.mono hb1.size)).trans (hb3.mono (hb1.trans (hb2.mono hb1.size)).size)
 rw [World.size_alloc] at hr2
 rw [World.size_alloc, World.size_alloc] at hr3
 rw [HW0.out] at hr1 hr2 hr3 hbb
 have hs0 : W0.heap.size = w.heap.size + 3 := by rw [← HW0.out]; simp
 have HR1 := hid hr1
 have HR2 := hid hr2
 have HR3 := hid hr3
 have HB0 := hid hbb
 have HS0 := hid hs0
 have HO0 := hid (h.out.below hbb)
 have hT0 := hid (hT.out.below hbb)
 clear hb1 hb2 hb3 hr1 hr2 hr3 hbb hs0
 rw [show trV t p = .agg (trC t p).toArray from rfl]
 have hmf : ∀ (fn : Fn) (first cap : Array Value) (w : World), (Instr.makeFunc fn first cap).run Tryz.prog w = .ok (.func fn first cap) w := fun _ _ _ _ => rfl
 refine (callsIn_wide (n := 5)).1 ?_
 refine callsIn_of_wp_marks Tryz.func32 rfl trivial ?_ rfl
 simp only [Tryz.ntmps32, List.size_toArray, List.length_cons, List.length_nil, Nat.reduceAdd, Nat.reduceSub, Array.replicate_succ, Array.replicate_zero, List.push_toArray, List.append_toArray, List.nil_append, List.cons_append]
 gi_wp2_with (first | (rw [HW0.out]) | (refine wpListIn_load_row rfl 27 (.tmp 3) rfl w.heap.size rfl 27 _ (0, 0) _ HR1.out Tryz.underlying27 rfl HIT.out ?_; rw [show Value.agg (trC t p).toArray = trV t p from rfl]) | (refine ⟨trivial, ?_⟩; gi_at_call 10; refine (callsIn_wide.2 (nodes_yes t p W0 HO0 hT0 hg)).mono ?_))
 rintro e U1 ⟨A1, n1, c1, rfl, hin, hq1⟩
 have hn1 : n1 = p.n := by have h9 := hin.len; rw [List.length_map] at h9; rw [← h9]; exact h.out.ln.len
 subst hn1
 obtain ⟨W2, HW2⟩ : ∃ V, Hid ((U1.alloc (.cells #[.slice A1 p.n c1] 30)).setCell ⟨w.heap.size + 1 + 1, 0, none⟩ (.int .i64 0) = V) := ⟨_, hid rfl⟩
 have hba := (Below.refl _ U1).alloc (Nat.le_refl _) (.cells #[.slice A1 p.n c1] 30)
 have hal := row_kept (row_kept HR3.out hq1) hba
 have hal2 := row_kept (row_kept HR2.out hq1) hba
 have hal3 := row_kept (row_kept HR1.out hq1) hba
 have hl1 := heap_alloc_new U1 (.cells #[.slice A1 p.n c1] 30)
 have ex := setCell_eq_setRow (U1.alloc (.cells #[.slice A1 p.n c1] 30)) (w.heap.size + 1 + 1) 0 _ _ _ (.int .i64 0) hal
 have hbs : Below (w.heap.size + 1 + 1) (U1.alloc (.cells #[.slice A1 p.n c1] 30)) ((U1.alloc (.cells #[.slice A1 p.n c1] 30)).setCell ⟨w.heap.size + 1 + 1, 0, none⟩ (.int .i64 0)) := (Below.refl _ _).setCell (p := ⟨w.heap.size + 1 + 1, 0, none⟩) (Nat.le_refl _) _
 have he3 := setRow_heap (U1.alloc (.cells #[.slice A1 p.n c1] 30)) (w.heap.size + 1 + 1) _ (#[.int .i64 0].setIfInBounds 0 (.int .i64 0)) _ _ hal
 rw [← ex] at he3
 have hx3 := (hbs.block (w.heap.size + 1) (by omega)).trans hal2
 have ht3 := (hbs.block w.heap.size (by omega)).trans hal3
 have hu1 := HB0.out.trans (hq1.mono HB0.out.size)
 have hSU : w.heap.size + 3 ≤ U1.heap.size := by have := HS0.out; have := hq1.size; omega
 have hl2 : ((U1.alloc (.cells #[.slice A1 p.n c1] 30)).setCell ⟨w.heap.size + 1 + 1, 0, none⟩ (.int .i64 0)).heap[U1.heap.size]? = some (.cells #[.slice A1 p.n c1] 30 (0, 0)) := by
  exact setCell_other_row hal hl1 (by omega)
 have hw2 := (hu1.trans (hba.mono hu1.size)).trans (hbs.mono (by omega))
 have hs2 : ((U1.alloc (.cells #[.slice A1 p.n c1] 30)).setCell ⟨w.heap.size + 1 + 1, 0, none⟩ (.int .i64 0)).heap.size = U1.heap.size + 1 := by rw [ex, setRow_size]; simp
 rw [HW2.out] at he3 hx3 ht3 hw2 hl2 hs2
 have HE2 : Hid (W2.heap[w.heap.size + 1 + 1]? = some (.cells #[.int .i64 0] 31 (0, 0))) := hid he3
 have HX2 := hid hx3
 have HT2 := hid ht3
 have HL2 := hid hl2
 have HB2 := hid hw2
 have HS2 := hid hs2
 have HSU := hid hSU
 have cf1 := frozen_of_row _ _ 0 _ _ hal
 have ce1 := cell_of_row _ _ 0 _ _ _ hal
 have ce2 := cell_of_row _ _ 0 _ _ _ HE2.out
 have cl2 := cell_of_row _ _ 0 _ _ _ HL2.out
 have hin2 := (hin.below hba).store_one (v := .int .i64 0) hal
 rw [HW2.out] at hin2
 have HIN2 := hid hin2
 have HT2' := hid (hT.out.below HB2.out)
 clear hal hal2 hal3 hl1 hq1 ex hbs hba hl2 he3 hx3 ht3 hu1 hSU hw2 hs2 hin hin2
 obtain ⟨W3, HW3⟩ : ∃ V, Hid (W2.alloc (.cells #[.int .i64 (f : Nat), .int .i64 (g : Nat), .slice none 0 0] 66) = V) := ⟨_, hid rfl⟩
 have hlr : Below W2.heap.size W2 (W2.alloc (.cells #[.int .i64 (f : Nat), .int .i64 (g : Nat), .slice none 0 0] 66)) ∧ (W2.alloc (.cells #[.int .i64 (f : Nat), .int .i64 (g : Nat), .slice none 0 0] 66)).heap.size = W2.heap.size + 1 ∧ (W2.alloc (.cells #[.int .i64 (f : Nat), .int .i64 (g : Nat), .slice none 0 0] 66)).heap[W2.heap.size]? = some (.cells #[.int .i64 (f : Nat), .int .i64 (g : Nat), .slice none 0 0] 66 (0, 0)) := ⟨(Below.refl _ _).alloc (Nat.le_refl _) _, by simp, heap_alloc_new _ _⟩
 rw [HW3.out] at hlr
 have HLR := hid hlr
 obtain ⟨W4, HW4⟩ : ∃ V, Hid ((W3.alloc (.cells #[.int .i64 (f : Nat), .int .i64 (g : Nat)] 119)).alloc (.cells #[.int .i64 0, .int .i64 (p.n : Nat)] 119) = V) := ⟨_, hid rfl⟩
 have hba := ((Below.refl _ W3).alloc (Nat.le_refl _) (.cells #[.int .i64 (f : Nat), .int .i64 (g : Nat)] 119)).alloc (by simp) (.cells #[.int .i64 0, .int .i64 (p.n : Nat)] 119)
 have hra := (Below.heap_alloc (W3.alloc (.cells #[.int .i64 (f : Nat), .int .i64 (g : Nat)] 119)) (.cells #[.int .i64 0, .int .i64 (p.n : Nat)] 119) W3.heap.size (by simp)).trans (heap_alloc_new W3 (.cells #[.int .i64 (f : Nat), .int .i64 (g : Nat)] 119))
 have hrb := heap_alloc_new (W3.alloc (.cells #[.int .i64 (f : Nat), .int .i64 (g : Nat)] 119)) (.cells #[.int .i64 0, .int .i64 (p.n : Nat)] 119)
 have hs4 : W4.heap.size = W3.heap.size + 2 := by rw [← HW4.out]; simp
 rw [World.size_alloc] at hrb
 rw [HW4.out] at hba hra hrb
 have hr4 := row_kept hlr.2.2 hba
 have HPT : Hid (PtsAt (FrB W2.heap.size 2) f g 0 p.n W3.heap.size (W3.heap.size + 1) W4) := hid ⟨hra, hrb, ⟨by omega, _, _, _, _, hr4, rfl, by simp [Value.ownBlock]⟩, ⟨by omega, _, _, _, _, hr4, rfl, by simp [Value.ownBlock]⟩⟩
 have HR4 := hid hr4
 have HB4 := hid (hlr.1.trans (hba.mono hlr.1.size))
 have HS4 := hid hs4
 have cl3 := cell_of_row _ _ 0 _ _ _ (row_kept HL2.out hlr.1)
 have HPI : Hid ((Tryz.prog.info? 66).map (·.size) = some (#[.int .i64 (f : Nat), .int .i64 (g : Nat), .slice none 0 0] : Array Value).size) := hid (part_info _ _ _)
 clear hba hra hrb hr4 hs4 hlr
 gi_wp2_with (first | (rw [HW2.out]) | (rw [HW3.out]) | (rw [HW4.out]) | (refine ⟨trivial, ?_⟩; gi_at_call 74; refine (callsIn_wide.2 (try_ok _)).mono ?_; rintro e w' ⟨rfl, rfl⟩) | (refine ⟨trivial, ?_⟩; gi_at_call 76; refine (callsIn_wide.2 (fits_any _ _ _ _)).mono ?_; rintro e w' ⟨rfl, rfl⟩; rw [HF.out]) | (refine ⟨trivial, ?_⟩; gi_at_call 75; refine (callsIn_wide.2 (demand_yes 430 _)).mono ?_; rintro e w' ⟨rfl, rfl⟩) | (refine ⟨trivial, ?_⟩; gi_at_call 77; refine (callsIn_wide.2 (parts_any f g 0 p.n _)).mono ?_; rintro e w' ⟨rfl, rfl⟩; rw [show ((0 : Nat) : Int) = 0 from rfl, HW4.out]))
 refine rangeFunc_own (gf := 120) (lb := #[.pointer (some ⟨W3.heap.size, 0, none⟩), .pointer (some ⟨W3.heap.size + 1, 0, none⟩)]) rfl (enters_of Tryz.func120 (by kernel_rfl) rfl)
  (parts1_seq f g hfg (by omega) 0 p.n (by omega) (by omega) (FrB W2.heap.size 2) _ _ _ HPT) (fun _ => rfl)
  (fun pre V => (∃ v, V.heap[W2.heap.size]? = some (.cells #[.int .i64 (f : Nat), .int .i64 (g : Nat), v] 66 (0, 0)) ∧ OwnN V W2.heap.size v (pre.map (pN (t.ln.map (ndL t.salt))))) ∧ Below W2.heap.size W2 V)
  (fun _ _ _ => False)
  (OwnFrom.and (Own.from (rowN_own _ _ _ _ _ _) _) (ownFrom_below (Nat.le_refl _) HB4.out.size))
  (fun _ _ _ _ _ hs _ _ => hs)
  (frB_own _ _ _)
  (fun pre V o hs => by
   obtain ⟨⟨v, hb, ho⟩, hB⟩ := hs
   have hlt := (Array.getElem?_eq_some_iff.1 hb).1
   refine ⟨by omega, _, _, _, v, (Below.heap_alloc V o _ hlt).trans hb, rfl, fun e => ?_⟩
   have := (ho.block _ e).2.1
   omega)
  ⟨⟨_, HR4.out, OwnN.nil _ _⟩, HB4.out⟩
  (fun x a' V => ∃ sb, a' = { tmps := #[trV t p, .int .i64 (f : Nat), .int .i64 (g : Nat), .pointer (some ⟨w.heap.size, 0, none⟩), undef, undef, .pointer (some ⟨w.heap.size + 1, 0, none⟩), .pointer (some ⟨w.heap.size + 1 + 1, 0, none⟩), .pointer (some ⟨U1.heap.size, 0, none⟩), .pointer (some ⟨W2.heap.size, 0, none⟩), .pointer (some ⟨sb, 0, none⟩), undef, undef, .func (.func 72) #[] #[.pointer (some ⟨w.heap.size + 1 + 1, 0, none⟩)], .tuple #[.slice A1 p.n c1, .int .i64 0], trV t p, .tuple #[.slice A1 p.n c1, .int .i64 0], .slice A1 p.n c1, .int .i64 0, .int .i64 0, .tuple #[], .int .i64 (f : Nat), .int .i64 (g : Nat), .slice A1 p.n c1, .int .i64 (p.n : Nat), .bool true, .tuple #[], .int .i64 (f : Nat), .int .i64 (g : Nat), .agg #[.int .i64 (f : Nat), .int .i64 (g : Nat), .slice none 0 0], .int .i64 (f : Nat), .int .i64 (g : Nat), .agg #[.int .i64 (f : Nat), .int .i64 (g : Nat)], .slice A1 p.n c1, .int .i64 (p.n : Nat), .agg #[.int .i64 0, .int .i64 (p.n : Nat)], .func (.func 120) #[] #[.pointer (some ⟨W3.heap.size, 0, none⟩), .pointer (some ⟨W3.heap.size + 1, 0, none⟩)], .agg #[.int .i64 (x.lo : Nat), .int .i64 (x.hi : Nat)], .bool x.ins, undef, undef, undef, undef, undef, undef, undef, undef, undef, undef, undef, undef, undef, undef, undef, undef, undef, undef, undef], defers := [] } ∧ V.heap[sb]? = some (.cells #[.int .i64 (x.lo : Nat), .int .i64 (x.hi : Nat)] 119 (0, 0)))
  (fun x a' s A B row hs hg hr => by
   obtain ⟨sb, e, hh⟩ := hs
   exact ⟨sb, e, row_own sb _ _ () A B row hh hg (fun r e => (hr r e).2)⟩)
  ?assign ?body ?done ?stop
 case assign =>
  rintro l2 ys ⟨xl, xh, xi⟩ V K ⟨⟨v, hb, ho⟩, hB⟩ hK
  have hbb : Below V.heap.size V (V.alloc (.cells #[.int .i64 (xl : Nat), .int .i64 (xh : Nat)] 119)) := (Below.refl _ _).alloc (Nat.le_refl _) _
  simp only [encP]
  gi_wp2_with fail
  exact hK _ _ (KpF.alloc (frB_own _ _ V.heap.size) V _) ⟨⟨v, row_kept hb hbb, ho.below hbb⟩, hB.trans (hbb.mono hB.size)⟩ ⟨_, rfl, heap_alloc_new _ _⟩
 case stop =>
  rintro D c pre V hD hs h hfD hd
  exact h.elim
 case body =>
  rintro l2 ys ⟨xl, xh, xi⟩ a' V hl2 hpp ⟨⟨v, hb, ho⟩, hB⟩ ⟨sb, rfl, hsb⟩
  have hlen := hpp.length_le
  have hpl := parts_length hfg 0 p.n (by omega)
  have hx := parts_inside hfg 0 p.n (by omega) ⟨xl, xh, xi⟩ (hpp.subset (by simp))
  simp only at hx
  obtain ⟨_, hx1, hx2⟩ := hx
  rw [List.length_append, List.length_singleton] at hlen
  obtain ⟨gA, off, rfl, hgA, hr0⟩ := HIN2.out.rd (by rw [HIN2.out.len]; omega)
  have HIW := HIN2.out.below hB
  have hcap := HIN2.out.cap
  have hlnN := HIN2.out.len
  have HSG : Hid (InN V (some ⟨gA, off + xl * 34, none⟩) (xh - xl) (c1 - xl) (seg (t.ln.map (ndL t.salt)) xl xh)) := hid ((HIW.take xh hx2).drop xl (by omega))
  have HTW := hid (HT2'.out.below (hB.mono (Nat.le_refl _)))
  have HSRR := hid (seg43_rootR (ls := t.ln.map (ndL t.salt)) (by rw [hlnN]; omega) hvL.out hx1 (by rw [hlnN]; exact hx2))
  have HNK := hid (seg43_root_ok (ls := t.ln.map (ndL t.salt)) HIN2.out.ok hvL.out hx1 (by rw [hlnN]; exact hx2))
  have HLN : Hid ((ys.map (pN (t.ln.map (ndL t.salt)))).length ≤ 100000) := hid (by rw [List.length_map]; omega)
  have HNX : Hid ((ys ++ [(⟨xl, xh, xi⟩ : Pt)]).map (pN (t.ln.map (ndL t.salt))) = ys.map (pN (t.ln.map (ndL t.salt))) ++ [root (seg (t.ln.map (ndL t.salt)) xl xh)]) := hid (by rw [List.map_append]; rfl)
  obtain ⟨ps, HPS⟩ : ∃ ps, Hid (ys.map (pN (t.ln.map (ndL t.salt))) = ps) := ⟨_, hid rfl⟩
  rw [HPS.out] at ho HLN HNX
  obtain ⟨q, HQ⟩ : ∃ q, Hid (root (seg (t.ln.map (ndL t.salt)) xl xh) = q) := ⟨_, hid rfl⟩
  rw [HQ.out] at HSRR HNK HNX
  have HS1 : Hid ((Tryz.prog.info? 39).map (·.size) = some (ndC q).toArray.size) := hid (by rw [size34 HNK.out]; simp)
  have HS2' : Hid (34 = (ndC q).toArray.size) := hid (by simp [ndC_length HNK.out])
  have m0 := cell_of_row _ _ 0 _ _ _ ((hB.block U1.heap.size (by have := HS2.out; omega)).trans HL2.out)
  have m1 := cell_of_row _ sb 0 _ _ _ hsb
  have m2 := cell_of_row _ sb 1 _ _ _ hsb
  have hfc : xl ≤ c1 := by omega
  have hto : xh ≤ c1 := by omega
  have hft : xl ≤ xh := by omega
  have d1 : decide (xl ≤ xh) = true := eQ hft
  have hxn : xh - xl ≤ 9223372036854775807 := by omega
  clear hr0 hlen hpl hpp HIW hx2
  gi_wp2_with fail
  refine ⟨trivial, ?_⟩
  refine (CallsIn.inRound l2 (callsIn_wide.2 (root_any (seg (t.ln.map (ndL t.salt)) xl xh) _ (xh - xl) (c1 - xl) V hxn HSG HTW))).mono ?_
  rintro e W5 ⟨rfl, hq⟩
  rw [HSRR.out.1, HSRR.out.2]
  have HRZ5 := hid (heap_alloc_new W5 (.cells (ndC zeroN).toArray 39))
  obtain ⟨W6, HW6⟩ : ∃ W6, Hid ((W5.alloc (.cells (ndC zeroN).toArray 39)).setRow W5.heap.size (ndC q).toArray = W6) := ⟨_, hid rfl⟩
  have hlr := laid_row W5 (ndC zeroN).toArray (ndC q).toArray 39
  rw [HW6.out] at hlr
  have hb6 := hq.trans (hlr.1.mono hq.size)
  have HB6 := hid (hB.trans (hb6.mono hB.size))
  have HR6 := hid hlr.2.2
  have HP6 := hid (row_kept hb hb6)
  have HO6 := hid (ho.below hb6)
  have hltb := (Array.getElem?_eq_some_iff.1 hb).1
  have HKO : Hid (KpF (FrB W2.heap.size 2) V W6) := hid ⟨hb6.size, fun b q hfr hq => by
   have hlt := (Array.getElem?_eq_some_iff.1 hq).1
   obtain ⟨e1, cs, tt, ff, u, e2, e3, e4⟩ := hfr
   exact ⟨⟨e1, cs, tt, ff, u, (hb6.block _ hltb).trans e2, e3, e4⟩, (hb6.block _ hlt).trans hq⟩⟩
  have HA6 := hid (OwnN.below HO6.out ((Below.refl _ W6).alloc (Nat.le_refl _) (.cells (flatN [q]).toArray 39)))
  have HSW : Hid (W2.heap.size ≤ (W6.alloc (.cells (flatN [q]).toArray 39)).heap.size) := hid (by rw [World.size_alloc]; have := HB6.out.size; omega)
  have HRF := hid (heap_alloc_new W6 (.cells (flatN [q]).toArray 39))
  have n1 := cell_of_row _ _ 2 _ _ _ HP6.out
  have n2 := cell_of_row _ _ 2 _ _ _ (row_kept HP6.out ((Below.refl _ W6).alloc (Nat.le_refl _) (.cells (flatN [q]).toArray 39)))
  obtain ⟨A', n', c', rfl⟩ := ho.form
  rw [zeroN_cells] at HRZ5 HW6
  clear m0 m1 m2 hlr hb6 hq hb ho hsb HSG HTW hltb hB
  gi_wp2_with (first | (rw [HW6.out]) | (refine wpListIn_store_row rfl 39 (.tmp 11) (.tmp 47) rfl W5.heap.size (ndC q).toArray rfl rfl 39 _ HRZ5.out HS1.out HS2'.out (ndC_one q) ?_; rw [HW6.out]) | (refine ⟨trivial, ?_⟩; gi_at_call 74; refine (CallsIn.inRound l2 (callsIn_wide.2 (try_ok _))).mono ?_; rintro e w' ⟨rfl, rfl⟩) | (refine wpListIn_load_row rfl 39 (.tmp 11) rfl W5.heap.size rfl 39 _ (0, 0) _ HR6.out Tryz.underlying39 rfl HS1.out ?_) | (refine wpListIn_build_nodes1 rfl (.tmp 53) rfl q rfl HNK.out ?_) | (refine wpListIn_append_node2 rfl (.tmp 52) (.tmp 54) rfl W2.heap.size _ ps q rfl HA6 HNK.out W6.heap.size rfl HRF HLN.out HSW.out ?_; intro v2 w2 HO2 HG2 HOB; obtain ⟨a1, a2, a3, a5⟩ := rowN_appended (o := 2) HP6.out (by decide) HO6.out HB6.out.size (Nat.le_refl _) HO2.out HG2.out; have q1 := cell_of_row _ _ 2 _ _ _ a1; have q2 := frozen_of_row _ _ 2 _ _ a1; obtain ⟨A2, n3, c2, rfl⟩ := HO2.out.form))
  refine ⟨HKO.out.trans (frB_kept HP6.out rfl a1 HG2.out HOB.out), ⟨⟨_, a2, ?_⟩, HB6.out.trans a5⟩⟩
  rw [HNX.out]
  exact a3
 case done =>
  rintro D ys V hD rfl ⟨⟨v, hb, ho⟩, hB⟩ hkw hfD hd
  have HOKS : Hid (∀ x ∈ (parts f g 0 p.n).map (pN (t.ln.map (ndL t.salt))), NdOk x) := hid (fun x hx => by
   obtain ⟨y, hy, rfl⟩ := List.mem_map.1 hx
   have hin := parts_inside hfg 0 p.n (by omega) y hy
   exact seg43_root_ok HIN2.out.ok hvL.out hin.2.1 (by rw [HIN2.out.len]; exact hin.2.2))
  obtain ⟨A3, n3, c3, rfl⟩ := ho.form
  have hx1 := (hB.block (w.heap.size + 1) (by have := HS2.out; have := HSU.out; omega)).trans HX2.out
  have he1 := (hB.block (w.heap.size + 1 + 1) (by have := HS2.out; have := HSU.out; omega)).trans HE2.out
  have hDs : W2.heap.size < D := by have := HB4.out.size; have := HS4.out; have := (HLR.out).2.1; omega
  have hws : w.heap.size + 4 ≤ W2.heap.size := by have := HS2.out; have := HSU.out; omega
  have exa := setCell_eq_setRow V (w.heap.size + 1) 0 _ _ _ (.int .i64 (f : Nat)) hx1
  have hxa := setRow_heap V (w.heap.size + 1) _ (#[.int .i64 0, .int .i64 0, .slice none 0 0].setIfInBounds 0 (.int .i64 (f : Nat))) _ _ hx1
  have ca := cell_of_row _ _ 0 _ _ _ hx1
  have fa := frozen_of_row _ _ 0 _ _ hx1
  rw [← exa] at hxa
  obtain ⟨Va, HVa⟩ : ∃ V1, Hid (V.setCell ⟨w.heap.size + 1, 0, none⟩ (.int .i64 (f : Nat)) = V1) := ⟨_, hid rfl⟩
  rw [HVa.out] at hxa exa
  replace hxa : Va.heap[w.heap.size + 1]? = some (.cells #[.int .i64 (f : Nat), .int .i64 0, .slice none 0 0] 66 (0, 0)) := hxa
  have exb := setCell_eq_setRow Va (w.heap.size + 1) 1 _ _ _ (.int .i64 (g : Nat)) hxa
  have hxb := setRow_heap Va (w.heap.size + 1) _ (#[.int .i64 (f : Nat), .int .i64 0, .slice none 0 0].setIfInBounds 1 (.int .i64 (g : Nat))) _ _ hxa
  have cb := cell_of_row _ _ 1 _ _ _ hxa
  have fb := frozen_of_row _ _ 1 _ _ hxa
  rw [← HVa.out] at cb fb
  rw [← exb] at hxb
  obtain ⟨Vb, HVb⟩ : ∃ V1, Hid (Va.setCell ⟨w.heap.size + 1, 1, none⟩ (.int .i64 (g : Nat)) = V1) := ⟨_, hid rfl⟩
  rw [HVb.out] at hxb exb
  replace hxb : Vb.heap[w.heap.size + 1]? = some (.cells #[.int .i64 (f : Nat), .int .i64 (g : Nat), .slice none 0 0] 66 (0, 0)) := hxb
  have exc := setCell_eq_setRow Vb (w.heap.size + 1) 2 _ _ _ (.slice A3 n3 c3) hxb
  have hv1x := setRow_heap Vb (w.heap.size + 1) _ (#[.int .i64 (f : Nat), .int .i64 (g : Nat), .slice none 0 0].setIfInBounds 2 (.slice A3 n3 c3)) _ _ hxb
  have cc := cell_of_row _ _ 2 _ _ _ hxb
  have fc := frozen_of_row _ _ 2 _ _ hxb
  rw [← HVb.out, ← HVa.out] at cc fc
  rw [← exc] at hv1x
  obtain ⟨V1, HV1⟩ : ∃ V1, Hid (Vb.setCell ⟨w.heap.size + 1, 2, none⟩ (.slice A3 n3 c3) = V1) := ⟨_, hid rfl⟩
  rw [HV1.out] at hv1x exc
  have hv1o : ∀ b, b ≠ w.heap.size + 1 → V1.heap[b]? = V.heap[b]? := fun b hb => by rw [exc, setRow_other _ _ b _ hb, exb, setRow_other _ _ b _ hb, exa, setRow_other _ _ b _ hb]
  have hv1s : V1.heap.size = V.heap.size := by rw [exc, setRow_size, exb, setRow_size, exa, setRow_size]
  have HVV : Hid (((V.setCell ⟨w.heap.size + 1, 0, none⟩ (.int .i64 (f : Nat))).setCell ⟨w.heap.size + 1, 1, none⟩ (.int .i64 (g : Nat))).setCell ⟨w.heap.size + 1, 2, none⟩ (.slice A3 n3 c3) = V1) := hid (by rw [HVa.out, HVb.out, HV1.out])
  clear hxa hxb
  have he2 := (hv1o (w.heap.size + 1 + 1) (by omega)).trans he1
  have fz := frozen_of_row _ _ 0 _ _ he2
  have cz := cell_of_row _ _ 0 _ _ _ he2
  obtain ⟨V2, HV2⟩ : ∃ V2, Hid (V1.setCell ⟨w.heap.size + 1 + 1, 0, none⟩ (.int .i64 0) = V2) := ⟨_, hid rfl⟩
  have ex := setCell_eq_setRow V1 (w.heap.size + 1 + 1) 0 _ _ _ (.int .i64 0) he2
  rw [HV2.out] at ex
  have hv2e := setRow_heap V1 (w.heap.size + 1 + 1) _ (#[.int .i64 0].setIfInBounds 0 (.int .i64 0)) _ _ he2
  rw [← ex] at hv2e
  have hv2o : ∀ b, b ≠ w.heap.size + 1 + 1 → V2.heap[b]? = V1.heap[b]? := fun b hb => by rw [ex]; exact setRow_other V1 _ b _ hb
  have hv2s : V2.heap.size = V.heap.size := by rw [ex, setRow_size, hv1s]
  have hd2 : V2.heap[D]? = some (.deferred (some [])) := (hv2o D (by omega)).trans ((hv1o D (by omega)).trans hd)
  obtain ⟨V3, HV3⟩ : ∃ V3, Hid (V2.putObj D (.deferred none) = V3) := ⟨_, hid rfl⟩
  have hv3o : ∀ b, b ≠ D → V3.heap[b]? = V2.heap[b]? := fun b hb => by rw [← HV3.out]; exact World.putObj_heap_other hb
  have ho3 : OwnN V3 W2.heap.size (.slice A3 n3 c3) ((parts f g 0 p.n).map (pN (t.ln.map (ndL t.salt)))) := ho.kept fun b hbk => by
   obtain ⟨h9, hlt, cur, hcur⟩ := ho.block b hbk
   have h5 : b ≠ D := fun e => by rw [e, hd] at hcur; cases hcur
   exact (hv3o b h5).trans ((hv2o b (by omega)).trans (hv1o b (by omega)))
  have HX3 := hid ((hv3o (w.heap.size + 1) (by omega)).trans ((hv2o (w.heap.size + 1) (by omega)).trans hv1x))
  have HE3 : Hid (V3.heap[w.heap.size + 1 + 1]? = some (.cells #[.int .i64 0] 31 (0, 0))) := hid ((hv3o _ (by omega)).trans hv2e)
  have hB1 : Below w.heap.size w V1 := by rw [exc, exb, exa]; exact below_setRow (below_setRow (below_setRow (HB2.out.trans (hB.mono HB2.out.size)) (by omega) _) (by omega) _) (by omega) _
  have hB2 : Below w.heap.size w V2 := by rw [← HV2.out]; exact hB1.setCell (p := ⟨w.heap.size + 1 + 1, 0, none⟩) (show w.heap.size ≤ w.heap.size + 1 + 1 by omega) _
  have hB3 : Below w.heap.size w V3 := by rw [← HV3.out]; exact hB2.trans (belowK_b (w := w) (Nat.le_refl _) _ D _ _ (by omega) hd2 rfl rfl)
  obtain ⟨A4, n4, c4, e4, hin4, _⟩ := ho3.slice HOKS.out
  cases e4
  have HIN := hid hin4
  have HBF := hid hB3
  have HD2 := hid hd2
  have HXR := hid hx1
  have HP := hid hb
  have HPI3 : Hid ((Tryz.prog.info? 66).map (·.size) = some (#[.int .i64 (f : Nat), .int .i64 (g : Nat), .slice A3 n3 c3] : Array Value).size) := hid (part_info _ _ _)
  clear hx1 he1 hv1x hv1o exa exb exc ex hv2e hv2o hv2s hv1s he2 hd2 hv3o ho3 hB1 hB2 hB3 hin4 hkw ho hB hb hd hfD
  gi_wp2_with (first | (rw [HVV.out]) | (rw [HV2.out]) | (refine wpListIn_load_row rfl 66 (.tmp 9) rfl W2.heap.size rfl 66 _ (0, 0) _ HP.out Tryz.underlying66 rfl HPI3.out ?_))
  refine ⟨by simp, .inl ⟨_, _, rfl, run_takeDeferred HD2.out, ?_⟩⟩
  rw [HV3.out]
  refine ⟨by simp, .inr ⟨by simp [Fence.wide], _, _, 72, #[.pointer (some ⟨w.heap.size + 1 + 1, 0, none⟩)], rfl, by simp [invoke, go_sem], fun _ _ => trivial, ?_⟩⟩
  refine (show1_idle (w.heap.size + 1 + 1) _ _).mono ?_
  rintro e u' w'' ⟨rfl, rfl, rfl⟩
  have cx0 := cell_of_row _ _ 0 _ _ _ HX3.out
  have cx1 := cell_of_row _ _ 1 _ _ _ HX3.out
  have cx2 := cell_of_row _ _ 2 _ _ _ HX3.out
  have cez := cell_of_row _ _ 0 _ _ _ HE3.out
  simp at cx0 cx1 cx2 cez
  refine ⟨.tuple #[.agg #[.int .i64 (f : Nat), .int .i64 (g : Nat), .slice A3 n3 c3], .int .i64 0], ?_, A3, n3, c3, rfl, HIN.out, HBF.out⟩
  simp [results, Tryz.results32, asAddr, cx0, cx1, cx2, cez, go_sem]
section
variable {P : Program} {ops : Array Oper}
theorem wp_flow5 {o : Oper} {a : Act} {w : World} {K : Act → World → Prop} {Q Q' : Exit → Act → World → Prop} (hL : ¬ LetsOut Q') (hP : ∀ ch a w, Q' (.panic ch) a w → Q (.panic ch) a w) (hK : ∀ a' w', Q' .normal a' w' → K a' w')
  (hh : o.wp P a w (wpList P ops Q' []) Q') : o.wp P a w K Q := by
 unfold Oper.wp at *
 generalize (execOp a.eval o).run P w = r at *
 cases r with
 | ok n w' =>
  cases n <;> simp only [Oper.upon] at hh ⊢ <;>
   first
    | exact hK _ _ hh
    | exact Calls.mono hh (fun e w'' he => by cases e <;> first | exact hK _ _ he | exact hP _ _ _ he | exact absurd he hL)
    | exact Rows.mono hh (fun _ _ he => hK _ _ he)
 | halt x w' => cases x <;> simp only [Oper.upon] at hh ⊢ <;> first | exact hP _ _ _ hh | exact hh
theorem wpOp_flow5 {i : Nat} {o : Oper} {a : Act} {w : World} {K : Act → World → Prop} {Q Q' : Exit → Act → World → Prop} (ho : ops[i]? = some o) (hL : ¬ LetsOut Q') (hP : ∀ ch a w, Q' (.panic ch) a w → Q (.panic ch) a w) (hK : ∀ a' w', Q' .normal a' w' → K a' w')
  (h : wpList P ops Q' [o] a w) : wpOp P ops Q i K a w := by
 unfold wpList at h
 unfold wpOp
 simp only [ho]
 split at h
 ·rename_i hw
  rw [if_pos hw]
  rcases h with h | h
  ·exact .inl (wp_flow5 hL hP hK h)
  ·exact absurd h.2 hL
 ·rename_i hw
  rw [if_neg hw]
  exact hK _ _ h
/-- what an operation must reach: its own fact, the others' kept as far as they are needed; no other way out -/
def FlowPost5 (E : Nat → Bool) (l0 : List Oper) (k : Nat → Nat) (build : (Nat → Value) → Array Value) (df : List Deferred) (C : (Nat → Bool) → (Nat → Value) → World → Prop) (S : Nat → Value → Value → World → Prop) (R : List PanicEntry → World → Prop) (i : Nat) (L : Nat → Bool) (x : Nat → Value) (w : World) : Exit → Act → World → Prop
 | .normal, a', w' => ∃ v, a' = ⟨build (upd x i v), df⟩ ∧ C (updB L i) (upd x i v) w' ∧ S i v (upd x i v (k i)) w' ∧ ∀ j u t, L j = true → (E j = true ∨ ∃ m, m ∈ usersB l0 j ∧ m ≠ i ∧ L m = false) → S j u t w → S j u t w'
 | .panic ch, a', w' => a'.defers = df ∧ R ch w'
 | _, _, _ => False
def FlowAll5 (P : Program) (ops : Array Oper) (E : Nat → Bool) (l0 : List Oper) (k : Nat → Nat) (build : (Nat → Value) → Array Value) (df : List Deferred) (C : (Nat → Bool) → (Nat → Value) → World → Prop) (S : Nat → Value → Value → World → Prop) (R : List PanicEntry → World → Prop) : Nat → List Oper → Prop
 | _, [] => True
 | i, o :: l => (∀ L x w, C L x w → L i = false → (∀ m j, L m = true → usesB l0 m j = true → L j = true) → (∀ m, usesB l0 i m = true → L m = true) → Deps3 k S x w o.after.toList → wpList P ops (FlowPost5 E l0 k build df C S R i L x w) [o] ⟨build x, df⟩ w) ∧ FlowAll5 P ops E l0 k build df C S R (i + 1) l
theorem FlowAll5.at {l0 : List Oper} {E : Nat → Bool} {k : Nat → Nat} {build : (Nat → Value) → Array Value} {df : List Deferred} {C : (Nat → Bool) → (Nat → Value) → World → Prop} {S : Nat → Value → Value → World → Prop} {R : List PanicEntry → World → Prop} :
  ∀ (l : List Oper) (m i : Nat) (o : Oper), FlowAll5 P ops E l0 k build df C S R m l → l[i]? = some o → ∀ L x w, C L x w → L (m + i) = false → (∀ m' j, L m' = true → usesB l0 m' j = true → L j = true) → (∀ m', usesB l0 (m + i) m' = true → L m' = true) → Deps3 k S x w o.after.toList → wpList P ops (FlowPost5 E l0 k build df C S R (m + i) L x w) [o] ⟨build x, df⟩ w
 | [], m, i, o, _, h => by simp at h
 | o' :: l, m, 0, o, h, ho => by
  have : o' = o := by simpa using ho
  subst this
  exact h.1
 | o' :: l, m, i + 1, o, h, ho => by
  have := FlowAll5.at l (m + 1) i o h.2 (by simpa using ho)
  rw [show m + (i + 1) = m + 1 + i by omega]
  exact this
theorem any_flow5 {E : Nat → Bool} {k : Nat → Nat} {l : List Oper} {Q : Exit → Act → World → Prop} {build : (Nat → Value) → Array Value} {df : List Deferred} {C : (Nat → Bool) → (Nat → Value) → World → Prop} {S : Nat → Value → Value → World → Prop} {R : List PanicEntry → World → Prop} (hB : flowB l = true) (hk : tiedB k l = true) (hall : FlowAll5 P l.toArray E l k build df C S R 0 l)
  (hpan : ∀ ch a' w', a'.defers = df → R ch w' → Q (.panic ch) a' w')
  (hend : ∀ L x w, (∀ i, i < l.length → L i = true) → C L x w → (∀ i, i < l.length → E i = true → S i (x i) (x (k i)) w) → Q .normal ⟨build x, df⟩ w) :
  ∀ (f : Nat) (listed : Array Bool) (x : Nat → Value) (w : World), listed.size = l.length → cnt listed l.length ≤ f → C (fun j => listed.getD j false) x w → (∀ i, listed.getD i false = true → (E i = true ∨ ∃ m, m < l.length ∧ listed.getD m true = false ∧ usesB l m i = true) → S i (x i) (x (k i)) w) → (∀ i, listed.getD i false = true → listed.getD (k i) false = true) → (∀ m j, listed.getD m false = true → usesB l m j = true → listed.getD j false = true) → wpAny P .any l.toArray Q f listed ⟨build x, df⟩ w := by
 have hfull : ∀ (listed : Array Bool) (x : Nat → Value) (w : World), listed.size = l.length → C (fun j => listed.getD j false) x w → (∀ i, listed.getD i false = true → (E i = true ∨ ∃ m, m < l.length ∧ listed.getD m true = false ∧ usesB l m i = true) → S i (x i) (x (k i)) w) → Region.ready .any l.toArray listed = [] → Q .normal ⟨build x, df⟩ w := by
  intro listed x w hs hC hS hr
  have hlt : ∀ n i, i < n → i < l.length → listed.getD i true = true := by
   intro n
   induction n with
   | zero => intro i hi; omega
   | succ n ih =>
    intro i hi hil
    rcases Nat.lt_or_ge i n with h | h
    ·exact ih i h hil
    ·obtain rfl : i = n := by omega
     apply Classical.byContradiction
     intro hne
     have hf : listed.getD i true = false := by simpa using hne
     have : i ∈ Region.ready .any l.toArray listed := by
      refine mem_ready.2 ⟨hf, l[i], by simp [hil], fun e he hbd => ?_⟩
      have h1 := List.all_eq_true.1 hB i (by simpa using hil)
      simp only [List.getElem?_eq_getElem hil, Option.map_some, Option.getD_some] at h1
      have h2 := Array.all_eq_true_iff_forall_mem.1 h1 e he
      have h3 : e.on < i := by rw [hbd] at h2; simpa using h2
      have h4 := ih e.on h3 (by omega)
      have h5 : e.on < listed.size := by omega
      simp only [Array.getD, h5, dite_true] at h4 ⊢
      exact h4
     rw [hr] at this
     cases this
  have hall : ∀ i, i < l.length → listed.getD i false = true := fun i hi => by
   have h4 := hlt (i + 1) i (by omega) hi
   have h5 : i < listed.size := by omega
   simp only [Array.getD, h5, dite_true] at h4 ⊢
   exact h4
  exact hend _ x w hall hC fun i hi hE => hS i (hall i hi) (.inl hE)
 intro f
 induction f with
 | zero =>
  intro listed x w hs hc hC hS hT hD
  have hr : Region.ready .any l.toArray listed = [] := by
   rw [List.eq_nil_iff_forall_not_mem]
   intro i hi
   obtain ⟨hu, o, ho, _⟩ := mem_ready.1 hi
   have hil : i < l.length := by have := (Array.getElem?_eq_some_iff.1 ho).1; simpa using this
   have : 0 < cnt listed l.length := List.countP_pos_iff.2 ⟨i, by simpa using hil, by rw [hu]; rfl⟩
   omega
  exact ⟨hr, hfull listed x w hs hC hS hr⟩
 | succ f ih =>
  intro listed x w hs hc hC hS hT hD
  refine ⟨fun hr => hfull listed x w hs hC hS hr, fun i hi => ?_⟩
  obtain ⟨hu, o, ho, hd⟩ := mem_ready.1 hi
  have hil : i < l.length := by have := (Array.getElem?_eq_some_iff.1 ho).1; simpa using this
  have hol : l[i]? = some o := by simpa using ho
  have hui : listed.getD i false = false := by
   have : i < listed.size := by omega
   simp only [Array.getD, this, dite_true] at hu ⊢
   exact hu
  have hdn : ∀ j, usesB l (0 + i) j = true → listed.getD j false = true := fun j huse => by
   rw [Nat.zero_add] at huse
   unfold usesB at huse
   rw [hol, Option.map_some, Option.getD_some] at huse
   obtain ⟨q, hq, h2⟩ := Array.any_eq_true.1 huse
   simp only [Bool.and_eq_true] at h2
   have h3 := hd _ (Array.getElem_mem hq) (dataE_binds h2.1)
   rw [Nat.eq_of_beq_eq_true h2.2] at h3
   exact h3
  have hstep := hall.at l 0 i o hol (fun j => listed.getD j false) x w hC (by rw [Nat.zero_add]; exact hui) hD hdn (deps3_of _ fun e he hb => hS e.on (hd e (by simpa using he) (dataE_binds hb)) (.inr ⟨i, hil, hu, by
   unfold usesB
   rw [hol, Option.map_some, Option.getD_some]
   exact Array.any_eq_true'.2 ⟨e, by simpa using he, by rw [hb]; simp⟩⟩))
  rw [Nat.zero_add] at hstep
  refine wpOp_flow5 ho (fun ⟨_, _, h⟩ => h) (fun ch a w h => ?_) (fun a' w' h => ?_) hstep
  ·exact hpan _ _ _ h.1 h.2
  ·obtain ⟨v, rfl, hC', hS', hk'⟩ := h
   have hfe : (fun j => (listed.setIfInBounds i true).getD j false) = updB (fun j => listed.getD j false) i := by
    funext j
    by_cases e : j = i
    ·subst e
     have h1 : j < (listed.setIfInBounds j true).size := by simp; omega
     rw [updB_same]
     simp only [Array.getD, h1, dite_true]; simp
    ·rw [getD_set_ne false (Ne.symm e)]
     unfold updB
     rw [show Nat.beq j i = false by cases hb : Nat.beq j i; rfl; exact absurd (Nat.eq_of_beq_eq_true hb) e]; rfl
   have hset0 : ∀ m, listed.getD m false = true → (listed.setIfInBounds i true).getD m false = true := fun m hm => by
    have := congrFun hfe m
    rw [this]; unfold updB; simp only [hm, Bool.or_true]
   refine ih _ _ _ (by simp [hs]) ?_ (by rw [hfe]; exact hC') (fun j hj hn => ?_) (fun j hj => ?_) fun m j hm huse => ?_
   ·have h1 := countP_drop (p := fun k => !listed.getD k true) (q := fun k => !(listed.setIfInBounds i true).getD k true) (i := i) (List.range l.length) List.nodup_range (by simpa using hil) (by rw [hu]; rfl)
     (by have : i < (listed.setIfInBounds i true).size := by simp; omega
         simp only [Array.getD, this, dite_true]; simp) (fun j hj => by rw [getD_set_ne true (Ne.symm hj)])
    have h2 : cnt listed l.length ≤ f + 1 := hc
    unfold cnt at h2 ⊢
    omega
   ·by_cases e : j = i
    ·subst e; rw [upd_same]; exact hS'
    ·rw [getD_set_ne false (Ne.symm e)] at hj
     have hki : k j ≠ i := fun e2 => by
      have := hT j hj
      rw [e2, getD_both hu] at this
      cases this
     rw [upd_ne x v e, upd_ne x v hki]
     have hn' : E j = true ∨ ∃ m, m < l.length ∧ m ≠ i ∧ listed.getD m true = false ∧ usesB l m j = true := by
      rcases hn with h | ⟨m, h1, h2, h3⟩
      ·exact .inl h
      ·refine .inr ⟨m, h1, ?_, ?_, h3⟩
       ·intro em
        subst em
        have : m < (listed.setIfInBounds m true).size := by simp; omega
        simp only [Array.getD, this, dite_true] at h2
        simp at h2
       ·by_cases em : m = i
        ·subst em
         have : m < (listed.setIfInBounds m true).size := by simp; omega
         simp only [Array.getD, this, dite_true] at h2
         simp at h2
        ·rwa [getD_set_ne true (Ne.symm em)] at h2
     refine hk' j _ _ hj ?_ (hS j hj ?_)
     ·rcases hn' with h | ⟨m, h1, h2, h4, h3⟩
      ·exact .inl h
      ·refine .inr ⟨m, mem_users h1 h3, h2, ?_⟩
       have : m < listed.size := by omega
       simp only [Array.getD, this, dite_true] at h4 ⊢
       exact h4
     ·rcases hn' with h | ⟨m, h1, _, h2, h3⟩
      ·exact .inl h
      ·exact .inr ⟨m, h1, h2, h3⟩
   ·have hset : ∀ m, listed.getD m false = true → (listed.setIfInBounds i true).getD m false = true := fun m hm => by
     by_cases e : m = i
     ·subst e; rw [getD_both hu] at hm; cases hm
     ·rw [getD_set_ne false (Ne.symm e)]; exact hm
    by_cases e : j = i
    ·subst e
     have h1 := List.all_eq_true.1 hk j (by simpa using hil)
     simp only [Bool.or_eq_true] at h1
     rcases h1 with h1 | h1
     ·rw [Nat.eq_of_beq_eq_true h1]; exact hj
     ·have ho' : l[j]? = some o := by simpa using ho
      rw [ho', Option.map_some, Option.getD_some] at h1
      obtain ⟨m, hm, h2⟩ := Array.any_eq_true.1 h1
      obtain ⟨e, he, h2⟩ : ∃ e ∈ o.after, (Region.binds .any e && Nat.beq e.on (k j)) = true := ⟨_, Array.getElem_mem hm, h2⟩
      simp only [Bool.and_eq_true] at h2
      rw [← Nat.eq_of_beq_eq_true h2.2]
      exact hset _ (hd e he h2.1)
    ·rw [getD_set_ne false (Ne.symm e)] at hj
     exact hset _ (hT j hj)
   ·by_cases e : m = i
    ·subst e
     unfold usesB at huse
     rw [hol, Option.map_some, Option.getD_some] at huse
     obtain ⟨q, hq, h2⟩ := Array.any_eq_true.1 huse
     simp only [Bool.and_eq_true] at h2
     have h3 := hd _ (Array.getElem_mem hq) (dataE_binds h2.1)
     rw [Nat.eq_of_beq_eq_true h2.2] at h3
     exact hset0 _ h3
    ·rw [getD_set_ne false (Ne.symm e)] at hm
     exact hset0 _ (hD m j hm huse)
/-- the region -/
theorem region_flow5 {l : List Oper} {Q : Exit → Act → World → Prop} {id : Nat} {df : List Deferred} {w : World} (hm : P.follows .mixedOrders = true) (hB : flowB l = true) (E : Nat → Bool)
  (k : Nat → Nat) (hk : tiedB k l = true) (build : (Nat → Value) → Array Value) (x0 : Nat → Value) (C : (Nat → Bool) → (Nat → Value) → World → Prop) (S : Nat → Value → Value → World → Prop) (R : List PanicEntry → World → Prop) (hC : C (fun _ => false) x0 w.drew) (hall : FlowAll5 P l.toArray E l k build df C S R 0 l)
  (hpan : ∀ ch a' w', a'.defers = df → R ch w' → Q (.panic ch) a' w')
  (hend : ∀ L x w, (∀ i, i < l.length → L i = true) → C L x w → (∀ i, i < l.length → E i = true → S i (x i) (x (k i)) w) → Q .normal ⟨build x, df⟩ w) : (Code.region id l.toArray true).wp P Q ⟨build x0, df⟩ w := by
 have hf : (fun j => (Array.replicate l.toArray.size false).getD j false) = fun _ => false := by funext j; exact getD_replicate_false _ _
 refine wp_region_any hm (any_flow5 hB hk hall hpan hend _ _ _ _ (by simp) ?_ (by rw [hf]; exact hC) (fun i hi => ?_) (fun i hi => ?_) fun m j hm _ => ?_)
 ·have : cnt (Array.replicate l.toArray.size false) l.length ≤ (List.range l.length).length := List.countP_le_length
  simpa using this
 ·rw [getD_replicate_false] at hi; cases hi
 ·rw [getD_replicate_false] at hi; cases hi
 ·rw [getD_replicate_false] at hm; cases hm
end
end Go.Proofs.YtmfmgeapecapiaaGreatDoor
namespace Go.Proofs.SzTree
open SzSha
set_option linter.unusedVariables false
abbrev VJt := Nd × List Nd × Int × Int
def vj1 (ins : Bool) : List Nd → Option VJt
 | [] => none
 | x :: r => if vN x then some (x, r, (if ins then x.c else 0), (if ins then x.p else 0)) else none
def vjC (g1 g2 : List Nd → Option VJt) (ls : List Nd) : Option VJt :=
 match g1 ls with
 | none => none
 | some (a, r, c1, p1) => match g2 r with
  | none => none
  | some (b, r2, c2, p2) => if vL [a, b] then some (joinN a b, r2, c1 + c2, p1 + p2) else none
def vjF : Nat → Nat → Nat → Nat → Nat → List Nd → Option VJt
 | 0, f, t, lo, hi => vj1 (insB f t lo hi)
 | n + 1, f, t, lo, hi => if insB f t lo hi || outB f t lo hi then vj1 (insB f t lo hi) else vjC (vjF n f t lo (lo + half (hi - lo))) (vjF n f t (lo + half (hi - lo)) hi)
theorem vjF_fuel {f t : Nat} (hft : f < t) : ∀ n m lo hi, lo < hi → hi - lo ≤ n + 1 → hi - lo ≤ m + 1 → vjF n f t lo hi = vjF m f t lo hi
 | 0, 0, _, _, _, _, _ => rfl
 | 0, m + 1, lo, hi, h, h1, h2 => by
  conv => rhs; unfold vjF
  by_cases hc : (insB f t lo hi || outB f t lo hi) = true
  ·rw [if_pos hc]; rfl
  ·have := cut_two h hft (by simpa using hc); omega
 | n + 1, 0, lo, hi, h, h1, h2 => by
  conv => lhs; unfold vjF
  by_cases hc : (insB f t lo hi || outB f t lo hi) = true
  ·rw [if_pos hc]; rfl
  ·have := cut_two h hft (by simpa using hc); omega
 | n + 1, m + 1, lo, hi, h, h1, h2 => by
  unfold vjF
  by_cases hc : (insB f t lo hi || outB f t lo hi) = true
  ·rw [if_pos hc, if_pos hc]
  ·have h3 := cut_two h hft (by simpa using hc)
   have hb := half_bd h3
   rw [if_neg hc, if_neg hc, vjF_fuel hft n m lo _ (by omega) (by omega) (by omega), vjF_fuel hft n m _ hi (by omega) (by omega) (by omega)]
/-- what the join of a part leads to: its node, the nodes that are left, the sums -/
def vj (f t lo hi : Nat) : List Nd → Option VJt := vjF (hi - lo) f t lo hi
theorem vj_leaf {f t lo hi : Nat} (h : lo < hi) (hc : (insB f t lo hi || outB f t lo hi) = true) : vj f t lo hi = vj1 (insB f t lo hi) := by
 obtain ⟨k, e⟩ : ∃ k, hi - lo = k + 1 := ⟨hi - lo - 1, by omega⟩
 unfold vj
 rw [e]
 unfold vjF
 rw [if_pos hc]
theorem vj_cut {f t lo hi : Nat} (h : lo < hi) (hft : f < t) (hc : (insB f t lo hi || outB f t lo hi) = false) : vj f t lo hi = vjC (vj f t lo (lo + half (hi - lo))) (vj f t (lo + half (hi - lo)) hi) := by
 have h2 := cut_two h hft hc
 have hb := half_bd h2
 obtain ⟨k, e⟩ : ∃ k, hi - lo = k + 1 := ⟨hi - lo - 1, by omega⟩
 unfold vj
 conv => lhs; rw [e]; unfold vjF
 rw [if_neg (by rw [hc]; simp), vjF_fuel hft k (lo + half (hi - lo) - lo) lo _ (by omega) (by omega) (by omega), vjF_fuel hft k (hi - (lo + half (hi - lo))) _ hi (by omega) (by omega) (by omega)]
end Go.Proofs.SzTree
namespace Go.Proofs.YtmfmgeapecapiaaGreatDoor
open Go.RowKit Go.Shelf SzSha SzTree
set_option linter.unusedVariables false
set_option maxRecDepth 100000
/-- the boxes that the join shares -/
structure BX (WB : World) (bw br bc bp bj : Nat) : Prop where
 lw : WB.heap.size ≤ bw
 lr : WB.heap.size ≤ br
 lc : WB.heap.size ≤ bc
 lp : WB.heap.size ≤ bp
 lj : WB.heap.size ≤ bj
 wr : bw ≠ br
 wc : bw ≠ bc
 wp : bw ≠ bp
 rc : br ≠ bc
 rp : br ≠ bp
 rj : br ≠ bj
 cp : bc ≠ bp
 cj : bc ≠ bj
 pj : bp ≠ bj
def jnV (bw br bc bp bj : Nat) : Value := .func (.func 83) #[] #[.pointer (some ⟨bw, 0, none⟩), .pointer (some ⟨br, 0, none⟩), .pointer (some ⟨bc, 0, none⟩), .pointer (some ⟨bp, 0, none⟩), .pointer (some ⟨bj, 0, none⟩)]
structure VJ (WB : World) (bw br bc bp bj f t : Nat) (w : World) (ls : List Nd) (c p : Int) : Prop where
 bel : Below WB.heap.size WB w
 want : w.heap[bw]? = some (.cells #[.int .i64 (f : Nat), .int .i64 (t : Nat)] 119 (0, 0))
 rest : ∃ A n cc, w.heap[br]? = some (.cells #[.slice A n cc] 30 (0, 0)) ∧ InN WB A n cc ls
 cr : w.heap[bc]? = some (.cells #[.int .i64 c] 3 (0, 0))
 pt : w.heap[bp]? = some (.cells #[.int .i64 p] 3 (0, 0))
 jn : w.heap[bj]? = some (.cells #[jnV bw br bc bp bj] 132 (0, 0))
/-- the other blocks lie as they lay -/
structure KJ (WB : World) (br bc bp : Nat) (w w' : World) : Prop where
 bel : Below WB.heap.size w w'
 old : ∀ b, b < w.heap.size → b ≠ br → b ≠ bc → b ≠ bp → w'.heap[b]? = w.heap[b]?
theorem KJ.of_below {WB w w' : World} {br bc bp : Nat} (h : Below w.heap.size w w') (hs : WB.heap.size ≤ w.heap.size) : KJ WB br bc bp w w' := ⟨h.mono hs, fun b hb _ _ _ => h.block b hb⟩
theorem KJ.trans {WB a b c : World} {br bc bp : Nat} (h : KJ WB br bc bp a b) (k : KJ WB br bc bp b c) : KJ WB br bc bp a c := ⟨h.bel.trans k.bel, fun x hx h1 h2 h3 => (k.old x (Nat.lt_of_lt_of_le hx h.bel.size) h1 h2 h3).trans (h.old x hx h1 h2 h3)⟩
theorem KJ.row {WB w w' : World} {br bc bp b : Nat} {o : Obj} (h : KJ WB br bc bp w w') (hb : w.heap[b]? = some o) (h1 : b ≠ br) (h2 : b ≠ bc) (h3 : b ≠ bp) : w'.heap[b]? = some o := (h.old b (Array.getElem?_eq_some_iff.1 hb).1 h1 h2 h3).trans hb
theorem VJ.below {WB w w' : World} {bw br bc bp bj f t : Nat} {ls : List Nd} {c p : Int} (h : VJ WB bw br bc bp bj f t w ls c p) (hb : Below w.heap.size w w') : VJ WB bw br bc bp bj f t w' ls c p := by
 obtain ⟨A, n, cc, h1, h2⟩ := h.rest
 exact ⟨h.bel.trans (hb.mono h.bel.size), row_kept h.want hb, ⟨A, n, cc, row_kept h1 hb, h2⟩, row_kept h.cr hb, row_kept h.pt hb, row_kept h.jn hb⟩
theorem set_one {w : World} {b : Nat} {t : TypeId} {x v : Value} (h : w.heap[b]? = some (.cells #[x] t (0, 0))) : (w.setCell ⟨b, 0, none⟩ v).heap[b]? = some (.cells #[v] t (0, 0)) ∧ (∀ k, k ≠ b → (w.setCell ⟨b, 0, none⟩ v).heap[k]? = w.heap[k]?) ∧ (w.setCell ⟨b, 0, none⟩ v).heap.size = w.heap.size := by
 have ex := setCell_eq_setRow w b 0 _ _ _ v h
 rw [ex]
 exact ⟨setRow_heap w b _ (#[x].setIfInBounds 0 v) _ _ h, fun k hk => setRow_other w b k _ hk, setRow_size _ _ _⟩
theorem VJ.setRest {WB w : World} {bw br bc bp bj f t : Nat} {ls ls' : List Nd} {c p : Int} (hx : BX WB bw br bc bp bj) (h : VJ WB bw br bc bp bj f t w ls c p) {A : Option Addr} {n cc : Nat} (hi : InN WB A n cc ls') : VJ WB bw br bc bp bj f t (w.setCell ⟨br, 0, none⟩ (.slice A n cc)) ls' c p ∧ KJ WB br bc bp w (w.setCell ⟨br, 0, none⟩ (.slice A n cc)) := by
 obtain ⟨A0, n0, c0, h1, h2⟩ := h.rest
 obtain ⟨e1, e2, e3⟩ := set_one (v := .slice A n cc) h1
 have hb : Below WB.heap.size w (w.setCell ⟨br, 0, none⟩ (.slice A n cc)) := (Below.refl _ _).setCell (p := ⟨br, 0, none⟩) hx.lr _
 exact ⟨⟨h.bel.trans hb, (e2 _ hx.wr).trans h.want, ⟨A, n, cc, e1, hi⟩, (e2 _ hx.rc.symm).trans h.cr, (e2 _ hx.rp.symm).trans h.pt, (e2 _ hx.rj.symm).trans h.jn⟩, ⟨hb, fun b _ h1 _ _ => e2 b h1⟩⟩
theorem VJ.setCr {WB w : World} {bw br bc bp bj f t : Nat} {ls : List Nd} {c p : Int} (hx : BX WB bw br bc bp bj) (h : VJ WB bw br bc bp bj f t w ls c p) (c' : Int) : VJ WB bw br bc bp bj f t (w.setCell ⟨bc, 0, none⟩ (.int .i64 c')) ls c' p ∧ KJ WB br bc bp w (w.setCell ⟨bc, 0, none⟩ (.int .i64 c')) := by
 obtain ⟨A0, n0, c0, h1, h2⟩ := h.rest
 obtain ⟨e1, e2, e3⟩ := set_one (v := .int .i64 c') h.cr
 have hb : Below WB.heap.size w (w.setCell ⟨bc, 0, none⟩ (.int .i64 c')) := (Below.refl _ _).setCell (p := ⟨bc, 0, none⟩) hx.lc _
 exact ⟨⟨h.bel.trans hb, (e2 _ hx.wc).trans h.want, ⟨A0, n0, c0, (e2 _ hx.rc).trans h1, h2⟩, e1, (e2 _ hx.cp.symm).trans h.pt, (e2 _ hx.cj.symm).trans h.jn⟩, ⟨hb, fun b _ _ h1 _ => e2 b h1⟩⟩
theorem VJ.setPt {WB w : World} {bw br bc bp bj f t : Nat} {ls : List Nd} {c p : Int} (hx : BX WB bw br bc bp bj) (h : VJ WB bw br bc bp bj f t w ls c p) (p' : Int) : VJ WB bw br bc bp bj f t (w.setCell ⟨bp, 0, none⟩ (.int .i64 p')) ls c p' ∧ KJ WB br bc bp w (w.setCell ⟨bp, 0, none⟩ (.int .i64 p')) := by
 obtain ⟨A0, n0, c0, h1, h2⟩ := h.rest
 obtain ⟨e1, e2, e3⟩ := set_one (v := .int .i64 p') h.pt
 have hb : Below WB.heap.size w (w.setCell ⟨bp, 0, none⟩ (.int .i64 p')) := (Below.refl _ _).setCell (p := ⟨bp, 0, none⟩) hx.lp _
 exact ⟨⟨h.bel.trans hb, (e2 _ hx.wp).trans h.want, ⟨A0, n0, c0, (e2 _ hx.rp).trans h1, h2⟩, (e2 _ hx.cp).trans h.cr, e1, (e2 _ hx.pj.symm).trans h.jn⟩, ⟨hb, fun b _ _ _ h1 => e2 b h1⟩⟩
/-- what the join leaves -/
def VPost (WB : World) (bw br bc bp bj f t : Nat) (w : World) (c p : Int) (r : Option VJt) (e : Ending) (w' : World) : Prop :=
 KJ WB br bc bp w w' ∧ match r with
 | none => e = .panicked (failP 430) ∧ ∃ ls c p, VJ WB bw br bc bp bj f t w' ls c p
 | some (n, r, dc, dp) => e = .returned (ndV n) ∧ VJ WB bw br bc bp bj f t w' r (c + dc) (p + dp)
theorem v2_empty (f t lo hi : Nat) (hft : f < t) (hlt : lo < hi) (hc : (insB f t lo hi || outB f t lo hi) = true) (WB : World) (bw br bc bp bj : Nat) (hx : Hid (BX WB bw br bc bp bj)) (w : World) (c p : Int) (h : Hid (VJ WB bw br bc bp bj f t w [] c p)) :
  Calls Tryz.prog 83 #[.agg #[.int .i64 (lo : Nat), .int .i64 (hi : Nat)], .pointer (some ⟨bw, 0, none⟩), .pointer (some ⟨br, 0, none⟩), .pointer (some ⟨bc, 0, none⟩), .pointer (some ⟨bp, 0, none⟩), .pointer (some ⟨bj, 0, none⟩)] w (VPost WB bw br bc bp bj f t w c p none) := by
 obtain ⟨W1, HW1⟩ : ∃ V, Hid ((w.alloc (.cells #[.int .i64 (lo : Nat), .int .i64 (hi : Nat)] 119)).alloc (.cells (ndC zeroN).toArray 39) = V) := ⟨_, hid rfl⟩
 have hb := ((Below.refl _ w).alloc (Nat.le_refl _) (.cells #[.int .i64 (lo : Nat), .int .i64 (hi : Nat)] 119)).alloc (by simp) (.cells (ndC zeroN).toArray 39)
 have hr := (Below.heap_alloc (w.alloc (.cells #[.int .i64 (lo : Nat), .int .i64 (hi : Nat)] 119)) (.cells (ndC zeroN).toArray 39) w.heap.size (by simp)).trans (heap_alloc_new w (.cells #[.int .i64 (lo : Nat), .int .i64 (hi : Nat)] 119))
 rw [HW1.out] at hb hr
 have hv := h.out.below hb
 have HK : Hid (KJ WB br bc bp w W1) := hid (KJ.of_below hb h.out.bel.size)
 have HV := hid hv
 obtain ⟨A, n, cc, hre, hin⟩ := hv.rest
 have hn : n = 0 := by have := hin.len; simpa using this.symm
 subst hn
 have cw0 := cell_of_row _ _ 0 _ _ _ hv.want
 have cw1 := cell_of_row _ _ 1 _ _ _ hv.want
 have ca0 := cell_of_row _ _ 0 _ _ _ hr
 have ca1 := cell_of_row _ _ 1 _ _ _ hr
 have cr0 := cell_of_row _ _ 0 _ _ _ hre
 rw [zeroN_cells] at HW1
 clear hb hr hv hre hin
 have hcx : (f ≤ lo ∧ hi ≤ t) ∨ (f ≤ lo ∧ ¬ hi ≤ t ∧ ¬ hi ≤ f ∧ t ≤ lo) ∨ (¬ f ≤ lo ∧ hi ≤ f) := by
  unfold insB outB at hc
  simp only [Bool.or_eq_true, Bool.and_eq_true, decide_eq_true_eq] at hc
  omega
 rcases hcx with ⟨q0, q1⟩ | ⟨q0, q1, q2, q3⟩ | ⟨q0, q1⟩
 ·have d0 : decide (f ≤ lo) = true := eQ (by omega)
  have d1 : decide (hi ≤ t) = true := eQ (by omega)
  clear hc
  go_enter Tryz.func83, Tryz.ntmps83
  go_wp2_with (rw [HW1.out])
  refine (demand_no 430 _).mono ?_
  rintro e w' ⟨rfl, rfl⟩
  exact ⟨rfl, HK.out, rfl, _, _, _, HV.out⟩
 ·have d0 : decide (f ≤ lo) = true := eQ (by omega)
  have d1 : decide (hi ≤ t) = false := dQ (by omega)
  have d2 : decide (hi ≤ f) = false := dQ (by omega)
  have d3 : decide (t ≤ lo) = true := eQ (by omega)
  clear hc
  go_enter Tryz.func83, Tryz.ntmps83
  go_wp2_with (rw [HW1.out])
  refine (demand_no 430 _).mono ?_
  rintro e w' ⟨rfl, rfl⟩
  exact ⟨rfl, HK.out, rfl, _, _, _, HV.out⟩
 ·have d0 : decide (f ≤ lo) = false := dQ (by omega)
  have d2 : decide (hi ≤ f) = true := eQ (by omega)
  clear hc
  go_enter Tryz.func83, Tryz.ntmps83
  go_wp2_with (rw [HW1.out])
  refine (demand_no 430 _).mono ?_
  rintro e w' ⟨rfl, rfl⟩
  exact ⟨rfl, HK.out, rfl, _, _, _, HV.out⟩
theorem vL_one43 (n : Nd) : vL [n] = vN n := by
 unfold vL
 by_cases h : vN n = true
 ·have := vN_bd h
  simp only [List.all_cons, List.all_nil, h, Bool.and_true, Bool.true_and, sumC]
  exact eQ (by omega)
 ·have h' : vN n = false := by simpa using h
  simp [h']
theorem v2_results {tmps : Array Value} {W : World} {b : Nat} {v : Value} (h7 : tmps.getD 7 undef = .pointer (some ⟨b, 0, none⟩)) (hl : (loadVar 39 ⟨b, 0, none⟩).run Tryz.prog W = .ok v W) : (results Tryz.f83 tmps).run Tryz.prog W = .ok v W := by
 have h7' : tmps[7]?.getD undef = .pointer (some ⟨b, 0, none⟩) := by simpa using h7
 simp [results, Tryz.results83, asAddr, h7', hl]
theorem VJ.setRow {WB w : World} {bw br bc bp bj f t b : Nat} {ls : List Nd} {c p : Int} {cs : Array Value} (h : VJ WB bw br bc bp bj f t w ls c p) (h0 : WB.heap.size ≤ b) (h1 : b ≠ bw) (h2 : b ≠ br) (h3 : b ≠ bc) (h4 : b ≠ bp) (h5 : b ≠ bj) : VJ WB bw br bc bp bj f t (w.setRow b cs) ls c p := by
 obtain ⟨A0, n0, c0, e1, e2⟩ := h.rest
 exact ⟨below_setRow h.bel h0 _, (setRow_other w b bw _ h1.symm).trans h.want, ⟨A0, n0, c0, (setRow_other w b br _ h2.symm).trans e1, e2⟩, (setRow_other w b bc _ h3.symm).trans h.cr, (setRow_other w b bp _ h4.symm).trans h.pt, (setRow_other w b bj _ h5.symm).trans h.jn⟩
theorem KJ.setRow {WB w w' : World} {br bc bp b : Nat} {cs : Array Value} (h : KJ WB br bc bp w w') (h0 : WB.heap.size ≤ b) (hb : w.heap.size ≤ b) : KJ WB br bc bp w (w'.setRow b cs) :=
 ⟨below_setRow h.bel h0 _, fun k hk h1 h2 h3 => (setRow_other w' b k _ (by omega)).trans (h.old k hk h1 h2 h3)⟩
theorem VJ.lt {WB w : World} {bw br bc bp bj f t : Nat} {ls : List Nd} {c p : Int} (h : VJ WB bw br bc bp bj f t w ls c p) : bw < w.heap.size ∧ br < w.heap.size ∧ bc < w.heap.size ∧ bp < w.heap.size ∧ bj < w.heap.size := by
 obtain ⟨A0, n0, c0, e1, e2⟩ := h.rest
 exact ⟨(Array.getElem?_eq_some_iff.1 h.want).1, (Array.getElem?_eq_some_iff.1 e1).1, (Array.getElem?_eq_some_iff.1 h.cr).1, (Array.getElem?_eq_some_iff.1 h.pt).1, (Array.getElem?_eq_some_iff.1 h.jn).1⟩
end Go.Proofs.YtmfmgeapecapiaaGreatDoor
