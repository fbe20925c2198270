/- sizarref43.Few; plain facts for the laws of layer 43. A part, as it comes in. A root, as it comes in. -/
import Derived.Test.YtmfmgeapecapiaaGreatDoorVS13
import Derived.Test.YtmfmgeapecapiaaGreatDoorVS6
import Derived.Test.YtmfmgeapecapiaaGreatDoorVS11
set_option maxHeartbeats 64000001
open Go.Lib (hid)
namespace Go.Proofs.YtmfmgeapecapiaaGreatDoor
open Go.RowKit SzSha SzTree
set_option linter.unusedVariables false
set_option maxRecDepth 100000
theorem few43_yes (t : Tr) (p : TrP) (A : Option Addr) (n c : Nat) (a b : Int) (w : World) (h1 : p.n ≤ 40) (h2 : p.n2 ≤ 20) (h3 : n ≤ 40) :
  Calls Tryz.prog 31 #[trV t p, .agg #[.int .i64 a, .int .i64 b, .slice A n c]] w fun e w' => e = .returned (.bool true) ∧ Below w.heap.size w w' := by
 have hb := ((Below.refl _ w).alloc (Nat.le_refl _) (.cells (trC t p).toArray 27)).alloc (by simp) (.cells #[.int .i64 a, .int .i64 b, .slice A n c] 66)
 have hr := row_kept (heap_alloc_new w (.cells (trC t p).toArray 27)) ((Below.refl _ (w.alloc (.cells (trC t p).toArray 27))).alloc (Nat.le_refl _) (.cells #[.int .i64 a, .int .i64 b, .slice A n c] 66))
 have hp := heap_alloc_new (w.alloc (.cells (trC t p).toArray 27)) (.cells #[.int .i64 a, .int .i64 b, .slice A n c] 66)
 rw [World.size_alloc] at hp
 obtain ⟨V, HV⟩ : ∃ V, Hid ((w.alloc (.cells (trC t p).toArray 27)).alloc (.cells #[.int .i64 a, .int .i64 b, .slice A n c] 66) = V) := ⟨_, hid rfl⟩
 rw [HV.out] at hb hr hp
 have k4 : V.cell? ⟨w.heap.size, 4, none⟩ = some (.slice p.A p.n p.c) := by rw [cell_of_row _ _ _ _ _ _ hr]; rfl
 have k5 : V.cell? ⟨w.heap.size, 5, none⟩ = some (.slice p.A2 p.n2 p.c2) := by rw [cell_of_row _ _ _ _ _ _ hr]; rfl
 have k2 : V.cell? ⟨w.heap.size + 1, 2, none⟩ = some (.slice A n c) := cell_of_row _ _ 2 _ _ _ hp
 have HB := hid hb
 have d1 : decide ((p.n : Int) ≤ 40) = true := eQ (by omega)
 have e1 : decide (p.n ≤ 40) = true := eQ (by omega)
 have d2 : decide ((p.n2 : Int) ≤ 20) = true := eQ (by omega)
 have e2 : decide (p.n2 ≤ 20) = true := eQ (by omega)
 have d3 : decide ((n : Int) ≤ 40) = true := eQ (by omega)
 have e3 : decide (n ≤ 40) = true := eQ (by omega)
 clear hb hr hp
 rw [show trV t p = .agg (trC t p).toArray from rfl]
 go_enter Tryz.func31, Tryz.ntmps31
 go_wp2_with (rw [HV.out])
 go_ret
 exact ⟨rfl, HB.out⟩
theorem few43_no1 (t : Tr) (p : TrP) (A : Option Addr) (n c : Nat) (a b : Int) (w : World) (h1 : ¬ p.n ≤ 40) :
  Calls Tryz.prog 31 #[trV t p, .agg #[.int .i64 a, .int .i64 b, .slice A n c]] w fun e w' => e = .returned (.bool false) ∧ Below w.heap.size w w' := by
 have hb := ((Below.refl _ w).alloc (Nat.le_refl _) (.cells (trC t p).toArray 27)).alloc (by simp) (.cells #[.int .i64 a, .int .i64 b, .slice A n c] 66)
 have hr := row_kept (heap_alloc_new w (.cells (trC t p).toArray 27)) ((Below.refl _ (w.alloc (.cells (trC t p).toArray 27))).alloc (Nat.le_refl _) (.cells #[.int .i64 a, .int .i64 b, .slice A n c] 66))
 have hp := heap_alloc_new (w.alloc (.cells (trC t p).toArray 27)) (.cells #[.int .i64 a, .int .i64 b, .slice A n c] 66)
 rw [World.size_alloc] at hp
 obtain ⟨V, HV⟩ : ∃ V, Hid ((w.alloc (.cells (trC t p).toArray 27)).alloc (.cells #[.int .i64 a, .int .i64 b, .slice A n c] 66) = V) := ⟨_, hid rfl⟩
 rw [HV.out] at hb hr hp
 have k4 : V.cell? ⟨w.heap.size, 4, none⟩ = some (.slice p.A p.n p.c) := by rw [cell_of_row _ _ _ _ _ _ hr]; rfl
 have k5 : V.cell? ⟨w.heap.size, 5, none⟩ = some (.slice p.A2 p.n2 p.c2) := by rw [cell_of_row _ _ _ _ _ _ hr]; rfl
 have k2 : V.cell? ⟨w.heap.size + 1, 2, none⟩ = some (.slice A n c) := cell_of_row _ _ 2 _ _ _ hp
 have HB := hid hb
 have d1 : decide ((p.n : Int) ≤ 40) = false := dQ (by omega)
 have e1 : decide (p.n ≤ 40) = false := dQ (by omega)
 clear hb hr hp
 rw [show trV t p = .agg (trC t p).toArray from rfl]
 go_enter Tryz.func31, Tryz.ntmps31
 go_wp2_with (rw [HV.out])
 go_ret
 exact ⟨rfl, HB.out⟩
theorem few43_no2 (t : Tr) (p : TrP) (A : Option Addr) (n c : Nat) (a b : Int) (w : World) (h1 : p.n ≤ 40) (h2 : ¬ p.n2 ≤ 20) :
  Calls Tryz.prog 31 #[trV t p, .agg #[.int .i64 a, .int .i64 b, .slice A n c]] w fun e w' => e = .returned (.bool false) ∧ Below w.heap.size w w' := by
 have hb := ((Below.refl _ w).alloc (Nat.le_refl _) (.cells (trC t p).toArray 27)).alloc (by simp) (.cells #[.int .i64 a, .int .i64 b, .slice A n c] 66)
 have hr := row_kept (heap_alloc_new w (.cells (trC t p).toArray 27)) ((Below.refl _ (w.alloc (.cells (trC t p).toArray 27))).alloc (Nat.le_refl _) (.cells #[.int .i64 a, .int .i64 b, .slice A n c] 66))
 have hp := heap_alloc_new (w.alloc (.cells (trC t p).toArray 27)) (.cells #[.int .i64 a, .int .i64 b, .slice A n c] 66)
 rw [World.size_alloc] at hp
 obtain ⟨V, HV⟩ : ∃ V, Hid ((w.alloc (.cells (trC t p).toArray 27)).alloc (.cells #[.int .i64 a, .int .i64 b, .slice A n c] 66) = V) := ⟨_, hid rfl⟩
 rw [HV.out] at hb hr hp
 have k4 : V.cell? ⟨w.heap.size, 4, none⟩ = some (.slice p.A p.n p.c) := by rw [cell_of_row _ _ _ _ _ _ hr]; rfl
 have k5 : V.cell? ⟨w.heap.size, 5, none⟩ = some (.slice p.A2 p.n2 p.c2) := by rw [cell_of_row _ _ _ _ _ _ hr]; rfl
 have k2 : V.cell? ⟨w.heap.size + 1, 2, none⟩ = some (.slice A n c) := cell_of_row _ _ 2 _ _ _ hp
 have HB := hid hb
 have d1 : decide ((p.n : Int) ≤ 40) = true := eQ (by omega)
 have e1 : decide (p.n ≤ 40) = true := eQ (by omega)
 have d2 : decide ((p.n2 : Int) ≤ 20) = false := dQ (by omega)
 have e2 : decide (p.n2 ≤ 20) = false := dQ (by omega)
 clear hb hr hp
 rw [show trV t p = .agg (trC t p).toArray from rfl]
 go_enter Tryz.func31, Tryz.ntmps31
 go_wp2_with (rw [HV.out])
 go_ret
 exact ⟨rfl, HB.out⟩
theorem few43_no3 (t : Tr) (p : TrP) (A : Option Addr) (n c : Nat) (a b : Int) (w : World) (h1 : p.n ≤ 40) (h2 : p.n2 ≤ 20) (h3 : ¬ n ≤ 40) :
  Calls Tryz.prog 31 #[trV t p, .agg #[.int .i64 a, .int .i64 b, .slice A n c]] w fun e w' => e = .returned (.bool false) ∧ Below w.heap.size w w' := by
 have hb := ((Below.refl _ w).alloc (Nat.le_refl _) (.cells (trC t p).toArray 27)).alloc (by simp) (.cells #[.int .i64 a, .int .i64 b, .slice A n c] 66)
 have hr := row_kept (heap_alloc_new w (.cells (trC t p).toArray 27)) ((Below.refl _ (w.alloc (.cells (trC t p).toArray 27))).alloc (Nat.le_refl _) (.cells #[.int .i64 a, .int .i64 b, .slice A n c] 66))
 have hp := heap_alloc_new (w.alloc (.cells (trC t p).toArray 27)) (.cells #[.int .i64 a, .int .i64 b, .slice A n c] 66)
 rw [World.size_alloc] at hp
 obtain ⟨V, HV⟩ : ∃ V, Hid ((w.alloc (.cells (trC t p).toArray 27)).alloc (.cells #[.int .i64 a, .int .i64 b, .slice A n c] 66) = V) := ⟨_, hid rfl⟩
 rw [HV.out] at hb hr hp
 have k4 : V.cell? ⟨w.heap.size, 4, none⟩ = some (.slice p.A p.n p.c) := by rw [cell_of_row _ _ _ _ _ _ hr]; rfl
 have k5 : V.cell? ⟨w.heap.size, 5, none⟩ = some (.slice p.A2 p.n2 p.c2) := by rw [cell_of_row _ _ _ _ _ _ hr]; rfl
 have k2 : V.cell? ⟨w.heap.size + 1, 2, none⟩ = some (.slice A n c) := cell_of_row _ _ 2 _ _ _ hp
 have HB := hid hb
 have d1 : decide ((p.n : Int) ≤ 40) = true := eQ (by omega)
 have e1 : decide (p.n ≤ 40) = true := eQ (by omega)
 have d2 : decide ((p.n2 : Int) ≤ 20) = true := eQ (by omega)
 have e2 : decide (p.n2 ≤ 20) = true := eQ (by omega)
 have d3 : decide ((n : Int) ≤ 40) = false := dQ (by omega)
 have e3 : decide (n ≤ 40) = false := dQ (by omega)
 clear hb hr hp
 rw [show trV t p = .agg (trC t p).toArray from rfl]
 go_enter Tryz.func31, Tryz.ntmps31
 go_wp2_with (rw [HV.out])
 go_ret
 exact ⟨rfl, HB.out⟩
theorem few43_no (t : Tr) (p : TrP) (A : Option Addr) (n c : Nat) (a b : Int) (w : World) (h : ¬ (p.n ≤ 40 ∧ p.n2 ≤ 20) ∨ ¬ n ≤ 40) :
  Calls Tryz.prog 31 #[trV t p, .agg #[.int .i64 a, .int .i64 b, .slice A n c]] w fun e w' => e = .returned (.bool false) ∧ Below w.heap.size w w' := by
 by_cases h1 : p.n ≤ 40
 ·by_cases h2 : p.n2 ≤ 20
  ·exact few43_no3 t p A n c a b w h1 h2 (by rcases h with h | h; exact absurd ⟨h1, h2⟩ h; exact h)
  ·exact few43_no2 t p A n c a b w h1 h2
 ·exact few43_no1 t p A n c a b w h1
open Go.ChangeShapes Go.WideShapes Go.ChangeAt Go.Deep
section
variable {H : Type} {enc : TypeId × Value → H} {W : World} {base : Nat} {fuel : Nat}
theorem cells_nds : Tryz.prog.cellsOf 30 = 1 := by kernel_rfl
theorem cells_pt : Tryz.prog.cellsOf 66 = 3 := by kernel_rfl
theorem pt_fields : ∃ f0 f1 f2 : Field, Tryz.prog.underlying 66 = some (.struct #[f0, f1, f2]) ∧ (f0.type = 3 ∧ f0.offset = 0) ∧ (f1.type = 3 ∧ f1.offset = 1) ∧ f2.type = 30 ∧ f2.offset = 2 :=
 ⟨_, _, _, Tryz.underlying66, ⟨rfl, rfl⟩, ⟨rfl, rfl⟩, rfl, rfl⟩
theorem arg_pt {v : Value} {d : DataW H} {p : List MemPlace} (hval : Value.okWide Tryz.prog W .any base 66 v) (h : DataW.Trod enc Tryz.prog W 0 (fun _ => true) true 66 v d p) : ∃ (i j : Int) (A : Option Addr) (n c : Nat) (ps : List Nd), v = .agg #[.int .i64 i, .int .i64 j, .slice A n c] ∧ I64 i ∧ I64 j ∧ InN W A n c ps ∧ c ≤ maxLen := by
 obtain ⟨f0, f1, f2, hu, ⟨t0, o0⟩, ⟨t1, o1⟩, t2, o2⟩ := pt_fields
 obtain ⟨cs, rfl, hsz⟩ := okWide_struct hu hval
 obtain ⟨fuel, hf⟩ := h
 obtain ⟨xs, m, rfl, hx, hlen, hxl, hget⟩ := DataW.trod_struct hu hf
 rw [cells_pt] at hlen
 have hxl' : xs.length = 3 := hxl
 have g0 := hget 0 f0 rfl
 have g1 := hget 1 f1 rfl
 have g2 := hget 2 f2 rfl
 rw [t0, o0, cells_it, List.getElem?_eq_getElem (by omega)] at g0
 rw [t1, o1, cells_it, List.getElem?_eq_getElem (by omega)] at g1
 rw [t2, o2, cells_nds, List.getElem?_eq_getElem (by omega)] at g2
 obtain ⟨z0, e0, h0⟩ := trod_it g0
 obtain ⟨z1, e1, h1⟩ := trod_it g1
 obtain ⟨A, n, c, ps, e2, l1, l2, l3, l4, l5, l6⟩ := trod_rows (cells := ndC) (ok := NdOk) (k := 34) (by omega) Tryz.underlying30 cells_nd (fun x hx => ndC_length hx) (fun n cs y hy => trod_nd hy) g2
 refine ⟨z0, z1, A, n, c, ps, ?_, h0, h1, ⟨l1, l2, l3, l4, l5⟩, l6⟩
 congr 1
 rw [← Array.toArray_toList (xs := cs)]
 congr 1
 obtain ⟨L, hL⟩ : ∃ L, cs.toList = L := ⟨_, rfl⟩
 have hLl : L.length = 3 := by rw [← hL]; exact hlen
 simp only [Value.cells, hL] at e0 e1 e2 ⊢
 match L, hLl with
 | [x0, x1, x2], _ =>
  simp at e0 e1 e2
  rw [e0, e1, e2]
end
section
variable {H : Type} {enc : TypeId × Value → H} {W : World} {base : Nat} {fuel : Nat}
theorem cells_rt : Tryz.prog.cellsOf 43 = 138 := by kernel_rfl
theorem cells_sg : Tryz.prog.cellsOf 41 = 2 := by kernel_rfl
theorem sg_fields : ∃ f0 f1 : Field, Tryz.prog.underlying 41 = some (.struct #[f0, f1]) ∧ (f0.type = 3 ∧ f0.offset = 0) ∧ f1.type = 3 ∧ f1.offset = 1 :=
 ⟨_, _, Tryz.underlying41, ⟨rfl, rfl⟩, rfl, rfl⟩
theorem trod_sg {spare : Nat → Bool} {held : Bool} {cs : List Value} {x : DataW H × List MemPlace} (hf : DataW.trod enc Tryz.prog W base spare held fuel 41 cs = some x) : ∃ a b : Int, cs = [.int .i64 a, .int .i64 b] ∧ I64 a ∧ I64 b := by
 obtain ⟨f0, f1, hu, ⟨t0, o0⟩, t1, o1⟩ := sg_fields
 obtain ⟨xs, m, rfl, hx, hlen, hxl, hget⟩ := DataW.trod_struct hu hf
 rw [cells_sg] at hlen
 have hxl' : xs.length = 2 := hxl
 have g0 := hget 0 f0 rfl
 have g1 := hget 1 f1 rfl
 rw [t0, o0, cells_it, List.getElem?_eq_getElem (by omega)] at g0
 rw [t1, o1, cells_it, List.getElem?_eq_getElem (by omega)] at g1
 obtain ⟨z0, e0, h0⟩ := trod_it g0
 obtain ⟨z1, e1, h1⟩ := trod_it g1
 refine ⟨z0, z1, ?_, h0, h1⟩
 match cs, hlen with
 | [a, b], _ =>
  simp at e0 e1
  rw [e0, e1]
theorem rt_fields : ∃ f0 f1 f2 f3 f4 f5 f6 f7 f8 f9 f10 : Field, Tryz.prog.underlying 43 = some (.struct #[f0, f1, f2, f3, f4, f5, f6, f7, f8, f9, f10]) ∧ (f0.type = 3 ∧ f0.offset = 0) ∧ (f1.type = 3 ∧ f1.offset = 1) ∧ (f2.type = 3 ∧ f2.offset = 2) ∧ (f3.type = 3 ∧ f3.offset = 3) ∧ (f4.type = 3 ∧ f4.offset = 4) ∧ (f5.type = 3 ∧ f5.offset = 5) ∧ (f6.type = 39 ∧ f6.offset = 6) ∧ (f7.type = 25 ∧ f7.offset = 40) ∧ (f8.type = 25 ∧ f8.offset = 72) ∧ (f9.type = 25 ∧ f9.offset = 104) ∧ (f10.type = 41 ∧ f10.offset = 136) :=
 ⟨_, _, _, _, _, _, _, _, _, _, _, Tryz.underlying43, ⟨rfl, rfl⟩, ⟨rfl, rfl⟩, ⟨rfl, rfl⟩, ⟨rfl, rfl⟩, ⟨rfl, rfl⟩, ⟨rfl, rfl⟩, ⟨rfl, rfl⟩, ⟨rfl, rfl⟩, ⟨rfl, rfl⟩, ⟨rfl, rfl⟩, ⟨rfl, rfl⟩⟩
theorem arg_rt {v : Value} {d : DataW H} {p : List MemPlace} (hval : Value.okWide Tryz.prog W .any base 43 v) (h : DataW.Trod enc Tryz.prog W 0 (fun _ => true) true 43 v d p) : ∃ r : Rt, v = .agg (rtC r).toArray ∧ RtOk r := by
 obtain ⟨f0, f1, f2, f3, f4, f5, f6, f7, f8, f9, f10, hu, ⟨t0, o0⟩, ⟨t1, o1⟩, ⟨t2, o2⟩, ⟨t3, o3⟩, ⟨t4, o4⟩, ⟨t5, o5⟩, ⟨t6, o6⟩, ⟨t7, o7⟩, ⟨t8, o8⟩, ⟨t9, o9⟩, ⟨t10, o10⟩⟩ := rt_fields
 obtain ⟨cs, rfl, hsz⟩ := okWide_struct hu hval
 obtain ⟨fuel, hf⟩ := h
 obtain ⟨xs, m, rfl, hx, hlen, hxl, hget⟩ := DataW.trod_struct hu hf
 rw [cells_rt] at hlen
 have hxl' : xs.length = 11 := hxl
 have g0 := hget 0 f0 rfl
 have g1 := hget 1 f1 rfl
 have g2 := hget 2 f2 rfl
 have g3 := hget 3 f3 rfl
 have g4 := hget 4 f4 rfl
 have g5 := hget 5 f5 rfl
 have g6 := hget 6 f6 rfl
 have g7 := hget 7 f7 rfl
 have g8 := hget 8 f8 rfl
 have g9 := hget 9 f9 rfl
 have g10 := hget 10 f10 rfl
 rw [t0, o0, cells_it, List.getElem?_eq_getElem (by omega)] at g0
 rw [t1, o1, cells_it, List.getElem?_eq_getElem (by omega)] at g1
 rw [t2, o2, cells_it, List.getElem?_eq_getElem (by omega)] at g2
 rw [t3, o3, cells_it, List.getElem?_eq_getElem (by omega)] at g3
 rw [t4, o4, cells_it, List.getElem?_eq_getElem (by omega)] at g4
 rw [t5, o5, cells_it, List.getElem?_eq_getElem (by omega)] at g5
 rw [t6, o6, cells_nd, List.getElem?_eq_getElem (by omega)] at g6
 rw [t7, o7, cells_dg, List.getElem?_eq_getElem (by omega)] at g7
 rw [t8, o8, cells_dg, List.getElem?_eq_getElem (by omega)] at g8
 rw [t9, o9, cells_dg, List.getElem?_eq_getElem (by omega)] at g9
 rw [t10, o10, cells_sg, List.getElem?_eq_getElem (by omega)] at g10
 obtain ⟨z0, e0, h0⟩ := trod_it g0
 obtain ⟨z1, e1, h1⟩ := trod_it g1
 obtain ⟨z2, e2, h2⟩ := trod_it g2
 obtain ⟨z3, e3, h3⟩ := trod_it g3
 obtain ⟨z4, e4, h4⟩ := trod_it g4
 obtain ⟨z5, e5, h5⟩ := trod_it g5
 obtain ⟨nd, e6, h6⟩ := trod_nd g6
 obtain ⟨s7, e7, u7, v7⟩ := trod_dg g7
 obtain ⟨s8, e8, u8, v8⟩ := trod_dg g8
 obtain ⟨s9, e9, u9, v9⟩ := trod_dg g9
 obtain ⟨z10, z11, e10, h10, h11⟩ := trod_sg g10
 refine ⟨⟨z0, z1, z2, z3, z4, z5, nd, s7, s8, s9, z10, z11⟩, ?_, ⟨h0, h1, h2, h3, h4, h5, h6, ⟨u7, v7⟩, ⟨u8, v8⟩, ⟨u9, v9⟩, h10, h11⟩⟩
 congr 1
 rw [← Array.toArray_toList (xs := cs)]
 congr 1
 unfold rtC
 obtain ⟨L, hL⟩ : ∃ L, cs.toList = L := ⟨_, rfl⟩
 have hLl : L.length = 138 := by rw [← hL]; exact hlen
 simp only [Value.cells, hL] at e0 e1 e2 e3 e4 e5 e6 e7 e8 e9 e10 ⊢
 have kk : ∀ (q k m : Nat), q + k = m → L.drop q = (L.drop q).take k ++ L.drop m := fun q k m e => by
  have a := List.take_append_drop k (L.drop q)
  rw [List.drop_drop, e] at a
  exact a.symm
 have ke : L.drop 136 = (L.drop 136).take 2 := by rw [List.take_of_length_le (by rw [List.length_drop]; omega)]
 rw [show L = L.drop 0 from List.drop_zero.symm, kk 0 1 1 rfl, kk 1 1 2 rfl, kk 2 1 3 rfl, kk 3 1 4 rfl, kk 4 1 5 rfl, kk 5 1 6 rfl, kk 6 34 40 rfl, kk 40 32 72 rfl, kk 72 32 104 rfl, kk 104 32 136 rfl, ke, e0, e1, e2, e3, e4, e5, e6, e7, e8, e9, e10]
 rfl
end
end Go.Proofs.YtmfmgeapecapiaaGreatDoor
