/- sizarlaw43.climb: a part that is shown. Guarded loads and comparisons in a region: the operation is known first, then that it is wanted. -/
import Derived.Test.YtmfmgeapecapiaaDoorSB16
import Derived.Test.YtmfmgeapecapiaaDoorSB6
import Derived.Deep.MidRow
namespace Go.Proofs.YtmfmgeapecapiaaDoor
open Go.RowKit SzSha SzTree
set_option linter.unusedVariables false
set_option maxRecDepth 100000
def sCb (m g1 o1 n1 c1 g2 o2 n2 c2 at_ : Nat) (x y : Nd) (b : Nat) : Nat → Value → World → Prop
  | 0, fv, _ => fv = Value.pointer (some ⟨m, 2, none⟩)
  | 1, fv, _ => fv = Value.slice (some ⟨g1, o1, none⟩) n1 c1
  | 2, fv, _ => fv = Value.int .i64 ((at_ : Nat))
  | 3, fv, _ => fv = Value.pointer (some ⟨g1, o1 + at_ * 34, none⟩)
  | 4, fv, _ => fv = ndV x
  | 5, fv, _ => fv = Value.pointer (some ⟨(m + 1), 2, none⟩)
  | 6, fv, _ => fv = Value.slice (some ⟨g2, o2, none⟩) n2 c2
  | 7, fv, _ => fv = Value.int .i64 ((at_ : Nat))
  | 8, fv, _ => fv = Value.pointer (some ⟨g2, o2 + at_ * 34, none⟩)
  | 9, fv, _ => fv = ndV y
  | 10, _, fw => fw.heap[b]? = some (.cells (ndC x).toArray 31 (0, 0))
  | 11, _, fw => fw.heap[b + 1]? = some (.cells (ndC y).toArray 31 (0, 0))
  | 12, fv, _ => fv = Value.int .i64 (1)
  | 13, fv, _ => fv = Value.bool false
  | _, _, _ => True
theorem sCb_set0 {m g1 o1 n1 c1 g2 o2 n2 c2 at_ : Nat} {x y : Nd} {b : Nat} {w W : World} {z : Bool} {w' : World} {j : Nat} {v : Value} (hC : CL2 w W b z w') (h : sCb m g1 o1 n1 c1 g2 o2 n2 c2 at_ x y b j v w') (hr : (w'.setRow b (ndC x).toArray).heap[b]? = some (.cells (ndC x).toArray 31 (0, 0))) : sCb m g1 o1 n1 c1 g2 o2 n2 c2 at_ x y b j v (w'.setRow b (ndC x).toArray) :=
  match j, h with
  | 0, h => h
  | 1, h => h
  | 2, h => h
  | 3, h => h
  | 4, h => h
  | 5, h => h
  | 6, h => h
  | 7, h => h
  | 8, h => h
  | 9, h => h
  | 10, h => hr
  | 11, h => (setRow_other w' b (b + 1) _ (by omega)).trans h
  | 12, h => h
  | 13, h => h
  | j + 14, h => trivial
theorem sCb_set1 {m g1 o1 n1 c1 g2 o2 n2 c2 at_ : Nat} {x y : Nd} {b : Nat} {w W : World} {z : Bool} {w' : World} {j : Nat} {v : Value} (hC : CL2 w W b z w') (h : sCb m g1 o1 n1 c1 g2 o2 n2 c2 at_ x y b j v w') (hr : (w'.setRow (b + 1) (ndC y).toArray).heap[(b + 1)]? = some (.cells (ndC y).toArray 31 (0, 0))) : sCb m g1 o1 n1 c1 g2 o2 n2 c2 at_ x y b j v (w'.setRow (b + 1) (ndC y).toArray) :=
  match j, h with
  | 0, h => h
  | 1, h => h
  | 2, h => h
  | 3, h => h
  | 4, h => h
  | 5, h => h
  | 6, h => h
  | 7, h => h
  | 8, h => h
  | 9, h => h
  | 10, h => (setRow_other w' (b + 1) b _ (by omega)).trans h
  | 11, h => hr
  | 12, h => h
  | 13, h => h
  | j + 14, h => trivial
set_option maxHeartbeats 16000000 in
theorem climb_b1 (f t lo up at_ : Nat) (f2 t2 : Int) (A1 A2 : Option Addr) (n1 c1 n2 c2 : Nat) (P Q : List Nd) (w : World) (hP : Hid (InN w A1 n1 c1 P)) (hQ : Hid (InN w A2 n2 c2 Q)) (hT : Hid (Tabs w)) (hft : f < t) (hlt : lo < up) (ha : at_ ≤ lo) (hh : up ≤ 4096) (hn1 : n1 ≤ 100000) (hn2 : n2 ≤ 100000) (h1 : at_ < n1) (h2 : at_ < n2) (k0 : f ≤ lo) (k1 : up ≤ t) :
    Calls Tryd.prog 34 #[.agg #[.int .i64 (f : Nat), .int .i64 (t : Nat), .slice A1 n1 c1], .agg #[.int .i64 f2, .int .i64 t2, .slice A2 n2 c2], .int .i64 (lo : Nat), .int .i64 (up : Nat), .int .i64 (at_ : Nat)] w fun e w' => e = .returned (.tuple #[ndV (cl f t lo up (P.drop at_) (Q.drop at_)).1, ndV (cl f t lo up (P.drop at_) (Q.drop at_)).2.1, .int .i64 (cl f t lo up (P.drop at_) (Q.drop at_)).2.2.1, .bool (cl f t lo up (P.drop at_) (Q.drop at_)).2.2.2]) ∧ Below w.heap.size w w' := by
  have hl1 : at_ < P.length := by rw [hP.out.len]; exact h1
  have hl2 : at_ < Q.length := by rw [hQ.out.len]; exact h2
  obtain ⟨x, HX1⟩ : ∃ x, Hid (P[at_] = x) := ⟨_, Lib.hid rfl⟩
  obtain ⟨y, HY1⟩ : ∃ y, Hid (Q[at_] = y) := ⟨_, Lib.hid rfl⟩
  have HR : Hid (cl f t lo up (P.drop at_) (Q.drop at_) = (x, y, 1, false)) := Lib.hid (by
    rw [cl_leaf hlt (by unfold insB outB; simp only [Bool.or_eq_true, Bool.and_eq_true, decide_eq_true_eq]; omega), List.drop_eq_getElem_cons hl1, List.drop_eq_getElem_cons hl2, HX1.out, HY1.out]; rfl)
  obtain ⟨g1, o1, rfl, hg1, hr1⟩ := hP.out.rd (by omega)
  obtain ⟨g2, o2, rfl, hg2, hr2⟩ := hQ.out.rd (by omega)
  have hx1 := range_one hr1 hP.out.ok at_ hl1
  have hy1 := range_one hr2 hQ.out.ok at_ hl2
  rw [HX1.out] at hx1
  rw [HY1.out] at hy1
  have HXO : Hid (NdOk x) := Lib.hid (by rw [← HX1.out]; exact hP.out.ok _ (List.getElem_mem hl1))
  have HYO : Hid (NdOk y) := Lib.hid (by rw [← HY1.out]; exact hQ.out.ok _ (List.getElem_mem hl2))
  have HSX1 := Lib.hid (size34 HXO.out)
  have HSY1 := Lib.hid (size34 HYO.out)
  have d1 : decide ((n1 : Int) ≤ (at_ : Int)) = false := decide_eq_false (by omega)
  have d1n : decide (n1 ≤ at_) = false := decide_eq_false (by omega)
  have d2 : decide ((n2 : Int) ≤ (at_ : Int)) = false := decide_eq_false (by omega)
  have d2n : decide (n2 ≤ at_) = false := decide_eq_false (by omega)
  have d3n : decide (at_ < n1) = true := decide_eq_true h1
  have d4n : decide (at_ < n2) = true := decide_eq_true h2
  have e0 : decide ((f : Int) ≤ (lo : Int)) = true := decide_eq_true (by omega)
  have e0n : decide (f ≤ lo) = true := decide_eq_true (by omega)
  have e1 : decide ((up : Int) ≤ (t : Int)) = true := decide_eq_true (by omega)
  have e1n : decide (up ≤ t) = true := decide_eq_true (by omega)
  have b0 := (Below.refl _ w).alloc (Nat.le_refl _) (.cells #[.int .i64 (f : Nat), .int .i64 (t : Nat), .slice (some ⟨g1, o1, none⟩) n1 c1] 74)
  have b1 := (Below.refl _ (w.alloc (.cells #[.int .i64 (f : Nat), .int .i64 (t : Nat), .slice (some ⟨g1, o1, none⟩) n1 c1] 74))).alloc (Nat.le_refl _) (.cells #[.int .i64 f2, .int .i64 t2, .slice (some ⟨g2, o2, none⟩) n2 c2] 74)
  have b2 := (Below.refl _ ((w.alloc (.cells #[.int .i64 (f : Nat), .int .i64 (t : Nat), .slice (some ⟨g1, o1, none⟩) n1 c1] 74)).alloc (.cells #[.int .i64 f2, .int .i64 t2, .slice (some ⟨g2, o2, none⟩) n2 c2] 74))).alloc (Nat.le_refl _) (.cells zN34 31)
  have b3 := (Below.refl _ (((w.alloc (.cells #[.int .i64 (f : Nat), .int .i64 (t : Nat), .slice (some ⟨g1, o1, none⟩) n1 c1] 74)).alloc (.cells #[.int .i64 f2, .int .i64 t2, .slice (some ⟨g2, o2, none⟩) n2 c2] 74)).alloc (.cells zN34 31))).alloc (Nat.le_refl _) (.cells zN34 31)
  have r0 := row_kept (row_kept (row_kept (heap_alloc_new w (.cells #[.int .i64 (f : Nat), .int .i64 (t : Nat), .slice (some ⟨g1, o1, none⟩) n1 c1] 74)) b1) b2) b3
  have r1 := row_kept (row_kept (heap_alloc_new (w.alloc (.cells #[.int .i64 (f : Nat), .int .i64 (t : Nat), .slice (some ⟨g1, o1, none⟩) n1 c1] 74)) (.cells #[.int .i64 f2, .int .i64 t2, .slice (some ⟨g2, o2, none⟩) n2 c2] 74)) b2) b3
  have r2 := row_kept (heap_alloc_new ((w.alloc (.cells #[.int .i64 (f : Nat), .int .i64 (t : Nat), .slice (some ⟨g1, o1, none⟩) n1 c1] 74)).alloc (.cells #[.int .i64 f2, .int .i64 t2, .slice (some ⟨g2, o2, none⟩) n2 c2] 74)) (.cells zN34 31)) b3
  have r3 := heap_alloc_new (((w.alloc (.cells #[.int .i64 (f : Nat), .int .i64 (t : Nat), .slice (some ⟨g1, o1, none⟩) n1 c1] 74)).alloc (.cells #[.int .i64 f2, .int .i64 t2, .slice (some ⟨g2, o2, none⟩) n2 c2] 74)).alloc (.cells zN34 31)) (.cells zN34 31)
  have hb := ((b0.trans (b1.mono b0.size)).trans (b2.mono (Nat.le_trans b0.size b1.size))).trans (b3.mono (Nat.le_trans (Nat.le_trans b0.size b1.size) b2.size))
  rw [World.size_alloc] at r1 r2 r3
  rw [World.size_alloc] at r2 r3
  rw [World.size_alloc] at r3
  obtain ⟨X, HX⟩ : ∃ V, Hid (((((w.alloc (.cells #[.int .i64 (f : Nat), .int .i64 (t : Nat), .slice (some ⟨g1, o1, none⟩) n1 c1] 74)).alloc (.cells #[.int .i64 f2, .int .i64 t2, .slice (some ⟨g2, o2, none⟩) n2 c2] 74)).alloc (.cells zN34 31)).alloc (.cells zN34 31)) = V) := ⟨_, Lib.hid rfl⟩
  have hs : ((((w.alloc (.cells #[.int .i64 (f : Nat), .int .i64 (t : Nat), .slice (some ⟨g1, o1, none⟩) n1 c1] 74)).alloc (.cells #[.int .i64 f2, .int .i64 t2, .slice (some ⟨g2, o2, none⟩) n2 c2] 74)).alloc (.cells zN34 31)).alloc (.cells zN34 31)).heap.size = w.heap.size + 4 := by simp
  rw [HX.out] at r0 r1 r2 r3 hb hs
  have HB0 := Lib.hid hb
  have RP0 := Lib.hid r0
  have RQ0 := Lib.hid r1
  have RA0 : Hid (X.heap[(w.heap.size + 1 + 1)]? = some (.cells (ndC zeroN).toArray 31 (0, 0))) := Lib.hid (by rw [zeroN_cells]; exact r2)
  have RB0 : Hid (X.heap[(w.heap.size + 1 + 1 + 1)]? = some (.cells (ndC zeroN).toArray 31 (0, 0))) := Lib.hid (by rw [zeroN_cells]; exact r3)
  have HSX := Lib.hid hs
  clear b0 b1 b2 b3 r0 r1 r2 r3 hb hs
  have HZS := Lib.hid (size34e zeroN_ok)
  have HGX : Hid (g1 < w.heap.size) := Lib.hid hg1
  have HGY : Hid (g2 < w.heap.size) := Lib.hid hg2
  have HRX := Lib.hid (rangeAt_below hx1 hg1 HB0.out)
  have HRY := Lib.hid (rangeAt_below hy1 hg2 HB0.out)
  clear hx1 hy1 hr1 hr2 hg1 hg2 HX1 HY1 hl1 hl2
  have p0 := cell_of_row _ _ 0 _ _ _ RP0.out
  have p1 := cell_of_row _ _ 1 _ _ _ RP0.out
  have p2 := cell_of_row _ _ 2 _ _ _ RP0.out
  have q0 := cell_of_row _ _ 0 _ _ _ RQ0.out
  have q1 := cell_of_row _ _ 1 _ _ _ RQ0.out
  have q2 := cell_of_row _ _ 2 _ _ _ RQ0.out
  go_enter Tryd.func34, Tryd.ntmps34
  go_wp2_with (rw [HX.out])
  clear p0 p1 p2
  clear q0 q1 q2
  have hC0 : CL2 w X (w.heap.size + 1 + 1) false X := ⟨HB0.out, Nat.le_refl _, fun _ _ _ _ => rfl, ⟨_, RA0.out, by simp [ndC_length zeroN_ok], (fun h => by cases h)⟩, ⟨_, RB0.out, by simp [ndC_length zeroN_ok], (fun h => by cases h)⟩⟩
  have HC0 := Lib.hid hC0.drew
  clear hC0
  refine region_flow3 (by kernel_rfl) (by kernel_rfl) (fun i => Nat.beq i 10 || Nat.beq i 11 || Nat.beq i 12 || Nat.beq i 13) (fun i => i) (by kernel_rfl) (fun fx => #[Value.agg #[Value.int IntKind.i64 ↑f, Value.int IntKind.i64 ↑t, Value.slice (some { block := g1, off := o1 }) n1 c1], Value.agg #[Value.int IntKind.i64 f2, Value.int IntKind.i64 t2, Value.slice (some { block := g2, off := o2 }) n2 c2], Value.int IntKind.i64 ↑lo, Value.int IntKind.i64 ↑up, Value.int IntKind.i64 ↑at_, Value.pointer (some { block := w.heap.size, off := 0 }), Value.pointer (some { block := w.heap.size + 1, off := 0 }), undef, undef, undef, Value.pointer (some { block := w.heap.size + 1 + 1, off := 0 }), Value.pointer (some { block := w.heap.size + 1 + 1 + 1, off := 0 }), fx 12, fx 13, undef, undef, undef, undef, undef, undef, undef, undef, undef, undef, undef, undef, Value.int IntKind.i64 ↑at_, Value.pointer (some { block := w.heap.size, off := 2 }), Value.slice (some { block := g1, off := o1 }) n1 c1, Value.int IntKind.i64 ↑n1, Value.bool false, Value.bool false, Value.int IntKind.i64 ↑at_, Value.pointer (some { block := w.heap.size + 1, off := 2 }), Value.slice (some { block := g2, off := o2 }) n2 c2, Value.int IntKind.i64 ↑n2, Value.bool false, Value.bool false, undef, undef, Value.pointer (some { block := w.heap.size, off := 0 }), Value.int IntKind.i64 ↑f, Value.int IntKind.i64 ↑lo, Value.bool true, Value.bool true, Value.int IntKind.i64 ↑up, Value.pointer (some { block := w.heap.size, off := 1 }), Value.int IntKind.i64 ↑t, Value.bool true, Value.bool true, Value.bool true, undef, undef, undef, undef, Value.bool true, Value.bool true, undef, undef, undef, undef, Value.bool true, fx 0, fx 1, fx 2, fx 3, fx 4, fx 5, fx 6, fx 7, fx 8, fx 9, undef, undef, undef, undef, undef, undef, undef, undef, undef, undef, undef, undef, undef, undef, undef, undef, undef, undef, undef, undef, undef, undef, undef, undef, undef, undef, undef, undef, undef, undef, undef, undef, undef, undef, undef, undef, undef, undef, undef, undef, undef, undef, undef, undef, undef, undef, undef, undef, undef, undef, undef, undef, undef, undef, undef, undef, undef, undef, undef, undef, undef, undef, undef, undef, undef, undef, undef, undef, undef, undef, undef, undef, undef, undef, undef, undef, undef]) (fun i => bif Nat.beq i 12 then Value.int IntKind.i64 0 else bif Nat.beq i 13 then Value.bool false else undef) (fun _ _ w' => CL2 w X (w.heap.size + 1 + 1) false w') (fun fi fv _ fw => sCb w.heap.size g1 o1 n1 c1 g2 o2 n2 c2 at_ x y (w.heap.size + 1 + 1) fi fv fw) HC0.out ?_ ?_
  · refine ⟨?_, ?_, ?_, ?_, ?_, ?_, ?_, ?_, ?_, ?_, ?_, ?_, ?_, ?_, trivial⟩
    all_goals intro L fx w' hC hi hcl hdn hd
    · clear hd
      go_wp2_with fail
      exact ⟨_, rfl, hC, rfl, fun _ _ _ _ _ h => h⟩
    · have h0 : fx 0 = Value.pointer (some ⟨w.heap.size, 2, none⟩) := hd.1 rfl
      have hcc : w'.cell? ⟨w.heap.size, 2, none⟩ = some (Value.slice (some ⟨g1, o1, none⟩) n1 c1) := by rw [cell_of_row _ _ _ _ _ _ (hC.row RP0.out (by omega) (by omega))]; rfl
      clear hd
      go_wp2_with fail
      exact ⟨_, (by simp only [upd, h0]; rfl), hC, rfl, fun _ _ _ _ _ h => h⟩
    · clear hd
      go_wp2_with fail
      exact ⟨_, rfl, hC, rfl, fun _ _ _ _ _ h => h⟩
    · have h1 : fx 1 = Value.slice (some ⟨g1, o1, none⟩) n1 c1 := hd.1 rfl
      have h2 : fx 2 = Value.int .i64 ((at_ : Nat)) := hd.2.1 rfl
      clear hd
      go_wp2_with fail
      exact ⟨_, (by simp only [upd, h1, h2]; rfl), hC, rfl, fun _ _ _ _ _ h => h⟩
    · have h3 : fx 3 = Value.pointer (some ⟨g1, o1 + at_ * 34, none⟩) := hd.1 rfl
      have hsx := HSX.out
      have hgx := HGX.out
      have hr := hC.range HRX.out (by omega) (by omega) (by omega)
      refine wpList_load_mid rfl 31 (.tmp 65) rfl (g1) (o1 + at_ * 34) h3 (ndC x) _ hr Tryd.underlying31 rfl HSX1.out ?_
      clear hr hd
      go_wp2_with fail
      exact ⟨_, (by simp only [upd, h3]; rfl), hC, rfl, fun _ _ _ _ _ h => h⟩
    · clear hd
      go_wp2_with fail
      exact ⟨_, rfl, hC, rfl, fun _ _ _ _ _ h => h⟩
    · have h5 : fx 5 = Value.pointer (some ⟨(w.heap.size + 1), 2, none⟩) := hd.1 rfl
      have hcc : w'.cell? ⟨(w.heap.size + 1), 2, none⟩ = some (Value.slice (some ⟨g2, o2, none⟩) n2 c2) := by rw [cell_of_row _ _ _ _ _ _ (hC.row RQ0.out (by omega) (by omega))]; rfl
      clear hd
      go_wp2_with fail
      exact ⟨_, (by simp only [upd, h5]; rfl), hC, rfl, fun _ _ _ _ _ h => h⟩
    · clear hd
      go_wp2_with fail
      exact ⟨_, rfl, hC, rfl, fun _ _ _ _ _ h => h⟩
    · have h6 : fx 6 = Value.slice (some ⟨g2, o2, none⟩) n2 c2 := hd.1 rfl
      have h7 : fx 7 = Value.int .i64 ((at_ : Nat)) := hd.2.1 rfl
      clear hd
      go_wp2_with fail
      exact ⟨_, (by simp only [upd, h6, h7]; rfl), hC, rfl, fun _ _ _ _ _ h => h⟩
    · have h8 : fx 8 = Value.pointer (some ⟨g2, o2 + at_ * 34, none⟩) := hd.1 rfl
      have hsx := HSX.out
      have hgx := HGY.out
      have hr := hC.range HRY.out (by omega) (by omega) (by omega)
      refine wpList_load_mid rfl 31 (.tmp 70) rfl (g2) (o2 + at_ * 34) h8 (ndC y) _ hr Tryd.underlying31 rfl HSY1.out ?_
      clear hr hd
      go_wp2_with fail
      exact ⟨_, (by simp only [upd, h8]; rfl), hC, rfl, fun _ _ _ _ _ h => h⟩
    · have h4 : fx 4 = ndV x := hd.1 rfl
      obtain ⟨c, hc, hsz, _⟩ := hC.z0
      refine wpList_store_row rfl 31 (.tmp 10) (.tmp 66) rfl (w.heap.size + 1 + 1) (ndC x).toArray rfl h4 31 _ hc (size34e HXO.out) (by rw [hsz]; simp [ndC_length HXO.out]) (ndC_one _) ?_
      clear hd
      go_wp2_with fail
      obtain ⟨hC2, hr2⟩ := hC.set0 HXO.out (Nat.le_add_right _ 2) (fun h => by cases h)
      refine ⟨undef, (by simp only [upd, h4]; rfl), hC2, hr2, fun j v t hj hu h => sCb_set0 hC h hr2⟩
    · have h9 : fx 9 = ndV y := hd.1 rfl
      obtain ⟨c, hc, hsz, _⟩ := hC.z1
      refine wpList_store_row rfl 31 (.tmp 11) (.tmp 71) rfl (w.heap.size + 1 + 1 + 1) (ndC y).toArray rfl h9 31 _ hc (size34e HYO.out) (by rw [hsz]; simp [ndC_length HYO.out]) (ndC_one _) ?_
      clear hd
      go_wp2_with fail
      obtain ⟨hC2, hr2⟩ := hC.set1 HYO.out (Nat.le_add_right _ 2) (fun h => by cases h)
      refine ⟨undef, (by simp only [upd, h9]; rfl), hC2, hr2, fun j v t hj hu h => sCb_set1 hC h hr2⟩
    · clear hd
      go_wp2_with fail
      exact ⟨_, rfl, hC, rfl, fun _ _ _ _ _ h => h⟩
    · clear hd
      go_wp2_with fail
      exact ⟨_, rfl, hC, rfl, fun _ _ _ _ _ h => h⟩
  · intro L fo w' hC hS
    have H10 := Lib.hid (hS 10 (by decide) rfl)
    have H11 := Lib.hid (hS 11 (by decide) rfl)
    have H12 := Lib.hid (hS 12 (by decide) rfl)
    have H13 := Lib.hid (hS 13 (by decide) rfl)
    have h10 : w'.heap[(w.heap.size + 1 + 1)]? = some (.cells (ndC x).toArray 31 (0, 0)) := H10.out
    have h11 : w'.heap[(w.heap.size + 1 + 1 + 1)]? = some (.cells (ndC y).toArray 31 (0, 0)) := H11.out
    have h12 : fo 12 = .int .i64 1 := H12.out
    have h13 : fo 13 = .bool false := H13.out
    have hl0 := run_loadVar_row (P := Tryd.prog) w' (w.heap.size + 1 + 1) 31 31 (ndC x).toArray (0, 0) _ h10 Tryd.underlying31 rfl (size34e HXO.out)
    have hl1 := run_loadVar_row (P := Tryd.prog) w' (w.heap.size + 1 + 1 + 1) 31 31 (ndC y).toArray (0, 0) _ h11 Tryd.underlying31 rfl (size34e HYO.out)
    have hbel := hC.bel
    rw [h12, h13]
    clear hS hC
    go_wp2_with fail
    refine bodyPost_ret (v := .tuple #[.agg (ndC x).toArray, .agg (ndC y).toArray, .int .i64 1, .bool false]) ?_ rfl ⟨by rw [HR.out]; rfl, hbel⟩
    simp [results, Tryd.results34, asAddr, hl0, hl1]
set_option maxHeartbeats 16000000 in
theorem climb_b3 (f t lo up at_ : Nat) (f2 t2 : Int) (A1 A2 : Option Addr) (n1 c1 n2 c2 : Nat) (P Q : List Nd) (w : World) (hP : Hid (InN w A1 n1 c1 P)) (hQ : Hid (InN w A2 n2 c2 Q)) (hT : Hid (Tabs w)) (hft : f < t) (hlt : lo < up) (ha : at_ ≤ lo) (hh : up ≤ 4096) (hn1 : n1 ≤ 100000) (hn2 : n2 ≤ 100000) (h1 : at_ < n1) (h2 : at_ < n2) (k0 : f ≤ lo) (k1 : ¬ up ≤ t) (k2 : ¬ up ≤ f) (k3 : t ≤ lo) :
    Calls Tryd.prog 34 #[.agg #[.int .i64 (f : Nat), .int .i64 (t : Nat), .slice A1 n1 c1], .agg #[.int .i64 f2, .int .i64 t2, .slice A2 n2 c2], .int .i64 (lo : Nat), .int .i64 (up : Nat), .int .i64 (at_ : Nat)] w fun e w' => e = .returned (.tuple #[ndV (cl f t lo up (P.drop at_) (Q.drop at_)).1, ndV (cl f t lo up (P.drop at_) (Q.drop at_)).2.1, .int .i64 (cl f t lo up (P.drop at_) (Q.drop at_)).2.2.1, .bool (cl f t lo up (P.drop at_) (Q.drop at_)).2.2.2]) ∧ Below w.heap.size w w' := by
  have hl1 : at_ < P.length := by rw [hP.out.len]; exact h1
  have hl2 : at_ < Q.length := by rw [hQ.out.len]; exact h2
  obtain ⟨x, HX1⟩ : ∃ x, Hid (P[at_] = x) := ⟨_, Lib.hid rfl⟩
  obtain ⟨y, HY1⟩ : ∃ y, Hid (Q[at_] = y) := ⟨_, Lib.hid rfl⟩
  have HR : Hid (cl f t lo up (P.drop at_) (Q.drop at_) = (x, y, 1, false)) := Lib.hid (by
    rw [cl_leaf hlt (by unfold insB outB; simp only [Bool.or_eq_true, Bool.and_eq_true, decide_eq_true_eq]; omega), List.drop_eq_getElem_cons hl1, List.drop_eq_getElem_cons hl2, HX1.out, HY1.out]; rfl)
  obtain ⟨g1, o1, rfl, hg1, hr1⟩ := hP.out.rd (by omega)
  obtain ⟨g2, o2, rfl, hg2, hr2⟩ := hQ.out.rd (by omega)
  have hx1 := range_one hr1 hP.out.ok at_ hl1
  have hy1 := range_one hr2 hQ.out.ok at_ hl2
  rw [HX1.out] at hx1
  rw [HY1.out] at hy1
  have HXO : Hid (NdOk x) := Lib.hid (by rw [← HX1.out]; exact hP.out.ok _ (List.getElem_mem hl1))
  have HYO : Hid (NdOk y) := Lib.hid (by rw [← HY1.out]; exact hQ.out.ok _ (List.getElem_mem hl2))
  have HSX1 := Lib.hid (size34 HXO.out)
  have HSY1 := Lib.hid (size34 HYO.out)
  have d1 : decide ((n1 : Int) ≤ (at_ : Int)) = false := decide_eq_false (by omega)
  have d1n : decide (n1 ≤ at_) = false := decide_eq_false (by omega)
  have d2 : decide ((n2 : Int) ≤ (at_ : Int)) = false := decide_eq_false (by omega)
  have d2n : decide (n2 ≤ at_) = false := decide_eq_false (by omega)
  have d3n : decide (at_ < n1) = true := decide_eq_true h1
  have d4n : decide (at_ < n2) = true := decide_eq_true h2
  have e0 : decide ((f : Int) ≤ (lo : Int)) = true := decide_eq_true (by omega)
  have e0n : decide (f ≤ lo) = true := decide_eq_true (by omega)
  have e1 : decide ((up : Int) ≤ (t : Int)) = false := decide_eq_false (by omega)
  have e1n : decide (up ≤ t) = false := decide_eq_false (by omega)
  have e2 : decide ((up : Int) ≤ (f : Int)) = false := decide_eq_false (by omega)
  have e2n : decide (up ≤ f) = false := decide_eq_false (by omega)
  have e3 : decide ((t : Int) ≤ (lo : Int)) = true := decide_eq_true (by omega)
  have e3n : decide (t ≤ lo) = true := decide_eq_true (by omega)
  have b0 := (Below.refl _ w).alloc (Nat.le_refl _) (.cells #[.int .i64 (f : Nat), .int .i64 (t : Nat), .slice (some ⟨g1, o1, none⟩) n1 c1] 74)
  have b1 := (Below.refl _ (w.alloc (.cells #[.int .i64 (f : Nat), .int .i64 (t : Nat), .slice (some ⟨g1, o1, none⟩) n1 c1] 74))).alloc (Nat.le_refl _) (.cells #[.int .i64 f2, .int .i64 t2, .slice (some ⟨g2, o2, none⟩) n2 c2] 74)
  have b2 := (Below.refl _ ((w.alloc (.cells #[.int .i64 (f : Nat), .int .i64 (t : Nat), .slice (some ⟨g1, o1, none⟩) n1 c1] 74)).alloc (.cells #[.int .i64 f2, .int .i64 t2, .slice (some ⟨g2, o2, none⟩) n2 c2] 74))).alloc (Nat.le_refl _) (.cells zN34 31)
  have b3 := (Below.refl _ (((w.alloc (.cells #[.int .i64 (f : Nat), .int .i64 (t : Nat), .slice (some ⟨g1, o1, none⟩) n1 c1] 74)).alloc (.cells #[.int .i64 f2, .int .i64 t2, .slice (some ⟨g2, o2, none⟩) n2 c2] 74)).alloc (.cells zN34 31))).alloc (Nat.le_refl _) (.cells zN34 31)
  have r0 := row_kept (row_kept (row_kept (heap_alloc_new w (.cells #[.int .i64 (f : Nat), .int .i64 (t : Nat), .slice (some ⟨g1, o1, none⟩) n1 c1] 74)) b1) b2) b3
  have r1 := row_kept (row_kept (heap_alloc_new (w.alloc (.cells #[.int .i64 (f : Nat), .int .i64 (t : Nat), .slice (some ⟨g1, o1, none⟩) n1 c1] 74)) (.cells #[.int .i64 f2, .int .i64 t2, .slice (some ⟨g2, o2, none⟩) n2 c2] 74)) b2) b3
  have r2 := row_kept (heap_alloc_new ((w.alloc (.cells #[.int .i64 (f : Nat), .int .i64 (t : Nat), .slice (some ⟨g1, o1, none⟩) n1 c1] 74)).alloc (.cells #[.int .i64 f2, .int .i64 t2, .slice (some ⟨g2, o2, none⟩) n2 c2] 74)) (.cells zN34 31)) b3
  have r3 := heap_alloc_new (((w.alloc (.cells #[.int .i64 (f : Nat), .int .i64 (t : Nat), .slice (some ⟨g1, o1, none⟩) n1 c1] 74)).alloc (.cells #[.int .i64 f2, .int .i64 t2, .slice (some ⟨g2, o2, none⟩) n2 c2] 74)).alloc (.cells zN34 31)) (.cells zN34 31)
  have hb := ((b0.trans (b1.mono b0.size)).trans (b2.mono (Nat.le_trans b0.size b1.size))).trans (b3.mono (Nat.le_trans (Nat.le_trans b0.size b1.size) b2.size))
  rw [World.size_alloc] at r1 r2 r3
  rw [World.size_alloc] at r2 r3
  rw [World.size_alloc] at r3
  obtain ⟨X, HX⟩ : ∃ V, Hid (((((w.alloc (.cells #[.int .i64 (f : Nat), .int .i64 (t : Nat), .slice (some ⟨g1, o1, none⟩) n1 c1] 74)).alloc (.cells #[.int .i64 f2, .int .i64 t2, .slice (some ⟨g2, o2, none⟩) n2 c2] 74)).alloc (.cells zN34 31)).alloc (.cells zN34 31)) = V) := ⟨_, Lib.hid rfl⟩
  have hs : ((((w.alloc (.cells #[.int .i64 (f : Nat), .int .i64 (t : Nat), .slice (some ⟨g1, o1, none⟩) n1 c1] 74)).alloc (.cells #[.int .i64 f2, .int .i64 t2, .slice (some ⟨g2, o2, none⟩) n2 c2] 74)).alloc (.cells zN34 31)).alloc (.cells zN34 31)).heap.size = w.heap.size + 4 := by simp
  rw [HX.out] at r0 r1 r2 r3 hb hs
  have HB0 := Lib.hid hb
  have RP0 := Lib.hid r0
  have RQ0 := Lib.hid r1
  have RA0 : Hid (X.heap[(w.heap.size + 1 + 1)]? = some (.cells (ndC zeroN).toArray 31 (0, 0))) := Lib.hid (by rw [zeroN_cells]; exact r2)
  have RB0 : Hid (X.heap[(w.heap.size + 1 + 1 + 1)]? = some (.cells (ndC zeroN).toArray 31 (0, 0))) := Lib.hid (by rw [zeroN_cells]; exact r3)
  have HSX := Lib.hid hs
  clear b0 b1 b2 b3 r0 r1 r2 r3 hb hs
  have HZS := Lib.hid (size34e zeroN_ok)
  have HGX : Hid (g1 < w.heap.size) := Lib.hid hg1
  have HGY : Hid (g2 < w.heap.size) := Lib.hid hg2
  have HRX := Lib.hid (rangeAt_below hx1 hg1 HB0.out)
  have HRY := Lib.hid (rangeAt_below hy1 hg2 HB0.out)
  clear hx1 hy1 hr1 hr2 hg1 hg2 HX1 HY1 hl1 hl2
  have p0 := cell_of_row _ _ 0 _ _ _ RP0.out
  have p1 := cell_of_row _ _ 1 _ _ _ RP0.out
  have p2 := cell_of_row _ _ 2 _ _ _ RP0.out
  have q0 := cell_of_row _ _ 0 _ _ _ RQ0.out
  have q1 := cell_of_row _ _ 1 _ _ _ RQ0.out
  have q2 := cell_of_row _ _ 2 _ _ _ RQ0.out
  go_enter Tryd.func34, Tryd.ntmps34
  go_wp2_with (rw [HX.out])
  clear p0 p1 p2
  clear q0 q1 q2
  have hC0 : CL2 w X (w.heap.size + 1 + 1) false X := ⟨HB0.out, Nat.le_refl _, fun _ _ _ _ => rfl, ⟨_, RA0.out, by simp [ndC_length zeroN_ok], (fun h => by cases h)⟩, ⟨_, RB0.out, by simp [ndC_length zeroN_ok], (fun h => by cases h)⟩⟩
  have HC0 := Lib.hid hC0.drew
  clear hC0
  refine region_flow3 (by kernel_rfl) (by kernel_rfl) (fun i => Nat.beq i 10 || Nat.beq i 11 || Nat.beq i 12 || Nat.beq i 13) (fun i => i) (by kernel_rfl) (fun fx => #[Value.agg #[Value.int IntKind.i64 ↑f, Value.int IntKind.i64 ↑t, Value.slice (some { block := g1, off := o1 }) n1 c1], Value.agg #[Value.int IntKind.i64 f2, Value.int IntKind.i64 t2, Value.slice (some { block := g2, off := o2 }) n2 c2], Value.int IntKind.i64 ↑lo, Value.int IntKind.i64 ↑up, Value.int IntKind.i64 ↑at_, Value.pointer (some { block := w.heap.size, off := 0 }), Value.pointer (some { block := w.heap.size + 1, off := 0 }), undef, undef, undef, Value.pointer (some { block := w.heap.size + 1 + 1, off := 0 }), Value.pointer (some { block := w.heap.size + 1 + 1 + 1, off := 0 }), fx 12, fx 13, undef, undef, undef, undef, undef, undef, undef, undef, undef, undef, undef, undef, Value.int IntKind.i64 ↑at_, Value.pointer (some { block := w.heap.size, off := 2 }), Value.slice (some { block := g1, off := o1 }) n1 c1, Value.int IntKind.i64 ↑n1, Value.bool false, Value.bool false, Value.int IntKind.i64 ↑at_, Value.pointer (some { block := w.heap.size + 1, off := 2 }), Value.slice (some { block := g2, off := o2 }) n2 c2, Value.int IntKind.i64 ↑n2, Value.bool false, Value.bool false, undef, undef, Value.pointer (some { block := w.heap.size, off := 0 }), Value.int IntKind.i64 ↑f, Value.int IntKind.i64 ↑lo, Value.bool true, Value.bool true, Value.int IntKind.i64 ↑up, Value.pointer (some { block := w.heap.size, off := 1 }), Value.int IntKind.i64 ↑t, Value.bool false, Value.bool false, Value.bool false, Value.int IntKind.i64 ↑up, Value.pointer (some { block := w.heap.size, off := 0 }), Value.int IntKind.i64 ↑f, Value.bool false, Value.bool false, Value.bool false, Value.pointer (some { block := w.heap.size, off := 1 }), Value.int IntKind.i64 ↑t, Value.int IntKind.i64 ↑lo, Value.bool true, Value.bool true, fx 0, fx 1, fx 2, fx 3, fx 4, fx 5, fx 6, fx 7, fx 8, fx 9, undef, undef, undef, undef, undef, undef, undef, undef, undef, undef, undef, undef, undef, undef, undef, undef, undef, undef, undef, undef, undef, undef, undef, undef, undef, undef, undef, undef, undef, undef, undef, undef, undef, undef, undef, undef, undef, undef, undef, undef, undef, undef, undef, undef, undef, undef, undef, undef, undef, undef, undef, undef, undef, undef, undef, undef, undef, undef, undef, undef, undef, undef, undef, undef, undef, undef, undef, undef, undef, undef, undef, undef, undef, undef, undef, undef, undef]) (fun i => bif Nat.beq i 12 then Value.int IntKind.i64 0 else bif Nat.beq i 13 then Value.bool false else undef) (fun _ _ w' => CL2 w X (w.heap.size + 1 + 1) false w') (fun fi fv _ fw => sCb w.heap.size g1 o1 n1 c1 g2 o2 n2 c2 at_ x y (w.heap.size + 1 + 1) fi fv fw) HC0.out ?_ ?_
  · refine ⟨?_, ?_, ?_, ?_, ?_, ?_, ?_, ?_, ?_, ?_, ?_, ?_, ?_, ?_, trivial⟩
    all_goals intro L fx w' hC hi hcl hdn hd
    · clear hd
      go_wp2_with fail
      exact ⟨_, rfl, hC, rfl, fun _ _ _ _ _ h => h⟩
    · have h0 : fx 0 = Value.pointer (some ⟨w.heap.size, 2, none⟩) := hd.1 rfl
      have hcc : w'.cell? ⟨w.heap.size, 2, none⟩ = some (Value.slice (some ⟨g1, o1, none⟩) n1 c1) := by rw [cell_of_row _ _ _ _ _ _ (hC.row RP0.out (by omega) (by omega))]; rfl
      clear hd
      go_wp2_with fail
      exact ⟨_, (by simp only [upd, h0]; rfl), hC, rfl, fun _ _ _ _ _ h => h⟩
    · clear hd
      go_wp2_with fail
      exact ⟨_, rfl, hC, rfl, fun _ _ _ _ _ h => h⟩
    · have h1 : fx 1 = Value.slice (some ⟨g1, o1, none⟩) n1 c1 := hd.1 rfl
      have h2 : fx 2 = Value.int .i64 ((at_ : Nat)) := hd.2.1 rfl
      clear hd
      go_wp2_with fail
      exact ⟨_, (by simp only [upd, h1, h2]; rfl), hC, rfl, fun _ _ _ _ _ h => h⟩
    · have h3 : fx 3 = Value.pointer (some ⟨g1, o1 + at_ * 34, none⟩) := hd.1 rfl
      have hsx := HSX.out
      have hgx := HGX.out
      have hr := hC.range HRX.out (by omega) (by omega) (by omega)
      refine wpList_load_mid rfl 31 (.tmp 65) rfl (g1) (o1 + at_ * 34) h3 (ndC x) _ hr Tryd.underlying31 rfl HSX1.out ?_
      clear hr hd
      go_wp2_with fail
      exact ⟨_, (by simp only [upd, h3]; rfl), hC, rfl, fun _ _ _ _ _ h => h⟩
    · clear hd
      go_wp2_with fail
      exact ⟨_, rfl, hC, rfl, fun _ _ _ _ _ h => h⟩
    · have h5 : fx 5 = Value.pointer (some ⟨(w.heap.size + 1), 2, none⟩) := hd.1 rfl
      have hcc : w'.cell? ⟨(w.heap.size + 1), 2, none⟩ = some (Value.slice (some ⟨g2, o2, none⟩) n2 c2) := by rw [cell_of_row _ _ _ _ _ _ (hC.row RQ0.out (by omega) (by omega))]; rfl
      clear hd
      go_wp2_with fail
      exact ⟨_, (by simp only [upd, h5]; rfl), hC, rfl, fun _ _ _ _ _ h => h⟩
    · clear hd
      go_wp2_with fail
      exact ⟨_, rfl, hC, rfl, fun _ _ _ _ _ h => h⟩
    · have h6 : fx 6 = Value.slice (some ⟨g2, o2, none⟩) n2 c2 := hd.1 rfl
      have h7 : fx 7 = Value.int .i64 ((at_ : Nat)) := hd.2.1 rfl
      clear hd
      go_wp2_with fail
      exact ⟨_, (by simp only [upd, h6, h7]; rfl), hC, rfl, fun _ _ _ _ _ h => h⟩
    · have h8 : fx 8 = Value.pointer (some ⟨g2, o2 + at_ * 34, none⟩) := hd.1 rfl
      have hsx := HSX.out
      have hgx := HGY.out
      have hr := hC.range HRY.out (by omega) (by omega) (by omega)
      refine wpList_load_mid rfl 31 (.tmp 70) rfl (g2) (o2 + at_ * 34) h8 (ndC y) _ hr Tryd.underlying31 rfl HSY1.out ?_
      clear hr hd
      go_wp2_with fail
      exact ⟨_, (by simp only [upd, h8]; rfl), hC, rfl, fun _ _ _ _ _ h => h⟩
    · have h4 : fx 4 = ndV x := hd.1 rfl
      obtain ⟨c, hc, hsz, _⟩ := hC.z0
      refine wpList_store_row rfl 31 (.tmp 10) (.tmp 66) rfl (w.heap.size + 1 + 1) (ndC x).toArray rfl h4 31 _ hc (size34e HXO.out) (by rw [hsz]; simp [ndC_length HXO.out]) (ndC_one _) ?_
      clear hd
      go_wp2_with fail
      obtain ⟨hC2, hr2⟩ := hC.set0 HXO.out (Nat.le_add_right _ 2) (fun h => by cases h)
      refine ⟨undef, (by simp only [upd, h4]; rfl), hC2, hr2, fun j v t hj hu h => sCb_set0 hC h hr2⟩
    · have h9 : fx 9 = ndV y := hd.1 rfl
      obtain ⟨c, hc, hsz, _⟩ := hC.z1
      refine wpList_store_row rfl 31 (.tmp 11) (.tmp 71) rfl (w.heap.size + 1 + 1 + 1) (ndC y).toArray rfl h9 31 _ hc (size34e HYO.out) (by rw [hsz]; simp [ndC_length HYO.out]) (ndC_one _) ?_
      clear hd
      go_wp2_with fail
      obtain ⟨hC2, hr2⟩ := hC.set1 HYO.out (Nat.le_add_right _ 2) (fun h => by cases h)
      refine ⟨undef, (by simp only [upd, h9]; rfl), hC2, hr2, fun j v t hj hu h => sCb_set1 hC h hr2⟩
    · clear hd
      go_wp2_with fail
      exact ⟨_, rfl, hC, rfl, fun _ _ _ _ _ h => h⟩
    · clear hd
      go_wp2_with fail
      exact ⟨_, rfl, hC, rfl, fun _ _ _ _ _ h => h⟩
  · intro L fo w' hC hS
    have H10 := Lib.hid (hS 10 (by decide) rfl)
    have H11 := Lib.hid (hS 11 (by decide) rfl)
    have H12 := Lib.hid (hS 12 (by decide) rfl)
    have H13 := Lib.hid (hS 13 (by decide) rfl)
    have h10 : w'.heap[(w.heap.size + 1 + 1)]? = some (.cells (ndC x).toArray 31 (0, 0)) := H10.out
    have h11 : w'.heap[(w.heap.size + 1 + 1 + 1)]? = some (.cells (ndC y).toArray 31 (0, 0)) := H11.out
    have h12 : fo 12 = .int .i64 1 := H12.out
    have h13 : fo 13 = .bool false := H13.out
    have hl0 := run_loadVar_row (P := Tryd.prog) w' (w.heap.size + 1 + 1) 31 31 (ndC x).toArray (0, 0) _ h10 Tryd.underlying31 rfl (size34e HXO.out)
    have hl1 := run_loadVar_row (P := Tryd.prog) w' (w.heap.size + 1 + 1 + 1) 31 31 (ndC y).toArray (0, 0) _ h11 Tryd.underlying31 rfl (size34e HYO.out)
    have hbel := hC.bel
    rw [h12, h13]
    clear hS hC
    go_wp2_with fail
    refine bodyPost_ret (v := .tuple #[.agg (ndC x).toArray, .agg (ndC y).toArray, .int .i64 1, .bool false]) ?_ rfl ⟨by rw [HR.out]; rfl, hbel⟩
    simp [results, Tryd.results34, asAddr, hl0, hl1]
set_option maxHeartbeats 16000000 in
theorem climb_b4 (f t lo up at_ : Nat) (f2 t2 : Int) (A1 A2 : Option Addr) (n1 c1 n2 c2 : Nat) (P Q : List Nd) (w : World) (hP : Hid (InN w A1 n1 c1 P)) (hQ : Hid (InN w A2 n2 c2 Q)) (hT : Hid (Tabs w)) (hft : f < t) (hlt : lo < up) (ha : at_ ≤ lo) (hh : up ≤ 4096) (hn1 : n1 ≤ 100000) (hn2 : n2 ≤ 100000) (h1 : at_ < n1) (h2 : at_ < n2) (k0 : ¬ f ≤ lo) (k1 : up ≤ f) :
    Calls Tryd.prog 34 #[.agg #[.int .i64 (f : Nat), .int .i64 (t : Nat), .slice A1 n1 c1], .agg #[.int .i64 f2, .int .i64 t2, .slice A2 n2 c2], .int .i64 (lo : Nat), .int .i64 (up : Nat), .int .i64 (at_ : Nat)] w fun e w' => e = .returned (.tuple #[ndV (cl f t lo up (P.drop at_) (Q.drop at_)).1, ndV (cl f t lo up (P.drop at_) (Q.drop at_)).2.1, .int .i64 (cl f t lo up (P.drop at_) (Q.drop at_)).2.2.1, .bool (cl f t lo up (P.drop at_) (Q.drop at_)).2.2.2]) ∧ Below w.heap.size w w' := by
  have hl1 : at_ < P.length := by rw [hP.out.len]; exact h1
  have hl2 : at_ < Q.length := by rw [hQ.out.len]; exact h2
  obtain ⟨x, HX1⟩ : ∃ x, Hid (P[at_] = x) := ⟨_, Lib.hid rfl⟩
  obtain ⟨y, HY1⟩ : ∃ y, Hid (Q[at_] = y) := ⟨_, Lib.hid rfl⟩
  have HR : Hid (cl f t lo up (P.drop at_) (Q.drop at_) = (x, y, 1, false)) := Lib.hid (by
    rw [cl_leaf hlt (by unfold insB outB; simp only [Bool.or_eq_true, Bool.and_eq_true, decide_eq_true_eq]; omega), List.drop_eq_getElem_cons hl1, List.drop_eq_getElem_cons hl2, HX1.out, HY1.out]; rfl)
  obtain ⟨g1, o1, rfl, hg1, hr1⟩ := hP.out.rd (by omega)
  obtain ⟨g2, o2, rfl, hg2, hr2⟩ := hQ.out.rd (by omega)
  have hx1 := range_one hr1 hP.out.ok at_ hl1
  have hy1 := range_one hr2 hQ.out.ok at_ hl2
  rw [HX1.out] at hx1
  rw [HY1.out] at hy1
  have HXO : Hid (NdOk x) := Lib.hid (by rw [← HX1.out]; exact hP.out.ok _ (List.getElem_mem hl1))
  have HYO : Hid (NdOk y) := Lib.hid (by rw [← HY1.out]; exact hQ.out.ok _ (List.getElem_mem hl2))
  have HSX1 := Lib.hid (size34 HXO.out)
  have HSY1 := Lib.hid (size34 HYO.out)
  have d1 : decide ((n1 : Int) ≤ (at_ : Int)) = false := decide_eq_false (by omega)
  have d1n : decide (n1 ≤ at_) = false := decide_eq_false (by omega)
  have d2 : decide ((n2 : Int) ≤ (at_ : Int)) = false := decide_eq_false (by omega)
  have d2n : decide (n2 ≤ at_) = false := decide_eq_false (by omega)
  have d3n : decide (at_ < n1) = true := decide_eq_true h1
  have d4n : decide (at_ < n2) = true := decide_eq_true h2
  have e0 : decide ((f : Int) ≤ (lo : Int)) = false := decide_eq_false (by omega)
  have e0n : decide (f ≤ lo) = false := decide_eq_false (by omega)
  have e1 : decide ((up : Int) ≤ (f : Int)) = true := decide_eq_true (by omega)
  have e1n : decide (up ≤ f) = true := decide_eq_true (by omega)
  have b0 := (Below.refl _ w).alloc (Nat.le_refl _) (.cells #[.int .i64 (f : Nat), .int .i64 (t : Nat), .slice (some ⟨g1, o1, none⟩) n1 c1] 74)
  have b1 := (Below.refl _ (w.alloc (.cells #[.int .i64 (f : Nat), .int .i64 (t : Nat), .slice (some ⟨g1, o1, none⟩) n1 c1] 74))).alloc (Nat.le_refl _) (.cells #[.int .i64 f2, .int .i64 t2, .slice (some ⟨g2, o2, none⟩) n2 c2] 74)
  have b2 := (Below.refl _ ((w.alloc (.cells #[.int .i64 (f : Nat), .int .i64 (t : Nat), .slice (some ⟨g1, o1, none⟩) n1 c1] 74)).alloc (.cells #[.int .i64 f2, .int .i64 t2, .slice (some ⟨g2, o2, none⟩) n2 c2] 74))).alloc (Nat.le_refl _) (.cells zN34 31)
  have b3 := (Below.refl _ (((w.alloc (.cells #[.int .i64 (f : Nat), .int .i64 (t : Nat), .slice (some ⟨g1, o1, none⟩) n1 c1] 74)).alloc (.cells #[.int .i64 f2, .int .i64 t2, .slice (some ⟨g2, o2, none⟩) n2 c2] 74)).alloc (.cells zN34 31))).alloc (Nat.le_refl _) (.cells zN34 31)
  have r0 := row_kept (row_kept (row_kept (heap_alloc_new w (.cells #[.int .i64 (f : Nat), .int .i64 (t : Nat), .slice (some ⟨g1, o1, none⟩) n1 c1] 74)) b1) b2) b3
  have r1 := row_kept (row_kept (heap_alloc_new (w.alloc (.cells #[.int .i64 (f : Nat), .int .i64 (t : Nat), .slice (some ⟨g1, o1, none⟩) n1 c1] 74)) (.cells #[.int .i64 f2, .int .i64 t2, .slice (some ⟨g2, o2, none⟩) n2 c2] 74)) b2) b3
  have r2 := row_kept (heap_alloc_new ((w.alloc (.cells #[.int .i64 (f : Nat), .int .i64 (t : Nat), .slice (some ⟨g1, o1, none⟩) n1 c1] 74)).alloc (.cells #[.int .i64 f2, .int .i64 t2, .slice (some ⟨g2, o2, none⟩) n2 c2] 74)) (.cells zN34 31)) b3
  have r3 := heap_alloc_new (((w.alloc (.cells #[.int .i64 (f : Nat), .int .i64 (t : Nat), .slice (some ⟨g1, o1, none⟩) n1 c1] 74)).alloc (.cells #[.int .i64 f2, .int .i64 t2, .slice (some ⟨g2, o2, none⟩) n2 c2] 74)).alloc (.cells zN34 31)) (.cells zN34 31)
  have hb := ((b0.trans (b1.mono b0.size)).trans (b2.mono (Nat.le_trans b0.size b1.size))).trans (b3.mono (Nat.le_trans (Nat.le_trans b0.size b1.size) b2.size))
  rw [World.size_alloc] at r1 r2 r3
  rw [World.size_alloc] at r2 r3
  rw [World.size_alloc] at r3
  obtain ⟨X, HX⟩ : ∃ V, Hid (((((w.alloc (.cells #[.int .i64 (f : Nat), .int .i64 (t : Nat), .slice (some ⟨g1, o1, none⟩) n1 c1] 74)).alloc (.cells #[.int .i64 f2, .int .i64 t2, .slice (some ⟨g2, o2, none⟩) n2 c2] 74)).alloc (.cells zN34 31)).alloc (.cells zN34 31)) = V) := ⟨_, Lib.hid rfl⟩
  have hs : ((((w.alloc (.cells #[.int .i64 (f : Nat), .int .i64 (t : Nat), .slice (some ⟨g1, o1, none⟩) n1 c1] 74)).alloc (.cells #[.int .i64 f2, .int .i64 t2, .slice (some ⟨g2, o2, none⟩) n2 c2] 74)).alloc (.cells zN34 31)).alloc (.cells zN34 31)).heap.size = w.heap.size + 4 := by simp
  rw [HX.out] at r0 r1 r2 r3 hb hs
  have HB0 := Lib.hid hb
  have RP0 := Lib.hid r0
  have RQ0 := Lib.hid r1
  have RA0 : Hid (X.heap[(w.heap.size + 1 + 1)]? = some (.cells (ndC zeroN).toArray 31 (0, 0))) := Lib.hid (by rw [zeroN_cells]; exact r2)
  have RB0 : Hid (X.heap[(w.heap.size + 1 + 1 + 1)]? = some (.cells (ndC zeroN).toArray 31 (0, 0))) := Lib.hid (by rw [zeroN_cells]; exact r3)
  have HSX := Lib.hid hs
  clear b0 b1 b2 b3 r0 r1 r2 r3 hb hs
  have HZS := Lib.hid (size34e zeroN_ok)
  have HGX : Hid (g1 < w.heap.size) := Lib.hid hg1
  have HGY : Hid (g2 < w.heap.size) := Lib.hid hg2
  have HRX := Lib.hid (rangeAt_below hx1 hg1 HB0.out)
  have HRY := Lib.hid (rangeAt_below hy1 hg2 HB0.out)
  clear hx1 hy1 hr1 hr2 hg1 hg2 HX1 HY1 hl1 hl2
  have p0 := cell_of_row _ _ 0 _ _ _ RP0.out
  have p1 := cell_of_row _ _ 1 _ _ _ RP0.out
  have p2 := cell_of_row _ _ 2 _ _ _ RP0.out
  have q0 := cell_of_row _ _ 0 _ _ _ RQ0.out
  have q1 := cell_of_row _ _ 1 _ _ _ RQ0.out
  have q2 := cell_of_row _ _ 2 _ _ _ RQ0.out
  go_enter Tryd.func34, Tryd.ntmps34
  go_wp2_with (rw [HX.out])
  clear p0 p1 p2
  clear q0 q1 q2
  have hC0 : CL2 w X (w.heap.size + 1 + 1) false X := ⟨HB0.out, Nat.le_refl _, fun _ _ _ _ => rfl, ⟨_, RA0.out, by simp [ndC_length zeroN_ok], (fun h => by cases h)⟩, ⟨_, RB0.out, by simp [ndC_length zeroN_ok], (fun h => by cases h)⟩⟩
  have HC0 := Lib.hid hC0.drew
  clear hC0
  refine region_flow3 (by kernel_rfl) (by kernel_rfl) (fun i => Nat.beq i 10 || Nat.beq i 11 || Nat.beq i 12 || Nat.beq i 13) (fun i => i) (by kernel_rfl) (fun fx => #[Value.agg #[Value.int IntKind.i64 ↑f, Value.int IntKind.i64 ↑t, Value.slice (some { block := g1, off := o1 }) n1 c1], Value.agg #[Value.int IntKind.i64 f2, Value.int IntKind.i64 t2, Value.slice (some { block := g2, off := o2 }) n2 c2], Value.int IntKind.i64 ↑lo, Value.int IntKind.i64 ↑up, Value.int IntKind.i64 ↑at_, Value.pointer (some { block := w.heap.size, off := 0 }), Value.pointer (some { block := w.heap.size + 1, off := 0 }), undef, undef, undef, Value.pointer (some { block := w.heap.size + 1 + 1, off := 0 }), Value.pointer (some { block := w.heap.size + 1 + 1 + 1, off := 0 }), fx 12, fx 13, undef, undef, undef, undef, undef, undef, undef, undef, undef, undef, undef, undef, Value.int IntKind.i64 ↑at_, Value.pointer (some { block := w.heap.size, off := 2 }), Value.slice (some { block := g1, off := o1 }) n1 c1, Value.int IntKind.i64 ↑n1, Value.bool false, Value.bool false, Value.int IntKind.i64 ↑at_, Value.pointer (some { block := w.heap.size + 1, off := 2 }), Value.slice (some { block := g2, off := o2 }) n2 c2, Value.int IntKind.i64 ↑n2, Value.bool false, Value.bool false, undef, undef, Value.pointer (some { block := w.heap.size, off := 0 }), Value.int IntKind.i64 ↑f, Value.int IntKind.i64 ↑lo, Value.bool false, Value.bool false, undef, undef, undef, undef, Value.bool false, Value.bool false, Value.int IntKind.i64 ↑up, Value.pointer (some { block := w.heap.size, off := 0 }), Value.int IntKind.i64 ↑f, Value.bool true, Value.bool true, Value.bool true, undef, undef, undef, undef, Value.bool true, fx 0, fx 1, fx 2, fx 3, fx 4, fx 5, fx 6, fx 7, fx 8, fx 9, undef, undef, undef, undef, undef, undef, undef, undef, undef, undef, undef, undef, undef, undef, undef, undef, undef, undef, undef, undef, undef, undef, undef, undef, undef, undef, undef, undef, undef, undef, undef, undef, undef, undef, undef, undef, undef, undef, undef, undef, undef, undef, undef, undef, undef, undef, undef, undef, undef, undef, undef, undef, undef, undef, undef, undef, undef, undef, undef, undef, undef, undef, undef, undef, undef, undef, undef, undef, undef, undef, undef, undef, undef, undef, undef, undef, undef]) (fun i => bif Nat.beq i 12 then Value.int IntKind.i64 0 else bif Nat.beq i 13 then Value.bool false else undef) (fun _ _ w' => CL2 w X (w.heap.size + 1 + 1) false w') (fun fi fv _ fw => sCb w.heap.size g1 o1 n1 c1 g2 o2 n2 c2 at_ x y (w.heap.size + 1 + 1) fi fv fw) HC0.out ?_ ?_
  · refine ⟨?_, ?_, ?_, ?_, ?_, ?_, ?_, ?_, ?_, ?_, ?_, ?_, ?_, ?_, trivial⟩
    all_goals intro L fx w' hC hi hcl hdn hd
    · clear hd
      go_wp2_with fail
      exact ⟨_, rfl, hC, rfl, fun _ _ _ _ _ h => h⟩
    · have h0 : fx 0 = Value.pointer (some ⟨w.heap.size, 2, none⟩) := hd.1 rfl
      have hcc : w'.cell? ⟨w.heap.size, 2, none⟩ = some (Value.slice (some ⟨g1, o1, none⟩) n1 c1) := by rw [cell_of_row _ _ _ _ _ _ (hC.row RP0.out (by omega) (by omega))]; rfl
      clear hd
      go_wp2_with fail
      exact ⟨_, (by simp only [upd, h0]; rfl), hC, rfl, fun _ _ _ _ _ h => h⟩
    · clear hd
      go_wp2_with fail
      exact ⟨_, rfl, hC, rfl, fun _ _ _ _ _ h => h⟩
    · have h1 : fx 1 = Value.slice (some ⟨g1, o1, none⟩) n1 c1 := hd.1 rfl
      have h2 : fx 2 = Value.int .i64 ((at_ : Nat)) := hd.2.1 rfl
      clear hd
      go_wp2_with fail
      exact ⟨_, (by simp only [upd, h1, h2]; rfl), hC, rfl, fun _ _ _ _ _ h => h⟩
    · have h3 : fx 3 = Value.pointer (some ⟨g1, o1 + at_ * 34, none⟩) := hd.1 rfl
      have hsx := HSX.out
      have hgx := HGX.out
      have hr := hC.range HRX.out (by omega) (by omega) (by omega)
      refine wpList_load_mid rfl 31 (.tmp 65) rfl (g1) (o1 + at_ * 34) h3 (ndC x) _ hr Tryd.underlying31 rfl HSX1.out ?_
      clear hr hd
      go_wp2_with fail
      exact ⟨_, (by simp only [upd, h3]; rfl), hC, rfl, fun _ _ _ _ _ h => h⟩
    · clear hd
      go_wp2_with fail
      exact ⟨_, rfl, hC, rfl, fun _ _ _ _ _ h => h⟩
    · have h5 : fx 5 = Value.pointer (some ⟨(w.heap.size + 1), 2, none⟩) := hd.1 rfl
      have hcc : w'.cell? ⟨(w.heap.size + 1), 2, none⟩ = some (Value.slice (some ⟨g2, o2, none⟩) n2 c2) := by rw [cell_of_row _ _ _ _ _ _ (hC.row RQ0.out (by omega) (by omega))]; rfl
      clear hd
      go_wp2_with fail
      exact ⟨_, (by simp only [upd, h5]; rfl), hC, rfl, fun _ _ _ _ _ h => h⟩
    · clear hd
      go_wp2_with fail
      exact ⟨_, rfl, hC, rfl, fun _ _ _ _ _ h => h⟩
    · have h6 : fx 6 = Value.slice (some ⟨g2, o2, none⟩) n2 c2 := hd.1 rfl
      have h7 : fx 7 = Value.int .i64 ((at_ : Nat)) := hd.2.1 rfl
      clear hd
      go_wp2_with fail
      exact ⟨_, (by simp only [upd, h6, h7]; rfl), hC, rfl, fun _ _ _ _ _ h => h⟩
    · have h8 : fx 8 = Value.pointer (some ⟨g2, o2 + at_ * 34, none⟩) := hd.1 rfl
      have hsx := HSX.out
      have hgx := HGY.out
      have hr := hC.range HRY.out (by omega) (by omega) (by omega)
      refine wpList_load_mid rfl 31 (.tmp 70) rfl (g2) (o2 + at_ * 34) h8 (ndC y) _ hr Tryd.underlying31 rfl HSY1.out ?_
      clear hr hd
      go_wp2_with fail
      exact ⟨_, (by simp only [upd, h8]; rfl), hC, rfl, fun _ _ _ _ _ h => h⟩
    · have h4 : fx 4 = ndV x := hd.1 rfl
      obtain ⟨c, hc, hsz, _⟩ := hC.z0
      refine wpList_store_row rfl 31 (.tmp 10) (.tmp 66) rfl (w.heap.size + 1 + 1) (ndC x).toArray rfl h4 31 _ hc (size34e HXO.out) (by rw [hsz]; simp [ndC_length HXO.out]) (ndC_one _) ?_
      clear hd
      go_wp2_with fail
      obtain ⟨hC2, hr2⟩ := hC.set0 HXO.out (Nat.le_add_right _ 2) (fun h => by cases h)
      refine ⟨undef, (by simp only [upd, h4]; rfl), hC2, hr2, fun j v t hj hu h => sCb_set0 hC h hr2⟩
    · have h9 : fx 9 = ndV y := hd.1 rfl
      obtain ⟨c, hc, hsz, _⟩ := hC.z1
      refine wpList_store_row rfl 31 (.tmp 11) (.tmp 71) rfl (w.heap.size + 1 + 1 + 1) (ndC y).toArray rfl h9 31 _ hc (size34e HYO.out) (by rw [hsz]; simp [ndC_length HYO.out]) (ndC_one _) ?_
      clear hd
      go_wp2_with fail
      obtain ⟨hC2, hr2⟩ := hC.set1 HYO.out (Nat.le_add_right _ 2) (fun h => by cases h)
      refine ⟨undef, (by simp only [upd, h9]; rfl), hC2, hr2, fun j v t hj hu h => sCb_set1 hC h hr2⟩
    · clear hd
      go_wp2_with fail
      exact ⟨_, rfl, hC, rfl, fun _ _ _ _ _ h => h⟩
    · clear hd
      go_wp2_with fail
      exact ⟨_, rfl, hC, rfl, fun _ _ _ _ _ h => h⟩
  · intro L fo w' hC hS
    have H10 := Lib.hid (hS 10 (by decide) rfl)
    have H11 := Lib.hid (hS 11 (by decide) rfl)
    have H12 := Lib.hid (hS 12 (by decide) rfl)
    have H13 := Lib.hid (hS 13 (by decide) rfl)
    have h10 : w'.heap[(w.heap.size + 1 + 1)]? = some (.cells (ndC x).toArray 31 (0, 0)) := H10.out
    have h11 : w'.heap[(w.heap.size + 1 + 1 + 1)]? = some (.cells (ndC y).toArray 31 (0, 0)) := H11.out
    have h12 : fo 12 = .int .i64 1 := H12.out
    have h13 : fo 13 = .bool false := H13.out
    have hl0 := run_loadVar_row (P := Tryd.prog) w' (w.heap.size + 1 + 1) 31 31 (ndC x).toArray (0, 0) _ h10 Tryd.underlying31 rfl (size34e HXO.out)
    have hl1 := run_loadVar_row (P := Tryd.prog) w' (w.heap.size + 1 + 1 + 1) 31 31 (ndC y).toArray (0, 0) _ h11 Tryd.underlying31 rfl (size34e HYO.out)
    have hbel := hC.bel
    rw [h12, h13]
    clear hS hC
    go_wp2_with fail
    refine bodyPost_ret (v := .tuple #[.agg (ndC x).toArray, .agg (ndC y).toArray, .int .i64 1, .bool false]) ?_ rfl ⟨by rw [HR.out]; rfl, hbel⟩
    simp [results, Tryd.results34, asAddr, hl0, hl1]
end Go.Proofs.YtmfmgeapecapiaaDoor
namespace Go.Proofs.YtmfmgeapecapiaaDoor
open Go.ChangeShapes Go.WideShapes Go.ChangeAt Go.RowKit SzSha SzTree
set_option linter.unusedVariables false
/-- to be used under 'with_reducible' ahead of an arm's law: the goal is a list of operations -/
theorem wpList_here {P : Program} {ops : Array Oper} {rest : List Oper} {o : Oper} {a : Act} {w : World} {Q : Exit → Act → World → Prop} (h : wpList P ops Q (o :: rest) a w) : wpList P ops Q (o :: rest) a w := h
theorem wpList_load_mid_g {P : Program} {ops : Array Oper} {rest : List Oper} {op : Oper} {a : Act} {w : World} {Q : Exit → Act → World → Prop} (ty : TypeId) (x : Operand) (ho : op.op = .load ty x)
    (hw : Region.wanted op (yielded ops a.tmps) = true)
    (b o : Nat) (hx : a.eval x = .pointer (some ⟨b, o, none⟩)) (cs : List Value) (d : TypeDesc) (hc : w.rangeAt b o cs)
    (hu : P.underlying ty = some d) (hd : d.isRow = true) (hi : (P.info? ty).map (·.size) = some cs.length)
    (h : wpList P ops Q rest (a.put op.dst (.agg cs.toArray)) w) : wpList P ops Q (op :: rest) a w :=
  wpList_unguard hw (wpList_load_mid rfl ty x ho b o hx cs d hc hu hd hi h)
theorem wpList_load_row_g {P : Program} {ops : Array Oper} {rest : List Oper} {o : Oper} {a : Act} {w : World} {Q : Exit → Act → World → Prop} (ty : TypeId) (x : Operand) (ho : o.op = .load ty x)
    (hw : Region.wanted o (yielded ops a.tmps) = true)
    (g : Nat) (hx : a.eval x = .pointer (some ⟨g, 0, none⟩)) (t : TypeId) (cs : Array Value) (fr : Nat × Nat) (d : TypeDesc) (hg : w.heap[g]? = some (.cells cs t fr))
    (hu : P.underlying ty = some d) (hd : (match d with | .struct _ | .array _ _ => true | _ => false) = true) (hi : (P.info? ty).map (·.size) = some cs.size)
    (h : wpList P ops Q rest (a.put o.dst (.agg cs)) w) : wpList P ops Q (o :: rest) a w :=
  wpList_unguard hw (wpList_load_row rfl ty x ho g hx t cs fr d hg hu hd hi h)
theorem wpList_eql_dg_g {w : World} {ops : Array Oper} {rest : List Oper} {o : Oper} {a : Act} {Q : Exit → Act → World → Prop} (x y : Operand) (t : TypeId)
    (ho : o.op = .binOp .eql 25 x y t) (hw : Region.wanted o (yielded ops a.tmps) = true) (l m : List Nat) (hx : a.eval x = dgV l) (hy : a.eval y = dgV m) (hl : l.length = 32) (hm : m.length = 32) (bl : Bytes l) (bm : Bytes m)
    (h : wpList Tryd.prog ops Q rest (a.put o.dst (.bool (l == m))) w) : wpList Tryd.prog ops Q (o :: rest) a w :=
  wpList_unguard hw (wpList_eql_dg rfl x y t ho l m hx hy hl hm bl bm h)
theorem wpList_neq_nd_g {w : World} {ops : Array Oper} {rest : List Oper} {o : Oper} {a : Act} {Q : Exit → Act → World → Prop} (x y : Operand) (t : TypeId)
    (ho : o.op = .binOp .neq 31 x y t) (hw : Region.wanted o (yielded ops a.tmps) = true) (m n : Nd) (hx : a.eval x = ndV m) (hy : a.eval y = ndV n) (hm : NdOk m) (hn : NdOk n)
    (h : wpList Tryd.prog ops Q rest (a.put o.dst (.bool (!(ndEq m n)))) w) : wpList Tryd.prog ops Q (o :: rest) a w :=
  wpList_unguard hw (wpList_neq_nd rfl x y t ho m n hx hy hm hn h)
end Go.Proofs.YtmfmgeapecapiaaDoor
