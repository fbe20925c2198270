/- sizarlaw43.climb: a list that ends. -/
import Derived.Test.YtmfmgeapecapiaaDoorSB16
namespace Go.Proofs.YtmfmgeapecapiaaDoor
open Go.RowKit SzSha SzTree
set_option linter.unusedVariables false
set_option maxRecDepth 100000
def sCa (u : Nat) (b : Nat) : Nat → Value → World → Prop
  | 0, fv, _ => fv = ndV zeroN
  | 1, fv, _ => fv = ndV zeroN
  | 2, _, fw => fw.heap[b]? = some (.cells (ndC zeroN).toArray 31 (0, 0))
  | 3, _, fw => fw.heap[b + 1]? = some (.cells (ndC zeroN).toArray 31 (0, 0))
  | 4, fv, _ => fv = Value.int .i64 1
  | 5, fv, _ => fv = Value.bool false
  | _, _, _ => True
theorem sCa_set0 {u : Nat} {b : Nat} {w W : World} {z : Bool} {w' : World} {j : Nat} {v : Value} (hC : CL2 w W b z w') (h : sCa u b j v w') (hr : (w'.setRow b (ndC zeroN).toArray).heap[b]? = some (.cells (ndC zeroN).toArray 31 (0, 0))) : sCa u b j v (w'.setRow b (ndC zeroN).toArray) :=
  match j, h with
  | 0, h => h
  | 1, h => h
  | 2, h => hr
  | 3, h => (setRow_other w' b (b + 1) _ (by omega)).trans h
  | 4, h => h
  | 5, h => h
  | j + 6, h => trivial
theorem sCa_set1 {u : Nat} {b : Nat} {w W : World} {z : Bool} {w' : World} {j : Nat} {v : Value} (hC : CL2 w W b z w') (h : sCa u b j v w') (hr : (w'.setRow (b + 1) (ndC zeroN).toArray).heap[(b + 1)]? = some (.cells (ndC zeroN).toArray 31 (0, 0))) : sCa u b j v (w'.setRow (b + 1) (ndC zeroN).toArray) :=
  match j, h with
  | 0, h => h
  | 1, h => h
  | 2, h => (setRow_other w' (b + 1) b _ (by omega)).trans h
  | 3, h => hr
  | 4, h => h
  | 5, h => h
  | j + 6, h => trivial
set_option maxHeartbeats 16000000 in
theorem climb_a1 (f t lo up at_ : Nat) (f2 t2 : Int) (A1 A2 : Option Addr) (n1 c1 n2 c2 : Nat) (P Q : List Nd) (w : World) (hP : Hid (InN w A1 n1 c1 P)) (hQ : Hid (InN w A2 n2 c2 Q)) (hT : Hid (Tabs w)) (hft : f < t) (hlt : lo < up) (ha : at_ ≤ lo) (hh : up ≤ 4096) (hn1 : n1 ≤ 100000) (hn2 : n2 ≤ 100000) (h1 : n1 ≤ at_) :
    Calls Tryd.prog 34 #[.agg #[.int .i64 (f : Nat), .int .i64 (t : Nat), .slice A1 n1 c1], .agg #[.int .i64 f2, .int .i64 t2, .slice A2 n2 c2], .int .i64 (lo : Nat), .int .i64 (up : Nat), .int .i64 (at_ : Nat)] w fun e w' => e = .returned (.tuple #[ndV (cl f t lo up (P.drop at_) (Q.drop at_)).1, ndV (cl f t lo up (P.drop at_) (Q.drop at_)).2.1, .int .i64 (cl f t lo up (P.drop at_) (Q.drop at_)).2.2.1, .bool (cl f t lo up (P.drop at_) (Q.drop at_)).2.2.2]) ∧ Below w.heap.size w w' := by
  have HR : Hid (cl f t lo up (P.drop at_) (Q.drop at_) = (zeroN, zeroN, 1, false)) := Lib.hid (by
    have hn : P.drop at_ = [] ∨ Q.drop at_ = [] := .inl (List.drop_eq_nil_of_le (by rw [hP.out.len]; exact h1))
    rw [cl_none hlt hn, cl1_nil hn])
  have d1 : decide ((n1 : Int) ≤ (at_ : Int)) = true := decide_eq_true (by omega)
  have d1n : decide (n1 ≤ at_) = true := decide_eq_true h1
  have b0 := (Below.refl _ w).alloc (Nat.le_refl _) (.cells #[.int .i64 (f : Nat), .int .i64 (t : Nat), .slice A1 n1 c1] 74)
  have b1 := (Below.refl _ (w.alloc (.cells #[.int .i64 (f : Nat), .int .i64 (t : Nat), .slice A1 n1 c1] 74))).alloc (Nat.le_refl _) (.cells #[.int .i64 f2, .int .i64 t2, .slice A2 n2 c2] 74)
  have b2 := (Below.refl _ ((w.alloc (.cells #[.int .i64 (f : Nat), .int .i64 (t : Nat), .slice A1 n1 c1] 74)).alloc (.cells #[.int .i64 f2, .int .i64 t2, .slice A2 n2 c2] 74))).alloc (Nat.le_refl _) (.cells zN34 31)
  have b3 := (Below.refl _ (((w.alloc (.cells #[.int .i64 (f : Nat), .int .i64 (t : Nat), .slice A1 n1 c1] 74)).alloc (.cells #[.int .i64 f2, .int .i64 t2, .slice A2 n2 c2] 74)).alloc (.cells zN34 31))).alloc (Nat.le_refl _) (.cells zN34 31)
  have r0 := row_kept (row_kept (row_kept (heap_alloc_new w (.cells #[.int .i64 (f : Nat), .int .i64 (t : Nat), .slice A1 n1 c1] 74)) b1) b2) b3
  have r1 := row_kept (row_kept (heap_alloc_new (w.alloc (.cells #[.int .i64 (f : Nat), .int .i64 (t : Nat), .slice A1 n1 c1] 74)) (.cells #[.int .i64 f2, .int .i64 t2, .slice A2 n2 c2] 74)) b2) b3
  have r2 := row_kept (heap_alloc_new ((w.alloc (.cells #[.int .i64 (f : Nat), .int .i64 (t : Nat), .slice A1 n1 c1] 74)).alloc (.cells #[.int .i64 f2, .int .i64 t2, .slice A2 n2 c2] 74)) (.cells zN34 31)) b3
  have r3 := heap_alloc_new (((w.alloc (.cells #[.int .i64 (f : Nat), .int .i64 (t : Nat), .slice A1 n1 c1] 74)).alloc (.cells #[.int .i64 f2, .int .i64 t2, .slice A2 n2 c2] 74)).alloc (.cells zN34 31)) (.cells zN34 31)
  have hb := ((b0.trans (b1.mono b0.size)).trans (b2.mono (Nat.le_trans b0.size b1.size))).trans (b3.mono (Nat.le_trans (Nat.le_trans b0.size b1.size) b2.size))
  rw [World.size_alloc] at r1 r2 r3
  rw [World.size_alloc] at r2 r3
  rw [World.size_alloc] at r3
  obtain ⟨X, HX⟩ : ∃ V, Hid (((((w.alloc (.cells #[.int .i64 (f : Nat), .int .i64 (t : Nat), .slice A1 n1 c1] 74)).alloc (.cells #[.int .i64 f2, .int .i64 t2, .slice A2 n2 c2] 74)).alloc (.cells zN34 31)).alloc (.cells zN34 31)) = V) := ⟨_, Lib.hid rfl⟩
  have hs : ((((w.alloc (.cells #[.int .i64 (f : Nat), .int .i64 (t : Nat), .slice A1 n1 c1] 74)).alloc (.cells #[.int .i64 f2, .int .i64 t2, .slice A2 n2 c2] 74)).alloc (.cells zN34 31)).alloc (.cells zN34 31)).heap.size = w.heap.size + 4 := by simp
  rw [HX.out] at r0 r1 r2 r3 hb hs
  have HB0 := Lib.hid hb
  have RP0 := Lib.hid r0
  have RQ0 := Lib.hid r1
  have RA0 : Hid (X.heap[(w.heap.size + 1 + 1)]? = some (.cells (ndC zeroN).toArray 31 (0, 0))) := Lib.hid (by rw [zeroN_cells]; exact r2)
  have RB0 : Hid (X.heap[(w.heap.size + 1 + 1 + 1)]? = some (.cells (ndC zeroN).toArray 31 (0, 0))) := Lib.hid (by rw [zeroN_cells]; exact r3)
  have HSX := Lib.hid hs
  clear b0 b1 b2 b3 r0 r1 r2 r3 hb hs
  have HZS := Lib.hid (size34e zeroN_ok)
  have p0 := cell_of_row _ _ 0 _ _ _ RP0.out
  have p1 := cell_of_row _ _ 1 _ _ _ RP0.out
  have p2 := cell_of_row _ _ 2 _ _ _ RP0.out
  have q0 := cell_of_row _ _ 0 _ _ _ RQ0.out
  have q1 := cell_of_row _ _ 1 _ _ _ RQ0.out
  have q2 := cell_of_row _ _ 2 _ _ _ RQ0.out
  go_enter Tryd.func34, Tryd.ntmps34
  go_wp2_with (rw [HX.out])
  have hC0 : CL2 w X (w.heap.size + 1 + 1) true X := ⟨HB0.out, Nat.le_refl _, fun _ _ _ _ => rfl, ⟨_, RA0.out, by simp [ndC_length zeroN_ok], (fun _ => rfl)⟩, ⟨_, RB0.out, by simp [ndC_length zeroN_ok], (fun _ => rfl)⟩⟩
  have HC0 := Lib.hid hC0.drew
  clear hC0
  refine region_flow3 (by kernel_rfl) (by kernel_rfl) (fun i => Nat.beq i 2 || Nat.beq i 3 || Nat.beq i 4 || Nat.beq i 5) (fun i => i) (by kernel_rfl) (fun fx => #[Value.agg #[Value.int IntKind.i64 ↑f, Value.int IntKind.i64 ↑t, Value.slice A1 n1 c1], Value.agg #[Value.int IntKind.i64 f2, Value.int IntKind.i64 t2, Value.slice A2 n2 c2], Value.int IntKind.i64 ↑lo, Value.int IntKind.i64 ↑up, Value.int IntKind.i64 ↑at_, Value.pointer (some { block := w.heap.size, off := 0 }), Value.pointer (some { block := w.heap.size + 1, off := 0 }), undef, undef, undef, Value.pointer (some { block := w.heap.size + 1 + 1, off := 0 }), Value.pointer (some { block := w.heap.size + 1 + 1 + 1, off := 0 }), fx 4, fx 5, undef, undef, undef, undef, undef, undef, undef, undef, undef, undef, undef, undef, Value.int IntKind.i64 ↑at_, Value.pointer (some { block := w.heap.size, off := 2 }), Value.slice A1 n1 c1, Value.int IntKind.i64 ↑n1, Value.bool true, Value.bool true, undef, undef, undef, undef, undef, Value.bool true, fx 0, fx 1, undef, undef, undef, undef, undef, undef, undef, undef, undef, undef, undef, undef, undef, undef, undef, undef, undef, undef, undef, undef, undef, undef, undef, undef, undef, undef, undef, undef, undef, undef, undef, undef, undef, undef, undef, undef, undef, undef, undef, undef, undef, undef, undef, undef, undef, undef, undef, undef, undef, undef, undef, undef, undef, undef, undef, undef, undef, undef, undef, undef, undef, undef, undef, undef, undef, undef, undef, undef, undef, undef, undef, undef, undef, undef, undef, undef, undef, undef, undef, undef, undef, undef, undef, undef, undef, undef, undef, undef, undef, undef, undef, undef, undef, undef, undef, undef, undef, undef, undef, undef, undef, undef, undef, undef, undef, undef, undef, undef, undef]) (fun i => bif Nat.beq i 4 then Value.int IntKind.i64 0 else bif Nat.beq i 5 then Value.bool false else undef) (fun _ _ w' => CL2 w X (w.heap.size + 1 + 1) true w') (fun fi fv _ fw => sCa 0 (w.heap.size + 1 + 1) fi fv fw) HC0.out ?_ ?_
  · refine ⟨?_, ?_, ?_, ?_, ?_, ?_, trivial⟩
    all_goals intro L fx w' hC hi hcl hdn hd
    · obtain ⟨c, hc, hsz, hz⟩ := hC.z0
      rw [hz rfl] at hc
      refine wpList_load_row rfl 31 (.tmp 10) rfl (w.heap.size + 1 + 1) rfl 31 _ (0, 0) _ hc Tryd.underlying31 rfl HZS.out ?_
      rw [show Value.agg (ndC zeroN).toArray = ndV zeroN from rfl]
      clear hd
      go_wp2_with fail
      exact ⟨_, rfl, hC, rfl, fun _ _ _ _ _ h => h⟩
    · obtain ⟨c, hc, hsz, hz⟩ := hC.z1
      rw [hz rfl] at hc
      refine wpList_load_row rfl 31 (.tmp 11) rfl (w.heap.size + 1 + 1 + 1) rfl 31 _ (0, 0) _ hc Tryd.underlying31 rfl HZS.out ?_
      rw [show Value.agg (ndC zeroN).toArray = ndV zeroN from rfl]
      clear hd
      go_wp2_with fail
      exact ⟨_, rfl, hC, rfl, fun _ _ _ _ _ h => h⟩
    · have h0 : fx 0 = ndV zeroN := hd.1 rfl
      obtain ⟨c, hc, hsz, _⟩ := hC.z0
      refine wpList_store_row rfl 31 (.tmp 10) (.tmp 38) rfl (w.heap.size + 1 + 1) (ndC zeroN).toArray rfl h0 31 _ hc (size34e zeroN_ok) (by rw [hsz]; simp [ndC_length zeroN_ok]) (ndC_one _) ?_
      clear hd
      go_wp2_with fail
      obtain ⟨hC2, hr2⟩ := hC.set0 zeroN_ok (Nat.le_add_right _ 2) (fun _ => rfl)
      refine ⟨undef, (by simp only [upd, h0]; rfl), hC2, hr2, fun j v t hj hu h => sCa_set0 hC h hr2⟩
    · have h1 : fx 1 = ndV zeroN := hd.1 rfl
      obtain ⟨c, hc, hsz, _⟩ := hC.z1
      refine wpList_store_row rfl 31 (.tmp 11) (.tmp 39) rfl (w.heap.size + 1 + 1 + 1) (ndC zeroN).toArray rfl h1 31 _ hc (size34e zeroN_ok) (by rw [hsz]; simp [ndC_length zeroN_ok]) (ndC_one _) ?_
      clear hd
      go_wp2_with fail
      obtain ⟨hC2, hr2⟩ := hC.set1 zeroN_ok (Nat.le_add_right _ 2) (fun _ => rfl)
      refine ⟨undef, (by simp only [upd, h1]; rfl), hC2, hr2, fun j v t hj hu h => sCa_set1 hC h hr2⟩
    · clear hd
      go_wp2_with fail
      exact ⟨_, rfl, hC, rfl, fun _ _ _ _ _ h => h⟩
    · clear hd
      go_wp2_with fail
      exact ⟨_, rfl, hC, rfl, fun _ _ _ _ _ h => h⟩
  · intro L fo w' hC hS
    have H2 := Lib.hid (hS 2 (by decide) rfl)
    have H3 := Lib.hid (hS 3 (by decide) rfl)
    have H4 := Lib.hid (hS 4 (by decide) rfl)
    have H5 := Lib.hid (hS 5 (by decide) rfl)
    have h2 : w'.heap[(w.heap.size + 1 + 1)]? = some (.cells (ndC zeroN).toArray 31 (0, 0)) := H2.out
    have h3 : w'.heap[(w.heap.size + 1 + 1 + 1)]? = some (.cells (ndC zeroN).toArray 31 (0, 0)) := H3.out
    have h4 : fo 4 = .int .i64 1 := H4.out
    have h5 : fo 5 = .bool false := H5.out
    have hl0 := run_loadVar_row (P := Tryd.prog) w' (w.heap.size + 1 + 1) 31 31 (ndC zeroN).toArray (0, 0) _ h2 Tryd.underlying31 rfl (size34e zeroN_ok)
    have hl1 := run_loadVar_row (P := Tryd.prog) w' (w.heap.size + 1 + 1 + 1) 31 31 (ndC zeroN).toArray (0, 0) _ h3 Tryd.underlying31 rfl (size34e zeroN_ok)
    have hbel := hC.bel
    rw [h4, h5]
    clear hS hC
    go_wp2_with fail
    refine bodyPost_ret (v := .tuple #[.agg (ndC zeroN).toArray, .agg (ndC zeroN).toArray, .int .i64 1, .bool false]) ?_ rfl ⟨by rw [HR.out]; rfl, hbel⟩
    simp [results, Tryd.results34, asAddr, hl0, hl1]
set_option maxHeartbeats 16000000 in
theorem climb_a2 (f t lo up at_ : Nat) (f2 t2 : Int) (A1 A2 : Option Addr) (n1 c1 n2 c2 : Nat) (P Q : List Nd) (w : World) (hP : Hid (InN w A1 n1 c1 P)) (hQ : Hid (InN w A2 n2 c2 Q)) (hT : Hid (Tabs w)) (hft : f < t) (hlt : lo < up) (ha : at_ ≤ lo) (hh : up ≤ 4096) (hn1 : n1 ≤ 100000) (hn2 : n2 ≤ 100000) (h1 : ¬ n1 ≤ at_) (h2 : n2 ≤ at_) :
    Calls Tryd.prog 34 #[.agg #[.int .i64 (f : Nat), .int .i64 (t : Nat), .slice A1 n1 c1], .agg #[.int .i64 f2, .int .i64 t2, .slice A2 n2 c2], .int .i64 (lo : Nat), .int .i64 (up : Nat), .int .i64 (at_ : Nat)] w fun e w' => e = .returned (.tuple #[ndV (cl f t lo up (P.drop at_) (Q.drop at_)).1, ndV (cl f t lo up (P.drop at_) (Q.drop at_)).2.1, .int .i64 (cl f t lo up (P.drop at_) (Q.drop at_)).2.2.1, .bool (cl f t lo up (P.drop at_) (Q.drop at_)).2.2.2]) ∧ Below w.heap.size w w' := by
  have HR : Hid (cl f t lo up (P.drop at_) (Q.drop at_) = (zeroN, zeroN, 1, false)) := Lib.hid (by
    have hn : P.drop at_ = [] ∨ Q.drop at_ = [] := .inr (List.drop_eq_nil_of_le (by rw [hQ.out.len]; exact h2))
    rw [cl_none hlt hn, cl1_nil hn])
  have d1 : decide ((n1 : Int) ≤ (at_ : Int)) = false := decide_eq_false (by omega)
  have d1n : decide (n1 ≤ at_) = false := decide_eq_false h1
  have d2 : decide ((n2 : Int) ≤ (at_ : Int)) = true := decide_eq_true (by omega)
  have d2n : decide (n2 ≤ at_) = true := decide_eq_true h2
  have b0 := (Below.refl _ w).alloc (Nat.le_refl _) (.cells #[.int .i64 (f : Nat), .int .i64 (t : Nat), .slice A1 n1 c1] 74)
  have b1 := (Below.refl _ (w.alloc (.cells #[.int .i64 (f : Nat), .int .i64 (t : Nat), .slice A1 n1 c1] 74))).alloc (Nat.le_refl _) (.cells #[.int .i64 f2, .int .i64 t2, .slice A2 n2 c2] 74)
  have b2 := (Below.refl _ ((w.alloc (.cells #[.int .i64 (f : Nat), .int .i64 (t : Nat), .slice A1 n1 c1] 74)).alloc (.cells #[.int .i64 f2, .int .i64 t2, .slice A2 n2 c2] 74))).alloc (Nat.le_refl _) (.cells zN34 31)
  have b3 := (Below.refl _ (((w.alloc (.cells #[.int .i64 (f : Nat), .int .i64 (t : Nat), .slice A1 n1 c1] 74)).alloc (.cells #[.int .i64 f2, .int .i64 t2, .slice A2 n2 c2] 74)).alloc (.cells zN34 31))).alloc (Nat.le_refl _) (.cells zN34 31)
  have r0 := row_kept (row_kept (row_kept (heap_alloc_new w (.cells #[.int .i64 (f : Nat), .int .i64 (t : Nat), .slice A1 n1 c1] 74)) b1) b2) b3
  have r1 := row_kept (row_kept (heap_alloc_new (w.alloc (.cells #[.int .i64 (f : Nat), .int .i64 (t : Nat), .slice A1 n1 c1] 74)) (.cells #[.int .i64 f2, .int .i64 t2, .slice A2 n2 c2] 74)) b2) b3
  have r2 := row_kept (heap_alloc_new ((w.alloc (.cells #[.int .i64 (f : Nat), .int .i64 (t : Nat), .slice A1 n1 c1] 74)).alloc (.cells #[.int .i64 f2, .int .i64 t2, .slice A2 n2 c2] 74)) (.cells zN34 31)) b3
  have r3 := heap_alloc_new (((w.alloc (.cells #[.int .i64 (f : Nat), .int .i64 (t : Nat), .slice A1 n1 c1] 74)).alloc (.cells #[.int .i64 f2, .int .i64 t2, .slice A2 n2 c2] 74)).alloc (.cells zN34 31)) (.cells zN34 31)
  have hb := ((b0.trans (b1.mono b0.size)).trans (b2.mono (Nat.le_trans b0.size b1.size))).trans (b3.mono (Nat.le_trans (Nat.le_trans b0.size b1.size) b2.size))
  rw [World.size_alloc] at r1 r2 r3
  rw [World.size_alloc] at r2 r3
  rw [World.size_alloc] at r3
  obtain ⟨X, HX⟩ : ∃ V, Hid (((((w.alloc (.cells #[.int .i64 (f : Nat), .int .i64 (t : Nat), .slice A1 n1 c1] 74)).alloc (.cells #[.int .i64 f2, .int .i64 t2, .slice A2 n2 c2] 74)).alloc (.cells zN34 31)).alloc (.cells zN34 31)) = V) := ⟨_, Lib.hid rfl⟩
  have hs : ((((w.alloc (.cells #[.int .i64 (f : Nat), .int .i64 (t : Nat), .slice A1 n1 c1] 74)).alloc (.cells #[.int .i64 f2, .int .i64 t2, .slice A2 n2 c2] 74)).alloc (.cells zN34 31)).alloc (.cells zN34 31)).heap.size = w.heap.size + 4 := by simp
  rw [HX.out] at r0 r1 r2 r3 hb hs
  have HB0 := Lib.hid hb
  have RP0 := Lib.hid r0
  have RQ0 := Lib.hid r1
  have RA0 : Hid (X.heap[(w.heap.size + 1 + 1)]? = some (.cells (ndC zeroN).toArray 31 (0, 0))) := Lib.hid (by rw [zeroN_cells]; exact r2)
  have RB0 : Hid (X.heap[(w.heap.size + 1 + 1 + 1)]? = some (.cells (ndC zeroN).toArray 31 (0, 0))) := Lib.hid (by rw [zeroN_cells]; exact r3)
  have HSX := Lib.hid hs
  clear b0 b1 b2 b3 r0 r1 r2 r3 hb hs
  have HZS := Lib.hid (size34e zeroN_ok)
  have p0 := cell_of_row _ _ 0 _ _ _ RP0.out
  have p1 := cell_of_row _ _ 1 _ _ _ RP0.out
  have p2 := cell_of_row _ _ 2 _ _ _ RP0.out
  have q0 := cell_of_row _ _ 0 _ _ _ RQ0.out
  have q1 := cell_of_row _ _ 1 _ _ _ RQ0.out
  have q2 := cell_of_row _ _ 2 _ _ _ RQ0.out
  go_enter Tryd.func34, Tryd.ntmps34
  go_wp2_with (rw [HX.out])
  have hC0 : CL2 w X (w.heap.size + 1 + 1) true X := ⟨HB0.out, Nat.le_refl _, fun _ _ _ _ => rfl, ⟨_, RA0.out, by simp [ndC_length zeroN_ok], (fun _ => rfl)⟩, ⟨_, RB0.out, by simp [ndC_length zeroN_ok], (fun _ => rfl)⟩⟩
  have HC0 := Lib.hid hC0.drew
  clear hC0
  refine region_flow3 (by kernel_rfl) (by kernel_rfl) (fun i => Nat.beq i 2 || Nat.beq i 3 || Nat.beq i 4 || Nat.beq i 5) (fun i => i) (by kernel_rfl) (fun fx => #[Value.agg #[Value.int IntKind.i64 ↑f, Value.int IntKind.i64 ↑t, Value.slice A1 n1 c1], Value.agg #[Value.int IntKind.i64 f2, Value.int IntKind.i64 t2, Value.slice A2 n2 c2], Value.int IntKind.i64 ↑lo, Value.int IntKind.i64 ↑up, Value.int IntKind.i64 ↑at_, Value.pointer (some { block := w.heap.size, off := 0 }), Value.pointer (some { block := w.heap.size + 1, off := 0 }), undef, undef, undef, Value.pointer (some { block := w.heap.size + 1 + 1, off := 0 }), Value.pointer (some { block := w.heap.size + 1 + 1 + 1, off := 0 }), fx 4, fx 5, undef, undef, undef, undef, undef, undef, undef, undef, undef, undef, undef, undef, Value.int IntKind.i64 ↑at_, Value.pointer (some { block := w.heap.size, off := 2 }), Value.slice A1 n1 c1, Value.int IntKind.i64 ↑n1, Value.bool false, Value.bool false, Value.int IntKind.i64 ↑at_, Value.pointer (some { block := w.heap.size + 1, off := 2 }), Value.slice A2 n2 c2, Value.int IntKind.i64 ↑n2, Value.bool true, Value.bool true, fx 0, fx 1, undef, undef, undef, undef, undef, undef, undef, undef, undef, undef, undef, undef, undef, undef, undef, undef, undef, undef, undef, undef, undef, undef, undef, undef, undef, undef, undef, undef, undef, undef, undef, undef, undef, undef, undef, undef, undef, undef, undef, undef, undef, undef, undef, undef, undef, undef, undef, undef, undef, undef, undef, undef, undef, undef, undef, undef, undef, undef, undef, undef, undef, undef, undef, undef, undef, undef, undef, undef, undef, undef, undef, undef, undef, undef, undef, undef, undef, undef, undef, undef, undef, undef, undef, undef, undef, undef, undef, undef, undef, undef, undef, undef, undef, undef, undef, undef, undef, undef, undef, undef, undef, undef, undef, undef, undef, undef, undef, undef, undef]) (fun i => bif Nat.beq i 4 then Value.int IntKind.i64 0 else bif Nat.beq i 5 then Value.bool false else undef) (fun _ _ w' => CL2 w X (w.heap.size + 1 + 1) true w') (fun fi fv _ fw => sCa 0 (w.heap.size + 1 + 1) fi fv fw) HC0.out ?_ ?_
  · refine ⟨?_, ?_, ?_, ?_, ?_, ?_, trivial⟩
    all_goals intro L fx w' hC hi hcl hdn hd
    · obtain ⟨c, hc, hsz, hz⟩ := hC.z0
      rw [hz rfl] at hc
      refine wpList_load_row rfl 31 (.tmp 10) rfl (w.heap.size + 1 + 1) rfl 31 _ (0, 0) _ hc Tryd.underlying31 rfl HZS.out ?_
      rw [show Value.agg (ndC zeroN).toArray = ndV zeroN from rfl]
      clear hd
      go_wp2_with fail
      exact ⟨_, rfl, hC, rfl, fun _ _ _ _ _ h => h⟩
    · obtain ⟨c, hc, hsz, hz⟩ := hC.z1
      rw [hz rfl] at hc
      refine wpList_load_row rfl 31 (.tmp 11) rfl (w.heap.size + 1 + 1 + 1) rfl 31 _ (0, 0) _ hc Tryd.underlying31 rfl HZS.out ?_
      rw [show Value.agg (ndC zeroN).toArray = ndV zeroN from rfl]
      clear hd
      go_wp2_with fail
      exact ⟨_, rfl, hC, rfl, fun _ _ _ _ _ h => h⟩
    · have h0 : fx 0 = ndV zeroN := hd.1 rfl
      obtain ⟨c, hc, hsz, _⟩ := hC.z0
      refine wpList_store_row rfl 31 (.tmp 10) (.tmp 38) rfl (w.heap.size + 1 + 1) (ndC zeroN).toArray rfl h0 31 _ hc (size34e zeroN_ok) (by rw [hsz]; simp [ndC_length zeroN_ok]) (ndC_one _) ?_
      clear hd
      go_wp2_with fail
      obtain ⟨hC2, hr2⟩ := hC.set0 zeroN_ok (Nat.le_add_right _ 2) (fun _ => rfl)
      refine ⟨undef, (by simp only [upd, h0]; rfl), hC2, hr2, fun j v t hj hu h => sCa_set0 hC h hr2⟩
    · have h1 : fx 1 = ndV zeroN := hd.1 rfl
      obtain ⟨c, hc, hsz, _⟩ := hC.z1
      refine wpList_store_row rfl 31 (.tmp 11) (.tmp 39) rfl (w.heap.size + 1 + 1 + 1) (ndC zeroN).toArray rfl h1 31 _ hc (size34e zeroN_ok) (by rw [hsz]; simp [ndC_length zeroN_ok]) (ndC_one _) ?_
      clear hd
      go_wp2_with fail
      obtain ⟨hC2, hr2⟩ := hC.set1 zeroN_ok (Nat.le_add_right _ 2) (fun _ => rfl)
      refine ⟨undef, (by simp only [upd, h1]; rfl), hC2, hr2, fun j v t hj hu h => sCa_set1 hC h hr2⟩
    · clear hd
      go_wp2_with fail
      exact ⟨_, rfl, hC, rfl, fun _ _ _ _ _ h => h⟩
    · clear hd
      go_wp2_with fail
      exact ⟨_, rfl, hC, rfl, fun _ _ _ _ _ h => h⟩
  · intro L fo w' hC hS
    have H2 := Lib.hid (hS 2 (by decide) rfl)
    have H3 := Lib.hid (hS 3 (by decide) rfl)
    have H4 := Lib.hid (hS 4 (by decide) rfl)
    have H5 := Lib.hid (hS 5 (by decide) rfl)
    have h2 : w'.heap[(w.heap.size + 1 + 1)]? = some (.cells (ndC zeroN).toArray 31 (0, 0)) := H2.out
    have h3 : w'.heap[(w.heap.size + 1 + 1 + 1)]? = some (.cells (ndC zeroN).toArray 31 (0, 0)) := H3.out
    have h4 : fo 4 = .int .i64 1 := H4.out
    have h5 : fo 5 = .bool false := H5.out
    have hl0 := run_loadVar_row (P := Tryd.prog) w' (w.heap.size + 1 + 1) 31 31 (ndC zeroN).toArray (0, 0) _ h2 Tryd.underlying31 rfl (size34e zeroN_ok)
    have hl1 := run_loadVar_row (P := Tryd.prog) w' (w.heap.size + 1 + 1 + 1) 31 31 (ndC zeroN).toArray (0, 0) _ h3 Tryd.underlying31 rfl (size34e zeroN_ok)
    have hbel := hC.bel
    rw [h4, h5]
    clear hS hC
    go_wp2_with fail
    refine bodyPost_ret (v := .tuple #[.agg (ndC zeroN).toArray, .agg (ndC zeroN).toArray, .int .i64 1, .bool false]) ?_ rfl ⟨by rw [HR.out]; rfl, hbel⟩
    simp [results, Tryd.results34, asAddr, hl0, hl1]
end Go.Proofs.YtmfmgeapecapiaaDoor
