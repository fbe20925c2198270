/- sizar/tree.Climb: the walk. -/
import Derived.Test.YtgcmbiegbclhmaaDoorTreeClimb
namespace Go.Proofs.YtgcmbiegbclhmaaDoor
open Go.RowKit Go.Shelf SzSha SzTree
set_option linter.unusedVariables false
set_option maxRecDepth 100000
attribute [local go_sem] Oper.semAt_some
theorem climb_results {tmps : Array Value} {W : World} {b : Nat} {x : Nd} {e : Int} (h8 : tmps.getD 8 undef = .pointer (some ⟨b, 0, none⟩)) (h9 : tmps.getD 9 undef = .int .i64 e) (hx : NdOk x) (hB : W.heap[b]? = some (.cells (ndC x).toArray 26 (0, 0))) :
    (results Tryd.f18 tmps).run Tryd.prog W = .ok (.tuple #[ndV x, .int .i64 e]) W := by
  have h8' : tmps[8]?.getD undef = .pointer (some ⟨b, 0, none⟩) := by simpa using h8
  have h9' : tmps[9]?.getD undef = .int .i64 e := by simpa using h9
  have hl := run_loadVar_row (P := Tryd.prog) W b 26 26 (ndC x).toArray (0, 0) _ hB Tryd.underlying26 rfl (by rw [size34 hx]; simp)
  unfold ndV
  simp [results, Tryd.results18, asAddr, h8', h9', hl]
theorem climb_leave {tmps : Array Value} {W w : World} {D b : Nat} {x y : Nd} {e f : Int} (h8 : tmps.getD 8 undef = .pointer (some ⟨b, 0, none⟩)) (h9 : tmps.getD 9 undef = .int .i64 e) (hx : NdOk x) (hrow : W.heap[b]? = some (.cells (ndC x).toArray 26 (0, 0))) (hD : W.heap[D]? = some (.deferred (some []))) (hne : b ≠ D) (hB : Below w.heap.size w W) (hs : w.heap.size ≤ D) (hy : y = x) (hf : f = e) :
    LeavesInM Fence.wide 6 Tryd.prog Tryd.f18 tmps (fun e' w' => e' = .returned (.tuple #[ndV y, .int .i64 f]) ∧ Below w.heap.size w w') [{ target := .collected D, args := #[] }] .returning W := by
  subst hy hf
  refine ⟨by simp, .inl ⟨_, _, rfl, run_takeDeferred hD, ?_⟩⟩
  refine ⟨_, climb_results h8 h9 hx ((World.putObj_heap_other hne).trans hrow), rfl, hB.grown (grownBy_putObj' W D (.deferred none)) hB.size (fun k e => by cases e; exact hs)⟩
theorem OwnL.ne {W : World} {base b : Nat} {v : Value} {ls : List Bool} {cs : Array Value} {t : TypeId} (h : OwnL W base v ls) (hb : W.heap[b]? = some (.cells cs t (0, 0))) (ht : t ≠ 4) : some b ≠ v.ownBlock := fun e => by
  obtain ⟨_, _, cur, hc⟩ := h.block b e.symm
  rw [hb] at hc; cases hc; exact ht rfl
theorem row_step {W w2 : World} {base b B : Nat} {v u : Value} {ls : List Bool} {cs : Array Value} {t : TypeId} {tmp : Obj} (h : OwnL W base v ls) (hb : W.heap[b]? = some (.cells cs t (0, 0))) (ht : t ≠ 4) (hg : (W.alloc tmp).grownBy w2 v.ownBlock) (hB : b ≠ B) : (w2.setCell ⟨B, 0, none⟩ u).heap[b]? = some (.cells cs t (0, 0)) := by
  have hlt := (Array.getElem?_eq_some_iff.1 hb).1
  rw [Below.heap_setCell w2 ⟨B, 0, none⟩ u b hB, hg.block b (by rw [World.size_alloc]; omega) (h.ne hb ht), Below.heap_alloc W tmp b hlt]
  exact hb
theorem size34' {n : Nd} (h : NdOk n) : (Tryd.prog.info? 26).map (·.size) = some (ndC n).toArray.size := by rw [size34 h]; simp
theorem row_kept {w w' : World} {b : Nat} {cs : Array Value} {t : TypeId} (h : w.heap[b]? = some (.cells cs t (0, 0))) (hb : Below w.heap.size w w') : w'.heap[b]? = some (.cells cs t (0, 0)) := (hb.block b (Array.getElem?_eq_some_iff.1 h).1).trans h
set_option maxHeartbeats 8000000 in
theorem climb_in (nd : Nd) (i many : Int) (ps : List Nd) (A : Option Addr) (n c : Nat) (w : World) (hnd : NdOk nd) (hi : -9223372036854775808 ≤ i ∧ i ≤ 9223372036854775807) (hmany : -9223372036854775808 ≤ many ∧ many ≤ 9223372036854775807) (hn : n ≤ 9223372036854775807) (h : Hid (InN w A n c ps)) (hT : Hid (Tabs w)) :
    CallsIn Fence.wide 6 Tryd.prog 18 #[ndV nd, .int .i64 i, .int .i64 many, .slice A n c] w fun e w' => e = .returned (.tuple #[ndV (climbR nd i many ps), .int .i64 (climbE nd i many ps)]) ∧ Below w.heap.size w w' := by
  have HNE := Lib.hid (show ps.length = n from h.out.len)
  have HND := Lib.hid hnd
  have HSN := Lib.hid (size34' hnd)
  have HSZ := Lib.hid (size34' zeroN_ok)
  have hb0 := ((Below.refl _ w).alloc (Nat.le_refl _) (.cells (ndC nd).toArray 26)).alloc (by simp) (.cells (ndC zeroN).toArray 26)
  have hr0 := (Below.heap_alloc (w.alloc (.cells (ndC nd).toArray 26)) (.cells (ndC zeroN).toArray 26) w.heap.size (by simp)).trans (heap_alloc_new w (.cells (ndC nd).toArray 26))
  have hr1 := heap_alloc_new (w.alloc (.cells (ndC nd).toArray 26)) (.cells (ndC zeroN).toArray 26)
  rw [World.size_alloc] at hr1
  have hsz : ((w.alloc (.cells (ndC nd).toArray 26)).alloc (.cells (ndC zeroN).toArray 26)).heap.size = w.heap.size + 1 + 1 := by simp
  rw [show ndV nd = .agg (ndC nd).toArray from rfl]
  refine callsIn_of_wp_marks Tryd.func18 rfl trivial ?_ rfl
  simp only [Tryd.ntmps18, List.size_toArray, List.length_cons, List.length_nil, Nat.reduceAdd, Nat.reduceSub, Array.replicate_succ, Array.replicate_zero, List.push_toArray, List.append_toArray, List.nil_append, List.cons_append]
  rw [wpIn_wide]
  obtain ⟨W1, HW1⟩ : ∃ W1, Hid ((w.alloc (.cells (ndC nd).toArray 26)).alloc (.cells (ndC zeroN).toArray 26) = W1) := ⟨_, Lib.hid rfl⟩
  rw [HW1.out] at hb0 hr0 hr1 hsz
  have HB1 := Lib.hid hb0
  have R0 := Lib.hid hr0
  have R1 := Lib.hid hr1
  have HS1 := Lib.hid hsz
  have HIN1 := Lib.hid (h.out.below hb0)
  have R1z := Lib.hid hr1
  rw [zeroN_cells] at HW1
  rw [← HW1.out] at R1z
  clear hb0 hr0 hr1 hsz hnd
  by_cases harg : many < 1 ∨ 4096 < many ∨ i < 0 ∨ many ≤ i
  · have HE := Lib.hid (climbR_arg (n := nd) (i := i) (many := many) (ps := ps) (by unfold climbArg; omega))
    by_cases c1 : many < 1
    · have d1 : decide (many < 1) = true := decide_eq_true c1
      go_wp2_with (first | (refine wpList_load_row rfl 26 (.tmp 8) rfl (w.heap.size + 1) rfl 26 _ (0, 0) _ R1z.out Tryd.underlying26 rfl HSZ.out ?_) | (refine wpList_store_row rfl 26 (.tmp 8) (.tmp 29) rfl (w.heap.size + 1) (ndC zeroN).toArray rfl rfl 26 (ndC zeroN).toArray R1z.out HSZ.out rfl (ndC_one zeroN) ?_))
      rw [← zeroN_cells]
      rw [← zeroN_cells] at HW1
      simp only [HW1.out]
      exact ⟨_, climb_results (x := zeroN) rfl rfl zeroN_ok (setRow_heap _ _ _ _ _ _ R1.out), by rw [HE.out.1, HE.out.2], below_setRow HB1.out (Nat.le_succ _) _⟩
    · have d1 : decide (many < 1) = false := decide_eq_false c1
      by_cases c2 : 4096 < many
      · have d2 : decide (4096 < many) = true := decide_eq_true c2
        go_wp2_with (first | (refine wpList_load_row rfl 26 (.tmp 8) rfl (w.heap.size + 1) rfl 26 _ (0, 0) _ R1z.out Tryd.underlying26 rfl HSZ.out ?_) | (refine wpList_store_row rfl 26 (.tmp 8) (.tmp 29) rfl (w.heap.size + 1) (ndC zeroN).toArray rfl rfl 26 (ndC zeroN).toArray R1z.out HSZ.out rfl (ndC_one zeroN) ?_))
        rw [← zeroN_cells]
        rw [← zeroN_cells] at HW1
        simp only [HW1.out]
        exact ⟨_, climb_results (x := zeroN) rfl rfl zeroN_ok (setRow_heap _ _ _ _ _ _ R1.out), by rw [HE.out.1, HE.out.2], below_setRow HB1.out (Nat.le_succ _) _⟩
      · have d2 : decide (4096 < many) = false := decide_eq_false c2
        by_cases c3 : i < 0
        · have d3 : decide (i < 0) = true := decide_eq_true c3
          go_wp2_with (first | (refine wpList_load_row rfl 26 (.tmp 8) rfl (w.heap.size + 1) rfl 26 _ (0, 0) _ R1z.out Tryd.underlying26 rfl HSZ.out ?_) | (refine wpList_store_row rfl 26 (.tmp 8) (.tmp 29) rfl (w.heap.size + 1) (ndC zeroN).toArray rfl rfl 26 (ndC zeroN).toArray R1z.out HSZ.out rfl (ndC_one zeroN) ?_))
          rw [← zeroN_cells]
          rw [← zeroN_cells] at HW1
          simp only [HW1.out]
          exact ⟨_, climb_results (x := zeroN) rfl rfl zeroN_ok (setRow_heap _ _ _ _ _ _ R1.out), by rw [HE.out.1, HE.out.2], below_setRow HB1.out (Nat.le_succ _) _⟩
        · have d3 : decide (i < 0) = false := decide_eq_false c3
          have d4 : decide (many ≤ i) = true := decide_eq_true (by omega)
          go_wp2_with (first | (refine wpList_load_row rfl 26 (.tmp 8) rfl (w.heap.size + 1) rfl 26 _ (0, 0) _ R1z.out Tryd.underlying26 rfl HSZ.out ?_) | (refine wpList_store_row rfl 26 (.tmp 8) (.tmp 29) rfl (w.heap.size + 1) (ndC zeroN).toArray rfl rfl 26 (ndC zeroN).toArray R1z.out HSZ.out rfl (ndC_one zeroN) ?_))
          rw [← zeroN_cells]
          rw [← zeroN_cells] at HW1
          simp only [HW1.out]
          exact ⟨_, climb_results (x := zeroN) rfl rfl zeroN_ok (setRow_heap _ _ _ _ _ _ R1.out), by rw [HE.out.1, HE.out.2], below_setRow HB1.out (Nat.le_succ _) _⟩
  · obtain ⟨k, rfl⟩ : ∃ k : Nat, i = (k : Int) := ⟨i.toNat, by omega⟩
    obtain ⟨m, rfl⟩ : ∃ m : Nat, many = (m : Int) := ⟨many.toNat, by omega⟩
    have hkm : k < m := by omega
    have hm4 : m ≤ 4096 := by omega
    have d1 : decide ((m : Int) < 1) = false := decide_eq_false (by omega)
    have d2 : decide (4096 < (m : Int)) = false := decide_eq_false (by omega)
    have d3 : decide ((k : Int) < 0) = false := decide_eq_false (by omega)
    have d4 : decide ((m : Int) ≤ (k : Int)) = false := decide_eq_false (by omega)
    have d5 : decide (m ≤ k) = false := decide_eq_false (by omega)
    have HNA : Hid (¬ climbArg (k : Int) (m : Int) ps.length ↔ n = (way k m).length) := Lib.hid (by unfold climbArg; rw [HNE.out]; simp only [Int.toNat_natCast]; omega)
    clear harg hi hmany
    go_wp2_with fail
    rw [← zeroN_cells]
    rw [← zeroN_cells] at HW1
    simp only [HW1.out]
    refine (way_any k m _).mono ?_
    rintro e W4 ⟨rfl, rfl⟩
    have b2 := Boxed.new W1 71 (.slice none 0 0)
    rw [HS1.out] at b2
    have hbb := (Below.refl _ W1).alloc (Nat.le_refl _) (.cells #[.slice none 0 0] 71)
    have hs3 : (W1.alloc (.cells #[.slice none 0 0] 71)).heap.size = w.heap.size + 1 + 1 + 1 := by rw [World.size_alloc, HS1.out]
    have q0 := row_kept R0.out hbb
    have q1 := row_kept R1.out hbb
    have hb3 := HB1.out.trans (hbb.mono HB1.out.size)
    clear R0 R1 R1z HB1 HIN1 hbb HS1 HW1
    generalize W1.alloc (.cells #[.slice none 0 0] 71) = W3 at *
    have ca := Boxed.new W3 3 (.int .i64 (k : Nat))
    have cn := Boxed.new (W3.alloc (.cells #[.int .i64 (k : Nat)] 3)) 3 (.int .i64 (m : Nat))
    have ca2 := ca.alloc (.cells #[.int .i64 (m : Nat)] 3)
    simp only [World.size_alloc] at cn
    have hb4 := ((Below.refl _ W3).alloc (Nat.le_refl _) (.cells #[.int .i64 (k : Nat)] 3)).alloc (by simp) (.cells #[.int .i64 (m : Nat)] 3)
    have HB4 := Lib.hid (hb3.trans (hb4.mono hb3.size))
    have R04 := Lib.hid (row_kept q0 hb4)
    have R14 := Lib.hid (row_kept q1 hb4)
    have C24 := Lib.hid (show Boxed ((W3.alloc (.cells #[.int .i64 (k : Nat)] 3)).alloc (.cells #[.int .i64 (m : Nat)] 3)) _ _ _ from (hb4.block _ b2.lt).trans b2)
    have CA := Lib.hid ca2
    have CN := Lib.hid cn
    rw [hs3] at CA CN
    rw [hs3]
    have HS4 : Hid (((W3.alloc (.cells #[.int .i64 (k : Nat)] 3)).alloc (.cells #[.int .i64 (m : Nat)] 3)).heap.size = w.heap.size + 1 + 1 + 1 + 1 + 1) := Lib.hid (by rw [World.size_alloc, World.size_alloc, hs3])
    clear ca cn ca2 hb4 hb3 q0 q1 b2 hs3
    generalize (W3.alloc (.cells #[.int .i64 (k : Nat)] 3)).alloc (.cells #[.int .i64 (m : Nat)] 3) = W4 at *
    go_wp2_with fail
    refine (wpIn_wide (n := 6)).1 ?_
    refine wpIn_rangeFunc_ownF rfl (by omega) (gf := 53) (lb := #[.pointer (some ⟨w.heap.size + 1 + 1 + 1 + 1, 0, none⟩), .pointer (some ⟨w.heap.size + 1 + 1 + 1, 0, none⟩)]) rfl trivial (enters_of Tryd.func53 (by kernel_rfl) rfl)
      (way1_stops (w.heap.size + 1 + 1 + 1) (w.heap.size + 1 + 1 + 1 + 1) k m hm4 hkm W4 CA.out.lt CN.out.lt CA.out.cell CN.out.cell) (fun h h' => h'.trans h)
      (fun W l o o' hl h h1 h2 => (belowK_b (Nat.le_refl _) W l o o' hl h h1 h2).cell (p := ⟨w.heap.size + 1 + 1 + 1, 0, none⟩) CA.out.lt) (Below.refl _ _) (fun _ => rfl)
      (fun pre W => ((W.heap[w.heap.size]? = some (.cells (ndC nd).toArray 26 (0, 0)) ∧ W.heap[w.heap.size + 1]? = some (.cells (ndC zeroN).toArray 26 (0, 0))) ∧ (∃ v, Boxed W (w.heap.size + 1 + 1) 71 v ∧ OwnL W w.heap.size v (pre.map fun x : SpT m => x.1.1)) ∧ Boxed W (w.heap.size + 1 + 1 + 1) 3 (.int .i64 (k : Nat))) ∧ Below w.heap.size w W)
      (fun _ _ _ => False)
      (OwnFrom.and (OwnFrom.and (OwnFrom.and (Own.from (row_own _ _ _) _) (Own.from (row_own _ _ _) _)) (OwnFrom.and (Own.from (ownL_own _ _ _ _) _) (Own.from (boxed_own _ _ _) _))) (ownFrom_below (Nat.le_refl _) HB4.out.size))
      (fun _ _ _ _ _ hs _ _ => hs)
      ⟨⟨⟨R04.out, R14.out⟩, ⟨_, C24.out, OwnL.nil _ _⟩, CA.out⟩, HB4.out⟩
      (fun x => { tmps := #[.agg (ndC nd).toArray, .int .i64 (k : Nat), .int .i64 (m : Nat), .slice A n c, .pointer (some ⟨w.heap.size, 0, none⟩), undef, undef, undef, .pointer (some ⟨w.heap.size + 1, 0, none⟩), .int .i64 0, .pointer (some ⟨w.heap.size + 1 + 1, 0, none⟩), .bool x.1.1, undef, undef, .int .i64 (m : Nat), .bool false, .bool false, .int .i64 (m : Nat), .bool false, .bool false, .bool false, .int .i64 (k : Nat), .bool false, .bool false, .bool false, .int .i64 (k : Nat), .int .i64 (m : Nat), .bool false, .bool false, undef, .int .i64 (k : Nat), .int .i64 (m : Nat), .func (.func 53) #[] #[.pointer (some ⟨w.heap.size + 1 + 1 + 1 + 1, 0, none⟩), .pointer (some ⟨w.heap.size + 1 + 1 + 1, 0, none⟩)], .bool x.1.1, spV x.1, undef, undef, undef, undef, undef, undef, undef, undef, undef, undef, undef, undef, undef, undef, undef, undef, undef, undef, undef, undef, undef, undef, undef, undef, undef, undef, undef, undef, undef, undef, undef, undef, undef, undef, undef, undef, undef, undef, undef, undef, undef, undef, undef, undef, undef, undef], defers := [] }) ?assign ?body ?done ?stop
    case assign =>
      rintro l ⟨⟨rt, fr, to⟩, hx1, hx2⟩ W K hK
      simp only [spE]
      gi_wp2_with fail
      exact hK
    case body =>
      rintro l pre ⟨⟨rt, fr, to⟩, hx1, hx2⟩ W ⟨⟨⟨q0, q1⟩, ⟨v, b2, hO⟩, bA⟩, hB⟩ hlen
      have HOW := Lib.hid hO
      have HA6 := Lib.hid (hO.below ((Below.refl _ W).alloc (Nat.le_refl _) (.cells #[.bool rt] 4)))
      have HSW : Hid (w.heap.size ≤ (W.alloc (.cells #[.bool rt] 4)).heap.size) := Lib.hid (by rw [World.size_alloc]; have := hB.size; omega)
      have HRF := Lib.hid (heap_alloc_new W (.cells #[.bool rt] 4))
      have HNL : Hid ((pre.map fun x : SpT m => x.1.1).length ≤ 100000) := Lib.hid (by rw [List.length_map]; omega)
      have HNX : Hid (((pre ++ ([⟨(rt, fr, to), ⟨hx1, hx2⟩⟩] : List (SpT m))).map fun x : SpT m => x.1.1) = (pre.map fun x : SpT m => x.1.1) ++ [rt]) := Lib.hid (by rw [List.map_append]; rfl)
      have n1 := b2.cell
      have HBX := Lib.hid hB
      have HB2 := Lib.hid b2
      have Q0 := Lib.hid q0
      have Q1 := Lib.hid q1
      have QA := Lib.hid bA
      obtain ⟨A', n', c', rfl⟩ := hO.form
      obtain ⟨bs, HBS⟩ : ∃ bs, Hid ((pre.map fun x : SpT m => x.1.1) = bs) := ⟨_, Lib.hid rfl⟩
      rw [HBS.out] at HOW HA6 HNL HNX
      clear hB b2 q0 q1 bA hO
      gi_wp2_with (refine wpListIn_append_bool rfl (.tmp 35) (.tmp 37) rfl w.heap.size _ bs rt rfl HA6 W.heap.size rfl HRF HNL.out HSW.out ?_; intro v2 w2 HO2 HG2; obtain ⟨a1, a2, a3, a4, a5⟩ := Boxed.appended HB2.out (by decide) HOW.out HBX.out.size (by omega) HO2.out HG2.out; have z1 := a1.cell; have z2 := a1.frozen; obtain ⟨A2, n2, c2, rfl⟩ := HO2.out.form)
      refine ⟨a4, ?_, ⟨⟨row_step HOW.out Q0.out (by decide) HG2.out (by omega), row_step HOW.out Q1.out (by decide) HG2.out (by omega)⟩, ⟨_, a2, ?_⟩, row_step HOW.out QA.out (by decide) HG2.out (by omega)⟩, HBX.out.trans (a5.mono (Nat.le_refl _))⟩
      · have hz := row_step (u := .slice A2 n2 c2) (B := w.heap.size + 1 + 1) HOW.out QA.out (by decide) HG2.out (by omega)
        exact (Boxed.cell hz).trans (Boxed.cell QA.out).symm
      · rw [HNX.out]; exact a3
    case done =>
      rintro D xs W hD hS ⟨⟨⟨q0, q1⟩, ⟨v, b2, hO⟩, bA⟩, hB⟩ hK
      have hbl : (xs.map fun x : SpT m => x.1.1) = (way k m).map (·.1) := by rw [← hS, List.map_map]; rfl
      obtain ⟨bs, HBS⟩ : ∃ bs, Hid ((way k m).map (·.1) = bs) := ⟨_, Lib.hid rfl⟩
      rw [hbl, HBS.out] at hO
      have HLE : Hid ((way k m).length = bs.length) := Lib.hid (by rw [← HBS.out, List.length_map])
      have HL4 : Hid (bs.length ≤ 4096) := Lib.hid (by rw [← HLE.out]; have := wayF_length m k 0 m; unfold way; omega)
      have HSD : Hid (sidesN k m = bs.reverse) := Lib.hid (by unfold sidesN; rw [HBS.out])
      rw [HLE.out] at HNA
      obtain ⟨L, HL⟩ : ∃ L, Hid (bs.length = L) := ⟨_, Lib.hid rfl⟩
      have hform : ∃ A1 c1, v = .slice A1 bs.length c1 := by
        obtain ⟨A1, c1, e, _⟩ := hO.slice
        exact ⟨A1, c1, e⟩
      obtain ⟨A1, c1, rfl⟩ := hform
      rw [HL.out] at hO b2 HNA HL4
      have m1 := b2.cell
      have Q1 := Lib.hid q1
      have Q0 := Lib.hid q0
      have HDN : Hid (w.heap.size + 1 + 1 + 1 + 1 + 1 ≤ D) := Lib.hid (by rw [← HS4.out]; exact hD)
      have HK := Lib.hid hK
      have HB := Lib.hid hB
      clear hK hB
      by_cases hl : n = L
      · have d6 : decide ((n : Int) = (L : Int)) = true := decide_eq_true (by omega)
        have d7 : decide (n = L) = true := decide_eq_true hl
        have HNR : Hid (¬ climbArg (k : Int) (m : Int) ps.length) := Lib.hid (HNA.out.2 hl)
        go_wp2_with (first | (refine wpList_load_row rfl 26 (.tmp 4) rfl w.heap.size rfl 26 _ (0, 0) _ Q0.out Tryd.underlying26 rfl HSN.out ?_) | (refine wpList_build_nodes1 rfl (.tmp 45) rfl nd rfl HND.out ?_))
        have hbb := (Below.refl _ W).alloc (Nat.le_refl _) (.cells (flatN [nd]).toArray 26)
        have hq := heap_alloc_new W (.cells (flatN [nd]).toArray 26)
        have HIV : Hid (InN (W.alloc (.cells (flatN [nd]).toArray 26)) (some ⟨W.heap.size, 0, none⟩) 1 1 [nd]) := Lib.hid ⟨rfl, Nat.le_refl _, (fun h => by cases h), (fun x hx => by
          simp only [List.mem_cons, List.not_mem_nil, or_false] at hx
          subst hx; exact HND.out), fun _ => ⟨_, 0, rfl, (Array.getElem?_eq_some_iff.1 hq).1, range_row hq⟩⟩
        refine (valid_any [nd] _ 1 1 _ (by omega) HIV).mono ?_
        rintro e W5 ⟨rfl, hq5⟩
        have hb5 := hbb.trans (hq5.mono hbb.size)
        rw [vL_one]
        have Q05 := Lib.hid (row_kept Q0.out hb5)
        have Q15 := Lib.hid (row_kept Q1.out hb5)
        have HK5 := Lib.hid ((hb5.block D (Array.getElem?_eq_some_iff.1 HK.out).1).trans HK.out)
        have HB5 := Lib.hid (HB.out.trans (hb5.mono HB.out.size))
        have b25 : Boxed W5 (w.heap.size + 1 + 1) 71 (.slice A1 L c1) := row_kept b2 hb5
        have HO5 := Lib.hid (hO.below hb5)
        have HC5 := Lib.hid b25
        have m5 := b25.cell
        clear hq hq5 hbb hb5 HIV Q0 Q1 HK HB hO b25 m1 q0 q1 bA b2
        by_cases hv : vN nd = true
        · rw [hv]
          go_wp2_with fail
          have HOV : Hid (OwnL W5 w.heap.size (.slice A1 L c1) bs) := HO5
          refine (revb_any bs (.slice A1 L c1) w.heap.size W5 (by rw [HL.out]; have := HL4.out; omega) HOV).mono ?_
          rintro e W6 ⟨⟨v6, rfl⟩, hg6, A2, c2, e2, hbi⟩
          have e3 : A2 = A1 ∧ c2 = c1 := by cases e2; exact ⟨rfl, rfl⟩
          obtain ⟨rfl, rfl⟩ := e3
          rw [HL.out] at hbi
          obtain ⟨rs, HRS⟩ : ∃ rs, Hid (bs.reverse = rs) := ⟨_, Lib.hid rfl⟩
          rw [HRS.out] at hbi HSD
          have HRL : Hid (rs.length = L) := Lib.hid hbi.len
          have hne : ∀ {b : Nat} {cs : Array Value} {t : TypeId}, W5.heap[b]? = some (.cells cs t (0, 0)) → t ≠ 4 → W6.heap[b]? = some (.cells cs t (0, 0)) := fun hb ht => (hg6.block _ (Array.getElem?_eq_some_iff.1 hb).1 (HO5.out.ne hb ht)).trans hb
          have Q06 := Lib.hid (hne Q05.out (by decide))
          have Q16 := Lib.hid (hne Q15.out (by decide))
          have C26 := Lib.hid (show Boxed W6 _ _ _ from hne HC5.out (by decide))
          have HK6 : Hid (W6.heap[D]? = some (.deferred (some []))) := Lib.hid ((hg6.block D (Array.getElem?_eq_some_iff.1 HK5.out).1 (fun e => by obtain ⟨_, _, cur, hc⟩ := HO5.out.block D e.symm; rw [HK5.out] at hc; cases hc)).trans HK5.out)
          have HB6 := Lib.hid (below_grown HB5.out hg6 (fun k hk => (HO5.out.block k hk).1) (Nat.le_refl _))
          have HGA : Hid (∀ g o, A2 = some ⟨g, o, none⟩ → g ≠ w.heap.size) := Lib.hid (fun g o ea eb => HO5.out.ne Q05.out (by decide) (by rw [ea, ← eb]; rfl))
          have HBI := Lib.hid hbi
          clear hg6 hbi e2 hne HO5 HOV HC5 HK5 HB5 Q05 Q15 m5 HBS HLE
          go_wp2_with fail
          go_loopw [54] (fun t wr => ∃ j x, j ≤ L ∧ t = .int .i64 (j : Nat) ∧ Hid (NdOk x) ∧ Hid (climbF (rs.take j) (ps.take j) nd = some x) ∧ Hid (wr.heap[w.heap.size]? = some (.cells (ndC x).toArray 26 (0, 0))) ∧ Hid (wr.heap[w.heap.size + 1]? = some (.cells (ndC zeroN).toArray 26 (0, 0))) ∧ Hid (Boxed wr (w.heap.size + 1 + 1) 71 (.slice A2 L c2)) ∧ Hid (BIn wr A2 L c2 rs) ∧ Hid (wr.heap[D]? = some (.deferred (some []))) ∧ Hid (Below w.heap.size w wr)) (fun t _ => L - (intOf t).toNat)
          case atStart => exact ⟨0, nd, by omega, rfl, HND, Lib.hid rfl, Q06, Q16, C26, HBI, HK6, HB6⟩
          case round =>
            obtain ⟨j, x, hj, rfl, HOx, HCL, HR0, HR1, HR2, HRB, HRK, HRW⟩ := hrel
            clear Q06 Q16 C26 HBI HK6 HB6
            by_cases hjl : j < L
            · have d8 : decide ((j : Int) < (n : Int)) = true := decide_eq_true (by omega)
              have d9 : decide (j < n) = true := decide_eq_true (by omega)
              obtain ⟨q, HQP⟩ : ∃ q, Hid (ps[j]'(by rw [HNE.out]; omega) = q) := ⟨_, Lib.hid rfl⟩
              obtain ⟨rr, HRR⟩ : ∃ rr, Hid (rs.getD j false = rr) := ⟨_, Lib.hid rfl⟩
              have hin := h.out.below HRW.out
              obtain ⟨g, off, rfl, hg, hr⟩ := hin.rd (by rw [HNE.out]; omega)
              have HOq : Hid (NdOk q) := Lib.hid (by rw [← HQP.out]; exact h.out.ok _ (List.getElem_mem _))
              have HRP : Hid (wr.rangeAt g (off + j * 34) (ndC q)) := Lib.hid (by rw [← HQP.out]; exact range_one hr h.out.ok j (by rw [HNE.out]; omega))
              obtain ⟨gb, rfl, hgb, hrb⟩ := HRB.out.rd (by omega)
              have HSQ := Lib.hid (size34 HOq.out)
              have HSQ2 := Lib.hid (size34' HOq.out)
              have HSQ3 : Hid (34 = (ndC q).toArray.size) := Lib.hid (by simp [ndC_length HOq.out])
              have HSX := Lib.hid (size34' HOx.out)
              have HRZ7 := Lib.hid (heap_alloc_new wr (.cells (ndC zeroN).toArray 26))
              obtain ⟨W7, HW7⟩ : ∃ W7, Hid ((wr.alloc (.cells (ndC zeroN).toArray 26)).setRow wr.heap.size (ndC q).toArray = W7) := ⟨_, Lib.hid rfl⟩
              have hlr := laid_row wr (ndC zeroN).toArray (ndC q).toArray 26
              rw [HW7.out] at hlr
              have HB7 := Lib.hid (HRW.out.trans (hlr.1.mono HRW.out.size))
              have HT7 := Lib.hid (hT.out.below HB7.out)
              have Q07 := Lib.hid (row_kept HR0.out hlr.1)
              have Q17 := Lib.hid (row_kept HR1.out hlr.1)
              have C27 := Lib.hid (show Boxed W7 _ _ _ from row_kept HR2.out hlr.1)
              have BI7 := Lib.hid (HRB.out.below hlr.1)
              have HK7 := Lib.hid ((hlr.1.block D (Array.getElem?_eq_some_iff.1 HRK.out).1).trans HRK.out)
              have QP7 := Lib.hid hlr.2.2
              have m7 : W7.cell? ⟨gb, j, none⟩ = some (.bool rr) := by rw [← HRR.out, ← hrb j hjl]; exact hlr.1.cell (p := ⟨gb, j, none⟩) hgb
              have m7c := C27.out.cell
              rw [zeroN_cells] at HRZ7 HW7
              have hjn : j < n := by omega
              have hLc : L ≤ c2 := HRB.out.cap
              clear hin hr hlr hrb HR0 HR1 HR2 HRB HRK HRW
              by_cases hrr : rr = true
              · skip
                have hst : stepN rr q x = (if vL [x, q] then some (joinN x q) else none) := by rw [hrr]; rfl
                have hcl : climbF (rs.take (j + 1)) (ps.take (j + 1)) nd = stepN rr q x := by rw [climb_take (rs := rs) (ps := ps) (by rw [HRL.out, HNE.out, hl]) (by rw [HNE.out]; omega) HCL.out, HRR.out, HQP.out]
                rw [hrr] at m7
                clear HRR
                go_wp2_with (first | (with_reducible refine wpList_load_mid rfl 26 (.tmp 57) rfl g (off + j * 34) rfl (ndC q) _ HRP.out Tryd.underlying26 rfl HSQ.out ?_) | (refine wpList_store_row rfl 26 (.tmp 13) (.tmp 58) rfl wr.heap.size (ndC q).toArray rfl rfl 26 _ HRZ7.out HSQ2.out HSQ3.out (ndC_one q) ?_; rw [HW7.out]) | (refine wpList_load_row rfl 26 (.tmp 4) rfl w.heap.size rfl 26 _ (0, 0) _ Q07.out Tryd.underlying26 rfl HSX.out ?_) | (refine wpList_load_row rfl 26 (.tmp 13) rfl wr.heap.size rfl 26 _ (0, 0) _ QP7.out Tryd.underlying26 rfl HSQ2.out ?_))
                refine (join_any x q W7 HOx.out HOq.out HT7).mono ?_
                rintro e W8 ⟨rfl, hq8⟩
                have HB8 := Lib.hid (HB7.out.trans (hq8.mono HB7.out.size))
                have Q08 := Lib.hid (row_kept Q07.out hq8)
                have Q18 := Lib.hid (row_kept Q17.out hq8)
                have C28 := Lib.hid (show Boxed W8 _ _ _ from row_kept C27.out hq8)
                have BI8 := Lib.hid (BI7.out.below hq8)
                have HK8 := Lib.hid ((hq8.block D (Array.getElem?_eq_some_iff.1 HK7.out).1).trans HK7.out)
                clear hq8 m7 m7c Q07 Q17 C27 BI7 HK7 HB7 HW7 HRP QP7 HRZ7 HT7
                by_cases hvl : vL [x, q] = true
                · have HJR : Hid (joinR x q = joinN x q ∧ joinE x q = 0) := Lib.hid (by unfold joinR joinE; rw [if_pos hvl, if_pos hvl]; exact ⟨rfl, rfl⟩)
                  rw [HJR.out.1, HJR.out.2]
                  have HJ := Lib.hid (join_ok HOx.out HOq.out hvl)
                  have HCN : Hid (climbF (rs.take (j + 1)) (ps.take (j + 1)) nd = some (joinN x q)) := Lib.hid (by rw [hcl, hst, if_pos hvl])
                  obtain ⟨z, HZ⟩ : ∃ z, Hid (joinN x q = z) := ⟨_, Lib.hid rfl⟩
                  rw [HZ.out] at HJ HCN
                  rw [HZ.out]
                  have HSJ := Lib.hid (size34' HJ.out)
                  have HSJ2 : Hid ((ndC x).toArray.size = (ndC z).toArray.size) := Lib.hid (by simp [ndC_length HJ.out, ndC_length HOx.out])
                  clear HJR hcl hst hvl
                  go_wp2_with (refine wpList_store_row rfl 26 (.tmp 4) (.tmp 67) rfl w.heap.size (ndC z).toArray rfl rfl 26 _ Q08.out HSJ.out HSJ2.out (ndC_one z) ?_)
                  go_roundw
                  case rel => exact ⟨j + 1, z, by omega, by go_num, HJ, HCN, Lib.hid (setRow_heap _ _ _ _ _ _ Q08.out), Lib.hid ((setRow_other _ _ _ _ (by omega)).trans Q18.out), Lib.hid (show Boxed _ _ _ _ from (setRow_other _ _ _ _ (by omega)).trans C28.out), Lib.hid (BI8.out.kept (by simp) (fun g o e _ => setRow_other _ _ _ _ (HGA.out g o e))), Lib.hid ((setRow_other _ _ _ _ (by have := HDN.out; omega)).trans HK8.out), Lib.hid (below_setRow HB8.out (Nat.le_refl _) _)⟩
                  case measure => first | (simp [intOf]; done) | (simp [intOf]; omega)
                · have HJR : Hid (joinR x q = zeroN ∧ joinE x q = 410) := Lib.hid (by unfold joinR joinE; rw [if_neg hvl, if_neg hvl]; exact ⟨rfl, rfl⟩)
                  rw [HJR.out.1, HJR.out.2]
                  have HCN : Hid (climbF (rs.take (j + 1)) (ps.take (j + 1)) nd = none) := Lib.hid (by rw [hcl, hst, if_neg hvl])
                  have HE := Lib.hid (climbR_none (n := nd) (i := (k : Int)) (many := (m : Int)) (ps := ps) HNR.out hv (by unfold climbO; simp only [Int.toNat_natCast]; rw [HSD.out]; exact climb_dead (j := j + 1) (by rw [HRL.out, HNE.out, hl]) HCN.out))
                  have HSJ2 : Hid ((ndC x).toArray.size = (ndC zeroN).toArray.size) := Lib.hid (by simp [ndC_length zeroN_ok, ndC_length HOx.out])
                  have Q19 : Hid ((W8.setRow w.heap.size (ndC zeroN).toArray).heap[w.heap.size + 1]? = some (.cells (ndC zeroN).toArray 26 (0, 0))) := Lib.hid ((setRow_other _ _ _ _ (by omega)).trans Q18.out)
                  clear HJR hcl hst hvl
                  go_wp2_with (first | (refine wpList_store_row rfl 26 (.tmp 4) (.tmp 67) rfl w.heap.size (ndC zeroN).toArray rfl rfl 26 _ Q08.out HSZ.out HSJ2.out (ndC_one zeroN) ?_) | (refine wpList_load_row rfl 26 (.tmp 8) rfl (w.heap.size + 1) rfl 26 _ (0, 0) _ Q19.out Tryd.underlying26 rfl HSZ.out ?_) | (refine wpList_store_row rfl 26 (.tmp 8) (.tmp 77) rfl (w.heap.size + 1) (ndC zeroN).toArray rfl rfl 26 _ Q19.out HSZ.out rfl (ndC_one zeroN) ?_))
                  exact climb_leave rfl rfl zeroN_ok (setRow_heap _ _ _ _ _ _ Q19.out) ((setRow_other _ _ _ _ (by have := HDN.out; omega)).trans ((setRow_other _ _ _ _ (by have := HDN.out; omega)).trans HK8.out)) (by have := HDN.out; omega) (below_setRow (below_setRow HB8.out (Nat.le_refl _) _) (Nat.le_succ _) _) (by have := HDN.out; omega) HE.out.1 HE.out.2
              · have hrr : rr = false := by simpa using hrr
                have hst : stepN rr q x = (if vL [q, x] then some (joinN q x) else none) := by rw [hrr]; rfl
                have hcl : climbF (rs.take (j + 1)) (ps.take (j + 1)) nd = stepN rr q x := by rw [climb_take (rs := rs) (ps := ps) (by rw [HRL.out, HNE.out, hl]) (by rw [HNE.out]; omega) HCL.out, HRR.out, HQP.out]
                rw [hrr] at m7
                clear HRR
                go_wp2_with (first | (with_reducible refine wpList_load_mid rfl 26 (.tmp 57) rfl g (off + j * 34) rfl (ndC q) _ HRP.out Tryd.underlying26 rfl HSQ.out ?_) | (refine wpList_store_row rfl 26 (.tmp 13) (.tmp 58) rfl wr.heap.size (ndC q).toArray rfl rfl 26 _ HRZ7.out HSQ2.out HSQ3.out (ndC_one q) ?_; rw [HW7.out]) | (refine wpList_load_row rfl 26 (.tmp 4) rfl w.heap.size rfl 26 _ (0, 0) _ Q07.out Tryd.underlying26 rfl HSX.out ?_) | (refine wpList_load_row rfl 26 (.tmp 13) rfl wr.heap.size rfl 26 _ (0, 0) _ QP7.out Tryd.underlying26 rfl HSQ2.out ?_))
                refine (join_any q x W7 HOq.out HOx.out HT7).mono ?_
                rintro e W8 ⟨rfl, hq8⟩
                have HB8 := Lib.hid (HB7.out.trans (hq8.mono HB7.out.size))
                have Q08 := Lib.hid (row_kept Q07.out hq8)
                have Q18 := Lib.hid (row_kept Q17.out hq8)
                have C28 := Lib.hid (show Boxed W8 _ _ _ from row_kept C27.out hq8)
                have BI8 := Lib.hid (BI7.out.below hq8)
                have HK8 := Lib.hid ((hq8.block D (Array.getElem?_eq_some_iff.1 HK7.out).1).trans HK7.out)
                clear hq8 m7 m7c Q07 Q17 C27 BI7 HK7 HB7 HW7 HRP QP7 HRZ7 HT7
                by_cases hvl : vL [q, x] = true
                · have HJR : Hid (joinR q x = joinN q x ∧ joinE q x = 0) := Lib.hid (by unfold joinR joinE; rw [if_pos hvl, if_pos hvl]; exact ⟨rfl, rfl⟩)
                  rw [HJR.out.1, HJR.out.2]
                  have HJ := Lib.hid (join_ok HOq.out HOx.out hvl)
                  have HCN : Hid (climbF (rs.take (j + 1)) (ps.take (j + 1)) nd = some (joinN q x)) := Lib.hid (by rw [hcl, hst, if_pos hvl])
                  obtain ⟨z, HZ⟩ : ∃ z, Hid (joinN q x = z) := ⟨_, Lib.hid rfl⟩
                  rw [HZ.out] at HJ HCN
                  rw [HZ.out]
                  have HSJ := Lib.hid (size34' HJ.out)
                  have HSJ2 : Hid ((ndC x).toArray.size = (ndC z).toArray.size) := Lib.hid (by simp [ndC_length HJ.out, ndC_length HOx.out])
                  clear HJR hcl hst hvl
                  go_wp2_with (refine wpList_store_row rfl 26 (.tmp 4) (.tmp 73) rfl w.heap.size (ndC z).toArray rfl rfl 26 _ Q08.out HSJ.out HSJ2.out (ndC_one z) ?_)
                  go_roundw
                  case rel => exact ⟨j + 1, z, by omega, by go_num, HJ, HCN, Lib.hid (setRow_heap _ _ _ _ _ _ Q08.out), Lib.hid ((setRow_other _ _ _ _ (by omega)).trans Q18.out), Lib.hid (show Boxed _ _ _ _ from (setRow_other _ _ _ _ (by omega)).trans C28.out), Lib.hid (BI8.out.kept (by simp) (fun g o e _ => setRow_other _ _ _ _ (HGA.out g o e))), Lib.hid ((setRow_other _ _ _ _ (by have := HDN.out; omega)).trans HK8.out), Lib.hid (below_setRow HB8.out (Nat.le_refl _) _)⟩
                  case measure => first | (simp [intOf]; done) | (simp [intOf]; omega)
                · have HJR : Hid (joinR q x = zeroN ∧ joinE q x = 410) := Lib.hid (by unfold joinR joinE; rw [if_neg hvl, if_neg hvl]; exact ⟨rfl, rfl⟩)
                  rw [HJR.out.1, HJR.out.2]
                  have HCN : Hid (climbF (rs.take (j + 1)) (ps.take (j + 1)) nd = none) := Lib.hid (by rw [hcl, hst, if_neg hvl])
                  have HE := Lib.hid (climbR_none (n := nd) (i := (k : Int)) (many := (m : Int)) (ps := ps) HNR.out hv (by unfold climbO; simp only [Int.toNat_natCast]; rw [HSD.out]; exact climb_dead (j := j + 1) (by rw [HRL.out, HNE.out, hl]) HCN.out))
                  have HSJ2 : Hid ((ndC x).toArray.size = (ndC zeroN).toArray.size) := Lib.hid (by simp [ndC_length zeroN_ok, ndC_length HOx.out])
                  have Q19 : Hid ((W8.setRow w.heap.size (ndC zeroN).toArray).heap[w.heap.size + 1]? = some (.cells (ndC zeroN).toArray 26 (0, 0))) := Lib.hid ((setRow_other _ _ _ _ (by omega)).trans Q18.out)
                  clear HJR hcl hst hvl
                  go_wp2_with (first | (refine wpList_store_row rfl 26 (.tmp 4) (.tmp 73) rfl w.heap.size (ndC zeroN).toArray rfl rfl 26 _ Q08.out HSZ.out HSJ2.out (ndC_one zeroN) ?_) | (refine wpList_load_row rfl 26 (.tmp 8) rfl (w.heap.size + 1) rfl 26 _ (0, 0) _ Q19.out Tryd.underlying26 rfl HSZ.out ?_) | (refine wpList_store_row rfl 26 (.tmp 8) (.tmp 77) rfl (w.heap.size + 1) (ndC zeroN).toArray rfl rfl 26 _ Q19.out HSZ.out rfl (ndC_one zeroN) ?_))
                  exact climb_leave rfl rfl zeroN_ok (setRow_heap _ _ _ _ _ _ Q19.out) ((setRow_other _ _ _ _ (by have := HDN.out; omega)).trans ((setRow_other _ _ _ _ (by have := HDN.out; omega)).trans HK8.out)) (by have := HDN.out; omega) (below_setRow (below_setRow HB8.out (Nat.le_refl _) _) (Nat.le_succ _) _) (by have := HDN.out; omega) HE.out.1 HE.out.2
            · have hjL : j = L := by omega
              have d8 : decide ((j : Int) < (n : Int)) = false := decide_eq_false (by omega)
              have d9 : decide (j < n) = false := decide_eq_false (by omega)
              have HCF : Hid (climbF rs ps nd = some x) := Lib.hid (by
                have := HCL.out
                rwa [List.take_of_length_le (by rw [HRL.out]; omega), List.take_of_length_le (by rw [HNE.out]; omega)] at this)
              have HE := Lib.hid (climbR_some (n := nd) (i := (k : Int)) (many := (m : Int)) (ps := ps) (x := x) HNR.out hv (by unfold climbO; simp only [Int.toNat_natCast]; rw [HSD.out]; exact HCF.out))
              have HSX := Lib.hid (size34' HOx.out)
              have HSX2 : Hid ((ndC zeroN).toArray.size = (ndC x).toArray.size) := Lib.hid (by simp [ndC_length zeroN_ok, ndC_length HOx.out])
              go_wp2_with (first | (refine wpList_load_row rfl 26 (.tmp 4) rfl w.heap.size rfl 26 _ (0, 0) _ HR0.out Tryd.underlying26 rfl HSX.out ?_) | (refine wpList_store_row rfl 26 (.tmp 8) (.tmp 80) rfl (w.heap.size + 1) (ndC x).toArray rfl rfl 26 _ HR1.out HSX.out HSX2.out (ndC_one x) ?_))
              exact climb_leave rfl rfl HOx.out (setRow_heap _ _ _ _ _ _ HR1.out) ((setRow_other _ _ _ _ (by have := HDN.out; omega)).trans HRK.out) (by have := HDN.out; omega) (below_setRow HRW.out (Nat.le_succ _) _) (by have := HDN.out; omega) HE.out.1 HE.out.2
        · have hv2 : vN nd = false := by simpa using hv
          rw [hv2]
          have HE := Lib.hid (climbR_bad (n := nd) (i := (k : Int)) (many := (m : Int)) (ps := ps) HNR.out hv2)
          go_wp2_with (first | (refine wpList_load_row rfl 26 (.tmp 8) rfl (w.heap.size + 1) rfl 26 _ (0, 0) _ Q15.out Tryd.underlying26 rfl HSZ.out ?_) | (refine wpList_store_row rfl 26 (.tmp 8) (.tmp 49) rfl (w.heap.size + 1) (ndC zeroN).toArray rfl rfl 26 _ Q15.out HSZ.out rfl (ndC_one zeroN) ?_))
          exact climb_leave rfl rfl zeroN_ok (setRow_heap _ _ _ _ _ _ Q15.out) ((setRow_other _ _ _ _ (by have := HDN.out; omega)).trans HK5.out) (by have := HDN.out; omega) (below_setRow HB5.out (Nat.le_succ _) _) (by have := HDN.out; omega) HE.out.1 HE.out.2
      · have d6 : decide ((n : Int) = (L : Int)) = false := decide_eq_false (by omega)
        have d7 : decide (n = L) = false := decide_eq_false hl
        have HE := Lib.hid (climbR_arg (n := nd) (i := (k : Int)) (many := (m : Int)) (ps := ps) (Classical.byContradiction fun hh => hl (HNA.out.1 hh)))
        go_wp2_with (first | (refine wpList_load_row rfl 26 (.tmp 8) rfl (w.heap.size + 1) rfl 26 _ (0, 0) _ Q1.out Tryd.underlying26 rfl HSZ.out ?_) | (refine wpList_store_row rfl 26 (.tmp 8) (.tmp 44) rfl (w.heap.size + 1) (ndC zeroN).toArray rfl rfl 26 _ Q1.out HSZ.out rfl (ndC_one zeroN) ?_))
        exact climb_leave rfl rfl zeroN_ok (setRow_heap _ _ _ _ _ _ Q1.out) ((setRow_other _ _ _ _ (by have := HDN.out; omega)).trans HK.out) (by have := HDN.out; omega) (below_setRow HB.out (Nat.le_succ _) _) (by have := HDN.out; omega) HE.out.1 HE.out.2
    case stop =>
      rintro D c pre W _ _ h _
      exact h.elim
theorem climb_any (nd : Nd) (i many : Int) (ps : List Nd) (A : Option Addr) (n c : Nat) (w : World) (hnd : NdOk nd) (hi : -9223372036854775808 ≤ i ∧ i ≤ 9223372036854775807) (hmany : -9223372036854775808 ≤ many ∧ many ≤ 9223372036854775807) (hn : n ≤ 9223372036854775807) (h : Hid (InN w A n c ps)) (hT : Hid (Tabs w)) :
    Calls Tryd.prog 18 #[ndV nd, .int .i64 i, .int .i64 many, .slice A n c] w fun e w' => e = .returned (.tuple #[ndV (climbR nd i many ps), .int .i64 (climbE nd i many ps)]) ∧ Below w.heap.size w w' :=
  (callsIn_wide.1 (climb_in nd i many ps A n c w hnd hi hmany hn h hT)).mono fun _ _ h => h
end Go.Proofs.YtgcmbiegbclhmaaDoor
