/- sizar/tree: valid, half. -/
import Derived.Test.YtgcmbiegbclhmaaDoorTreeHash
import Derived.Test.YtgcmbiegbclhmaaDoorTreeMath2
import Derived.Deep.MidRow
import Derived.IntWalk
namespace Go.Proofs.YtgcmbiegbclhmaaDoor
open Go.RowKit SzSha SzTree
set_option linter.unusedVariables false
set_option maxRecDepth 100000
/-- a node's cells -/
def ndC (n : Nd) : List Value := (n.d.map fun x => Value.int .u8 (x : Nat)) ++ [.int .i64 n.c, .int .i64 n.p]
def ndV (n : Nd) : Value := .agg (ndC n).toArray
/-- a node as it comes -/
structure NdOk (n : Nd) : Prop where
  len : n.d.length = 32
  bytes : Bytes n.d
  c : -9223372036854775808 ≤ n.c ∧ n.c ≤ 9223372036854775807
  p : -9223372036854775808 ≤ n.p ∧ n.p ≤ 9223372036854775807
theorem ndC_length {n : Nd} (h : NdOk n) : (ndC n).length = 34 := by simp [ndC, h.len]
theorem ndC_c {n : Nd} (h : NdOk n) : (ndC n)[32]? = some (.int .i64 n.c) := by
  unfold ndC; rw [List.getElem?_append_right (by simp [h.len])]; simp [h.len]
theorem ndC_p {n : Nd} (h : NdOk n) : (ndC n)[33]? = some (.int .i64 n.p) := by
  unfold ndC; rw [List.getElem?_append_right (by simp [h.len])]; simp [h.len]
theorem ndC_one (n : Nd) : (ndC n).toArray.all (·.oneCell') = true := by
  rw [Array.all_eq_true_iff_forall_mem]
  intro v hv
  simp only [ndC, List.mem_toArray, List.mem_append, List.mem_map, List.mem_cons, List.not_mem_nil, or_false] at hv
  rcases hv with ⟨x, _, rfl⟩ | rfl | rfl <;> rfl
theorem size34 {n : Nd} (h : NdOk n) : (Tryd.prog.info? 26).map (·.size) = some (ndC n).length := by
  rw [ndC_length h]; show _ = _; kernel_rfl
def flatN (ls : List Nd) : List Value := ls.flatMap ndC
theorem flatN_get : ∀ (ls : List Nd), (∀ n ∈ ls, NdOk n) → ∀ (i : Nat) (hi : i < ls.length) (j : Nat) (v : Value), (ndC ls[i])[j]? = some v → (flatN ls)[i * 34 + j]? = some v
  | [], _, i, hi, _, _, _ => by simp at hi
  | n :: ls, ho, 0, _, j, v, h => by
    have hj : j < (ndC n).length := (List.getElem?_eq_some_iff.1 h).1
    show ((n :: ls).flatMap ndC)[0 * 34 + j]? = _
    rw [List.flatMap_cons, Nat.zero_mul, Nat.zero_add, List.getElem?_append_left hj]
    exact h
  | n :: ls, ho, i + 1, hi, j, v, h => by
    have ih := flatN_get ls (fun m hm => ho m (List.mem_cons_of_mem _ hm)) i (by simpa using hi) j v h
    have hl := ndC_length (ho n (by simp))
    show ((n :: ls).flatMap ndC)[(i + 1) * 34 + j]? = _
    rw [List.flatMap_cons, List.getElem?_append_right (by omega), hl, show (i + 1) * 34 + j - 34 = i * 34 + j by omega]
    exact ih
/-- a slice of nodes that came in -/
structure InN (w : World) (A : Option Addr) (n c : Nat) (ls : List Nd) : Prop where
  len : ls.length = n
  cap : n ≤ c
  none_ : A = none → c = 0
  ok : ∀ x ∈ ls, NdOk x
  rd : 0 < ls.length → ∃ g off, A = some ⟨g, off, none⟩ ∧ g < w.heap.size ∧ w.rangeAt g off (flatN ls)
theorem rangeAt_below {w w' : World} {g off : Nat} {cs : List Value} (h : w.rangeAt g off cs) (hg : g < w.heap.size) (hb : Below w.heap.size w w') : w'.rangeAt g off cs := fun j v hj => (hb.cell (p := ⟨g, _, none⟩) hg).trans (h j v hj)
theorem InN.below {w w' : World} {A : Option Addr} {n c : Nat} {ls : List Nd} (h : InN w A n c ls) (hb : Below w.heap.size w w') : InN w' A n c ls :=
  ⟨h.len, h.cap, h.none_, h.ok, fun h0 => by
    obtain ⟨g, off, e, hg, hr⟩ := h.rd h0
    exact ⟨g, off, e, Nat.lt_of_lt_of_le hg hb.size, rangeAt_below hr hg hb⟩⟩
theorem range_one {w : World} {g off : Nat} {ls : List Nd} (h : w.rangeAt g off (flatN ls)) (ho : ∀ n ∈ ls, NdOk n) (i : Nat) (hi : i < ls.length) : w.rangeAt g (off + i * 34) (ndC ls[i]) := fun j v hj => by
  have := h (i * 34 + j) v (flatN_get ls ho i hi j v hj)
  rwa [← Nat.add_assoc] at this
theorem d2_not {c : Int} (h : c < 0) : decide (0 ≤ c) = false := decide_eq_false (by omega)
theorem vL_bad {ls : List Nd} {j : Nat} (hj : j < ls.length) (h : vN ls[j] = false) : vL ls = false := by
  have : ls.all vN = false := by
    rw [List.all_eq_false]
    exact ⟨ls[j], List.getElem_mem _, by rw [h]; simp⟩
  unfold vL; rw [this]; rfl
set_option maxHeartbeats 4000000 in
theorem valid_any (ls : List Nd) (A : Option Addr) (n c : Nat) (w : World) (hn : n ≤ 1000000) (h : Hid (InN w A n c ls)) :
    Calls Tryd.prog 30 #[.slice A n c] w fun e w' => e = .returned (.bool (vL ls)) ∧ Below w.heap.size w w' := by
  go_enter Tryd.func30, Tryd.ntmps30
  go_wp2_with fail
  go_loopw [3, 8] (fun s i wr => ∃ j : Nat, j ≤ n ∧ i = .int .i64 j ∧ s = .int .i64 (sumC (ls.take j)) ∧ Hid ((ls.take j).all vN = true) ∧ Hid (Below w.heap.size w wr)) (fun _ i _ => n - (intOf i).toNat)
  case atStart => exact ⟨0, by omega, rfl, rfl, Lib.hid rfl, Lib.hid (Below.refl _ _)⟩
  case round =>
    obtain ⟨j, hj, rfl, rfl, HV, HB⟩ := hrel
    have hsm : 0 ≤ sumC (ls.take j) ∧ sumC (ls.take j) ≤ 1073741824 * (j : Int) := ⟨(sums_bd HV.out).1, by
      have := sumC_le (ls.take j) HV.out
      have h2 : ((ls.take j).length : Int) ≤ (j : Int) := by rw [List.length_take]; omega
      omega⟩
    by_cases hlt : j < n
    · have d1 : decide ((j : Int) < (n : Int)) = true := decide_eq_true (by omega)
      have hjl : j < ls.length := by rw [h.out.len]; exact hlt
      obtain ⟨g, off, rfl, hg, hr⟩ := h.out.rd (by omega)
      obtain ⟨x, HX⟩ : ∃ x, Hid (ls[j] = x) := ⟨_, Lib.hid rfl⟩
      have HOK : Hid (NdOk x) := Lib.hid (by rw [← HX.out]; exact h.out.ok _ (List.getElem_mem _))
      have HR : Hid (wr.rangeAt g (off + j * 34) (ndC x)) := Lib.hid (by rw [← HX.out]; exact rangeAt_below (range_one hr h.out.ok j hjl) hg HB.out)
      have HNX : Hid (ls.take (j + 1) = ls.take j ++ [x]) := Lib.hid (by rw [List.take_succ_eq_append_getElem hjl, HX.out])
      clear hr
      obtain ⟨W2, HW2⟩ : ∃ W2, Hid ((wr.alloc (.cells #[.int .u8 0, .int .u8 0, .int .u8 0, .int .u8 0, .int .u8 0, .int .u8 0, .int .u8 0, .int .u8 0, .int .u8 0, .int .u8 0, .int .u8 0, .int .u8 0, .int .u8 0, .int .u8 0, .int .u8 0, .int .u8 0, .int .u8 0, .int .u8 0, .int .u8 0, .int .u8 0, .int .u8 0, .int .u8 0, .int .u8 0, .int .u8 0, .int .u8 0, .int .u8 0, .int .u8 0, .int .u8 0, .int .u8 0, .int .u8 0, .int .u8 0, .int .u8 0, .int .i64 0, .int .i64 0] 26)).setRow wr.heap.size (ndC x).toArray = W2) := ⟨_, Lib.hid rfl⟩
      have hlr := laid_row wr #[.int .u8 0, .int .u8 0, .int .u8 0, .int .u8 0, .int .u8 0, .int .u8 0, .int .u8 0, .int .u8 0, .int .u8 0, .int .u8 0, .int .u8 0, .int .u8 0, .int .u8 0, .int .u8 0, .int .u8 0, .int .u8 0, .int .u8 0, .int .u8 0, .int .u8 0, .int .u8 0, .int .u8 0, .int .u8 0, .int .u8 0, .int .u8 0, .int .u8 0, .int .u8 0, .int .u8 0, .int .u8 0, .int .u8 0, .int .u8 0, .int .u8 0, .int .u8 0, .int .i64 0, .int .i64 0] (ndC x).toArray 26
      rw [HW2.out] at hlr
      have HBB := Lib.hid (HB.out.trans (hlr.1.mono HB.out.size))
      have kc : W2.cell? ⟨wr.heap.size, 32, none⟩ = some (.int .i64 x.c) := by rw [cell_of_row _ _ _ _ _ _ hlr.2.2]; simpa using ndC_c HOK.out
      have kp : W2.cell? ⟨wr.heap.size, 33, none⟩ = some (.int .i64 x.p) := by rw [cell_of_row _ _ _ _ _ _ hlr.2.2]; simpa using ndC_p HOK.out
      have HS1 : Hid ((Tryd.prog.info? 26).map (·.size) = some (ndC x).toArray.size) := Lib.hid (by rw [size34 HOK.out]; simp)
      have HS2 : Hid (34 = (ndC x).toArray.size) := Lib.hid (by simp [ndC_length HOK.out])
      clear hlr
      by_cases b1 : x.c < 0
      · have d2 : decide (x.c < 0) = true := decide_eq_true b1
        have HE : Hid (vL ls = false) := Lib.hid (vL_bad hjl (by rw [HX.out]; unfold vN; rw [d2_not b1]; rfl))
        go_wp2_with (first | (with_reducible refine wpList_load_mid rfl 26 (.tmp 10) rfl g (off + j * 34) rfl (ndC x) _ HR.out Tryd.underlying26 rfl (size34 HOK.out) ?_) | (refine wpList_store_row rfl 26 (.tmp 5) (.tmp 11) rfl wr.heap.size (ndC x).toArray rfl rfl 26 _ (heap_alloc_new wr _) HS1.out HS2.out (ndC_one x) ?_; rw [HW2.out]))
        go_ret
        exact ⟨by rw [HE.out]; rfl, HBB.out⟩
      · by_cases b2 : 1073741824 < x.c
        · have d2 : decide (x.c < 0) = false := decide_eq_false b1
          have d3 : decide (1073741824 < x.c) = true := decide_eq_true b2
          have HE : Hid (vL ls = false) := Lib.hid (vL_bad hjl (by rw [HX.out]; unfold vN; rw [decide_eq_false (show ¬ x.c ≤ 1073741824 by omega)]; simp))
          go_wp2_with (first | (with_reducible refine wpList_load_mid rfl 26 (.tmp 10) rfl g (off + j * 34) rfl (ndC x) _ HR.out Tryd.underlying26 rfl (size34 HOK.out) ?_) | (refine wpList_store_row rfl 26 (.tmp 5) (.tmp 11) rfl wr.heap.size (ndC x).toArray rfl rfl 26 _ (heap_alloc_new wr _) HS1.out HS2.out (ndC_one x) ?_; rw [HW2.out]))
          go_ret
          exact ⟨by rw [HE.out]; rfl, HBB.out⟩
        · by_cases b3 : x.p < 0
          · have d2 : decide (x.c < 0) = false := decide_eq_false b1
            have d3 : decide (1073741824 < x.c) = false := decide_eq_false b2
            have d4 : decide (x.p < 0) = true := decide_eq_true b3
            have HE : Hid (vL ls = false) := Lib.hid (vL_bad hjl (by rw [HX.out]; unfold vN; rw [decide_eq_false (show ¬ 0 ≤ x.p by omega)]; simp))
            go_wp2_with (first | (with_reducible refine wpList_load_mid rfl 26 (.tmp 10) rfl g (off + j * 34) rfl (ndC x) _ HR.out Tryd.underlying26 rfl (size34 HOK.out) ?_) | (refine wpList_store_row rfl 26 (.tmp 5) (.tmp 11) rfl wr.heap.size (ndC x).toArray rfl rfl 26 _ (heap_alloc_new wr _) HS1.out HS2.out (ndC_one x) ?_; rw [HW2.out]))
            go_ret
            exact ⟨by rw [HE.out]; rfl, HBB.out⟩
          · have hw : IntKind.i64.wrap (12 * x.c) = 12 * x.c := IntWalk.i64_in _ (by omega)
            by_cases b4 : 12 * x.c < x.p
            · have d2 : decide (x.c < 0) = false := decide_eq_false b1
              have d3 : decide (1073741824 < x.c) = false := decide_eq_false b2
              have d4 : decide (x.p < 0) = false := decide_eq_false b3
              have d5 : decide (12 * x.c < x.p) = true := decide_eq_true b4
              have HE : Hid (vL ls = false) := Lib.hid (vL_bad hjl (by rw [HX.out]; unfold vN; rw [decide_eq_false (show ¬ x.p ≤ 12 * x.c by omega)]; simp))
              go_wp2_with (first | (with_reducible refine wpList_load_mid rfl 26 (.tmp 10) rfl g (off + j * 34) rfl (ndC x) _ HR.out Tryd.underlying26 rfl (size34 HOK.out) ?_) | (refine wpList_store_row rfl 26 (.tmp 5) (.tmp 11) rfl wr.heap.size (ndC x).toArray rfl rfl 26 _ (heap_alloc_new wr _) HS1.out HS2.out (ndC_one x) ?_; rw [HW2.out]))
              go_ret
              exact ⟨by rw [HE.out]; rfl, HBB.out⟩
            · have d2 : decide (x.c < 0) = false := decide_eq_false b1
              have d3 : decide (1073741824 < x.c) = false := decide_eq_false b2
              have d4 : decide (x.p < 0) = false := decide_eq_false b3
              have d5 : decide (12 * x.c < x.p) = false := decide_eq_false b4
              have hw2 : IntKind.i64.wrap (sumC (ls.take j) + x.c) = sumC (ls.take j) + x.c := IntWalk.i64_in _ (by omega)
              have HSUM : Hid (sumC (ls.take j) + x.c = sumC (ls.take (j + 1))) := Lib.hid (by rw [HNX.out, sumC_append]; simp [sumC])
              have HALL : Hid ((ls.take (j + 1)).all vN = true) := Lib.hid (by
                rw [HNX.out, List.all_append, HV.out]
                simp only [List.all_cons, List.all_nil, vN, Bool.and_true, Bool.true_and, Bool.and_eq_true, decide_eq_true_eq]; omega)
              clear b1 b2 b3 b4
              go_wp2_with (first | (with_reducible refine wpList_load_mid rfl 26 (.tmp 10) rfl g (off + j * 34) rfl (ndC x) _ HR.out Tryd.underlying26 rfl (size34 HOK.out) ?_) | (refine wpList_store_row rfl 26 (.tmp 5) (.tmp 11) rfl wr.heap.size (ndC x).toArray rfl rfl 26 _ (heap_alloc_new wr _) HS1.out HS2.out (ndC_one x) ?_; rw [HW2.out]))
              go_roundw
              case rel => exact ⟨j + 1, by omega, by go_num, by rw [← HSUM.out], HALL, HBB⟩
              case measure => first | (simp [intOf]; done) | (simp [intOf]; omega)
    · have d1 : decide ((j : Int) < (n : Int)) = false := decide_eq_false (by omega)
      have HE : Hid (vL ls = decide (sumC (ls.take j) ≤ 1073741824)) := Lib.hid (by
        have e : ls.take j = ls := List.take_of_length_le (by rw [h.out.len]; omega)
        have hv := HV.out
        rw [e] at hv ⊢
        unfold vL; rw [hv]; rfl)
      go_wp2_with fail
      go_ret
      exact ⟨by rw [HE.out]; rfl, HB.out⟩
end Go.Proofs.YtgcmbiegbclhmaaDoor
