/- sizar/tree.Path. -/
import Derived.Test.YtgcmbiegbclhmaaDoorOpsIn
import Derived.Test.YtgcmbiegbclhmaaDoorTreeWay
namespace Go.Proofs.YtgcmbiegbclhmaaDoor
open Go.RowKit Go.Shelf SzSha SzTree
set_option linter.unusedVariables false
set_option maxRecDepth 100000
attribute [local go_sem] Oper.semAt_some
theorem path_results {tmps : Array Value} {W : World} {b : Nat} {v : Value} {e : Int} (h4 : tmps.getD 4 undef = .pointer (some ⟨b, 0, none⟩)) (h5 : tmps.getD 5 undef = .int .i64 e) (hB : Boxed W b 22 v) :
    (results Tryd.f16 tmps).run Tryd.prog W = .ok (.tuple #[v, .int .i64 e]) W := by
  have hc := hB.cell
  have h4' : tmps[4]?.getD undef = .pointer (some ⟨b, 0, none⟩) := by simpa using h4
  have h5' : tmps[5]?.getD undef = .int .i64 e := by simpa using h5
  simp [results, Tryd.results16, asAddr, h4', h5', loadVar, hc, go_sem]
theorem InN.kept {w w' : World} {A : Option Addr} {n c : Nat} {ls : List Nd} (h : InN w A n c ls) (hs : w.heap.size ≤ w'.heap.size) (hk : ∀ g o, A = some ⟨g, o, none⟩ → w'.heap[g]? = w.heap[g]?) : InN w' A n c ls :=
  ⟨h.len, h.cap, h.none_, h.ok, fun h0 => by
    obtain ⟨g, off, e, hg, hr⟩ := h.rd h0
    exact ⟨g, off, e, Nat.lt_of_lt_of_le hg hs, fun j v hj => by rw [← hr j v hj]; exact World.cell?_of_block (hk g off e)⟩⟩
theorem below_grown {n₀ : Nat} {a w w' : World} {row : Option Nat} (h : Below n₀ a w) (hg : w.grownBy w' row) (hr : ∀ k, row = some k → n₀ ≤ k) (hn : n₀ ≤ a.heap.size) : Below n₀ a w' := h.grown hg (Nat.le_trans hn h.size) hr
/-- the roots of the parts beside the way -/
def ndsOf (ls : List Nd) (n : Nat) (pre : List (SpT n)) : List Nd := pre.map fun x => root (seg ls x.1.2.1 x.1.2.2)
theorem seg_root_ok {ls : List Nd} (ho : ∀ x ∈ ls, NdOk x) (hv : vL ls = true) {a b : Nat} (h1 : a < b) (h2 : b ≤ ls.length) : NdOk (root (seg ls a b)) := by
  refine root_ok _ _ (Nat.le_refl _) (by rw [seg_length _ _ _ h2]; omega) (fun x hx => ho x ?_) (vL_seg hv a b (by omega) h2)
  exact List.mem_of_mem_take (List.mem_of_mem_drop hx)
theorem ndsOf_ok {ls : List Nd} {n : Nat} (ho : ∀ x ∈ ls, NdOk x) (hv : vL ls = true) (hn : ls.length = n) (pre : List (SpT n)) : ∀ x ∈ ndsOf ls n pre, NdOk x := fun x hx => by
  obtain ⟨y, _, rfl⟩ := List.mem_map.1 hx
  exact seg_root_ok ho hv y.2.1 (by rw [hn]; exact y.2.2)
theorem ndsOf_way {ls : List Nd} {n k : Nat} (hn : ls.length = n) {xs : List (SpT n)} (h : xs.map (·.1) = way k n) : (ndsOf ls n xs).reverse = pathN ls k := by
  unfold pathN ndsOf
  rw [hn, ← h, List.map_map]; rfl
theorem seg_rootR {ls : List Nd} (hl : ls.length ≤ 4096) (hv : vL ls = true) {a b : Nat} (h1 : a < b) (h2 : b ≤ ls.length) : rootR (seg ls a b) = root (seg ls a b) ∧ rootE (seg ls a b) = 0 :=
  rootR_yes (by rw [seg_length _ _ _ h2]; omega) (vL_seg hv a b (by omega) h2) (by rw [seg_length _ _ _ h2]; omega)
theorem InN.none (w : World) : InN w none 0 0 [] := ⟨rfl, Nat.le_refl _, (fun _ => rfl), (fun x hx => by cases hx), (fun h => by simp at h)⟩
/-- Path -/
def pathR (ls : List Nd) (i : Int) : List Nd := if rootE ls ≠ 0 then [] else if i < 0 ∨ (ls.length : Int) ≤ i then [] else pathN ls i.toNat
def pathE (ls : List Nd) (i : Int) : Int := if rootE ls ≠ 0 then 410 else if i < 0 ∨ (ls.length : Int) ≤ i then 1 else 0
theorem pathR_bad {ls : List Nd} {i : Int} (h : rootE ls ≠ 0) : pathR ls i = [] ∧ pathE ls i = 410 := by
  unfold pathR pathE; exact ⟨if_pos h, if_pos h⟩
theorem pathR_arg {ls : List Nd} {i : Int} (h : rootE ls = 0) (hi : i < 0 ∨ (ls.length : Int) ≤ i) : pathR ls i = [] ∧ pathE ls i = 1 := by
  have h' : ¬ rootE ls ≠ 0 := fun e => e h
  unfold pathR pathE; exact ⟨by rw [if_neg h', if_pos hi], by rw [if_neg h', if_pos hi]⟩
theorem pathR_yes {ls : List Nd} {i : Int} (h : rootE ls = 0) (hi : ¬ (i < 0 ∨ (ls.length : Int) ≤ i)) : pathR ls i = pathN ls i.toNat ∧ pathE ls i = 0 := by
  have h' : ¬ rootE ls ≠ 0 := fun e => e h
  unfold pathR pathE; exact ⟨by rw [if_neg h', if_neg hi], by rw [if_neg h', if_neg hi]⟩
set_option maxHeartbeats 4000000 in
theorem path_in (ls : List Nd) (A : Option Addr) (n c : Nat) (i : Int) (w : World) (hn : n ≤ 9223372036854775807) (h : Hid (InN w A n c ls)) (hT : Hid (Tabs w)) :
    CallsIn Fence.wide 6 Tryd.prog 16 #[.slice A n c, .int .i64 i] w fun e w' => ∃ A' n' c', e = .returned (.tuple #[.slice A' n' c', .int .i64 (pathE ls i)]) ∧ InN w' A' n' c' (pathR ls i) ∧ Below w.heap.size w w' := by
  have HNE := Lib.hid (show ls.length = n from h.out.len)
  have HB0 := Lib.hid (((Below.refl _ w).alloc (Nat.le_refl _) (.cells #[.slice A n c] 22)).alloc (by simp) (.cells #[.slice none 0 0] 22))
  have HIN := Lib.hid (h.out.below HB0.out)
  have HT1 := Lib.hid (hT.out.below HB0.out)
  have c0 := Boxed.new w 22 (.slice A n c)
  have c1 := Boxed.new (w.alloc (.cells #[.slice A n c] 22)) 22 (.slice none 0 0)
  have C0 := Lib.hid (c0.alloc (.cells #[.slice none 0 0] 22))
  simp only [World.size_alloc] at c1
  have C1 := Lib.hid c1
  clear c0 c1
  refine callsIn_of_wp_marks Tryd.func16 rfl trivial ?_ rfl
  simp only [Tryd.ntmps16, List.size_toArray, List.length_cons, List.length_nil, Nat.reduceAdd, Nat.reduceSub, Array.replicate_succ, Array.replicate_zero, List.push_toArray, List.append_toArray, List.nil_append, List.cons_append]
  rw [wpIn_wide]
  go_wp2_with fail
  generalize (w.alloc (.cells #[.slice A n c] 22)).alloc (.cells #[.slice none 0 0] 22) = W1 at *
  refine (root_any ls A n c _ hn HIN HT1).mono ?_
  rintro e W2 ⟨rfl, hq⟩
  have HS1 : Hid (w.heap.size + 1 < W1.heap.size) := Lib.hid C1.out.lt
  have HB2 := Lib.hid (HB0.out.trans (hq.mono HB0.out.size))
  have C02 := Lib.hid (show Boxed W2 _ _ _ from (hq.block _ (by have := HS1.out; omega)).trans C0.out)
  have C12 := Lib.hid (show Boxed W2 _ _ _ from (hq.block _ HS1.out).trans C1.out)
  have HIN2 := Lib.hid (HIN.out.below hq)
  have HT2 := Lib.hid (HT1.out.below hq)
  clear hq HS1 HIN HT1 C0 C1 HB0
  have HRK : Hid (NdOk (rootR ls)) := Lib.hid (rootR_ok h.out.ok)
  obtain ⟨r, HR⟩ : ∃ r, Hid (rootR ls = r) := ⟨_, Lib.hid rfl⟩
  rw [HR.out] at HRK
  rw [HR.out]
  have HSR : Hid ((Tryd.prog.info? 26).map (·.size) = some (ndC r).toArray.size) := Lib.hid (by rw [size34 HRK.out]; simp)
  have HSZ2 : Hid (34 = (ndC r).toArray.size) := Lib.hid (by simp [ndC_length HRK.out])
  have HRZ := Lib.hid (heap_alloc_new W2 (.cells (ndC zeroN).toArray 26))
  obtain ⟨W3, HW3⟩ : ∃ W3, Hid ((W2.alloc (.cells (ndC zeroN).toArray 26)).setRow W2.heap.size (ndC r).toArray = W3) := ⟨_, Lib.hid rfl⟩
  have hlr := laid_row W2 (ndC zeroN).toArray (ndC r).toArray 26
  rw [HW3.out] at hlr
  have HB3 := Lib.hid (HB2.out.trans (hlr.1.mono HB2.out.size))
  have C03 := Lib.hid (show Boxed W3 _ _ _ from (hlr.1.block _ C02.out.lt).trans C02.out)
  have C13 := Lib.hid (show Boxed W3 _ _ _ from (hlr.1.block _ C12.out.lt).trans C12.out)
  have HIN3 := Lib.hid (HIN2.out.below hlr.1)
  have HT3 := Lib.hid (HT2.out.below hlr.1)
  clear hlr HB2 C02 C12 HIN2 HT2
  have k0 := C03.out.cell
  have k1 := C13.out.cell
  have k2 := C13.out.frozen
  rw [zeroN_cells] at HRZ HW3
  by_cases he : rootE ls = 0
  · rw [he]
    by_cases hi : i < 0 ∨ (n : Int) ≤ i
    · have HE := Lib.hid (pathR_arg he (by rw [HNE.out]; exact hi))
      rcases hi with hi | hi
      · have d1 : decide (i < 0) = true := decide_eq_true hi
        go_wp2_with (refine wpList_store_row rfl 26 (.tmp 6) (.tmp 15) rfl W2.heap.size (ndC r).toArray rfl rfl 26 _ HRZ.out HSR.out HSZ2.out (ndC_one r) ?_; rw [HW3.out])
        exact ⟨_, path_results rfl rfl (C13.out.set _), none, 0, 0, by rw [HE.out.2], by rw [HE.out.1]; exact InN.none _, HB3.out.setCell (p := ⟨w.heap.size + 1, 0, none⟩) (Nat.le_succ _) _⟩
      · have d1 : decide (i < 0) = false := decide_eq_false (by omega)
        have d2 : decide ((n : Int) ≤ i) = true := decide_eq_true hi
        go_wp2_with (refine wpList_store_row rfl 26 (.tmp 6) (.tmp 15) rfl W2.heap.size (ndC r).toArray rfl rfl 26 _ HRZ.out HSR.out HSZ2.out (ndC_one r) ?_; rw [HW3.out])
        exact ⟨_, path_results rfl rfl (C13.out.set _), none, 0, 0, by rw [HE.out.2], by rw [HE.out.1]; exact InN.none _, HB3.out.setCell (p := ⟨w.heap.size + 1, 0, none⟩) (Nat.le_succ _) _⟩
    · have HE := Lib.hid (pathR_yes he (by rw [HNE.out]; exact hi))
      obtain ⟨k, rfl⟩ : ∃ k : Nat, i = (k : Int) := ⟨i.toNat, by omega⟩
      have hkn : k < n := by omega
      have HRY : Hid (ls.length ≤ 4096 ∧ vL ls = true) := Lib.hid (by unfold rootE at he; split at he; assumption; exact absurd he (by decide))
      have hn4 : n ≤ 4096 := by rw [← HNE.out]; exact HRY.out.1
      have d1 : decide ((k : Int) < 0) = false := decide_eq_false (by omega)
      have d2 : decide ((n : Int) ≤ (k : Int)) = false := decide_eq_false (by omega)
      have d3 : decide (n ≤ k) = false := decide_eq_false (by omega)
      clear hi
      go_wp2_with (refine wpList_store_row rfl 26 (.tmp 6) (.tmp 15) rfl W2.heap.size (ndC r).toArray rfl rfl 26 _ HRZ.out HSR.out HSZ2.out (ndC_one r) ?_; rw [HW3.out])
      refine (way_any k n W3).mono ?_
      rintro e W4 ⟨rfl, rfl⟩
      have ca := Boxed.new W3 3 (.int .i64 (k : Nat))
      have cn := Boxed.new (W3.alloc (.cells #[.int .i64 (k : Nat)] 3)) 3 (.int .i64 (n : Nat))
      have ca2 := ca.alloc (.cells #[.int .i64 (n : Nat)] 3)
      simp only [World.size_alloc] at cn
      have hb4 := ((Below.refl _ W3).alloc (Nat.le_refl _) (.cells #[.int .i64 (k : Nat)] 3)).alloc (by simp) (.cells #[.int .i64 (n : Nat)] 3)
      have HB4 := Lib.hid (HB3.out.trans (hb4.mono HB3.out.size))
      have C04 := Lib.hid (show Boxed ((W3.alloc (.cells #[.int .i64 (k : Nat)] 3)).alloc (.cells #[.int .i64 (n : Nat)] 3)) _ _ _ from (hb4.block _ C03.out.lt).trans C03.out)
      have C14 := Lib.hid (show Boxed ((W3.alloc (.cells #[.int .i64 (k : Nat)] 3)).alloc (.cells #[.int .i64 (n : Nat)] 3)) _ _ _ from (hb4.block _ C13.out.lt).trans C13.out)
      have HIN4 := Lib.hid (HIN3.out.below hb4)
      have HT4 := Lib.hid (HT3.out.below hb4)
      have CA := Lib.hid ca2
      have CN := Lib.hid cn
      have HNA0 : W3.heap.size ≠ w.heap.size + 1 := by have := C13.out.lt; omega
      clear ca cn ca2 hb4 HB3 C03 C13 HIN3 HT3 k0 k1 k2
      obtain ⟨ba, hba⟩ : ∃ ba, W3.heap.size = ba := ⟨_, rfl⟩
      rw [hba] at CA CN HNA0
      rw [hba]
      have HBA : Hid (ba < ((W3.alloc (.cells #[.int .i64 (k : Nat)] 3)).alloc (.cells #[.int .i64 (n : Nat)] 3)).heap.size ∧ ba + 1 < ((W3.alloc (.cells #[.int .i64 (k : Nat)] 3)).alloc (.cells #[.int .i64 (n : Nat)] 3)).heap.size) := Lib.hid ⟨CA.out.lt, CN.out.lt⟩
      generalize (W3.alloc (.cells #[.int .i64 (k : Nat)] 3)).alloc (.cells #[.int .i64 (n : Nat)] 3) = W4 at *
      have HNA : Hid (ba ≠ w.heap.size + 1) := Lib.hid HNA0
      clear HW3 HRZ hba HNA0
      go_wp2_with fail
      refine (wpIn_wide (n := 6)).1 ?_
      refine wpIn_rangeFunc_ownH rfl (by omega) (gf := 53) (lb := #[.pointer (some ⟨ba + 1, 0, none⟩), .pointer (some ⟨ba, 0, none⟩)]) rfl trivial (enters_of Tryd.func53 (by kernel_rfl) rfl)
        (way1_stops ba (ba + 1) k n hn4 hkn W4 HBA.out.1 HBA.out.2 CA.out.cell CN.out.cell) (fun h h' => h'.trans h)
        (fun W l o o' hl h h1 h2 => (belowK_b (Nat.le_refl _) W l o o' hl h h1 h2).cell (p := ⟨ba, 0, none⟩) HBA.out.1) (Below.refl _ _) (fun _ => rfl)
        (fun pre W => (Boxed W w.heap.size 22 (.slice A n c) ∧ (∃ v, Boxed W (w.heap.size + 1) 22 v ∧ OwnN W w.heap.size v (ndsOf ls n pre)) ∧ Boxed W ba 3 (.int .i64 (k : Nat))) ∧ Below w.heap.size w W)
        (fun _ _ _ => False)
        (OwnFrom.and (OwnFrom.and (Own.from (boxed_own _ _ _) _) (OwnFrom.and (Own.from (own_own _ _ _ _) _) (Own.from (boxed_own _ _ _) _))) (ownFrom_below (Nat.le_refl _) HB4.out.size))
        (fun _ _ _ _ _ hs _ _ => hs)
        ⟨⟨C04.out, ⟨_, C14.out, OwnN.nil _ _⟩, CA.out⟩, HB4.out⟩
        (fun x a' W => ∃ sb, a' = { tmps := #[.slice A n c, .int .i64 (k : Nat), .pointer (some ⟨w.heap.size, 0, none⟩), undef, .pointer (some ⟨w.heap.size + 1, 0, none⟩), .int .i64 0, .pointer (some ⟨W2.heap.size, 0, none⟩), .int .i64 0, undef, .pointer (some ⟨sb, 0, none⟩), undef, undef, .tuple #[ndV r, .int .i64 0], .slice A n c, .tuple #[ndV r, .int .i64 0], ndV r, .int .i64 0, .int .i64 0, .bool false, undef, .int .i64 (k : Nat), .bool false, .bool false, .int .i64 (k : Nat), .slice A n c, .int .i64 (n : Nat), .bool false, .bool false, .int .i64 (k : Nat), .slice A n c, .int .i64 (n : Nat), .func (.func 53) #[] #[.pointer (some ⟨ba + 1, 0, none⟩), .pointer (some ⟨ba, 0, none⟩)], .bool x.1.1, spV x.1, undef, undef, undef, undef, undef, undef, undef, undef, undef, undef, undef, undef, undef, undef, undef, undef, undef], defers := [] } ∧ W.heap[sb]? = some (.cells #[.int .i64 (x.1.2.1 : Nat), .int .i64 (x.1.2.2 : Nat)] 68 (0, 0)))
        (fun x a' s X Y row hs hg hrow => by
          obtain ⟨sb, e, hr⟩ := hs
          exact ⟨sb, e, row_own sb _ _ () X Y row hr hg (fun r e => (hrow r e).2)⟩)
        ?assign ?body ?done ?stop
      case assign =>
        rintro l pre ⟨⟨rt, fr, to⟩, hx1, hx2⟩ W K ⟨⟨b0, ⟨v, b1, hO⟩, bA⟩, hB⟩ hK
        simp only [spE, spV]
        have hbb : Below W.heap.size W (W.alloc (.cells #[.int .i64 (fr : Nat), .int .i64 (to : Nat)] 68)) := (Below.refl _ _).alloc (Nat.le_refl _) _
        gi_wp2_with fail
        refine hK _ _ ((others_of_below hbb).from _) (hbb.cell (p := ⟨ba, 0, none⟩) bA.lt) ⟨⟨b0.alloc _, ⟨v, b1.alloc _, hO.below hbb⟩, bA.alloc _⟩, hB.trans (hbb.mono hB.size)⟩ ⟨_, rfl, heap_alloc_new _ _⟩
      case body =>
        rintro l pre ⟨⟨rt, fr, to⟩, hx1, hx2⟩ a' W _ _ ⟨⟨b0, ⟨v, b1, hO⟩, bA⟩, hB⟩ ⟨sb, rfl, hsb⟩ hlen
        obtain ⟨g, off, rfl, hg, hr0⟩ := h.out.rd (by rw [HNE.out]; omega)
        clear hr0
        have hcap := h.out.cap
        have hx1' : fr < to := hx1
        have hx2' : to ≤ n := hx2
        have HIW := h.out.below hB
        have HTW := Lib.hid (hT.out.below hB)
        have HSG : Hid (InN W (some ⟨g, off + fr * 34, none⟩) (to - fr) (c - fr) (seg ls fr to)) := Lib.hid ((HIW.take to hx2').drop fr (by omega))
        have HSRR := Lib.hid (seg_rootR (ls := ls) HRY.out.1 HRY.out.2 hx1' (by rw [HNE.out]; exact hx2'))
        have HNK := Lib.hid (seg_root_ok (ls := ls) h.out.ok HRY.out.2 hx1' (by rw [HNE.out]; exact hx2'))
        have HOKS := Lib.hid (ndsOf_ok (ls := ls) h.out.ok HRY.out.2 HNE.out pre)
        have HNL : Hid ((ndsOf ls n pre).length ≤ 100000) := Lib.hid (by unfold ndsOf; rw [List.length_map]; omega)
        have HNX : Hid (ndsOf ls n (pre ++ [⟨(rt, fr, to), ⟨hx1, hx2⟩⟩]) = ndsOf ls n pre ++ [root (seg ls fr to)]) := Lib.hid (by unfold ndsOf; rw [List.map_append]; rfl)
        obtain ⟨ps, HPS⟩ : ∃ ps, Hid (ndsOf ls n pre = ps) := ⟨_, Lib.hid rfl⟩
        rw [HPS.out] at hO HOKS HNL HNX
        obtain ⟨q, HQ⟩ : ∃ q, Hid (root (seg ls fr to) = q) := ⟨_, Lib.hid rfl⟩
        rw [HQ.out] at HSRR HNK HNX
        have HS1 : Hid ((Tryd.prog.info? 26).map (·.size) = some (ndC q).toArray.size) := Lib.hid (by rw [size34 HNK.out]; simp)
        have HS2 : Hid (34 = (ndC q).toArray.size) := Lib.hid (by simp [ndC_length HNK.out])
        have m0 := b0.cell
        have m1 : W.cell? ⟨sb, 0, none⟩ = some (.int .i64 (fr : Nat)) := by rw [cell_of_row _ _ _ _ _ _ hsb]; rfl
        have m2 : W.cell? ⟨sb, 1, none⟩ = some (.int .i64 (to : Nat)) := by rw [cell_of_row _ _ _ _ _ _ hsb]; rfl
        have hfc : fr ≤ c := by omega
        have hto : to ≤ c := by omega
        have hft : fr ≤ to := by omega
        simp only [spV]
        gi_wp2_with fail
        refine ⟨trivial, ?_⟩
        refine (CallsIn.inRound l (callsIn_wide.2 (root_any (seg ls fr to) _ (to - fr) (c - fr) W (by omega) HSG HTW))).mono ?_
        rintro e W5 ⟨rfl, hq⟩
        rw [HSRR.out.1, HSRR.out.2]
        have HRZ5 := Lib.hid (heap_alloc_new W5 (.cells (ndC zeroN).toArray 26))
        obtain ⟨W6, HW6⟩ : ∃ W6, Hid ((W5.alloc (.cells (ndC zeroN).toArray 26)).setRow W5.heap.size (ndC q).toArray = W6) := ⟨_, Lib.hid rfl⟩
        have hlr := laid_row W5 (ndC zeroN).toArray (ndC q).toArray 26
        rw [HW6.out] at hlr
        have hb6 := hq.trans (hlr.1.mono hq.size)
        have HB6 := Lib.hid (hB.trans (hb6.mono hB.size))
        have B0 := Lib.hid (show Boxed W6 _ _ _ from (hb6.block _ b0.lt).trans b0)
        have B1 := Lib.hid (show Boxed W6 _ _ _ from (hb6.block _ b1.lt).trans b1)
        have BA := Lib.hid (show Boxed W6 _ _ _ from (hb6.block _ bA.lt).trans bA)
        have HO6 := Lib.hid (hO.below hb6)
        have HR6 := Lib.hid hlr.2.2
        have HKO := Lib.hid ((others_of_below hq).trans (others_of_below hlr.1))
        have HBA0 := Lib.hid bA
        have HA6 := Lib.hid (OwnN.below HO6.out ((Below.refl _ W6).alloc (Nat.le_refl _) (.cells (flatN [q]).toArray 26)))
        have HSW : Hid (w.heap.size ≤ (W6.alloc (.cells (flatN [q]).toArray 26)).heap.size) := Lib.hid (by rw [World.size_alloc]; have := HB6.out.size; omega)
        have HRF := Lib.hid (heap_alloc_new W6 (.cells (flatN [q]).toArray 26))
        have n1 := B1.out.cell
        have n1' : (W6.alloc (.cells (flatN [q]).toArray 26)).cell? ⟨w.heap.size + 1, 0, none⟩ = some v := (B1.out.alloc _).cell
        obtain ⟨A', n', c', rfl⟩ := hO.form
        rw [zeroN_cells] at HRZ5 HW6
        clear m0 m1 m2 hlr hb6 hq b0 b1 bA hB hO hsb HIW HSG HTW
        gi_wp2_with (first | (refine wpListIn_store_row rfl 26 (.tmp 10) (.tmp 42) rfl W5.heap.size (ndC q).toArray rfl rfl 26 _ HRZ5.out HS1.out HS2.out (ndC_one q) ?_; rw [HW6.out]) | (refine wpListIn_load_row rfl 26 (.tmp 10) rfl W5.heap.size rfl 26 _ (0, 0) _ HR6.out Tryd.underlying26 rfl HS1.out ?_) | (refine wpListIn_build_nodes1 rfl (.tmp 45) rfl q rfl HNK.out ?_) | (refine wpListIn_append_node rfl (.tmp 44) (.tmp 46) rfl w.heap.size _ ps q rfl HA6 HNK.out W6.heap.size rfl HRF HNL.out HSW.out ?_; intro v2 w2 HO2 HG2; obtain ⟨a1, a2, a3, a4, a5⟩ := Boxed.appended B1.out (by decide) HO6.out HB6.out.size (Nat.le_succ _) HO2.out HG2.out; have q1 := a1.cell; have q2 := a1.frozen; obtain ⟨A2, n2, c2, rfl⟩ := HO2.out.form))
        have b8 := (B0.out.alloc (.cells (flatN [q]).toArray 26)).kept HG2.out (B0.out.not_row (by decide) HO6.out)
        have bA8 := (BA.out.alloc (.cells (flatN [q]).toArray 26)).kept HG2.out (BA.out.not_row (by decide) HO6.out)
        have b9 := b8.other (B' := w.heap.size + 1) (by omega) (.slice A2 n2 c2)
        have bA9 := bA8.other (B' := w.heap.size + 1) HNA.out (.slice A2 n2 c2)
        refine ⟨(HKO.out.trans a4).from _, bA9.cell.trans HBA0.out.cell.symm, ⟨b9, ⟨_, a2, ?_⟩, bA9⟩, HB6.out.trans (a5.mono (Nat.le_refl _))⟩
        rw [HNX.out]; unfold OwnN; rw [flatN_append]
        have := a3
        unfold OwnN at this
        rw [flatN_append] at this
        exact this
      case done =>
        rintro D xs W hD hS ⟨⟨b0, ⟨v, b1, hO⟩, bA⟩, hB⟩ hK
        have HNW := Lib.hid (ndsOf_way (ls := ls) HNE.out hS)
        have HOKS := Lib.hid (ndsOf_ok (ls := ls) h.out.ok HRY.out.2 HNE.out xs)
        have HXL : Hid ((ndsOf ls n xs).length ≤ 1000000) := Lib.hid (by
          have h1 := congrArg List.length hS
          have h2 := wayF_length n k 0 n
          rw [List.length_map] at h1
          unfold ndsOf way at *; rw [List.length_map]; omega)
        obtain ⟨A', n', c', rfl, hin, hth⟩ := hO.slice HOKS.out
        have hn' : n' ≤ 1000000 := by rw [← hin.len]; exact HXL.out
        have m1 := b1.cell
        go_wp2_with fail
        refine (rev_any _ A' n' c' w.heap.size W hn' (Lib.hid hin) (Lib.hid hth) hB.size).mono ?_
        rintro e W9 ⟨⟨v9, rfl⟩, hin9, hg9⟩
        rw [HNW.out] at hin9
        have hnr := b1.not_row (by decide) hO
        have b19 := b1.kept hg9 hnr
        have HB9 := Lib.hid (below_grown hB hg9 (fun k hk => (hO.block k hk).1) (Nat.le_refl _))
        have hDK : W9.heap[D]? = some (.deferred (some [])) := (hg9.block D (Array.getElem?_eq_some_iff.1 hK).1 (fun e => by obtain ⟨_, _, cur, hc⟩ := hO.block D e.symm; rw [hK] at hc; cases hc)).trans hK
        have HIN9 := Lib.hid hin9
        have m9 := b19.cell
        have f9 := b19.frozen
        have HD : Hid (D ≠ w.heap.size + 1) := Lib.hid (by have := C14.out.lt; omega)
        have HGA : Hid (∀ g o, A' = some ⟨g, o, none⟩ → g ≠ w.heap.size + 1) := Lib.hid (fun g o e e2 => by subst e; subst e2; exact hnr rfl)
        have HDK := Lib.hid hDK
        clear m1 b0 bA hO hin hth hK hnr hg9 hDK hin9
        go_wp2_with fail
        have hDK2 : (W9.setCell ⟨w.heap.size + 1, 0, none⟩ (.slice A' n' c')).heap[D]? = some (.deferred (some [])) := (Below.heap_setCell W9 ⟨w.heap.size + 1, 0, none⟩ (.slice A' n' c') D HD.out).trans HDK.out
        refine ⟨by simp, .inl ⟨_, _, rfl, run_takeDeferred hDK2, ?_⟩⟩
        have b20 := (b19.set (.slice A' n' c')).kept (grownBy_putObj' _ D (.deferred none)) (fun e => HD.out (by cases e; rfl))
        refine ⟨_, path_results rfl rfl b20, A', n', c', by rw [HE.out.2], ?_, ?_⟩
        · rw [HE.out.1]
          have hin10 := HIN9.out.kept (w' := W9.setCell ⟨w.heap.size + 1, 0, none⟩ (.slice A' n' c')) (by simp) (fun g o e => Below.heap_setCell W9 ⟨w.heap.size + 1, 0, none⟩ (.slice A' n' c') g (HGA.out g o e))
          exact hin10.putObj D _ _ hDK2 rfl
        · refine (HB9.out.setCell (p := ⟨w.heap.size + 1, 0, none⟩) (Nat.le_succ _) (.slice A' n' c')).trans ?_
          exact belowK_b (w := W4) (n₀ := w.heap.size) HB4.out.size _ D _ _ hD hDK2 rfl rfl
      case stop =>
        rintro D c pre W _ _ h _
        exact h.elim
  · have he2 : rootE ls = 410 := by unfold rootE at he ⊢; split at he; exact absurd rfl he; rw [if_neg (by assumption)]
    rw [he2]
    go_wp2_with (refine wpList_store_row rfl 26 (.tmp 6) (.tmp 15) rfl W2.heap.size (ndC r).toArray rfl rfl 26 _ HRZ.out HSR.out HSZ2.out (ndC_one r) ?_; rw [HW3.out])
    have HE := Lib.hid (pathR_bad (ls := ls) (i := i) he)
    exact ⟨_, path_results rfl rfl (C13.out.set _), none, 0, 0, by rw [HE.out.2], by rw [HE.out.1]; exact InN.none _, HB3.out.setCell (p := ⟨w.heap.size + 1, 0, none⟩) (Nat.le_succ _) _⟩
theorem path_any (ls : List Nd) (A : Option Addr) (n c : Nat) (i : Int) (w : World) (hn : n ≤ 9223372036854775807) (h : Hid (InN w A n c ls)) (hT : Hid (Tabs w)) :
    Calls Tryd.prog 16 #[.slice A n c, .int .i64 i] w fun e w' => ∃ A' n' c', e = .returned (.tuple #[.slice A' n' c', .int .i64 (pathE ls i)]) ∧ InN w' A' n' c' (pathR ls i) ∧ Below w.heap.size w w' :=
  (callsIn_wide.1 (path_in ls A n c i w hn h hT)).mono fun _ _ h => h
end Go.Proofs.YtgcmbiegbclhmaaDoor
