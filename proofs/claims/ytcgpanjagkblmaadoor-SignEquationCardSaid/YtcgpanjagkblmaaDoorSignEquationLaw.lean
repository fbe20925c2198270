/- SignEquation: for every number, message and signature the law returns true: Verify is the equation of Schnorr. No conditions. -/
import Derived.Test.YtcgpanjagkblmaaDoorLawKit
import Derived.Test.YtcgpanjagkblmaaDoorSane04
import Derived.Lib.SmallJoins
import Derived.Test.YtcgpanjagkblmaaDoorCards
import Derived.Test.YtcgpanjagkblmaaDoorTie
namespace Go.Proofs.YtcgpanjagkblmaaDoor.signEquation
open Go.ChangeShapes Go.WideShapes Go.ChangeAt Go.RowKit SzSha SzGrp
set_option linter.unusedVariables false
set_option maxRecDepth 100000 in
set_option maxHeartbeats 4000000 in
theorem eq_cases (e1 e2 e3 a b : Int) (V : Bool) (h : V = ((e1 == 0) && (e2 == 0) && (e3 == 0) && (a == b))) :
    (e1 == 0) = false ∧ V = false ∨ (e1 == 0) = true ∧ (e2 == 0) = false ∧ V = false ∨ (e1 == 0) = true ∧ (e2 == 0) = true ∧ (e3 == 0) = false ∧ V = false ∨ (e1 == 0) = true ∧ (e2 == 0) = true ∧ (e3 == 0) = true ∧ (a == b) = V := by
  subst h
  cases (e1 == 0) <;> cases (e2 == 0) <;> cases (e3 == 0) <;> simp
set_option maxRecDepth 100000 in
set_option maxHeartbeats 4000000 in
theorem go (p : Int) (A : Option Addr) (n c : Nat) (l : List Nat) (r s : Int) (w : World) (hp1 : -9223372036854775808 ≤ p) (hp2 : p ≤ 9223372036854775807) (hr1 : -9223372036854775808 ≤ r) (hr2 : r ≤ 9223372036854775807) (hs1 : -9223372036854775808 ≤ s) (hs2 : s ≤ 9223372036854775807) (hn : n ≤ 1000) (hT : Hid (Tabs w)) (hl : Hid (In w A n c l)) :
    Calls Tryd.prog 7 #[.int .i64 p, .slice A n c, .agg #[.int .i64 r, .int .i64 s]] w fun e w' => e = .returned (.bool true) ∧ Below w.heap.size w w' := by
  obtain ⟨q, HQ⟩ : ∃ q, Hid (chal p r l = q) := ⟨_, Lib.hid rfl⟩
  have QB : Hid (1 ≤ q ∧ q < 2305843009213688669) := Lib.hid (by rw [← HQ.out]; exact chal_bd p r l)
  obtain ⟨z, HZ⟩ : ∃ z, Hid (expV p q = z) := ⟨_, Lib.hid rfl⟩
  have ZB : Hid (-9223372036854775808 ≤ z ∧ z ≤ 9223372036854775807) := Lib.hid (by rw [← HZ.out]; exact expV_bd p q)
  obtain ⟨a, HA⟩ : ∃ a, Hid (expV 4 s = a) := ⟨_, Lib.hid rfl⟩
  obtain ⟨b, HB⟩ : ∃ b, Hid (mulV r z = b) := ⟨_, Lib.hid rfl⟩
  obtain ⟨e1, HE1⟩ : ∃ e1, Hid (expE 4 s = e1) := ⟨_, Lib.hid rfl⟩
  obtain ⟨e2, HE2⟩ : ∃ e2, Hid (expE p q = e2) := ⟨_, Lib.hid rfl⟩
  obtain ⟨e3, HE3⟩ : ∃ e3, Hid (mulE r z = e3) := ⟨_, Lib.hid rfl⟩
  obtain ⟨V, HV⟩ : ∃ V, Hid (vfy p l r s = V) := ⟨_, Lib.hid rfl⟩
  have HVV : Hid (V = ((e1 == 0) && (e2 == 0) && (e3 == 0) && (a == b))) := Lib.hid (by rw [← HV.out, ← HE1.out, ← HE2.out, ← HE3.out, ← HA.out, ← HB.out, ← HZ.out, ← HQ.out]; exact vfy_eq p l r s)
  have PB := Lib.hid (And.intro hp1 hp2)
  have RB := Lib.hid (And.intro hr1 hr2)
  have SB := Lib.hid (And.intro hs1 hs2)
  clear hp1 hp2 hr1 hr2 hs1 hs2
  have H0 := Lib.hid (heap_alloc_new w (.cells #[.int .i64 r, .int .i64 s] 30))
  have HB0 := Lib.hid ((Below.refl _ w).alloc (Nat.le_refl _) (.cells #[.int .i64 r, .int .i64 s] 30))
  have q2 : decide ((1000 : Int) < (n : Int)) = false := decide_eq_false (by omega)
  have q4 : decide (1000 < n) = false := decide_eq_false (by omega)
  go_enter Tryd.func7, Tryd.ntmps7
  go_wp2_with fail
  refine (sane_any _ (Lib.hid (hT.out.below HB0.out))).mono ?_
  rintro e w1 ⟨rfl, hq⟩
  have HB1 := Lib.hid (HB0.out.trans (hq.mono HB0.out.size))
  have H1 := Lib.hid ((hq.block w.heap.size (Array.getElem?_eq_some_iff.1 H0.out).1).trans H0.out)
  clear hq
  have c0 : w1.cell? ⟨w.heap.size, 0, none⟩ = some (.int .i64 r) := by rw [cell_of_row _ _ _ _ _ _ H1.out]; rfl
  have c1 : w1.cell? ⟨w.heap.size, 1, none⟩ = some (.int .i64 s) := by rw [cell_of_row _ _ _ _ _ _ H1.out]; rfl
  go_wp2_with fail
  clear c0 c1
  refine (base_any s _ SB.out.1 SB.out.2).mono ?_
  rintro e w2 ⟨rfl, hq⟩
  rw [HA.out, HE1.out]
  have HB2 := Lib.hid (HB1.out.trans (hq.mono HB1.out.size))
  have H2 := Lib.hid ((hq.block w.heap.size (Array.getElem?_eq_some_iff.1 H1.out).1).trans H1.out)
  clear hq
  have c0 : w2.cell? ⟨w.heap.size, 0, none⟩ = some (.int .i64 r) := by rw [cell_of_row _ _ _ _ _ _ H2.out]; rfl
  go_wp2_with fail
  clear c0
  refine (challenge_any p r A n c l _ (by omega) (Lib.hid (hT.out.below HB2.out)) (Lib.hid (hl.out.below HB2.out))).mono ?_
  rintro e w3 ⟨rfl, hq⟩
  rw [HQ.out]
  have HB3 := Lib.hid (HB2.out.trans (hq.mono HB2.out.size))
  have H3 := Lib.hid ((hq.block w.heap.size (Array.getElem?_eq_some_iff.1 H2.out).1).trans H2.out)
  clear hq
  go_wp2_with fail
  refine (exp_any p q _ PB.out.1 PB.out.2 (by have := QB.out; omega) (by have := QB.out; omega)).mono ?_
  rintro e w4 ⟨rfl, hq⟩
  rw [HZ.out, HE2.out]
  have HB4 := Lib.hid (HB3.out.trans (hq.mono HB3.out.size))
  have H4 := Lib.hid ((hq.block w.heap.size (Array.getElem?_eq_some_iff.1 H3.out).1).trans H3.out)
  clear hq
  have c0 : w4.cell? ⟨w.heap.size, 0, none⟩ = some (.int .i64 r) := by rw [cell_of_row _ _ _ _ _ _ H4.out]; rfl
  go_wp2_with fail
  clear c0
  refine (mul_any r z _ RB.out.1 RB.out.2 ZB.out.1 ZB.out.2).mono ?_
  rintro e w5 ⟨rfl, hq⟩
  rw [HB.out, HE3.out]
  have HB5 := Lib.hid (HB4.out.trans (hq.mono HB4.out.size))
  have H5 := Lib.hid ((hq.block w.heap.size (Array.getElem?_eq_some_iff.1 H4.out).1).trans H4.out)
  clear hq
  have c0 : w5.cell? ⟨w.heap.size, 0, none⟩ = some (.int .i64 r) := by rw [cell_of_row _ _ _ _ _ _ H5.out]; rfl
  have c1 : w5.cell? ⟨w.heap.size, 1, none⟩ = some (.int .i64 s) := by rw [cell_of_row _ _ _ _ _ _ H5.out]; rfl
  go_wp2_with fail
  clear c0 c1
  refine (Verify_any p r s A n c l _ PB.out RB.out SB.out (by omega) (Lib.hid (hT.out.below HB5.out)) (Lib.hid (hl.out.below HB5.out))).mono ?_
  rintro e w6 ⟨rfl, hq⟩
  rw [HV.out]
  have HB6 := Lib.hid (HB5.out.trans (hq.mono HB5.out.size))
  clear hq
  rcases eq_cases e1 e2 e3 a b V HVV.out with ⟨h1, rfl⟩ | ⟨h1, h2, rfl⟩ | ⟨h1, h2, h3, rfl⟩ | ⟨h1, h2, h3, h4⟩
  · go_wp2_with fail
    go_ret
    exact ⟨rfl, HB6.out⟩
  · go_wp2_with fail
    go_ret
    exact ⟨rfl, HB6.out⟩
  · go_wp2_with fail
    go_ret
    exact ⟨rfl, HB6.out⟩
  · cases V
    · go_wp2_with fail
      go_ret
      exact ⟨rfl, HB6.out⟩
    · go_wp2_with fail
      go_ret
      exact ⟨rfl, HB6.out⟩
set_option maxRecDepth 100000 in
set_option maxHeartbeats 4000000 in
theorem big (p : Int) (A : Option Addr) (n c : Nat) (r s : Int) (w : World) (hT : Hid (Tabs w)) (a1 : n ≤ 140737488351232) (h : 1000 < n) :
    Calls Tryd.prog 7 #[.int .i64 p, .slice A n c, .agg #[.int .i64 r, .int .i64 s]] w fun e w' => e = .returned (.bool true) ∧ Below w.heap.size w w' := by
  have q2 : decide ((1000 : Int) < (n : Int)) = true := decide_eq_true (by omega)
  have q4 : decide (1000 < n) = true := decide_eq_true (by omega)
  have HB0 := Lib.hid ((Below.refl _ w).alloc (Nat.le_refl _) (.cells #[.int .i64 r, .int .i64 s] 30))
  clear h
  go_enter Tryd.func7, Tryd.ntmps7
  go_wp2_with fail
  refine (sane_any _ (Lib.hid (hT.out.below HB0.out))).mono ?_
  rintro e w1 ⟨rfl, hq⟩
  have HB1 := Lib.hid (HB0.out.trans (hq.mono HB0.out.size))
  clear hq
  go_wp2_with fail
  go_ret
  exact ⟨rfl, HB1.out⟩
theorem walk (w : World) (hT : Tabs w) (p : Int) (hp1 : -9223372036854775808 ≤ p) (hp2 : p ≤ 9223372036854775807) (A : Option Addr) (n c : Nat) (l : List Nat) (hl : In w A n c l) (a3 : n ≤ 140737488351232) (r : Int) (hr1 : -9223372036854775808 ≤ r) (hr2 : r ≤ 9223372036854775807) (s : Int) (hs1 : -9223372036854775808 ≤ s) (hs2 : s ≤ 9223372036854775807) :
    Calls Tryd.prog 7 #[.int .i64 p, .slice A n c, .agg #[.int .i64 r, .int .i64 s]] w fun e w' => e = .returned (.bool true) ∧ Below w.heap.size w w' := by
  by_cases h : 1000 < n
  · exact big p A n c r s w (Lib.hid hT) a3 h
  · exact go p A n c l r s w hp1 hp2 hr1 hr2 hs1 hs2 (by omega) (Lib.hid hT) (Lib.hid hl)
set_option maxRecDepth 100000 in
theorem lifted (os : Os) (started : os.Started) (H : Type) (enc : TypeId × Value → H) :
    ReturnsInHanded {} Tryd.checked os 7 .any (fun w args => (Rows.signEquationSpec.pre enc Tryd.prog Tryd.f7 [] false w args ∧ laidMetH Tryd.prog laidL w) ∧ sizedMet enc Tryd.prog Tryd.f7 (OpenSpec.ofChange Rows.signEquationSpec) false w args)
      (Rows.signEquationSpec.post enc Tryd.prog Tryd.f7 false true false false) := by
  refine returnsInHanded_of_change_and (C := Tryd.checked) (X := fun w _ => laidMetH Tryd.prog laidL w) (fun _ _ _ hh h => h.of_heap hh) own started (by kernel_rfl) Tryd.func7
    (ChangeSpec.witness_shaped (enc := enc) (C := Tryd.checked) (os := os) (X := fun w _ => laidMetH Tryd.prog laidL w) false (World.doorLaid Tryd.prog 400 os) #[.int .i64 0, .slice none 0 0, .agg #[.int .i64 0, .int .i64 0]] 8 rfl (World.shaped_of_RefB (by kernel_rfl) (by kernel_rfl)) (by kernel_rfl) (by kernel_rfl) (by kernel_rfl) (door_met os _)) ?_
  intro W base args ds gs before hval0 hW _ hsz0 hL _
  have hval : ∀ (j : Nat) t v, Tryd.f7.params[j]? = some t → args[j]? = some v → Value.okWide Tryd.prog W .any base t v := hval0
  have hW' := hW
  obtain ⟨p, q, hA0, hV, rfl, hfz, hnd⟩ := hW
  have hA : DataW.TrodAll enc Tryd.prog W 0 (fun _ => true) true Tryd.f7.params.toList args.toList ds p := hA0
  have hsz : (DataW.weightsEach Tryd.prog (Tryd.f7.params.toList ++ Rows.signEquationSpec.plain.varTypes Tryd.prog) (ds ++ gs)).all (· ≤ reachBytes) = true := hsz0
  rw [Tryd.params7] at hA hval hsz
  obtain ⟨v0, vs0, d0, ds0, p0, q0, hargs, rfl, rfl, h0, r0⟩ := trodAll_cons hA
  obtain ⟨v1, vs1, d1, ds1, p1, q1, rfl, rfl, rfl, h1, r1⟩ := trodAll_cons r0
  obtain ⟨v2, vs2, d2, ds2, p2, q2, rfl, rfl, rfl, h2, r2⟩ := trodAll_cons r1
  obtain ⟨rfl, rfl, rfl⟩ := trodAll_nil r2
  obtain rfl : args = #[v0, v1, v2] := by cases args; simp_all
  obtain ⟨rfl, rfl⟩ := trodVars_none hV
  obtain ⟨a0, rfl, rfl, rfl, w0⟩ := open_int Tryd.underlying3 (hval 0 3 v0 rfl rfl) h0
  have b0 := bounds_i64 w0
  obtain ⟨A1, n1, c1, l1, rfl, e1, f1, g1, y1, x1, z1⟩ := arg_bytes (hval 1 22 v1 rfl rfl) h1
  have b1 : n1 ≤ 140737488351232 := by
    rcases z1 with ⟨rfl, hz⟩ | ⟨es, sp, rfl, hz⟩
    · omega
    · have := sized_slice hsz (j := 1) rfl rfl Tryd.underlying22; rw [bytes8] at this; simp only [reachBytes] at this; omega
  obtain ⟨k2, j2, y2, z2, m2, rfl, rfl, rfl, s2, t2⟩ := Go.Joins.open_agg2 Tryd.underlying30 (by kernel_rfl) (show Tryd.prog.cellsOf 30 = 2 by kernel_rfl) (hval 2 30 v2 rfl rfl) h2
  obtain ⟨a2, e2, rfl, w2⟩ := DataW.trod_int Tryd.underlying3 s2
  obtain ⟨c2, f2, rfl, x2⟩ := DataW.trod_int Tryd.underlying3 t2
  simp only [List.cons.injEq, and_true] at e2 f2
  subst e2 f2
  have b2 := bounds_i64 w2
  have g2 := bounds_i64 x2
  refine (walk W (tabs_of hL) a0 b0.1 b0.2 A1 n1 c1 l1 ⟨e1, f1, g1, y1, x1⟩ b1 a2 b2.1 b2.2 c2 g2.1 g2.2).mono fun e W' ⟨he, hg⟩ => ?_
  subst he
  exact ⟨_, rfl, law_post (by kernel_rfl) rfl rfl (fun _ => ⟨rfl, rfl, rfl⟩) hW' hg⟩
theorem over : Rows.signEquationRow.holds Tryd.pinned (OpenSpec.ofChange Rows.signEquationSpec) :=
  OpenClaim.holds_of_wide 7 Tryd.f7 rfl rfl rfl rfl rfl rfl rfl ⟨rfl, rfl, rfl, rfl, rfl⟩ rfl rfl rfl rfl rfl (by kernel_rfl) Tryd.func7 (by kernel_rfl)
    (of_decide_eq_true (by kernel_rfl)) (by unfold Func.isWrapper; first | (rw [if_pos (by decide +kernel)]; kernel_rfl) | (rw [if_neg (by decide +kernel)]; exact ⟨rfl, rfl⟩))
    (fun os started H enc _ => lifted os started H enc)
/-- THE STATEMENT: the card -/
theorem proved : Rows.SignEquationCardSaid :=
  Claim7.holds_tied_plain_at .later [] [.data, .data] true Rows.signEquationCard.stood.harness false
    over (fun _ h => by cases h) (by kernel_rfl) (fun _ h => by cases h) signEquation_row_tie rfl ⟨rfl, rfl⟩ (by kernel_rfl) rfl
    (fun f fn hf hfn => by
      obtain rfl : f = 7 := Option.some.inj ((show Tryd.prog.funcNamed "sizar/sizarlaw04.SignEquation" = some 7 by kernel_rfl).symm.trans hf) |>.symm
      obtain rfl : fn = Tryd.f7 := (Option.some.inj (Tryd.func7.symm.trans hfn)).symm
      exact ⟨by kernel_rfl, fun j t ht => stands_of (show Tryd.f7.params.all (fun t => !Tryd.prog.wantsStandIn t) = true by kernel_rfl) ht⟩)
    (by kernel_rfl)
#print axioms proved
end Go.Proofs.YtcgpanjagkblmaaDoor.signEquation
