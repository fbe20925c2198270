/- SumsDisjoint: for every interval of a tree, valid or not, the law returns true: the parts inside follow each other, contain exactly the leaves, and are at most 24. No conditions. -/
import Derived.Test.YtmfmgeapecapiaaDoorSM17
import Derived.Test.YtmfmgeapecapiaaDoorSM2
import Derived.Test.YtmfmgeapecapiaaDoorCards
import Derived.Test.YtmfmgeapecapiaaDoorTie
import Derived.Lib.SmallJoins
namespace Go.Proofs.YtmfmgeapecapiaaDoor.sumsDisjoint
open Go.ChangeShapes Go.WideShapes Go.ChangeAt Go.RowKit SzSha SzTree
set_option linter.unusedVariables false
set_option maxRecDepth 100000
set_option maxHeartbeats 8000000 in
theorem no0 (f t m : Int) (w : World) (hT : Hid (Tabs w))  (h : f < 0) :
    Calls Tryd.prog 13 #[.int .i64 f, .int .i64 t, .int .i64 m] w fun e w' => e = .returned (.bool true) ∧ Below w.heap.size w w' := by
  have d0 : decide (f < 0) = true := decide_eq_true h
  have HN : Hid (¬ (0 ≤ f ∧ f < t ∧ t ≤ m ∧ m ≤ 4096)) := Lib.hid (by omega)
  go_enter Tryd.func13, Tryd.ntmps13
  go_wp2_with fail
  have KT0 := hT
  have HB0 := Lib.hid (Below.refl w.heap.size w)
  refine (sane43 _ KT0).mono ?_
  rintro e U1 ⟨rfl, hq⟩
  have HB2 := Lib.hid (HB0.out.trans (hq.mono HB0.out.size))
  have KT2 := Lib.hid (KT0.out.below hq)
  clear hq HB0 KT0
  go_wp2_with fail
  refine (cover_no f t m _ HN.out).mono ?_
  rintro e U3 ⟨rfl, hq⟩
  have HB4 := Lib.hid (HB2.out.trans (hq.mono HB2.out.size))
  have KT4 := Lib.hid (KT2.out.below hq)
  clear hq HB2 KT2
  go_wp2_with fail
  go_ret
  exact ⟨rfl, HB4.out⟩
set_option maxHeartbeats 8000000 in
theorem no1 (f t m : Int) (w : World) (hT : Hid (Tabs w)) (h0 : ¬ f < 0) (h : t ≤ f) :
    Calls Tryd.prog 13 #[.int .i64 f, .int .i64 t, .int .i64 m] w fun e w' => e = .returned (.bool true) ∧ Below w.heap.size w w' := by
  have d0 : decide (f < 0) = false := decide_eq_false (by omega)
  have d1 : decide (t ≤ f) = true := decide_eq_true h
  have HN : Hid (¬ (0 ≤ f ∧ f < t ∧ t ≤ m ∧ m ≤ 4096)) := Lib.hid (by omega)
  go_enter Tryd.func13, Tryd.ntmps13
  go_wp2_with fail
  have KT0 := hT
  have HB0 := Lib.hid (Below.refl w.heap.size w)
  refine (sane43 _ KT0).mono ?_
  rintro e U1 ⟨rfl, hq⟩
  have HB2 := Lib.hid (HB0.out.trans (hq.mono HB0.out.size))
  have KT2 := Lib.hid (KT0.out.below hq)
  clear hq HB0 KT0
  go_wp2_with fail
  refine (cover_no f t m _ HN.out).mono ?_
  rintro e U3 ⟨rfl, hq⟩
  have HB4 := Lib.hid (HB2.out.trans (hq.mono HB2.out.size))
  have KT4 := Lib.hid (KT2.out.below hq)
  clear hq HB2 KT2
  go_wp2_with fail
  go_ret
  exact ⟨rfl, HB4.out⟩
set_option maxHeartbeats 8000000 in
theorem no2 (f t m : Int) (w : World) (hT : Hid (Tabs w)) (h0 : ¬ f < 0) (h1 : ¬ t ≤ f) (h : m < t) :
    Calls Tryd.prog 13 #[.int .i64 f, .int .i64 t, .int .i64 m] w fun e w' => e = .returned (.bool true) ∧ Below w.heap.size w w' := by
  have d0 : decide (f < 0) = false := decide_eq_false (by omega)
  have d1 : decide (t ≤ f) = false := decide_eq_false (by omega)
  have d2 : decide (m < t) = true := decide_eq_true h
  have HN : Hid (¬ (0 ≤ f ∧ f < t ∧ t ≤ m ∧ m ≤ 4096)) := Lib.hid (by omega)
  go_enter Tryd.func13, Tryd.ntmps13
  go_wp2_with fail
  have KT0 := hT
  have HB0 := Lib.hid (Below.refl w.heap.size w)
  refine (sane43 _ KT0).mono ?_
  rintro e U1 ⟨rfl, hq⟩
  have HB2 := Lib.hid (HB0.out.trans (hq.mono HB0.out.size))
  have KT2 := Lib.hid (KT0.out.below hq)
  clear hq HB0 KT0
  go_wp2_with fail
  refine (cover_no f t m _ HN.out).mono ?_
  rintro e U3 ⟨rfl, hq⟩
  have HB4 := Lib.hid (HB2.out.trans (hq.mono HB2.out.size))
  have KT4 := Lib.hid (KT2.out.below hq)
  clear hq HB2 KT2
  go_wp2_with fail
  go_ret
  exact ⟨rfl, HB4.out⟩
set_option maxHeartbeats 8000000 in
theorem no3 (f t m : Int) (w : World) (hT : Hid (Tabs w)) (h0 : ¬ f < 0) (h1 : ¬ t ≤ f) (h2 : ¬ m < t) (h : 4096 < m) :
    Calls Tryd.prog 13 #[.int .i64 f, .int .i64 t, .int .i64 m] w fun e w' => e = .returned (.bool true) ∧ Below w.heap.size w w' := by
  have d0 : decide (f < 0) = false := decide_eq_false (by omega)
  have d1 : decide (t ≤ f) = false := decide_eq_false (by omega)
  have d2 : decide (m < t) = false := decide_eq_false (by omega)
  have d3 : decide (4096 < m) = true := decide_eq_true h
  have HN : Hid (¬ (0 ≤ f ∧ f < t ∧ t ≤ m ∧ m ≤ 4096)) := Lib.hid (by omega)
  go_enter Tryd.func13, Tryd.ntmps13
  go_wp2_with fail
  have KT0 := hT
  have HB0 := Lib.hid (Below.refl w.heap.size w)
  refine (sane43 _ KT0).mono ?_
  rintro e U1 ⟨rfl, hq⟩
  have HB2 := Lib.hid (HB0.out.trans (hq.mono HB0.out.size))
  have KT2 := Lib.hid (KT0.out.below hq)
  clear hq HB0 KT0
  go_wp2_with fail
  refine (cover_no f t m _ HN.out).mono ?_
  rintro e U3 ⟨rfl, hq⟩
  have HB4 := Lib.hid (HB2.out.trans (hq.mono HB2.out.size))
  have KT4 := Lib.hid (KT2.out.below hq)
  clear hq HB2 KT2
  go_wp2_with fail
  go_ret
  exact ⟨rfl, HB4.out⟩
set_option maxHeartbeats 8000000 in
theorem good (f t m : Nat) (w : World) (hT : Hid (Tabs w)) (h1 : f < t) (h2 : t ≤ m) (h3 : m ≤ 4096) :
    Calls Tryd.prog 13 #[.int .i64 (f : Nat), .int .i64 (t : Nat), .int .i64 (m : Nat)] w fun e w' => e = .returned (.bool true) ∧ Below w.heap.size w w' := by
  go_enter Tryd.func13, Tryd.ntmps13
  go_wp2_with fail
  have KT0 := hT
  have HB0 := Lib.hid (Below.refl w.heap.size w)
  refine (sane43 _ KT0).mono ?_
  rintro e U1 ⟨rfl, hq⟩
  have HB2 := Lib.hid (HB0.out.trans (hq.mono HB0.out.size))
  have KT2 := Lib.hid (KT0.out.below hq)
  clear hq HB0 KT0
  go_wp2_with fail
  obtain ⟨ls, HL⟩ : ∃ l, Hid ((parts f t 0 m).filter (·.ins) = l) := ⟨_, Lib.hid rfl⟩
  have HC0 : Hid (chainP f t ls) := Lib.hid (by have h := (inside_chain (f := f) (t := t) h1 0 m (by omega)).1 (by omega); rw [show max f 0 = f by omega, show min t m = t by omega, HL.out] at h; exact h)
  have HLN : Hid (ls.length ≤ 24) := Lib.hid (by rw [← HL.out]; exact inside_24 h1 (by omega) h3)
  refine (cover_yes f t m _ h1 h2 h3).mono ?_
  rintro e U3 ⟨A, n, c, rfl, hin, hq⟩
  rw [HL.out] at hin
  have KI0 := Lib.hid hin
  have hn : n ≤ 24 := by rw [← hin.len]; exact HLN.out
  clear hin
  have HB4 := Lib.hid (HB2.out.trans (hq.mono HB2.out.size))
  have KT4 := Lib.hid (KT2.out.below hq)
  clear hq HB2 KT2
  go_wp2_with fail
  go_loopw [9, 10] (fun s v wr => ∃ j a : Nat, j ≤ n ∧ s = .int .i64 (a : Nat) ∧ v = .int .i64 (j : Nat) ∧ Hid (chainP a t (ls.drop j)) ∧ Hid (Below U3.heap.size U3 wr)) (fun s v _ => n - (intOf v).toNat)
  case atStart => exact ⟨0, f, by omega, rfl, rfl, HC0, Lib.hid (Below.refl _ _)⟩
  case round =>
    obtain ⟨j, a, hj, rfl, rfl, HC, HBW⟩ := hrel
    have HB5 := Lib.hid (HB4.out.trans (HBW.out.mono HB4.out.size))
    have KT5 := Lib.hid (KT4.out.below HBW.out)
    have KI5 := Lib.hid (KI0.out.below HBW.out)
    clear HC0
    by_cases hlt : j < n
    · have d1 : decide ((j : Int) < (n : Int)) = true := decide_eq_true (by omega)
      have d2 : decide (j < n) = true := decide_eq_true hlt
      have hjl : j < ls.length := by have := KI5.out.len; omega
      obtain ⟨g, off, rfl, hgl, hr⟩ := KI5.out.rd (by omega)
      obtain ⟨x, HX⟩ : ∃ x, Hid (ls[j] = x) := ⟨_, Lib.hid rfl⟩
      have hrx : wr.rangeAt g (off + j * 2) (spC x) := by rw [← HX.out]; exact range_elem (k := 2) (cells := spC) (fun _ => rfl) hr j hjl
      have hcx : chainP a t (x :: ls.drop (j + 1)) := by have h := HC.out; rw [List.drop_eq_getElem_cons hjl, HX.out] at h; exact h
      have hle := chainP_le _ _ _ hcx.2.2
      obtain ⟨xl, xh, xi⟩ := x
      obtain ⟨e0, hlh, hch⟩ := hcx
      dsimp only at e0 hlh hch hle
      subst e0
      have HCN := Lib.hid hch
      have k0 : wr.cell? ⟨g, off + j * 2, none⟩ = some (.int .i64 (xl : Nat)) := by have := hrx 0 _ rfl; simpa using this
      have k1 : wr.cell? ⟨g, off + j * 2 + 1, none⟩ = some (.int .i64 (xh : Nat)) := hrx 1 _ rfl
      have c0 : ((xl : Int) != (xl : Int)) = false := by simp
      have c1 : decide ((xh : Int) ≤ (xl : Int)) = false := decide_eq_false (by omega)
      have c2 : decide ((t : Int) < (xh : Int)) = false := decide_eq_false (by omega)
      have c1' : decide (xh ≤ xl) = false := decide_eq_false (by omega)
      have c2' : decide (t < xh) = false := decide_eq_false (by omega)
      clear hr hrx hch HX hgl HC hjl
      go_wp2_with fail
      go_roundw
      case rel => exact ⟨j + 1, xh, by omega, by first | rfl | go_num, by first | rfl | go_num, HCN, HBW⟩
      case measure => first | (simp [intOf]; done) | (simp [intOf]; omega)
    · have hjn : j = n := by omega
      have hat : a = t := by
        have h := HC.out
        rw [List.drop_eq_nil_of_le (by have := KI5.out.len; omega)] at h
        exact h
      subst hat
      have d1 : decide ((j : Int) < (n : Int)) = false := decide_eq_false (by omega)
      have d2 : decide (j < n) = false := decide_eq_false hlt
      have c3 : decide ((n : Int) ≤ 24) = true := decide_eq_true (by omega)
      have c4 : decide (n ≤ 24) = true := decide_eq_true hn
      clear hjn
      go_wp2_with fail
      go_ret
      exact ⟨rfl, HB5.out⟩
theorem walk (w : World) (hT : Tabs w) (f : Int) (hf0 : -9223372036854775808 ≤ f) (hf1 : f ≤ 9223372036854775807) (t : Int) (ht0 : -9223372036854775808 ≤ t) (ht1 : t ≤ 9223372036854775807) (m : Int) (hm0 : -9223372036854775808 ≤ m) (hm1 : m ≤ 9223372036854775807) :
    Calls Tryd.prog 13 #[.int .i64 f, .int .i64 t, .int .i64 m] w fun e w' => e = .returned (.bool true) ∧ Below w.heap.size w w' := by
  by_cases h0 : f < 0
  · exact no0 f t m w (Lib.hid hT) h0
  by_cases h1 : t ≤ f
  · exact no1 f t m w (Lib.hid hT) h0 h1
  by_cases h2 : m < t
  · exact no2 f t m w (Lib.hid hT) h0 h1 h2
  by_cases h3 : 4096 < m
  · exact no3 f t m w (Lib.hid hT) h0 h1 h2 h3
  obtain ⟨f', rfl⟩ : ∃ k : Nat, f = (k : Int) := ⟨f.toNat, by omega⟩
  obtain ⟨t', rfl⟩ : ∃ k : Nat, t = (k : Int) := ⟨t.toNat, by omega⟩
  obtain ⟨m', rfl⟩ : ∃ k : Nat, m = (k : Int) := ⟨m.toNat, by omega⟩
  exact good f' t' m' w (Lib.hid hT) (by omega) (by omega) (by omega)
set_option maxRecDepth 100000 in
theorem lifted (os : Os) (started : os.Started) (H : Type) (enc : TypeId × Value → H) :
    ReturnsInHanded {} Tryd.checked os 13 .any (fun w args => (Rows.sumsDisjointSpec.pre enc Tryd.prog Tryd.f13 [] false w args ∧ laidMetH Tryd.prog laidL w) ∧ sizedMet enc Tryd.prog Tryd.f13 (OpenSpec.ofChange Rows.sumsDisjointSpec) false w args)
      (Rows.sumsDisjointSpec.post enc Tryd.prog Tryd.f13 false true false false) := by
  refine returnsInHanded_of_change_and (C := Tryd.checked) (X := fun w _ => laidMetH Tryd.prog laidL w) (fun _ _ _ hh h => h.of_heap hh) own started (by kernel_rfl) Tryd.func13
    (ChangeSpec.witness_shaped (enc := enc) (C := Tryd.checked) (os := os) (X := fun w _ => laidMetH Tryd.prog laidL w) false (World.doorLaid Tryd.prog 400 os) #[.int .i64 0, .int .i64 0, .int .i64 0] 8 rfl (World.shaped_of_RefB (by kernel_rfl) (by kernel_rfl)) (by kernel_rfl) (by kernel_rfl) (by kernel_rfl) (door_met os _)) ?_
  intro W base args ds gs before hval0 hW _ hsz0 hL _
  have hval : ∀ (j : Nat) t v, Tryd.f13.params[j]? = some t → args[j]? = some v → Value.okWide Tryd.prog W .any base t v := hval0
  have hW' := hW
  obtain ⟨p, q, hA0, hV, rfl, hfz, hnd⟩ := hW
  have hA : DataW.TrodAll enc Tryd.prog W 0 (fun _ => true) true Tryd.f13.params.toList args.toList ds p := hA0
  have hsz : (DataW.weightsEach Tryd.prog (Tryd.f13.params.toList ++ Rows.sumsDisjointSpec.plain.varTypes Tryd.prog) (ds ++ gs)).all (· ≤ reachBytes) = true := hsz0
  rw [Tryd.params13] at hA hval hsz
  obtain ⟨v0, vs0, d0, ds0, p0, q0, hargs, rfl, rfl, h0, r0⟩ := trodAll_cons hA
  obtain ⟨v1, vs1, d1, ds1, p1, q1, rfl, rfl, rfl, h1, r1⟩ := trodAll_cons r0
  obtain ⟨v2, vs2, d2, ds2, p2, q2, rfl, rfl, rfl, h2, r2⟩ := trodAll_cons r1
  obtain ⟨rfl, rfl, rfl⟩ := trodAll_nil r2
  obtain rfl : args = #[v0, v1, v2] := by cases args; simp_all
  obtain ⟨rfl, rfl⟩ := trodVars_none hV
  obtain ⟨a0, rfl, rfl, rfl, w0⟩ := open_int Tryd.underlying3 (hval 0 3 v0 rfl rfl) h0
  have b0 := bounds_i64 w0
  obtain ⟨a1, rfl, rfl, rfl, w1⟩ := open_int Tryd.underlying3 (hval 1 3 v1 rfl rfl) h1
  have b1 := bounds_i64 w1
  obtain ⟨a2, rfl, rfl, rfl, w2⟩ := open_int Tryd.underlying3 (hval 2 3 v2 rfl rfl) h2
  have b2 := bounds_i64 w2
  refine (walk W (tabs_of hL) a0 b0.1 b0.2 a1 b1.1 b1.2 a2 b2.1 b2.2).mono fun e W' ⟨he, hg⟩ => ?_
  subst he
  exact ⟨_, rfl, law_post (by kernel_rfl) rfl rfl (fun _ => ⟨rfl, rfl, rfl⟩) hW' hg⟩
theorem over : Rows.sumsDisjointRow.holds Tryd.pinned (OpenSpec.ofChange Rows.sumsDisjointSpec) :=
  OpenClaim.holds_of_wide 13 Tryd.f13 rfl rfl rfl rfl rfl rfl rfl ⟨rfl, rfl, rfl, rfl, rfl⟩ rfl rfl rfl rfl rfl (by kernel_rfl) Tryd.func13 (by kernel_rfl)
    (of_decide_eq_true (by kernel_rfl)) (by unfold Func.isWrapper; first | (rw [if_pos (by decide +kernel)]; kernel_rfl) | (rw [if_neg (by decide +kernel)]; exact ⟨rfl, rfl⟩))
    (fun os started H enc _ => lifted os started H enc)
/-- THE STATEMENT: the card -/
theorem proved : Rows.SumsDisjointCardSaid :=
  Claim7.holds_tied_plain_at .later [] [.data, .data] true Rows.sumsDisjointCard.stood.harness true
    over (fun _ h => by cases h) (by kernel_rfl) (fun _ h => by cases h) sumsDisjoint_row_tie rfl ⟨rfl, rfl⟩ (by kernel_rfl) rfl
    (fun f fn hf hfn => by
      obtain rfl : f = 13 := Option.some.inj ((show Tryd.prog.funcNamed "sizar/sizarlaw43.SumsDisjoint" = some 13 by kernel_rfl).symm.trans hf) |>.symm
      obtain rfl : fn = Tryd.f13 := (Option.some.inj (Tryd.func13.symm.trans hfn)).symm
      exact ⟨by kernel_rfl, fun j t ht => stands_of (show Tryd.f13.params.all (fun t => !Tryd.prog.wantsStandIn t) = true by kernel_rfl) ht⟩)
    (by kernel_rfl)
#print axioms proved
end Go.Proofs.YtmfmgeapecapiaaDoor.sumsDisjoint
