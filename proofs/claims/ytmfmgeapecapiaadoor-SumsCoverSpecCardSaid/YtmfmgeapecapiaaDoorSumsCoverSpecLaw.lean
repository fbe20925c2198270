/- SumsCoverSpec: for every interval of a tree, valid or not, the program and the reference cover it by the same spans and the same error. No conditions. -/
import Derived.Test.YtmfmgeapecapiaaDoorCV15
import Derived.Test.YtmfmgeapecapiaaDoorCV2
import Derived.Test.YtmfmgeapecapiaaDoorCV14
import Derived.Test.YtmfmgeapecapiaaDoorCards
import Derived.Test.YtmfmgeapecapiaaDoorTie
import Derived.Lib.SmallJoins
namespace Go.Proofs.YtmfmgeapecapiaaDoor.sumsCoverSpec
open Go.ChangeShapes Go.WideShapes Go.ChangeAt Go.RowKit SzSha SzTree
set_option linter.unusedVariables false
set_option maxRecDepth 100000
theorem inS_nil (w : World) : Hid (InS w none 0 0 []) := Lib.hid ⟨rfl, Nat.le_refl _, (fun _ => rfl), fun h => by simp at h⟩
set_option maxHeartbeats 8000000 in
theorem no (f t m : Int) (w : World) (hT : Hid (Tabs w)) (HN : Hid (¬ (0 ≤ f ∧ f < t ∧ t ≤ m ∧ m ≤ 4096))) (HF : Hid (ftB f t m = false)) :
    Calls Tryd.prog 10 #[.int .i64 f, .int .i64 t, .int .i64 m] w fun e w' => e = .returned (.bool true) ∧ Below w.heap.size w w' := by
  go_enter Tryd.func10, Tryd.ntmps10
  go_wp2_with fail
  have KT0 := hT
  have HB0 := Lib.hid (Below.refl w.heap.size w)
  refine (sane43 _ KT0).mono ?_
  rintro e U1 ⟨rfl, hq⟩
  have HB2 := Lib.hid (HB0.out.trans (hq.mono HB0.out.size))
  have KT2 := Lib.hid (KT0.out.below hq)
  clear hq HB0 KT0
  go_wp2_with fail
  refine (cover_no f t m _ HN.out).mono ?_
  rintro e U3 ⟨rfl, hq⟩
  have HB4 := Lib.hid (HB2.out.trans (hq.mono HB2.out.size))
  have KT4 := Lib.hid (KT2.out.below hq)
  clear hq HB2 KT2
  go_wp2_with fail
  refine (rcover_no f t m _ HF).mono ?_
  rintro e U5 ⟨rfl, hq⟩
  have HB6 := Lib.hid (HB4.out.trans (hq.mono HB4.out.size))
  have KT6 := Lib.hid (KT4.out.below hq)
  clear hq HB4 KT4
  go_wp2_with fail
  refine (samespans_yes none none 0 0 0 [] [] _ (inS_nil _) (inS_nil _) (Lib.hid rfl) (by omega)).mono ?_
  rintro e U7 ⟨rfl, hq⟩
  have HB8 := Lib.hid (HB6.out.trans (hq.mono HB6.out.size))
  have KT8 := Lib.hid (KT6.out.below hq)
  clear hq HB6 KT6
  go_wp2_with fail
  go_ret
  exact ⟨rfl, HB8.out⟩
set_option maxHeartbeats 8000000 in
theorem good (f t m : Nat) (w : World) (hT : Hid (Tabs w)) (h1 : f < t) (h2 : t ≤ m) (h3 : m ≤ 4096) :
    Calls Tryd.prog 10 #[.int .i64 (f : Nat), .int .i64 (t : Nat), .int .i64 (m : Nat)] w fun e w' => e = .returned (.bool true) ∧ Below w.heap.size w w' := by
  go_enter Tryd.func10, Tryd.ntmps10
  go_wp2_with fail
  have KT0 := hT
  have HB0 := Lib.hid (Below.refl w.heap.size w)
  refine (sane43 _ KT0).mono ?_
  rintro e U1 ⟨rfl, hq⟩
  have HB2 := Lib.hid (HB0.out.trans (hq.mono HB0.out.size))
  have KT2 := Lib.hid (KT0.out.below hq)
  clear hq HB0 KT0
  go_wp2_with fail
  obtain ⟨ls, HL⟩ : ∃ l, Hid ((parts f t 0 m).filter (·.ins) = l) := ⟨_, Lib.hid rfl⟩
  have HLN : Hid (ls.length ≤ 100000) := Lib.hid (by rw [← HL.out]; exact Nat.le_trans (List.length_filter_le _ _) (by have := parts_length h1 0 m (by omega); omega))
  refine (cover_yes f t m _ h1 h2 h3).mono ?_
  rintro e U3 ⟨A, n, c, rfl, hin, hq⟩
  rw [HL.out] at hin
  have KI0 := Lib.hid hin
  have hn : n ≤ 100000 := by rw [← hin.len]; exact HLN.out
  have HN := Lib.hid hin.len
  clear hin
  have HB4 := Lib.hid (HB2.out.trans (hq.mono HB2.out.size))
  have KT4 := Lib.hid (KT2.out.below hq)
  clear hq HB2 KT2
  go_wp2_with fail
  refine (rcover_yes f t m _ h1 h2 h3).mono ?_
  rintro e U5 ⟨A2, n2, c2, rfl, hin, hq⟩
  rw [HL.out] at hin
  have KJ0 := Lib.hid hin
  have hnn : n2 = n := by rw [← hin.len]; exact HN.out
  subst hnn
  clear hin
  have HB6 := Lib.hid (HB4.out.trans (hq.mono HB4.out.size))
  have KT6 := Lib.hid (KT4.out.below hq)
  have KI6 := Lib.hid (KI0.out.below hq)
  clear hq HB4 KT4 KI0
  go_wp2_with fail
  refine (samespans_yes A A2 n2 c c2 ls ls _ KI6 KJ0 (Lib.hid rfl) hn).mono ?_
  rintro e U7 ⟨rfl, hq⟩
  have HB8 := Lib.hid (HB6.out.trans (hq.mono HB6.out.size))
  have KT8 := Lib.hid (KT6.out.below hq)
  have KI8 := Lib.hid (KI6.out.below hq)
  have KJ8 := Lib.hid (KJ0.out.below hq)
  clear hq HB6 KT6 KI6 KJ0
  go_wp2_with fail
  go_ret
  exact ⟨rfl, HB8.out⟩
theorem walk (w : World) (hT : Tabs w) (f : Int) (hf0 : -9223372036854775808 ≤ f) (hf1 : f ≤ 9223372036854775807) (t : Int) (ht0 : -9223372036854775808 ≤ t) (ht1 : t ≤ 9223372036854775807) (m : Int) (hm0 : -9223372036854775808 ≤ m) (hm1 : m ≤ 9223372036854775807) :
    Calls Tryd.prog 10 #[.int .i64 f, .int .i64 t, .int .i64 m] w fun e w' => e = .returned (.bool true) ∧ Below w.heap.size w w' := by
  by_cases h : 0 ≤ f ∧ f < t ∧ t ≤ m ∧ m ≤ 4096
  · obtain ⟨h0, h1, h2, h3⟩ := h
    obtain ⟨f', rfl⟩ : ∃ k : Nat, f = (k : Int) := ⟨f.toNat, by omega⟩
    obtain ⟨t', rfl⟩ : ∃ k : Nat, t = (k : Int) := ⟨t.toNat, by omega⟩
    obtain ⟨m', rfl⟩ : ∃ k : Nat, m = (k : Int) := ⟨m.toNat, by omega⟩
    exact good f' t' m' w (Lib.hid hT) (by omega) (by omega) (by omega)
  · exact no f t m w (Lib.hid hT) (Lib.hid h) (Lib.hid (ftB_no h))
set_option maxRecDepth 100000 in
theorem lifted (os : Os) (started : os.Started) (H : Type) (enc : TypeId × Value → H) :
    ReturnsInHanded {} Tryd.checked os 10 .any (fun w args => (Rows.sumsCoverSpecSpec.pre enc Tryd.prog Tryd.f10 [] false w args ∧ laidMetH Tryd.prog laidL w) ∧ sizedMet enc Tryd.prog Tryd.f10 (OpenSpec.ofChange Rows.sumsCoverSpecSpec) false w args)
      (Rows.sumsCoverSpecSpec.post enc Tryd.prog Tryd.f10 false true false false) := by
  refine returnsInHanded_of_change_and (C := Tryd.checked) (X := fun w _ => laidMetH Tryd.prog laidL w) (fun _ _ _ hh h => h.of_heap hh) own started (by kernel_rfl) Tryd.func10
    (ChangeSpec.witness_shaped (enc := enc) (C := Tryd.checked) (os := os) (X := fun w _ => laidMetH Tryd.prog laidL w) false (World.doorLaid Tryd.prog 400 os) #[.int .i64 0, .int .i64 0, .int .i64 0] 8 rfl (World.shaped_of_RefB (by kernel_rfl) (by kernel_rfl)) (by kernel_rfl) (by kernel_rfl) (by kernel_rfl) (door_met os _)) ?_
  intro W base args ds gs before hval0 hW _ hsz0 hL _
  have hval : ∀ (j : Nat) t v, Tryd.f10.params[j]? = some t → args[j]? = some v → Value.okWide Tryd.prog W .any base t v := hval0
  have hW' := hW
  obtain ⟨p, q, hA0, hV, rfl, hfz, hnd⟩ := hW
  have hA : DataW.TrodAll enc Tryd.prog W 0 (fun _ => true) true Tryd.f10.params.toList args.toList ds p := hA0
  have hsz : (DataW.weightsEach Tryd.prog (Tryd.f10.params.toList ++ Rows.sumsCoverSpecSpec.plain.varTypes Tryd.prog) (ds ++ gs)).all (· ≤ reachBytes) = true := hsz0
  rw [Tryd.params10] at hA hval hsz
  obtain ⟨v0, vs0, d0, ds0, p0, q0, hargs, rfl, rfl, h0, r0⟩ := trodAll_cons hA
  obtain ⟨v1, vs1, d1, ds1, p1, q1, rfl, rfl, rfl, h1, r1⟩ := trodAll_cons r0
  obtain ⟨v2, vs2, d2, ds2, p2, q2, rfl, rfl, rfl, h2, r2⟩ := trodAll_cons r1
  obtain ⟨rfl, rfl, rfl⟩ := trodAll_nil r2
  obtain rfl : args = #[v0, v1, v2] := by cases args; simp_all
  obtain ⟨rfl, rfl⟩ := trodVars_none hV
  obtain ⟨a0, rfl, rfl, rfl, w0⟩ := open_int Tryd.underlying3 (hval 0 3 v0 rfl rfl) h0
  have b0 := bounds_i64 w0
  obtain ⟨a1, rfl, rfl, rfl, w1⟩ := open_int Tryd.underlying3 (hval 1 3 v1 rfl rfl) h1
  have b1 := bounds_i64 w1
  obtain ⟨a2, rfl, rfl, rfl, w2⟩ := open_int Tryd.underlying3 (hval 2 3 v2 rfl rfl) h2
  have b2 := bounds_i64 w2
  refine (walk W (tabs_of hL) a0 b0.1 b0.2 a1 b1.1 b1.2 a2 b2.1 b2.2).mono fun e W' ⟨he, hg⟩ => ?_
  subst he
  exact ⟨_, rfl, law_post (by kernel_rfl) rfl rfl (fun _ => ⟨rfl, rfl, rfl⟩) hW' hg⟩
theorem over : Rows.sumsCoverSpecRow.holds Tryd.pinned (OpenSpec.ofChange Rows.sumsCoverSpecSpec) :=
  OpenClaim.holds_of_wide 10 Tryd.f10 rfl rfl rfl rfl rfl rfl rfl ⟨rfl, rfl, rfl, rfl, rfl⟩ rfl rfl rfl rfl rfl (by kernel_rfl) Tryd.func10 (by kernel_rfl)
    (of_decide_eq_true (by kernel_rfl)) (by unfold Func.isWrapper; first | (rw [if_pos (by decide +kernel)]; kernel_rfl) | (rw [if_neg (by decide +kernel)]; exact ⟨rfl, rfl⟩))
    (fun os started H enc _ => lifted os started H enc)
/-- THE STATEMENT: the card -/
theorem proved : Rows.SumsCoverSpecCardSaid :=
  Claim7.holds_tied_plain_at .later [] [.data, .data] true Rows.sumsCoverSpecCard.stood.harness true
    over (fun _ h => by cases h) (by kernel_rfl) (fun _ h => by cases h) sumsCoverSpec_row_tie rfl ⟨rfl, rfl⟩ (by kernel_rfl) rfl
    (fun f fn hf hfn => by
      obtain rfl : f = 10 := Option.some.inj ((show Tryd.prog.funcNamed "sizar/sizarlaw43.SumsCoverSpec" = some 10 by kernel_rfl).symm.trans hf) |>.symm
      obtain rfl : fn = Tryd.f10 := (Option.some.inj (Tryd.func10.symm.trans hfn)).symm
      exact ⟨by kernel_rfl, fun j t ht => stands_of (show Tryd.f10.params.all (fun t => !Tryd.prog.wantsStandIn t) = true by kernel_rfl) ht⟩)
    (by kernel_rfl)
#print axioms proved
end Go.Proofs.YtmfmgeapecapiaaDoor.sumsCoverSpec
