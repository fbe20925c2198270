/- SignPrivateSpec: for every seed, label and number the law returns true: Private agrees with the reference, and Public accepts the result. No conditions. -/
import Derived.Test.YtcgpanjagkblmaaDoorLawKit
import Derived.Test.YtcgpanjagkblmaaDoorSane04
import Derived.Lib.SmallJoins
import Derived.Test.YtcgpanjagkblmaaDoorRef04c
import Derived.Test.YtcgpanjagkblmaaDoorArgDig
import Derived.Outline
import Derived.Test.YtcgpanjagkblmaaDoorCards
import Derived.Test.YtcgpanjagkblmaaDoorTie
namespace Go.Proofs.YtcgpanjagkblmaaDoor.signPrivateSpec
open Go.ChangeShapes Go.WideShapes Go.ChangeAt Go.RowKit SzSha SzGrp
set_option linter.unusedVariables false
set_option maxRecDepth 100000 in
set_option maxHeartbeats 4000000 in
theorem go (l : List Nat) (t : ByteArray) (z : Int) (w : World) (hn : t.size ≤ 1000) (hl : Hid (l.length = 32)) (hb : Hid (Bytes l)) (hT : Hid (Tabs w)) :
    Calls Tryd.prog 4 #[dgV l, .string t, .int .i64 z] w fun e w' => e = .returned (.bool true) ∧ Below w.heap.size w w' := by
  obtain ⟨X, HX⟩ : ∃ X, Hid ((l.map fun x => Value.int .u8 (x : Nat)).toArray = X) := ⟨_, Lib.hid rfl⟩
  have e0 : dgV l = .agg X := by unfold dgV; rw [HX.out]
  have hsz : Hid ((Tryd.prog.info? 35).map (·.size) = some X.size) := Lib.hid (by rw [← HX.out]; exact size32 l hl.out)
  rw [e0]
  have E0 := Lib.hid e0
  clear e0
  have H0 := Lib.hid (heap_alloc_new w (.cells X 35))
  have HB0 := Lib.hid ((Below.refl _ w).alloc (Nat.le_refl _) (.cells X 35))
  obtain ⟨x, HXX⟩ : ∃ x, Hid (privV l z t = x) := ⟨_, Lib.hid rfl⟩
  have XB : Hid (1 ≤ x ∧ x < 2305843009213688669) := Lib.hid (by rw [← HXX.out]; exact privV_bd l z t)
  have HPE : Hid (pubE x = 0) := Lib.hid (by rw [pubE, if_pos]; have := XB.out; unfold isKey; rw [decide_eq_true this.1, decide_eq_true this.2]; rfl)
  have q2 : decide ((1000 : Int) < (t.size : Int)) = false := decide_eq_false (by omega)
  have q4 : decide (1000 < t.size) = false := decide_eq_false (by omega)
  go_enter Tryd.func4, Tryd.ntmps4
  go_wp2_with fail
  refine (sane_any _ (Lib.hid (hT.out.below HB0.out))).mono ?_
  rintro e w1 ⟨rfl, hq⟩
  have HB1 := Lib.hid (HB0.out.trans (hq.mono HB0.out.size))
  have H1 := Lib.hid ((hq.block w.heap.size (Array.getElem?_eq_some_iff.1 H0.out).1).trans H0.out)
  clear hq
  go_wp2_with (with_reducible refine wpList_load_row rfl 35 (.tmp 3) rfl w.heap.size rfl 35 X (0, 0) _ H1.out Tryd.underlying35 rfl hsz.out ?_)
  rw [← E0.out]
  refine (private_any l t z _ hl hb (by omega) (Lib.hid (hT.out.below HB1.out))).mono ?_
  rintro e w2 ⟨rfl, hq⟩
  rw [HXX.out, E0.out]
  have HB2 := Lib.hid (HB1.out.trans (hq.mono HB1.out.size))
  have H2 := Lib.hid ((hq.block w.heap.size (Array.getElem?_eq_some_iff.1 H1.out).1).trans H1.out)
  clear hq
  go_wp2_with fail
  refine (Public_any x _ (by have := XB.out; omega) (by have := XB.out; omega)).mono ?_
  rintro e w3 ⟨rfl, hq⟩
  rw [HPE.out]
  have HB3 := Lib.hid (HB2.out.trans (hq.mono HB2.out.size))
  have H3 := Lib.hid ((hq.block w.heap.size (Array.getElem?_eq_some_iff.1 H2.out).1).trans H2.out)
  clear hq
  go_wp2_with (with_reducible refine wpList_load_row rfl 35 (.tmp 3) rfl w.heap.size rfl 35 X (0, 0) _ H3.out Tryd.underlying35 rfl hsz.out ?_)
  rw [← E0.out]
  refine (rPrivate_any l t z _ hl hb (by omega)).mono ?_
  rintro e w4 ⟨rfl, hq⟩
  rw [HXX.out]
  have HB4 := Lib.hid (HB3.out.trans (hq.mono HB3.out.size))
  clear hq
  go_wp2_with fail
  go_ret
  exact ⟨rfl, HB4.out⟩
set_option maxRecDepth 100000 in
set_option maxHeartbeats 4000000 in
theorem big (l : List Nat) (t : ByteArray) (z : Int) (w : World) (hn : t.size ≤ 140737488351232) (h : 1000 < t.size) (hl : Hid (l.length = 32)) (hb : Hid (Bytes l)) (hT : Hid (Tabs w)) :
    Calls Tryd.prog 4 #[dgV l, .string t, .int .i64 z] w fun e w' => e = .returned (.bool true) ∧ Below w.heap.size w w' := by
  obtain ⟨X, HX⟩ : ∃ X, Hid ((l.map fun x => Value.int .u8 (x : Nat)).toArray = X) := ⟨_, Lib.hid rfl⟩
  have e0 : dgV l = .agg X := by unfold dgV; rw [HX.out]
  have hsz : Hid ((Tryd.prog.info? 35).map (·.size) = some X.size) := Lib.hid (by rw [← HX.out]; exact size32 l hl.out)
  rw [e0]
  have E0 := Lib.hid e0
  clear e0
  have H0 := Lib.hid (heap_alloc_new w (.cells X 35))
  have HB0 := Lib.hid ((Below.refl _ w).alloc (Nat.le_refl _) (.cells X 35))
  have q2 : decide ((1000 : Int) < (t.size : Int)) = true := decide_eq_true (by omega)
  have q4 : decide (1000 < t.size) = true := decide_eq_true (by omega)
  clear h
  go_enter Tryd.func4, Tryd.ntmps4
  go_wp2_with fail
  refine (sane_any _ (Lib.hid (hT.out.below HB0.out))).mono ?_
  rintro e w1 ⟨rfl, hq⟩
  have HB1 := Lib.hid (HB0.out.trans (hq.mono HB0.out.size))
  clear hq
  go_wp2_with fail
  go_ret
  exact ⟨rfl, HB1.out⟩
theorem walk (w : World) (hT : Tabs w) (l : List Nat) (hl : l.length = 32) (hb : Bytes l) (t : ByteArray) (ht : t.size ≤ 140737488351232) (z : Int) (_ : -9223372036854775808 ≤ z) (_ : z ≤ 9223372036854775807) :
    Calls Tryd.prog 4 #[dgV l, .string t, .int .i64 z] w fun e w' => e = .returned (.bool true) ∧ Below w.heap.size w w' := by
  by_cases h : 1000 < t.size
  · exact big l t z w ht h (Lib.hid hl) (Lib.hid hb) (Lib.hid hT)
  · exact go l t z w (by omega) (Lib.hid hl) (Lib.hid hb) (Lib.hid hT)
set_option maxRecDepth 100000 in
theorem lifted (os : Os) (started : os.Started) (H : Type) (enc : TypeId × Value → H) :
    ReturnsInHanded {} Tryd.checked os 4 .any (fun w args => (Rows.signPrivateSpecSpec.pre enc Tryd.prog Tryd.f4 [] false w args ∧ laidMetH Tryd.prog laidL w) ∧ sizedMet enc Tryd.prog Tryd.f4 (OpenSpec.ofChange Rows.signPrivateSpecSpec) false w args)
      (Rows.signPrivateSpecSpec.post enc Tryd.prog Tryd.f4 false true false false) := by
  refine returnsInHanded_of_change_and (C := Tryd.checked) (X := fun w _ => laidMetH Tryd.prog laidL w) (fun _ _ _ hh h => h.of_heap hh) own started (by kernel_rfl) Tryd.func4
    (ChangeSpec.witness_shaped (enc := enc) (C := Tryd.checked) (os := os) (X := fun w _ => laidMetH Tryd.prog laidL w) false (World.doorLaid Tryd.prog 400 os) #[.agg (Array.replicate 32 (.int .u8 0)), .string ⟨#[]⟩, .int .i64 0] 8 rfl (World.shaped_of_RefB (by kernel_rfl) (by kernel_rfl)) (by kernel_rfl) (by kernel_rfl) (by kernel_rfl) (door_met os _)) ?_
  intro W base args ds gs before hval0 hW _ hsz0 hL _
  have hval : ∀ (j : Nat) t v, Tryd.f4.params[j]? = some t → args[j]? = some v → Value.okWide Tryd.prog W .any base t v := hval0
  have hW' := hW
  obtain ⟨p, q, hA0, hV, rfl, hfz, hnd⟩ := hW
  have hA : DataW.TrodAll enc Tryd.prog W 0 (fun _ => true) true Tryd.f4.params.toList args.toList ds p := hA0
  have hsz : (DataW.weightsEach Tryd.prog (Tryd.f4.params.toList ++ Rows.signPrivateSpecSpec.plain.varTypes Tryd.prog) (ds ++ gs)).all (· ≤ reachBytes) = true := hsz0
  rw [Tryd.params4] at hA hval hsz
  obtain ⟨v0, vs0, d0, ds0, p0, q0, hargs, rfl, rfl, h0, r0⟩ := trodAll_cons hA
  obtain ⟨v1, vs1, d1, ds1, p1, q1, rfl, rfl, rfl, h1, r1⟩ := trodAll_cons r0
  obtain ⟨v2, vs2, d2, ds2, p2, q2, rfl, rfl, rfl, h2, r2⟩ := trodAll_cons r1
  obtain ⟨rfl, rfl, rfl⟩ := trodAll_nil r2
  obtain rfl : args = #[v0, v1, v2] := by cases args; simp_all
  obtain ⟨rfl, rfl⟩ := trodVars_none hV
  obtain ⟨l0, rfl, e0, y0⟩ := arg_dig (hval 0 35 v0 rfl rfl) h0
  obtain ⟨a1, rfl, rfl, rfl, w1⟩ := Go.ChangeMaps.open_string Tryd.underlying9 (hval 1 9 v1 rfl rfl) h1
  have b1 : a1.size ≤ 140737488351232 := by have := sized_string hsz (j := 1) rfl rfl; simpa [reachBytes] using this
  obtain ⟨a2, rfl, rfl, rfl, w2⟩ := open_int Tryd.underlying3 (hval 2 3 v2 rfl rfl) h2
  have b2 := bounds_i64 w2
  refine (walk W (tabs_of hL) l0 e0 y0 a1 b1 a2 b2.1 b2.2).mono fun e W' ⟨he, hg⟩ => ?_
  subst he
  exact ⟨_, rfl, law_post (by kernel_rfl) rfl rfl (fun _ => ⟨rfl, rfl, rfl⟩) hW' hg⟩
theorem over : Rows.signPrivateSpecRow.holds Tryd.pinned (OpenSpec.ofChange Rows.signPrivateSpecSpec) :=
  OpenClaim.holds_of_wide 4 Tryd.f4 rfl rfl rfl rfl rfl rfl rfl ⟨rfl, rfl, rfl, rfl, rfl⟩ rfl rfl rfl rfl rfl (by kernel_rfl) Tryd.func4 (by kernel_rfl)
    (of_decide_eq_true (by kernel_rfl)) (by unfold Func.isWrapper; first | (rw [if_pos (by decide +kernel)]; kernel_rfl) | (rw [if_neg (by decide +kernel)]; exact ⟨rfl, rfl⟩))
    (fun os started H enc _ => lifted os started H enc)
/-- THE STATEMENT: the card -/
theorem proved : Rows.SignPrivateSpecCardSaid :=
  Claim7.holds_tied_plain_at .later [] [.data, .data] true Rows.signPrivateSpecCard.stood.harness false
    over (fun _ h => by cases h) (by kernel_rfl) (fun _ h => by cases h) signPrivateSpec_row_tie rfl ⟨rfl, rfl⟩ (by kernel_rfl) rfl
    (fun f fn hf hfn => by
      obtain rfl : f = 4 := Option.some.inj ((show Tryd.prog.funcNamed "sizar/sizarlaw04.SignPrivateSpec" = some 4 by kernel_rfl).symm.trans hf) |>.symm
      obtain rfl : fn = Tryd.f4 := (Option.some.inj (Tryd.func4.symm.trans hfn)).symm
      exact ⟨by kernel_rfl, fun j t ht => stands_of (show Tryd.f4.params.all (fun t => !Tryd.prog.wantsStandIn t) = true by kernel_rfl) ht⟩)
    (by kernel_rfl)
#print axioms proved
end Go.Proofs.YtcgpanjagkblmaaDoor.signPrivateSpec
