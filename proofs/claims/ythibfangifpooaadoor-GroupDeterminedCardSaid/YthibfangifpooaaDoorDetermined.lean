/- GroupDetermined: for all tags and bytes the law returns true: a scalar is between 1 and Q - 1 and depends on the hash alone; its power of G is an element other than 1. No conditions. -/
import Derived.Test.YthibfangifpooaaDoorLawKit
import Derived.Test.YthibfangifpooaaDoorDigEq
import Derived.Test.YthibfangifpooaaDoorScalar
import Derived.Test.YthibfangifpooaaDoorSane03
import Derived.Test.YthibfangifpooaaDoorGroupLaw
import Derived.Test.YthibfangifpooaaDoorCards
import Derived.Test.YthibfangifpooaaDoorTie
namespace Go.Proofs.YthibfangifpooaaDoor.groupDetermined
open Go.ChangeShapes Go.WideShapes Go.ChangeAt Go.RowKit SzSha SzGrp
set_option linter.unusedVariables false
theorem scalar_in (tag : ByteArray) {A : Option Addr} {n c : Nat} {l : List Nat} (w : World) (ht : tag.size ≤ 300) (hn : n ≤ 1000) (hT : Hid (Tabs w)) (h : Hid (In w A n c l)) :
    Calls Tryd.prog 10 #[.string tag, .slice A n c] w fun e w' => e = .returned (.int .i64 (scalN (strL tag) l : Nat)) ∧ Below w.heap.size w w' :=
  scalar_any tag A n c l w (by omega) (Lib.hid h.out.len) h.out.cap h.out.none_ (by omega) (Lib.hid h.out.bytes) hT (Lib.hid h.out.rd)
theorem tagged_in (tag : ByteArray) {A : Option Addr} {n c : Nat} {l : List Nat} (w : World) (ht : tag.size ≤ 300) (hn : n ≤ 1000) (hT : Hid (Tabs w)) (h : Hid (In w A n c l)) :
    Calls Tryd.prog 14 #[.string tag, .slice A n c] w fun e w' => e = .returned (dgV (tagged (strL tag) l)) ∧ Below w.heap.size w w' :=
  tagged_any tag A n c l w (by omega) (Lib.hid h.out.len) h.out.cap h.out.none_ (by omega) (Lib.hid h.out.bytes) hT (Lib.hid h.out.rd)
set_option maxRecDepth 100000 in
set_option maxHeartbeats 4000000 in
theorem go (tag other : ByteArray) (A B : Option Addr) (n c m d : Nat) (l r : List Nat) (w : World) (h1 : tag.size + other.size ≤ 300) (h2 : n + m ≤ 1000) (hT : Hid (Tabs w)) (hl : Hid (In w A n c l)) (hr : Hid (In w B m d r)) :
    Calls Tryd.prog 4 #[.string tag, .string other, .slice A n c, .slice B m d] w fun e w' => e = .returned (.bool true) ∧ Below w.heap.size w w' := by
  obtain ⟨k, HK⟩ : ∃ k : Nat, Hid (scalN (strL tag) l = k) := ⟨_, Lib.hid rfl⟩
  have kb : 1 ≤ k ∧ k < 2305843009213688669 := by rw [← HK.out]; exact scalN_bd _ _
  obtain ⟨k1, k2⟩ := kb
  have d1 : decide ((k : Int) < 1) = false := decide_eq_false (by omega)
  have d2 : decide ((2305843009213688669 : Int) ≤ (k : Int)) = false := decide_eq_false (by omega)
  have hk : Hid (sc (k : Int) = true) := Lib.hid (sc_mid (by omega) (by omega))
  have hE : Hid (isE (expV 4 (k : Int)) = true) := Lib.hid (isE_exp e4 hk.out)
  have hne := base_ne hk.out (by omega)
  obtain ⟨y, HY⟩ : ∃ y, Hid (expV 4 (k : Int) = y) := ⟨_, Lib.hid rfl⟩
  rw [HY.out] at hne
  have hEy : Hid (isE y = true) := Lib.hid (by rw [← HY.out]; exact hE.out)
  have yb := isE_bounds hEy.out
  obtain ⟨y1, y2⟩ := yb
  have YB := Lib.hid (show -9223372036854775808 ≤ y ∧ y ≤ 9223372036854775807 by omega)
  have KB := Lib.hid (show -9223372036854775808 ≤ (k : Int) ∧ (k : Int) ≤ 9223372036854775807 by omega)
  have q1 : decide ((300 : Int) < (tag.size : Int) + (other.size : Int)) = false := decide_eq_false (by omega)
  have q2 : decide ((1000 : Int) < (n : Int) + (m : Int)) = false := decide_eq_false (by omega)
  have z1 : tag.size ≤ 300 := by omega
  have z2 : other.size ≤ 300 := by omega
  have z3 : n ≤ 1000 := by omega
  have z4 : m ≤ 1000 := by omega
  clear k1 k2 y1 y2 h1 h2
  have g2 : ∀ (l m : List Nat) (W : World), (eqGuard .neq 32 (.tmp 57) (.tmp 60) (dgV l) (dgV m)).run Tryd.prog W = .ok () W := fun l m W => guard_dg _ _ _ l m W
  go_enter Tryd.func4, Tryd.ntmps4
  go_wp2_with fail
  refine (sane_any _).mono ?_
  rintro e w1 ⟨rfl, hb1⟩
  go_wp2_with fail
  refine (scalar_in tag _ z1 z3 (Lib.hid (hT.out.below hb1)) (Lib.hid (hl.out.below hb1))).mono ?_
  rintro e w2 ⟨rfl, hb2⟩
  rw [HK.out]
  replace hb2 := hb1.trans (hb2.mono hb1.size)
  go_wp2_with fail
  refine (base_any (k : Int) _ KB.out.1 KB.out.2).mono ?_
  rintro e w3 ⟨rfl, hb3⟩
  rw [expE_ok e4 hk.out, HY.out]
  replace hb3 := hb2.trans (hb3.mono hb2.size)
  go_wp2_with fail
  refine (check_any y _ YB.out.1 YB.out.2).mono ?_
  rintro e w4 ⟨rfl, hb4⟩
  rw [ck_ok hEy.out]
  replace hb4 := hb3.trans (hb4.mono hb3.size)
  go_wp2_with fail
  refine (tagged_in tag _ z1 z3 (Lib.hid (hT.out.below hb4)) (Lib.hid (hl.out.below hb4))).mono ?_
  rintro e w5 ⟨rfl, hb5⟩
  replace hb5 := hb4.trans (hb5.mono hb4.size)
  go_wp2_with fail
  refine (tagged_in other _ z2 z4 (Lib.hid (hT.out.below hb5)) (Lib.hid (hr.out.below hb5))).mono ?_
  rintro e w6 ⟨rfl, hb6⟩
  replace hb6 := hb5.trans (hb6.mono hb5.size)
  by_cases he : tagged (strL tag) l = tagged (strL other) r
  · have hq := neq_dg (tagged (strL tag) l) (tagged (strL other) r) (tagged_length _ _) (tagged_length _ _) (tagged_bytes _ _) (tagged_bytes _ _) w6
    rw [show (tagged (strL tag) l == tagged (strL other) r) = true from beq_iff_eq.2 he] at hq
    have HK2 : Hid (scalN (strL other) r = k) := Lib.hid (by rw [← HK.out]; unfold scalN; rw [he])
    clear he
    go_wp2_with fail
    refine (scalar_in other _ z2 z4 (Lib.hid (hT.out.below hb6)) (Lib.hid (hr.out.below hb6))).mono ?_
    rintro e w7 ⟨rfl, hb7⟩
    rw [HK2.out]
    replace hb7 := hb6.trans (hb7.mono hb6.size)
    go_wp2_with fail
    go_ret
    exact ⟨rfl, hb7⟩
  · have hq := neq_dg (tagged (strL tag) l) (tagged (strL other) r) (tagged_length _ _) (tagged_length _ _) (tagged_bytes _ _) (tagged_bytes _ _) w6
    rw [show (tagged (strL tag) l == tagged (strL other) r) = false from beq_eq_false_iff_ne.2 he] at hq
    clear he
    go_wp2_with fail
    go_ret
    exact ⟨rfl, hb6⟩
set_option maxRecDepth 100000 in
set_option maxHeartbeats 4000000 in
theorem big (tag other : ByteArray) (A B : Option Addr) (n c m d : Nat) (w : World) (a1 : tag.size ≤ 140737488351232) (a2 : other.size ≤ 140737488351232) (a3 : n ≤ 140737488351232) (a4 : m ≤ 140737488351232) (h : 300 < tag.size + other.size ∨ 1000 < n + m) :
    Calls Tryd.prog 4 #[.string tag, .string other, .slice A n c, .slice B m d] w fun e w' => e = .returned (.bool true) ∧ Below w.heap.size w w' := by
  by_cases h1 : 300 < tag.size + other.size
  · have q1 : decide ((300 : Int) < (tag.size : Int) + (other.size : Int)) = true := decide_eq_true (by omega)
    clear h
    go_enter Tryd.func4, Tryd.ntmps4
    go_wp2_with fail
    refine (sane_any _).mono ?_
    rintro e w1 ⟨rfl, hb1⟩
    go_wp2_with fail
    go_ret
    exact ⟨rfl, hb1⟩
  · have q1 : decide ((300 : Int) < (tag.size : Int) + (other.size : Int)) = false := decide_eq_false (by omega)
    have q2 : decide ((1000 : Int) < (n : Int) + (m : Int)) = true := decide_eq_true (by omega)
    clear h
    go_enter Tryd.func4, Tryd.ntmps4
    go_wp2_with fail
    refine (sane_any _).mono ?_
    rintro e w1 ⟨rfl, hb1⟩
    go_wp2_with fail
    go_ret
    exact ⟨rfl, hb1⟩
theorem walk (w : World) (hT : Tabs w) (tag : ByteArray) (a1 : tag.size ≤ 140737488351232) (other : ByteArray) (a2 : other.size ≤ 140737488351232) (A : Option Addr) (n c : Nat) (l : List Nat) (hl : In w A n c l) (a3 : n ≤ 140737488351232) (B : Option Addr) (m d : Nat) (r : List Nat) (hr : In w B m d r) (a4 : m ≤ 140737488351232) :
    Calls Tryd.prog 4 #[.string tag, .string other, .slice A n c, .slice B m d] w fun e w' => e = .returned (.bool true) ∧ Below w.heap.size w w' := by
  by_cases h : 300 < tag.size + other.size ∨ 1000 < n + m
  · exact big tag other A B n c m d w a1 a2 a3 a4 h
  · exact go tag other A B n c m d l r w (by omega) (by omega) (Lib.hid hT) (Lib.hid hl) (Lib.hid hr)
set_option maxRecDepth 100000 in
theorem lifted (os : Os) (started : os.Started) (H : Type) (enc : TypeId × Value → H) :
    ReturnsInHanded {} Tryd.checked os 4 .any (fun w args => (Rows.groupDeterminedSpec.pre enc Tryd.prog Tryd.f4 [] false w args ∧ laidMetH Tryd.prog laidL w) ∧ sizedMet enc Tryd.prog Tryd.f4 (OpenSpec.ofChange Rows.groupDeterminedSpec) false w args)
      (Rows.groupDeterminedSpec.post enc Tryd.prog Tryd.f4 false true false false) := by
  refine returnsInHanded_of_change_and (C := Tryd.checked) (X := fun w _ => laidMetH Tryd.prog laidL w) (fun _ _ _ hh h => h.of_heap hh) own started (by kernel_rfl) Tryd.func4
    (ChangeSpec.witness_shaped (enc := enc) (C := Tryd.checked) (os := os) (X := fun w _ => laidMetH Tryd.prog laidL w) false (World.doorLaid Tryd.prog 400 os) #[.string ⟨#[]⟩, .string ⟨#[]⟩, .slice none 0 0, .slice none 0 0] 8 rfl (World.shaped_of_RefB (by kernel_rfl) (by kernel_rfl)) (by kernel_rfl) (by kernel_rfl) (by kernel_rfl) (door_met os _)) ?_
  intro W base args ds gs before hval0 hW _ hsz0 hL _
  have hval : ∀ (j : Nat) t v, Tryd.f4.params[j]? = some t → args[j]? = some v → Value.okWide Tryd.prog W .any base t v := hval0
  have hW' := hW
  obtain ⟨p, q, hA0, hV, rfl, hfz, hnd⟩ := hW
  have hA : DataW.TrodAll enc Tryd.prog W 0 (fun _ => true) true Tryd.f4.params.toList args.toList ds p := hA0
  have hsz : (DataW.weightsEach Tryd.prog (Tryd.f4.params.toList ++ Rows.groupDeterminedSpec.plain.varTypes Tryd.prog) (ds ++ gs)).all (· ≤ reachBytes) = true := hsz0
  rw [Tryd.params4] at hA hval hsz
  obtain ⟨v0, vs0, d0, ds0, p0, q0, hargs, rfl, rfl, h0, r0⟩ := trodAll_cons hA
  obtain ⟨v1, vs1, d1, ds1, p1, q1, rfl, rfl, rfl, h1, r1⟩ := trodAll_cons r0
  obtain ⟨v2, vs2, d2, ds2, p2, q2, rfl, rfl, rfl, h2, r2⟩ := trodAll_cons r1
  obtain ⟨v3, vs3, d3, ds3, p3, q3, rfl, rfl, rfl, h3, r3⟩ := trodAll_cons r2
  obtain ⟨rfl, rfl, rfl⟩ := trodAll_nil r3
  obtain rfl : args = #[v0, v1, v2, v3] := by cases args; simp_all
  obtain ⟨rfl, rfl⟩ := trodVars_none hV
  obtain ⟨a0, rfl, rfl, rfl, w0⟩ := Go.ChangeMaps.open_string Tryd.underlying9 (hval 0 9 v0 rfl rfl) h0
  have b0 : a0.size ≤ 140737488351232 := by have := sized_string hsz (j := 0) rfl rfl; simpa [reachBytes] using this
  obtain ⟨a1, rfl, rfl, rfl, w1⟩ := Go.ChangeMaps.open_string Tryd.underlying9 (hval 1 9 v1 rfl rfl) h1
  have b1 : a1.size ≤ 140737488351232 := by have := sized_string hsz (j := 1) rfl rfl; simpa [reachBytes] using this
  obtain ⟨A2, n2, c2, l2, rfl, e2, f2, g2, y2, x2, z2⟩ := arg_bytes (hval 2 22 v2 rfl rfl) h2
  have b2 : n2 ≤ 140737488351232 := by
    rcases z2 with ⟨rfl, hz⟩ | ⟨es, sp, rfl, hz⟩
    · omega
    · have := sized_slice hsz (j := 2) rfl rfl Tryd.underlying22; rw [bytes8] at this; simp only [reachBytes] at this; omega
  obtain ⟨A3, n3, c3, l3, rfl, e3, f3, g3, y3, x3, z3⟩ := arg_bytes (hval 3 22 v3 rfl rfl) h3
  have b3 : n3 ≤ 140737488351232 := by
    rcases z3 with ⟨rfl, hz⟩ | ⟨es, sp, rfl, hz⟩
    · omega
    · have := sized_slice hsz (j := 3) rfl rfl Tryd.underlying22; rw [bytes8] at this; simp only [reachBytes] at this; omega
  refine (walk W (tabs_of hL) a0 b0 a1 b1 A2 n2 c2 l2 ⟨e2, f2, g2, y2, x2⟩ b2 A3 n3 c3 l3 ⟨e3, f3, g3, y3, x3⟩ b3).mono fun e W' ⟨he, hg⟩ => ?_
  subst he
  exact ⟨_, rfl, law_post (by kernel_rfl) rfl rfl (fun _ => ⟨rfl, rfl, rfl⟩) hW' hg⟩
theorem over : Rows.groupDeterminedRow.holds Tryd.pinned (OpenSpec.ofChange Rows.groupDeterminedSpec) :=
  OpenClaim.holds_of_wide 4 Tryd.f4 rfl rfl rfl rfl rfl rfl rfl ⟨rfl, rfl, rfl, rfl, rfl⟩ rfl rfl rfl rfl rfl (by kernel_rfl) Tryd.func4 (by kernel_rfl)
    (of_decide_eq_true (by kernel_rfl)) (by unfold Func.isWrapper; first | (rw [if_pos (by decide +kernel)]; kernel_rfl) | (rw [if_neg (by decide +kernel)]; exact ⟨rfl, rfl⟩))
    (fun os started H enc _ => lifted os started H enc)
/-- THE STATEMENT: the card -/
theorem proved : Rows.GroupDeterminedCardSaid :=
  Claim7.holds_tied_plain_at .later [] [.data, .data] true Rows.groupDeterminedCard.stood.harness false
    over (fun _ h => by cases h) (by kernel_rfl) (fun _ h => by cases h) groupDetermined_row_tie rfl ⟨rfl, rfl⟩ (by kernel_rfl) rfl
    (fun f fn hf hfn => by
      obtain rfl : f = 4 := Option.some.inj ((show Tryd.prog.funcNamed "sizar/sizarlaw03.GroupDetermined" = some 4 by kernel_rfl).symm.trans hf) |>.symm
      obtain rfl : fn = Tryd.f4 := (Option.some.inj (Tryd.func4.symm.trans hfn)).symm
      exact ⟨by kernel_rfl, fun j t ht => stands_of (show Tryd.f4.params.all (fun t => !Tryd.prog.wantsStandIn t) = true by kernel_rfl) ht⟩)
    (by kernel_rfl)
#print axioms proved
end Go.Proofs.YthibfangifpooaaDoor.groupDetermined
