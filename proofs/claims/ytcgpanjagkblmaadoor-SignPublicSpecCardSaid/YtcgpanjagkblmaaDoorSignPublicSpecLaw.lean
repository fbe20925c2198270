/- SignPublicSpec: for every number and message the law returns true: Public and Sign agree with the reference. No conditions. -/
import Derived.Test.YtcgpanjagkblmaaDoorLawKit
import Derived.Test.YtcgpanjagkblmaaDoorSane04
import Derived.Lib.SmallJoins
import Derived.Test.YtcgpanjagkblmaaDoorRef04c
import Derived.Outline
import Derived.Test.YtcgpanjagkblmaaDoorCards
import Derived.Test.YtcgpanjagkblmaaDoorTie
namespace Go.Proofs.YtcgpanjagkblmaaDoor.signPublicSpec
open Go.ChangeShapes Go.WideShapes Go.ChangeAt Go.RowKit SzSha SzGrp
set_option linter.unusedVariables false
/-- Sign, whatever the key -/
def sgA (x : Int) (l : List Nat) : Int := if isKey x then sgR x l else 0
def sgB (x : Int) (l : List Nat) : Int := if isKey x then sgS x l else 0
def sgE (x : Int) : Int := if isKey x then 0 else 40
theorem Sign_any (x : Int) (A : Option Addr) (n c : Nat) (l : List Nat) (w : World) (hn : n ≤ 2147000000) (hT : Hid (Tabs w)) (h : Hid (In w A n c l)) :
    Calls Tryd.prog 15 #[.int .i64 x, .slice A n c] w fun e w' => e = .returned (.tuple #[.agg #[.int .i64 (sgA x l), .int .i64 (sgB x l)], .int .i64 (sgE x)]) ∧ Below w.heap.size w w' := by
  by_cases c1 : isKey x = true
  · rw [sgA, sgB, sgE, if_pos c1, if_pos c1, if_pos c1]; exact Sign_ok x A n c l w c1 hn hT h
  · rw [sgA, sgB, sgE, if_neg c1, if_neg c1, if_neg c1]; exact Sign_bad x _ w (by simpa using c1)
theorem rSign_any (x : Int) (A : Option Addr) (n c : Nat) (l : List Nat) (w : World) (hn : n ≤ 2147000000) (h : Hid (In w A n c l)) :
    Calls Tryd.prog 16 #[.int .i64 x, .slice A n c] w fun e w' => e = .returned (.tuple #[.agg #[.int .i64 (sgA x l), .int .i64 (sgB x l)], .int .i64 (sgE x)]) ∧ Below w.heap.size w w' := by
  by_cases c1 : isKey x = true
  · rw [sgA, sgB, sgE, if_pos c1, if_pos c1, if_pos c1]; exact rSign_ok x A n c l w c1 hn h
  · rw [sgA, sgB, sgE, if_neg c1, if_neg c1, if_neg c1]; exact rSign_bad x _ w (by simpa using c1)
theorem two {w : World} {g : Nat} {a b : Int} (h : w.heap[g]? = some (.cells #[.int .i64 a, .int .i64 b] 3 (0, 0))) (Q : Int → Prop) (ha : Q a) (hb : Q b) (j : Nat) (hj : j < 2) : ∃ m, w.cell? ⟨g, j, none⟩ = some (.int .i64 m) ∧ Q m := by
  have : j = 0 ∨ j = 1 := by omega
  rcases this with rfl | rfl
  · exact ⟨a, by rw [cell_of_row _ _ _ _ _ _ h]; rfl, ha⟩
  · exact ⟨b, by rw [cell_of_row _ _ _ _ _ _ h]; rfl, hb⟩
set_option maxRecDepth 100000 in
set_option maxHeartbeats 4000000 in
theorem go (x : Int) (A : Option Addr) (n c : Nat) (l : List Nat) (w : World) (hx1 : -9223372036854775808 ≤ x) (hx2 : x ≤ 9223372036854775807) (hn : n ≤ 1000) (hT : Hid (Tabs w)) (hl : Hid (In w A n c l)) :
    Calls Tryd.prog 3 #[.int .i64 x, .slice A n c] w fun e w' => e = .returned (.bool true) ∧ Below w.heap.size w w' := by
  obtain ⟨k, HK⟩ : ∃ k, Hid (keyOf x = k) := ⟨_, Lib.hid rfl⟩
  have KB : Hid (-9223372036854775808 ≤ k ∧ k ≤ 9223372036854775807) := Lib.hid (by rw [← HK.out]; have := keyOf_bd x; omega)
  have XB := Lib.hid (And.intro hx1 hx2)
  clear hx1 hx2
  have q2 : decide ((1000 : Int) < (n : Int)) = false := decide_eq_false (by omega)
  have q4 : decide (1000 < n) = false := decide_eq_false (by omega)
  go_enter Tryd.func3, Tryd.ntmps3
  go_wp2_with fail
  refine (sane_any _ hT).mono ?_
  rintro e w1 ⟨rfl, hq⟩
  have HB1 := Lib.hid (hq)
  clear hq
  go_wp2_with fail
  refine (key_any x _ XB.out.1 XB.out.2).mono ?_
  rintro e w2 ⟨rfl, rfl⟩
  rw [HK.out]
  have HROW := Lib.hid (heap_alloc_new w1 (.cells #[.int .i64 x, .int .i64 k] 3))
  have HBR := Lib.hid (HB1.out.alloc HB1.out.size (.cells #[.int .i64 x, .int .i64 k] 3))
  go_wp2_with fail
  go_loopw [25] (fun i wr => ∃ j : Nat, j ≤ 2 ∧ i = .int .i64 j ∧ Hid (wr.heap[w1.heap.size]? = some (.cells #[.int .i64 x, .int .i64 k] 3 (0, 0))) ∧ Hid (Below w.heap.size w wr)) (fun i _ => 2 - (intOf i).toNat)
  case atStart => exact ⟨0, by omega, rfl, HROW, HBR⟩
  case round =>
    clear HROW HBR
    obtain ⟨j, hj, rfl, HROW, HBR⟩ := hrel
    by_cases hlt : j < 2
    · obtain ⟨m, hcell, MB'⟩ := two HROW.out (fun m => -9223372036854775808 ≤ m ∧ m ≤ 9223372036854775807) XB.out KB.out j hlt
      have MB := Lib.hid MB'
      clear MB'
      have d4 : decide ((j : Int) < 2) = true := decide_eq_true (by omega)
      obtain ⟨a, HA⟩ : ∃ a, Hid (sgA m l = a) := ⟨_, Lib.hid rfl⟩
      obtain ⟨b, HB⟩ : ∃ b, Hid (sgB m l = b) := ⟨_, Lib.hid rfl⟩
      obtain ⟨f, HF⟩ : ∃ f, Hid (sgE m = f) := ⟨_, Lib.hid rfl⟩
      obtain ⟨y, HY⟩ : ∃ y, Hid (pubV m = y) := ⟨_, Lib.hid rfl⟩
      obtain ⟨g, HG⟩ : ∃ g, Hid (pubE m = g) := ⟨_, Lib.hid rfl⟩
      go_wp2_with fail
      clear hcell
      refine (Public_any m _ MB.out.1 MB.out.2).mono ?_
      rintro e w3 ⟨rfl, hq⟩
      rw [HY.out, HG.out]
      have HB3 := Lib.hid (HBR.out.trans (hq.mono HBR.out.size))
      have HROW3 := Lib.hid ((hq.block w1.heap.size (Array.getElem?_eq_some_iff.1 HROW.out).1).trans HROW.out)
      clear hq
      go_wp2_with fail
      refine (rPublic_any m _).mono ?_
      rintro e w4 ⟨rfl, rfl⟩
      rw [HY.out, HG.out]
      go_wp2_with fail
      refine (Sign_any m A n c l _ (by omega) (Lib.hid (hT.out.below HB3.out)) (Lib.hid (hl.out.below HB3.out))).mono ?_
      rintro e w5 ⟨rfl, hq⟩
      rw [HA.out, HB.out, HF.out]
      have HB5 := Lib.hid (HB3.out.trans (hq.mono HB3.out.size))
      have HROW5 := Lib.hid ((hq.block w1.heap.size (Array.getElem?_eq_some_iff.1 HROW3.out).1).trans HROW3.out)
      clear hq
      have H5 := Lib.hid (heap_alloc_new w5 (.cells #[.int .i64 a, .int .i64 b] 30))
      have HB6 := Lib.hid (HB5.out.alloc HB5.out.size (.cells #[.int .i64 a, .int .i64 b] 30))
      have HROW6 := Lib.hid ((Below.heap_alloc w5 (.cells #[.int .i64 a, .int .i64 b] 30) _ (Array.getElem?_eq_some_iff.1 HROW5.out).1).trans HROW5.out)
      go_wp2_with fail
      refine (rSign_any m A n c l _ (by omega) (Lib.hid (hl.out.below HB6.out))).mono ?_
      rintro e w7 ⟨rfl, hq⟩
      rw [HA.out, HB.out, HF.out]
      have HB7 := Lib.hid (HB6.out.trans (hq.mono HB6.out.size))
      have HROW7 := Lib.hid ((hq.block w1.heap.size (Array.getElem?_eq_some_iff.1 HROW6.out).1).trans HROW6.out)
      have H7 := Lib.hid ((hq.block w5.heap.size (Array.getElem?_eq_some_iff.1 H5.out).1).trans H5.out)
      clear hq
      have H8 := Lib.hid (heap_alloc_new w7 (.cells #[.int .i64 a, .int .i64 b] 30))
      have HB8 := Lib.hid (HB7.out.alloc HB7.out.size (.cells #[.int .i64 a, .int .i64 b] 30))
      have HROW8 := Lib.hid ((Below.heap_alloc w7 (.cells #[.int .i64 a, .int .i64 b] 30) _ (Array.getElem?_eq_some_iff.1 HROW7.out).1).trans HROW7.out)
      have H58 := Lib.hid ((Below.heap_alloc w7 (.cells #[.int .i64 a, .int .i64 b] 30) _ (Array.getElem?_eq_some_iff.1 H7.out).1).trans H7.out)
      have k0 : (w7.alloc (.cells #[.int .i64 a, .int .i64 b] 30)).cell? ⟨w5.heap.size, 0, none⟩ = some (.int .i64 a) := by rw [cell_of_row _ _ _ _ _ _ H58.out]; rfl
      have k1 : (w7.alloc (.cells #[.int .i64 a, .int .i64 b] 30)).cell? ⟨w5.heap.size, 1, none⟩ = some (.int .i64 b) := by rw [cell_of_row _ _ _ _ _ _ H58.out]; rfl
      clear H7 HROW7 HROW6 H5 HB6 HROW5 HROW3 HROW HB5 HB3 HB7 HBR
      go_wp2_with fail
      go_roundw
      case rel => exact ⟨j + 1, by omega, by go_num, HROW8, HB8⟩
      case measure => simp [intOf]; omega
    · have d4 : decide ((j : Int) < 2) = false := decide_eq_false (by omega)
      go_wp2_with fail
      go_ret
      exact ⟨rfl, HBR.out⟩
set_option maxRecDepth 100000 in
set_option maxHeartbeats 4000000 in
theorem big (x : Int) (A : Option Addr) (n c : Nat) (w : World) (hT : Hid (Tabs w)) (a1 : n ≤ 140737488351232) (h : 1000 < n) :
    Calls Tryd.prog 3 #[.int .i64 x, .slice A n c] w fun e w' => e = .returned (.bool true) ∧ Below w.heap.size w w' := by
  have q2 : decide ((1000 : Int) < (n : Int)) = true := decide_eq_true (by omega)
  have q4 : decide (1000 < n) = true := decide_eq_true (by omega)
  clear h
  go_enter Tryd.func3, Tryd.ntmps3
  go_wp2_with fail
  refine (sane_any _ hT).mono ?_
  rintro e w1 ⟨rfl, hq⟩
  have HB1 := Lib.hid (hq)
  clear hq
  go_wp2_with fail
  go_ret
  exact ⟨rfl, HB1.out⟩
theorem walk (w : World) (hT : Tabs w) (x : Int) (h1 : -9223372036854775808 ≤ x) (h2 : x ≤ 9223372036854775807) (A : Option Addr) (n c : Nat) (l : List Nat) (hl : In w A n c l) (a3 : n ≤ 140737488351232) :
    Calls Tryd.prog 3 #[.int .i64 x, .slice A n c] w fun e w' => e = .returned (.bool true) ∧ Below w.heap.size w w' := by
  by_cases h : 1000 < n
  · exact big x A n c w (Lib.hid hT) a3 h
  · exact go x A n c l w h1 h2 (by omega) (Lib.hid hT) (Lib.hid hl)
set_option maxRecDepth 100000 in
theorem lifted (os : Os) (started : os.Started) (H : Type) (enc : TypeId × Value → H) :
    ReturnsInHanded {} Tryd.checked os 3 .any (fun w args => (Rows.signPublicSpecSpec.pre enc Tryd.prog Tryd.f3 [] false w args ∧ laidMetH Tryd.prog laidL w) ∧ sizedMet enc Tryd.prog Tryd.f3 (OpenSpec.ofChange Rows.signPublicSpecSpec) false w args)
      (Rows.signPublicSpecSpec.post enc Tryd.prog Tryd.f3 false true false false) := by
  refine returnsInHanded_of_change_and (C := Tryd.checked) (X := fun w _ => laidMetH Tryd.prog laidL w) (fun _ _ _ hh h => h.of_heap hh) own started (by kernel_rfl) Tryd.func3
    (ChangeSpec.witness_shaped (enc := enc) (C := Tryd.checked) (os := os) (X := fun w _ => laidMetH Tryd.prog laidL w) false (World.doorLaid Tryd.prog 400 os) #[.int .i64 0, .slice none 0 0] 8 rfl (World.shaped_of_RefB (by kernel_rfl) (by kernel_rfl)) (by kernel_rfl) (by kernel_rfl) (by kernel_rfl) (door_met os _)) ?_
  intro W base args ds gs before hval0 hW _ hsz0 hL _
  have hval : ∀ (j : Nat) t v, Tryd.f3.params[j]? = some t → args[j]? = some v → Value.okWide Tryd.prog W .any base t v := hval0
  have hW' := hW
  obtain ⟨p, q, hA0, hV, rfl, hfz, hnd⟩ := hW
  have hA : DataW.TrodAll enc Tryd.prog W 0 (fun _ => true) true Tryd.f3.params.toList args.toList ds p := hA0
  have hsz : (DataW.weightsEach Tryd.prog (Tryd.f3.params.toList ++ Rows.signPublicSpecSpec.plain.varTypes Tryd.prog) (ds ++ gs)).all (· ≤ reachBytes) = true := hsz0
  rw [Tryd.params3] at hA hval hsz
  obtain ⟨v0, vs0, d0, ds0, p0, q0, hargs, rfl, rfl, h0, r0⟩ := trodAll_cons hA
  obtain ⟨v1, vs1, d1, ds1, p1, q1, rfl, rfl, rfl, h1, r1⟩ := trodAll_cons r0
  obtain ⟨rfl, rfl, rfl⟩ := trodAll_nil r1
  obtain rfl : args = #[v0, v1] := by cases args; simp_all
  obtain ⟨rfl, rfl⟩ := trodVars_none hV
  obtain ⟨a0, rfl, rfl, rfl, w0⟩ := open_int Tryd.underlying3 (hval 0 3 v0 rfl rfl) h0
  have b0 := bounds_i64 w0
  obtain ⟨A1, n1, c1, l1, rfl, e1, f1, g1, y1, x1, z1⟩ := arg_bytes (hval 1 22 v1 rfl rfl) h1
  have b1 : n1 ≤ 140737488351232 := by
    rcases z1 with ⟨rfl, hz⟩ | ⟨es, sp, rfl, hz⟩
    · omega
    · have := sized_slice hsz (j := 1) rfl rfl Tryd.underlying22; rw [bytes8] at this; simp only [reachBytes] at this; omega
  refine (walk W (tabs_of hL) a0 b0.1 b0.2 A1 n1 c1 l1 ⟨e1, f1, g1, y1, x1⟩ b1).mono fun e W' ⟨he, hg⟩ => ?_
  subst he
  exact ⟨_, rfl, law_post (by kernel_rfl) rfl rfl (fun _ => ⟨rfl, rfl, rfl⟩) hW' hg⟩
theorem over : Rows.signPublicSpecRow.holds Tryd.pinned (OpenSpec.ofChange Rows.signPublicSpecSpec) :=
  OpenClaim.holds_of_wide 3 Tryd.f3 rfl rfl rfl rfl rfl rfl rfl ⟨rfl, rfl, rfl, rfl, rfl⟩ rfl rfl rfl rfl rfl (by kernel_rfl) Tryd.func3 (by kernel_rfl)
    (of_decide_eq_true (by kernel_rfl)) (by unfold Func.isWrapper; first | (rw [if_pos (by decide +kernel)]; kernel_rfl) | (rw [if_neg (by decide +kernel)]; exact ⟨rfl, rfl⟩))
    (fun os started H enc _ => lifted os started H enc)
/-- THE STATEMENT: the card -/
theorem proved : Rows.SignPublicSpecCardSaid :=
  Claim7.holds_tied_plain_at .later [] [.data, .data] true Rows.signPublicSpecCard.stood.harness false
    over (fun _ h => by cases h) (by kernel_rfl) (fun _ h => by cases h) signPublicSpec_row_tie rfl ⟨rfl, rfl⟩ (by kernel_rfl) rfl
    (fun f fn hf hfn => by
      obtain rfl : f = 3 := Option.some.inj ((show Tryd.prog.funcNamed "sizar/sizarlaw04.SignPublicSpec" = some 3 by kernel_rfl).symm.trans hf) |>.symm
      obtain rfl : fn = Tryd.f3 := (Option.some.inj (Tryd.func3.symm.trans hfn)).symm
      exact ⟨by kernel_rfl, fun j t ht => stands_of (show Tryd.f3.params.all (fun t => !Tryd.prog.wantsStandIn t) = true by kernel_rfl) ht⟩)
    (by kernel_rfl)
#print axioms proved
end Go.Proofs.YtcgpanjagkblmaaDoor.signPublicSpec
