/- GroupRing: for all integers x, y, z the law returns true: scalars are a commutative ring. No conditions. -/
import Derived.Test.YthibfangifpooaaRows
import Derived.Test.YthibfangifpooaaSane03
import Derived.Test.YthibfangifpooaaElement
import Derived.WalkKit
import Derived.ProofKit
import Derived.OpenShut
namespace Go.Proofs.Ythibfangifpooaa.groupRing
open Go.ChangeShapes Go.WideShapes Go.ChangeAt Go.RowKit
set_option linter.unusedVariables false
theorem own : ownKnob Try.prog.godebug = none := by kernel_rfl
open SzGrp SzPow in
set_option maxRecDepth 100000 in
set_option maxHeartbeats 4000000 in
theorem go (a b c x y z : Int) (w : World) (g1 : -9223372036854775808 ≤ x) (h1 : x ≤ 9223372036854775807) (g2 : -9223372036854775808 ≤ y) (h2 : y ≤ 9223372036854775807) (g3 : -9223372036854775808 ≤ z) (h3 : z ≤ 9223372036854775807) (ha : Hid (ofS x = a)) (hb : Hid (ofS y = b)) (hc : Hid (ofS z = c)) :
    Calls Try.prog 6 #[.int .i64 x, .int .i64 y, .int .i64 z] w fun e w' => e = .returned (.bool true) ∧ Below w.heap.size w w' := by
  have sa : Hid (sc a = true) := Lib.hid (by rw [← ha.out]; exact sc_ofS x)
  have sb : Hid (sc b = true) := Lib.hid (by rw [← hb.out]; exact sc_ofS y)
  have sd : Hid (sc c = true) := Lib.hid (by rw [← hc.out]; exact sc_ofS z)
  go_enter Try.func6, Try.ntmps6
  go_wp2_with fail
  refine (sane_any _).mono ?_
  rintro e w1 ⟨rfl, hb1⟩
  go_wp2_with fail
  refine (of_any x _ g1 h1).mono ?_
  rintro e w' ⟨rfl, rfl⟩
  rw [ha.out]
  go_wp2_with fail
  refine (of_any y _ g2 h2).mono ?_
  rintro e w' ⟨rfl, rfl⟩
  rw [hb.out]
  go_wp2_with fail
  refine (of_any z _ g3 h3).mono ?_
  rintro e w' ⟨rfl, rfl⟩
  rw [hc.out]
  go_wp2_with fail
  refine (add_any a b _).mono ?_
  rintro e w2 ⟨rfl, hb2⟩
  replace hb2 := hb1.trans (hb2.mono hb1.size)
  go_wp2_with fail
  refine (add_any b a _).mono ?_
  rintro e w3 ⟨rfl, hb3⟩
  rw [sum_comm b a]
  replace hb3 := hb2.trans (hb3.mono hb2.size)
  go_wp2_with fail
  refine (add_any a b _).mono ?_
  rintro e w4 ⟨rfl, hb4⟩
  replace hb4 := hb3.trans (hb4.mono hb3.size)
  go_wp2_with fail
  refine (add_any (sumV a b) c _).mono ?_
  rintro e w5 ⟨rfl, hb5⟩
  rw [sum_assoc sa.out sb.out sd.out]
  replace hb5 := hb4.trans (hb5.mono hb4.size)
  go_wp2_with fail
  refine (add_any b c _).mono ?_
  rintro e w6 ⟨rfl, hb6⟩
  replace hb6 := hb5.trans (hb6.mono hb5.size)
  go_wp2_with fail
  refine (add_any a (sumV b c) _).mono ?_
  rintro e w7 ⟨rfl, hb7⟩
  replace hb7 := hb6.trans (hb7.mono hb6.size)
  go_wp2_with fail
  refine (timesS_any a b _).mono ?_
  rintro e w8 ⟨rfl, hb8⟩
  replace hb8 := hb7.trans (hb8.mono hb7.size)
  go_wp2_with fail
  refine (timesS_any b a _).mono ?_
  rintro e w9 ⟨rfl, hb9⟩
  rw [prod_comm b a]
  replace hb9 := hb8.trans (hb9.mono hb8.size)
  go_wp2_with fail
  refine (timesS_any a b _).mono ?_
  rintro e w10 ⟨rfl, hb10⟩
  replace hb10 := hb9.trans (hb10.mono hb9.size)
  go_wp2_with fail
  refine (timesS_any (prodV a b) c _).mono ?_
  rintro e w11 ⟨rfl, hb11⟩
  rw [prod_assoc sa.out sb.out sd.out]
  replace hb11 := hb10.trans (hb11.mono hb10.size)
  go_wp2_with fail
  refine (timesS_any b c _).mono ?_
  rintro e w12 ⟨rfl, hb12⟩
  replace hb12 := hb11.trans (hb12.mono hb11.size)
  go_wp2_with fail
  refine (timesS_any a (prodV b c) _).mono ?_
  rintro e w13 ⟨rfl, hb13⟩
  replace hb13 := hb12.trans (hb13.mono hb12.size)
  go_wp2_with fail
  refine (add_any b c _).mono ?_
  rintro e w14 ⟨rfl, hb14⟩
  replace hb14 := hb13.trans (hb14.mono hb13.size)
  go_wp2_with fail
  refine (timesS_any a (sumV b c) _).mono ?_
  rintro e w15 ⟨rfl, hb15⟩
  rw [prod_sum sa.out sb.out sd.out]
  replace hb15 := hb14.trans (hb15.mono hb14.size)
  go_wp2_with fail
  refine (timesS_any a b _).mono ?_
  rintro e w16 ⟨rfl, hb16⟩
  replace hb16 := hb15.trans (hb16.mono hb15.size)
  go_wp2_with fail
  refine (timesS_any a c _).mono ?_
  rintro e w17 ⟨rfl, hb17⟩
  replace hb17 := hb16.trans (hb17.mono hb16.size)
  go_wp2_with fail
  refine (add_any (prodV a b) (prodV a c) _).mono ?_
  rintro e w18 ⟨rfl, hb18⟩
  replace hb18 := hb17.trans (hb18.mono hb17.size)
  go_wp2_with fail
  refine (add_any a 0 _).mono ?_
  rintro e w19 ⟨rfl, hb19⟩
  rw [sum_zero sa.out]
  replace hb19 := hb18.trans (hb19.mono hb18.size)
  go_wp2_with fail
  refine (timesS_any a 1 _).mono ?_
  rintro e w20 ⟨rfl, hb20⟩
  rw [prod_one sa.out]
  replace hb20 := hb19.trans (hb20.mono hb19.size)
  go_wp2_with fail
  refine (timesS_any a 0 _).mono ?_
  rintro e w21 ⟨rfl, hb21⟩
  rw [prod_zero sa.out]
  replace hb21 := hb20.trans (hb21.mono hb20.size)
  go_wp2_with fail
  go_ret
  exact ⟨rfl, hb21⟩
theorem walk (x y z : Int) (w : World) (g1 : -9223372036854775808 ≤ x) (h1 : x ≤ 9223372036854775807) (g2 : -9223372036854775808 ≤ y) (h2 : y ≤ 9223372036854775807) (g3 : -9223372036854775808 ≤ z) (h3 : z ≤ 9223372036854775807) :
    Calls Try.prog 6 #[.int .i64 x, .int .i64 y, .int .i64 z] w fun e w' => e = .returned (.bool true) ∧ Below w.heap.size w w' :=
  go _ _ _ x y z w g1 h1 g2 h2 g3 h3 (Lib.hid rfl) (Lib.hid rfl) (Lib.hid rfl)
set_option maxRecDepth 100000 in
theorem lifted (os : Os) (started : os.Started) (H : Type) (enc : TypeId × Value → H) :
    ReturnsInHanded {} Try.checked os 6 .any (Rows.groupRingSpec.pre6 enc Try.prog Try.f6 Rows.groupRingRow.domain false) (Rows.groupRingSpec.post enc Try.prog Try.f6 false true false false) := by
  refine returnsInHanded_of_change (C := Try.checked) own started (by kernel_rfl) Try.func6
    (ChangeSpec.witness6 (enc := enc) (C := Try.checked) false ⟨#[], #[.int .i64 0, .int .i64 0, .int .i64 0], []⟩ 8 (by kernel_rfl) (by kernel_rfl) (by kernel_rfl) (by kernel_rfl)) ?_
  intro W base args ds gs before hval0 hW hcnd _
  have hval : ∀ (j : Nat) t v, Try.f6.params[j]? = some t → args[j]? = some v → Value.okWide Try.prog W .any base t v := hval0
  have hW' := hW
  obtain ⟨p, q, hA0, hV, rfl, hfz, hnd⟩ := hW
  have hA : DataW.TrodAll enc Try.prog W 0 (fun _ => true) true Try.f6.params.toList args.toList ds p := hA0
  rw [Try.params6] at hA hval
  obtain ⟨v0, vs0, d0, ds0, p0, q0, hargs, rfl, rfl, h0, r0⟩ := trodAll_cons hA
  obtain ⟨v1, vs1, d1, ds1, p1, q1, rfl, rfl, rfl, h1, r1⟩ := trodAll_cons r0
  obtain ⟨v2, vs2, d2, ds2, p2, q2, rfl, rfl, rfl, h2, r2⟩ := trodAll_cons r1
  obtain ⟨rfl, rfl, rfl⟩ := trodAll_nil r2
  obtain rfl : args = #[v0, v1, v2] := by cases args; simp_all
  obtain ⟨rfl, rfl⟩ := trodVars_none hV
  obtain ⟨a0, rfl, rfl, rfl, w0⟩ := open_int Try.underlying3 (hval 0 3 v0 rfl rfl) h0
  obtain ⟨a1, rfl, rfl, rfl, w1⟩ := open_int Try.underlying3 (hval 1 3 v1 rfl rfl) h1
  obtain ⟨a2, rfl, rfl, rfl, w2⟩ := open_int Try.underlying3 (hval 2 3 v2 rfl rfl) h2
  clear hA0 hval0
  simp only [List.append_nil] at hW'
  have b0 := bounds_i64 w0
  have b1 := bounds_i64 w1
  have b2 := bounds_i64 w2
  refine (walk a0 a1 a2 W b0.1 b0.2 b1.1 b1.2 b2.1 b2.2).mono fun e W' ⟨he, hg⟩ => ?_
  subst he
  exact ⟨_, rfl, _, _, _, [], [], [], hW', (trodAll_cons_mk (shut_bool Try.underlying4 _) trodAll_mk0), (trodAll_cons_mk (shut_int Try.underlying3 w0) (trodAll_cons_mk (shut_int Try.underlying3 w1) (trodAll_cons_mk (shut_int Try.underlying3 w2) trodAll_mk0))), rfl, hg.frame _, fun h => by cases h⟩
theorem over : Rows.groupRingRow.holds Try.pinned (OpenSpec.ofChange Rows.groupRingSpec) :=
  OpenClaim.holds_of_wide 6 Try.f6 rfl rfl rfl rfl rfl rfl rfl ⟨rfl, rfl, rfl, rfl, rfl⟩ rfl rfl rfl rfl rfl (by kernel_rfl) Try.func6 (by kernel_rfl)
    (of_decide_eq_true (by kernel_rfl)) (by unfold Func.isWrapper; first | (rw [if_pos (by decide +kernel)]; kernel_rfl) | (rw [if_neg (by decide +kernel)]; exact ⟨rfl, rfl⟩))
    (fun os started H enc _ => lifted os started H enc)
/-- THE STATEMENT -/
theorem proved : Rows.GroupRingSaid := over
#print axioms proved
end Go.Proofs.Ythibfangifpooaa.groupRing
