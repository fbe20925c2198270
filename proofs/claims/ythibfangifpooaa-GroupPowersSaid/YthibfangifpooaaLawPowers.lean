/- GroupPowers: for all m, x, y the law returns true: powers of elements add and multiply their exponents. No conditions. -/
import Derived.Test.YthibfangifpooaaRows
import Derived.Test.YthibfangifpooaaSane03
import Derived.Test.YthibfangifpooaaElement
import Derived.WalkKit
import Derived.ProofKit
import Derived.OpenShut
namespace Go.Proofs.Ythibfangifpooaa.groupPowers
open Go.ChangeShapes Go.WideShapes Go.ChangeAt Go.RowKit
set_option linter.unusedVariables false
theorem own : ownKnob Try.prog.godebug = none := by kernel_rfl
def Bd (a : Int) : Prop := -9223372036854775808 ≤ a ∧ a ≤ 9223372036854775807
open SzGrp SzPow in
theorem bd_exp (a b : Int) : Bd (expV a b) := by have := expV_bounds a b; exact ⟨by omega, by omega⟩
open SzGrp SzPow in
theorem bd_sc {k : Int} (h : sc k = true) : Bd k := by have := sc_bounds h; exact ⟨by omega, by omega⟩
open SzGrp SzPow in
set_option maxRecDepth 100000 in
set_option maxHeartbeats 4000000 in
theorem go (a x y j k : Int) (m : Nat) (w : World) (h1 : m ≤ 18446744073709551615) (hx1 : -9223372036854775808 ≤ x) (hx2 : x ≤ 9223372036854775807) (hy1 : -9223372036854775808 ≤ y) (hy2 : y ≤ 9223372036854775807) (ha : El m a) (hj : Hid (ofS x = j)) (hk : Hid (ofS y = k)) :
    Calls Try.prog 5 #[.int .u64 m, .int .i64 x, .int .i64 y] w fun e w' => e = .returned (.bool true) ∧ Below w.heap.size w w' := by
  have ea := Lib.hid ha.2.1
  have sj : Hid (sc j = true) := Lib.hid (by rw [← hj.out]; exact sc_ofS x)
  have sk : Hid (sc k = true) := Lib.hid (by rw [← hk.out]; exact sc_ofS y)
  have na : Bd a := ⟨by have := ha.2.2; omega, by have := ha.2.2; omega⟩
  have nj := bd_sc sj.out
  have nk := bd_sc sk.out
  have ss := Lib.hid (sc_sum sj.out sk.out)
  have sp := Lib.hid (sc_prod sj.out sk.out)
  have ns := bd_sc ss.out
  have np := bd_sc sp.out
  have ep := Lib.hid (isE_exp ea.out sj.out)
  have eq := Lib.hid (isE_exp ea.out sk.out)
  go_enter Try.func5, Try.ntmps5
  go_wp2_with fail
  refine (sane_any _).mono ?_
  rintro e w1 ⟨rfl, hb1⟩
  go_wp2_with fail
  refine (element_el m a _ h1 ha).mono ?_
  rintro e w' ⟨rfl, rfl⟩
  go_wp2_with fail
  refine (of_any x _ hx1 hx2).mono ?_
  rintro e w' ⟨rfl, rfl⟩
  rw [hj.out]
  go_wp2_with fail
  refine (of_any y _ hy1 hy2).mono ?_
  rintro e w' ⟨rfl, rfl⟩
  rw [hk.out]
  go_wp2_with fail
  refine (exp_any a j _ na.1 na.2 nj.1 nj.2).mono ?_
  rintro e w2 ⟨rfl, hb2⟩
  rw [expE_ok ea.out sj.out]
  replace hb2 := hb1.trans (hb2.mono hb1.size)
  go_wp2_with fail
  refine (exp_any a k _ na.1 na.2 nk.1 nk.2).mono ?_
  rintro e w3 ⟨rfl, hb3⟩
  rw [expE_ok ea.out sk.out]
  replace hb3 := hb2.trans (hb3.mono hb2.size)
  go_wp2_with fail
  refine (sum_any j k _).mono ?_
  rintro e w4 ⟨rfl, hb4⟩
  rw [sumE_ok sj.out sk.out]
  replace hb4 := hb3.trans (hb4.mono hb3.size)
  go_wp2_with fail
  refine (product_any j k _).mono ?_
  rintro e w5 ⟨rfl, hb5⟩
  rw [sumE_ok sj.out sk.out]
  replace hb5 := hb4.trans (hb5.mono hb4.size)
  go_wp2_with fail
  refine (mul_any (expV a j) (expV a k) _ (bd_exp _ _).1 (bd_exp _ _).2 (bd_exp _ _).1 (bd_exp _ _).2).mono ?_
  rintro e w6 ⟨rfl, hb6⟩
  rw [mulE_ok ep.out eq.out, exp_sum ea.out sj.out sk.out]
  replace hb6 := hb5.trans (hb6.mono hb5.size)
  go_wp2_with fail
  refine (exp_any a (sumV j k) _ na.1 na.2 ns.1 ns.2).mono ?_
  rintro e w7 ⟨rfl, hb7⟩
  rw [expE_ok ea.out ss.out]
  replace hb7 := hb6.trans (hb7.mono hb6.size)
  go_wp2_with fail
  refine (exp_any a (prodV j k) _ na.1 na.2 np.1 np.2).mono ?_
  rintro e w8 ⟨rfl, hb8⟩
  rw [expE_ok ea.out sp.out, exp_prod ea.out sj.out sk.out]
  replace hb8 := hb7.trans (hb8.mono hb7.size)
  go_wp2_with fail
  refine (exp_any (expV a j) k _ (bd_exp _ _).1 (bd_exp _ _).2 nk.1 nk.2).mono ?_
  rintro e w9 ⟨rfl, hb9⟩
  rw [expE_ok ep.out sk.out]
  replace hb9 := hb8.trans (hb9.mono hb8.size)
  go_wp2_with fail
  refine (exp_any a 0 _ na.1 na.2 (by omega) (by omega)).mono ?_
  rintro e w10 ⟨rfl, hb10⟩
  rw [expE_ok ea.out sc_zero, exp_zero ea.out]
  replace hb10 := hb9.trans (hb10.mono hb9.size)
  go_wp2_with fail
  refine (exp_any a 1 _ na.1 na.2 (by omega) (by omega)).mono ?_
  rintro e w11 ⟨rfl, hb11⟩
  rw [expE_ok ea.out sc_one, exp_one ea.out]
  replace hb11 := hb10.trans (hb11.mono hb10.size)
  go_wp2_with fail
  refine (exp_any a 2305843009213688668 _ na.1 na.2 (by omega) (by omega)).mono ?_
  rintro e w12 ⟨rfl, hb12⟩
  rw [expE_ok ea.out sc_last]
  replace hb12 := hb11.trans (hb12.mono hb11.size)
  go_wp2_with fail
  refine (inv_any a _ na.1 na.2).mono ?_
  rintro e w13 ⟨rfl, hb13⟩
  rw [expE_ok ea.out sc_last]
  replace hb13 := hb12.trans (hb13.mono hb12.size)
  go_wp2_with fail
  go_ret
  exact ⟨rfl, hb13⟩
open SzGrp SzPow in
set_option maxRecDepth 100000 in
set_option maxHeartbeats 4000000 in
theorem no (x y : Int) (m : Nat) (w : World) (h1 : m ≤ 18446744073709551615) (hm : Hid ((sq m : Int) = 0)) :
    Calls Try.prog 5 #[.int .u64 m, .int .i64 x, .int .i64 y] w fun e w' => e = .returned (.bool true) ∧ Below w.heap.size w w' := by
  go_enter Try.func5, Try.ntmps5
  go_wp2_with fail
  refine (sane_any _).mono ?_
  rintro e w1 ⟨rfl, hb1⟩
  go_wp2_with fail
  refine (element_no m _ h1 hm).mono ?_
  rintro e w' ⟨rfl, rfl⟩
  go_wp2_with fail
  go_ret
  exact ⟨rfl, hb1⟩
theorem walk (m x y : Int) (w : World) (g1 : 0 ≤ m) (h1 : m ≤ 18446744073709551615) (g2 : -9223372036854775808 ≤ x) (h2 : x ≤ 9223372036854775807) (g3 : -9223372036854775808 ≤ y) (h3 : y ≤ 9223372036854775807) :
    Calls Try.prog 5 #[.int .u64 m, .int .i64 x, .int .i64 y] w fun e w' => e = .returned (.bool true) ∧ Below w.heap.size w w' := by
  obtain ⟨m, rfl⟩ := Int.eq_ofNat_of_zero_le g1
  rcases el_cases m with h | ⟨a, h⟩
  · exact no x y m w (by omega) (Lib.hid (by rw [h]; rfl))
  · exact go a x y _ _ m w (by omega) g2 h2 g3 h3 h (Lib.hid rfl) (Lib.hid rfl)
set_option maxRecDepth 100000 in
theorem lifted (os : Os) (started : os.Started) (H : Type) (enc : TypeId × Value → H) :
    ReturnsInHanded {} Try.checked os 5 .any (Rows.groupPowersSpec.pre6 enc Try.prog Try.f5 Rows.groupPowersRow.domain false) (Rows.groupPowersSpec.post enc Try.prog Try.f5 false true false false) := by
  refine returnsInHanded_of_change (C := Try.checked) own started (by kernel_rfl) Try.func5
    (ChangeSpec.witness6 (enc := enc) (C := Try.checked) false ⟨#[], #[.int .u64 0, .int .i64 0, .int .i64 0], []⟩ 8 (by kernel_rfl) (by kernel_rfl) (by kernel_rfl) (by kernel_rfl)) ?_
  intro W base args ds gs before hval0 hW hcnd _
  have hval : ∀ (j : Nat) t v, Try.f5.params[j]? = some t → args[j]? = some v → Value.okWide Try.prog W .any base t v := hval0
  have hW' := hW
  obtain ⟨p, q, hA0, hV, rfl, hfz, hnd⟩ := hW
  have hA : DataW.TrodAll enc Try.prog W 0 (fun _ => true) true Try.f5.params.toList args.toList ds p := hA0
  rw [Try.params5] at hA hval
  obtain ⟨v0, vs0, d0, ds0, p0, q0, hargs, rfl, rfl, h0, r0⟩ := trodAll_cons hA
  obtain ⟨v1, vs1, d1, ds1, p1, q1, rfl, rfl, rfl, h1, r1⟩ := trodAll_cons r0
  obtain ⟨v2, vs2, d2, ds2, p2, q2, rfl, rfl, rfl, h2, r2⟩ := trodAll_cons r1
  obtain ⟨rfl, rfl, rfl⟩ := trodAll_nil r2
  obtain rfl : args = #[v0, v1, v2] := by cases args; simp_all
  obtain ⟨rfl, rfl⟩ := trodVars_none hV
  obtain ⟨a0, rfl, rfl, rfl, w0⟩ := open_int Try.underlying29 (hval 0 29 v0 rfl rfl) h0
  obtain ⟨a1, rfl, rfl, rfl, w1⟩ := open_int Try.underlying3 (hval 1 3 v1 rfl rfl) h1
  obtain ⟨a2, rfl, rfl, rfl, w2⟩ := open_int Try.underlying3 (hval 2 3 v2 rfl rfl) h2
  clear hA0 hval0
  simp only [List.append_nil] at hW'
  have b0 := bounds_u64 w0
  have b1 := bounds_i64 w1
  have b2 := bounds_i64 w2
  refine (walk a0 a1 a2 W b0.1 b0.2 b1.1 b1.2 b2.1 b2.2).mono fun e W' ⟨he, hg⟩ => ?_
  subst he
  exact ⟨_, rfl, _, _, _, [], [], [], hW', (trodAll_cons_mk (shut_bool Try.underlying4 _) trodAll_mk0), (trodAll_cons_mk (shut_int Try.underlying29 w0) (trodAll_cons_mk (shut_int Try.underlying3 w1) (trodAll_cons_mk (shut_int Try.underlying3 w2) trodAll_mk0))), rfl, hg.frame _, fun h => by cases h⟩
theorem over : Rows.groupPowersRow.holds Try.pinned (OpenSpec.ofChange Rows.groupPowersSpec) :=
  OpenClaim.holds_of_wide 5 Try.f5 rfl rfl rfl rfl rfl rfl rfl ⟨rfl, rfl, rfl, rfl, rfl⟩ rfl rfl rfl rfl rfl (by kernel_rfl) Try.func5 (by kernel_rfl)
    (of_decide_eq_true (by kernel_rfl)) (by unfold Func.isWrapper; first | (rw [if_pos (by decide +kernel)]; kernel_rfl) | (rw [if_neg (by decide +kernel)]; exact ⟨rfl, rfl⟩))
    (fun os started H enc _ => lifted os started H enc)
/-- THE STATEMENT -/
theorem proved : Rows.GroupPowersSaid := over
#print axioms proved
end Go.Proofs.Ythibfangifpooaa.groupPowers
