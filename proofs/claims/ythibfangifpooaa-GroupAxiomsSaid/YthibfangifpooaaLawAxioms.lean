/- GroupAxioms: for all m, n, o the law returns true: the squares are a commutative group. No conditions. -/
import Derived.Test.YthibfangifpooaaRows
import Derived.Test.YthibfangifpooaaSane03
import Derived.Test.YthibfangifpooaaElement
import Derived.WalkKit
import Derived.ProofKit
import Derived.OpenShut
namespace Go.Proofs.Ythibfangifpooaa.groupAxioms
open Go.ChangeShapes Go.WideShapes Go.ChangeAt Go.RowKit
set_option linter.unusedVariables false
theorem own : ownKnob Try.prog.godebug = none := by kernel_rfl
def Bd (a : Int) : Prop := -9223372036854775808 ≤ a ∧ a ≤ 9223372036854775807
open SzGrp SzPow in
theorem bd_mul (a b : Int) : Bd (mulV a b) := by have := mulV_bounds a b; exact ⟨by omega, by omega⟩
open SzGrp SzPow in
theorem bd_exp (a b : Int) : Bd (expV a b) := by have := expV_bounds a b; exact ⟨by omega, by omega⟩
open SzGrp SzPow in
set_option maxRecDepth 100000 in
set_option maxHeartbeats 4000000 in
theorem go (a b c : Int) (m n o : Nat) (w : World) (h1 : m ≤ 18446744073709551615) (h2 : n ≤ 18446744073709551615) (h3 : o ≤ 18446744073709551615) (ha : El m a) (hb : El n b) (hc : El o c) :
    Calls Try.prog 4 #[.int .u64 m, .int .u64 n, .int .u64 o] w fun e w' => e = .returned (.bool true) ∧ Below w.heap.size w w' := by
  have ea := Lib.hid ha.2.1
  have eb := Lib.hid hb.2.1
  have ec := Lib.hid hc.2.1
  have na : Bd a := ⟨by have := ha.2.2; omega, by have := ha.2.2; omega⟩
  have nb : Bd b := ⟨by have := hb.2.2; omega, by have := hb.2.2; omega⟩
  have nc : Bd c := ⟨by have := hc.2.2; omega, by have := hc.2.2; omega⟩
  have eab := Lib.hid (isE_mul ea.out eb.out)
  have ebc := Lib.hid (isE_mul eb.out ec.out)
  have ein := Lib.hid (isE_exp ea.out sc_last)
  go_enter Try.func4, Try.ntmps4
  go_wp2_with fail
  refine (sane_any _).mono ?_
  rintro e w1 ⟨rfl, hb1⟩
  go_wp2_with fail
  refine (element_el m a _ h1 ha).mono ?_
  rintro e w' ⟨rfl, rfl⟩
  go_wp2_with fail
  refine (element_el n b _ h2 hb).mono ?_
  rintro e w' ⟨rfl, rfl⟩
  go_wp2_with fail
  refine (element_el o c _ h3 hc).mono ?_
  rintro e w' ⟨rfl, rfl⟩
  go_wp2_with fail
  refine (mul_any a b _ na.1 na.2 nb.1 nb.2).mono ?_
  rintro e w2 ⟨rfl, hb2⟩
  rw [mulE_ok ea.out eb.out]
  replace hb2 := hb1.trans (hb2.mono hb1.size)
  go_wp2_with fail
  refine (mul_any b a _ nb.1 nb.2 na.1 na.2).mono ?_
  rintro e w3 ⟨rfl, hb3⟩
  rw [mulE_ok eb.out ea.out, mulV_comm b a]
  replace hb3 := hb2.trans (hb3.mono hb2.size)
  go_wp2_with fail
  refine (mul_any b c _ nb.1 nb.2 nc.1 nc.2).mono ?_
  rintro e w4 ⟨rfl, hb4⟩
  rw [mulE_ok eb.out ec.out]
  replace hb4 := hb3.trans (hb4.mono hb3.size)
  go_wp2_with fail
  refine (mul_any (mulV a b) c _ (bd_mul _ _).1 (bd_mul _ _).2 nc.1 nc.2).mono ?_
  rintro e w5 ⟨rfl, hb5⟩
  rw [mulE_ok eab.out ec.out, mulV_assoc ea.out eb.out ec.out]
  replace hb5 := hb4.trans (hb5.mono hb4.size)
  go_wp2_with fail
  refine (mul_any a (mulV b c) _ na.1 na.2 (bd_mul _ _).1 (bd_mul _ _).2).mono ?_
  rintro e w6 ⟨rfl, hb6⟩
  rw [mulE_ok ea.out ebc.out]
  replace hb6 := hb5.trans (hb6.mono hb5.size)
  go_wp2_with fail
  refine (mul_any a 1 _ na.1 na.2 (by omega) (by omega)).mono ?_
  rintro e w7 ⟨rfl, hb7⟩
  rw [mulE_ok ea.out e1, mulV_one ea.out]
  replace hb7 := hb6.trans (hb7.mono hb6.size)
  go_wp2_with fail
  refine (inv_any a _ na.1 na.2).mono ?_
  rintro e w8 ⟨rfl, hb8⟩
  rw [expE_ok ea.out sc_last]
  replace hb8 := hb7.trans (hb8.mono hb7.size)
  go_wp2_with fail
  refine (mul_any a (expV a 2305843009213688668) _ na.1 na.2 (bd_exp _ _).1 (bd_exp _ _).2).mono ?_
  rintro e w9 ⟨rfl, hb9⟩
  rw [mulE_ok ea.out ein.out, mulV_inv ea.out]
  replace hb9 := hb8.trans (hb9.mono hb8.size)
  go_wp2_with fail
  refine (check_any (mulV a b) _ (bd_mul _ _).1 (bd_mul _ _).2).mono ?_
  rintro e w10 ⟨rfl, hb10⟩
  rw [ck_ok eab.out]
  replace hb10 := hb9.trans (hb10.mono hb9.size)
  go_wp2_with fail
  refine (check_any (expV a 2305843009213688668) _ (bd_exp _ _).1 (bd_exp _ _).2).mono ?_
  rintro e w11 ⟨rfl, hb11⟩
  rw [ck_ok ein.out]
  replace hb11 := hb10.trans (hb11.mono hb10.size)
  go_wp2_with fail
  go_ret
  exact ⟨rfl, hb11⟩
def Flag (n : Nat) (a : Int) (x : Bool) : Prop := (x = true ∧ El n a) ∨ (x = false ∧ SzGrp.sq n = 0 ∧ a = 0)
theorem flag (n : Nat) : ∃ a x, Flag n a x := by
  rcases el_cases n with h | ⟨a, h⟩
  · exact ⟨0, false, .inr ⟨rfl, h, rfl⟩⟩
  · exact ⟨a, true, .inl ⟨rfl, h⟩⟩
theorem element_flag (n : Nat) (a : Int) (x : Bool) (w : World) (h : n ≤ 18446744073709551615) (ha : Flag n a x) :
    Calls Try.prog 19 #[.int .u64 n] w fun e w' => e = .returned (.tuple #[.int .i64 a, .bool x]) ∧ w = w' := by
  rcases ha with ⟨rfl, ha⟩ | ⟨rfl, h0, rfl⟩
  · exact element_el n a w h ha
  · exact element_no n w h (Lib.hid (by rw [h0]; rfl))
set_option maxRecDepth 100000 in
set_option maxHeartbeats 4000000 in
theorem no (a b c : Int) (x y z : Bool) (m n o : Nat) (w : World) (h1 : m ≤ 18446744073709551615) (h2 : n ≤ 18446744073709551615) (h3 : o ≤ 18446744073709551615) (ha : Flag m a x) (hb : Flag n b y) (hc : Flag o c z) (hn : (x && y && z) = false) :
    Calls Try.prog 4 #[.int .u64 m, .int .u64 n, .int .u64 o] w fun e w' => e = .returned (.bool true) ∧ Below w.heap.size w w' := by
  have HA := Lib.hid ha
  have HB := Lib.hid hb
  have HC := Lib.hid hc
  clear ha hb hc
  cases x <;> cases y <;> cases z <;> first | (exact absurd hn (by decide)) | skip
  all_goals
    clear hn
    go_enter Try.func4, Try.ntmps4
    go_wp2_with fail
    refine (sane_any _).mono ?_
    rintro e w1 ⟨rfl, hb1⟩
    go_wp2_with fail
    refine (element_flag m a _ _ h1 HA.out).mono ?_
    rintro e w' ⟨rfl, rfl⟩
    go_wp2_with fail
    refine (element_flag n b _ _ h2 HB.out).mono ?_
    rintro e w' ⟨rfl, rfl⟩
    go_wp2_with fail
    refine (element_flag o c _ _ h3 HC.out).mono ?_
    rintro e w' ⟨rfl, rfl⟩
    go_wp2_with fail
    go_ret
    exact ⟨rfl, hb1⟩
theorem walk (m n o : Int) (w : World) (g1 : 0 ≤ m) (h1 : m ≤ 18446744073709551615) (g2 : 0 ≤ n) (h2 : n ≤ 18446744073709551615) (g3 : 0 ≤ o) (h3 : o ≤ 18446744073709551615) :
    Calls Try.prog 4 #[.int .u64 m, .int .u64 n, .int .u64 o] w fun e w' => e = .returned (.bool true) ∧ Below w.heap.size w w' := by
  obtain ⟨m, rfl⟩ := Int.eq_ofNat_of_zero_le g1
  obtain ⟨n, rfl⟩ := Int.eq_ofNat_of_zero_le g2
  obtain ⟨o, rfl⟩ := Int.eq_ofNat_of_zero_le g3
  obtain ⟨a, x, ha⟩ := flag m
  obtain ⟨b, y, hb⟩ := flag n
  obtain ⟨c, z, hc⟩ := flag o
  cases hn : x && y && z
  · exact no a b c x y z m n o w (by omega) (by omega) (by omega) ha hb hc hn
  · simp only [Bool.and_eq_true] at hn
    obtain ⟨⟨rfl, rfl⟩, rfl⟩ := hn
    exact go a b c m n o w (by omega) (by omega) (by omega) (by simpa [Flag] using ha) (by simpa [Flag] using hb) (by simpa [Flag] using hc)
set_option maxRecDepth 100000 in
theorem lifted (os : Os) (started : os.Started) (H : Type) (enc : TypeId × Value → H) :
    ReturnsInHanded {} Try.checked os 4 .any (Rows.groupAxiomsSpec.pre6 enc Try.prog Try.f4 Rows.groupAxiomsRow.domain false) (Rows.groupAxiomsSpec.post enc Try.prog Try.f4 false true false false) := by
  refine returnsInHanded_of_change (C := Try.checked) own started (by kernel_rfl) Try.func4
    (ChangeSpec.witness6 (enc := enc) (C := Try.checked) false ⟨#[], #[.int .u64 0, .int .u64 0, .int .u64 0], []⟩ 8 (by kernel_rfl) (by kernel_rfl) (by kernel_rfl) (by kernel_rfl)) ?_
  intro W base args ds gs before hval0 hW hcnd _
  have hval : ∀ (j : Nat) t v, Try.f4.params[j]? = some t → args[j]? = some v → Value.okWide Try.prog W .any base t v := hval0
  have hW' := hW
  obtain ⟨p, q, hA0, hV, rfl, hfz, hnd⟩ := hW
  have hA : DataW.TrodAll enc Try.prog W 0 (fun _ => true) true Try.f4.params.toList args.toList ds p := hA0
  rw [Try.params4] at hA hval
  obtain ⟨v0, vs0, d0, ds0, p0, q0, hargs, rfl, rfl, h0, r0⟩ := trodAll_cons hA
  obtain ⟨v1, vs1, d1, ds1, p1, q1, rfl, rfl, rfl, h1, r1⟩ := trodAll_cons r0
  obtain ⟨v2, vs2, d2, ds2, p2, q2, rfl, rfl, rfl, h2, r2⟩ := trodAll_cons r1
  obtain ⟨rfl, rfl, rfl⟩ := trodAll_nil r2
  obtain rfl : args = #[v0, v1, v2] := by cases args; simp_all
  obtain ⟨rfl, rfl⟩ := trodVars_none hV
  obtain ⟨a0, rfl, rfl, rfl, w0⟩ := open_int Try.underlying29 (hval 0 29 v0 rfl rfl) h0
  obtain ⟨a1, rfl, rfl, rfl, w1⟩ := open_int Try.underlying29 (hval 1 29 v1 rfl rfl) h1
  obtain ⟨a2, rfl, rfl, rfl, w2⟩ := open_int Try.underlying29 (hval 2 29 v2 rfl rfl) h2
  clear hA0 hval0
  simp only [List.append_nil] at hW'
  have b0 := bounds_u64 w0
  have b1 := bounds_u64 w1
  have b2 := bounds_u64 w2
  refine (walk a0 a1 a2 W b0.1 b0.2 b1.1 b1.2 b2.1 b2.2).mono fun e W' ⟨he, hg⟩ => ?_
  subst he
  exact ⟨_, rfl, _, _, _, [], [], [], hW', (trodAll_cons_mk (shut_bool Try.underlying4 _) trodAll_mk0), (trodAll_cons_mk (shut_int Try.underlying29 w0) (trodAll_cons_mk (shut_int Try.underlying29 w1) (trodAll_cons_mk (shut_int Try.underlying29 w2) trodAll_mk0))), rfl, hg.frame _, fun h => by cases h⟩
theorem over : Rows.groupAxiomsRow.holds Try.pinned (OpenSpec.ofChange Rows.groupAxiomsSpec) :=
  OpenClaim.holds_of_wide 4 Try.f4 rfl rfl rfl rfl rfl rfl rfl ⟨rfl, rfl, rfl, rfl, rfl⟩ rfl rfl rfl rfl rfl (by kernel_rfl) Try.func4 (by kernel_rfl)
    (of_decide_eq_true (by kernel_rfl)) (by unfold Func.isWrapper; first | (rw [if_pos (by decide +kernel)]; kernel_rfl) | (rw [if_neg (by decide +kernel)]; exact ⟨rfl, rfl⟩))
    (fun os started H enc _ => lifted os started H enc)
/-- THE STATEMENT -/
theorem proved : Rows.GroupAxiomsSaid := over
#print axioms proved
end Go.Proofs.Ythibfangifpooaa.groupAxioms
