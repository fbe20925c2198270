/- GroupHalves: for every number n the law returns true: of a number and its negative exactly one is an element. No conditions. -/
import Derived.Test.YthibfangifpooaaRows
import Derived.Test.YthibfangifpooaaSane03
import Derived.Test.YthibfangifpooaaElement
import Derived.WalkKit
import Derived.ProofKit
import Derived.OpenShut
namespace Go.Proofs.Ythibfangifpooaa.groupHalves
open Go.ChangeShapes Go.WideShapes Go.ChangeAt Go.RowKit
set_option linter.unusedVariables false
theorem own : ownKnob Try.prog.godebug = none := by kernel_rfl
open SzGrp SzPow in
set_option maxRecDepth 100000 in
set_option maxHeartbeats 4000000 in
theorem zero (n : Nat) (w : World) (h : n ≤ 18446744073709551615) (hz : Hid ((n : Int) % 4611686018427377339 = 0)) :
    Calls Try.prog 7 #[.int .u64 n] w fun e w' => e = .returned (.bool true) ∧ Below w.heap.size w w' := by
  have hz' := hz.out
  go_enter Try.func7, Try.ntmps7
  go_wp2_with fail
  refine (sane_any _).mono ?_
  rintro e w1 ⟨rfl, hb1⟩
  go_wp2_with fail
  refine (check_any 0 _ (by omega) (by omega)).mono ?_
  rintro e w2 ⟨rfl, hb2⟩
  rw [c0]
  replace hb2 := hb1.trans (hb2.mono hb1.size)
  go_wp2_with fail
  go_ret
  exact ⟨rfl, hb2⟩
open SzGrp SzPow in
set_option maxRecDepth 100000 in
set_option maxHeartbeats 4000000 in
theorem go (n a : Nat) (s : Int) (w : World) (h : n ≤ 18446744073709551615) (ha : Hid ((n : Int) % 4611686018427377339 = (a : Int))) (h0 : 0 < a) (hP : a < 4611686018427377339) (hs : El n s) :
    Calls Try.prog 7 #[.int .u64 n] w fun e w' => e = .returned (.bool true) ∧ Below w.heap.size w w' := by
  have ha' := ha.out
  have hne : ((a : Int) == 0) = false := beq_eq_false_iff_ne.2 (by omega)
  have es := Lib.hid hs.2.1
  have ns : -9223372036854775808 ≤ s ∧ s ≤ 9223372036854775807 := ⟨by have := hs.2.2; omega, by have := hs.2.2; omega⟩
  have HH := Lib.hid (halves a h0 hP)
  go_enter Try.func7, Try.ntmps7
  go_wp2_with fail
  refine (sane_any _).mono ?_
  rintro e w1 ⟨rfl, hb1⟩
  go_wp2_with fail
  refine (element_el n s _ h hs).mono ?_
  rintro e w' ⟨rfl, rfl⟩
  go_wp2_with fail
  refine (check_any s _ ns.1 ns.2).mono ?_
  rintro e w2 ⟨rfl, hb2⟩
  rw [ck_ok es.out]
  replace hb2 := hb1.trans (hb2.mono hb1.size)
  go_wp2_with fail
  refine (check_any a _ (by omega) (by omega)).mono ?_
  rintro e w3 ⟨rfl, hb3⟩
  replace hb3 := hb2.trans (hb3.mono hb2.size)
  go_wp2_with fail
  refine (check_any (4611686018427377339 - (a : Int)) _ (by omega) (by omega)).mono ?_
  rintro e w4 ⟨rfl, hb4⟩
  replace hb4 := hb3.trans (hb4.mono hb3.size)
  rcases HH.out with ⟨e1, e2⟩ | ⟨e1, e2⟩
  · rw [e1, e2]
    go_wp2_with fail
    go_ret
    exact ⟨rfl, hb4⟩
  · rw [e1, e2]
    go_wp2_with fail
    go_ret
    exact ⟨rfl, hb4⟩
open SzGrp SzPow in
theorem walk (n : Int) (w : World) (g1 : 0 ≤ n) (h1 : n ≤ 18446744073709551615) :
    Calls Try.prog 7 #[.int .u64 n] w fun e w' => e = .returned (.bool true) ∧ Below w.heap.size w w' := by
  obtain ⟨n, rfl⟩ := Int.eq_ofNat_of_zero_le g1
  by_cases hz : n % 4611686018427377339 = 0
  · exact zero n w (by omega) (Lib.hid (by omega))
  · rcases el_cases n with h | ⟨s, h⟩
    · exact absurd h (sq_ne n hz)
    · exact go n (n % 4611686018427377339) s w (by omega) (Lib.hid (by omega)) (by omega) (Nat.mod_lt _ (by omega)) h
set_option maxRecDepth 100000 in
theorem lifted (os : Os) (started : os.Started) (H : Type) (enc : TypeId × Value → H) :
    ReturnsInHanded {} Try.checked os 7 .any (Rows.groupHalvesSpec.pre6 enc Try.prog Try.f7 Rows.groupHalvesRow.domain false) (Rows.groupHalvesSpec.post enc Try.prog Try.f7 false true false false) := by
  refine returnsInHanded_of_change (C := Try.checked) own started (by kernel_rfl) Try.func7
    (ChangeSpec.witness6 (enc := enc) (C := Try.checked) false ⟨#[], #[.int .u64 0], []⟩ 8 (by kernel_rfl) (by kernel_rfl) (by kernel_rfl) (by kernel_rfl)) ?_
  intro W base args ds gs before hval0 hW hcnd _
  have hval : ∀ (j : Nat) t v, Try.f7.params[j]? = some t → args[j]? = some v → Value.okWide Try.prog W .any base t v := hval0
  have hW' := hW
  obtain ⟨p, q, hA0, hV, rfl, hfz, hnd⟩ := hW
  have hA : DataW.TrodAll enc Try.prog W 0 (fun _ => true) true Try.f7.params.toList args.toList ds p := hA0
  rw [Try.params7] at hA hval
  obtain ⟨v0, vs0, d0, ds0, p0, q0, hargs, rfl, rfl, h0, r0⟩ := trodAll_cons hA
  obtain ⟨rfl, rfl, rfl⟩ := trodAll_nil r0
  obtain rfl : args = #[v0] := by cases args; simp_all
  obtain ⟨rfl, rfl⟩ := trodVars_none hV
  obtain ⟨a0, rfl, rfl, rfl, w0⟩ := open_int Try.underlying29 (hval 0 29 v0 rfl rfl) h0
  clear hA0 hval0
  simp only [List.append_nil] at hW'
  have b0 := bounds_u64 w0
  refine (walk a0 W b0.1 b0.2).mono fun e W' ⟨he, hg⟩ => ?_
  subst he
  exact ⟨_, rfl, _, _, _, [], [], [], hW', (trodAll_cons_mk (shut_bool Try.underlying4 _) trodAll_mk0), (trodAll_cons_mk (shut_int Try.underlying29 w0) trodAll_mk0), rfl, hg.frame _, fun h => by cases h⟩
theorem over : Rows.groupHalvesRow.holds Try.pinned (OpenSpec.ofChange Rows.groupHalvesSpec) :=
  OpenClaim.holds_of_wide 7 Try.f7 rfl rfl rfl rfl rfl rfl rfl ⟨rfl, rfl, rfl, rfl, rfl⟩ rfl rfl rfl rfl rfl (by kernel_rfl) Try.func7 (by kernel_rfl)
    (of_decide_eq_true (by kernel_rfl)) (by unfold Func.isWrapper; first | (rw [if_pos (by decide +kernel)]; kernel_rfl) | (rw [if_neg (by decide +kernel)]; exact ⟨rfl, rfl⟩))
    (fun os started H enc _ => lifted os started H enc)
/-- THE STATEMENT -/
theorem proved : Rows.GroupHalvesSaid := over
#print axioms proved
end Go.Proofs.Ythibfangifpooaa.groupHalves
