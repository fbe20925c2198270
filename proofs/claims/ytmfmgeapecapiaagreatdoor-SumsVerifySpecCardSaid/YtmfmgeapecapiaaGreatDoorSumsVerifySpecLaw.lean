/- SumsVerifySpec: for every root and part, valid or not, Verify and Mean of the program are those of the reference. No conditions. -/
import Derived.Test.YtmfmgeapecapiaaGreatDoorVS14
import Derived.Test.YtmfmgeapecapiaaGreatDoorVS18
import Derived.Test.YtmfmgeapecapiaaGreatDoorVS2
import Derived.Test.YtmfmgeapecapiaaGreatDoorVS19
import Derived.Test.YtmfmgeapecapiaaGreatDoorVS6
import Derived.Test.YtmfmgeapecapiaaGreatDoorVS17
import Derived.Test.YtmfmgeapecapiaaGreatDoorVS13
import Derived.Test.YtmfmgeapecapiaaGreatDoorCards
import Derived.Test.YtmfmgeapecapiaaGreatDoorTie
import Derived.Lib.SmallJoins
set_option maxHeartbeats 64000001
open Go.Lib (hid)
namespace Go.Proofs.YtmfmgeapecapiaaGreatDoor.sumsVerifySpec
open Go.ChangeShapes Go.WideShapes Go.ChangeAt Go.RowKit SzSha SzTree
set_option linter.unusedVariables false
set_option maxRecDepth 100000
def t0V : Tr := ⟨0, 0, 0, 0, [], [], zeroD⟩
theorem t0V_v : Value.agg #[.int .i64 0, .int .i64 0, .int .i64 0, .int .i64 0, .slice none 0 0, .slice none 0 0, .int .u8 0, .int .u8 0, .int .u8 0, .int .u8 0, .int .u8 0, .int .u8 0, .int .u8 0, .int .u8 0, .int .u8 0, .int .u8 0, .int .u8 0, .int .u8 0, .int .u8 0, .int .u8 0, .int .u8 0, .int .u8 0, .int .u8 0, .int .u8 0, .int .u8 0, .int .u8 0, .int .u8 0, .int .u8 0, .int .u8 0, .int .u8 0, .int .u8 0, .int .u8 0, .int .u8 0, .int .u8 0, .int .u8 0, .int .u8 0, .int .u8 0, .int .u8 0] = trV t0V peT3 := rfl
theorem big (r : Rt) (f u : Int) (A : Option Addr) (n cc : Nat) (ls : List Nd) (w : World) (hr : Hid (RtOk r)) (h : Hid (InN w A n cc ls)) (hT : Hid (Tabs w)) (hf : ¬ n ≤ 40) :
  Calls Tryz.prog 7 #[.agg (rtC r).toArray, .agg #[.int .i64 f, .int .i64 u, .slice A n cc]] w fun e w' => e = .returned (.bool true) ∧ Below w.heap.size w w' := by
 have HIR := hid (rtC_info hr.out)
 have hb0 := ((Below.refl _ w).alloc (Nat.le_refl _) (.cells (rtC r).toArray 43)).alloc (by simp) (.cells #[.int .i64 f, .int .i64 u, .slice A n cc] 66)
 have hr0 := (Below.heap_alloc (w.alloc (.cells (rtC r).toArray 43)) (.cells #[.int .i64 f, .int .i64 u, .slice A n cc] 66) w.heap.size (by simp)).trans (heap_alloc_new w (.cells (rtC r).toArray 43))
 have hr1 := heap_alloc_new (w.alloc (.cells (rtC r).toArray 43)) (.cells #[.int .i64 f, .int .i64 u, .slice A n cc] 66)
 rw [World.size_alloc] at hr1
 obtain ⟨V0, HV0⟩ : ∃ V, Hid ((w.alloc (.cells (rtC r).toArray 43)).alloc (.cells #[.int .i64 f, .int .i64 u, .slice A n cc] 66) = V) := ⟨_, hid rfl⟩
 rw [HV0.out] at hb0 hr0 hr1
 have HB0 := hid hb0
 have RR0 := hid hr0
 have RP0 := hid hr1
 have KI0 := hid (h.out.below hb0)
 have KT0 := hid (hT.out.below hb0)
 clear hb0 hr0 hr1
 go_enter Tryz.func7, Tryz.ntmps7
 go_wp2_with (rw [HV0.out])
 refine (sane43 _ KT0).mono ?_
 rintro e U1 ⟨rfl, hq⟩
 have HB2 := hid (HB0.out.trans (hq.mono HB0.out.size))
 have RR2 := hid (row_kept RR0.out hq)
 have RP2 := hid (row_kept RP0.out hq)
 have KI2 := hid (KI0.out.below hq)
 have KT2 := hid (KT0.out.below hq)
 clear hq HB0 RR0 RP0 KI0 KT0
 have p0 := cell_of_row _ _ 0 _ _ _ RP2.out
 have p1 := cell_of_row _ _ 1 _ _ _ RP2.out
 have p2 := cell_of_row _ _ 2 _ _ _ RP2.out
 go_wp2_with fail
 rw [t0V_v]
 refine (few43_no t0V peT3 A n cc f u _ (.inr hf)).mono ?_
 rintro e U3 ⟨rfl, hq⟩
 clear p0 p1 p2
 have HB4 := hid (HB2.out.trans (hq.mono HB2.out.size))
 have RR4 := hid (row_kept RR2.out hq)
 have RP4 := hid (row_kept RP2.out hq)
 have KI4 := hid (KI2.out.below hq)
 have KT4 := hid (KT2.out.below hq)
 clear hq HB2 RR2 RP2 KI2 KT2
 go_wp2_with fail
 go_ret
 exact ⟨rfl, HB4.out⟩
theorem good (r : Rt) (f u : Int) (A : Option Addr) (n cc : Nat) (ls : List Nd) (w : World) (hr : Hid (RtOk r)) (h : Hid (InN w A n cc ls)) (hT : Hid (Tabs w)) (hn : n ≤ 40) :
  Calls Tryz.prog 7 #[.agg (rtC r).toArray, .agg #[.int .i64 f, .int .i64 u, .slice A n cc]] w fun e w' => e = .returned (.bool true) ∧ Below w.heap.size w w' := by
 obtain ⟨x, Ex⟩ : ∃ q, Hid ((vfS r.lin r.tree f u ls).1 = q) := ⟨_, hid rfl⟩
 have dx : ((x : Int) == (x : Int)) = true := beq_self_eq_true _
 obtain ⟨y, Ey⟩ : ∃ q, Hid ((vfS r.lin r.tree f u ls).2.1 = q) := ⟨_, hid rfl⟩
 have dy : ((y : Int) == (y : Int)) = true := beq_self_eq_true _
 obtain ⟨z, Ez⟩ : ∃ q, Hid ((vfS r.lin r.tree f u ls).2.2 = q) := ⟨_, hid rfl⟩
 have dz : ((z : Int) == (z : Int)) = true := beq_self_eq_true _
 obtain ⟨a, Ea⟩ : ∃ q, Hid ((mnR (vfS r.lin r.tree f u ls)).1 = q) := ⟨_, hid rfl⟩
 have da : ((a : Int) == (a : Int)) = true := beq_self_eq_true _
 obtain ⟨b, Eb⟩ : ∃ q, Hid ((mnR (vfS r.lin r.tree f u ls)).2.1 = q) := ⟨_, hid rfl⟩
 have db : ((b : Int) == (b : Int)) = true := beq_self_eq_true _
 obtain ⟨c, Ec⟩ : ∃ q, Hid ((mnR (vfS r.lin r.tree f u ls)).2.2 = q) := ⟨_, hid rfl⟩
 have dc : ((c : Int) == (c : Int)) = true := beq_self_eq_true _
 have hl : ls.length ≤ 100000 := by rw [h.out.len]; omega
 have hnn : n ≤ 100000 := by omega
 have HIR := hid (rtC_info hr.out)
 have hb0 := ((Below.refl _ w).alloc (Nat.le_refl _) (.cells (rtC r).toArray 43)).alloc (by simp) (.cells #[.int .i64 f, .int .i64 u, .slice A n cc] 66)
 have hr0 := (Below.heap_alloc (w.alloc (.cells (rtC r).toArray 43)) (.cells #[.int .i64 f, .int .i64 u, .slice A n cc] 66) w.heap.size (by simp)).trans (heap_alloc_new w (.cells (rtC r).toArray 43))
 have hr1 := heap_alloc_new (w.alloc (.cells (rtC r).toArray 43)) (.cells #[.int .i64 f, .int .i64 u, .slice A n cc] 66)
 rw [World.size_alloc] at hr1
 obtain ⟨V0, HV0⟩ : ∃ V, Hid ((w.alloc (.cells (rtC r).toArray 43)).alloc (.cells #[.int .i64 f, .int .i64 u, .slice A n cc] 66) = V) := ⟨_, hid rfl⟩
 rw [HV0.out] at hb0 hr0 hr1
 have HB0 := hid hb0
 have RR0 := hid hr0
 have RP0 := hid hr1
 have KI0 := hid (h.out.below hb0)
 have KT0 := hid (hT.out.below hb0)
 clear hb0 hr0 hr1
 go_enter Tryz.func7, Tryz.ntmps7
 go_wp2_with (rw [HV0.out])
 refine (sane43 _ KT0).mono ?_
 rintro e U1 ⟨rfl, hq⟩
 have HB2 := hid (HB0.out.trans (hq.mono HB0.out.size))
 have RR2 := hid (row_kept RR0.out hq)
 have RP2 := hid (row_kept RP0.out hq)
 have KI2 := hid (KI0.out.below hq)
 have KT2 := hid (KT0.out.below hq)
 clear hq HB0 RR0 RP0 KI0 KT0
 have p0 := cell_of_row _ _ 0 _ _ _ RP2.out
 have p1 := cell_of_row _ _ 1 _ _ _ RP2.out
 have p2 := cell_of_row _ _ 2 _ _ _ RP2.out
 go_wp2_with fail
 rw [t0V_v]
 refine (few43_yes t0V peT3 A n cc f u _ (by decide) (by decide) hn).mono ?_
 rintro e U3 ⟨rfl, hq⟩
 clear p0 p1 p2
 have HB4 := hid (HB2.out.trans (hq.mono HB2.out.size))
 have RR4 := hid (row_kept RR2.out hq)
 have RP4 := hid (row_kept RP2.out hq)
 have KI4 := hid (KI2.out.below hq)
 have KT4 := hid (KT2.out.below hq)
 clear hq HB2 RR2 RP2 KI2 KT2
 have p0 := cell_of_row _ _ 0 _ _ _ RP4.out
 have p1 := cell_of_row _ _ 1 _ _ _ RP4.out
 have p2 := cell_of_row _ _ 2 _ _ _ RP4.out
 go_wp2_with (refine wpList_load_row rfl 43 (.tmp 2) rfl (w.heap.size) rfl 43 _ (0, 0) _ RR4.out Tryz.underlying43 rfl HIR.out ?_)
 refine (verify43 r f u A n cc ls _ hr KI4 KT4 hl).mono ?_
 rintro e U5 ⟨rfl, hq⟩
 rw [Ex.out, Ey.out, Ez.out]
 clear p0 p1 p2
 have HB6 := hid (HB4.out.trans (hq.mono HB4.out.size))
 have RR6 := hid (row_kept RR4.out hq)
 have RP6 := hid (row_kept RP4.out hq)
 have KI6 := hid (KI4.out.below hq)
 have KT6 := hid (KT4.out.below hq)
 clear hq HB4 RR4 RP4 KI4 KT4
 have p0 := cell_of_row _ _ 0 _ _ _ RP6.out
 have p1 := cell_of_row _ _ 1 _ _ _ RP6.out
 have p2 := cell_of_row _ _ 2 _ _ _ RP6.out
 go_wp2_with (refine wpList_load_row rfl 43 (.tmp 2) rfl (w.heap.size) rfl 43 _ (0, 0) _ RR6.out Tryz.underlying43 rfl HIR.out ?_)
 refine (rverify43 r f u A n cc ls _ hr KI6 hnn).mono ?_
 rintro e U7 ⟨rfl, hq⟩
 rw [Ex.out, Ey.out, Ez.out]
 clear p0 p1 p2
 have HB8 := hid (HB6.out.trans (hq.mono HB6.out.size))
 have RR8 := hid (row_kept RR6.out hq)
 have RP8 := hid (row_kept RP6.out hq)
 have KI8 := hid (KI6.out.below hq)
 have KT8 := hid (KT6.out.below hq)
 clear hq HB6 RR6 RP6 KI6 KT6
 have p0 := cell_of_row _ _ 0 _ _ _ RP8.out
 have p1 := cell_of_row _ _ 1 _ _ _ RP8.out
 have p2 := cell_of_row _ _ 2 _ _ _ RP8.out
 go_wp2_with (refine wpList_load_row rfl 43 (.tmp 2) rfl (w.heap.size) rfl 43 _ (0, 0) _ RR8.out Tryz.underlying43 rfl HIR.out ?_)
 refine (mean43 r f u A n cc ls _ hr KI8 KT8 hl).mono ?_
 rintro e U9 ⟨rfl, hq⟩
 rw [Ea.out, Eb.out, Ec.out]
 clear p0 p1 p2
 have HB10 := hid (HB8.out.trans (hq.mono HB8.out.size))
 have RR10 := hid (row_kept RR8.out hq)
 have RP10 := hid (row_kept RP8.out hq)
 have KI10 := hid (KI8.out.below hq)
 have KT10 := hid (KT8.out.below hq)
 clear hq HB8 RR8 RP8 KI8 KT8
 obtain ⟨V11, HV11⟩ : ∃ V, Hid (U9.alloc (.cells #[.int .i64 a, .int .i64 b] 74) = V) := ⟨_, hid rfl⟩
 have hw := heap_alloc_new U9 (.cells #[.int .i64 a, .int .i64 b] 74)
 have hb := (Below.refl _ U9).alloc (Nat.le_refl _) (.cells #[.int .i64 a, .int .i64 b] 74)
 rw [HV11.out] at hw hb
 have HB12 := hid (HB10.out.trans (hb.mono HB10.out.size))
 have RR12 := hid (row_kept RR10.out hb)
 have RP12 := hid (row_kept RP10.out hb)
 have KI12 := hid (KI10.out.below hb)
 have KT12 := hid (KT10.out.below hb)
 have RM11 := hid hw
 clear hw hb HB10 RR10 RP10 KI10 KT10
 have p0 := cell_of_row _ _ 0 _ _ _ RP12.out
 have p1 := cell_of_row _ _ 1 _ _ _ RP12.out
 have p2 := cell_of_row _ _ 2 _ _ _ RP12.out
 go_wp2_with (first | (rw [HV11.out]) | (refine wpList_load_row rfl 43 (.tmp 2) rfl (w.heap.size) rfl 43 _ (0, 0) _ RR12.out Tryz.underlying43 rfl HIR.out ?_))
 refine (rmean43 r f u A n cc ls _ hr KI12 hl).mono ?_
 rintro e U13 ⟨rfl, hq⟩
 rw [Ea.out, Eb.out, Ec.out]
 clear p0 p1 p2
 have HB14 := hid (HB12.out.trans (hq.mono HB12.out.size))
 have RR14 := hid (row_kept RR12.out hq)
 have RP14 := hid (row_kept RP12.out hq)
 have RM14 := hid (row_kept RM11.out hq)
 have KI14 := hid (KI12.out.below hq)
 have KT14 := hid (KT12.out.below hq)
 clear hq HB12 RR12 RP12 RM11 KI12 KT12
 obtain ⟨V15, HV15⟩ : ∃ V, Hid (U13.alloc (.cells #[.int .i64 a, .int .i64 b] 74) = V) := ⟨_, hid rfl⟩
 have hw := heap_alloc_new U13 (.cells #[.int .i64 a, .int .i64 b] 74)
 have hb := (Below.refl _ U13).alloc (Nat.le_refl _) (.cells #[.int .i64 a, .int .i64 b] 74)
 rw [HV15.out] at hw hb
 have HB16 := hid (HB14.out.trans (hb.mono HB14.out.size))
 have RR16 := hid (row_kept RR14.out hb)
 have RP16 := hid (row_kept RP14.out hb)
 have RM16 := hid (row_kept RM14.out hb)
 have KI16 := hid (KI14.out.below hb)
 have KT16 := hid (KT14.out.below hb)
 have RN15 := hid hw
 clear hw hb HB14 RR14 RP14 RM14 KI14 KT14
 have m0 := cell_of_row _ _ 0 _ _ _ RM16.out
 have m1 := cell_of_row _ _ 1 _ _ _ RM16.out
 have k0 := cell_of_row _ _ 0 _ _ _ RN15.out
 have k1 := cell_of_row _ _ 1 _ _ _ RN15.out
 go_wp2_with (first | (rw [HV15.out]) | (with_reducible refine wpList_here ?_; refine wpList_unguard rfl ?_; refine wpList_eql_ra rfl (.tmp 61) (.tmp 62) _ rfl ⟨a, b⟩ ⟨a, b⟩ rfl rfl ?_; rw [raEq_refl]))
 go_ret
 exact ⟨rfl, HB16.out⟩
theorem walk (w : World) (hT : Tabs w) (r : Rt) (hr : RtOk r) (f u : Int) (A : Option Addr) (n cc : Nat) (ls : List Nd) (hp : I64 f ∧ I64 u ∧ InN w A n cc ls ∧ cc ≤ maxLen) :
  Calls Tryz.prog 7 #[.agg (rtC r).toArray, .agg #[.int .i64 f, .int .i64 u, .slice A n cc]] w fun e w' => e = .returned (.bool true) ∧ Below w.heap.size w w' := by
 by_cases hn : n ≤ 40
 ·exact good r f u A n cc ls w (hid hr) (hid hp.2.2.1) (hid hT) hn
 ·exact big r f u A n cc ls w (hid hr) (hid hp.2.2.1) (hid hT) hn
set_option maxRecDepth 100000 in
theorem lifted (os : Os) (started : os.Started) (H : Type) (enc : TypeId × Value → H) :
  ReturnsInHanded {} Tryz.checked os 7 .any (fun w args => (Rows.sumsVerifySpecSpec.pre enc Tryz.prog Tryz.f7 [] false w args ∧ laidMetH Tryz.prog laidL w) ∧ sizedMet enc Tryz.prog Tryz.f7 (OpenSpec.ofChange Rows.sumsVerifySpecSpec) false w args)
   (Rows.sumsVerifySpecSpec.post enc Tryz.prog Tryz.f7 false true false false) := by
 refine returnsInHanded_of_change_and (C := Tryz.checked) (X := fun w _ => laidMetH Tryz.prog laidL w) (fun _ _ _ hh h => h.of_heap hh) own started (by kernel_rfl) Tryz.func7
  (ChangeSpec.witness_shaped (enc := enc) (C := Tryz.checked) (os := os) (X := fun w _ => laidMetH Tryz.prog laidL w) false (World.doorLaid Tryz.prog 400 os) #[.agg (Array.replicate 6 (.int .i64 0) ++ (Array.replicate 32 (.int .u8 0) ++ #[.int .i64 0, .int .i64 0]) ++ Array.replicate 96 (.int .u8 0) ++ #[.int .i64 0, .int .i64 0]), .agg #[.int .i64 0, .int .i64 0, .slice none 0 0]] 8 rfl (World.shaped_of_RefB (by kernel_rfl) (by kernel_rfl)) (by kernel_rfl) (by kernel_rfl) (by kernel_rfl) (door_met os _)) ?_
 intro W base args ds gs before hval0 hW _ hsz0 hL _
 have hval : ∀ (j : Nat) t v, Tryz.f7.params[j]? = some t → args[j]? = some v → Value.okWide Tryz.prog W .any base t v := hval0
 have hW' := hW
 obtain ⟨p, q, hA0, hV, rfl, hfz, hnd⟩ := hW
 have hA : DataW.TrodAll enc Tryz.prog W 0 (fun _ => true) true Tryz.f7.params.toList args.toList ds p := hA0
 have hsz : (DataW.weightsEach Tryz.prog (Tryz.f7.params.toList ++ Rows.sumsVerifySpecSpec.plain.varTypes Tryz.prog) (ds ++ gs)).all (· ≤ reachBytes) = true := hsz0
 rw [Tryz.params7] at hA hval hsz
 obtain ⟨v0, vs0, d0, ds0, p0, q0, hargs, rfl, rfl, h0, r0⟩ := trodAll_cons hA
 obtain ⟨v1, vs1, d1, ds1, p1, q1, rfl, rfl, rfl, h1, r1⟩ := trodAll_cons r0
 obtain ⟨rfl, rfl, rfl⟩ := trodAll_nil r1
 obtain rfl : args = #[v0, v1] := by cases args; simp_all
 obtain ⟨rfl, rfl⟩ := trodVars_none hV
 obtain ⟨l0, rfl, e0⟩ := arg_rt (hval 0 43 v0 rfl rfl) h0
 obtain ⟨i1, j1, A1, n1, c1, l1, rfl, e1⟩ := arg_pt (hval 1 66 v1 rfl rfl) h1
 refine (walk W (tabs_of hL) l0 e0 i1 j1 A1 n1 c1 l1 e1).mono fun e W' ⟨he, hg⟩ => ?_
 subst he
 exact ⟨_, rfl, law_post (by kernel_rfl) rfl rfl (fun _ => ⟨rfl, rfl, rfl⟩) hW' hg⟩
theorem over : Rows.sumsVerifySpecRow.holds Tryz.pinned (OpenSpec.ofChange Rows.sumsVerifySpecSpec) :=
 OpenClaim.holds_of_wide 7 Tryz.f7 rfl rfl rfl rfl rfl rfl rfl ⟨rfl, rfl, rfl, rfl, rfl⟩ rfl rfl rfl rfl rfl (by kernel_rfl) Tryz.func7 (by kernel_rfl)
  (of_decide_eq_true (by kernel_rfl)) (by unfold Func.isWrapper; first | (rw [if_pos (by decide +kernel)]; kernel_rfl) | (rw [if_neg (by decide +kernel)]; exact ⟨rfl, rfl⟩))
  (fun os started H enc _ => lifted os started H enc)
/-- THE STATEMENT: the card -/
theorem proved : Rows.SumsVerifySpecCardSaid :=
 Claim7.holds_tied_plain_at .later [] [.data, .data] true Rows.sumsVerifySpecCard.stood.harness true
  over (fun _ h => by cases h) (by kernel_rfl) (fun _ h => by cases h) sumsVerifySpec_row_tie rfl ⟨rfl, rfl⟩ (by kernel_rfl) rfl
  (fun f fn hf hfn => by
   obtain rfl : f = 7 := Option.some.inj ((show Tryz.prog.funcNamed "sizar/sizarlaw43.SumsVerifySpec" = some 7 by kernel_rfl).symm.trans hf) |>.symm
   obtain rfl : fn = Tryz.f7 := (Option.some.inj (Tryz.func7.symm.trans hfn)).symm
   exact ⟨by kernel_rfl, fun j t ht => stands_of (show Tryz.f7.params.all (fun t => !Tryz.prog.wantsStandIn t) = true by kernel_rfl) ht⟩)
  (by kernel_rfl)
#print axioms proved
end Go.Proofs.YtmfmgeapecapiaaGreatDoor.sumsVerifySpec
