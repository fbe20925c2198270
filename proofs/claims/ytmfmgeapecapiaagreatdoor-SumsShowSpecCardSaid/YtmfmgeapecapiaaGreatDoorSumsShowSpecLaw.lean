/- SumsShowSpec: for every transcript and interval, valid or not, Show of the program is that of the reference. No conditions. -/
import Derived.Test.YtmfmgeapecapiaaGreatDoorSH14
import Derived.Test.YtmfmgeapecapiaaGreatDoorSH19
import Derived.Test.YtmfmgeapecapiaaGreatDoorSH20
import Derived.Test.YtmfmgeapecapiaaGreatDoorSH11
import Derived.Test.YtmfmgeapecapiaaGreatDoorSH2
import Derived.Test.YtmfmgeapecapiaaGreatDoorSH6
import Derived.Test.YtmfmgeapecapiaaGreatDoorCards
import Derived.Test.YtmfmgeapecapiaaGreatDoorTie
import Derived.Lib.SmallJoins
set_option maxHeartbeats 64000001
open Go.Lib (hid)
namespace Go.Proofs.YtmfmgeapecapiaaGreatDoor.sumsShowSpec
open Go.ChangeShapes Go.WideShapes Go.ChangeAt Go.RowKit SzSha SzTree
set_option linter.unusedVariables false
set_option maxRecDepth 100000
theorem inN_nil43 (w : World) : InN w none 0 0 [] := ⟨rfl, Nat.le_refl _, (fun _ => rfl), (fun x hx => by cases hx), fun h1 => by simp at h1⟩
/-- the reference's Show in one law -/
theorem rshow43 (t : Tr) (p : TrP) (f u : Int) (w : World) (h : Hid (TrOk w t p)) (h4 : p.n ≤ 40) :
  Calls Tryz.prog 33 #[trV t p, .int .i64 f, .int .i64 u] w fun e w' => ∃ A n c, e = .returned (.tuple #[.agg #[.int .i64 (if shG t f u then f else 0), .int .i64 (if shG t f u then u else 0), .slice A n c], .int .i64 (shE t f u)]) ∧ InN w' A n c (shN t f u) ∧ Below w.heap.size w w' := by
 have hn : t.ln.length = p.n := h.out.ln.len
 cases hg : shG t f u with
 | false =>
  have e3 : shN t f u = [] := by unfold shN; rw [hg]; rfl
  rw [e3]
  exact (rshow43_no t p f u w h (hid hg)).mono fun e w' hq => ⟨none, 0, 0, hq.1, inN_nil43 _, hq.2⟩
 | true =>
  have hgg := hg
  unfold shG at hgg
  rw [Bool.and_eq_true] at hgg
  obtain ⟨h0, h1, h2, h3⟩ := ftB_iff hgg.2
  obtain ⟨f', rfl⟩ : ∃ k : Nat, f = (k : Int) := ⟨f.toNat, by omega⟩
  obtain ⟨u', rfl⟩ : ∃ k : Nat, u = (k : Int) := ⟨u.toNat, by omega⟩
  have e2 : shE t (f' : Int) (u' : Int) = 0 := by unfold shE; rw [hgg.1, hgg.2]; rfl
  have e3 : shN t (f' : Int) (u' : Int) = (parts f' u' 0 p.n).map (pN (t.ln.map (ndL t.salt))) := by unfold shN; rw [hg, hn]; simp
  rw [e2, e3]
  exact rshow43_yes t p f' u' w h (hid hgg.1) (by omega) (by omega) (by omega)
theorem big (t : Tr) (p : TrP) (f u : Int) (w : World) (h : Hid (TrOk w t p)) (hT : Hid (Tabs w)) (hf : ¬ (p.n ≤ 40 ∧ p.n2 ≤ 20)) :
  Calls Tryz.prog 6 #[trV t p, .int .i64 f, .int .i64 u] w fun e w' => e = .returned (.bool true) ∧ Below w.heap.size w w' := by
 have HIT : Hid ((Tryz.prog.info? 27).map (·.size) = some (trC t p).toArray.size) := hid (trV_info t p h.out.len)
 have hb0 := (Below.refl _ w).alloc (Nat.le_refl _) (.cells (trC t p).toArray 27)
 have RT0 := hid (heap_alloc_new w (.cells (trC t p).toArray 27))
 have KO0 := hid (h.out.below hb0)
 have KT0 := hid (hT.out.below hb0)
 have HB0 := hid hb0
 clear hb0
 rw [show trV t p = .agg (trC t p).toArray from rfl]
 go_enter Tryz.func6, Tryz.ntmps6
 go_wp2_with fail
 refine (sane43 _ KT0).mono ?_
 rintro e U1 ⟨rfl, hq⟩
 have HB2 := hid (HB0.out.trans (hq.mono HB0.out.size))
 have RT2 := hid (row_kept RT0.out hq)
 have KO2 := hid (KO0.out.below hq)
 have KT2 := hid (KT0.out.below hq)
 clear hq HB0 RT0 KO0 KT0
 go_wp2_with (refine wpList_load_row rfl 27 (.tmp 3) rfl (w.heap.size) rfl 27 _ (0, 0) _ RT2.out Tryz.underlying27 rfl HIT.out ?_)
 rw [show Value.agg (trC t p).toArray = trV t p from rfl]
 refine (few43_no t p none 0 0 0 0 _ (.inl hf)).mono ?_
 rintro e U3 ⟨rfl, hq⟩
 have HB4 := hid (HB2.out.trans (hq.mono HB2.out.size))
 have RT4 := hid (row_kept RT2.out hq)
 have KO4 := hid (KO2.out.below hq)
 have KT4 := hid (KT2.out.below hq)
 clear hq HB2 RT2 KO2 KT2
 go_wp2_with fail
 go_ret
 exact ⟨rfl, HB4.out⟩
theorem good (t : Tr) (p : TrP) (f u : Int) (w : World) (h : Hid (TrOk w t p)) (hT : Hid (Tabs w)) (h1 : p.n ≤ 40) (h2 : p.n2 ≤ 20) :
  Calls Tryz.prog 6 #[trV t p, .int .i64 f, .int .i64 u] w fun e w' => e = .returned (.bool true) ∧ Below w.heap.size w w' := by
 obtain ⟨a, HA⟩ : ∃ x, Hid ((if shG t f u = true then f else 0) = x) := ⟨_, hid rfl⟩
 obtain ⟨b, HBV⟩ : ∃ x, Hid ((if shG t f u = true then u else 0) = x) := ⟨_, hid rfl⟩
 obtain ⟨e0, HE⟩ : ∃ x, Hid (shE t f u = x) := ⟨_, hid rfl⟩
 obtain ⟨ls, HLS⟩ : ∃ x, Hid (shN t f u = x) := ⟨_, hid rfl⟩
 have HLN : Hid (ls.length ≤ 100000) := hid (by rw [← HLS.out]; exact shN_len t _ _)
 have dee : ((e0 : Int) == (e0 : Int)) = true := beq_self_eq_true _
 have HIT : Hid ((Tryz.prog.info? 27).map (·.size) = some (trC t p).toArray.size) := hid (trV_info t p h.out.len)
 have hb0 := (Below.refl _ w).alloc (Nat.le_refl _) (.cells (trC t p).toArray 27)
 have RT0 := hid (heap_alloc_new w (.cells (trC t p).toArray 27))
 have KO0 := hid (h.out.below hb0)
 have KT0 := hid (hT.out.below hb0)
 have HB0 := hid hb0
 clear hb0
 rw [show trV t p = .agg (trC t p).toArray from rfl]
 go_enter Tryz.func6, Tryz.ntmps6
 go_wp2_with fail
 refine (sane43 _ KT0).mono ?_
 rintro e U1 ⟨rfl, hq⟩
 have HB2 := hid (HB0.out.trans (hq.mono HB0.out.size))
 have RT2 := hid (row_kept RT0.out hq)
 have KO2 := hid (KO0.out.below hq)
 have KT2 := hid (KT0.out.below hq)
 clear hq HB0 RT0 KO0 KT0
 go_wp2_with (refine wpList_load_row rfl 27 (.tmp 3) rfl (w.heap.size) rfl 27 _ (0, 0) _ RT2.out Tryz.underlying27 rfl HIT.out ?_)
 rw [show Value.agg (trC t p).toArray = trV t p from rfl]
 refine (few43_yes t p none 0 0 0 0 _ h1 h2 (by omega)).mono ?_
 rintro e U3 ⟨rfl, hq⟩
 have HB4 := hid (HB2.out.trans (hq.mono HB2.out.size))
 have RT4 := hid (row_kept RT2.out hq)
 have KO4 := hid (KO2.out.below hq)
 have KT4 := hid (KT2.out.below hq)
 clear hq HB2 RT2 KO2 KT2
 go_wp2_with (refine wpList_load_row rfl 27 (.tmp 3) rfl (w.heap.size) rfl 27 _ (0, 0) _ RT4.out Tryz.underlying27 rfl HIT.out ?_)
 rw [show Value.agg (trC t p).toArray = trV t p from rfl]
 refine (show43 t p f u _ KO4 KT4).mono ?_
 rintro e U5 ⟨A1, n1, c1, rfl, hin, hq⟩
 rw [HA.out, HBV.out, HE.out]
 rw [HLS.out] at hin
 have KP0 := hid hin
 clear hin
 have HB6 := hid (HB4.out.trans (hq.mono HB4.out.size))
 have RT6 := hid (row_kept RT4.out hq)
 have KO6 := hid (KO4.out.below hq)
 have KT6 := hid (KT4.out.below hq)
 clear hq HB4 RT4 KO4 KT4
 obtain ⟨V7, HV7⟩ : ∃ V, Hid (U5.alloc (.cells #[.int .i64 a, .int .i64 b, .slice A1 n1 c1] 66) = V) := ⟨_, hid rfl⟩
 have hw := heap_alloc_new U5 (.cells #[.int .i64 a, .int .i64 b, .slice A1 n1 c1] 66)
 have hb := (Below.refl _ U5).alloc (Nat.le_refl _) (.cells #[.int .i64 a, .int .i64 b, .slice A1 n1 c1] 66)
 rw [HV7.out] at hw hb
 have HB8 := hid (HB6.out.trans (hb.mono HB6.out.size))
 have RT8 := hid (row_kept RT6.out hb)
 have KO8 := hid (KO6.out.below hb)
 have KT8 := hid (KT6.out.below hb)
 have KP8 := hid (KP0.out.below hb)
 have RX7 := hid hw
 clear hw hb HB6 RT6 KO6 KT6 KP0
 go_wp2_with (first | (rw [HV7.out]) | (refine wpList_load_row rfl 27 (.tmp 3) rfl (w.heap.size) rfl 27 _ (0, 0) _ RT8.out Tryz.underlying27 rfl HIT.out ?_))
 rw [show Value.agg (trC t p).toArray = trV t p from rfl]
 refine (rshow43 t p f u _ KO8 h1).mono ?_
 rintro e U9 ⟨A2, n2, c2, rfl, hin, hq⟩
 rw [HA.out, HBV.out, HE.out]
 rw [HLS.out] at hin
 have hnn : n1 = n2 := by rw [← hin.len, ← KP8.out.len]
 subst hnn
 have KQ0 := hid hin
 clear hin
 have HB10 := hid (HB8.out.trans (hq.mono HB8.out.size))
 have RT10 := hid (row_kept RT8.out hq)
 have RX10 := hid (row_kept RX7.out hq)
 have KO10 := hid (KO8.out.below hq)
 have KT10 := hid (KT8.out.below hq)
 have KP10 := hid (KP8.out.below hq)
 clear hq HB8 RT8 RX7 KO8 KT8 KP8
 have hn1 : n1 ≤ 100000 := by rw [← KP10.out.len]; exact HLN.out
 obtain ⟨V11, HV11⟩ : ∃ V, Hid (U9.alloc (.cells #[.int .i64 a, .int .i64 b, .slice A2 n1 c2] 66) = V) := ⟨_, hid rfl⟩
 have hw := heap_alloc_new U9 (.cells #[.int .i64 a, .int .i64 b, .slice A2 n1 c2] 66)
 have hb := (Below.refl _ U9).alloc (Nat.le_refl _) (.cells #[.int .i64 a, .int .i64 b, .slice A2 n1 c2] 66)
 rw [HV11.out] at hw hb
 have HB12 := hid (HB10.out.trans (hb.mono HB10.out.size))
 have RT12 := hid (row_kept RT10.out hb)
 have RX12 := hid (row_kept RX10.out hb)
 have KO12 := hid (KO10.out.below hb)
 have KT12 := hid (KT10.out.below hb)
 have KP12 := hid (KP10.out.below hb)
 have KQ12 := hid (KQ0.out.below hb)
 have RY11 := hid hw
 clear hw hb HB10 RT10 RX10 KO10 KT10 KP10 KQ0
 have p0 := cell_of_row _ _ 0 _ _ _ RX12.out
 have p1 := cell_of_row _ _ 1 _ _ _ RX12.out
 have p2 := cell_of_row _ _ 2 _ _ _ RX12.out
 have q0 := cell_of_row _ _ 0 _ _ _ RY11.out
 have q1 := cell_of_row _ _ 1 _ _ _ RY11.out
 have q2 := cell_of_row _ _ 2 _ _ _ RY11.out
 go_wp2_with (rw [HV11.out])
 refine (rsamePt a b ls A1 A2 n1 c1 c2 _ hn1 KP12 KQ12).mono ?_
 rintro e U13 ⟨rfl, hq⟩
 clear p0 p1 p2
 clear q0 q1 q2
 have HB14 := hid (HB12.out.trans (hq.mono HB12.out.size))
 have RT14 := hid (row_kept RT12.out hq)
 have RX14 := hid (row_kept RX12.out hq)
 have RY14 := hid (row_kept RY11.out hq)
 have KO14 := hid (KO12.out.below hq)
 have KT14 := hid (KT12.out.below hq)
 have KP14 := hid (KP12.out.below hq)
 have KQ14 := hid (KQ12.out.below hq)
 clear hq HB12 RT12 RX12 RY11 KO12 KT12 KP12 KQ12
 go_wp2_with fail
 go_ret
 exact ⟨rfl, HB14.out⟩
theorem walk (w : World) (hT : Tabs w) (t : Tr) (p : TrP) (h : TrOk w t p) (f : Int) (hf0 : -9223372036854775808 ≤ f) (hf1 : f ≤ 9223372036854775807) (u : Int) (hu0 : -9223372036854775808 ≤ u) (hu1 : u ≤ 9223372036854775807) :
  Calls Tryz.prog 6 #[trV t p, .int .i64 f, .int .i64 u] w fun e w' => e = .returned (.bool true) ∧ Below w.heap.size w w' := by
 by_cases hf : p.n ≤ 40 ∧ p.n2 ≤ 20
 ·exact good t p f u w (hid h) (hid hT) hf.1 hf.2
 ·exact big t p f u w (hid h) (hid hT) hf
set_option maxRecDepth 100000 in
theorem lifted (os : Os) (started : os.Started) (H : Type) (enc : TypeId × Value → H) :
  ReturnsInHanded {} Tryz.checked os 6 .any (fun w args => (Rows.sumsShowSpecSpec.pre enc Tryz.prog Tryz.f6 [] false w args ∧ laidMetH Tryz.prog laidL w) ∧ sizedMet enc Tryz.prog Tryz.f6 (OpenSpec.ofChange Rows.sumsShowSpecSpec) false w args)
   (Rows.sumsShowSpecSpec.post enc Tryz.prog Tryz.f6 false true false false) := by
 refine returnsInHanded_of_change_and (C := Tryz.checked) (X := fun w _ => laidMetH Tryz.prog laidL w) (fun _ _ _ hh h => h.of_heap hh) own started (by kernel_rfl) Tryz.func6
  (ChangeSpec.witness_shaped (enc := enc) (C := Tryz.checked) (os := os) (X := fun w _ => laidMetH Tryz.prog laidL w) false (World.doorLaid Tryz.prog 400 os) #[.agg (#[.int .i64 0, .int .i64 0, .int .i64 0, .int .i64 0, .slice none 0 0, .slice none 0 0] ++ Array.replicate 32 (.int .u8 0)), .int .i64 0, .int .i64 0] 8 rfl (World.shaped_of_RefB (by kernel_rfl) (by kernel_rfl)) (by kernel_rfl) (by kernel_rfl) (by kernel_rfl) (door_met os _)) ?_
 intro W base args ds gs before hval0 hW _ hsz0 hL _
 have hval : ∀ (j : Nat) t v, Tryz.f6.params[j]? = some t → args[j]? = some v → Value.okWide Tryz.prog W .any base t v := hval0
 have hW' := hW
 obtain ⟨p, q, hA0, hV, rfl, hfz, hnd⟩ := hW
 have hA : DataW.TrodAll enc Tryz.prog W 0 (fun _ => true) true Tryz.f6.params.toList args.toList ds p := hA0
 have hsz : (DataW.weightsEach Tryz.prog (Tryz.f6.params.toList ++ Rows.sumsShowSpecSpec.plain.varTypes Tryz.prog) (ds ++ gs)).all (· ≤ reachBytes) = true := hsz0
 rw [Tryz.params6] at hA hval hsz
 obtain ⟨v0, vs0, d0, ds0, p0, q0, hargs, rfl, rfl, h0, r0⟩ := trodAll_cons hA
 obtain ⟨v1, vs1, d1, ds1, p1, q1, rfl, rfl, rfl, h1, r1⟩ := trodAll_cons r0
 obtain ⟨v2, vs2, d2, ds2, p2, q2, rfl, rfl, rfl, h2, r2⟩ := trodAll_cons r1
 obtain ⟨rfl, rfl, rfl⟩ := trodAll_nil r2
 obtain rfl : args = #[v0, v1, v2] := by cases args; simp_all
 obtain ⟨rfl, rfl⟩ := trodVars_none hV
 obtain ⟨l0, y0, rfl, e0⟩ := arg_tr (hval 0 27 v0 rfl rfl) h0
 obtain ⟨a1, rfl, rfl, rfl, w1⟩ := open_int Tryz.underlying3 (hval 1 3 v1 rfl rfl) h1
 have b1 := bounds_i64 w1
 obtain ⟨a2, rfl, rfl, rfl, w2⟩ := open_int Tryz.underlying3 (hval 2 3 v2 rfl rfl) h2
 have b2 := bounds_i64 w2
 refine (walk W (tabs_of hL) l0 y0 e0 a1 b1.1 b1.2 a2 b2.1 b2.2).mono fun e W' ⟨he, hg⟩ => ?_
 subst he
 exact ⟨_, rfl, law_post (by kernel_rfl) rfl rfl (fun _ => ⟨rfl, rfl, rfl⟩) hW' hg⟩
theorem over : Rows.sumsShowSpecRow.holds Tryz.pinned (OpenSpec.ofChange Rows.sumsShowSpecSpec) :=
 OpenClaim.holds_of_wide 6 Tryz.f6 rfl rfl rfl rfl rfl rfl rfl ⟨rfl, rfl, rfl, rfl, rfl⟩ rfl rfl rfl rfl rfl (by kernel_rfl) Tryz.func6 (by kernel_rfl)
  (of_decide_eq_true (by kernel_rfl)) (by unfold Func.isWrapper; first | (rw [if_pos (by decide +kernel)]; kernel_rfl) | (rw [if_neg (by decide +kernel)]; exact ⟨rfl, rfl⟩))
  (fun os started H enc _ => lifted os started H enc)
/-- THE STATEMENT: the card -/
theorem proved : Rows.SumsShowSpecCardSaid :=
 Claim7.holds_tied_plain_at .later [] [.data, .data] true Rows.sumsShowSpecCard.stood.harness true
  over (fun _ h => by cases h) (by kernel_rfl) (fun _ h => by cases h) sumsShowSpec_row_tie rfl ⟨rfl, rfl⟩ (by kernel_rfl) rfl
  (fun f fn hf hfn => by
   obtain rfl : f = 6 := Option.some.inj ((show Tryz.prog.funcNamed "sizar/sizarlaw43.SumsShowSpec" = some 6 by kernel_rfl).symm.trans hf) |>.symm
   obtain rfl : fn = Tryz.f6 := (Option.some.inj (Tryz.func6.symm.trans hfn)).symm
   exact ⟨by kernel_rfl, fun j t ht => stands_of (show Tryz.f6.params.all (fun t => !Tryz.prog.wantsStandIn t) = true by kernel_rfl) ht⟩)
  (by kernel_rfl)
#print axioms proved
end Go.Proofs.YtmfmgeapecapiaaGreatDoor.sumsShowSpec
