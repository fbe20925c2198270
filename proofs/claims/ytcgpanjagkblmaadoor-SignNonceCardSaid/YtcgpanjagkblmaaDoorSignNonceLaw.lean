/- SignNonce: for every number (as a private key) and message the law returns true: the holder of the private key finds the nonce. No conditions. -/
import Derived.Test.YtcgpanjagkblmaaDoorLawKit
import Derived.Test.YtcgpanjagkblmaaDoorSane04
import Derived.Lib.SmallJoins
import Derived.Test.YtcgpanjagkblmaaDoorCards
import Derived.Test.YtcgpanjagkblmaaDoorTie
namespace Go.Proofs.YtcgpanjagkblmaaDoor.signNonce
open Go.ChangeShapes Go.WideShapes Go.ChangeAt Go.RowKit SzSha SzGrp
set_option linter.unusedVariables false
set_option maxRecDepth 100000 in
set_option maxHeartbeats 4000000 in
theorem go (x : Int) (A : Option Addr) (n c : Nat) (l : List Nat) (w : World) (hx1 : -9223372036854775808 ≤ x) (hx2 : x ≤ 9223372036854775807) (hn : n ≤ 1000) (hT : Hid (Tabs w)) (hl : Hid (In w A n c l)) :
    Calls Tryd.prog 9 #[.int .i64 x, .slice A n c] w fun e w' => e = .returned (.bool true) ∧ Below w.heap.size w w' := by
  obtain ⟨k, HK⟩ : ∃ k, Hid (keyOf x = k) := ⟨_, Lib.hid rfl⟩
  have HKEY : Hid (isKey k = true) := Lib.hid (by rw [← HK.out]; exact keyOf_key x)
  have KB : Hid (1 ≤ k ∧ k < 2305843009213688669) := Lib.hid (by rw [← HK.out]; exact keyOf_bd x)
  obtain ⟨y, HY⟩ : ∃ y, Hid (expV 4 k = y) := ⟨_, Lib.hid rfl⟩
  have HYE : Hid (isE y = true) := Lib.hid (by rw [← HY.out]; exact isE_exp e4 (isKey_sc HKEY.out))
  have YB : Hid (1 ≤ y ∧ y < 4611686018427377339) := Lib.hid (isE_bounds HYE.out)
  have HPUB : Hid (pubV k = y ∧ pubE k = 0) := Lib.hid (by rw [pubV, pubE, if_pos HKEY.out, if_pos HKEY.out]; exact ⟨HY.out, rfl⟩)
  obtain ⟨R, HR⟩ : ∃ R, Hid (sgR k l = R) := ⟨_, Lib.hid rfl⟩
  obtain ⟨S, HS⟩ : ∃ S, Hid (sgS k l = S) := ⟨_, Lib.hid rfl⟩
  have RB : Hid (1 ≤ R ∧ R < 4611686018427377339) := Lib.hid (by rw [← HR.out]; exact sgR_bd k l)
  have SB : Hid (0 ≤ S ∧ S < 2305843009213688669) := Lib.hid (by rw [← HS.out]; exact sgS_bd k l HKEY.out)
  obtain ⟨q, HQ⟩ : ∃ q, Hid (chal y R l = q) := ⟨_, Lib.hid rfl⟩
  have HQS : Hid (sc q = true) := Lib.hid (by rw [← HQ.out]; exact chal_sc y R l)
  obtain ⟨m, HM⟩ : ∃ m, Hid (prodV q k = m) := ⟨_, Lib.hid rfl⟩
  have HKS : Hid (sc k = true) := Lib.hid (isKey_sc HKEY.out)
  have HMS : Hid (sc m = true) := Lib.hid (by rw [← HM.out]; exact sc_prod HQS.out HKS.out)
  have HSS : Hid (sc S = true) := Lib.hid (by rw [← HS.out]; exact sgS_sc l HKS.out)
  have HPE : Hid (sumE q k = 0) := Lib.hid (sumE_ok HQS.out HKS.out)
  obtain ⟨K, HKK⟩ : ∃ K, Hid (sgK k l = K) := ⟨_, Lib.hid rfl⟩
  have HMIN : Hid (minV S m = K) := Lib.hid (by rw [← HKK.out, ← HS.out, ← HM.out, ← HQ.out, ← HY.out, ← HR.out]; exact nonce l HKS.out)
  have HKB : Hid (1 ≤ K ∧ K < 2305843009213688669) := Lib.hid (by rw [← HKK.out]; exact sgK_bd k l)
  have HBE : Hid (expV 4 K = R ∧ expE 4 K = 0) := Lib.hid ⟨by rw [← HKK.out, ← HR.out]; rfl, expE_ok e4 (by rw [← HKK.out]; exact sgK_sc k l)⟩
  have HN : Hid ((((scalN (strL nonceT) (nb k ++ l) : Nat) : Int)) = K) := Lib.hid (by rw [← HKK.out]; unfold sgK; simp [nbs])
  have q2 : decide ((1000 : Int) < (n : Int)) = false := decide_eq_false (by omega)
  have q4 : decide (1000 < n) = false := decide_eq_false (by omega)
  go_enter Tryd.func9, Tryd.ntmps9
  go_wp2_with fail
  refine (sane_any _ hT).mono ?_
  rintro e w1 ⟨rfl, hq⟩
  have HB1 := Lib.hid (hq)
  clear hq
  go_wp2_with fail
  refine (key_any x _ hx1 hx2).mono ?_
  rintro e w2 ⟨rfl, rfl⟩
  rw [HK.out]
  go_wp2_with fail
  refine (Public_any k _ (by have := KB.out; omega) (by have := KB.out; omega)).mono ?_
  rintro e w2 ⟨rfl, hq⟩
  rw [HPUB.out.1, HPUB.out.2]
  have HB2 := Lib.hid (HB1.out.trans (hq.mono HB1.out.size))
  clear hq
  go_wp2_with fail
  refine (Sign_ok k A n c l _ HKEY.out (by omega) (Lib.hid (hT.out.below HB2.out)) (Lib.hid (hl.out.below HB2.out))).mono ?_
  rintro e w3 ⟨rfl, hq⟩
  rw [HR.out, HS.out]
  have HB3 := Lib.hid (HB2.out.trans (hq.mono HB2.out.size))
  clear hq
  have H3 := Lib.hid (heap_alloc_new w3 (.cells #[.int .i64 R, .int .i64 S] 30))
  have HB3a := Lib.hid (HB3.out.alloc HB3.out.size (.cells #[.int .i64 R, .int .i64 S] 30))
  go_wp2_with fail
  refine (challenge_any y R A n c l _ (by omega) (Lib.hid (hT.out.below HB3a.out)) (Lib.hid (hl.out.below HB3a.out))).mono ?_
  rintro e w4 ⟨rfl, hq⟩
  rw [HQ.out]
  have HB4 := Lib.hid (HB3a.out.trans (hq.mono HB3a.out.size))
  have H4 := Lib.hid ((hq.block w3.heap.size (Array.getElem?_eq_some_iff.1 H3.out).1).trans H3.out)
  clear hq
  go_wp2_with fail
  refine (product_any q k _).mono ?_
  rintro e w5 ⟨rfl, hq⟩
  rw [HM.out, HPE.out]
  have HB5 := Lib.hid (HB4.out.trans (hq.mono HB4.out.size))
  have H5 := Lib.hid ((hq.block w3.heap.size (Array.getElem?_eq_some_iff.1 H4.out).1).trans H4.out)
  clear hq
  have c0 : w5.cell? ⟨w3.heap.size, 0, none⟩ = some (.int .i64 R) := by rw [cell_of_row _ _ _ _ _ _ H5.out]; rfl
  have c1 : w5.cell? ⟨w3.heap.size, 1, none⟩ = some (.int .i64 S) := by rw [cell_of_row _ _ _ _ _ _ H5.out]; rfl
  go_wp2_with fail
  clear c0 c1
  refine (minus_any S m _ HSS.out HMS.out).mono ?_
  rintro e w6 ⟨rfl, hq⟩
  rw [HMIN.out]
  have HB6 := Lib.hid (HB5.out.trans (hq.mono HB5.out.size))
  have H6 := Lib.hid ((hq.block w3.heap.size (Array.getElem?_eq_some_iff.1 H5.out).1).trans H5.out)
  clear hq
  go_wp2_with fail
  refine (base_any K _ (by have := HKB.out; omega) (by have := HKB.out; omega)).mono ?_
  rintro e w7 ⟨rfl, hq⟩
  rw [HBE.out.1, HBE.out.2]
  have HB7 := Lib.hid (HB6.out.trans (hq.mono HB6.out.size))
  have H7 := Lib.hid ((hq.block w3.heap.size (Array.getElem?_eq_some_iff.1 H6.out).1).trans H6.out)
  clear hq
  have c0 : w7.cell? ⟨w3.heap.size, 0, none⟩ = some (.int .i64 R) := by rw [cell_of_row _ _ _ _ _ _ H7.out]; rfl
  have c1 : w7.cell? ⟨w3.heap.size, 1, none⟩ = some (.int .i64 S) := by rw [cell_of_row _ _ _ _ _ _ H7.out]; rfl
  go_wp2_with fail
  clear c0 c1
  refine (number_any k _).mono ?_
  rintro e w8 ⟨v8, rfl, ho8, hq⟩
  have HB8 := Lib.hid (HB7.out.trans (hq.mono HB7.out.size))
  have HO8 := Lib.hid ho8
  have HW8 : Hid (w7.heap.size ≤ w8.heap.size) := Lib.hid hq.size
  have HLN := Lib.hid hl.out.len
  have HNN := Lib.hid hl.out.none_
  have HRD := Lib.hid (hl.out.below HB8.out).rd
  have HL8 : (nb k).length + n ≤ 1099511627776 := by rw [nb_length]; omega
  clear hq ho8
  go_wp2_with (at_builtin; refine wpList_unguard rfl ?_; refine wpList_append_bytes rfl (.tmp 81) (.tmp 82) rfl w7.heap.size _ (nb k) l rfl HO8 A n c rfl HLN HNN.out HRD HL8 HW8.out ?_; intro v9 w9 HO9 HB9)
  obtain ⟨A9, n9, c9, rfl, hn9, hc9, hA9, HR9⟩ := HO9.out.slice
  have HB10 := Lib.hid (HB8.out.trans (HB9.out.mono (Nat.le_trans HB7.out.size (Nat.le_refl _))))
  refine (scalar_any nonceT A9 n9 c9 (nb k ++ l) _ (by decide) hn9 hc9 hA9.out (by rw [← hn9.out, List.length_append, nb_length, HLN.out]; omega) (Lib.hid (fun x hx => by
        rcases List.mem_append.1 hx with h' | h'
        · exact nb_bytes _ x h'
        · exact hl.out.bytes x h')) (Lib.hid (hT.out.below HB10.out)) HR9).mono ?_
  rintro e w10 ⟨rfl, hq⟩
  rw [HN.out]
  have HB11 := Lib.hid (HB10.out.trans (hq.mono HB10.out.size))
  clear hq
  go_wp2_with fail
  go_ret
  exact ⟨rfl, HB11.out⟩
set_option maxRecDepth 100000 in
set_option maxHeartbeats 4000000 in
theorem big (x : Int) (A : Option Addr) (n c : Nat) (w : World) (hT : Hid (Tabs w)) (a1 : n ≤ 140737488351232) (h : 1000 < n) :
    Calls Tryd.prog 9 #[.int .i64 x, .slice A n c] w fun e w' => e = .returned (.bool true) ∧ Below w.heap.size w w' := by
  have q2 : decide ((1000 : Int) < (n : Int)) = true := decide_eq_true (by omega)
  have q4 : decide (1000 < n) = true := decide_eq_true (by omega)
  clear h
  go_enter Tryd.func9, Tryd.ntmps9
  go_wp2_with fail
  refine (sane_any _ hT).mono ?_
  rintro e w1 ⟨rfl, hq⟩
  have HB1 := Lib.hid (hq)
  clear hq
  go_wp2_with fail
  go_ret
  exact ⟨rfl, HB1.out⟩
theorem walk (w : World) (hT : Tabs w) (x : Int) (h1 : -9223372036854775808 ≤ x) (h2 : x ≤ 9223372036854775807) (A : Option Addr) (n c : Nat) (l : List Nat) (hl : In w A n c l) (a3 : n ≤ 140737488351232) :
    Calls Tryd.prog 9 #[.int .i64 x, .slice A n c] w fun e w' => e = .returned (.bool true) ∧ Below w.heap.size w w' := by
  by_cases h : 1000 < n
  · exact big x A n c w (Lib.hid hT) a3 h
  · exact go x A n c l w h1 h2 (by omega) (Lib.hid hT) (Lib.hid hl)
set_option maxRecDepth 100000 in
theorem lifted (os : Os) (started : os.Started) (H : Type) (enc : TypeId × Value → H) :
    ReturnsInHanded {} Tryd.checked os 9 .any (fun w args => (Rows.signNonceSpec.pre enc Tryd.prog Tryd.f9 [] false w args ∧ laidMetH Tryd.prog laidL w) ∧ sizedMet enc Tryd.prog Tryd.f9 (OpenSpec.ofChange Rows.signNonceSpec) false w args)
      (Rows.signNonceSpec.post enc Tryd.prog Tryd.f9 false true false false) := by
  refine returnsInHanded_of_change_and (C := Tryd.checked) (X := fun w _ => laidMetH Tryd.prog laidL w) (fun _ _ _ hh h => h.of_heap hh) own started (by kernel_rfl) Tryd.func9
    (ChangeSpec.witness_shaped (enc := enc) (C := Tryd.checked) (os := os) (X := fun w _ => laidMetH Tryd.prog laidL w) false (World.doorLaid Tryd.prog 400 os) #[.int .i64 0, .slice none 0 0] 8 rfl (World.shaped_of_RefB (by kernel_rfl) (by kernel_rfl)) (by kernel_rfl) (by kernel_rfl) (by kernel_rfl) (door_met os _)) ?_
  intro W base args ds gs before hval0 hW _ hsz0 hL _
  have hval : ∀ (j : Nat) t v, Tryd.f9.params[j]? = some t → args[j]? = some v → Value.okWide Tryd.prog W .any base t v := hval0
  have hW' := hW
  obtain ⟨p, q, hA0, hV, rfl, hfz, hnd⟩ := hW
  have hA : DataW.TrodAll enc Tryd.prog W 0 (fun _ => true) true Tryd.f9.params.toList args.toList ds p := hA0
  have hsz : (DataW.weightsEach Tryd.prog (Tryd.f9.params.toList ++ Rows.signNonceSpec.plain.varTypes Tryd.prog) (ds ++ gs)).all (· ≤ reachBytes) = true := hsz0
  rw [Tryd.params9] at hA hval hsz
  obtain ⟨v0, vs0, d0, ds0, p0, q0, hargs, rfl, rfl, h0, r0⟩ := trodAll_cons hA
  obtain ⟨v1, vs1, d1, ds1, p1, q1, rfl, rfl, rfl, h1, r1⟩ := trodAll_cons r0
  obtain ⟨rfl, rfl, rfl⟩ := trodAll_nil r1
  obtain rfl : args = #[v0, v1] := by cases args; simp_all
  obtain ⟨rfl, rfl⟩ := trodVars_none hV
  obtain ⟨a0, rfl, rfl, rfl, w0⟩ := open_int Tryd.underlying3 (hval 0 3 v0 rfl rfl) h0
  have b0 := bounds_i64 w0
  obtain ⟨A1, n1, c1, l1, rfl, e1, f1, g1, y1, x1, z1⟩ := arg_bytes (hval 1 22 v1 rfl rfl) h1
  have b1 : n1 ≤ 140737488351232 := by
    rcases z1 with ⟨rfl, hz⟩ | ⟨es, sp, rfl, hz⟩
    · omega
    · have := sized_slice hsz (j := 1) rfl rfl Tryd.underlying22; rw [bytes8] at this; simp only [reachBytes] at this; omega
  refine (walk W (tabs_of hL) a0 b0.1 b0.2 A1 n1 c1 l1 ⟨e1, f1, g1, y1, x1⟩ b1).mono fun e W' ⟨he, hg⟩ => ?_
  subst he
  exact ⟨_, rfl, law_post (by kernel_rfl) rfl rfl (fun _ => ⟨rfl, rfl, rfl⟩) hW' hg⟩
theorem over : Rows.signNonceRow.holds Tryd.pinned (OpenSpec.ofChange Rows.signNonceSpec) :=
  OpenClaim.holds_of_wide 9 Tryd.f9 rfl rfl rfl rfl rfl rfl rfl ⟨rfl, rfl, rfl, rfl, rfl⟩ rfl rfl rfl rfl rfl (by kernel_rfl) Tryd.func9 (by kernel_rfl)
    (of_decide_eq_true (by kernel_rfl)) (by unfold Func.isWrapper; first | (rw [if_pos (by decide +kernel)]; kernel_rfl) | (rw [if_neg (by decide +kernel)]; exact ⟨rfl, rfl⟩))
    (fun os started H enc _ => lifted os started H enc)
/-- THE STATEMENT: the card -/
theorem proved : Rows.SignNonceCardSaid :=
  Claim7.holds_tied_plain_at .later [] [.data, .data] true Rows.signNonceCard.stood.harness false
    over (fun _ h => by cases h) (by kernel_rfl) (fun _ h => by cases h) signNonce_row_tie rfl ⟨rfl, rfl⟩ (by kernel_rfl) rfl
    (fun f fn hf hfn => by
      obtain rfl : f = 9 := Option.some.inj ((show Tryd.prog.funcNamed "sizar/sizarlaw04.SignNonce" = some 9 by kernel_rfl).symm.trans hf) |>.symm
      obtain rfl : fn = Tryd.f9 := (Option.some.inj (Tryd.func9.symm.trans hfn)).symm
      exact ⟨by kernel_rfl, fun j t ht => stands_of (show Tryd.f9.params.all (fun t => !Tryd.prog.wantsStandIn t) = true by kernel_rfl) ht⟩)
    (by kernel_rfl)
#print axioms proved
end Go.Proofs.YtcgpanjagkblmaaDoor.signNonce
