/- SignDifference: for every number (as a private key) and two messages the law returns true: signatures of one key differ as their challenges do. No conditions. -/
import Derived.Test.YtcgpanjagkblmaaDoorLawKit
import Derived.Test.YtcgpanjagkblmaaDoorSane04
import Derived.Lib.SmallJoins
import Derived.Test.YtcgpanjagkblmaaDoorFlow
import Derived.IntWalk
import Derived.Outline
import Derived.Test.YtcgpanjagkblmaaDoorCards
import Derived.Test.YtcgpanjagkblmaaDoorTie
namespace Go.Proofs.YtcgpanjagkblmaaDoor.signDifference
open Go.ChangeShapes Go.WideShapes Go.ChangeAt Go.RowKit SzSha SzGrp
set_option linter.unusedVariables false
def dfA (b1 b2 : Nat) (y R1 R2 c1 c2 cc : Int) (A B : Option Addr) (n c m d : Nat) : Nat → Value → Prop
  | 0, fv => fv = Value.int .i64 (y)
  | 1, fv => fv = Value.pointer (some ⟨b1, 0, none⟩)
  | 2, fv => fv = Value.int .i64 (R1)
  | 3, fv => fv = Value.slice A n c
  | 4, fv => fv = Value.int .i64 (c1)
  | 5, fv => fv = Value.int .i64 (y)
  | 6, fv => fv = Value.pointer (some ⟨b2, 0, none⟩)
  | 7, fv => fv = Value.int .i64 (R2)
  | 8, fv => fv = Value.slice B m d
  | 9, fv => fv = Value.int .i64 (c2)
  | 10, fv => fv = Value.tuple #[.int .i64 cc, .int .i64 0]
  | 11, fv => fv = Value.tuple #[.int .i64 cc, .int .i64 0]
  | 12, fv => fv = Value.int .i64 (cc)
  | 13, fv => fv = Value.int .i64 (0)
  | 14, fv => fv = Value.int .i64 (cc)
  | 15, fv => fv = Value.int .i64 (0)
  | _, _ => True
set_option maxRecDepth 100000 in
set_option maxHeartbeats 4000000 in
theorem go (x : Int) (A B : Option Addr) (n c m d : Nat) (l r : List Nat) (w : World) (hx1 : -9223372036854775808 ≤ x) (hx2 : x ≤ 9223372036854775807) (hn : n ≤ 1000) (hm : m ≤ 1000) (hT : Hid (Tabs w)) (hl : Hid (In w A n c l)) (hr : Hid (In w B m d r)) :
    Calls Tryd.prog 10 #[.int .i64 x, .slice A n c, .slice B m d] w fun e w' => e = .returned (.bool true) ∧ Below w.heap.size w w' := by
  obtain ⟨k, HK⟩ : ∃ k, Hid (keyOf x = k) := ⟨_, Lib.hid rfl⟩
  have HKEY : Hid (isKey k = true) := Lib.hid (by rw [← HK.out]; exact keyOf_key x)
  have KB : Hid (1 ≤ k ∧ k < 2305843009213688669) := Lib.hid (by rw [← HK.out]; exact keyOf_bd x)
  obtain ⟨y, HY⟩ : ∃ y, Hid (expV 4 k = y) := ⟨_, Lib.hid rfl⟩
  have HYE : Hid (isE y = true) := Lib.hid (by rw [← HY.out]; exact isE_exp e4 (isKey_sc HKEY.out))
  have YB : Hid (1 ≤ y ∧ y < 4611686018427377339) := Lib.hid (isE_bounds HYE.out)
  have HPUB : Hid (pubV k = y ∧ pubE k = 0) := Lib.hid (by rw [pubV, pubE, if_pos HKEY.out, if_pos HKEY.out]; exact ⟨HY.out, rfl⟩)
  obtain ⟨R1, HR1⟩ : ∃ R, Hid (sgR k l = R) := ⟨_, Lib.hid rfl⟩
  obtain ⟨S1, HS1⟩ : ∃ S, Hid (sgS k l = S) := ⟨_, Lib.hid rfl⟩
  have RB1 : Hid (1 ≤ R1 ∧ R1 < 4611686018427377339) := Lib.hid (by rw [← HR1.out]; exact sgR_bd k l)
  have SB1 : Hid (0 ≤ S1 ∧ S1 < 2305843009213688669) := Lib.hid (by rw [← HS1.out]; exact sgS_bd k l HKEY.out)
  obtain ⟨R2, HR2⟩ : ∃ R, Hid (sgR k r = R) := ⟨_, Lib.hid rfl⟩
  obtain ⟨S2, HS2⟩ : ∃ S, Hid (sgS k r = S) := ⟨_, Lib.hid rfl⟩
  have RB2 : Hid (1 ≤ R2 ∧ R2 < 4611686018427377339) := Lib.hid (by rw [← HR2.out]; exact sgR_bd k r)
  have SB2 : Hid (0 ≤ S2 ∧ S2 < 2305843009213688669) := Lib.hid (by rw [← HS2.out]; exact sgS_bd k r HKEY.out)
  have HKS : Hid (sc k = true) := Lib.hid (isKey_sc HKEY.out)
  obtain ⟨c1, HQ1⟩ : ∃ q, Hid (chal y R1 l = q) := ⟨_, Lib.hid rfl⟩
  obtain ⟨c2, HQ2⟩ : ∃ q, Hid (chal y R2 r = q) := ⟨_, Lib.hid rfl⟩
  have HC1S : Hid (sc c1 = true) := Lib.hid (by rw [← HQ1.out]; exact chal_sc y R1 l)
  have HC2S : Hid (sc c2 = true) := Lib.hid (by rw [← HQ2.out]; exact chal_sc y R2 r)
  obtain ⟨cc, HCC⟩ : ∃ q, Hid (minV c1 c2 = q) := ⟨_, Lib.hid rfl⟩
  have HCCS : Hid (sc cc = true) := Lib.hid (by rw [← HCC.out]; exact sc_minV HC1S.out HC2S.out)
  have HS1S : Hid (sc S1 = true) := Lib.hid (by rw [← HS1.out]; exact sgS_sc l HKS.out)
  have HS2S : Hid (sc S2 = true) := Lib.hid (by rw [← HS2.out]; exact sgS_sc r HKS.out)
  obtain ⟨dd, HDD⟩ : ∃ q, Hid (minV S1 S2 = q) := ⟨_, Lib.hid rfl⟩
  have HDS : Hid (sc dd = true) := Lib.hid (by rw [← HDD.out]; exact sc_minV HS1S.out HS2S.out)
  have HR1E : Hid (isE R1 = true) := Lib.hid (by rw [← HR1.out]; exact isE_sgR k l)
  have HR2E : Hid (isE R2 = true) := Lib.hid (by rw [← HR2.out]; exact isE_sgR k r)
  obtain ⟨iv, HIV⟩ : ∃ q, Hid (expV R2 2305843009213688668 = q) := ⟨_, Lib.hid rfl⟩
  have HIE : Hid (isE iv = true) := Lib.hid (by rw [← HIV.out]; exact isE_exp HR2E.out sc_last)
  have HI0 : Hid (expE R2 2305843009213688668 = 0) := Lib.hid (expE_ok HR2E.out sc_last)
  obtain ⟨rr, HRR⟩ : ∃ q, Hid (mulV R1 iv = q) := ⟨_, Lib.hid rfl⟩
  have HRE : Hid (isE rr = true) := Lib.hid (by rw [← HRR.out]; exact isE_mul HR1E.out HIE.out)
  have HM0 : Hid (mulE R1 iv = 0) := Lib.hid (mulE_ok HR1E.out HIE.out)
  obtain ⟨p, HP⟩ : ∃ q, Hid (expV y cc = q) := ⟨_, Lib.hid rfl⟩
  have HPE : Hid (isE p = true) := Lib.hid (by rw [← HP.out]; exact isE_exp HYE.out HCCS.out)
  have HP0 : Hid (expE y cc = 0) := Lib.hid (expE_ok HYE.out HCCS.out)
  obtain ⟨L, HL⟩ : ∃ q, Hid (expV 4 dd = q) := ⟨_, Lib.hid rfl⟩
  have HL0 : Hid (expE 4 dd = 0) := Lib.hid (expE_ok e4 HDS.out)
  have HT0 : Hid (mulE rr p = 0) := Lib.hid (mulE_ok HRE.out HPE.out)
  have HFIN : Hid (mulV rr p = L) := Lib.hid (by rw [← HL.out, ← HDD.out, ← HS1.out, ← HS2.out, ← HRR.out, ← HIV.out, ← HP.out, ← HCC.out, ← HQ1.out, ← HQ2.out, ← HY.out, ← HR1.out, ← HR2.out]; exact (differ l r HKS.out).symm)
  have QB : Hid (0 ≤ cc ∧ cc < 2305843009213688669) := Lib.hid (sc_bounds HCCS.out)
  have DB : Hid (0 ≤ dd ∧ dd < 2305843009213688669) := Lib.hid (sc_bounds HDS.out)
  have IB : Hid (1 ≤ iv ∧ iv < 4611686018427377339) := Lib.hid (isE_bounds HIE.out)
  have RRB : Hid (1 ≤ rr ∧ rr < 4611686018427377339) := Lib.hid (isE_bounds HRE.out)
  have PBB : Hid (1 ≤ p ∧ p < 4611686018427377339) := Lib.hid (isE_bounds HPE.out)
  have q6 : decide ((1000 : Int) < (m : Int)) = false := decide_eq_false (by omega)
  have q8 : decide (1000 < m) = false := decide_eq_false (by omega)
  have q2 : decide ((1000 : Int) < (n : Int)) = false := decide_eq_false (by omega)
  have q4 : decide (1000 < n) = false := decide_eq_false (by omega)
  go_enter Tryd.func10, Tryd.ntmps10
  go_wp2_with fail
  refine (sane_any _ hT).mono ?_
  rintro e w1 ⟨rfl, hq⟩
  have HB1 := Lib.hid (hq)
  clear hq
  go_wp2_with fail
  refine (key_any x _ hx1 hx2).mono ?_
  rintro e w2 ⟨rfl, rfl⟩
  rw [HK.out]
  go_wp2_with fail
  refine (Public_any k _ (by have := KB.out; omega) (by have := KB.out; omega)).mono ?_
  rintro e w2 ⟨rfl, hq⟩
  rw [HPUB.out.1, HPUB.out.2]
  have HB2 := Lib.hid (HB1.out.trans (hq.mono HB1.out.size))
  clear hq
  go_wp2_with fail
  refine (Sign_ok k A n c l _ HKEY.out (by omega) (Lib.hid (hT.out.below HB2.out)) (Lib.hid (hl.out.below HB2.out))).mono ?_
  rintro e w3 ⟨rfl, hq⟩
  rw [HR1.out, HS1.out]
  have HB3 := Lib.hid (HB2.out.trans (hq.mono HB2.out.size))
  clear hq
  have H3 := Lib.hid (heap_alloc_new w3 (.cells #[.int .i64 R1, .int .i64 S1] 30))
  have HB3a := Lib.hid (HB3.out.alloc HB3.out.size (.cells #[.int .i64 R1, .int .i64 S1] 30))
  go_wp2_with fail
  refine (Sign_ok k B m d r _ HKEY.out (by omega) (Lib.hid (hT.out.below HB3a.out)) (Lib.hid (hr.out.below HB3a.out))).mono ?_
  rintro e w4 ⟨rfl, hq⟩
  rw [HR2.out, HS2.out]
  have HB4 := Lib.hid (HB3a.out.trans (hq.mono HB3a.out.size))
  have H3b := Lib.hid ((hq.block w3.heap.size (Array.getElem?_eq_some_iff.1 H3.out).1).trans H3.out)
  clear hq
  have HLT4 : w3.heap.size < w4.heap.size := (Array.getElem?_eq_some_iff.1 H3b.out).1
  have H4 := Lib.hid (heap_alloc_new w4 (.cells #[.int .i64 R2, .int .i64 S2] 30))
  have H3c := Lib.hid ((Below.heap_alloc w4 (.cells #[.int .i64 R2, .int .i64 S2] 30) _ HLT4).trans H3b.out)
  have HB4a := Lib.hid (HB4.out.alloc HB4.out.size (.cells #[.int .i64 R2, .int .i64 S2] 30))
  clear H3b H3
  have k1 : (w4.alloc (.cells #[.int .i64 R2, .int .i64 S2] 30)).cell? ⟨w3.heap.size, 1, none⟩ = some (.int .i64 S1) := by rw [cell_of_row _ _ _ _ _ _ H3c.out]; rfl
  have k2 : (w4.alloc (.cells #[.int .i64 R2, .int .i64 S2] 30)).cell? ⟨w4.heap.size, 1, none⟩ = some (.int .i64 S2) := by rw [cell_of_row _ _ _ _ _ _ H4.out]; rfl
  go_wp2_with fail
  clear k1 k2 HLT4
  refine (minus_any S1 S2 _ HS1S.out HS2S.out).mono ?_
  rintro e w5 ⟨rfl, hq⟩
  rw [HDD.out]
  have HB5 := Lib.hid (HB4a.out.trans (hq.mono HB4a.out.size))
  have H3d := Lib.hid ((hq.block w3.heap.size (Array.getElem?_eq_some_iff.1 H3c.out).1).trans H3c.out)
  have H4d := Lib.hid ((hq.block w4.heap.size (Array.getElem?_eq_some_iff.1 H4.out).1).trans H4.out)
  clear hq
  clear H3c H4 HB4a HB4 HB3a HB3
  go_wp2_with fail
  have HC0 : Hid (w5.cell? ⟨w3.heap.size, 0, none⟩ = some (.int .i64 R1)) := Lib.hid (by rw [cell_of_row _ _ _ _ _ _ H3d.out]; rfl)
  have HC1 : Hid (w5.cell? ⟨w4.heap.size, 0, none⟩ = some (.int .i64 R2)) := Lib.hid (by rw [cell_of_row _ _ _ _ _ _ H4d.out]; rfl)
  have HD : Hid (Below w5.heap.size w5 w5.drew) := Lib.hid (Below.refl _ _).drew
  refine region_flow (by kernel_rfl) (by kernel_rfl) (fun i => i) (by kernel_rfl) (fun fx => #[Value.int IntKind.i64 x, Value.slice A n c, Value.slice B m d, undef, undef, undef, Value.bool false, Value.int IntKind.i64 k, Value.int IntKind.i64 y, Value.int IntKind.i64 0, Value.pointer (some { block := w3.heap.size, off := 0 }), Value.int IntKind.i64 0, Value.pointer (some { block := w4.heap.size, off := 0 }), Value.int IntKind.i64 0, Value.int IntKind.i64 dd, Value.int IntKind.i64 0, fx 14, fx 15, undef, undef, undef, undef, undef, undef, undef, undef, undef, undef, Value.bool true, Value.bool false, Value.slice A n c, Value.int IntKind.i64 ↑n, Value.bool false, Value.bool false, Value.slice B m d, Value.int IntKind.i64 ↑m, Value.bool false, Value.bool false, Value.int IntKind.i64 x, Value.int IntKind.i64 k, Value.tuple #[Value.int IntKind.i64 y, Value.int IntKind.i64 0], Value.int IntKind.i64 k, Value.tuple #[Value.int IntKind.i64 y, Value.int IntKind.i64 0], Value.int IntKind.i64 y, Value.int IntKind.i64 0, Value.tuple #[Value.agg #[Value.int IntKind.i64 R1, Value.int IntKind.i64 S1], Value.int IntKind.i64 0], Value.int IntKind.i64 k, Value.slice A n c, Value.tuple #[Value.agg #[Value.int IntKind.i64 R1, Value.int IntKind.i64 S1], Value.int IntKind.i64 0], Value.agg #[Value.int IntKind.i64 R1, Value.int IntKind.i64 S1], Value.int IntKind.i64 0, Value.tuple #[Value.agg #[Value.int IntKind.i64 R2, Value.int IntKind.i64 S2], Value.int IntKind.i64 0], Value.int IntKind.i64 k, Value.slice B m d, Value.tuple #[Value.agg #[Value.int IntKind.i64 R2, Value.int IntKind.i64 S2], Value.int IntKind.i64 0], Value.agg #[Value.int IntKind.i64 R2, Value.int IntKind.i64 S2], Value.int IntKind.i64 0, Value.int IntKind.i64 0, Value.bool false, Value.bool false, Value.int IntKind.i64 0, Value.bool false, Value.bool false, Value.bool false, Value.int IntKind.i64 0, Value.bool false, Value.bool false, Value.tuple #[Value.int IntKind.i64 dd, Value.int IntKind.i64 0], Value.pointer (some { block := w3.heap.size, off := 1 }), Value.int IntKind.i64 S1, Value.pointer (some { block := w4.heap.size, off := 1 }), Value.int IntKind.i64 S2, Value.tuple #[Value.int IntKind.i64 dd, Value.int IntKind.i64 0], Value.int IntKind.i64 dd, Value.int IntKind.i64 0, fx 11, fx 0, fx 1, fx 2, fx 3, fx 4, fx 5, fx 6, fx 7, fx 8, fx 9, fx 10, fx 12, fx 13, undef, undef, undef, undef, undef, undef, undef, undef, undef, undef, undef, undef, undef, undef, undef, undef, undef, undef, undef, undef, undef, undef, undef, undef, undef, undef, undef, undef, undef, undef, undef, undef, undef, undef, undef, undef, undef, undef, undef, undef, undef, undef, undef, undef, undef, undef, undef, undef, undef, undef, undef, undef, undef, undef, undef, undef, undef, undef, undef, undef, undef]) (fun _ => undef) (fun w' => Below w5.heap.size w5 w') (fun fi fv _ _ => dfA w3.heap.size w4.heap.size y R1 R2 c1 c2 cc A B n c m d fi fv) HD.out ?_ ?_
  · refine ⟨?_, ?_, ?_, ?_, ?_, ?_, ?_, ?_, ?_, ?_, ?_, ?_, ?_, ?_, ?_, ?_, trivial⟩
    all_goals intro fx w' hC hd
    · go_wp2_with fail
      exact ⟨_, rfl, hC, rfl, fun _ _ _ _ h => h⟩
    · go_wp2_with fail
      exact ⟨_, rfl, hC, rfl, fun _ _ _ _ h => h⟩
    · have h1 : fx 1 = Value.pointer (some ⟨w3.heap.size, 0, none⟩) := hd.1 rfl
      have hc : w'.cell? ⟨w3.heap.size, 0, none⟩ = some (.int .i64 R1) := (hC.cell (block_lt_of_cell HC0.out)).trans HC0.out
      go_wp2_with fail
      exact ⟨_, by rw [← h1]; rfl, hC, rfl, fun _ _ _ _ h => h⟩
    · go_wp2_with fail
      exact ⟨_, rfl, hC, rfl, fun _ _ _ _ h => h⟩
    · have h0 : fx 0 = Value.int .i64 (y) := hd.1 rfl
      have h2 : fx 2 = Value.int .i64 (R1) := hd.2.1 rfl
      have h3 : fx 3 = Value.slice A n c := hd.2.2.1 rfl
      go_wp2_with fail
      refine (challenge_any y R1 A n c l _ (by omega) (Lib.hid (hT.out.below (HB5.out.trans (hC.mono HB5.out.size)))) (Lib.hid (hl.out.below (HB5.out.trans (hC.mono HB5.out.size))))).mono ?_
      rintro e w2 ⟨rfl, hq⟩
      rw [HQ1.out]
      go_wp2_with fail
      exact ⟨_, by rw [← h2, ← h0, ← h3]; rfl, hC.trans (hq.mono hC.size), rfl, fun _ _ _ _ h => h⟩
    · go_wp2_with fail
      exact ⟨_, rfl, hC, rfl, fun _ _ _ _ h => h⟩
    · go_wp2_with fail
      exact ⟨_, rfl, hC, rfl, fun _ _ _ _ h => h⟩
    · have h6 : fx 6 = Value.pointer (some ⟨w4.heap.size, 0, none⟩) := hd.1 rfl
      have hc : w'.cell? ⟨w4.heap.size, 0, none⟩ = some (.int .i64 R2) := (hC.cell (block_lt_of_cell HC1.out)).trans HC1.out
      go_wp2_with fail
      exact ⟨_, by rw [← h6]; rfl, hC, rfl, fun _ _ _ _ h => h⟩
    · go_wp2_with fail
      exact ⟨_, rfl, hC, rfl, fun _ _ _ _ h => h⟩
    · have h5 : fx 5 = Value.int .i64 (y) := hd.1 rfl
      have h7 : fx 7 = Value.int .i64 (R2) := hd.2.1 rfl
      have h8 : fx 8 = Value.slice B m d := hd.2.2.1 rfl
      go_wp2_with fail
      refine (challenge_any y R2 B m d r _ (by omega) (Lib.hid (hT.out.below (HB5.out.trans (hC.mono HB5.out.size)))) (Lib.hid (hr.out.below (HB5.out.trans (hC.mono HB5.out.size))))).mono ?_
      rintro e w2 ⟨rfl, hq⟩
      rw [HQ2.out]
      go_wp2_with fail
      exact ⟨_, by rw [← h7, ← h5, ← h8]; rfl, hC.trans (hq.mono hC.size), rfl, fun _ _ _ _ h => h⟩
    · have h4 : fx 4 = Value.int .i64 (c1) := hd.1 rfl
      have h9 : fx 9 = Value.int .i64 (c2) := hd.2.1 rfl
      go_wp2_with fail
      refine (minus_any c1 c2 _ HC1S.out HC2S.out).mono ?_
      rintro e w2 ⟨rfl, hq⟩
      rw [HCC.out]
      go_wp2_with fail
      exact ⟨_, by rw [← h4, ← h9]; rfl, hC.trans (hq.mono hC.size), rfl, fun _ _ _ _ h => h⟩
    · have h10 : fx 10 = Value.tuple #[.int .i64 cc, .int .i64 0] := hd.1 rfl
      go_wp2_with fail
      exact ⟨_, by rw [← h10]; rfl, hC, rfl, fun _ _ _ _ h => h⟩
    · have h11 : fx 11 = Value.tuple #[.int .i64 cc, .int .i64 0] := hd.1 rfl
      go_wp2_with fail
      exact ⟨_, by rw [← h11]; rfl, hC, rfl, fun _ _ _ _ h => h⟩
    · have h11 : fx 11 = Value.tuple #[.int .i64 cc, .int .i64 0] := hd.1 rfl
      go_wp2_with fail
      exact ⟨_, by rw [← h11]; rfl, hC, rfl, fun _ _ _ _ h => h⟩
    · have h12 : fx 12 = Value.int .i64 (cc) := hd.1 rfl
      go_wp2_with fail
      exact ⟨_, by rw [← h12]; rfl, hC, rfl, fun _ _ _ _ h => h⟩
    · have h13 : fx 13 = Value.int .i64 (0) := hd.1 rfl
      go_wp2_with fail
      exact ⟨_, by rw [← h13]; rfl, hC, rfl, fun _ _ _ _ h => h⟩
  · intro fx w' hC hS
    have h0 : fx 0 = Value.int .i64 (y) := hS 0 (by decide)
    have h1 : fx 1 = Value.pointer (some ⟨w3.heap.size, 0, none⟩) := hS 1 (by decide)
    have h2 : fx 2 = Value.int .i64 (R1) := hS 2 (by decide)
    have h3 : fx 3 = Value.slice A n c := hS 3 (by decide)
    have h4 : fx 4 = Value.int .i64 (c1) := hS 4 (by decide)
    have h5 : fx 5 = Value.int .i64 (y) := hS 5 (by decide)
    have h6 : fx 6 = Value.pointer (some ⟨w4.heap.size, 0, none⟩) := hS 6 (by decide)
    have h7 : fx 7 = Value.int .i64 (R2) := hS 7 (by decide)
    have h8 : fx 8 = Value.slice B m d := hS 8 (by decide)
    have h9 : fx 9 = Value.int .i64 (c2) := hS 9 (by decide)
    have h10 : fx 10 = Value.tuple #[.int .i64 cc, .int .i64 0] := hS 10 (by decide)
    have h11 : fx 11 = Value.tuple #[.int .i64 cc, .int .i64 0] := hS 11 (by decide)
    have h12 : fx 12 = Value.int .i64 (cc) := hS 12 (by decide)
    have h13 : fx 13 = Value.int .i64 (0) := hS 13 (by decide)
    have h14 : fx 14 = Value.int .i64 (cc) := hS 14 (by decide)
    have h15 : fx 15 = Value.int .i64 (0) := hS 15 (by decide)
    rw [h0, h1, h2, h3, h4, h5, h6, h7, h8, h9, h10, h11, h12, h13, h14, h15]
    clear h0 h1 h2 h3 h4 h5 h6 h7 h8 h9 h10 h11 h12 h13 h14 h15 hS
    have H3e := Lib.hid ((hC.block _ (Array.getElem?_eq_some_iff.1 H3d.out).1).trans H3d.out)
    have H4e := Lib.hid ((hC.block _ (Array.getElem?_eq_some_iff.1 H4d.out).1).trans H4d.out)
    have HB6 := Lib.hid (HB5.out.trans (hC.mono HB5.out.size))
    generalize w' = w6 at *
    clear hC HD HC0 HC1 H3d H4d HB5
    have k2 : w6.cell? ⟨w4.heap.size, 0, none⟩ = some (.int .i64 R2) := by rw [cell_of_row _ _ _ _ _ _ H4e.out]; rfl
    go_wp2_with fail
    clear k2
    refine (inv_any R2 _ (by have := RB2.out; omega) (by have := RB2.out; omega)).mono ?_
    rintro e w7 ⟨rfl, hq⟩
    rw [HIV.out, HI0.out]
    have HB7 := Lib.hid (HB6.out.trans (hq.mono HB6.out.size))
    have H3f := Lib.hid ((hq.block w3.heap.size (Array.getElem?_eq_some_iff.1 H3e.out).1).trans H3e.out)
    clear hq
    have k1 : w7.cell? ⟨w3.heap.size, 0, none⟩ = some (.int .i64 R1) := by rw [cell_of_row _ _ _ _ _ _ H3f.out]; rfl
    go_wp2_with fail
    clear k1
    refine (mul_any R1 iv _ (by have := RB1.out; omega) (by have := RB1.out; omega) (by have := IB.out; omega) (by have := IB.out; omega)).mono ?_
    rintro e w8 ⟨rfl, hq⟩
    rw [HRR.out, HM0.out]
    have HB8 := Lib.hid (HB7.out.trans (hq.mono HB7.out.size))
    clear hq
    go_wp2_with fail
    refine (exp_any y cc _ (by have := YB.out; omega) (by have := YB.out; omega) (by have := QB.out; omega) (by have := QB.out; omega)).mono ?_
    rintro e w9 ⟨rfl, hq⟩
    rw [HP.out, HP0.out]
    have HB9 := Lib.hid (HB8.out.trans (hq.mono HB8.out.size))
    clear hq
    go_wp2_with fail
    refine (base_any dd _ (by have := DB.out; omega) (by have := DB.out; omega)).mono ?_
    rintro e w10 ⟨rfl, hq⟩
    rw [HL.out, HL0.out]
    have HB10 := Lib.hid (HB9.out.trans (hq.mono HB9.out.size))
    clear hq
    go_wp2_with fail
    refine (mul_any rr p _ (by have := RRB.out; omega) (by have := RRB.out; omega) (by have := PBB.out; omega) (by have := PBB.out; omega)).mono ?_
    rintro e w11 ⟨rfl, hq⟩
    rw [HFIN.out, HT0.out]
    have HB11 := Lib.hid (HB10.out.trans (hq.mono HB10.out.size))
    clear hq
    go_wp2_with fail
    go_ret
    exact ⟨rfl, HB11.out⟩
set_option maxRecDepth 100000 in
set_option maxHeartbeats 4000000 in
theorem big (x : Int) (A B : Option Addr) (n c m d : Nat) (w : World) (hT : Hid (Tabs w)) (a1 : n ≤ 140737488351232) (a2 : m ≤ 140737488351232) (h : 1000 < n ∨ 1000 < m) :
    Calls Tryd.prog 10 #[.int .i64 x, .slice A n c, .slice B m d] w fun e w' => e = .returned (.bool true) ∧ Below w.heap.size w w' := by
  by_cases hh : 1000 < n
  · have q2 : decide ((1000 : Int) < (n : Int)) = true := decide_eq_true (by omega)
    have q4 : decide (1000 < n) = true := decide_eq_true (by omega)
    clear h
    go_enter Tryd.func10, Tryd.ntmps10
    go_wp2_with fail
    refine (sane_any _ hT).mono ?_
    rintro e w1 ⟨rfl, hq⟩
    have HB1 := Lib.hid (hq)
    clear hq
    go_wp2_with fail
    go_ret
    exact ⟨rfl, HB1.out⟩
  · have q2 : decide ((1000 : Int) < (n : Int)) = false := decide_eq_false (by omega)
    have q4 : decide (1000 < n) = false := decide_eq_false (by omega)
    have q6 : decide ((1000 : Int) < (m : Int)) = true := decide_eq_true (by omega)
    have q8 : decide (1000 < m) = true := decide_eq_true (by omega)
    clear h
    go_enter Tryd.func10, Tryd.ntmps10
    go_wp2_with fail
    refine (sane_any _ hT).mono ?_
    rintro e w1 ⟨rfl, hq⟩
    have HB1 := Lib.hid (hq)
    clear hq
    go_wp2_with fail
    go_ret
    exact ⟨rfl, HB1.out⟩
theorem walk (w : World) (hT : Tabs w) (x : Int) (h1 : -9223372036854775808 ≤ x) (h2 : x ≤ 9223372036854775807) (A : Option Addr) (n c : Nat) (l : List Nat) (hl : In w A n c l) (a3 : n ≤ 140737488351232) (B : Option Addr) (m d : Nat) (r : List Nat) (hr : In w B m d r) (a4 : m ≤ 140737488351232) :
    Calls Tryd.prog 10 #[.int .i64 x, .slice A n c, .slice B m d] w fun e w' => e = .returned (.bool true) ∧ Below w.heap.size w w' := by
  by_cases h : 1000 < n ∨ 1000 < m
  · exact big x A B n c m d w (Lib.hid hT) a3 a4 h
  · exact go x A B n c m d l r w h1 h2 (by omega) (by omega) (Lib.hid hT) (Lib.hid hl) (Lib.hid hr)
set_option maxRecDepth 100000 in
theorem lifted (os : Os) (started : os.Started) (H : Type) (enc : TypeId × Value → H) :
    ReturnsInHanded {} Tryd.checked os 10 .any (fun w args => (Rows.signDifferenceSpec.pre enc Tryd.prog Tryd.f10 [] false w args ∧ laidMetH Tryd.prog laidL w) ∧ sizedMet enc Tryd.prog Tryd.f10 (OpenSpec.ofChange Rows.signDifferenceSpec) false w args)
      (Rows.signDifferenceSpec.post enc Tryd.prog Tryd.f10 false true false false) := by
  refine returnsInHanded_of_change_and (C := Tryd.checked) (X := fun w _ => laidMetH Tryd.prog laidL w) (fun _ _ _ hh h => h.of_heap hh) own started (by kernel_rfl) Tryd.func10
    (ChangeSpec.witness_shaped (enc := enc) (C := Tryd.checked) (os := os) (X := fun w _ => laidMetH Tryd.prog laidL w) false (World.doorLaid Tryd.prog 400 os) #[.int .i64 0, .slice none 0 0, .slice none 0 0] 8 rfl (World.shaped_of_RefB (by kernel_rfl) (by kernel_rfl)) (by kernel_rfl) (by kernel_rfl) (by kernel_rfl) (door_met os _)) ?_
  intro W base args ds gs before hval0 hW _ hsz0 hL _
  have hval : ∀ (j : Nat) t v, Tryd.f10.params[j]? = some t → args[j]? = some v → Value.okWide Tryd.prog W .any base t v := hval0
  have hW' := hW
  obtain ⟨p, q, hA0, hV, rfl, hfz, hnd⟩ := hW
  have hA : DataW.TrodAll enc Tryd.prog W 0 (fun _ => true) true Tryd.f10.params.toList args.toList ds p := hA0
  have hsz : (DataW.weightsEach Tryd.prog (Tryd.f10.params.toList ++ Rows.signDifferenceSpec.plain.varTypes Tryd.prog) (ds ++ gs)).all (· ≤ reachBytes) = true := hsz0
  rw [Tryd.params10] at hA hval hsz
  obtain ⟨v0, vs0, d0, ds0, p0, q0, hargs, rfl, rfl, h0, r0⟩ := trodAll_cons hA
  obtain ⟨v1, vs1, d1, ds1, p1, q1, rfl, rfl, rfl, h1, r1⟩ := trodAll_cons r0
  obtain ⟨v2, vs2, d2, ds2, p2, q2, rfl, rfl, rfl, h2, r2⟩ := trodAll_cons r1
  obtain ⟨rfl, rfl, rfl⟩ := trodAll_nil r2
  obtain rfl : args = #[v0, v1, v2] := by cases args; simp_all
  obtain ⟨rfl, rfl⟩ := trodVars_none hV
  obtain ⟨a0, rfl, rfl, rfl, w0⟩ := open_int Tryd.underlying3 (hval 0 3 v0 rfl rfl) h0
  have b0 := bounds_i64 w0
  obtain ⟨A1, n1, c1, l1, rfl, e1, f1, g1, y1, x1, z1⟩ := arg_bytes (hval 1 22 v1 rfl rfl) h1
  have b1 : n1 ≤ 140737488351232 := by
    rcases z1 with ⟨rfl, hz⟩ | ⟨es, sp, rfl, hz⟩
    · omega
    · have := sized_slice hsz (j := 1) rfl rfl Tryd.underlying22; rw [bytes8] at this; simp only [reachBytes] at this; omega
  obtain ⟨A2, n2, c2, l2, rfl, e2, f2, g2, y2, x2, z2⟩ := arg_bytes (hval 2 22 v2 rfl rfl) h2
  have b2 : n2 ≤ 140737488351232 := by
    rcases z2 with ⟨rfl, hz⟩ | ⟨es, sp, rfl, hz⟩
    · omega
    · have := sized_slice hsz (j := 2) rfl rfl Tryd.underlying22; rw [bytes8] at this; simp only [reachBytes] at this; omega
  refine (walk W (tabs_of hL) a0 b0.1 b0.2 A1 n1 c1 l1 ⟨e1, f1, g1, y1, x1⟩ b1 A2 n2 c2 l2 ⟨e2, f2, g2, y2, x2⟩ b2).mono fun e W' ⟨he, hg⟩ => ?_
  subst he
  exact ⟨_, rfl, law_post (by kernel_rfl) rfl rfl (fun _ => ⟨rfl, rfl, rfl⟩) hW' hg⟩
theorem over : Rows.signDifferenceRow.holds Tryd.pinned (OpenSpec.ofChange Rows.signDifferenceSpec) :=
  OpenClaim.holds_of_wide 10 Tryd.f10 rfl rfl rfl rfl rfl rfl rfl ⟨rfl, rfl, rfl, rfl, rfl⟩ rfl rfl rfl rfl rfl (by kernel_rfl) Tryd.func10 (by kernel_rfl)
    (of_decide_eq_true (by kernel_rfl)) (by unfold Func.isWrapper; first | (rw [if_pos (by decide +kernel)]; kernel_rfl) | (rw [if_neg (by decide +kernel)]; exact ⟨rfl, rfl⟩))
    (fun os started H enc _ => lifted os started H enc)
/-- THE STATEMENT: the card -/
theorem proved : Rows.SignDifferenceCardSaid :=
  Claim7.holds_tied_plain_at .later [] [.data, .data] true Rows.signDifferenceCard.stood.harness false
    over (fun _ h => by cases h) (by kernel_rfl) (fun _ h => by cases h) signDifference_row_tie rfl ⟨rfl, rfl⟩ (by kernel_rfl) rfl
    (fun f fn hf hfn => by
      obtain rfl : f = 10 := Option.some.inj ((show Tryd.prog.funcNamed "sizar/sizarlaw04.SignDifference" = some 10 by kernel_rfl).symm.trans hf) |>.symm
      obtain rfl : fn = Tryd.f10 := (Option.some.inj (Tryd.func10.symm.trans hfn)).symm
      exact ⟨by kernel_rfl, fun j t ht => stands_of (show Tryd.f10.params.all (fun t => !Tryd.prog.wantsStandIn t) = true by kernel_rfl) ht⟩)
    (by kernel_rfl)
#print axioms proved
end Go.Proofs.YtcgpanjagkblmaaDoor.signDifference
