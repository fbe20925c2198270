/- sizar/sizarlaw04.sane returns true; what was in memory stays. -/
import Derived.Test.YtcgpanjagkblmaaDoorPrivate
import Derived.Test.YtcgpanjagkblmaaDoorVerify
import Derived.Test.YtcgpanjagkblmaaDoorSane03Math
namespace Go.Proofs.YtcgpanjagkblmaaDoor
open Go.RowKit SzSha SzGrp SzPow
set_option linter.unusedVariables false
theorem key1 : isKey 1 = true := by decide
theorem e41 : expV 4 1 = 4 := by
  unfold expV; rw [e4]
  have : powP 4 1 = 4 := by rw [powP_eq _ _ (by decide)]; decide +kernel
  rw [show (4 : Int).toNat = 4 from rfl, show (1 : Int).toNat = 1 from rfl, this]
  decide
theorem pub1 : pubV 1 = 4 ∧ pubE 1 = 0 := by rw [pubV, pubE, if_pos key1, if_pos key1, e41]; exact ⟨rfl, rfl⟩
theorem key0 : isKey 0 = false := by decide
theorem keyQ : isKey 2305843009213688669 = false := by decide
theorem pub0 : pubV 0 = 0 ∧ pubE 0 = 40 := by rw [pubV, pubE, key0]; exact ⟨rfl, rfl⟩
theorem pubQ : pubV 2305843009213688669 = 0 ∧ pubE 2305843009213688669 = 40 := by rw [pubV, pubE, keyQ]; exact ⟨rfl, rfl⟩
theorem v0 (l : List Nat) : vfy 0 l 0 0 = false := by unfold vfy; rw [show isE 0 = false by decide]; rfl
theorem vQ (l : List Nat) : vfy 4 l 4 2305843009213688669 = false := by unfold vfy; rw [show sc 2305843009213688669 = false by decide]; simp
theorem v1 (l : List Nat) : vfy 4 l (sgR 1 l) (sgS 1 l) = true := by
  have := vfy_sign (x := 1) l (by decide)
  rwa [e41] at this
theorem in_one (W : World) (x : Nat) (hx : x < 256) : In (W.alloc (.cells #[.int .u8 (x : Nat)] 5)) (some ⟨W.heap.size, 0, none⟩) 1 1 [x] :=
  ⟨rfl, Nat.le_refl _, (fun h => by cases h), (fun y hy => by have : y = x := by simpa using hy
                                                              omega), one_row W x⟩
theorem in_7 (W : World) : In (W.alloc (.cells #[.int .u8 7] 5)) (some ⟨W.heap.size, 0, none⟩) 1 1 [7] := in_one W 7 (by omega)
theorem in_nil (W : World) : In W none 0 0 [] := ⟨rfl, Nat.le_refl _, fun _ => rfl, (fun x hx => by cases hx), fun h => absurd h (by simp)⟩
/-- a guarded operation that is wanted, walked as if it bore no guard -/
theorem wpList_unguard {P : Program} {ops : Array Oper} {rest : List Oper} {o : Oper} {a : Act} {w : World} {Q : Exit → Act → World → Prop} (hw : Region.wanted o (yielded ops a.tmps) = true) (h : wpList P ops Q ({ o with guard := none } :: rest) a w) : wpList P ops Q (o :: rest) a w := by
  unfold wpList at h ⊢
  rw [if_pos hw]
  rw [if_pos (by unfold Region.wanted; rfl)] at h
  exact h
/-- Sign, whatever the key -/
theorem sgS_bd (x : Int) (l : List Nat) (hx : isKey x = true) : 0 ≤ sgS x l ∧ sgS x l < 2305843009213688669 := sc_bounds (sgS_sc l (isKey_sc hx))
theorem sgR_bd (x : Int) (l : List Nat) : 1 ≤ sgR x l ∧ sgR x l < 4611686018427377339 := isE_bounds (isE_sgR x l)
set_option maxRecDepth 100000 in
set_option maxHeartbeats 4000000 in
theorem sane_any (w : World) (hT : Hid (Tabs w)) : Calls Tryd.prog 11 #[] w fun e w' => e = .returned (.bool true) ∧ Below w.heap.size w w' := by
  obtain ⟨R, HR⟩ : ∃ R, Hid (sgR 1 [7] = R) := ⟨_, Lib.hid rfl⟩
  obtain ⟨S, HS⟩ : ∃ S, Hid (sgS 1 [7] = S) := ⟨_, Lib.hid rfl⟩
  have RB : Hid (1 ≤ R ∧ R < 4611686018427377339) := Lib.hid (by rw [← HR.out]; exact sgR_bd 1 [7])
  have SB : Hid (0 ≤ S ∧ S < 2305843009213688669) := Lib.hid (by rw [← HS.out]; exact sgS_bd 1 [7] key1)
  obtain ⟨x, HX⟩ : ∃ x, Hid (privV (List.replicate 32 0) 0 ⟨#[]⟩ = x) := ⟨_, Lib.hid rfl⟩
  have xb := privV_bd (List.replicate 32 0) 0 ⟨#[]⟩
  rw [HX.out] at xb
  have d1 : decide (x < 1) = false := decide_eq_false (by omega)
  have d2 : decide (2305843009213688669 ≤ x) = false := decide_eq_false (by omega)
  have d3 : decide (0 < R) = true := decide_eq_true (by have := RB.out; omega)
  have DZ : Hid (Value.agg #[.int .u8 0, .int .u8 0, .int .u8 0, .int .u8 0, .int .u8 0, .int .u8 0, .int .u8 0, .int .u8 0, .int .u8 0, .int .u8 0, .int .u8 0, .int .u8 0, .int .u8 0, .int .u8 0, .int .u8 0, .int .u8 0, .int .u8 0, .int .u8 0, .int .u8 0, .int .u8 0, .int .u8 0, .int .u8 0, .int .u8 0, .int .u8 0, .int .u8 0, .int .u8 0, .int .u8 0, .int .u8 0, .int .u8 0, .int .u8 0, .int .u8 0, .int .u8 0] = dgV (List.replicate 32 0)) := Lib.hid rfl
  clear xb
  go_enter Tryd.func11, Tryd.ntmps11
  go_wp2_with fail
  refine (Public_any 1 _ (by omega) (by omega)).mono ?_
  rintro e w1 ⟨rfl, hb1⟩
  rw [pub1.1, pub1.2]
  go_wp2_with fail
  refine (Public_any 0 _ (by omega) (by omega)).mono ?_
  rintro e w2 ⟨rfl, hb2⟩
  rw [pub0.1, pub0.2]
  replace hb2 := hb1.trans (hb2.mono hb1.size)
  clear hb1
  go_wp2_with fail
  refine (Public_any 2305843009213688669 _ (by omega) (by omega)).mono ?_
  rintro e w3 ⟨rfl, hb3⟩
  rw [pubQ.1, pubQ.2]
  replace hb3 := hb2.trans (hb3.mono hb2.size)
  clear hb2
  go_wp2_with fail
  refine (Sign_bad 0 _ _ key0).mono ?_
  rintro e w4 ⟨rfl, hb4⟩
  replace hb4 := hb3.trans (hb4.mono hb3.size)
  clear hb3
  go_wp2_with fail
  have hi5 := in_7 (w4.alloc (.cells #[.int .i64 0, .int .i64 0] 30))
  simp only [World.size_alloc] at hi5
  have HB5 := Lib.hid ((hb4.alloc hb4.size (.cells #[.int .i64 0, .int .i64 0] 30)).alloc (Nat.le_trans hb4.size (by simp)) (.cells #[.int .u8 7] 5))
  clear hb4
  refine (Sign_ok 1 _ _ _ [7] _ key1 (by omega) (Lib.hid (hT.out.below HB5.out)) (Lib.hid hi5)).mono ?_
  rintro e w5 ⟨rfl, hb5⟩
  rw [HR.out, HS.out]
  have HB6 := Lib.hid (HB5.out.trans (hb5.mono HB5.out.size))
  clear hb5 hi5 HB5
  go_wp2_with fail
  have hi6 := in_7 (w5.alloc (.cells #[.int .i64 R, .int .i64 S] 30))
  simp only [World.size_alloc] at hi6
  have HB7 := Lib.hid ((HB6.out.alloc HB6.out.size (.cells #[.int .i64 R, .int .i64 S] 30)).alloc (Nat.le_trans HB6.out.size (by simp)) (.cells #[.int .u8 7] 5))
  have h9 := heap_alloc_new w5 (.cells #[.int .i64 R, .int .i64 S] 30)
  refine (Sign_ok 1 _ _ _ [7] _ key1 (by omega) (Lib.hid (hT.out.below HB7.out)) (Lib.hid hi6)).mono ?_
  rintro e w6 ⟨rfl, hb6⟩
  rw [HR.out, HS.out]
  have H9 := Lib.hid ((hb6.block w5.heap.size (by simp; omega)).trans ((Below.heap_alloc _ _ _ (by simp)).trans h9))
  have HB8 := Lib.hid (HB7.out.trans (hb6.mono HB7.out.size))
  have hlt6 : w5.heap.size < w6.heap.size := (Array.getElem?_eq_some_iff.1 H9.out).1
  clear hb6 hi6 HB7 h9 HB6
  go_wp2_with fail
  rw [DZ.out]
  have HB9 := Lib.hid (HB8.out.alloc HB8.out.size (.cells #[.int .i64 R, .int .i64 S] 30))
  have h11 := heap_alloc_new w6 (.cells #[.int .i64 R, .int .i64 S] 30)
  refine (private_any (List.replicate 32 0) ⟨#[]⟩ 0 _ (Lib.hid (by simp)) (Lib.hid (fun x hx => by have := List.eq_of_mem_replicate hx; omega)) (by decide) (Lib.hid (hT.out.below HB9.out))).mono ?_
  rintro e w7 ⟨rfl, hb7⟩
  rw [HX.out]
  have H9' := Lib.hid ((hb7.block w5.heap.size (by simp; omega)).trans ((Below.heap_alloc _ _ _ hlt6).trans H9.out))
  have H11 := Lib.hid ((hb7.block w6.heap.size (by simp)).trans h11)
  have HB10 := Lib.hid (HB9.out.trans (hb7.mono HB9.out.size))
  clear hb7 h11 H9 HB9 HB8 hlt6
  have c90 : w7.cell? ⟨w5.heap.size, 0, none⟩ = some (.int .i64 R) := by rw [cell_of_row _ _ _ _ _ _ H9'.out]; rfl
  have c91 : w7.cell? ⟨w5.heap.size, 1, none⟩ = some (.int .i64 S) := by rw [cell_of_row _ _ _ _ _ _ H9'.out]; rfl
  have c110 : w7.cell? ⟨w6.heap.size, 0, none⟩ = some (.int .i64 R) := by rw [cell_of_row _ _ _ _ _ _ H11.out]; rfl
  have c111 : w7.cell? ⟨w6.heap.size, 1, none⟩ = some (.int .i64 S) := by rw [cell_of_row _ _ _ _ _ _ H11.out]; rfl
  go_wp2_with fail
  refine (Verify_any 0 0 0 none 0 0 [] _ (by omega) (by omega) (by omega) (by omega) (Lib.hid (hT.out.below HB10.out)) (Lib.hid (in_nil _))).mono ?_
  rintro e w8 ⟨rfl, hb8⟩
  rw [v0]
  have HB11 := Lib.hid (HB10.out.trans (hb8.mono HB10.out.size))
  have H9 := Lib.hid ((hb8.block w5.heap.size (Array.getElem?_eq_some_iff.1 H9'.out).1).trans H9'.out)
  clear hb8 HB10 H9' H11 c90 c91 c110 c111
  go_wp2_with fail
  refine (Verify_any 4 4 2305843009213688669 none 0 0 [] _ (by omega) (by omega) (by omega) (by omega) (Lib.hid (hT.out.below HB11.out)) (Lib.hid (in_nil _))).mono ?_
  rintro e w9 ⟨rfl, hb9⟩
  rw [vQ]
  have HB12 := Lib.hid (HB11.out.trans (hb9.mono HB11.out.size))
  have H9' := Lib.hid ((hb9.block w5.heap.size (Array.getElem?_eq_some_iff.1 H9.out).1).trans H9.out)
  have hlt9 : w5.heap.size < w9.heap.size := (Array.getElem?_eq_some_iff.1 H9'.out).1
  clear hb9 HB11 H9
  have c90 : w9.cell? ⟨w5.heap.size, 0, none⟩ = some (.int .i64 R) := by rw [cell_of_row _ _ _ _ _ _ H9'.out]; rfl
  have c91 : w9.cell? ⟨w5.heap.size, 1, none⟩ = some (.int .i64 S) := by rw [cell_of_row _ _ _ _ _ _ H9'.out]; rfl
  go_wp2_with fail
  have HB13 := Lib.hid (HB12.out.alloc HB12.out.size (.cells #[.int .u8 7] 5))
  refine (Verify_any 4 R S _ 1 1 [7] _ (by omega) (by have := RB.out; omega) (by have := SB.out; omega) (by omega) (Lib.hid (hT.out.below HB13.out)) (Lib.hid (in_7 _))).mono ?_
  rintro e w10 ⟨rfl, hb10⟩
  have v1' := v1 [7]
  rw [HR.out, HS.out] at v1'
  rw [v1']
  have HB14 := Lib.hid (HB13.out.trans (hb10.mono HB13.out.size))
  clear hb10 v1' c90 c91
  go_wp2_with fail
  go_ret
  exact ⟨rfl, HB14.out⟩
end Go.Proofs.YtcgpanjagkblmaaDoor
