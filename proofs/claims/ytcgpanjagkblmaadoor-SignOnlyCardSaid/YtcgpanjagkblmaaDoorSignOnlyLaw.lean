/- SignOnly: for every number (as a private key), message and number the law returns true: for each R exactly one S is accepted. No conditions. -/
import Derived.Test.YtcgpanjagkblmaaDoorLawKit
import Derived.Test.YtcgpanjagkblmaaDoorSane04
import Derived.Lib.SmallJoins
import Derived.Test.YtcgpanjagkblmaaDoorFlow
import Derived.IntWalk
import Derived.Outline
import Derived.Test.YtcgpanjagkblmaaDoorCards
import Derived.Test.YtcgpanjagkblmaaDoorTie
namespace Go.Proofs.YtcgpanjagkblmaaDoor.signOnly
open Go.ChangeShapes Go.WideShapes Go.ChangeAt Go.RowKit SzSha SzGrp
set_option linter.unusedVariables false
def onlyA (b : Nat) (z kz n1 n2 n3 S : Int) : Nat → Value → World → Prop
  | 0, fv, _ => fv = Value.int .i64 (z)
  | 1, fv, _ => fv = Value.int .i64 (z)
  | 2, fv, _ => fv = Value.int .i64 (kz)
  | 3, fv, _ => fv = Value.int .i64 (n1)
  | 4, fv, _ => fv = Value.pointer (some ⟨b, 1, none⟩)
  | 5, fv, _ => fv = Value.int .i64 (S)
  | 6, fv, _ => fv = Value.int .i64 (n2)
  | 7, fv, _ => fv = Value.pointer (some ⟨b, 1, none⟩)
  | 8, fv, _ => fv = Value.int .i64 (S)
  | 9, fv, _ => fv = Value.int .i64 (n3)
  | 10, fv, fw => ∃ g, fv = .slice (some ⟨g, 0, none⟩) 4 4 ∧ fw.heap[g]? = some (.cells #[.int .i64 z, .int .i64 n1, .int .i64 n2, .int .i64 n3] 3 (0, 0)) ∧ b < g
  | 11, fv, _ => fv = Value.int .i64 (4)
  | 12, fv, _ => fv = Value.int .i64 (0)
  | _, _, _ => True
theorem onlyA_below {b : Nat} {z kz n1 n2 n3 S : Int} {w w' : World} (hb : Below w.heap.size w w') : ∀ j v, onlyA b z kz n1 n2 n3 S j v w → onlyA b z kz n1 n2 n3 S j v w'
  | 0, v, h => h
  | 1, v, h => h
  | 2, v, h => h
  | 3, v, h => h
  | 4, v, h => h
  | 5, v, h => h
  | 6, v, h => h
  | 7, v, h => h
  | 8, v, h => h
  | 9, v, h => h
  | 10, v, ⟨g, h1, h2, h3⟩ => ⟨g, h1, (hb.block g (Array.getElem?_eq_some_iff.1 h2).1).trans h2, h3⟩
  | 11, v, h => h
  | 12, v, h => h
  | n + 13, v, h => trivial
def onlyB (b : Nat) (y R S m : Int) (v : Bool) (A : Option Addr) (n c : Nat) : Nat → Value → Prop
  | 0, fv => fv = Value.int .i64 (y)
  | 1, fv => fv = Value.slice A n c
  | 2, fv => fv = Value.pointer (some ⟨b, 0, none⟩)
  | 3, fv => fv = Value.int .i64 (R)
  | 4, fv => fv = Value.int .i64 (m)
  | 5, fv => fv = Value.agg #[.int .i64 R, .int .i64 m]
  | 6, fv => fv = Value.bool v
  | 7, fv => fv = Value.int .i64 (m)
  | 8, fv => fv = Value.pointer (some ⟨b, 1, none⟩)
  | 9, fv => fv = Value.int .i64 (S)
  | 10, fv => fv = Value.bool v
  | 11, fv => fv = Value.bool false
  | _, _ => True
set_option maxRecDepth 100000 in
set_option maxHeartbeats 4000000 in
theorem four {w : World} {g : Nat} {a b c d : Int} (h : w.heap[g]? = some (.cells #[.int .i64 a, .int .i64 b, .int .i64 c, .int .i64 d] 3 (0, 0))) (Q : Int → Prop) (ha : Q a) (hb : Q b) (hc : Q c) (hd : Q d) (j : Nat) (hj : j < 4) : ∃ m, w.cell? ⟨g, j, none⟩ = some (.int .i64 m) ∧ Q m := by
  have : j = 0 ∨ j = 1 ∨ j = 2 ∨ j = 3 := by omega
  rcases this with rfl | rfl | rfl | rfl
  · exact ⟨a, by rw [cell_of_row _ _ _ _ _ _ h]; rfl, ha⟩
  · exact ⟨b, by rw [cell_of_row _ _ _ _ _ _ h]; rfl, hb⟩
  · exact ⟨c, by rw [cell_of_row _ _ _ _ _ _ h]; rfl, hc⟩
  · exact ⟨d, by rw [cell_of_row _ _ _ _ _ _ h]; rfl, hd⟩
set_option maxRecDepth 100000 in
set_option maxHeartbeats 4000000 in
theorem go (x : Int) (A : Option Addr) (n c : Nat) (l : List Nat) (z : Int) (w : World) (hx1 : -9223372036854775808 ≤ x) (hx2 : x ≤ 9223372036854775807) (hz1 : -9223372036854775808 ≤ z) (hz2 : z ≤ 9223372036854775807) (hn : n ≤ 1000) (hT : Hid (Tabs w)) (hl : Hid (In w A n c l)) :
    Calls Tryd.prog 8 #[.int .i64 x, .slice A n c, .int .i64 z] w fun e w' => e = .returned (.bool true) ∧ Below w.heap.size w w' := by
  obtain ⟨k, HK⟩ : ∃ k, Hid (keyOf x = k) := ⟨_, Lib.hid rfl⟩
  have HKEY : Hid (isKey k = true) := Lib.hid (by rw [← HK.out]; exact keyOf_key x)
  have KB : Hid (1 ≤ k ∧ k < 2305843009213688669) := Lib.hid (by rw [← HK.out]; exact keyOf_bd x)
  obtain ⟨y, HY⟩ : ∃ y, Hid (expV 4 k = y) := ⟨_, Lib.hid rfl⟩
  have HYE : Hid (isE y = true) := Lib.hid (by rw [← HY.out]; exact isE_exp e4 (isKey_sc HKEY.out))
  have YB : Hid (1 ≤ y ∧ y < 4611686018427377339) := Lib.hid (isE_bounds HYE.out)
  have HPUB : Hid (pubV k = y ∧ pubE k = 0) := Lib.hid (by rw [pubV, pubE, if_pos HKEY.out, if_pos HKEY.out]; exact ⟨HY.out, rfl⟩)
  obtain ⟨R, HR⟩ : ∃ R, Hid (sgR k l = R) := ⟨_, Lib.hid rfl⟩
  obtain ⟨S, HS⟩ : ∃ S, Hid (sgS k l = S) := ⟨_, Lib.hid rfl⟩
  have RB : Hid (1 ≤ R ∧ R < 4611686018427377339) := Lib.hid (by rw [← HR.out]; exact sgR_bd k l)
  have SB : Hid (0 ≤ S ∧ S < 2305843009213688669) := Lib.hid (by rw [← HS.out]; exact sgS_bd k l HKEY.out)
  have HVN : Hid (∀ m, vfy y l R m = (m == S)) := Lib.hid (fun m => by rw [← HY.out, ← HR.out, ← HS.out, vfy_only l m (isKey_sc HKEY.out)]; rfl)
  obtain ⟨kz, HKZ⟩ : ∃ k, Hid (keyOf z = k) := ⟨_, Lib.hid rfl⟩
  have KZB : Hid (1 ≤ kz ∧ kz < 2305843009213688669) := Lib.hid (by rw [← HKZ.out]; exact keyOf_bd z)
  obtain ⟨n1, HN1⟩ : ∃ n1, Hid (kz - 1 = n1) := ⟨_, Lib.hid rfl⟩
  obtain ⟨n2, HN2⟩ : ∃ n2, Hid (S + 2305843009213688669 = n2) := ⟨_, Lib.hid rfl⟩
  obtain ⟨n3, HN3⟩ : ∃ n3, Hid (S - 2305843009213688669 = n3) := ⟨_, Lib.hid rfl⟩
  have HW1 : Hid (IntKind.i64.wrap (kz - 1) = n1) := Lib.hid (by rw [IntWalk.i64_in _ (by have := KZB.out; omega)]; exact HN1.out)
  have HW2 : Hid (IntKind.i64.wrap (S + 2305843009213688669) = n2) := Lib.hid (by rw [IntWalk.i64_in _ (by have := SB.out; omega)]; exact HN2.out)
  have HW3 : Hid (IntKind.i64.wrap (S - 2305843009213688669) = n3) := Lib.hid (by rw [IntWalk.i64_in _ (by have := SB.out; omega)]; exact HN3.out)
  have ZB := Lib.hid (And.intro hz1 hz2)
  have NB1 : Hid (-9223372036854775808 ≤ n1 ∧ n1 ≤ 9223372036854775807) := Lib.hid (by rw [← HN1.out]; have := KZB.out; omega)
  have NB2 : Hid (-9223372036854775808 ≤ n2 ∧ n2 ≤ 9223372036854775807) := Lib.hid (by rw [← HN2.out]; have := SB.out; omega)
  have NB3 : Hid (-9223372036854775808 ≤ n3 ∧ n3 ≤ 9223372036854775807) := Lib.hid (by rw [← HN3.out]; have := SB.out; omega)
  clear hz1 hz2
  have q2 : decide ((1000 : Int) < (n : Int)) = false := decide_eq_false (by omega)
  have q4 : decide (1000 < n) = false := decide_eq_false (by omega)
  go_enter Tryd.func8, Tryd.ntmps8
  go_wp2_with fail
  refine (sane_any _ hT).mono ?_
  rintro e w1 ⟨rfl, hq⟩
  have HB1 := Lib.hid (hq)
  clear hq
  go_wp2_with fail
  refine (key_any x _ hx1 hx2).mono ?_
  rintro e w2 ⟨rfl, rfl⟩
  rw [HK.out]
  go_wp2_with fail
  refine (Public_any k _ (by have := KB.out; omega) (by have := KB.out; omega)).mono ?_
  rintro e w2 ⟨rfl, hq⟩
  rw [HPUB.out.1, HPUB.out.2]
  have HB2 := Lib.hid (HB1.out.trans (hq.mono HB1.out.size))
  clear hq
  go_wp2_with fail
  refine (Sign_ok k A n c l _ HKEY.out (by omega) (Lib.hid (hT.out.below HB2.out)) (Lib.hid (hl.out.below HB2.out))).mono ?_
  rintro e w3 ⟨rfl, hq⟩
  rw [HR.out, HS.out]
  have HB3 := Lib.hid (HB2.out.trans (hq.mono HB2.out.size))
  clear hq
  have H3 := Lib.hid (heap_alloc_new w3 (.cells #[.int .i64 R, .int .i64 S] 30))
  have HB3a := Lib.hid (HB3.out.alloc HB3.out.size (.cells #[.int .i64 R, .int .i64 S] 30))
  go_wp2_with fail
  have HLT0 : Hid (w3.heap.size < (w3.alloc (.cells #[.int .i64 R, .int .i64 S] 30)).heap.size) := Lib.hid (by simp)
  generalize w3.alloc (.cells #[.int .i64 R, .int .i64 S] 30) = w4 at *
  have HLT : Hid (w3.heap.size < w4.heap.size) := HLT0
  have HC0 : Hid (w4.cell? ⟨w3.heap.size, 0, none⟩ = some (.int .i64 R)) := Lib.hid (by rw [cell_of_row _ _ _ _ _ _ H3.out]; rfl)
  have HC1 : Hid (w4.cell? ⟨w3.heap.size, 1, none⟩ = some (.int .i64 S)) := Lib.hid (by rw [cell_of_row _ _ _ _ _ _ H3.out]; rfl)
  have HD : Hid (Below w4.heap.size w4 w4.drew) := Lib.hid (Below.refl _ _).drew
  refine region_flow (by kernel_rfl) (by kernel_rfl) (fun i => i) (by kernel_rfl) (fun fx => #[Value.int IntKind.i64 x, Value.slice A n c, Value.int IntKind.i64 z, undef, undef, undef, Value.bool false, Value.int IntKind.i64 k, Value.int IntKind.i64 y, Value.int IntKind.i64 0, Value.pointer (some { block := w3.heap.size, off := 0 }), Value.int IntKind.i64 0, undef, undef, Value.bool true, Value.bool false, Value.slice A n c, Value.int IntKind.i64 ↑n, Value.bool false, Value.int IntKind.i64 x, Value.int IntKind.i64 k, Value.tuple #[Value.int IntKind.i64 y, Value.int IntKind.i64 0], Value.int IntKind.i64 k, Value.tuple #[Value.int IntKind.i64 y, Value.int IntKind.i64 0], Value.int IntKind.i64 y, Value.int IntKind.i64 0, Value.tuple #[Value.agg #[Value.int IntKind.i64 R, Value.int IntKind.i64 S], Value.int IntKind.i64 0], Value.int IntKind.i64 k, Value.slice A n c, Value.tuple #[Value.agg #[Value.int IntKind.i64 R, Value.int IntKind.i64 S], Value.int IntKind.i64 0], Value.agg #[Value.int IntKind.i64 R, Value.int IntKind.i64 S], Value.int IntKind.i64 0, Value.int IntKind.i64 0, Value.bool false, Value.bool false, Value.int IntKind.i64 0, Value.bool false, Value.bool false, fx 0, fx 1, fx 2, fx 3, fx 4, fx 5, fx 6, fx 7, fx 8, fx 9, fx 10, fx 11, fx 12, undef, undef, undef, undef, undef, undef, undef, undef, undef, undef, undef, undef, undef, undef, undef, undef]) (fun _ => undef) (fun w' => Below w4.heap.size w4 w') (fun fi fv _ fw => onlyA w3.heap.size z kz n1 n2 n3 S fi fv fw) HD.out ?_ ?_
  · refine ⟨?_, ?_, ?_, ?_, ?_, ?_, ?_, ?_, ?_, ?_, ?_, ?_, ?_, trivial⟩
    all_goals intro fx w' hC hd
    · go_wp2_with fail
      exact ⟨_, rfl, hC, rfl, fun _ _ _ _ h => h⟩
    · go_wp2_with fail
      exact ⟨_, rfl, hC, rfl, fun _ _ _ _ h => h⟩
    · have h1 : fx 1 = Value.int .i64 (z) := hd.1 rfl
      go_wp2_with fail
      refine (key_any z _ ZB.out.1 ZB.out.2).mono ?_
      rintro e w2 ⟨rfl, rfl⟩
      rw [HKZ.out]
      go_wp2_with fail
      exact ⟨_, by rw [← h1]; rfl, hC, rfl, fun _ _ _ _ h => h⟩
    · have h2 : fx 2 = Value.int .i64 (kz) := hd.1 rfl
      have hw : IntKind.i64.wrap (kz - 1) = n1 := HW1.out
      go_wp2_with fail
      exact ⟨_, by rw [← h2]; rfl, hC, rfl, fun _ _ _ _ h => h⟩
    · go_wp2_with fail
      exact ⟨_, rfl, hC, rfl, fun _ _ _ _ h => h⟩
    · have h4 : fx 4 = Value.pointer (some ⟨w3.heap.size, 1, none⟩) := hd.1 rfl
      have hc : w'.cell? ⟨w3.heap.size, 1, none⟩ = some (.int .i64 S) := (hC.cell (block_lt_of_cell HC1.out)).trans HC1.out
      go_wp2_with fail
      exact ⟨_, by rw [← h4]; rfl, hC, rfl, fun _ _ _ _ h => h⟩
    · have h5 : fx 5 = Value.int .i64 (S) := hd.1 rfl
      have hw : IntKind.i64.wrap (S + 2305843009213688669) = n2 := HW2.out
      go_wp2_with fail
      exact ⟨_, by rw [← h5]; rfl, hC, rfl, fun _ _ _ _ h => h⟩
    · go_wp2_with fail
      exact ⟨_, rfl, hC, rfl, fun _ _ _ _ h => h⟩
    · have h7 : fx 7 = Value.pointer (some ⟨w3.heap.size, 1, none⟩) := hd.1 rfl
      have hc : w'.cell? ⟨w3.heap.size, 1, none⟩ = some (.int .i64 S) := (hC.cell (block_lt_of_cell HC1.out)).trans HC1.out
      go_wp2_with fail
      exact ⟨_, by rw [← h7]; rfl, hC, rfl, fun _ _ _ _ h => h⟩
    · have h8 : fx 8 = Value.int .i64 (S) := hd.1 rfl
      have hw : IntKind.i64.wrap (S - 2305843009213688669) = n3 := HW3.out
      go_wp2_with fail
      exact ⟨_, by rw [← h8]; rfl, hC, rfl, fun _ _ _ _ h => h⟩
    · have h0 : fx 0 = Value.int .i64 (z) := hd.1 rfl
      have h3 : fx 3 = Value.int .i64 (n1) := hd.2.1 rfl
      have h6 : fx 6 = Value.int .i64 (n2) := hd.2.2.1 rfl
      have h9 : fx 9 = Value.int .i64 (n3) := hd.2.2.2.1 rfl
      go_wp2_with fail
      exact ⟨_, by rw [← h3, ← h6, ← h9, ← h0]; rfl, hC.alloc hC.size _, ⟨_, rfl, heap_alloc_new w' _, Nat.lt_of_lt_of_le HLT.out hC.size⟩, fun j v u _ h => onlyA_below ((Below.refl _ _).alloc (Nat.le_refl _) _) j v h⟩
    · obtain ⟨g, h10, hrow, hg⟩ := hd.1 rfl
      go_wp2_with fail
      exact ⟨_, by rw [← h10]; rfl, hC, rfl, fun _ _ _ _ h => h⟩
    · go_wp2_with fail
      exact ⟨_, rfl, hC, rfl, fun _ _ _ _ h => h⟩
  · intro fx w' hC hS
    have h0 : fx 0 = Value.int .i64 (z) := hS 0 (by decide)
    have h1 : fx 1 = Value.int .i64 (z) := hS 1 (by decide)
    have h2 : fx 2 = Value.int .i64 (kz) := hS 2 (by decide)
    have h3 : fx 3 = Value.int .i64 (n1) := hS 3 (by decide)
    have h4 : fx 4 = Value.pointer (some ⟨w3.heap.size, 1, none⟩) := hS 4 (by decide)
    have h5 : fx 5 = Value.int .i64 (S) := hS 5 (by decide)
    have h6 : fx 6 = Value.int .i64 (n2) := hS 6 (by decide)
    have h7 : fx 7 = Value.pointer (some ⟨w3.heap.size, 1, none⟩) := hS 7 (by decide)
    have h8 : fx 8 = Value.int .i64 (S) := hS 8 (by decide)
    have h9 : fx 9 = Value.int .i64 (n3) := hS 9 (by decide)
    obtain ⟨g, h10, hrow, hg⟩ := hS 10 (by decide)
    have h11 : fx 11 = Value.int .i64 (4) := hS 11 (by decide)
    have h12 : fx 12 = Value.int .i64 (0) := hS 12 (by decide)
    rw [h0, h1, h2, h3, h4, h5, h6, h7, h8, h9, h10, h11, h12]
    clear h0 h1 h2 h3 h4 h5 h6 h7 h8 h9 h10 h11 h12 hS
    have HR3 : Hid (w'.heap[w3.heap.size]? = some (.cells #[.int .i64 R, .int .i64 S] 30 (0, 0))) := Lib.hid ((hC.block _ HLT.out).trans H3.out)
    have HB4 := Lib.hid (HB3a.out.trans (hC.mono HB3a.out.size))
    have HROW := Lib.hid hrow
    clear hC hrow HD HC0 HC1 HLT HLT0 HW1 HW2 HW3 HB3a H3 hg
    go_wp2_with fail
    go_loopw [50] (fun i wr => ∃ j : Nat, j ≤ 4 ∧ i = .int .i64 j ∧ Hid (wr.heap[g]? = some (.cells #[.int .i64 z, .int .i64 n1, .int .i64 n2, .int .i64 n3] 3 (0, 0))) ∧ Hid (wr.heap[w3.heap.size]? = some (.cells #[.int .i64 R, .int .i64 S] 30 (0, 0))) ∧ Hid (Below w.heap.size w wr)) (fun i _ => 4 - (intOf i).toNat)
    case atStart => exact ⟨0, by omega, rfl, HROW, HR3, HB4⟩
    case round =>
      clear HROW HR3 HB4
      obtain ⟨j, hj, rfl, HROW, HR3, HBR⟩ := hrel
      by_cases hlt : j < 4
      · obtain ⟨m, hcell, MB'⟩ := four HROW.out (fun m => -9223372036854775808 ≤ m ∧ m ≤ 9223372036854775807) ZB.out NB1.out NB2.out NB3.out j hlt
        have MB := Lib.hid MB'
        clear MB'
        obtain ⟨v, HVB⟩ : ∃ v, Hid ((m == S) = v) := ⟨_, Lib.hid rfl⟩
        have HVM : Hid (vfy y l R m = v) := Lib.hid (by rw [HVN.out m, HVB.out])
        have d4 : decide ((j : Int) < 4) = true := decide_eq_true (by omega)
        go_wp2_with fail
        clear hcell
        have HC0 : Hid (wr.cell? ⟨w3.heap.size, 0, none⟩ = some (.int .i64 R)) := Lib.hid (by rw [cell_of_row _ _ _ _ _ _ HR3.out]; rfl)
        have HC1 : Hid (wr.cell? ⟨w3.heap.size, 1, none⟩ = some (.int .i64 S)) := Lib.hid (by rw [cell_of_row _ _ _ _ _ _ HR3.out]; rfl)
        have HD : Hid (Below wr.heap.size wr wr.drew) := Lib.hid (Below.refl _ _).drew
        refine region_flow (by kernel_rfl) (by kernel_rfl) (fun i => i) (by kernel_rfl) (fun fx => #[Value.int IntKind.i64 x, Value.slice A n c, Value.int IntKind.i64 z, undef, undef, undef, u6, Value.int IntKind.i64 k, Value.int IntKind.i64 y, Value.int IntKind.i64 0, Value.pointer (some { block := w3.heap.size, off := 0 }), Value.int IntKind.i64 0, undef, Value.int IntKind.i64 m, Value.bool true, Value.bool false, Value.slice A n c, Value.int IntKind.i64 ↑n, Value.bool false, Value.int IntKind.i64 x, Value.int IntKind.i64 k, Value.tuple #[Value.int IntKind.i64 y, Value.int IntKind.i64 0], Value.int IntKind.i64 k, Value.tuple #[Value.int IntKind.i64 y, Value.int IntKind.i64 0], Value.int IntKind.i64 y, Value.int IntKind.i64 0, Value.tuple #[Value.agg #[Value.int IntKind.i64 R, Value.int IntKind.i64 S], Value.int IntKind.i64 0], Value.int IntKind.i64 k, Value.slice A n c, Value.tuple #[Value.agg #[Value.int IntKind.i64 R, Value.int IntKind.i64 S], Value.int IntKind.i64 0], Value.agg #[Value.int IntKind.i64 R, Value.int IntKind.i64 S], Value.int IntKind.i64 0, Value.int IntKind.i64 0, Value.bool false, Value.bool false, Value.int IntKind.i64 0, Value.bool false, Value.bool false, Value.int IntKind.i64 z, Value.int IntKind.i64 z, Value.int IntKind.i64 kz, Value.int IntKind.i64 n1, Value.pointer (some { block := w3.heap.size, off := 1 }), Value.int IntKind.i64 S, Value.int IntKind.i64 n2, Value.pointer (some { block := w3.heap.size, off := 1 }), Value.int IntKind.i64 S, Value.int IntKind.i64 n3, Value.slice (some { block := g, off := 0 }) 4 4, Value.int IntKind.i64 4, Value.int IntKind.i64 ↑j, Value.bool true, Value.pointer (some { block := g, off := j }), Value.int IntKind.i64 m, fx 0, fx 1, fx 2, fx 3, fx 4, fx 5, fx 6, fx 7, fx 8, fx 9, fx 10, fx 11, u66]) (fun i => bif Nat.beq i 0 then u54 else bif Nat.beq i 1 then u55 else bif Nat.beq i 2 then u56 else bif Nat.beq i 3 then u57 else bif Nat.beq i 4 then u58 else bif Nat.beq i 5 then u59 else bif Nat.beq i 6 then u60 else bif Nat.beq i 7 then u61 else bif Nat.beq i 8 then u62 else bif Nat.beq i 9 then u63 else bif Nat.beq i 10 then u64 else bif Nat.beq i 11 then u65 else undef) (fun w' => Below wr.heap.size wr w') (fun fi fv _ _ => onlyB w3.heap.size y R S m v A n c fi fv) HD.out ?_ ?_
        · refine ⟨?_, ?_, ?_, ?_, ?_, ?_, ?_, ?_, ?_, ?_, ?_, ?_, trivial⟩
          all_goals intro fx w' hC hd
          · go_wp2_with fail
            exact ⟨_, rfl, hC, rfl, fun _ _ _ _ h => h⟩
          · go_wp2_with fail
            exact ⟨_, rfl, hC, rfl, fun _ _ _ _ h => h⟩
          · go_wp2_with fail
            exact ⟨_, rfl, hC, rfl, fun _ _ _ _ h => h⟩
          · have h2 : fx 2 = Value.pointer (some ⟨w3.heap.size, 0, none⟩) := hd.1 rfl
            have hc : w'.cell? ⟨w3.heap.size, 0, none⟩ = some (.int .i64 R) := (hC.cell (block_lt_of_cell HC0.out)).trans HC0.out
            go_wp2_with fail
            exact ⟨_, by rw [← h2]; rfl, hC, rfl, fun _ _ _ _ h => h⟩
          · go_wp2_with fail
            exact ⟨_, rfl, hC, rfl, fun _ _ _ _ h => h⟩
          · have h3 : fx 3 = Value.int .i64 (R) := hd.1 rfl
            have h4 : fx 4 = Value.int .i64 (m) := hd.2.1 rfl
            go_wp2_with fail
            exact ⟨_, by rw [← h3, ← h4]; rfl, hC, rfl, fun _ _ _ _ h => h⟩
          · have h0 : fx 0 = Value.int .i64 (y) := hd.1 rfl
            have h1 : fx 1 = Value.slice A n c := hd.2.1 rfl
            have h5 : fx 5 = Value.agg #[.int .i64 R, .int .i64 m] := hd.2.2.1 rfl
            go_wp2_with fail
            refine (Verify_any y R m A n c l _ (by have := YB.out; omega) (by have := RB.out; omega) (by have := MB.out; omega) (by omega) (Lib.hid (hT.out.below (HBR.out.trans (hC.mono HBR.out.size)))) (Lib.hid (hl.out.below (HBR.out.trans (hC.mono HBR.out.size))))).mono ?_
            rintro e w2 ⟨rfl, hq⟩
            rw [HVM.out]
            go_wp2_with fail
            exact ⟨_, by rw [← h5, ← h0, ← h1]; rfl, hC.trans (hq.mono hC.size), rfl, fun _ _ _ _ h => h⟩
          · go_wp2_with fail
            exact ⟨_, rfl, hC, rfl, fun _ _ _ _ h => h⟩
          · go_wp2_with fail
            exact ⟨_, rfl, hC, rfl, fun _ _ _ _ h => h⟩
          · have h8 : fx 8 = Value.pointer (some ⟨w3.heap.size, 1, none⟩) := hd.1 rfl
            have hc : w'.cell? ⟨w3.heap.size, 1, none⟩ = some (.int .i64 S) := (hC.cell (block_lt_of_cell HC1.out)).trans HC1.out
            go_wp2_with fail
            exact ⟨_, by rw [← h8]; rfl, hC, rfl, fun _ _ _ _ h => h⟩
          · have h7 : fx 7 = Value.int .i64 (m) := hd.1 rfl
            have h9 : fx 9 = Value.int .i64 (S) := hd.2.1 rfl
            have hvb : (m == S) = v := HVB.out
            go_wp2_with fail
            exact ⟨_, by rw [← h7, ← h9]; rfl, hC, rfl, fun _ _ _ _ h => h⟩
          · have h6 : fx 6 = Value.bool v := hd.1 rfl
            have h10 : fx 10 = Value.bool v := hd.2.1 rfl
            go_wp2_with fail
            exact ⟨_, by show _ = Act.mk #[Value.int IntKind.i64 x, Value.slice A n c, Value.int IntKind.i64 z, undef, undef, undef, u6, Value.int IntKind.i64 k, Value.int IntKind.i64 y, Value.int IntKind.i64 0, Value.pointer (some { block := w3.heap.size, off := 0 }), Value.int IntKind.i64 0, undef, Value.int IntKind.i64 m, Value.bool true, Value.bool false, Value.slice A n c, Value.int IntKind.i64 ↑n, Value.bool false, Value.int IntKind.i64 x, Value.int IntKind.i64 k, Value.tuple #[Value.int IntKind.i64 y, Value.int IntKind.i64 0], Value.int IntKind.i64 k, Value.tuple #[Value.int IntKind.i64 y, Value.int IntKind.i64 0], Value.int IntKind.i64 y, Value.int IntKind.i64 0, Value.tuple #[Value.agg #[Value.int IntKind.i64 R, Value.int IntKind.i64 S], Value.int IntKind.i64 0], Value.int IntKind.i64 k, Value.slice A n c, Value.tuple #[Value.agg #[Value.int IntKind.i64 R, Value.int IntKind.i64 S], Value.int IntKind.i64 0], Value.agg #[Value.int IntKind.i64 R, Value.int IntKind.i64 S], Value.int IntKind.i64 0, Value.int IntKind.i64 0, Value.bool false, Value.bool false, Value.int IntKind.i64 0, Value.bool false, Value.bool false, Value.int IntKind.i64 z, Value.int IntKind.i64 z, Value.int IntKind.i64 kz, Value.int IntKind.i64 n1, Value.pointer (some { block := w3.heap.size, off := 1 }), Value.int IntKind.i64 S, Value.int IntKind.i64 n2, Value.pointer (some { block := w3.heap.size, off := 1 }), Value.int IntKind.i64 S, Value.int IntKind.i64 n3, Value.slice (some { block := g, off := 0 }) 4 4, Value.int IntKind.i64 4, Value.int IntKind.i64 ↑j, Value.bool true, Value.pointer (some { block := g, off := j }), Value.int IntKind.i64 m, fx 0, fx 1, fx 2, fx 3, fx 4, fx 5, fx 6, fx 7, fx 8, fx 9, fx 10, Value.bool false, u66] []; rw [h6, h10], hC, rfl, fun _ _ _ _ h => h⟩
        · intro fx w' hC hS
          have h0 : fx 0 = Value.int .i64 (y) := hS 0 (by decide)
          have h1 : fx 1 = Value.slice A n c := hS 1 (by decide)
          have h2 : fx 2 = Value.pointer (some ⟨w3.heap.size, 0, none⟩) := hS 2 (by decide)
          have h3 : fx 3 = Value.int .i64 (R) := hS 3 (by decide)
          have h4 : fx 4 = Value.int .i64 (m) := hS 4 (by decide)
          have h5 : fx 5 = Value.agg #[.int .i64 R, .int .i64 m] := hS 5 (by decide)
          have h6 : fx 6 = Value.bool v := hS 6 (by decide)
          have h7 : fx 7 = Value.int .i64 (m) := hS 7 (by decide)
          have h8 : fx 8 = Value.pointer (some ⟨w3.heap.size, 1, none⟩) := hS 8 (by decide)
          have h9 : fx 9 = Value.int .i64 (S) := hS 9 (by decide)
          have h10 : fx 10 = Value.bool v := hS 10 (by decide)
          have h11 : fx 11 = Value.bool false := hS 11 (by decide)
          rw [h0, h1, h2, h3, h4, h5, h6, h7, h8, h9, h10, h11]
          clear h0 h1 h2 h3 h4 h5 h6 h7 h8 h9 h10 h11 hS
          have HROW2 := Lib.hid ((hC.block _ (Array.getElem?_eq_some_iff.1 HROW.out).1).trans HROW.out)
          have HR32 := Lib.hid ((hC.block _ (Array.getElem?_eq_some_iff.1 HR3.out).1).trans HR3.out)
          have HBR2 := Lib.hid (HBR.out.trans (hC.mono HBR.out.size))
          clear hC HROW HR3 HBR HC0 HC1 HD
          go_wp2_with fail
          go_roundw
          case rel => exact ⟨j + 1, by omega, by go_num, HROW2, HR32, HBR2⟩
          case measure => simp [intOf]; omega
      · have d4 : decide ((j : Int) < 4) = false := decide_eq_false (by omega)
        go_wp2_with fail
        go_ret
        exact ⟨rfl, HBR.out⟩
set_option maxRecDepth 100000 in
set_option maxHeartbeats 4000000 in
theorem big (x : Int) (A : Option Addr) (n c : Nat) (z : Int) (w : World) (hT : Hid (Tabs w)) (a1 : n ≤ 140737488351232) (h : 1000 < n) :
    Calls Tryd.prog 8 #[.int .i64 x, .slice A n c, .int .i64 z] w fun e w' => e = .returned (.bool true) ∧ Below w.heap.size w w' := by
  have q2 : decide ((1000 : Int) < (n : Int)) = true := decide_eq_true (by omega)
  have q4 : decide (1000 < n) = true := decide_eq_true (by omega)
  clear h
  go_enter Tryd.func8, Tryd.ntmps8
  go_wp2_with fail
  refine (sane_any _ hT).mono ?_
  rintro e w1 ⟨rfl, hq⟩
  have HB1 := Lib.hid (hq)
  clear hq
  go_wp2_with fail
  go_ret
  exact ⟨rfl, HB1.out⟩
theorem walk (w : World) (hT : Tabs w) (x : Int) (h1 : -9223372036854775808 ≤ x) (h2 : x ≤ 9223372036854775807) (A : Option Addr) (n c : Nat) (l : List Nat) (hl : In w A n c l) (a3 : n ≤ 140737488351232) (z : Int) (hz1 : -9223372036854775808 ≤ z) (hz2 : z ≤ 9223372036854775807) :
    Calls Tryd.prog 8 #[.int .i64 x, .slice A n c, .int .i64 z] w fun e w' => e = .returned (.bool true) ∧ Below w.heap.size w w' := by
  by_cases h : 1000 < n
  · exact big x A n c z w (Lib.hid hT) a3 h
  · exact go x A n c l z w h1 h2 hz1 hz2 (by omega) (Lib.hid hT) (Lib.hid hl)
set_option maxRecDepth 100000 in
theorem lifted (os : Os) (started : os.Started) (H : Type) (enc : TypeId × Value → H) :
    ReturnsInHanded {} Tryd.checked os 8 .any (fun w args => (Rows.signOnlySpec.pre enc Tryd.prog Tryd.f8 [] false w args ∧ laidMetH Tryd.prog laidL w) ∧ sizedMet enc Tryd.prog Tryd.f8 (OpenSpec.ofChange Rows.signOnlySpec) false w args)
      (Rows.signOnlySpec.post enc Tryd.prog Tryd.f8 false true false false) := by
  refine returnsInHanded_of_change_and (C := Tryd.checked) (X := fun w _ => laidMetH Tryd.prog laidL w) (fun _ _ _ hh h => h.of_heap hh) own started (by kernel_rfl) Tryd.func8
    (ChangeSpec.witness_shaped (enc := enc) (C := Tryd.checked) (os := os) (X := fun w _ => laidMetH Tryd.prog laidL w) false (World.doorLaid Tryd.prog 400 os) #[.int .i64 0, .slice none 0 0, .int .i64 0] 8 rfl (World.shaped_of_RefB (by kernel_rfl) (by kernel_rfl)) (by kernel_rfl) (by kernel_rfl) (by kernel_rfl) (door_met os _)) ?_
  intro W base args ds gs before hval0 hW _ hsz0 hL _
  have hval : ∀ (j : Nat) t v, Tryd.f8.params[j]? = some t → args[j]? = some v → Value.okWide Tryd.prog W .any base t v := hval0
  have hW' := hW
  obtain ⟨p, q, hA0, hV, rfl, hfz, hnd⟩ := hW
  have hA : DataW.TrodAll enc Tryd.prog W 0 (fun _ => true) true Tryd.f8.params.toList args.toList ds p := hA0
  have hsz : (DataW.weightsEach Tryd.prog (Tryd.f8.params.toList ++ Rows.signOnlySpec.plain.varTypes Tryd.prog) (ds ++ gs)).all (· ≤ reachBytes) = true := hsz0
  rw [Tryd.params8] at hA hval hsz
  obtain ⟨v0, vs0, d0, ds0, p0, q0, hargs, rfl, rfl, h0, r0⟩ := trodAll_cons hA
  obtain ⟨v1, vs1, d1, ds1, p1, q1, rfl, rfl, rfl, h1, r1⟩ := trodAll_cons r0
  obtain ⟨v2, vs2, d2, ds2, p2, q2, rfl, rfl, rfl, h2, r2⟩ := trodAll_cons r1
  obtain ⟨rfl, rfl, rfl⟩ := trodAll_nil r2
  obtain rfl : args = #[v0, v1, v2] := by cases args; simp_all
  obtain ⟨rfl, rfl⟩ := trodVars_none hV
  obtain ⟨a0, rfl, rfl, rfl, w0⟩ := open_int Tryd.underlying3 (hval 0 3 v0 rfl rfl) h0
  have b0 := bounds_i64 w0
  obtain ⟨A1, n1, c1, l1, rfl, e1, f1, g1, y1, x1, z1⟩ := arg_bytes (hval 1 22 v1 rfl rfl) h1
  have b1 : n1 ≤ 140737488351232 := by
    rcases z1 with ⟨rfl, hz⟩ | ⟨es, sp, rfl, hz⟩
    · omega
    · have := sized_slice hsz (j := 1) rfl rfl Tryd.underlying22; rw [bytes8] at this; simp only [reachBytes] at this; omega
  obtain ⟨a2, rfl, rfl, rfl, w2⟩ := open_int Tryd.underlying3 (hval 2 3 v2 rfl rfl) h2
  have b2 := bounds_i64 w2
  refine (walk W (tabs_of hL) a0 b0.1 b0.2 A1 n1 c1 l1 ⟨e1, f1, g1, y1, x1⟩ b1 a2 b2.1 b2.2).mono fun e W' ⟨he, hg⟩ => ?_
  subst he
  exact ⟨_, rfl, law_post (by kernel_rfl) rfl rfl (fun _ => ⟨rfl, rfl, rfl⟩) hW' hg⟩
theorem over : Rows.signOnlyRow.holds Tryd.pinned (OpenSpec.ofChange Rows.signOnlySpec) :=
  OpenClaim.holds_of_wide 8 Tryd.f8 rfl rfl rfl rfl rfl rfl rfl ⟨rfl, rfl, rfl, rfl, rfl⟩ rfl rfl rfl rfl rfl (by kernel_rfl) Tryd.func8 (by kernel_rfl)
    (of_decide_eq_true (by kernel_rfl)) (by unfold Func.isWrapper; first | (rw [if_pos (by decide +kernel)]; kernel_rfl) | (rw [if_neg (by decide +kernel)]; exact ⟨rfl, rfl⟩))
    (fun os started H enc _ => lifted os started H enc)
/-- THE STATEMENT: the card -/
theorem proved : Rows.SignOnlyCardSaid :=
  Claim7.holds_tied_plain_at .later [] [.data, .data] true Rows.signOnlyCard.stood.harness false
    over (fun _ h => by cases h) (by kernel_rfl) (fun _ h => by cases h) signOnly_row_tie rfl ⟨rfl, rfl⟩ (by kernel_rfl) rfl
    (fun f fn hf hfn => by
      obtain rfl : f = 8 := Option.some.inj ((show Tryd.prog.funcNamed "sizar/sizarlaw04.SignOnly" = some 8 by kernel_rfl).symm.trans hf) |>.symm
      obtain rfl : fn = Tryd.f8 := (Option.some.inj (Tryd.func8.symm.trans hfn)).symm
      exact ⟨by kernel_rfl, fun j t ht => stands_of (show Tryd.f8.params.all (fun t => !Tryd.prog.wantsStandIn t) = true by kernel_rfl) ht⟩)
    (by kernel_rfl)
#print axioms proved
end Go.Proofs.YtcgpanjagkblmaaDoor.signOnly
