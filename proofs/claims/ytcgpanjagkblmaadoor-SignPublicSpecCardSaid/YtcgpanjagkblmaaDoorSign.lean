/- sizar/sign.Sign. -/
import Derived.Test.YtcgpanjagkblmaaDoorSignKey
import Derived.Test.YtcgpanjagkblmaaDoorQuietTail
import Derived.Deep.RegionHeld3
namespace Go.Proofs.YtcgpanjagkblmaaDoor
open Go.RowKit SzSha SzGrp
set_option linter.unusedVariables false
def nonceT : ByteArray := ⟨#[110, 111, 110, 99, 101]⟩
def signT : ByteArray := ⟨#[115, 105, 103, 110]⟩
/-- the nonce -/
def sgK (x : Int) (l : List Nat) : Int := (scalN (strL nonceT) (nbs [x] ++ l) : Nat)
def sgR (x : Int) (l : List Nat) : Int := expV 4 (sgK x l)
/-- the challenge -/
def chal (p r : Int) (l : List Nat) : Int := (scalN (strL signT) (nbs [r, p] ++ l) : Nat)
def sgS (x : Int) (l : List Nat) : Int := sumV (sgK x l) (prodV (chal (expV 4 x) (sgR x l) l) x)
theorem sgK_bd (x : Int) (l : List Nat) : 1 ≤ sgK x l ∧ sgK x l < 2305843009213688669 := by have := scalN_bd (strL nonceT) (nbs [x] ++ l); unfold sgK; omega
theorem chal_bd (p r : Int) (l : List Nat) : 1 ≤ chal p r l ∧ chal p r l < 2305843009213688669 := by have := scalN_bd (strL signT) (nbs [r, p] ++ l); unfold chal; omega
theorem hash1 (tag : ByteArray) (z : Int) (A : Option Addr) (n c : Nat) (l : List Nat) (w : World) (htag : tag.size ≤ 4294967296) (hn : n ≤ 2147000000) (hT : Hid (Tabs w)) (h : Hid (In w A n c l)) :
    Calls Tryd.prog 35 #[.string tag, .slice A n c, .slice (some ⟨w.heap.size, 0, none⟩) 1 1] (w.alloc (.cells #[.int .i64 z] 3)) fun e w' => e = .returned (.int .i64 (scalN (strL tag) (nbs [z] ++ l) : Nat)) ∧ Below w.heap.size w w' := by
  have hb : Below w.heap.size w (w.alloc (.cells #[.int .i64 z] 3)) := (Below.refl _ _).alloc (Nat.le_refl _) _
  refine (hash_any tag [z] w.heap.size A n c l _ htag (by simp) (Lib.hid fun i hi => ?_) (by simp) hn (Lib.hid (hT.out.below hb)) (Lib.hid (h.out.below hb))).mono ?_
  · have : i = 0 := by simpa using hi
    subst this
    rw [cell_of_row _ _ _ _ _ _ (heap_alloc_new w _)]; rfl
  · rintro e w' ⟨rfl, hb'⟩
    exact ⟨rfl, hb.trans (hb'.mono hb.size)⟩
theorem hash2 (tag : ByteArray) (y z : Int) (A : Option Addr) (n c : Nat) (l : List Nat) (w : World) (htag : tag.size ≤ 4294967296) (hn : n ≤ 2147000000) (hT : Hid (Tabs w)) (h : Hid (In w A n c l)) :
    Calls Tryd.prog 35 #[.string tag, .slice A n c, .slice (some ⟨w.heap.size, 0, none⟩) 2 2] (w.alloc (.cells #[.int .i64 y, .int .i64 z] 3)) fun e w' => e = .returned (.int .i64 (scalN (strL tag) (nbs [y, z] ++ l) : Nat)) ∧ Below w.heap.size w w' := by
  have hb : Below w.heap.size w (w.alloc (.cells #[.int .i64 y, .int .i64 z] 3)) := (Below.refl _ _).alloc (Nat.le_refl _) _
  refine (hash_any tag [y, z] w.heap.size A n c l _ htag (by simp) (Lib.hid fun i hi => ?_) (by simp) hn (Lib.hid (hT.out.below hb)) (Lib.hid (h.out.below hb))).mono ?_
  · have : i = 0 ∨ i = 1 := by simp at hi; omega
    rcases this with rfl | rfl
    · rw [cell_of_row _ _ _ _ _ _ (heap_alloc_new w _)]; rfl
    · rw [cell_of_row _ _ _ _ _ _ (heap_alloc_new w _)]; rfl
  · rintro e w' ⟨rfl, hb'⟩
    exact ⟨rfl, hb.trans (hb'.mono hb.size)⟩
theorem keepS {W w w' : World} {p : Addr} {v : Value} (hc : W.cell? p = some v) (hb : Below w.heap.size w w') (hW : Below W.heap.size W w) : w'.cell? p = some v ∧ Below W.heap.size W w' := by
  have h := hW.trans (hb.mono hW.size)
  exact ⟨(h.cell (block_lt_of_cell hc)).trans hc, h⟩
theorem keepA {W w : World} {p : Addr} {v : Value} {o : Obj} (hc : W.cell? p = some v) (hW : Below W.heap.size W w) : (w.alloc o).cell? p = some v ∧ Below W.heap.size W (w.alloc o) := by
  have h := hW.alloc hW.size o
  exact ⟨(h.cell (block_lt_of_cell hc)).trans hc, h⟩
set_option maxHeartbeats 2000000 in
set_option maxRecDepth 100000 in
theorem Sign_ok (x : Int) (A : Option Addr) (n c : Nat) (l : List Nat) (w : World) (hx : isKey x = true) (hn : n ≤ 2147000000) (hT : Hid (Tabs w)) (h : Hid (In w A n c l)) :
    Calls Tryd.prog 15 #[.int .i64 x, .slice A n c] w fun e w' => e = .returned (.tuple #[.agg #[.int .i64 (sgR x l), .int .i64 (sgS x l)], .int .i64 0]) ∧ Below w.heap.size w w' := by
  have HX := Lib.hid hx
  have XB : Hid (-9223372036854775808 ≤ x ∧ x ≤ 9223372036854775807) := Lib.hid (by simp only [isKey, Bool.and_eq_true, decide_eq_true_eq] at hx; omega)
  clear hx
  obtain ⟨k, HK⟩ : ∃ k, Hid (sgK x l = k) := ⟨_, Lib.hid rfl⟩
  have KB : Hid (-9223372036854775808 ≤ k ∧ k ≤ 9223372036854775807) := Lib.hid (by have := sgK_bd x l; rw [HK.out] at this; omega)
  have HKS : Hid (sc k = true) := Lib.hid (by have := sgK_bd x l; rw [HK.out] at this; exact sc_mid (by omega) (by omega))
  obtain ⟨R, HR⟩ : ∃ R, Hid (sgR x l = R) := ⟨_, Lib.hid rfl⟩
  obtain ⟨y, HY⟩ : ∃ y, Hid (expV 4 x = y) := ⟨_, Lib.hid rfl⟩
  obtain ⟨q, HC⟩ : ∃ q, Hid (chal y R l = q) := ⟨_, Lib.hid rfl⟩
  have HB1 : Hid (Below w.heap.size w (w.alloc (.cells #[.int .i64 0, .int .i64 0] 30))) := Lib.hid ((Below.refl _ _).alloc (Nat.le_refl _) _)
  have HS1 : Hid ((w.alloc (.cells #[.int .i64 0, .int .i64 0] 30)).heap[w.heap.size]? = some (.cells #[.int .i64 0, .int .i64 0] 30 (0, 0))) := Lib.hid (heap_alloc_new w _)
  have HZ1 : Hid (w.heap.size < (w.alloc (.cells #[.int .i64 0, .int .i64 0] 30)).heap.size) := Lib.hid (by simp)
  go_enter Tryd.func15, Tryd.ntmps15
  go_wp2_with fail
  refine (valid_any x _).mono ?_
  rintro e w1 ⟨rfl, rfl⟩
  rw [HX.out]
  have hh := hash1 nonceT x A n c l (w.alloc (.cells #[.int .i64 0, .int .i64 0] 30)) (by decide) hn (Lib.hid (hT.out.below HB1.out)) (Lib.hid (h.out.below HB1.out))
  simp only [World.size_alloc] at hh
  have hh' := Lib.hid hh
  clear hh
  go_wp2_with fail
  refine hh'.out.mono ?_
  rintro e w2 ⟨rfl, hb2⟩
  clear hh'
  have e1 : ((scalN (strL nonceT) (nbs [x] ++ l) : Nat) : Int) = k := HK.out
  rw [e1]
  clear e1
  have HS2 := Lib.hid ((hb2.block w.heap.size (by simp)).trans HS1.out)
  have HB2 := Lib.hid (HB1.out.trans (hb2.mono (by simp)))
  clear hb2 HS1 HB1 HZ1
  go_wp2_with fail
  refine (base_any k _ KB.out.1 KB.out.2).mono ?_
  rintro e w3 ⟨rfl, hb3⟩
  have e1 : expV 4 k = R := by rw [← HR.out, ← HK.out]; rfl
  rw [e1, expE_ok e4 HKS.out]
  clear e1
  have hlt2 : w.heap.size < w2.heap.size := (Array.getElem?_eq_some_iff.1 HS2.out).1
  have HS3 := Lib.hid ((hb3.block w.heap.size hlt2).trans HS2.out)
  have HB3 := Lib.hid (HB2.out.trans (hb3.mono HB2.out.size))
  clear hb3 HS2 HB2
  have hc0 : w3.cell? ⟨w.heap.size, 0, none⟩ = some (.int .i64 0) := by rw [cell_of_row _ _ _ _ _ _ HS3.out]; rfl
  have hc1 : w3.cell? ⟨w.heap.size, 1, none⟩ = some (.int .i64 0) := by rw [cell_of_row _ _ _ _ _ _ HS3.out]; rfl
  have hf0 : w3.frozen? ⟨w.heap.size, 0, none⟩ = false := by simp [World.frozen?, HS3.out]
  go_wp2_with fail
  have HS4 : Hid ((w3.setCell ⟨w.heap.size, 0, none⟩ (.int .i64 R)).heap[w.heap.size]? = some (.cells #[.int .i64 R, .int .i64 0] 30 (0, 0))) := Lib.hid (by
    simp only [World.setCell, Array.getElem?_modify, if_true, HS3.out]; rfl)
  have HB4 := Lib.hid (HB3.out.setCell (p := ⟨w.heap.size, 0, none⟩) (Nat.le_refl _) (.int .i64 R))
  clear HB3 HS3 hc0 hc1 hf0 hlt2
  generalize w3.setCell ⟨w.heap.size, 0, none⟩ (.int .i64 R) = w4 at *
  have hc0 : w4.cell? ⟨w.heap.size, 0, none⟩ = some (.int .i64 R) := by rw [cell_of_row _ _ _ _ _ _ HS4.out]; rfl
  have HBd : Below w4.heap.size w4 w4.drew := (Below.refl _ _).drew
  have hh : ∀ W, Below w4.heap.size w4 W → Calls Tryd.prog 35 #[.string signT, .slice A n c, .slice (some ⟨W.heap.size, 0, none⟩) 2 2] (W.alloc (.cells #[.int .i64 R, .int .i64 y] 3)) fun e w' => e = .returned (.int .i64 q) ∧ Below W.heap.size W w' := fun W hW => by
    have hw := HB4.out.trans (hW.mono HB4.out.size)
    refine (hash2 signT R y A n c l W (by decide) hn (Lib.hid (hT.out.below hw)) (Lib.hid (h.out.below hw))).mono ?_
    rintro e w' ⟨rfl, hb⟩
    exact ⟨by rw [← HC.out]; rfl, hb⟩
  have HH := Lib.hid hh
  clear hh
  have hpe : Hid (sumE q x = 0) := Lib.hid (by rw [← HC.out]; exact sumE_ok (sc_mid (by have := chal_bd y R l; omega) (by have := chal_bd y R l; omega)) (isKey_sc HX.out))
  obtain ⟨m, HM⟩ : ∃ m, Hid (prodV q x = m) := ⟨_, Lib.hid rfl⟩
  go_region_held3 (fun w' => w'.cell? ⟨w.heap.size, 0, none⟩ = some (.int .i64 R) ∧ Below w4.heap.size w4 w') (first | exact keepS hc0 hb7 HP6.out | exact keepS hc0 hb6 HP.out | exact keepA hc0 HP.out | exact keepS hc0 hb5 HBd | exact ⟨hc0, HBd⟩)
    (first
      | (go_at_call 32; refine (public_any x _ XB.out.1 XB.out.2).mono ?_; rintro e w5 ⟨rfl, hb5⟩; rw [HY.out]; have HP := Lib.hid (HBd.trans (hb5.mono HBd.size)))
      | (go_at_call 35; refine (HH.out _ HP.out).mono ?_; rintro e w6 ⟨rfl, hb6⟩; have HP6 := Lib.hid (HP.out.trans (hb6.mono HP.out.size)))
      | (go_at_call 26; refine (product_any q x _).mono ?_; rintro e w7 ⟨rfl, hb7⟩; rw [hpe.out, HM.out]))
  have hb8 := HP6.out.trans (hb7.mono HP6.out.size)
  have hlt4 : w.heap.size < w4.heap.size := (Array.getElem?_eq_some_iff.1 HS4.out).1
  have HS7 := Lib.hid ((hb8.block w.heap.size hlt4).trans HS4.out)
  have HB7 := Lib.hid (HB4.out.trans (hb8.mono HB4.out.size))
  have hse : Hid (sumE k m = 0) := Lib.hid (by rw [← HM.out]; exact sumE_ok HKS.out (sc_prod (by rw [← HC.out]; exact sc_mid (by have := chal_bd y R l; omega) (by have := chal_bd y R l; omega)) (isKey_sc HX.out)))
  have HSV : Hid (sgS x l = sumV k m) := Lib.hid (by rw [← HM.out, ← HC.out, ← HY.out, ← HR.out, ← HK.out]; rfl)
  obtain ⟨S, HSS⟩ : ∃ S, Hid (sumV k m = S) := ⟨_, Lib.hid rfl⟩
  clear hb8 hb7 HP6 hb6 HP hb5 HBd hc0 HS4 HB4 HH hlt4
  rename_i hHeld
  clear hHeld
  go_wp2_with fail
  refine (sum_any k m _).mono ?_
  rintro e w8 ⟨rfl, hb8⟩
  rw [hse.out, HSS.out]
  have hlt7 : w.heap.size < w7.heap.size := (Array.getElem?_eq_some_iff.1 HS7.out).1
  have HS8 := Lib.hid ((hb8.block w.heap.size hlt7).trans HS7.out)
  have HB8 := Lib.hid (HB7.out.trans (hb8.mono HB7.out.size))
  clear hb8 HS7 HB7 hlt7
  have hc0 : w8.cell? ⟨w.heap.size, 0, none⟩ = some (.int .i64 R) := by rw [cell_of_row _ _ _ _ _ _ HS8.out]; rfl
  have hc1 : w8.cell? ⟨w.heap.size, 1, none⟩ = some (.int .i64 0) := by rw [cell_of_row _ _ _ _ _ _ HS8.out]; rfl
  have hf1 : w8.frozen? ⟨w.heap.size, 1, none⟩ = false := by simp [World.frozen?, HS8.out]
  have hf0 : w8.frozen? ⟨w.heap.size, 0, none⟩ = false := by simp [World.frozen?, HS8.out]
  go_wp2_with fail
  have HB9 := Lib.hid (((HB8.out.setCell (p := ⟨w.heap.size, 1, none⟩) (Nat.le_refl _) (.int .i64 S)).setCell (p := ⟨w.heap.size, 0, none⟩) (Nat.le_refl _) (.int .i64 R)).setCell (p := ⟨w.heap.size, 1, none⟩) (Nat.le_refl _) (.int .i64 S))
  have HS9 : Hid ((((w8.setCell ⟨w.heap.size, 1, none⟩ (.int .i64 S)).setCell ⟨w.heap.size, 0, none⟩ (.int .i64 R)).setCell ⟨w.heap.size, 1, none⟩ (.int .i64 S)).heap[w.heap.size]? = some (.cells #[.int .i64 R, .int .i64 S] 30 (0, 0))) := Lib.hid (by
    simp only [World.setCell, Array.getElem?_modify, if_true, HS8.out]; rfl)
  generalize ((w8.setCell ⟨w.heap.size, 1, none⟩ (.int .i64 S)).setCell ⟨w.heap.size, 0, none⟩ (.int .i64 R)).setCell ⟨w.heap.size, 1, none⟩ (.int .i64 S) = w9 at *
  have d0 : w9.cell? ⟨w.heap.size, 0, none⟩ = some (.int .i64 R) := by rw [cell_of_row _ _ _ _ _ _ HS9.out]; rfl
  have d1 : w9.cell? ⟨w.heap.size, 1, none⟩ = some (.int .i64 S) := by rw [cell_of_row _ _ _ _ _ _ HS9.out]; rfl
  refine bodyPost_ret (v := .tuple #[.agg #[.int .i64 R, .int .i64 S], .int .i64 0]) ?_ rfl ⟨by rw [HR.out, HSV.out, HSS.out], HB9.out⟩
  simp [results, Tryd.results15, go_sem, d0, d1]
set_option maxRecDepth 100000 in
theorem Sign_bad (x : Int) (v : Value) (w : World) (hx : isKey x = false) :
    Calls Tryd.prog 15 #[.int .i64 x, v] w fun e w' => e = .returned (.tuple #[.agg #[.int .i64 0, .int .i64 0], .int .i64 40]) ∧ Below w.heap.size w w' := by
  have HX := Lib.hid hx
  clear hx
  have HB1 : Hid (Below w.heap.size w (w.alloc (.cells #[.int .i64 0, .int .i64 0] 30))) := Lib.hid ((Below.refl _ _).alloc (Nat.le_refl _) _)
  go_enter Tryd.func15, Tryd.ntmps15
  go_wp2_with fail
  refine (valid_any x _).mono ?_
  rintro e w1 ⟨rfl, rfl⟩
  rw [HX.out]
  go_wp2_with fail
  have d0 : (w.alloc (.cells #[.int .i64 0, .int .i64 0] 30)).cell? ⟨w.heap.size, 0, none⟩ = some (.int .i64 0) := by rw [cell_of_row _ _ _ _ _ _ (heap_alloc_new w _)]; rfl
  have d1 : (w.alloc (.cells #[.int .i64 0, .int .i64 0] 30)).cell? ⟨w.heap.size, 1, none⟩ = some (.int .i64 0) := by rw [cell_of_row _ _ _ _ _ _ (heap_alloc_new w _)]; rfl
  refine bodyPost_ret (v := .tuple #[.agg #[.int .i64 0, .int .i64 0], .int .i64 40]) ?_ rfl ⟨rfl, HB1.out⟩
  simp [results, Tryd.results15, go_sem, d0, d1]
end Go.Proofs.YtcgpanjagkblmaaDoor
