/- The reference of layer 4: Bytes, Public, Challenge, Private, Sign, Verify say the same plain functions. -/
import Derived.Test.YtcgpanjagkblmaaDoorPrivate
import Derived.Test.YtcgpanjagkblmaaDoorRef03
import Derived.Test.YtcgpanjagkblmaaDoorRef03t
namespace Go.Proofs.YtcgpanjagkblmaaDoor
open Go.RowKit SzSha SzGrp SzPow SzRef
set_option linter.unusedVariables false
set_option maxRecDepth 100000 in
theorem rbase4_any (k : Int) (w : World) :
    Calls Tryd.prog 34 #[.int .i64 k] w fun e w' => e = .returned (.tuple #[.int .i64 (expV 4 k), .int .i64 (expE 4 k)]) ∧ w = w' := by
  go_enter Tryd.func34, Tryd.ntmps34
  go_wp2_with fail
  refine (rexp_any 4 k _ (by omega) (by omega)).mono ?_
  rintro e w1 ⟨rfl, rfl⟩
  go_wp2_with fail
  go_ret2
  exact ⟨rfl, rfl⟩
set_option maxHeartbeats 2000000 in
set_option maxRecDepth 100000 in
theorem rbytes_any (z : Int) (w : World) : Calls Tryd.prog 38 #[.int .i64 z] w fun e w' => ∃ v, e = .returned v ∧ OwnB w' w.heap.size v (nb z) ∧ Below w.heap.size w w' := by
  have HO0 := Lib.hid (OwnB.empty w w.heap.size (Nat.le_refl _))
  have HB0 := Lib.hid ((Below.refl _ w).alloc (Nat.le_refl _) (.cells #[] 5))
  go_enter Tryd.func38, Tryd.ntmps38
  go_wp2_with fail
  go_loopw [3, 4] (fun v i wr => ∃ j : Nat, j ≤ 8 ∧ i = .int .i64 (7 - (j : Int)) ∧ Hid (OwnB wr w.heap.size v ((nb z).take j)) ∧ Hid (Below w.heap.size w wr)) (fun _ i _ => (intOf i + 1).toNat)
  case atStart => exact ⟨0, by omega, rfl, HO0, HB0⟩
  case round =>
    clear HO0 HB0
    obtain ⟨j, hj, rfl, hO, hB⟩ := hrel
    by_cases hl8 : j < 8
    · obtain ⟨i, hi⟩ : ∃ i : Nat, (7 : Int) - (j : Int) = (i : Int) := ⟨7 - j, by omega⟩
      have HI := Lib.hid hi
      rw [hi]
      have hi7 : i ≤ 7 := by omega
      obtain ⟨sh, hsh, hsn⟩ : ∃ sh : Nat, 8 * (i : Int) = (sh : Int) ∧ sh = 56 - 8 * j := ⟨8 * i, by omega, by omega⟩
      have hs56 : sh ≤ 56 := by omega
      have uw := u64_wrap z
      have ul := u64_lt z
      obtain ⟨u, HU⟩ : ∃ u, Hid (u64 z = u) := ⟨_, Lib.hid rfl⟩
      rw [HU.out] at uw ul
      obtain ⟨x, HX⟩ : ∃ x : Nat, Hid (u / 256 ^ (7 - j) % 256 = x) := ⟨_, Lib.hid rfl⟩
      have hx : (u : Int) / 2 ^ sh % 256 = (x : Int) := by rw [hsn, byte_of u j hl8, HX.out]
      have hw : IntKind.i64.wrap (8 * (i : Int)) = (sh : Int) := by rw [hsh, IntWalk.i64_in _ (by omega)]
      have hlen : ((nb z).take j).length + 1 ≤ 1099511627776 := by rw [List.length_take]; omega
      have HB1 := Lib.hid (hB.out.alloc hB.out.size (.cells #[.int .u8 (x : Nat)] 5))
      have HO1 : Hid (OwnB (wr.alloc (.cells #[.int .u8 (x : Nat)] 5)) w.heap.size _ ((nb z).take j)) := Lib.hid (hO.out.below ((Below.refl _ _).alloc (Nat.le_refl _) _))
      clear hi hsn hsh
      go_wp2_with (at_builtin; refine wpList_append_bytes rfl (.tmp 10) (.tmp 17) rfl w.heap.size _ _ [x] rfl HO1 (some ⟨wr.heap.size, 0, none⟩) 1 1 rfl (Lib.hid rfl) (fun h => by cases h) (Lib.hid (one_row wr x)) hlen HB1.out.size ?_; intro v2 w2 HO2 HB2)
      go_roundw
      case rel =>
        refine ⟨j + 1, by omega, by have := HI.out; go_num, Lib.hid ?_, Lib.hid (HB1.out.trans HB2.out)⟩
        rw [nb_take z j hl8, HU.out, HX.out]; exact HO2.out
      case measure => have := HI.out; simp [intOf]
    · have hO8 : Hid (OwnB wr w.heap.size _ (nb z)) := Lib.hid (by
        have := hO.out
        rw [List.take_of_length_le (by rw [nb_length]; omega)] at this
        exact this)
      have hj8 : (7 : Int) - (j : Int) = -1 := by omega
      rw [hj8]
      go_wp2_with fail
      go_ret
      exact ⟨_, rfl, hO8.out, hB.out⟩
set_option maxHeartbeats 2000000 in
set_option maxRecDepth 100000 in
theorem rchal_any (p r : Int) (A : Option Addr) (n c : Nat) (l : List Nat) (w : World) (hn : n ≤ 2147000000) (h : Hid (In w A n c l)) :
    Calls Tryd.prog 40 #[.int .i64 p, .int .i64 r, .slice A n c] w fun e w' => e = .returned (.int .i64 (chal p r l)) ∧ Below w.heap.size w w' := by
  go_enter Tryd.func40, Tryd.ntmps40
  go_wp2_with fail
  refine (rbytes_any r _).mono ?_
  rintro e w1 ⟨v1, rfl, ho1, hb1⟩
  have HO1 := Lib.hid ho1
  have HB1 := Lib.hid hb1
  clear ho1 hb1
  go_wp2_with fail
  refine (rbytes_any p _).mono ?_
  rintro e w2 ⟨v2, rfl, ho2, hb2⟩
  obtain ⟨A2, n2, c2, rfl, hn2, hc2, hA2, HR2⟩ := ho2.slice
  have HO1' := Lib.hid (HO1.out.below hb2)
  have HB2 := Lib.hid (HB1.out.trans (hb2.mono HB1.out.size))
  have hn28 : n2 = 8 := by rw [← hn2.out, nb_length]
  have HL1 : Hid ((nb r).length + n2 ≤ 1099511627776) := Lib.hid (by rw [nb_length]; omega)
  have HL2 : Hid ((nb r ++ nb p).length + n ≤ 1099511627776) := Lib.hid (by rw [List.length_append, nb_length, nb_length]; omega)
  have HR3 : Hid (∀ W, Below w.heap.size w2 W → Rd W W.heap.size A l) := Lib.hid fun W hW => by
    have hh := HB2.out.trans hW
    exact (h.out.rd.below hh (Nat.le_refl _)).mono hh.size
  have HLN := Lib.hid h.out.len
  have HNN := Lib.hid h.out.none_
  clear ho2 hb2 hn28
  go_wp2_with (first
    | (at_builtin; refine wpList_append_bytes rfl (.tmp 8) (.tmp 10) rfl w.heap.size _ (nb r) (nb p) rfl HO1' A2 n2 c2 rfl hn2 hA2.out HR2 HL1.out HB2.out.size ?_; intro v3 w3 HO3 HB3)
    | (at_builtin; refine wpList_append_bytes rfl (.tmp 11) (.tmp 12) rfl w.heap.size _ (nb r ++ nb p) l rfl HO3 A n c rfl HLN HNN.out (Lib.hid (HR3.out _ HB3.out)) HL2.out (Nat.le_trans HB2.out.size HB3.out.size) ?_; intro v4 w4 HO4 HB4))
  obtain ⟨A6, n6, c6, rfl, hn6, hc6, hA6, HR6⟩ := HO4.out.slice
  have HB5 := Lib.hid ((HB2.out.trans HB3.out).trans HB4.out)
  refine (rscal_any signT A6 n6 c6 (nb r ++ nb p ++ l) _ (by decide) hn6 hc6 hA6.out (by rw [← hn6.out, List.length_append, List.length_append, nb_length, nb_length, h.out.len]; omega) (Lib.hid (fun x hx => by
        rcases List.mem_append.1 hx with h' | h'
        · rcases List.mem_append.1 h' with h' | h'
          · exact nb_bytes _ x h'
          · exact nb_bytes _ x h'
        · exact h.out.bytes x h')) HR6).mono ?_
  rintro e w5 ⟨rfl, hb5⟩
  have HB6 := Lib.hid (HB5.out.trans (hb5.mono HB5.out.size))
  have HE : Hid (((scalN (strL signT) (nb r ++ nb p ++ l) : Nat) : Int) = chal p r l) := Lib.hid (by unfold chal; simp [nbs])
  rw [HE.out]
  clear hb5
  go_wp2_with fail
  go_ret
  exact ⟨rfl, HB6.out⟩
set_option maxRecDepth 100000 in
theorem isPriv_any (x : Int) (w : World) : Calls Tryd.prog 33 #[.int .i64 x] w fun e w' => e = .returned (.bool (isKey x)) ∧ w = w' := by
  by_cases c1 : 1 ≤ x
  · have d1 : decide (1 ≤ x) = true := decide_eq_true c1
    by_cases c2 : x < 2305843009213688669
    · have d2 : decide (x < 2305843009213688669) = true := decide_eq_true c2
      have R : Hid (isKey x = true) := Lib.hid (by simp only [isKey, d1, d2, Bool.and_self])
      go_enter Tryd.func33, Tryd.ntmps33
      go_wp2_with fail
      go_ret
      exact ⟨by rw [R.out]; rfl, rfl⟩
    · have d2 : decide (x < 2305843009213688669) = false := decide_eq_false c2
      have R : Hid (isKey x = false) := Lib.hid (by simp only [isKey, d1, d2, Bool.and_false])
      go_enter Tryd.func33, Tryd.ntmps33
      go_wp2_with fail
      go_ret
      exact ⟨by rw [R.out]; rfl, rfl⟩
  · have d1 : decide (1 ≤ x) = false := decide_eq_false c1
    have R : Hid (isKey x = false) := Lib.hid (by simp only [isKey, d1, Bool.false_and])
    go_enter Tryd.func33, Tryd.ntmps33
    go_wp2_with fail
    go_ret
    exact ⟨by rw [R.out]; rfl, rfl⟩
set_option maxRecDepth 100000 in
theorem rPublic_any (x : Int) (w : World) : Calls Tryd.prog 14 #[.int .i64 x] w fun e w' => e = .returned (.tuple #[.int .i64 (pubV x), .int .i64 (pubE x)]) ∧ w = w' := by
  by_cases c : isKey x = true
  · have C := Lib.hid c
    have R : Hid (pubV x = expV 4 x ∧ pubE x = expE 4 x) := Lib.hid ⟨by rw [pubV, if_pos c], by rw [pubE, if_pos c, expE_ok e4 (isKey_sc c)]⟩
    clear c
    go_enter Tryd.func14, Tryd.ntmps14
    go_wp2_with fail
    refine (isPriv_any x _).mono ?_
    rintro e w1 ⟨rfl, rfl⟩
    rw [C.out]
    go_wp2_with fail
    refine (rbase4_any x _).mono ?_
    rintro e w1 ⟨rfl, rfl⟩
    go_wp2_with fail
    go_ret2
    exact ⟨by rw [R.out.1, R.out.2]; rfl, rfl⟩
  · have c' : isKey x = false := by simpa using c
    have C := Lib.hid c'
    have R : Hid (pubV x = 0 ∧ pubE x = 40) := Lib.hid ⟨by rw [pubV, if_neg c], by rw [pubE, if_neg c]⟩
    clear c c'
    go_enter Tryd.func14, Tryd.ntmps14
    go_wp2_with fail
    refine (isPriv_any x _).mono ?_
    rintro e w1 ⟨rfl, rfl⟩
    rw [C.out]
    go_wp2_with fail
    go_ret2
    exact ⟨by rw [R.out.1, R.out.2]; rfl, rfl⟩
end Go.Proofs.YtcgpanjagkblmaaDoor
