/- The reference of layer 2: padded: the bytes with their end. -/
import Derived.Test.YtcgpanjagkblmaaDoorRefBlock
namespace Go.Proofs.YtcgpanjagkblmaaDoor
open Go.RowKit SzSha
set_option linter.unusedVariables false
theorem OwnB.empty (w : World) (base : Nat) (hb : base ≤ w.heap.size) : OwnB (w.alloc (.cells #[] 5)) base (.slice (some ⟨w.heap.size, 0, none⟩) 0 0) [] :=
  ⟨rfl, .inr ⟨w.heap.size, 0, #[], rfl, hb, heap_alloc_new w _, Nat.le_refl _, by simp, rfl, rfl⟩⟩
theorem one_rd (W : World) (x : Nat) : Rd (W.alloc (.cells #[.int .u8 (x : Nat)] 5)) (W.alloc (.cells #[.int .u8 (x : Nat)] 5)).heap.size (some ⟨W.heap.size, 0, none⟩) [x] := fun _ =>
  ⟨_, 0, rfl, by simp, fun i hi => by
    have : i = 0 := by simpa using hi
    subst this
    rw [Nat.add_zero, cell_of_row _ _ _ _ _ _ (heap_alloc_new W _)]; rfl⟩
theorem OwnB.alloc {w : World} {base : Nat} {v : Value} {l : List Nat} (h : OwnB w base v l) (o : Obj) : OwnB (w.alloc o) base v l := h.below ((Below.refl _ _).alloc (Nat.le_refl _) _)
theorem be_take (n j : Nat) (h : j < 8) : (be n 8).take (j + 1) = (be n 8).take j ++ [n / 256 ^ (7 - j) % 256] := by
  rw [List.take_succ_eq_append_getElem (by rw [be_length]; exact h)]
  congr 2
  simp [be]
theorem zeros_iff (n j : Nat) (h : j ≤ zeros n) : (n + 1 + j) % 64 = 56 ↔ j = zeros n := by unfold zeros at *; omega
theorem byte_be (n j : Nat) (h : j < 8) : ((n : Nat) : Int) / 2 ^ (8 * (7 - j)) % 256 = ((n / 256 ^ (7 - j) % 256 : Nat) : Int) := by
  show ((n / 2 ^ (8 * (7 - j)) % 256 : Nat) : Int) = _
  rw [Nat.pow_mul]
set_option maxHeartbeats 2000000 in
set_option maxRecDepth 100000 in
theorem padded_any (A : Option Addr) (n c : Nat) (l : List Nat) (w : World) (hn : Hid (l.length = n)) (hc : n ≤ c) (hA : A = none → c = 0) (hsz : n ≤ 4294967296) (hR : Hid (Rd w w.heap.size A l)) :
    Calls Tryd.prog 70 #[.slice A n c] w fun e w' => ∃ v, e = .returned v ∧ OwnB w' w.heap.size v (padded l) ∧ Below w.heap.size w w' := by
  have HA := Lib.hid hA
  clear hA
  have hb0 : Below w.heap.size w (w.alloc (.cells #[] 5)) := (Below.refl _ _).alloc (Nat.le_refl _) _
  have HB0 := Lib.hid hb0
  have HO0 := Lib.hid (OwnB.empty w w.heap.size (Nat.le_refl _))
  have HR0 : Hid (Rd (w.alloc (.cells #[] 5)) (w.alloc (.cells #[] 5)).heap.size A l) := Lib.hid ((hR.out.below hb0 (Nat.le_refl _)).mono (by simp))
  clear hb0
  obtain ⟨N8, H8, e8⟩ : ∃ N8 : Nat, Hid (N8 = 8 * n) ∧ (n : Int) * 8 = (N8 : Int) := ⟨8 * n, Lib.hid rfl, by omega⟩
  have hN8 : N8 ≤ 34359738368 := by have := H8.out; omega
  go_enter Tryd.func70, Tryd.ntmps70
  go_wp2_with (first
    | (at_builtin; refine wpList_append_bytes rfl (.tmp 6) (.tmp 7) rfl w.heap.size _ [] l rfl HO0 A n c rfl hn HA.out HR0 (by simp; omega) HB0.out.size ?_; intro v1 w1 HO1 HB1; have HB2 := Lib.hid (HB0.out.trans HB1.out); have HO2 := Lib.hid (HO1.out.alloc (.cells #[.int .u8 128] 5)); have HB3 := Lib.hid (HB2.out.alloc HB2.out.size (.cells #[.int .u8 128] 5)); have HR1 := Lib.hid (one_rd w1 128))
    | (at_builtin; refine wpList_append_bytes rfl (.tmp 8) (.tmp 9) rfl w.heap.size _ ([] ++ l) [128] rfl HO2 (some ⟨w1.heap.size, 0, none⟩) 1 1 rfl (Lib.hid rfl) (fun h => by cases h) HR1 (by simp [hn.out]; omega) HB3.out.size ?_; intro v2 w2 HO3 HB4))
  have HB5 := Lib.hid (HB3.out.trans HB4.out)
  have HO4 : Hid (OwnB w2 w.heap.size v2 (l ++ 128 :: List.replicate 0 0)) := Lib.hid (by have := HO3.out; simpa using this)
  clear HO0 HB0 HR0 HO1 HB1 HB2 HO2 HB3 HR1 HO3 HB4
  go_loopw [3] (fun v wr => ∃ j : Nat, j ≤ zeros n ∧ Hid (OwnB wr w.heap.size v (l ++ 128 :: List.replicate j 0)) ∧ Hid (Below w.heap.size w wr)) (fun v _ => n + 1 + zeros n - lenOf v)
  case atStart => exact ⟨0, by omega, HO4, HB5⟩
  case round =>
    clear HO4 HB5
    obtain ⟨j, hj, hO, hB⟩ := hrel
    obtain ⟨A1, m1, c1, rfl, hm1, hc1, hA1, HR1⟩ := hO.out.slice
    have hmj : m1 = n + 1 + j := by rw [← hm1.out]; simp [hn.out]; omega
    have hz63 : zeros n < 64 := Nat.mod_lt _ (by omega)
    have hmb : m1 ≤ 4294967400 := by omega
    by_cases he : j = zeros n
    · have t1 : (((m1 : Int) % 64) != 56) = false := by
        have := (zeros_iff n j hj).2 he
        simp only [bne_eq_false_iff_eq]; omega
      have HO5 : Hid (OwnB wr w.heap.size (.slice A1 m1 c1) ((l ++ 128 :: List.replicate (zeros n) 0) ++ (be N8 8).take 0)) := Lib.hid (by rw [List.take_zero, List.append_nil, ← he]; exact hO.out)
      have HMJ := Lib.hid hmj
      clear hmj he
      go_wp2_with fail
      go_loopw [3, 5] (fun v i wr => ∃ t : Nat, t ≤ 8 ∧ i = .int .i64 (7 - (t : Int)) ∧ Hid (OwnB wr w.heap.size v ((l ++ 128 :: List.replicate (zeros n) 0) ++ (be N8 8).take t)) ∧ Hid (Below w.heap.size w wr)) (fun _ i _ => (intOf i + 1).toNat)
      case atStart => exact ⟨0, by omega, rfl, HO5, hB⟩
      case round =>
        clear HO5 hB hO HR1
        rename World => wr
        obtain ⟨t, ht, rfl, hO, hB⟩ := hrel
        by_cases hl8 : t < 8
        · obtain ⟨sh, hsh⟩ : ∃ sh : Nat, (7 : Int) - (t : Int) = (sh : Int) := ⟨7 - t, by omega⟩
          have HSH := Lib.hid hsh
          rw [hsh]
          have hs7 : sh ≤ 7 := by omega
          have hsn : sh = 7 - t := by omega
          obtain ⟨x, HX⟩ : ∃ x : Nat, Hid (N8 / 256 ^ (7 - t) % 256 = x) := ⟨_, Lib.hid rfl⟩
          have hx : (N8 : Int) / 2 ^ (8 * sh) % 256 = (x : Int) := by rw [hsn, byte_be N8 t hl8, HX.out]
          have hlen : ((l ++ 128 :: List.replicate (zeros n) 0) ++ (be N8 8).take t).length + 1 ≤ 1099511627776 := by
            simp [hn.out, be_length]; omega
          have HB1 := Lib.hid (hB.out.alloc hB.out.size (.cells #[.int .u8 (x : Nat)] 5))
          have HO1 := Lib.hid (hO.out.alloc (.cells #[.int .u8 (x : Nat)] 5))
          clear hsh hsn
          go_wp2_with (at_builtin; refine wpList_append_bytes rfl (.tmp 26) (.tmp 32) rfl w.heap.size _ _ [x] rfl HO1 (some ⟨wr.heap.size, 0, none⟩) 1 1 rfl (Lib.hid rfl) (fun h => by cases h) (Lib.hid (one_rd wr x)) hlen HB1.out.size ?_; intro v2 w2 HO2 HB2)
          go_roundw
          case rel =>
            refine ⟨t + 1, by omega, by have := HSH.out; go_num, Lib.hid ?_, Lib.hid (HB1.out.trans HB2.out)⟩
            rw [be_take N8 t hl8, HX.out, ← List.append_assoc]; exact HO2.out
          case measure => have := HSH.out; simp [intOf]
        · have hO8 : Hid (OwnB wr w.heap.size _ (padded l)) := Lib.hid (by
            have := hO.out
            have e8 : (be N8 8).take 8 = be N8 8 := List.take_of_length_le (by rw [be_length]; omega)
            rw [show t = 8 by omega, e8, H8.out] at this
            unfold padded tail
            rw [hn.out]
            simpa using this)
          have ht8 : (7 : Int) - (t : Int) = -1 := by omega
          rw [ht8]
          go_wp2_with fail
          go_ret
          exact ⟨_, rfl, hO8.out, hB.out⟩
    · have t1 : (((m1 : Int) % 64) != 56) = true := by
        have : ¬ (n + 1 + j) % 64 = 56 := fun h => he ((zeros_iff n j hj).1 h)
        simp only [bne_iff_ne]; omega
      have HB1 := Lib.hid (hB.out.alloc hB.out.size (.cells #[.int .u8 0] 5))
      have HO1 := Lib.hid (hO.out.alloc (.cells #[.int .u8 0] 5))
      have hlen : (l ++ 128 :: List.replicate j 0).length + 1 ≤ 1099511627776 := by rw [hm1.out]; omega
      have HMJ := Lib.hid hmj
      have hm2 : m1 < n + 1 + zeros n := by omega
      clear hmj
      go_wp2_with (at_builtin; refine wpList_append_bytes rfl (.tmp 15) (.tmp 16) rfl w.heap.size _ _ [0] rfl HO1 (some ⟨wr.heap.size, 0, none⟩) 1 1 rfl (Lib.hid rfl) (fun h => by cases h) (Lib.hid (one_rd wr 0)) hlen HB1.out.size ?_; intro v2 w2 HO2 HB2)
      have HO3 : Hid (OwnB w2 w.heap.size v2 (l ++ 128 :: List.replicate (j + 1) 0)) := Lib.hid (by
        have := HO2.out
        rw [List.append_assoc, List.cons_append, ← List.replicate_succ'] at this
        exact this)
      have hlv : Hid (lenOf v2 = n + 1 + (j + 1)) := Lib.hid (by
        obtain ⟨A3, n3, c3, rfl, hn3, _⟩ := HO3.out.slice
        show n3 = _
        rw [← hn3.out]; simp [hn.out]; omega)
      go_roundw
      case rel => exact ⟨j + 1, by omega, HO3, Lib.hid (HB1.out.trans HB2.out)⟩
      case measure => show n + 1 + zeros n - lenOf v2 < n + 1 + zeros n - m1; rw [hlv.out]; have := HMJ.out; omega
end Go.Proofs.YtcgpanjagkblmaaDoor
