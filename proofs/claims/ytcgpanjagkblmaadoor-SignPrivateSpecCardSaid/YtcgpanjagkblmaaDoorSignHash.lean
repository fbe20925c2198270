/- sizar/sign.hash: the scalar of numbers and a message under a tag. -/
import Derived.Test.YtcgpanjagkblmaaDoorScalar
import Derived.Test.YtcgpanjagkblmaaDoorLawKit
namespace Go.Proofs.YtcgpanjagkblmaaDoor
open Go.RowKit SzSha
set_option linter.unusedVariables false
/-- the number of 64 bits that an integer is -/
def u64 (z : Int) : Nat := (z % 18446744073709551616).toNat
theorem u64_lt (z : Int) : u64 z < 18446744073709551616 := by unfold u64; omega
/-- the eight bytes of a number -/
def nb (z : Int) : List Nat := be (u64 z) 8
def nbs : List Int → List Nat
  | [] => []
  | z :: l => nb z ++ nbs l
theorem nb_length (z : Int) : (nb z).length = 8 := be_length _ _
theorem nb_bytes (z : Int) : Bytes (nb z) := be_bytes _ _
theorem nbs_length : ∀ l : List Int, (nbs l).length = 8 * l.length
  | [] => rfl
  | z :: l => by rw [nbs, List.length_append, nb_length, nbs_length l, List.length_cons]; omega
theorem nbs_bytes : ∀ l : List Int, Bytes (nbs l)
  | [] => fun x hx => by cases hx
  | z :: l => fun x hx => by
    rcases List.mem_append.1 hx with h | h
    · exact nb_bytes z x h
    · exact nbs_bytes l x h
theorem nbs_snoc : ∀ (l : List Int) (z : Int), nbs (l ++ [z]) = nbs l ++ nb z
  | [], z => by simp [nbs]
  | y :: l, z => by rw [List.cons_append, nbs, nbs_snoc l z, nbs, List.append_assoc]
theorem nb_take (z : Int) (j : Nat) (h : j < 8) : (nb z).take (j + 1) = (nb z).take j ++ [u64 z / 256 ^ (7 - j) % 256] := by
  rw [List.take_succ_eq_append_getElem (by rw [nb_length]; exact h)]
  congr 2
  simp [nb, be]
theorem u64_wrap (z : Int) : IntKind.u64.wrap z = (u64 z : Nat) := by rw [IntKind.wrap_u64]; unfold u64; omega
theorem byte_of (n j : Nat) (h : j < 8) : ((n : Nat) : Int) / 2 ^ (56 - 8 * j) % 256 = ((n / 256 ^ (7 - j) % 256 : Nat) : Int) := by
  show ((n / 2 ^ (56 - 8 * j) % 256 : Nat) : Int) = _
  rw [show 56 - 8 * j = 8 * (7 - j) by omega, Nat.pow_mul]
theorem one_row (W : World) (x : Nat) : Rd (W.alloc (.cells #[.int .u8 (x : Nat)] 5)) (W.alloc (.cells #[.int .u8 (x : Nat)] 5)).heap.size (some ⟨W.heap.size, 0, none⟩) [x] := fun _ =>
  ⟨_, 0, rfl, by simp, fun i hi => by
    have : i = 0 := by simpa using hi
    subst this
    rw [Nat.add_zero, cell_of_row _ _ _ _ _ _ (heap_alloc_new W _)]; rfl⟩
set_option maxHeartbeats 2000000 in
set_option maxRecDepth 100000 in
theorem hash_any (tag : ByteArray) (zs : List Int) (g : Nat) (A : Option Addr) (n c : Nat) (l : List Nat) (w : World) (htag : tag.size ≤ 4294967296) (hz : zs.length ≤ 1000) (hzc : Hid (∀ i, i < zs.length → w.cell? ⟨g, i, none⟩ = some (.int .i64 (zs.getD i 0)))) (hg : g < w.heap.size) (hn : n ≤ 2147000000) (hT : Hid (Tabs w)) (h : Hid (In w A n c l)) :
    Calls Tryd.prog 35 #[.string tag, .slice A n c, .slice (some ⟨g, 0, none⟩) zs.length zs.length] w fun e w' => e = .returned (.int .i64 (scalN (strL tag) (nbs zs ++ l) : Nat)) ∧ Below w.heap.size w w' := by
  go_enter Tryd.func35, Tryd.ntmps35
  go_wp2_with fail
  go_loopw [7, 13] (fun v i wr => ∃ k : Nat, k ≤ zs.length ∧ i = .int .i64 k ∧ Hid (OwnB wr w.heap.size v (nbs (zs.take k))) ∧ Hid (Below w.heap.size w wr)) (fun _ i _ => zs.length - (intOf i).toNat)
  case atStart => exact ⟨0, by omega, rfl, Lib.hid (OwnB.nil _ _), Lib.hid (Below.refl _ _)⟩
  case round =>
    obtain ⟨k, hk, rfl, hO, hB⟩ := hrel
    by_cases hlt : k < zs.length
    · have hcell : wr.cell? ⟨g, k, none⟩ = some (.int .i64 (zs.getD k 0)) := (hB.out.cell (p := ⟨g, k, none⟩) hg).trans (hzc.out k hlt)
      obtain ⟨z, HZ⟩ : ∃ z, Hid (zs.getD k 0 = z) := ⟨_, Lib.hid rfl⟩
      rw [HZ.out] at hcell
      go_wp2_with fail
      obtain ⟨wo, hwo⟩ : ∃ wo : World, wo = wr := ⟨_, rfl⟩
      subst hwo
      go_loopw [7, 10] (fun v i wr => ∃ j : Nat, j ≤ 8 ∧ i = .int .i64 (56 - 8 * (j : Int)) ∧ Hid (OwnB wr w.heap.size v (nbs (zs.take k) ++ (nb z).take j)) ∧ Hid (Below w.heap.size w wr)) (fun _ i _ => (intOf i + 8).toNat)
      case atStart => exact ⟨0, by omega, rfl, Lib.hid (by rw [List.take_zero, List.append_nil]; exact hO.out), hB⟩
      case round =>
        clear hO hB hcell
        rename World => wr
        obtain ⟨j, hj, rfl, hO, hB⟩ := hrel
        by_cases hl8 : j < 8
        · obtain ⟨sh, hsh⟩ : ∃ sh : Nat, (56 : Int) - 8 * (j : Int) = (sh : Int) := ⟨56 - 8 * j, by omega⟩
          have HSH := Lib.hid hsh
          rw [hsh]
          have hs56 : sh ≤ 56 := by omega
          have hsn : sh = 56 - 8 * j := by omega
          have uw := u64_wrap z
          have ul := u64_lt z
          obtain ⟨u, HU⟩ : ∃ u, Hid (u64 z = u) := ⟨_, Lib.hid rfl⟩
          rw [HU.out] at uw ul
          obtain ⟨x, HX⟩ : ∃ x : Nat, Hid (u / 256 ^ (7 - j) % 256 = x) := ⟨_, Lib.hid rfl⟩
          have hx : (u : Int) / 2 ^ sh % 256 = (x : Int) := by rw [hsn, byte_of u j hl8, HX.out]
          have HSN := Lib.hid hsn
          have hlen : (nbs (zs.take k) ++ (nb z).take j).length + 1 ≤ 1099511627776 := by
            rw [List.length_append, nbs_length, List.length_take, List.length_take]; omega
          have hb1 : Below w.heap.size w (wr.alloc (.cells #[.int .u8 (x : Nat)] 5)) := hB.out.alloc hB.out.size _
          have HB1 := Lib.hid hb1
          have HO1 : Hid (OwnB (wr.alloc (.cells #[.int .u8 (x : Nat)] 5)) w.heap.size _ (nbs (zs.take k) ++ (nb z).take j)) := Lib.hid (hO.out.below ((Below.refl _ _).alloc (Nat.le_refl _) _))
          clear hsh hsn hb1
          go_wp2_with (at_builtin; refine wpList_append_bytes rfl (.tmp 21) (.tmp 27) rfl w.heap.size _ _ [x] rfl HO1 (some ⟨wr.heap.size, 0, none⟩) 1 1 rfl (Lib.hid rfl) (fun h => by cases h) (Lib.hid (one_row wr x)) hlen HB1.out.size ?_; intro v2 w2 HO2 HB2)
          go_roundw
          case rel =>
            refine ⟨j + 1, by omega, by have := HSH.out; go_num, Lib.hid ?_, Lib.hid (HB1.out.trans HB2.out)⟩
            rw [nb_take z j hl8, HU.out, HX.out, ← List.append_assoc]; exact HO2.out
          case measure => have := HSH.out; simp [intOf]; omega
        · have hO8 : Hid (OwnB wr w.heap.size _ (nbs (zs.take (k + 1)))) := Lib.hid (by
            have := hO.out
            have e8 : (nb z).take 8 = nb z := List.take_of_length_le (by rw [nb_length]; omega)
            rw [show j = 8 by omega, e8] at this
            rw [List.take_succ_eq_append_getElem hlt, nbs_snoc]
            have e : zs[k] = z := by rw [← HZ.out]; simp [List.getD_eq_getElem?_getD, hlt]
            rw [e]; exact this)
          have hj8 : (56 : Int) - 8 * (j : Int) = -8 := by omega
          rw [hj8]
          go_wp2_with fail
          go_roundw
          case rel => exact ⟨k + 1, by omega, by go_num, hO8, hB⟩
          case measure => simp [intOf]; omega
    · have hOk : Hid (OwnB wr w.heap.size _ (nbs zs)) := Lib.hid (by have := hO.out; rw [List.take_of_length_le (by omega)] at this; exact this)
      have hI := Lib.hid (h.out.below hB.out)
      have hlen : (nbs zs).length + n ≤ 1099511627776 := by rw [nbs_length]; omega
      go_wp2_with (at_builtin; refine wpList_append_bytes rfl (.tmp 31) (.tmp 32) rfl w.heap.size _ _ l rfl hOk A n c rfl (Lib.hid hI.out.len) hI.out.none_ (Lib.hid hI.out.rd) hlen hB.out.size ?_; intro v2 w2 HO2 HB2)
      obtain ⟨A6, n6, c6, rfl, hn6, hc6, hA6, HR6⟩ := HO2.out.slice
      refine (scalar_any tag A6 n6 c6 (nbs zs ++ l) _ htag hn6 hc6 hA6.out (by rw [← hn6.out, List.length_append, nbs_length, hI.out.len]; omega) (Lib.hid (fun x hx => by
        rcases List.mem_append.1 hx with h' | h'
        · exact nbs_bytes zs x h'
        · exact hI.out.bytes x h')) (Lib.hid (hT.out.below (hB.out.trans HB2.out))) HR6).mono ?_
      rintro e w3 ⟨rfl, hb3⟩
      have HB3 := Lib.hid ((hB.out.trans HB2.out).trans (hb3.mono (hB.out.trans HB2.out).size))
      clear hb3
      go_wp2_with fail
      go_ret
      exact ⟨rfl, HB3.out⟩
end Go.Proofs.YtcgpanjagkblmaaDoor
