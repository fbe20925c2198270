/- The reference of layers 2 and 3: Tagged, Rest, Scalar are the same plain functions. -/
import Derived.Test.YtcgpanjagkblmaaDoorRefSum
import Derived.Test.YtcgpanjagkblmaaDoorRef03m
import Derived.Test.YtcgpanjagkblmaaDoorScalar
namespace Go.Proofs.YtcgpanjagkblmaaDoor
open Go.RowKit SzSha SzRef
set_option linter.unusedVariables false
set_option maxHeartbeats 2000000 in
set_option maxRecDepth 100000 in
theorem rtagged_any (tag : ByteArray) (A : Option Addr) (n c : Nat) (l : List Nat) (w : World) (htag : tag.size ≤ 4294967296) (hn : Hid (l.length = n)) (hc : n ≤ c) (hA : A = none → c = 0) (hsz : n ≤ 2147483648) (hb : Hid (Bytes l)) (hR : Hid (Rd w w.heap.size A l)) :
    Calls Tryd.prog 54 #[.string tag, .slice A n c] w fun e w' => e = .returned (dgV (tagged (strL tag) l)) ∧ Below w.heap.size w w' := by
  have HA := Lib.hid hA
  clear hA
  have hb0 : Below w.heap.size w (w.alloc (.cells #[.int .u8 0, .int .u8 0, .int .u8 0, .int .u8 0, .int .u8 0, .int .u8 0, .int .u8 0, .int .u8 0, .int .u8 0, .int .u8 0, .int .u8 0, .int .u8 0, .int .u8 0, .int .u8 0, .int .u8 0, .int .u8 0, .int .u8 0, .int .u8 0, .int .u8 0, .int .u8 0, .int .u8 0, .int .u8 0, .int .u8 0, .int .u8 0, .int .u8 0, .int .u8 0, .int .u8 0, .int .u8 0, .int .u8 0, .int .u8 0, .int .u8 0, .int .u8 0] 35)) := (Below.refl _ _).alloc (Nat.le_refl _) _
  obtain ⟨c0, W2, hconv, hc0, hbc, hlt2, hby⟩ := conv_bytes tag (w.alloc (.cells #[.int .u8 0, .int .u8 0, .int .u8 0, .int .u8 0, .int .u8 0, .int .u8 0, .int .u8 0, .int .u8 0, .int .u8 0, .int .u8 0, .int .u8 0, .int .u8 0, .int .u8 0, .int .u8 0, .int .u8 0, .int .u8 0, .int .u8 0, .int .u8 0, .int .u8 0, .int .u8 0, .int .u8 0, .int .u8 0, .int .u8 0, .int .u8 0, .int .u8 0, .int .u8 0, .int .u8 0, .int .u8 0, .int .u8 0, .int .u8 0, .int .u8 0, .int .u8 0] 35))
  have hbl0 : (w.alloc (.cells #[.int .u8 0, .int .u8 0, .int .u8 0, .int .u8 0, .int .u8 0, .int .u8 0, .int .u8 0, .int .u8 0, .int .u8 0, .int .u8 0, .int .u8 0, .int .u8 0, .int .u8 0, .int .u8 0, .int .u8 0, .int .u8 0, .int .u8 0, .int .u8 0, .int .u8 0, .int .u8 0, .int .u8 0, .int .u8 0, .int .u8 0, .int .u8 0, .int .u8 0, .int .u8 0, .int .u8 0, .int .u8 0, .int .u8 0, .int .u8 0, .int .u8 0, .int .u8 0] 35)).heap[w.heap.size]? = some (.cells #[.int .u8 0, .int .u8 0, .int .u8 0, .int .u8 0, .int .u8 0, .int .u8 0, .int .u8 0, .int .u8 0, .int .u8 0, .int .u8 0, .int .u8 0, .int .u8 0, .int .u8 0, .int .u8 0, .int .u8 0, .int .u8 0, .int .u8 0, .int .u8 0, .int .u8 0, .int .u8 0, .int .u8 0, .int .u8 0, .int .u8 0, .int .u8 0, .int .u8 0, .int .u8 0, .int .u8 0, .int .u8 0, .int .u8 0, .int .u8 0, .int .u8 0, .int .u8 0] 35 (0, 0)) := heap_alloc_new w _
  have hbl2 := Lib.hid ((hbc.block w.heap.size (by simp)).trans hbl0)
  have hb2 := Lib.hid (hb0.trans (hbc.mono (by simp)))
  simp only [World.size_alloc] at hconv hby hlt2
  have HBY := Lib.hid hby
  clear hb0 hbl0 hby hbc
  go_enter Tryd.func54, Tryd.ntmps54
  go_wp2_with fail
  refine (rsum2_any (some ⟨w.heap.size + 1, 0, none⟩) tag.size c0 (strL tag) _ (Lib.hid (strL_length tag)) hc0 (fun h => by cases h) htag (Lib.hid (strL_bytes tag)) (Lib.hid (fun _ => ⟨_, _, rfl, hlt2, HBY.out⟩))).mono ?_
  rintro e W3 ⟨rfl, hb3⟩
  have hbl3 := Lib.hid ((hb3.block w.heap.size (by omega)).trans hbl2.out)
  have HB3 := Lib.hid (hb2.out.trans (hb3.mono hb2.out.size))
  have hs3 : w.heap.size + 1 < W3.heap.size := Nat.lt_of_lt_of_le hlt2 hb3.size
  clear hb3 HBY hbl2 hb2 hconv
  have hold : ∀ m : List Nat, m.length = 32 → 32 = (m.map fun x => Value.int .u8 (x : Nat)).toArray.size := fun m h => by simp [h]
  have HOLD := Lib.hid hold
  clear hold
  have hq := laid_row W3 #[.int .u8 0, .int .u8 0, .int .u8 0, .int .u8 0, .int .u8 0, .int .u8 0, .int .u8 0, .int .u8 0, .int .u8 0, .int .u8 0, .int .u8 0, .int .u8 0, .int .u8 0, .int .u8 0, .int .u8 0, .int .u8 0, .int .u8 0, .int .u8 0, .int .u8 0, .int .u8 0, .int .u8 0, .int .u8 0, .int .u8 0, .int .u8 0, .int .u8 0, .int .u8 0, .int .u8 0, .int .u8 0, .int .u8 0, .int .u8 0, .int .u8 0, .int .u8 0] ((sha (strL tag)).map fun x => Value.int .u8 (x : Nat)).toArray 35
  have HQ := Lib.hid hq
  clear hq
  obtain ⟨W4, HW4⟩ : ∃ W4, Hid ((W3.alloc (.cells #[.int .u8 0, .int .u8 0, .int .u8 0, .int .u8 0, .int .u8 0, .int .u8 0, .int .u8 0, .int .u8 0, .int .u8 0, .int .u8 0, .int .u8 0, .int .u8 0, .int .u8 0, .int .u8 0, .int .u8 0, .int .u8 0, .int .u8 0, .int .u8 0, .int .u8 0, .int .u8 0, .int .u8 0, .int .u8 0, .int .u8 0, .int .u8 0, .int .u8 0, .int .u8 0, .int .u8 0, .int .u8 0, .int .u8 0, .int .u8 0, .int .u8 0, .int .u8 0] 35)).setRow W3.heap.size ((sha (strL tag)).map fun x => Value.int .u8 (x : Nat)).toArray = W4) := ⟨_, Lib.hid rfl⟩
  rw [HW4.out] at HQ
  have HO4 := Lib.hid (OwnB.empty W4 (w.heap.size + 1) (by have := HQ.out.2.1; omega))
  have HS5 : Hid (w.heap.size + 1 ≤ (W4.alloc (.cells #[] 5)).heap.size) := Lib.hid (by have := HQ.out.2.1; simp; omega)
  have HB4 := Lib.hid (HB3.out.trans (HQ.out.1.mono HB3.out.size))
  have HB5 := Lib.hid (HB4.out.alloc HB4.out.size (.cells #[] 5))
  have hd5 : Hid (Rd (W4.alloc (.cells #[] 5)) (W4.alloc (.cells #[] 5)).heap.size (some ⟨W3.heap.size, 0, none⟩) (sha (strL tag))) := Lib.hid (fun _ => ⟨_, _, rfl, by have := HQ.out.2.1; simp; omega, bytesAt_arr ((Below.heap_alloc W4 _ _ (by have := HQ.out.2.1; omega)).trans HQ.out.2.2)⟩)
  have hbl4 := Lib.hid ((HQ.out.1.block w.heap.size (by omega)).trans hbl3.out)
  have HR4 : Hid (∀ W6, Below w.heap.size (W4.alloc (.cells #[] 5)) W6 → Rd W6 W6.heap.size A l) := Lib.hid (fun W6 h => by
    have hh := HB5.out.trans h
    exact (hR.out.below hh (Nat.le_refl _)).mono hh.size)
  have hl32 := Lib.hid (sha_length (strL tag))
  have hapl : Hid ((([] : List Nat) ++ sha (strL tag)).length + n ≤ 1099511627776) := Lib.hid (by rw [List.nil_append, hl32.out]; omega)
  have hap0 : Hid (([] : List Nat).length + 32 ≤ 1099511627776) := Lib.hid (by simp)
  go_wp2_with (first
    | (refine wpList_store_row rfl 35 (.tmp 5) (.tmp 8) rfl W3.heap.size ((sha (strL tag)).map fun x => Value.int .u8 (x : Nat)).toArray rfl rfl 35 _ (heap_alloc_new W3 _) (size32 _ (sha_length _)) (HOLD.out _ (sha_length _)) (oneCells _) ?_; rw [HW4.out])
    | (at_builtin; refine wpList_append_bytes rfl (.tmp 9) (.tmp 10) rfl (w.heap.size + 1) _ [] (sha (strL tag)) rfl HO4 (some ⟨W3.heap.size, 0, none⟩) 32 32 rfl hl32 (fun h => by cases h) hd5 hap0.out HS5.out ?_; intro v1 W6 HO6 HB6; have HR6 := Lib.hid (HR4.out W6 (HB6.out.mono (Nat.le_succ _))); have HS6 := Lib.hid (Nat.le_trans HS5.out HB6.out.size))
    | (at_builtin; refine wpList_append_bytes rfl (.tmp 11) (.tmp 12) rfl (w.heap.size + 1) _ ([] ++ sha (strL tag)) l rfl HO6 A n c rfl hn HA.out HR6 hapl.out HS6.out ?_; intro v2 W7 HO7 HB7))
  have hB57 := HB6.out.trans HB7.out
  have hbl7 := Lib.hid ((hB57.block w.heap.size (Nat.lt_succ_self _)).trans (((Below.heap_alloc W4 _ _ (by have := HQ.out.2.1; omega))).trans hbl4.out))
  have HB8 := Lib.hid (HB5.out.trans (hB57.mono (Nat.le_succ _)))
  have hs7 : w.heap.size < W7.heap.size := by have := HB7.out.size; have := HS6.out; omega
  have ho7 : OwnB W7 (w.heap.size + 1) v2 (sha (strL tag) ++ l) := HO7.out
  obtain ⟨A6, n6, c6, rfl, hn6, hc6, hA6, HR8⟩ := ho7.slice
  have hbb : Hid (Bytes (sha (strL tag) ++ l)) := Lib.hid (fun x hx => by
    rcases List.mem_append.1 hx with h | h
    · exact sha_bytes _ x h
    · exact hb.out x h)
  have hm6 : n6 ≤ 4294967296 := by rw [← hn6.out, List.length_append, sha_length, hn.out]; omega
  clear ho7 HO7 HO6 hB57 HB6 HB7 HO4 hd5 hbl4 hbl3 HB3 HB4 HB5 HR4 HR6 HS6 HS5
  go_wp2_with fail
  refine (rsum2_any A6 n6 c6 (sha (strL tag) ++ l) _ hn6 hc6 hA6.out hm6 hbb HR8).mono ?_
  rintro e W9 ⟨rfl, hb9⟩
  have hbl9 := Lib.hid ((hb9.block w.heap.size hs7).trans hbl7.out)
  have HB9 := Lib.hid (HB8.out.trans (hb9.mono HB8.out.size))
  clear hb9 HB8 hbl7 HR8 hbb
  go_wp2_with (refine wpList_store_row rfl 35 (.tmp 4) (.tmp 14) rfl w.heap.size ((sha (sha (strL tag) ++ l)).map fun x => Value.int .u8 (x : Nat)).toArray rfl rfl 35 _ hbl9.out (size32 _ (sha_length _)) (HOLD.out _ (sha_length _)) (oneCells _) ?_)
  refine bodyPost_ret (results_cell_row rfl _ _ w.heap.size 35 _ (0, 0) _ rfl (setRow_heap W9 w.heap.size _ _ _ _ hbl9.out) Tryd.underlying35 rfl (size32 _ (sha_length _))) rfl ?_
  exact ⟨rfl, below_setRow HB9.out (Nat.le_refl _) _⟩
end Go.Proofs.YtcgpanjagkblmaaDoor
