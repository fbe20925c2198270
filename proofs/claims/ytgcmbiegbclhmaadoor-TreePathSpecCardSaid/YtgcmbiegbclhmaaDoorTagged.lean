/- slices.Concat of two slices of bytes; sizar/digest.Tagged returns the hash under a tag. -/
import Derived.Lib.ConvBytes
import Derived.Test.YtgcmbiegbclhmaaDoorBytes
namespace Go.Proofs.YtgcmbiegbclhmaaDoor
open Go.RowKit SzSha
set_option linter.unusedVariables false
/-- a slice of bytes as an argument -/
def Arg (w : World) (v : Value) (l : List Nat) : Prop := ∃ A c, v = .slice A l.length c ∧ l.length ≤ c ∧ (A = none → c = 0) ∧ Rd w w.heap.size A l ∧ Bytes l
set_option maxHeartbeats 2000000 in
set_option maxRecDepth 100000 in
theorem concat2 (g n1 c1 n2 c2 : Nat) (A1 A2 : Option Addr) (l1 l2 : List Nat) (w : World) (hg : g < w.heap.size) (h0 : w.cell? ⟨g, 0, none⟩ = some (.slice A1 n1 c1)) (h1 : w.cell? ⟨g, 1, none⟩ = some (.slice A2 n2 c2))
    (hn1 : Hid (l1.length = n1)) (hn2 : Hid (l2.length = n2)) (m1 : n1 ≤ 4294967296) (m2 : n2 ≤ 4294967296) (a1 : A1 = none → c1 = 0) (a2 : A2 = none → c2 = 0) (r1 : Hid (Rd w w.heap.size A1 l1)) (r2 : Hid (Rd w w.heap.size A2 l2)) :
    Calls Tryd.prog 47 #[.slice (some ⟨g, 0, none⟩) 2 2] w fun e w' => ∃ v, e = .returned v ∧ OwnB w' w.heap.size v (l1 ++ l2) ∧ Below w.heap.size w w' := by
  have HA1 := Lib.hid a1
  have HA2 := Lib.hid a2
  clear a1 a2
  go_enter Tryd.func47, Tryd.ntmps47
  go_wp2_with fail
  go_loop [3, 11] (fun s i => (i = .int .i64 0 ∧ s = .int .i64 0) ∨ (i = .int .i64 1 ∧ s = .int .i64 n1) ∨ (i = .int .i64 2 ∧ s = .int .i64 ((n1 + n2 : Nat) : Int))) (fun _ i => 2 - (intOf i).toNat)
  case atStart => exact .inl ⟨rfl, rfl⟩
  case round =>
    rcases hrel with ⟨rfl, rfl⟩ | ⟨rfl, rfl⟩ | ⟨rfl, rfl⟩
    · go_wp2_with fail
      go_round
      case rel => exact .inr (.inl ⟨rfl, rfl⟩)
      case measure => simp [intOf]
    · go_wp2_with fail
      go_round
      case rel => exact .inr (.inr ⟨rfl, by go_num⟩)
      case measure => simp [intOf]
    · go_wp2_with fail
      refine (grow_nil (n1 + n2) _ (by omega)).mono ?_
      rintro e w1 ⟨v, rfl, ho1, hb1⟩
      have HO1 := Lib.hid ho1
      have HB1 := Lib.hid hb1
      clear ho1 hb1
      go_wp2_with fail
      go_loopw [6, 27] (fun v i wr => Hid (Below w.heap.size w wr) ∧ ((i = .int .i64 0 ∧ Hid (OwnB wr w.heap.size v [])) ∨ (i = .int .i64 1 ∧ Hid (OwnB wr w.heap.size v l1)) ∨ (i = .int .i64 2 ∧ Hid (OwnB wr w.heap.size v (l1 ++ l2))))) (fun _ i _ => 2 - (intOf i).toNat)
      case atStart => exact ⟨HB1, .inl ⟨rfl, HO1⟩⟩
      case round =>
        clear HO1 HB1
        obtain ⟨hB, hrel⟩ := hrel
        rcases hrel with ⟨rfl, hO⟩ | ⟨rfl, hO⟩ | ⟨rfl, hO⟩
        · have c0 : wr.cell? ⟨g, 0, none⟩ = some (.slice A1 n1 c1) := (hB.out.cell (p := ⟨g, 0, none⟩) hg).trans h0
          go_wp2_with (at_builtin; refine wpList_append_bytes rfl (.tmp 31) (.tmp 32) rfl w.heap.size _ [] l1 rfl hO A1 n1 c1 rfl hn1 HA1.out (Lib.hid (fun hl => by obtain ⟨g, off, e, hg, hc⟩ := r1.out hl; exact ⟨g, off, e, Nat.lt_of_lt_of_le hg hB.out.size, fun i hi => (hB.out.cell (p := ⟨g, off + i, none⟩) hg).trans (hc i hi)⟩)) (by simp; omega) hB.out.size ?_; intro v2 w2 HO2 HB2)
          go_roundw
          case rel => exact ⟨Lib.hid (hB.out.trans HB2.out), .inr (.inl ⟨rfl, HO2⟩)⟩
          case measure => simp [intOf]
        · have c0 : wr.cell? ⟨g, 1, none⟩ = some (.slice A2 n2 c2) := (hB.out.cell (p := ⟨g, 1, none⟩) hg).trans h1
          go_wp2_with (at_builtin; refine wpList_append_bytes rfl (.tmp 31) (.tmp 32) rfl w.heap.size _ l1 l2 rfl hO A2 n2 c2 rfl hn2 HA2.out (Lib.hid (fun hl => by obtain ⟨g, off, e, hg, hc⟩ := r2.out hl; exact ⟨g, off, e, Nat.lt_of_lt_of_le hg hB.out.size, fun i hi => (hB.out.cell (p := ⟨g, off + i, none⟩) hg).trans (hc i hi)⟩)) (by rw [hn1.out]; omega) hB.out.size ?_; intro v2 w2 HO2 HB2)
          go_roundw
          case rel => exact ⟨Lib.hid (hB.out.trans HB2.out), .inr (.inr ⟨rfl, HO2⟩)⟩
          case measure => simp [intOf]
        · go_wp2_with fail
          go_ret
          exact ⟨_, rfl, hO.out, hB.out⟩
/-- the bytes of a string -/
def strL (s : ByteArray) : List Nat := s.data.toList.map UInt8.toNat
theorem strL_length (s : ByteArray) : (strL s).length = s.size := by simp [strL]
theorem strL_bytes (s : ByteArray) : Bytes (strL s) := fun x hx => by
  simp only [strL, List.mem_map] at hx
  obtain ⟨b, _, rfl⟩ := hx
  exact b.toNat_lt
theorem conv_bytes (s : ByteArray) (W : World) : ∃ c W2, (convert 9 43 (.string s)).run Tryd.prog W = .ok (.slice (some ⟨W.heap.size, 0, none⟩) s.size c) W2 ∧ s.size ≤ c ∧ Below W.heap.size W W2 ∧ W.heap.size < W2.heap.size ∧ BytesAt W2 W.heap.size 0 (strL s) := by
  refine ⟨_, _, Lib.run_convert_string_bytes W 9 43 5 s Tryd.underlying9 Tryd.underlying43 Tryd.underlying5, grownCap_ge _ _ _ _, ⟨rfl, rfl, rfl, ?_, fun k hk => Lib.bytesWorld_at_old W _ s k hk⟩, ?_, fun i hi => ?_⟩
  · rw [Lib.bytesWorld_size]; omega
  · rw [Lib.bytesWorld_size]; omega
  · rw [strL_length] at hi
    rw [Nat.zero_add, Lib.bytesWorld_cell W _ s i hi]
    have h2 : i < s.data.toList.length := by simpa using hi
    simp only [strL, List.getD_eq_getElem?_getD, List.getElem?_map, List.getElem?_eq_getElem h2, Option.map_some, Option.getD_some]
theorem size32 (l : List Nat) (h : l.length = 32) : (Tryd.prog.info? 24).map (·.size) = some (l.map fun x => Value.int .u8 (x : Nat)).toArray.size := by
  have : (l.map fun x => Value.int .u8 (x : Nat)).toArray.size = 32 := by simp [h]
  rw [this]; show _ = _; kernel_rfl
theorem bytesAt_arr {w : World} {g t : Nat} {l : List Nat} (h : w.heap[g]? = some (.cells (l.map fun x => Value.int .u8 (x : Nat)).toArray t (0, 0))) : BytesAt w g 0 l := fun i hi => by
  rw [Nat.zero_add, cell_of_row w g i _ _ _ h]
  simp [List.getD_eq_getElem?_getD, hi]
/-- a variable that is laid, then written whole -/
theorem laid_row (W : World) (Z cells : Array Value) (t : TypeId) : Below W.heap.size W ((W.alloc (.cells Z t)).setRow W.heap.size cells) ∧ ((W.alloc (.cells Z t)).setRow W.heap.size cells).heap.size = W.heap.size + 1 ∧ ((W.alloc (.cells Z t)).setRow W.heap.size cells).heap[W.heap.size]? = some (.cells cells t (0, 0)) :=
  ⟨below_setRow ((Below.refl _ _).alloc (Nat.le_refl _) _) (Nat.le_refl _) _, by simp, setRow_heap _ _ _ _ _ _ (heap_alloc_new W _)⟩
theorem pair_row (W : World) (v1 v2 : Value) (t : TypeId) : Below W.heap.size W (W.alloc (.cells #[v1, v2] t)) ∧ (W.alloc (.cells #[v1, v2] t)).heap.size = W.heap.size + 1 ∧ (W.alloc (.cells #[v1, v2] t)).cell? ⟨W.heap.size, 0, none⟩ = some v1 ∧ (W.alloc (.cells #[v1, v2] t)).cell? ⟨W.heap.size, 1, none⟩ = some v2 :=
  ⟨(Below.refl _ _).alloc (Nat.le_refl _) _, by simp, by rw [cell_of_row _ _ _ _ _ _ (heap_alloc_new W _)]; rfl, by rw [cell_of_row _ _ _ _ _ _ (heap_alloc_new W _)]; rfl⟩
theorem Rd.mono {w : World} {B B' : Nat} {A : Option Addr} {l : List Nat} (h : Rd w B A l) (hB : B ≤ B') : Rd w B' A l := fun hl => by
  obtain ⟨g, off, e, hg, hc⟩ := h hl
  exact ⟨g, off, e, Nat.lt_of_lt_of_le hg hB, hc⟩
set_option maxHeartbeats 2000000 in
set_option maxRecDepth 100000 in
theorem tagged_any (tag : ByteArray) (A : Option Addr) (n c : Nat) (l : List Nat) (w : World) (htag : tag.size ≤ 4294967296) (hn : Hid (l.length = n)) (hc : n ≤ c) (hA : A = none → c = 0) (hsz : n ≤ 2147483648) (hb : Hid (Bytes l)) (hT : Hid (Tabs w)) (hR : Hid (Rd w w.heap.size A l)) :
    Calls Tryd.prog 23 #[.string tag, .slice A n c] w fun e w' => e = .returned (dgV (tagged (strL tag) l)) ∧ Below w.heap.size w w' := by
  have HA := Lib.hid hA
  clear hA
  have hb0 : Below w.heap.size w (w.alloc (.cells #[.int .u8 0, .int .u8 0, .int .u8 0, .int .u8 0, .int .u8 0, .int .u8 0, .int .u8 0, .int .u8 0, .int .u8 0, .int .u8 0, .int .u8 0, .int .u8 0, .int .u8 0, .int .u8 0, .int .u8 0, .int .u8 0, .int .u8 0, .int .u8 0, .int .u8 0, .int .u8 0, .int .u8 0, .int .u8 0, .int .u8 0, .int .u8 0, .int .u8 0, .int .u8 0, .int .u8 0, .int .u8 0, .int .u8 0, .int .u8 0, .int .u8 0, .int .u8 0] 24)) := (Below.refl _ _).alloc (Nat.le_refl _) _
  obtain ⟨c0, W2, hconv, hc0, hbc, hlt2, hby⟩ := conv_bytes tag (w.alloc (.cells #[.int .u8 0, .int .u8 0, .int .u8 0, .int .u8 0, .int .u8 0, .int .u8 0, .int .u8 0, .int .u8 0, .int .u8 0, .int .u8 0, .int .u8 0, .int .u8 0, .int .u8 0, .int .u8 0, .int .u8 0, .int .u8 0, .int .u8 0, .int .u8 0, .int .u8 0, .int .u8 0, .int .u8 0, .int .u8 0, .int .u8 0, .int .u8 0, .int .u8 0, .int .u8 0, .int .u8 0, .int .u8 0, .int .u8 0, .int .u8 0, .int .u8 0, .int .u8 0] 24))
  have hbl0 : (w.alloc (.cells #[.int .u8 0, .int .u8 0, .int .u8 0, .int .u8 0, .int .u8 0, .int .u8 0, .int .u8 0, .int .u8 0, .int .u8 0, .int .u8 0, .int .u8 0, .int .u8 0, .int .u8 0, .int .u8 0, .int .u8 0, .int .u8 0, .int .u8 0, .int .u8 0, .int .u8 0, .int .u8 0, .int .u8 0, .int .u8 0, .int .u8 0, .int .u8 0, .int .u8 0, .int .u8 0, .int .u8 0, .int .u8 0, .int .u8 0, .int .u8 0, .int .u8 0, .int .u8 0] 24)).heap[w.heap.size]? = some (.cells #[.int .u8 0, .int .u8 0, .int .u8 0, .int .u8 0, .int .u8 0, .int .u8 0, .int .u8 0, .int .u8 0, .int .u8 0, .int .u8 0, .int .u8 0, .int .u8 0, .int .u8 0, .int .u8 0, .int .u8 0, .int .u8 0, .int .u8 0, .int .u8 0, .int .u8 0, .int .u8 0, .int .u8 0, .int .u8 0, .int .u8 0, .int .u8 0, .int .u8 0, .int .u8 0, .int .u8 0, .int .u8 0, .int .u8 0, .int .u8 0, .int .u8 0, .int .u8 0] 24 (0, 0)) := heap_alloc_new w _
  have hbl2 := Lib.hid ((hbc.block w.heap.size (by simp)).trans hbl0)
  have hb2 := Lib.hid (hb0.trans (hbc.mono (by simp)))
  simp only [World.size_alloc] at hconv hby hlt2
  have HBY := Lib.hid hby
  clear hb0 hbl0 hby hbc
  go_enter Tryd.func23, Tryd.ntmps23
  go_wp2_with fail
  refine (dsum_any (some ⟨w.heap.size + 1, 0, none⟩) tag.size c0 (strL tag) _ (Lib.hid (strL_length tag)) hc0 htag (Lib.hid (strL_bytes tag)) (Lib.hid (hT.out.below hb2.out)) (Lib.hid (fun _ => ⟨_, _, rfl, hlt2, HBY.out⟩))).mono ?_
  rintro e W3 ⟨rfl, hb3⟩
  have hbl3 := Lib.hid ((hb3.block w.heap.size (by omega)).trans hbl2.out)
  have HB3 := Lib.hid (hb2.out.trans (hb3.mono hb2.out.size))
  have hs3 : w.heap.size + 1 < W3.heap.size := Nat.lt_of_lt_of_le hlt2 hb3.size
  clear hb3 HBY hbl2 hb2 hconv
  have hold : ∀ m : List Nat, m.length = 32 → 32 = (m.map fun x => Value.int .u8 (x : Nat)).toArray.size := fun m h => by simp [h]
  have HOLD := Lib.hid hold
  clear hold
  go_wp2_with (refine wpList_store_row rfl 24 (.tmp 5) (.tmp 8) rfl W3.heap.size ((sha (strL tag)).map fun x => Value.int .u8 (x : Nat)).toArray rfl rfl 24 _ (heap_alloc_new W3 _) (size32 _ (sha_length _)) (HOLD.out _ (sha_length _)) (oneCells _) ?_)
  have hq := laid_row W3 #[.int .u8 0, .int .u8 0, .int .u8 0, .int .u8 0, .int .u8 0, .int .u8 0, .int .u8 0, .int .u8 0, .int .u8 0, .int .u8 0, .int .u8 0, .int .u8 0, .int .u8 0, .int .u8 0, .int .u8 0, .int .u8 0, .int .u8 0, .int .u8 0, .int .u8 0, .int .u8 0, .int .u8 0, .int .u8 0, .int .u8 0, .int .u8 0, .int .u8 0, .int .u8 0, .int .u8 0, .int .u8 0, .int .u8 0, .int .u8 0, .int .u8 0, .int .u8 0] ((sha (strL tag)).map fun x => Value.int .u8 (x : Nat)).toArray 24
  generalize (W3.alloc (.cells #[.int .u8 0, .int .u8 0, .int .u8 0, .int .u8 0, .int .u8 0, .int .u8 0, .int .u8 0, .int .u8 0, .int .u8 0, .int .u8 0, .int .u8 0, .int .u8 0, .int .u8 0, .int .u8 0, .int .u8 0, .int .u8 0, .int .u8 0, .int .u8 0, .int .u8 0, .int .u8 0, .int .u8 0, .int .u8 0, .int .u8 0, .int .u8 0, .int .u8 0, .int .u8 0, .int .u8 0, .int .u8 0, .int .u8 0, .int .u8 0, .int .u8 0, .int .u8 0] 24)).setRow W3.heap.size ((sha (strL tag)).map fun x => Value.int .u8 (x : Nat)).toArray = W4 at *
  obtain ⟨q1, q2, q3⟩ := hq
  have hq := pair_row W4 (.slice (some ⟨W3.heap.size, 0, none⟩) 32 32) (.slice A n c) 43
  generalize W4.alloc (.cells #[.slice (some ⟨W3.heap.size, 0, none⟩) 32 32, .slice A n c] 43) = W5 at *
  obtain ⟨q4, q5, q6, q7⟩ := hq
  rw [q2] at q5 q6 q7
  have HB5 := Lib.hid ((HB3.out.trans (q1.mono HB3.out.size)).trans (q4.mono (by rw [q2]; have := HB3.out.size; omega)))
  have hbl5 := Lib.hid ((q4.block w.heap.size (by rw [q2]; omega)).trans ((q1.block w.heap.size (by omega)).trans hbl3.out))
  have hd5 := Lib.hid ((q4.block W3.heap.size (by rw [q2]; omega)).trans q3)
  have hs5 : W3.heap.size + 1 < W5.heap.size := by omega
  clear q1 q2 q3 q4 q5 HB3 hbl3
  refine (concat2 (W3.heap.size + 1) 32 32 n c (some ⟨W3.heap.size, 0, none⟩) A (sha (strL tag)) l _ hs5 q6 q7 (Lib.hid (sha_length _)) hn (by omega) (by omega) (fun h => by cases h) HA.out (Lib.hid (fun _ => ⟨_, _, rfl, by omega, bytesAt_arr hd5.out⟩)) (Lib.hid ((hR.out.below HB5.out (Nat.le_refl _)).mono HB5.out.size))).mono ?_
  rintro e W6 ⟨v, rfl, ho6, hb6⟩
  obtain ⟨A6, n6, c6, rfl, hn6, hc6, _, HR6⟩ := ho6.slice
  have hbl6 := Lib.hid ((hb6.block w.heap.size (by omega)).trans hbl5.out)
  have HB6 := Lib.hid (HB5.out.trans (hb6.mono HB5.out.size))
  have hbb : Hid (Bytes (sha (strL tag) ++ l)) := Lib.hid (fun x hx => by
    rcases List.mem_append.1 hx with h | h
    · exact sha_bytes _ x h
    · exact hb.out x h)
  have hs6 : w.heap.size < W6.heap.size := by have := hb6.size; omega
  have hm6 : n6 ≤ 4294967296 := by rw [← hn6.out, List.length_append, sha_length, hn.out]; omega
  clear ho6 hb6 hd5 hbl5 HB5 q6 q7
  go_wp2_with fail
  refine (dsum_any A6 n6 c6 (sha (strL tag) ++ l) _ hn6 hc6 hm6 hbb (Lib.hid (hT.out.below HB6.out)) HR6).mono ?_
  rintro e W7 ⟨rfl, hb7⟩
  have hbl7 := Lib.hid ((hb7.block w.heap.size hs6).trans hbl6.out)
  have HB7 := Lib.hid (HB6.out.trans (hb7.mono HB6.out.size))
  clear hb7 HB6 hbl6 HR6 hbb
  go_wp2_with (refine wpList_store_row rfl 24 (.tmp 4) (.tmp 13) rfl w.heap.size ((sha (sha (strL tag) ++ l)).map fun x => Value.int .u8 (x : Nat)).toArray rfl rfl 24 _ hbl7.out (size32 _ (sha_length _)) (HOLD.out _ (sha_length _)) (oneCells _) ?_)
  refine bodyPost_ret (results_cell_row rfl _ _ w.heap.size 24 _ (0, 0) _ rfl (setRow_heap W7 w.heap.size _ _ _ _ hbl7.out) Tryd.underlying24 rfl (size32 _ (sha_length _))) rfl ?_
  exact ⟨rfl, below_setRow HB7.out (Nat.le_refl _) _⟩
end Go.Proofs.YtgcmbiegbclhmaaDoor
