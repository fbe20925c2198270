/- slices.Concat of two slices of bytes; sizar/digest.Tagged returns the hash under a tag. sizar/codec: the writer of integers. sizar/codec.newWriter. sizar/codec: the writer of lists of integers. sizar/codec.Encode of a list of integers. What every law of a seat with laid tables needs: the tables' cells, the arguments opened, the row's last step. slices.Clone of bytes; sizar/tree.hash. Paths and climbs in trees of nodes: plain functions. -/
import Derived.Lib.ConvBytes
import Derived.Test.YtmfmgeapecapiaaDoorDT1
import Derived.Test.YtmfmgeapecapiaaDoorDT0
import Derived.Laws.EntriesVeiled
import Derived.Test.YtmfmgeapecapiaaDoorRows
import Derived.ReadAgain
import Derived.SizedLaws
import Derived.ProofKit
import Derived.OpenShut
import Derived.LaidMore
import Derived.LaidLaws
import Derived.Lib.LaidTab
import Derived.ChangeMaps5
import Derived.ChangeBears
import Derived.Stop.Joined
import Derived.Stop.BytesEq
import Derived.MakeChecks
import Derived.SevenTiedAt
import Derived.WalkSpells
import Derived.Lib.SliceRun
namespace Go.Proofs.YtmfmgeapecapiaaDoor
open Go.RowKit SzSha
set_option linter.unusedVariables false
set_option maxHeartbeats 2000000 in
set_option maxRecDepth 100000 in
theorem concat2 (g n1 c1 n2 c2 : Nat) (A1 A2 : Option Addr) (l1 l2 : List Nat) (w : World) (hg : g < w.heap.size) (h0 : w.cell? ⟨g, 0, none⟩ = some (.slice A1 n1 c1)) (h1 : w.cell? ⟨g, 1, none⟩ = some (.slice A2 n2 c2))
    (hn1 : Hid (l1.length = n1)) (hn2 : Hid (l2.length = n2)) (m1 : n1 ≤ 4294967296) (m2 : n2 ≤ 4294967296) (a1 : A1 = none → c1 = 0) (a2 : A2 = none → c2 = 0) (r1 : Hid (Rd w w.heap.size A1 l1)) (r2 : Hid (Rd w w.heap.size A2 l2)) :
    Calls Tryd.prog 58 #[.slice (some ⟨g, 0, none⟩) 2 2] w fun e w' => ∃ v, e = .returned v ∧ OwnB w' w.heap.size v (l1 ++ l2) ∧ Below w.heap.size w w' := by
  have HA1 := Lib.hid a1
  have HA2 := Lib.hid a2
  clear a1 a2
  go_enter Tryd.func58, Tryd.ntmps58
  go_wp2_with fail
  go_loop [3, 11] (fun s i => (i = .int .i64 0 ∧ s = .int .i64 0) ∨ (i = .int .i64 1 ∧ s = .int .i64 n1) ∨ (i = .int .i64 2 ∧ s = .int .i64 ((n1 + n2 : Nat) : Int))) (fun _ i => 2 - (intOf i).toNat)
  case atStart => exact .inl ⟨rfl, rfl⟩
  case round =>
    rcases hrel with ⟨rfl, rfl⟩ | ⟨rfl, rfl⟩ | ⟨rfl, rfl⟩
    · go_wp2_with fail
      go_round
      case rel => exact .inr (.inl ⟨rfl, rfl⟩)
      case measure => simp [intOf]
    · go_wp2_with fail
      go_round
      case rel => exact .inr (.inr ⟨rfl, by go_num⟩)
      case measure => simp [intOf]
    · go_wp2_with fail
      refine (grow_nil (n1 + n2) _ (by omega)).mono ?_
      rintro e w1 ⟨v, rfl, ho1, hb1⟩
      have HO1 := Lib.hid ho1
      have HB1 := Lib.hid hb1
      clear ho1 hb1
      go_wp2_with fail
      go_loopw [6, 27] (fun v i wr => Hid (Below w.heap.size w wr) ∧ ((i = .int .i64 0 ∧ Hid (OwnB wr w.heap.size v [])) ∨ (i = .int .i64 1 ∧ Hid (OwnB wr w.heap.size v l1)) ∨ (i = .int .i64 2 ∧ Hid (OwnB wr w.heap.size v (l1 ++ l2))))) (fun _ i _ => 2 - (intOf i).toNat)
      case atStart => exact ⟨HB1, .inl ⟨rfl, HO1⟩⟩
      case round =>
        clear HO1 HB1
        obtain ⟨hB, hrel⟩ := hrel
        rcases hrel with ⟨rfl, hO⟩ | ⟨rfl, hO⟩ | ⟨rfl, hO⟩
        · have c0 : wr.cell? ⟨g, 0, none⟩ = some (.slice A1 n1 c1) := (hB.out.cell (p := ⟨g, 0, none⟩) hg).trans h0
          go_wp2_with (at_builtin; refine wpList_append_bytes rfl (.tmp 31) (.tmp 32) rfl w.heap.size _ [] l1 rfl hO A1 n1 c1 rfl hn1 HA1.out (Lib.hid (fun hl => by obtain ⟨g, off, e, hg, hc⟩ := r1.out hl; exact ⟨g, off, e, Nat.lt_of_lt_of_le hg hB.out.size, fun i hi => (hB.out.cell (p := ⟨g, off + i, none⟩) hg).trans (hc i hi)⟩)) (by simp; omega) hB.out.size ?_; intro v2 w2 HO2 HB2)
          go_roundw
          case rel => exact ⟨Lib.hid (hB.out.trans HB2.out), .inr (.inl ⟨rfl, HO2⟩)⟩
          case measure => simp [intOf]
        · have c0 : wr.cell? ⟨g, 1, none⟩ = some (.slice A2 n2 c2) := (hB.out.cell (p := ⟨g, 1, none⟩) hg).trans h1
          go_wp2_with (at_builtin; refine wpList_append_bytes rfl (.tmp 31) (.tmp 32) rfl w.heap.size _ l1 l2 rfl hO A2 n2 c2 rfl hn2 HA2.out (Lib.hid (fun hl => by obtain ⟨g, off, e, hg, hc⟩ := r2.out hl; exact ⟨g, off, e, Nat.lt_of_lt_of_le hg hB.out.size, fun i hi => (hB.out.cell (p := ⟨g, off + i, none⟩) hg).trans (hc i hi)⟩)) (by rw [hn1.out]; omega) hB.out.size ?_; intro v2 w2 HO2 HB2)
          go_roundw
          case rel => exact ⟨Lib.hid (hB.out.trans HB2.out), .inr (.inr ⟨rfl, HO2⟩)⟩
          case measure => simp [intOf]
        · go_wp2_with fail
          go_ret
          exact ⟨_, rfl, hO.out, hB.out⟩
/-- the bytes of a string -/
def strL (s : ByteArray) : List Nat := s.data.toList.map UInt8.toNat
theorem strL_length (s : ByteArray) : (strL s).length = s.size := by simp [strL]
theorem strL_bytes (s : ByteArray) : Bytes (strL s) := fun x hx => by
  simp only [strL, List.mem_map] at hx
  obtain ⟨b, _, rfl⟩ := hx
  exact b.toNat_lt
theorem conv_bytes (s : ByteArray) (W : World) : ∃ c W2, (convert 9 55 (.string s)).run Tryd.prog W = .ok (.slice (some ⟨W.heap.size, 0, none⟩) s.size c) W2 ∧ s.size ≤ c ∧ Below W.heap.size W W2 ∧ W.heap.size < W2.heap.size ∧ BytesAt W2 W.heap.size 0 (strL s) := by
  refine ⟨_, _, Lib.run_convert_string_bytes W 9 55 5 s Tryd.underlying9 Tryd.underlying55 Tryd.underlying5, grownCap_ge _ _ _ _, ⟨rfl, rfl, rfl, ?_, fun k hk => Lib.bytesWorld_at_old W _ s k hk⟩, ?_, fun i hi => ?_⟩
  · rw [Lib.bytesWorld_size]; omega
  · rw [Lib.bytesWorld_size]; omega
  · rw [strL_length] at hi
    rw [Nat.zero_add, Lib.bytesWorld_cell W _ s i hi]
    have h2 : i < s.data.toList.length := by simpa using hi
    simp only [strL, List.getD_eq_getElem?_getD, List.getElem?_map, List.getElem?_eq_getElem h2, Option.map_some, Option.getD_some]
theorem size32 (l : List Nat) (h : l.length = 32) : (Tryd.prog.info? 25).map (·.size) = some (l.map fun x => Value.int .u8 (x : Nat)).toArray.size := by
  have : (l.map fun x => Value.int .u8 (x : Nat)).toArray.size = 32 := by simp [h]
  rw [this]; show _ = _; kernel_rfl
theorem bytesAt_arr {w : World} {g t : Nat} {l : List Nat} (h : w.heap[g]? = some (.cells (l.map fun x => Value.int .u8 (x : Nat)).toArray t (0, 0))) : BytesAt w g 0 l := fun i hi => by
  rw [Nat.zero_add, cell_of_row w g i _ _ _ h]
  simp [List.getD_eq_getElem?_getD, hi]
/-- a variable that is laid, then written whole -/
theorem laid_row (W : World) (Z cells : Array Value) (t : TypeId) : Below W.heap.size W ((W.alloc (.cells Z t)).setRow W.heap.size cells) ∧ ((W.alloc (.cells Z t)).setRow W.heap.size cells).heap.size = W.heap.size + 1 ∧ ((W.alloc (.cells Z t)).setRow W.heap.size cells).heap[W.heap.size]? = some (.cells cells t (0, 0)) :=
  ⟨below_setRow ((Below.refl _ _).alloc (Nat.le_refl _) _) (Nat.le_refl _) _, by simp, setRow_heap _ _ _ _ _ _ (heap_alloc_new W _)⟩
theorem pair_row (W : World) (v1 v2 : Value) (t : TypeId) : Below W.heap.size W (W.alloc (.cells #[v1, v2] t)) ∧ (W.alloc (.cells #[v1, v2] t)).heap.size = W.heap.size + 1 ∧ (W.alloc (.cells #[v1, v2] t)).cell? ⟨W.heap.size, 0, none⟩ = some v1 ∧ (W.alloc (.cells #[v1, v2] t)).cell? ⟨W.heap.size, 1, none⟩ = some v2 :=
  ⟨(Below.refl _ _).alloc (Nat.le_refl _) _, by simp, by rw [cell_of_row _ _ _ _ _ _ (heap_alloc_new W _)]; rfl, by rw [cell_of_row _ _ _ _ _ _ (heap_alloc_new W _)]; rfl⟩
theorem Rd.mono {w : World} {B B' : Nat} {A : Option Addr} {l : List Nat} (h : Rd w B A l) (hB : B ≤ B') : Rd w B' A l := fun hl => by
  obtain ⟨g, off, e, hg, hc⟩ := h hl
  exact ⟨g, off, e, Nat.lt_of_lt_of_le hg hB, hc⟩
set_option maxHeartbeats 2000000 in
set_option maxRecDepth 100000 in
theorem tagged_any (tag : ByteArray) (A : Option Addr) (n c : Nat) (l : List Nat) (w : World) (htag : tag.size ≤ 4294967296) (hn : Hid (l.length = n)) (hc : n ≤ c) (hA : A = none → c = 0) (hsz : n ≤ 2147483648) (hb : Hid (Bytes l)) (hT : Hid (Tabs w)) (hR : Hid (Rd w w.heap.size A l)) :
    Calls Tryd.prog 23 #[.string tag, .slice A n c] w fun e w' => e = .returned (dgV (tagged (strL tag) l)) ∧ Below w.heap.size w w' := by
  have HA := Lib.hid hA
  clear hA
  have hb0 : Below w.heap.size w (w.alloc (.cells #[.int .u8 0, .int .u8 0, .int .u8 0, .int .u8 0, .int .u8 0, .int .u8 0, .int .u8 0, .int .u8 0, .int .u8 0, .int .u8 0, .int .u8 0, .int .u8 0, .int .u8 0, .int .u8 0, .int .u8 0, .int .u8 0, .int .u8 0, .int .u8 0, .int .u8 0, .int .u8 0, .int .u8 0, .int .u8 0, .int .u8 0, .int .u8 0, .int .u8 0, .int .u8 0, .int .u8 0, .int .u8 0, .int .u8 0, .int .u8 0, .int .u8 0, .int .u8 0] 25)) := (Below.refl _ _).alloc (Nat.le_refl _) _
  obtain ⟨c0, W2, hconv, hc0, hbc, hlt2, hby⟩ := conv_bytes tag (w.alloc (.cells #[.int .u8 0, .int .u8 0, .int .u8 0, .int .u8 0, .int .u8 0, .int .u8 0, .int .u8 0, .int .u8 0, .int .u8 0, .int .u8 0, .int .u8 0, .int .u8 0, .int .u8 0, .int .u8 0, .int .u8 0, .int .u8 0, .int .u8 0, .int .u8 0, .int .u8 0, .int .u8 0, .int .u8 0, .int .u8 0, .int .u8 0, .int .u8 0, .int .u8 0, .int .u8 0, .int .u8 0, .int .u8 0, .int .u8 0, .int .u8 0, .int .u8 0, .int .u8 0] 25))
  have hbl0 : (w.alloc (.cells #[.int .u8 0, .int .u8 0, .int .u8 0, .int .u8 0, .int .u8 0, .int .u8 0, .int .u8 0, .int .u8 0, .int .u8 0, .int .u8 0, .int .u8 0, .int .u8 0, .int .u8 0, .int .u8 0, .int .u8 0, .int .u8 0, .int .u8 0, .int .u8 0, .int .u8 0, .int .u8 0, .int .u8 0, .int .u8 0, .int .u8 0, .int .u8 0, .int .u8 0, .int .u8 0, .int .u8 0, .int .u8 0, .int .u8 0, .int .u8 0, .int .u8 0, .int .u8 0] 25)).heap[w.heap.size]? = some (.cells #[.int .u8 0, .int .u8 0, .int .u8 0, .int .u8 0, .int .u8 0, .int .u8 0, .int .u8 0, .int .u8 0, .int .u8 0, .int .u8 0, .int .u8 0, .int .u8 0, .int .u8 0, .int .u8 0, .int .u8 0, .int .u8 0, .int .u8 0, .int .u8 0, .int .u8 0, .int .u8 0, .int .u8 0, .int .u8 0, .int .u8 0, .int .u8 0, .int .u8 0, .int .u8 0, .int .u8 0, .int .u8 0, .int .u8 0, .int .u8 0, .int .u8 0, .int .u8 0] 25 (0, 0)) := heap_alloc_new w _
  have hbl2 := Lib.hid ((hbc.block w.heap.size (by simp)).trans hbl0)
  have hb2 := Lib.hid (hb0.trans (hbc.mono (by simp)))
  simp only [World.size_alloc] at hconv hby hlt2
  have HBY := Lib.hid hby
  clear hb0 hbl0 hby hbc
  go_enter Tryd.func23, Tryd.ntmps23
  go_wp2_with fail
  refine (dsum_any (some ⟨w.heap.size + 1, 0, none⟩) tag.size c0 (strL tag) _ (Lib.hid (strL_length tag)) hc0 htag (Lib.hid (strL_bytes tag)) (Lib.hid (hT.out.below hb2.out)) (Lib.hid (fun _ => ⟨_, _, rfl, hlt2, HBY.out⟩))).mono ?_
  rintro e W3 ⟨rfl, hb3⟩
  have hbl3 := Lib.hid ((hb3.block w.heap.size (by omega)).trans hbl2.out)
  have HB3 := Lib.hid (hb2.out.trans (hb3.mono hb2.out.size))
  have hs3 : w.heap.size + 1 < W3.heap.size := Nat.lt_of_lt_of_le hlt2 hb3.size
  clear hb3 HBY hbl2 hb2 hconv
  have hold : ∀ m : List Nat, m.length = 32 → 32 = (m.map fun x => Value.int .u8 (x : Nat)).toArray.size := fun m h => by simp [h]
  have HOLD := Lib.hid hold
  clear hold
  go_wp2_with (refine wpList_store_row rfl 25 (.tmp 5) (.tmp 8) rfl W3.heap.size ((sha (strL tag)).map fun x => Value.int .u8 (x : Nat)).toArray rfl rfl 25 _ (heap_alloc_new W3 _) (size32 _ (sha_length _)) (HOLD.out _ (sha_length _)) (oneCells _) ?_)
  have hq := laid_row W3 #[.int .u8 0, .int .u8 0, .int .u8 0, .int .u8 0, .int .u8 0, .int .u8 0, .int .u8 0, .int .u8 0, .int .u8 0, .int .u8 0, .int .u8 0, .int .u8 0, .int .u8 0, .int .u8 0, .int .u8 0, .int .u8 0, .int .u8 0, .int .u8 0, .int .u8 0, .int .u8 0, .int .u8 0, .int .u8 0, .int .u8 0, .int .u8 0, .int .u8 0, .int .u8 0, .int .u8 0, .int .u8 0, .int .u8 0, .int .u8 0, .int .u8 0, .int .u8 0] ((sha (strL tag)).map fun x => Value.int .u8 (x : Nat)).toArray 25
  generalize (W3.alloc (.cells #[.int .u8 0, .int .u8 0, .int .u8 0, .int .u8 0, .int .u8 0, .int .u8 0, .int .u8 0, .int .u8 0, .int .u8 0, .int .u8 0, .int .u8 0, .int .u8 0, .int .u8 0, .int .u8 0, .int .u8 0, .int .u8 0, .int .u8 0, .int .u8 0, .int .u8 0, .int .u8 0, .int .u8 0, .int .u8 0, .int .u8 0, .int .u8 0, .int .u8 0, .int .u8 0, .int .u8 0, .int .u8 0, .int .u8 0, .int .u8 0, .int .u8 0, .int .u8 0] 25)).setRow W3.heap.size ((sha (strL tag)).map fun x => Value.int .u8 (x : Nat)).toArray = W4 at *
  obtain ⟨q1, q2, q3⟩ := hq
  have hq := pair_row W4 (.slice (some ⟨W3.heap.size, 0, none⟩) 32 32) (.slice A n c) 55
  generalize W4.alloc (.cells #[.slice (some ⟨W3.heap.size, 0, none⟩) 32 32, .slice A n c] 55) = W5 at *
  obtain ⟨q4, q5, q6, q7⟩ := hq
  rw [q2] at q5 q6 q7
  have HB5 := Lib.hid ((HB3.out.trans (q1.mono HB3.out.size)).trans (q4.mono (by rw [q2]; have := HB3.out.size; omega)))
  have hbl5 := Lib.hid ((q4.block w.heap.size (by rw [q2]; omega)).trans ((q1.block w.heap.size (by omega)).trans hbl3.out))
  have hd5 := Lib.hid ((q4.block W3.heap.size (by rw [q2]; omega)).trans q3)
  have hs5 : W3.heap.size + 1 < W5.heap.size := by omega
  clear q1 q2 q3 q4 q5 HB3 hbl3
  refine (concat2 (W3.heap.size + 1) 32 32 n c (some ⟨W3.heap.size, 0, none⟩) A (sha (strL tag)) l _ hs5 q6 q7 (Lib.hid (sha_length _)) hn (by omega) (by omega) (fun h => by cases h) HA.out (Lib.hid (fun _ => ⟨_, _, rfl, by omega, bytesAt_arr hd5.out⟩)) (Lib.hid ((hR.out.below HB5.out (Nat.le_refl _)).mono HB5.out.size))).mono ?_
  rintro e W6 ⟨v, rfl, ho6, hb6⟩
  obtain ⟨A6, n6, c6, rfl, hn6, hc6, _, HR6⟩ := ho6.slice
  have hbl6 := Lib.hid ((hb6.block w.heap.size (by omega)).trans hbl5.out)
  have HB6 := Lib.hid (HB5.out.trans (hb6.mono HB5.out.size))
  have hbb : Hid (Bytes (sha (strL tag) ++ l)) := Lib.hid (fun x hx => by
    rcases List.mem_append.1 hx with h | h
    · exact sha_bytes _ x h
    · exact hb.out x h)
  have hs6 : w.heap.size < W6.heap.size := by have := hb6.size; omega
  have hm6 : n6 ≤ 4294967296 := by rw [← hn6.out, List.length_append, sha_length, hn.out]; omega
  clear ho6 hb6 hd5 hbl5 HB5 q6 q7
  go_wp2_with fail
  refine (dsum_any A6 n6 c6 (sha (strL tag) ++ l) _ hn6 hc6 hm6 hbb (Lib.hid (hT.out.below HB6.out)) HR6).mono ?_
  rintro e W7 ⟨rfl, hb7⟩
  have hbl7 := Lib.hid ((hb7.block w.heap.size hs6).trans hbl6.out)
  have HB7 := Lib.hid (HB6.out.trans (hb7.mono HB6.out.size))
  clear hb7 HB6 hbl6 HR6 hbb
  go_wp2_with (refine wpList_store_row rfl 25 (.tmp 4) (.tmp 13) rfl w.heap.size ((sha (sha (strL tag) ++ l)).map fun x => Value.int .u8 (x : Nat)).toArray rfl rfl 25 _ hbl7.out (size32 _ (sha_length _)) (HOLD.out _ (sha_length _)) (oneCells _) ?_)
  refine bodyPost_ret (results_cell_row rfl _ _ w.heap.size 25 _ (0, 0) _ rfl (setRow_heap W7 w.heap.size _ _ _ _ hbl7.out) Tryd.underlying25 rfl (size32 _ (sha_length _))) rfl ?_
  exact ⟨rfl, below_setRow HB7.out (Nat.le_refl _) _⟩
end Go.Proofs.YtmfmgeapecapiaaDoor
namespace Go.Proofs.YtmfmgeapecapiaaDoor
open Go.RowKit SzSha SzTree
set_option linter.unusedVariables false
set_option maxRecDepth 100000
/-- a slice lies in the old one's block or in a new one -/
def OwnG (v0 : Value) (N : Nat) (v : Value) : Prop := v.ownBlock = v0.ownBlock ∨ ∃ g, v.ownBlock = some g ∧ N ≤ g
theorem OwnG.of_grew {v0 v v' : Value} {w w' : World} {N : Nat} (hN : N ≤ w.heap.size) (h : OwnG v0 N v) (k : Grew v v' w w') : OwnG v0 N v' := by
  rcases k.2 with e | ⟨g, e, hg⟩
  · rcases h with e2 | ⟨g, e2, hg⟩
    · exact .inl (e.trans e2)
    · exact .inr ⟨g, e.trans e2, hg⟩
  · exact .inr ⟨g, e, Nat.le_trans hN hg⟩
/-- what the call began with stays, but for the block of the slice that it writes to -/
theorem grown_grew {v0 v v' : Value} {W w w' : World} (hC : W.grownBy w v0.ownBlock) (h : OwnG v0 W.heap.size v) (k : Grew v v' w w') : W.grownBy w' v0.ownBlock :=
  ⟨k.1.os.trans hC.os, k.1.tape.trans hC.tape, k.1.output.trans hC.output, Nat.le_trans hC.size k.1.size, fun i hi hne => (k.1.block i (Nat.lt_of_lt_of_le hi hC.size) (fun e => by
    rcases h with e2 | ⟨g, e2, hg⟩
    · exact hne (e.trans e2)
    · rw [e2] at e
      injection e with e
      omega)).trans (hC.block i hi hne)⟩
theorem grown_below {v0 : Value} {W w w' : World} (hC : W.grownBy w v0.ownBlock) (hb : Below w.heap.size w w') : W.grownBy w' v0.ownBlock :=
  ⟨hb.os.trans hC.os, hb.tape.trans hC.tape, hb.output.trans hC.output, Nat.le_trans hC.size hb.size, fun i hi hne => (hb.block i (Nat.lt_of_lt_of_le hi hC.size)).trans (hC.block i hi hne)⟩
theorem grown_drew (v0 : Value) (W : World) : W.grownBy W.drew v0.ownBlock := ⟨rfl, rfl, rfl, Nat.le_refl _, fun _ _ _ => rfl⟩
theorem grew_of {v0 v : Value} {W w : World} (hC : W.grownBy w v0.ownBlock) (h : OwnG v0 W.heap.size v) : Grew v0 v W w := ⟨hC, h⟩
def wI (base N b : Nat) (v0 : Value) (l : List Nat) (z : Int) (u : Nat) : Nat → Value → World → Prop
  | 0, fv, _ => fv = v0
  | 1, fv, fw => ∃ g, fv = .slice (some ⟨g, 0, none⟩) 1 1 ∧ Rd fw fw.heap.size (some ⟨g, 0, none⟩) [1]
  | 2, fv, fw => OwnB fw base fv (l ++ [1]) ∧ OwnG v0 N fv
  | 3, fv, _ => fv = .pointer (some ⟨b, 1, none⟩)
  | 4, fv, _ => fv = .int .i64 z
  | 5, fv, _ => fv = .int .u64 (u : Nat)
  | 6, fv, fw => OwnB fw base fv (l ++ [1] ++ num u) ∧ OwnG v0 N fv
  | 7, fv, fw => OwnB fw base fv (l ++ [1] ++ num u) ∧ OwnG v0 N fv
  | _, _, _ => True
theorem wI_below {base N b : Nat} {v0 : Value} {l : List Nat} {z : Int} {u : Nat} {w w' : World} (hb : Below w.heap.size w w') : ∀ j v, wI base N b v0 l z u j v w → wI base N b v0 l z u j v w'
  | 0, v, h => h
  | 1, v, ⟨g, h1, h2⟩ => ⟨g, h1, (h2.below hb (Nat.le_refl _)).mono hb.size⟩
  | 2, v, h => ⟨h.1.below hb, h.2⟩
  | 3, v, h => h
  | 4, v, h => h
  | 5, v, h => h
  | 6, v, h => ⟨h.1.below hb, h.2⟩
  | 7, v, h => ⟨h.1.below hb, h.2⟩
  | n + 8, v, h => trivial
theorem updB_self {L : Nat → Bool} {i : Nat} (h : updB L i i = false) : False := by rw [updB_same] at h; cases h
theorem wI_pure {base N b : Nat} {v0 : Value} {l : List Nat} {z : Int} {u : Nat} {w w' : World} : ∀ j v, j ≠ 1 → j ≠ 2 → j ≠ 6 → j ≠ 7 → wI base N b v0 l z u j v w → wI base N b v0 l z u j v w'
  | 0, v, _, _, _, _, h => h
  | 1, v, h, _, _, _, _ => absurd rfl h
  | 2, v, _, h, _, _, _ => absurd rfl h
  | 3, v, _, _, _, _, h => h
  | 4, v, _, _, _, _, h => h
  | 5, v, _, _, _, _, h => h
  | 6, v, _, _, h, _, _ => absurd rfl h
  | 7, v, _, _, _, h, _ => absurd rfl h
  | n + 8, v, _, _, _, _, h => trivial
set_option maxHeartbeats 4000000 in
theorem write_int (v0 : Value) (l : List Nat) (z : Int) (base : Nat) (w : World) (hz1 : -9223372036854775808 ≤ z) (hz2 : z ≤ 9223372036854775807) (hO : Hid (OwnB w base v0 l)) (hl : l.length ≤ 1000000) (hb : base ≤ w.heap.size) :
    Calls Tryd.prog 122 #[v0, .agg #[.int .i64 1, .int .i64 z, .string ⟨#[]⟩, .slice none 0 0]] w fun e w' => ∃ v', e = .returned v' ∧ OwnB w' base v' (l ++ 1 :: num (zig z)) ∧ Grew v0 v' w w' := by
  have hu := zig_lt hz1 hz2
  obtain ⟨u, HU⟩ : ∃ u, Hid (zig z = u) := ⟨_, Lib.hid rfl⟩
  rw [HU.out] at hu
  have HUL := Lib.hid hu
  have ZB := Lib.hid (And.intro hz1 hz2)
  clear hz1 hz2 hu
  have HB0 := Lib.hid ((Below.refl _ w).alloc (Nat.le_refl _) (.cells #[.int .i64 1, .int .i64 z, .string ⟨#[]⟩, .slice none 0 0] 124))
  have HO1 := Lib.hid (hO.out.below HB0.out)
  have HC1 : Hid ((w.alloc (.cells #[.int .i64 1, .int .i64 z, .string ⟨#[]⟩, .slice none 0 0] 124)).cell? ⟨w.heap.size, 1, none⟩ = some (.int .i64 z)) := Lib.hid (by rw [cell_of_row _ _ _ _ _ _ (heap_alloc_new w _)]; rfl)
  have HNE : Hid (some w.heap.size ≠ v0.ownBlock) := Lib.hid (fun e => by have := (hO.out.block _ e.symm).2; omega)
  go_enter Tryd.func122, Tryd.ntmps122
  go_wp2_with fail
  have HBS : Hid (base ≤ (w.alloc (.cells #[.int .i64 1, .int .i64 z, .string ⟨#[]⟩, .slice none 0 0] 124)).heap.size) := Lib.hid (Nat.le_trans hb HB0.out.size)
  generalize w.alloc (.cells #[.int .i64 1, .int .i64 z, .string ⟨#[]⟩, .slice none 0 0] 124) = W1 at *
  refine region_flow3 (by kernel_rfl) (by kernel_rfl) (fun i => Nat.beq i 7) (fun i => i) (by kernel_rfl)
    (fun fx => #[v0, .agg #[.int .i64 1, .int .i64 z, .string ⟨#[]⟩, .slice none 0 0], undef, .pointer (some ⟨w.heap.size, 0, none⟩), fx 7, fx 0, fx 1, fx 2, fx 3, fx 4, fx 5, fx 6])
    (fun i => bif Nat.beq i 7 then .slice none 0 0 else undef) (fun L _ w' => W1.grownBy w' v0.ownBlock ∧ (L 2 = false → OwnB w' base v0 l)) (fun fi fv _ fw => wI base W1.heap.size w.heap.size v0 l z u fi fv fw) ⟨grown_drew v0 W1, fun _ => HO1.out.below (Below.refl _ _).drew⟩ ?_ ?_
  · refine ⟨?_, ?_, ?_, ?_, ?_, ?_, ?_, ?_, trivial⟩
    all_goals intro L fx w' hC hi hcl hdn hd
    · go_wp2_with fail
      exact ⟨_, rfl, ⟨hC.1, fun h => hC.2 h⟩, rfl, fun _ _ _ _ _ h => h⟩
    · go_wp2_with fail
      have hbb : Below w'.heap.size w' (w'.alloc (.cells #[.int .u8 1] 5)) := (Below.refl _ _).alloc (Nat.le_refl _) _
      exact ⟨_, rfl, ⟨grown_below hC.1 hbb, fun h => (hC.2 h).below hbb⟩, ⟨_, rfl, one_rowU w' 1⟩, fun j v t _ _ h => wI_below hbb j v h⟩
    · have h0 : fx 0 = v0 := hd.1 rfl
      obtain ⟨g, h1, hR⟩ := hd.2.1 rfl
      have HOv := Lib.hid (hC.2 hi)
      have HR := Lib.hid hR
      have HSZ := Lib.hid (Nat.le_trans HBS.out hC.1.size)
      have hlen : l.length + 1 ≤ 1099511627776 := by omega
      refine wpList_append_grew rfl (.tmp 5) (.tmp 6) rfl base v0 l [1] h0 HOv (some ⟨g, 0, none⟩) 1 1 h1 (Lib.hid rfl) (fun h => by cases h) HR hlen HSZ.out ?_
      intro v2 w2 HO2 HG2
      clear hd
      go_wp2_with fail
      refine ⟨v2, by rw [← h0, ← h1]; rfl, ⟨grown_grew hC.1 (.inl rfl) HG2.out, fun h => (updB_self h).elim⟩, ⟨HO2.out, OwnG.of_grew hC.1.size (.inl rfl) HG2.out⟩, fun j v t hj hu h => ?_⟩
      refine wI_pure j v ?_ ?_ ?_ ?_ h <;> intro e <;> subst e
      · refine absurd hu (not_needed (E := fun i => Nat.beq i 7) (j := 1) [2] ?_ ?_ ?_)
        · kernel_rfl
        · kernel_rfl
        · intro m hm hne; simp at hm; omega
      · rw [hi] at hj; cases hj
      · have := hcl 6 2 hj (by kernel_rfl); rw [hi] at this; cases this
      · have := hcl 6 2 (hcl 7 6 hj (by kernel_rfl)) (by kernel_rfl); rw [hi] at this; cases this
    · go_wp2_with fail
      exact ⟨_, rfl, ⟨hC.1, fun h => hC.2 h⟩, rfl, fun _ _ _ _ _ h => h⟩
    · have h3 : fx 3 = .pointer (some ⟨w.heap.size, 1, none⟩) := hd.1 rfl
      have hc : w'.cell? ⟨w.heap.size, 1, none⟩ = some (.int .i64 z) := hC.1.cell HC1.out HNE.out
      go_wp2_with fail
      exact ⟨_, by rw [← h3]; rfl, ⟨hC.1, fun h => hC.2 h⟩, rfl, fun _ _ _ _ _ h => h⟩
    · have h4 : fx 4 = .int .i64 z := hd.1 rfl
      go_wp2_with fail
      refine (unsigned_any z _ ZB.out.1 ZB.out.2).mono ?_
      rintro e w2 ⟨rfl, rfl⟩
      rw [HU.out]
      go_wp2_with fail
      exact ⟨_, by rw [← h4]; rfl, ⟨hC.1, fun h => hC.2 h⟩, rfl, fun _ _ _ _ _ h => h⟩
    · have H2 := Lib.hid (hd.1 rfl)
      have h5 : fx 5 = .int .u64 (u : Nat) := hd.2.1 rfl
      have HSZ := Lib.hid (Nat.le_trans HBS.out hC.1.size)
      go_wp2_with fail
      refine (numeral_any (fx 2) (l ++ [1]) u base _ (Lib.hid H2.out.1) (by simp; omega) HUL.out HSZ.out).mono ?_
      rintro e w2 ⟨v2, rfl, hO2, hG2⟩
      have HO2 := Lib.hid hO2
      have HG2 := Lib.hid hG2
      clear hO2 hG2
      go_wp2_with fail
      refine ⟨v2, by rw [← h5]; rfl, ⟨grown_grew hC.1 H2.out.2 HG2.out, fun h => by have h2 : L 2 = false := h; have := hdn 2 (by kernel_rfl); rw [h2] at this; cases this⟩, ⟨HO2.out, OwnG.of_grew hC.1.size H2.out.2 HG2.out⟩, fun j v t hj hu h => ?_⟩
      refine wI_pure j v ?_ ?_ ?_ ?_ h <;> intro e <;> subst e
      · refine absurd hu (not_needed (E := fun i => Nat.beq i 7) (j := 1) [2] ?_ ?_ ?_)
        · kernel_rfl
        · kernel_rfl
        · intro m hm hne; simp at hm; subst hm; exact hdn 2 (by kernel_rfl)
      · refine absurd hu (not_needed (E := fun i => Nat.beq i 7) (j := 2) [6] ?_ ?_ ?_)
        · kernel_rfl
        · kernel_rfl
        · intro m hm hne; simp at hm; omega
      · rw [hi] at hj; cases hj
      · have := hcl 7 6 hj (by kernel_rfl); rw [hi] at this; cases this
    · have H6 := Lib.hid (hd.1 rfl)
      go_wp2_with fail
      exact ⟨fx 6, rfl, ⟨hC.1, fun h => hC.2 h⟩, H6.out, fun _ _ _ _ _ h => h⟩
  · intro L fx w' hC hS
    have H7 := Lib.hid (hS 7 (by decide) rfl)
    have HE : Hid (l ++ 1 :: num (zig z) = l ++ [1] ++ num u) := Lib.hid (by rw [HU.out, List.append_assoc]; rfl)
    have HG := Lib.hid (Grew.ahead HB0.out (grew_of hC.1 H7.out.2))
    clear hC hS
    go_wp2_with fail
    go_ret
    exact ⟨_, rfl, by rw [HE.out]; exact H7.out.1, HG.out⟩
end Go.Proofs.YtmfmgeapecapiaaDoor
namespace Go.Proofs.YtmfmgeapecapiaaDoor
open Go.RowKit SzSha SzTree
set_option linter.unusedVariables false
set_option maxRecDepth 100000
/-- the table of writers -/
structure Wr (w : World) (q c : Nat) : Prop where
  c1 : w.cell? ⟨q, 1, none⟩ = some (.func (.func 122) #[] #[])
  c3 : w.cell? ⟨q, 3, none⟩ = some (.func (.func 126) #[] #[.pointer (some ⟨c, 0, none⟩)])
  p : w.cell? ⟨c, 0, none⟩ = some (.pointer (some ⟨q, 0, none⟩))
theorem Wr.below {w w' : World} {q c : Nat} (h : Wr w q c) (hb : Below w.heap.size w w') : Wr w' q c :=
  ⟨(hb.cell (block_lt_of_cell h.c1)).trans h.c1, (hb.cell (block_lt_of_cell h.c3)).trans h.c3, (hb.cell (block_lt_of_cell h.p)).trans h.p⟩
set_option maxHeartbeats 2000000 in
theorem newWriter_any (w : World) : Calls Tryd.prog 100 #[] w fun e w' => e = .returned (.pointer (some ⟨w.heap.size, 0, none⟩)) ∧ Wr w' w.heap.size (w.heap.size + 1) ∧ Below w.heap.size w w' := by
  go_enter Tryd.func100, Tryd.ntmps100
  go_wp2_with fail
  go_ret
  have h0 := heap_alloc_new w (.cells #[.nilFunc, .func (.func 122) #[] #[], .func (.func 125) #[] #[], .func (.func 126) #[] #[.pointer (some ⟨w.heap.size + 1, 0, none⟩)]] 203)
  have h1 := heap_alloc_new (w.alloc (.cells #[.nilFunc, .func (.func 122) #[] #[], .func (.func 125) #[] #[], .func (.func 126) #[] #[.pointer (some ⟨w.heap.size + 1, 0, none⟩)]] 203)) (.cells #[.pointer (some ⟨w.heap.size, 0, none⟩)] 175)
  have h2 := (Below.heap_alloc (w.alloc (.cells #[.nilFunc, .func (.func 122) #[] #[], .func (.func 125) #[] #[], .func (.func 126) #[] #[.pointer (some ⟨w.heap.size + 1, 0, none⟩)]] 203)) (.cells #[.pointer (some ⟨w.heap.size, 0, none⟩)] 175) w.heap.size (by simp)).trans h0
  rw [World.size_alloc] at h1
  exact ⟨rfl, ⟨by rw [cell_of_row _ _ _ _ _ _ h2]; rfl, by rw [cell_of_row _ _ _ _ _ _ h2]; rfl, by rw [cell_of_row _ _ _ _ _ _ h1]; rfl⟩, ((Below.refl _ w).alloc (Nat.le_refl _) _).alloc (by simp) _⟩
end Go.Proofs.YtmfmgeapecapiaaDoor
namespace Go.Proofs.YtmfmgeapecapiaaDoor
open Go.RowKit SzSha SzTree
set_option linter.unusedVariables false
set_option maxRecDepth 100000

def wL (base : Nat) (N : Nat) (b : Nat) (v0 : Value) (l : List Nat) (A : Option Addr) (n : Nat) (c : Nat) : Nat → Value → World → Prop
  | 0, fv, _ => fv = v0
  | 1, fv, fw => ∃ g, fv = .slice (some ⟨g, 0, none⟩) 1 1 ∧ Rd fw fw.heap.size (some ⟨g, 0, none⟩) [3]
  | 2, fv, fw => OwnB fw base fv (l ++ [3]) ∧ OwnG v0 N fv
  | 3, fv, _ => fv = Value.pointer (some ⟨b, 3, none⟩)
  | 4, fv, _ => fv = Value.slice A n c
  | 5, fv, _ => fv = Value.int .i64 (n)
  | 6, fv, _ => fv = Value.int .u64 (n : Nat)
  | 7, fv, fw => OwnB fw base fv (l ++ [3] ++ num n) ∧ OwnG v0 N fv
  | 8, fv, fw => OwnB fw base fv (l ++ [3] ++ num n) ∧ OwnG v0 N fv
  | _, _, _ => True
theorem wL_below {base : Nat} {N : Nat} {b : Nat} {v0 : Value} {l : List Nat} {A : Option Addr} {n : Nat} {c : Nat} {w w' : World} (hb : Below w.heap.size w w') : ∀ j v, wL base N b v0 l A n c j v w → wL base N b v0 l A n c j v w'
  | 0, v, h => h
  | 1, v, ⟨g, h1, h2⟩ => ⟨g, h1, (h2.below hb (Nat.le_refl _)).mono hb.size⟩
  | 2, v, h => ⟨h.1.below hb, h.2⟩
  | 3, v, h => h
  | 4, v, h => h
  | 5, v, h => h
  | 6, v, h => h
  | 7, v, h => ⟨h.1.below hb, h.2⟩
  | 8, v, h => ⟨h.1.below hb, h.2⟩
  | n + 9, v, h => trivial
theorem wL_pure {base : Nat} {N : Nat} {b : Nat} {v0 : Value} {l : List Nat} {A : Option Addr} {n : Nat} {c : Nat} {w w' : World} : ∀ j v, j ≠ 1 → j ≠ 2 → j ≠ 7 → j ≠ 8 → wL base N b v0 l A n c j v w → wL base N b v0 l A n c j v w'
  | 0, v, _, _, _, _, h => h
  | 1, v, hh, _, _, _, _ => absurd rfl hh
  | 2, v, _, hh, _, _, _ => absurd rfl hh
  | 3, v, _, _, _, _, h => h
  | 4, v, _, _, _, _, h => h
  | 5, v, _, _, _, _, h => h
  | 6, v, _, _, _, _, h => h
  | 7, v, _, _, hh, _, _ => absurd rfl hh
  | 8, v, _, _, _, hh, _ => absurd rfl hh
  | n + 9, v, _, _, _, _, h => trivial

def wM (base : Nat) (W2 : World) (wq : Nat) (xb : Nat) (vb : Value) (l : List Nat) (z : Int) : Nat → Value → World → Prop
  | 0, fv, _ => fv = Value.pointer (some ⟨wq, 0, none⟩)
  | 1, fv, _ => fv = Value.pointer (some ⟨xb, 0, none⟩)
  | 2, fv, _ => fv = Value.int .i64 (1)
  | 3, fv, _ => fv = Value.pointer (some ⟨wq, 0, none⟩)
  | 4, fv, _ => fv = Value.pointer (some ⟨wq, 1, none⟩)
  | 5, fv, _ => fv = Value.pointer (some ⟨wq, 1, none⟩)
  | 6, fv, _ => fv = Value.func (.func 122) #[] #[]
  | 7, fv, _ => fv = vb
  | 8, fv, _ => fv = Value.agg #[.int .i64 1, .int .i64 z, .string ⟨#[]⟩, .slice none 0 0]
  | 9, fv, fw => OwnB fw base fv (l ++ 1 :: num (zig z)) ∧ Grew vb fv W2 fw
  | 10, fv, fw => OwnB fw base fv (l ++ 1 :: num (zig z)) ∧ Grew vb fv W2 fw
  | _, _, _ => True
theorem wM_pure {base : Nat} {W2 : World} {wq : Nat} {xb : Nat} {vb : Value} {l : List Nat} {z : Int} {w w' : World} : ∀ j v, j ≠ 9 → j ≠ 10 → wM base W2 wq xb vb l z j v w → wM base W2 wq xb vb l z j v w'
  | 0, v, _, _, h => h
  | 1, v, _, _, h => h
  | 2, v, _, _, h => h
  | 3, v, _, _, h => h
  | 4, v, _, _, h => h
  | 5, v, _, _, h => h
  | 6, v, _, _, h => h
  | 7, v, _, _, h => h
  | 8, v, _, _, h => h
  | 9, v, hh, _, _ => absurd rfl hh
  | 10, v, _, hh, _ => absurd rfl hh
  | n + 11, v, _, _, h => trivial

set_option maxHeartbeats 4000000 in
theorem write_list (zs : List Int) (v0 : Value) (l : List Nat) (A : Option Addr) (c wq wc base : Nat) (w : World) (hz : Hid (∀ z ∈ zs, -9223372036854775808 ≤ z ∧ z ≤ 9223372036854775807)) (hn : zs.length ≤ 1000) (hV : Hid (VRd w w.heap.size A zs)) (hO : Hid (OwnB w base v0 l)) (hl : l.length ≤ 1000) (hb : base ≤ w.heap.size) (hW : Hid (Wr w wq wc))
    (hvq : Hid (v0.ownBlock ≠ some wq)) (hvc : Hid (v0.ownBlock ≠ some wc)) (hvA : Hid (∀ a, A = some a → v0.ownBlock ≠ some a.block)) :
    Calls Tryd.prog 126 #[v0, .agg #[.int .i64 3, .int .i64 0, .string ⟨#[]⟩, .slice A zs.length c], .pointer (some ⟨wc, 0, none⟩)] w fun e w' => ∃ v', e = .returned v' ∧ OwnB w' base v' (l ++ encI zs) ∧ Grew v0 v' w w' := by
  obtain ⟨n, HN⟩ : ∃ n, Hid (zs.length = n) := ⟨_, Lib.hid rfl⟩
  rw [HN.out]
  have hn' : n ≤ 1000 := by rw [← HN.out]; exact hn
  clear hn
  have HB0 := Lib.hid ((Below.refl _ w).alloc (Nat.le_refl _) (.cells #[.int .i64 3, .int .i64 0, .string ⟨#[]⟩, .slice A n c] 124))
  have HO1 := Lib.hid (hO.out.below HB0.out)
  have HC3 : Hid ((w.alloc (.cells #[.int .i64 3, .int .i64 0, .string ⟨#[]⟩, .slice A n c] 124)).cell? ⟨w.heap.size, 3, none⟩ = some (.slice A n c)) := Lib.hid (by rw [cell_of_row _ _ _ _ _ _ (heap_alloc_new w _)]; rfl)
  have HNE : Hid (some w.heap.size ≠ v0.ownBlock) := Lib.hid (fun e => by have := (hO.out.block _ e.symm).2; omega)
  have HWR : Hid (IntKind.u64.wrap (n : Int) = (n : Int)) := Lib.hid (by rw [IntKind.wrap_u64]; omega)
  go_enter Tryd.func126, Tryd.ntmps126
  go_wp2_with fail
  have HBS : Hid (base ≤ (w.alloc (.cells #[.int .i64 3, .int .i64 0, .string ⟨#[]⟩, .slice A n c] 124)).heap.size) := Lib.hid (Nat.le_trans hb HB0.out.size)
  have HZ1 : Hid (w.heap.size < (w.alloc (.cells #[.int .i64 3, .int .i64 0, .string ⟨#[]⟩, .slice A n c] 124)).heap.size) := Lib.hid (by simp)
  generalize w.alloc (.cells #[.int .i64 3, .int .i64 0, .string ⟨#[]⟩, .slice A n c] 124) = W1 at *

  refine region_flow3 (by kernel_rfl) (by kernel_rfl) (fun i => Nat.beq i 8) (fun i => i) (by kernel_rfl) (fun fx => #[fx 8, Value.agg #[.int .i64 3, .int .i64 0, .string ⟨#[]⟩, .slice A n c], Value.pointer (some ⟨wc, 0, none⟩), undef, Value.pointer (some ⟨w.heap.size, 0, none⟩), Value.slice none 0 0, undef, undef, fx 0, fx 1, fx 2, fx 3, fx 4, fx 5, fx 6, fx 7, undef, undef, undef, undef, undef, undef, undef, undef, undef, undef, undef, undef, undef, undef, undef, undef, undef, undef, undef]) (fun i => bif Nat.beq i 8 then v0 else undef) (fun L fx w' => W1.grownBy w' v0.ownBlock ∧ (L 2 = false → OwnB w' base v0 l) ∧ (L 8 = false → fx 8 = v0)) (fun fi fv _ fw => wL base W1.heap.size w.heap.size v0 l A n c fi fv fw) ⟨grown_drew v0 W1, fun _ => HO1.out.below (Below.refl _ _).drew, fun _ => rfl⟩ ?_ ?_
  · refine ⟨?_, ?_, ?_, ?_, ?_, ?_, ?_, ?_, ?_, trivial⟩
    all_goals intro L fx w' hC hi hcl hdn hd
    · have h8 : fx 8 = v0 := hC.2.2 (Bool.eq_false_iff.2 fun h => by have := hcl 7 2 (hcl 8 7 h (by kernel_rfl)) (by kernel_rfl); have := hcl 2 0 this (by kernel_rfl); rw [hi] at this; cases this)
      go_wp2_with fail
      exact ⟨_, by rw [← h8]; rfl, ⟨hC.1, fun h => hC.2.1 h, fun h => hC.2.2 h⟩, rfl, fun _ _ _ _ _ h => h⟩
    · go_wp2_with fail
      have hbb : Below w'.heap.size w' (w'.alloc (.cells #[.int .u8 3] 5)) := (Below.refl _ _).alloc (Nat.le_refl _) _
      exact ⟨_, rfl, ⟨grown_below hC.1 hbb, fun h => (hC.2.1 h).below hbb, fun h => hC.2.2 h⟩, ⟨_, rfl, one_rowU w' 3⟩, fun j v t _ _ h => wL_below hbb j v h⟩
    · have h0 : fx 0 = v0 := hd.1 rfl
      have H1 := Lib.hid (hd.2.1 rfl)
      obtain ⟨g, h1, hR⟩ := H1.out
      have HOv := Lib.hid (hC.2.1 hi)
      have HR := Lib.hid hR
      have HSZ := Lib.hid (Nat.le_trans HBS.out hC.1.size)
      have hlen : l.length + 1 ≤ 1099511627776 := by omega
      refine wpList_append_grew rfl (.tmp 8) (.tmp 9) rfl base v0 l [3] h0 HOv (some ⟨g, 0, none⟩) 1 1 h1 (Lib.hid rfl) (fun h => by cases h) HR hlen HSZ.out ?_
      intro v2 w2 HO2 HG2
      clear hd
      go_wp2_with fail
      refine ⟨v2, by rw [← h0, ← h1]; rfl, ⟨grown_grew hC.1 (.inl rfl) HG2.out, fun h => (updB_self h).elim, fun h => hC.2.2 h⟩, ⟨HO2.out, OwnG.of_grew hC.1.size (.inl rfl) HG2.out⟩, fun j v t hj hu h => ?_⟩
      refine wL_pure j v ?_ ?_ ?_ ?_ h <;> intro e <;> subst e
      · refine absurd hu (not_needed (E := fun i => Nat.beq i 8) (j := 1) [2] ?_ ?_ ?_)
        · kernel_rfl
        · kernel_rfl
        · intro m hm hne; simp at hm; omega
      · rw [hi] at hj; cases hj
      · have := hcl 7 2 hj (by kernel_rfl); rw [hi] at this; cases this
      · have := hcl 7 2 (hcl 8 7 hj (by kernel_rfl)) (by kernel_rfl); rw [hi] at this; cases this
    · go_wp2_with fail
      exact ⟨_, rfl, ⟨hC.1, fun h => hC.2.1 h, fun h => hC.2.2 h⟩, rfl, fun _ _ _ _ _ h => h⟩
    · have h3 : fx 3 = Value.pointer (some ⟨w.heap.size, 3, none⟩) := hd.1 rfl
      have hc : w'.cell? ⟨w.heap.size, 3, none⟩ = some (.slice A n c) := hC.1.cell HC3.out HNE.out
      go_wp2_with fail
      exact ⟨_, by rw [← h3]; rfl, ⟨hC.1, fun h => hC.2.1 h, fun h => hC.2.2 h⟩, rfl, fun _ _ _ _ _ h => h⟩
    · have h4 : fx 4 = Value.slice A n c := hd.1 rfl
      go_wp2_with fail
      exact ⟨_, by rw [← h4]; rfl, ⟨hC.1, fun h => hC.2.1 h, fun h => hC.2.2 h⟩, rfl, fun _ _ _ _ _ h => h⟩
    · have h5 : fx 5 = Value.int .i64 (n) := hd.1 rfl
      have hw : IntKind.u64.wrap (n : Int) = (n : Int) := HWR.out
      go_wp2_with fail
      exact ⟨_, by rw [← h5]; rfl, ⟨hC.1, fun h => hC.2.1 h, fun h => hC.2.2 h⟩, rfl, fun _ _ _ _ _ h => h⟩
    · have H2 := Lib.hid (hd.1 rfl)
      have h6 : fx 6 = Value.int .u64 (n : Nat) := hd.2.1 rfl
      have HSZ := Lib.hid (Nat.le_trans HBS.out hC.1.size)
      go_wp2_with fail
      refine (numeral_any (fx 2) (l ++ [3]) n base _ (Lib.hid H2.out.1) (by simp; omega) (by omega) HSZ.out).mono ?_
      rintro e w2 ⟨v2, rfl, hO2, hG2⟩
      have HO2 := Lib.hid hO2
      have HG2 := Lib.hid hG2
      clear hO2 hG2
      go_wp2_with fail
      refine ⟨v2, by rw [← h6]; rfl, ⟨grown_grew hC.1 H2.out.2 HG2.out, (fun h => by have h2 : L 2 = false := h; have := hdn 2 (by kernel_rfl); rw [h2] at this; cases this), fun h => hC.2.2 h⟩, ⟨HO2.out, OwnG.of_grew hC.1.size H2.out.2 HG2.out⟩, fun j v t hj hu h => ?_⟩
      refine wL_pure j v ?_ ?_ ?_ ?_ h <;> intro e <;> subst e
      · refine absurd hu (not_needed (E := fun i => Nat.beq i 8) (j := 1) [2] ?_ ?_ ?_)
        · kernel_rfl
        · kernel_rfl
        · intro m hm hne; simp at hm; subst hm; exact hdn 2 (by kernel_rfl)
      · refine absurd hu (not_needed (E := fun i => Nat.beq i 8) (j := 2) [7] ?_ ?_ ?_)
        · kernel_rfl
        · kernel_rfl
        · intro m hm hne; simp at hm; omega
      · rw [hi] at hj; cases hj
      · have := hcl 8 7 hj (by kernel_rfl); rw [hi] at this; cases this
    · have H7 := Lib.hid (hd.1 rfl)
      go_wp2_with fail
      exact ⟨fx 7, rfl, ⟨hC.1, fun h => hC.2.1 h, fun h => (updB_self h).elim⟩, H7.out, fun _ _ _ _ _ h => h⟩
  · intro L fo w' hC hS
    have H8 := Lib.hid (hS 8 (by decide) rfl)

    have HC3' := Lib.hid (hC.1.cell HC3.out HNE.out)
    have hc3 := HC3'.out
    have HG1 := Lib.hid (Grew.ahead HB0.out (grew_of hC.1 H8.out.2))
    clear hC hS HC3
    go_wp2_with fail
    clear hc3
    go_loopw [0, 19] (fun vb i wr => ∃ j : Nat, j ≤ n ∧ i = .int .i64 j ∧ Hid (OwnB wr base vb (l ++ [3] ++ num n ++ (zs.take j).flatMap fun z => 1 :: num (zig z))) ∧ Hid (Grew v0 vb w wr)) (fun _ i _ => n - (intOf i).toNat)
    case atStart => exact ⟨0, by omega, rfl, Lib.hid (by rw [List.take_zero, List.flatMap_nil, List.append_nil]; exact H8.out.1), HG1⟩
    case round =>
      clear H8 HG1 HC3' HBS HZ1 HWR HNE HO1 HB0
      obtain ⟨j, hj, rfl, hO2, HG⟩ := hrel
      by_cases hlt : j < n
      · obtain ⟨g, rfl, hg, hv⟩ := hV.out (by rw [HN.out]; omega)
        have hgk : some g ≠ v0.ownBlock := fun e => hvA.out _ rfl e.symm
        have hv2 := hv j (by rw [HN.out]; exact hlt)
        obtain ⟨z, HZ⟩ : ∃ z, Hid (zs[j]'(by rw [HN.out]; exact hlt) = z) := ⟨_, Lib.hid rfl⟩
        rw [HZ.out, Nat.zero_add] at hv2
        obtain ⟨k0, k1, k2, k3⟩ := hv2
        replace k0 := HG.out.1.cell k0 hgk
        replace k1 := HG.out.1.cell k1 hgk
        replace k2 := HG.out.1.cell k2 hgk
        replace k3 := HG.out.1.cell k3 hgk
        have HWR := Lib.hid (show Wr wr wq wc from ⟨HG.out.1.cell hW.out.c1 (fun e => hvq.out e.symm), HG.out.1.cell hW.out.c3 (fun e => hvq.out e.symm), HG.out.1.cell hW.out.p (fun e => hvc.out e.symm)⟩)
        have d1 : decide ((j : Int) < (n : Int)) = true := decide_eq_true (by omega)
        have ZB : Hid (-9223372036854775808 ≤ z ∧ z ≤ 9223372036854775807) := Lib.hid (by rw [← HZ.out]; exact hz.out _ (List.getElem_mem _))
        have HLN : Hid ((l ++ [3] ++ num n ++ (zs.take j).flatMap fun z => 1 :: num (zig z)).length ≤ 1000000) := Lib.hid (by
          have h1 := flat_length (zs.take j)
          have h2 := numB_length 10 n
          have h3 : (zs.take j).length ≤ 1000 := by rw [List.length_take]; omega
          simp only [List.length_append, List.length_cons, List.length_nil, num] at *
          omega)
        have HNX : Hid ((l ++ [3] ++ num n ++ (zs.take j).flatMap fun z => 1 :: num (zig z)) ++ 1 :: num (zig z) = l ++ [3] ++ num n ++ (zs.take (j + 1)).flatMap fun z => 1 :: num (zig z)) := Lib.hid (by
          rw [List.take_succ_eq_append_getElem (by rw [HN.out]; exact hlt), List.flatMap_append, HZ.out]; simp)
        obtain ⟨l2, HL2⟩ : ∃ l2, Hid ((l ++ [3] ++ num n ++ (zs.take j).flatMap fun z => 1 :: num (zig z)) = l2) := ⟨_, Lib.hid rfl⟩
        rw [HL2.out] at hO2 HLN HNX
        have HVZ := Lib.hid hv
        clear hv
        go_wp2_with fail
        clear k0 k1 k2 k3
        have HB2 := Lib.hid ((Below.refl _ wr).alloc (Nat.le_refl _) (.cells #[.int .i64 1, .int .i64 z, .string ⟨#[]⟩, .slice none 0 0] 124))
        have HO2 := Lib.hid (hO2.out.below HB2.out)
        have HW2 := Lib.hid (HWR.out.below HB2.out)
        have HX := heap_alloc_new wr (.cells #[.int .i64 1, .int .i64 z, .string ⟨#[]⟩, .slice none 0 0] 124)
        have HX0 : Hid ((wr.alloc (.cells #[.int .i64 1, .int .i64 z, .string ⟨#[]⟩, .slice none 0 0] 124)).cell? ⟨wr.heap.size, 0, none⟩ = some (.int .i64 1)) := Lib.hid (by rw [cell_of_row _ _ _ _ _ _ HX]; rfl)
        have HX1 : Hid ((wr.alloc (.cells #[.int .i64 1, .int .i64 z, .string ⟨#[]⟩, .slice none 0 0] 124)).cell? ⟨wr.heap.size, 1, none⟩ = some (.int .i64 z)) := Lib.hid (by rw [cell_of_row _ _ _ _ _ _ HX]; rfl)
        have HX2 : Hid ((wr.alloc (.cells #[.int .i64 1, .int .i64 z, .string ⟨#[]⟩, .slice none 0 0] 124)).cell? ⟨wr.heap.size, 2, none⟩ = some (.string ⟨#[]⟩)) := Lib.hid (by rw [cell_of_row _ _ _ _ _ _ HX]; rfl)
        have HX3 : Hid ((wr.alloc (.cells #[.int .i64 1, .int .i64 z, .string ⟨#[]⟩, .slice none 0 0] 124)).cell? ⟨wr.heap.size, 3, none⟩ = some (.slice none 0 0)) := Lib.hid (by rw [cell_of_row _ _ _ _ _ _ HX]; rfl)
        have HBW : Hid (base ≤ (wr.alloc (.cells #[.int .i64 1, .int .i64 z, .string ⟨#[]⟩, .slice none 0 0] 124)).heap.size) := Lib.hid (Nat.le_trans (Nat.le_trans hb HG.out.1.size) HB2.out.size)
        clear HX
        generalize wr.alloc (.cells #[.int .i64 1, .int .i64 z, .string ⟨#[]⟩, .slice none 0 0] 124) = W2 at *

        refine region_flow3 (by kernel_rfl) (by kernel_rfl) (fun i => Nat.beq i 10) (fun i => i) (by kernel_rfl) (fun fx => #[fx 10, Value.agg #[Value.int IntKind.i64 3, Value.int IntKind.i64 0, Value.string { data := #[] }, Value.slice (some { block := g, off := 0 }) n c], Value.pointer (some { block := wc, off := 0 }), undef, Value.pointer (some { block := w.heap.size, off := 0 }), Value.slice none 0 0, undef, Value.pointer (some { block := wr.heap.size, off := 0 }), fo 0, fo 1, fo 2, fo 3, fo 4, fo 5, fo 6, fo 7, Value.pointer (some { block := w.heap.size, off := 3 }), Value.slice (some { block := g, off := 0 }) n c, Value.int IntKind.i64 ↑n, Value.int IntKind.i64 ↑j, Value.bool true, Value.pointer (some { block := g, off := j * 4 }), Value.agg #[Value.int IntKind.i64 1, Value.int IntKind.i64 z, Value.string { data := #[] }, Value.slice none 0 0], fx 0, fx 1, fx 2, fx 3, fx 4, fx 5, fx 6, fx 7, fx 8, fx 9, u33, undef]) (fun i => bif Nat.beq i 0 then u23 else bif Nat.beq i 1 then u24 else bif Nat.beq i 2 then u25 else bif Nat.beq i 3 then u26 else bif Nat.beq i 4 then u27 else bif Nat.beq i 5 then u28 else bif Nat.beq i 6 then u29 else bif Nat.beq i 7 then u30 else bif Nat.beq i 8 then u31 else bif Nat.beq i 9 then u32 else bif Nat.beq i 10 then u0 else undef) (fun L fx w' => (L 9 = false → Below W2.heap.size W2 w') ∧ (L 10 = false → fx 10 = u0)) (fun fi fv _ fw => wM base W2 wq wr.heap.size u0 l2 z fi fv fw) ⟨fun _ => (Below.refl _ _).drew, fun _ => rfl⟩ ?_ ?_
        · refine ⟨?_, ?_, ?_, ?_, ?_, ?_, ?_, ?_, ?_, ?_, ?_, trivial⟩
          all_goals intro L fx w' hC hi hcl hdn hd
          · have hnd : L 9 = false := Bool.eq_false_iff.2 (fun h => by have := (hcl 3 0 (hcl 4 3 (hcl 5 4 (hcl 6 5 (hcl 9 6 h (by kernel_rfl)) (by kernel_rfl)) (by kernel_rfl)) (by kernel_rfl)) (by kernel_rfl)); rw [hi] at this; cases this)
            have hc := ((hC.1 hnd).cell (block_lt_of_cell HW2.out.p)).trans HW2.out.p
            go_wp2_with fail
            exact ⟨_, rfl, ⟨fun _ => hC.1 hnd, fun h => hC.2 h⟩, rfl, fun _ _ _ _ _ h => h⟩
          · have hnd : L 9 = false := Bool.eq_false_iff.2 (fun h => by have := (hcl 2 1 (hcl 4 2 (hcl 5 4 (hcl 6 5 (hcl 9 6 h (by kernel_rfl)) (by kernel_rfl)) (by kernel_rfl)) (by kernel_rfl)) (by kernel_rfl)); rw [hi] at this; cases this)
            go_wp2_with fail
            exact ⟨_, rfl, ⟨fun _ => hC.1 hnd, fun h => hC.2 h⟩, rfl, fun _ _ _ _ _ h => h⟩
          · have h1 : fx 1 = Value.pointer (some ⟨wr.heap.size, 0, none⟩) := hd.1 rfl
            have hnd : L 9 = false := Bool.eq_false_iff.2 (fun h => by have := (hcl 4 2 (hcl 5 4 (hcl 6 5 (hcl 9 6 h (by kernel_rfl)) (by kernel_rfl)) (by kernel_rfl)) (by kernel_rfl)); rw [hi] at this; cases this)
            have hc := ((hC.1 hnd).cell (block_lt_of_cell HX0.out)).trans HX0.out
            go_wp2_with fail
            exact ⟨_, by rw [← h1]; rfl, ⟨fun _ => hC.1 hnd, fun h => hC.2 h⟩, rfl, fun _ _ _ _ _ h => h⟩
          · have h0 : fx 0 = Value.pointer (some ⟨wq, 0, none⟩) := hd.1 rfl
            have hnd : L 9 = false := Bool.eq_false_iff.2 (fun h => by have := (hcl 4 3 (hcl 5 4 (hcl 6 5 (hcl 9 6 h (by kernel_rfl)) (by kernel_rfl)) (by kernel_rfl)) (by kernel_rfl)); rw [hi] at this; cases this)
            go_wp2_with fail
            exact ⟨_, by rw [← h0]; rfl, ⟨fun _ => hC.1 hnd, fun h => hC.2 h⟩, rfl, fun _ _ _ _ _ h => h⟩
          · have h3 : fx 3 = Value.pointer (some ⟨wq, 0, none⟩) := hd.1 rfl
            have h2 : fx 2 = Value.int .i64 (1) := hd.2.1 rfl
            have hnd : L 9 = false := Bool.eq_false_iff.2 (fun h => by have := (hcl 5 4 (hcl 6 5 (hcl 9 6 h (by kernel_rfl)) (by kernel_rfl)) (by kernel_rfl)); rw [hi] at this; cases this)
            go_wp2_with fail
            exact ⟨_, by rw [← h3, ← h2]; rfl, ⟨fun _ => hC.1 hnd, fun h => hC.2 h⟩, rfl, fun _ _ _ _ _ h => h⟩
          · have h4 : fx 4 = Value.pointer (some ⟨wq, 1, none⟩) := hd.1 rfl
            have hnd : L 9 = false := Bool.eq_false_iff.2 (fun h => by have := (hcl 6 5 (hcl 9 6 h (by kernel_rfl)) (by kernel_rfl)); rw [hi] at this; cases this)
            go_wp2_with fail
            exact ⟨_, by rw [← h4]; rfl, ⟨fun _ => hC.1 hnd, fun h => hC.2 h⟩, rfl, fun _ _ _ _ _ h => h⟩
          · have h5 : fx 5 = Value.pointer (some ⟨wq, 1, none⟩) := hd.1 rfl
            have hnd : L 9 = false := Bool.eq_false_iff.2 (fun h => by have := (hcl 9 6 h (by kernel_rfl)); rw [hi] at this; cases this)
            have hc := ((hC.1 hnd).cell (block_lt_of_cell HW2.out.c1)).trans HW2.out.c1
            go_wp2_with fail
            exact ⟨_, by rw [← h5]; rfl, ⟨fun _ => hC.1 hnd, fun h => hC.2 h⟩, rfl, fun _ _ _ _ _ h => h⟩
          · have hnd : L 9 = false := Bool.eq_false_iff.2 (fun h => by have := (hcl 9 7 h (by kernel_rfl)); rw [hi] at this; cases this)
            have h10 : fx 10 = u0 := hC.2 (Bool.eq_false_iff.2 (fun h => by have := (hcl 9 7 (hcl 10 9 h (by kernel_rfl)) (by kernel_rfl)); rw [hi] at this; cases this))
            go_wp2_with fail
            exact ⟨_, by rw [← h10]; rfl, ⟨fun _ => hC.1 hnd, fun h => hC.2 h⟩, rfl, fun _ _ _ _ _ h => h⟩
          · have hnd : L 9 = false := Bool.eq_false_iff.2 (fun h => by have := (hcl 9 8 h (by kernel_rfl)); rw [hi] at this; cases this)
            have hc0 := ((hC.1 hnd).cell (block_lt_of_cell HX0.out)).trans HX0.out
            have hc1 := ((hC.1 hnd).cell (block_lt_of_cell HX1.out)).trans HX1.out
            have hc2 := ((hC.1 hnd).cell (block_lt_of_cell HX2.out)).trans HX2.out
            have hc3 := ((hC.1 hnd).cell (block_lt_of_cell HX3.out)).trans HX3.out
            go_wp2_with fail
            exact ⟨_, rfl, ⟨fun _ => hC.1 hnd, fun h => hC.2 h⟩, rfl, fun _ _ _ _ _ h => h⟩
          · have h6 : fx 6 = Value.func (.func 122) #[] #[] := hd.1 rfl
            have h7 : fx 7 = u0 := hd.2.1 rfl
            have h8 : fx 8 = Value.agg #[.int .i64 1, .int .i64 z, .string ⟨#[]⟩, .slice none 0 0] := hd.2.2.1 rfl
            have hb9 := hC.1 hi
            have HOv := Lib.hid (HO2.out.below hb9)
            go_wp2_with fail
            refine (write_int u0 l2 z base _ ZB.out.1 ZB.out.2 HOv HLN.out (Nat.le_trans HBW.out hb9.size)).mono ?_
            rintro e w2 ⟨v2, rfl, hO3, hG3⟩
            have HO3 := Lib.hid hO3
            have HG3 := Lib.hid hG3
            clear hO3 hG3
            go_wp2_with fail
            refine ⟨v2, by rw [← h8, ← h6, ← h7]; rfl, ⟨fun h => (updB_self h).elim, fun h => hC.2 h⟩, ⟨HO3.out, Grew.ahead hb9 HG3.out⟩, fun j v t hj hu h => ?_⟩
            refine wM_pure j v ?_ ?_ h <;> intro e <;> subst e
            · rw [hi] at hj; cases hj
            · have := hcl 10 9 hj (by kernel_rfl); rw [hi] at this; cases this
          · have H9 := Lib.hid (hd.1 rfl)
            go_wp2_with fail
            exact ⟨fx 9, rfl, ⟨fun h => hC.1 h, fun h => (updB_self h).elim⟩, H9.out, fun _ _ _ _ _ h => h⟩
        · intro L fx w' hC hS
          have H10 := Lib.hid (hS 10 (by decide) rfl)

          have HO9 : Hid (OwnB w' base (fx 10) (l ++ [3] ++ num n ++ (zs.take (j + 1)).flatMap fun z => 1 :: num (zig z))) := Lib.hid (by rw [← HNX.out]; exact H10.out.1)
          have HG9 := Lib.hid (HG.out.trans (Grew.ahead HB2.out H10.out.2))
          clear hC hS H10
          go_wp2_with fail
          go_roundw
          case rel => exact ⟨j + 1, by omega, by go_num, HO9, HG9⟩
          case measure => simp [intOf]; omega
      · have d1 : decide ((j : Int) < (n : Int)) = false := decide_eq_false (by omega)
        have HE : Hid (l ++ encI zs = l ++ [3] ++ num n ++ (zs.take j).flatMap fun z => 1 :: num (zig z)) := Lib.hid (by
          rw [List.take_of_length_le (by rw [HN.out]; omega)]; unfold encI; rw [HN.out]; simp)
        go_wp2_with fail
        go_ret
        exact ⟨_, rfl, by rw [HE.out]; exact hO2.out, HG.out⟩
end Go.Proofs.YtmfmgeapecapiaaDoor
namespace Go.Proofs.YtmfmgeapecapiaaDoor
open Go.RowKit SzSha SzTree
set_option linter.unusedVariables false
set_option maxRecDepth 100000

def wE (N : Nat) (W1 : World) (b : Nat) (zs : List Int) (A : Option Addr) (n : Nat) (c : Nat) : Nat → Value → World → Prop
  | 0, fv, fw => ∃ q c2, fv = Value.pointer (some ⟨q, 0, none⟩) ∧ Wr fw q c2 ∧ N ≤ q ∧ N ≤ c2
  | 1, fv, _ => fv = Value.pointer (some ⟨b, 0, none⟩)
  | 2, fv, _ => fv = Value.int .i64 (3)
  | 3, fv, fw => ∃ q c2, fv = Value.pointer (some ⟨q, 0, none⟩) ∧ Wr fw q c2 ∧ N ≤ q ∧ N ≤ c2
  | 4, fv, fw => ∃ q c2, fv = Value.pointer (some ⟨q, 3, none⟩) ∧ Wr fw q c2 ∧ N ≤ q ∧ N ≤ c2
  | 5, fv, fw => ∃ q c2, fv = Value.pointer (some ⟨q, 3, none⟩) ∧ Wr fw q c2 ∧ N ≤ q ∧ N ≤ c2
  | 6, fv, fw => ∃ q c2, fv = Value.func (.func 126) #[] #[.pointer (some ⟨c2, 0, none⟩)] ∧ Wr fw q c2 ∧ N ≤ q ∧ N ≤ c2
  | 7, fv, _ => fv = Value.agg #[.int .i64 3, .int .i64 0, .string ⟨#[]⟩, .slice A n c]
  | 8, fv, fw => OwnB fw N fv (encI zs) ∧ Below N W1 fw
  | 9, fv, fw => OwnB fw N fv (encI zs) ∧ Below N W1 fw
  | 10, fv, _ => fv = Value.int .i64 (0)
  | _, _, _ => True
theorem wE_below {N : Nat} {W1 : World} {b : Nat} {zs : List Int} {A : Option Addr} {n : Nat} {c : Nat} {w w' : World} (hN : N ≤ W1.heap.size) (hb : Below w.heap.size w w') : ∀ j v, wE N W1 b zs A n c j v w → wE N W1 b zs A n c j v w'
  | 0, v, ⟨q, c2, h1, h2, h3⟩ => ⟨q, c2, h1, h2.below hb, h3⟩
  | 1, v, h => h
  | 2, v, h => h
  | 3, v, ⟨q, c2, h1, h2, h3⟩ => ⟨q, c2, h1, h2.below hb, h3⟩
  | 4, v, ⟨q, c2, h1, h2, h3⟩ => ⟨q, c2, h1, h2.below hb, h3⟩
  | 5, v, ⟨q, c2, h1, h2, h3⟩ => ⟨q, c2, h1, h2.below hb, h3⟩
  | 6, v, ⟨q, c2, h1, h2, h3⟩ => ⟨q, c2, h1, h2.below hb, h3⟩
  | 7, v, h => h
  | 8, v, h => ⟨h.1.below hb, h.2.trans (hb.mono (Nat.le_trans hN h.2.size))⟩
  | 9, v, h => ⟨h.1.below hb, h.2.trans (hb.mono (Nat.le_trans hN h.2.size))⟩
  | 10, v, h => h
  | n + 11, v, h => trivial
theorem wE_pure {N : Nat} {W1 : World} {b : Nat} {zs : List Int} {A : Option Addr} {n : Nat} {c : Nat} {w w' : World} : ∀ j v, j ≠ 0 → j ≠ 3 → j ≠ 4 → j ≠ 5 → j ≠ 6 → j ≠ 8 → j ≠ 9 → wE N W1 b zs A n c j v w → wE N W1 b zs A n c j v w'
  | 0, v, hh, _, _, _, _, _, _, _ => absurd rfl hh
  | 1, v, _, _, _, _, _, _, _, h => h
  | 2, v, _, _, _, _, _, _, _, h => h
  | 3, v, _, hh, _, _, _, _, _, _ => absurd rfl hh
  | 4, v, _, _, hh, _, _, _, _, _ => absurd rfl hh
  | 5, v, _, _, _, hh, _, _, _, _ => absurd rfl hh
  | 6, v, _, _, _, _, hh, _, _, _ => absurd rfl hh
  | 7, v, _, _, _, _, _, _, _, h => h
  | 8, v, _, _, _, _, _, hh, _, _ => absurd rfl hh
  | 9, v, _, _, _, _, _, _, hh, _ => absurd rfl hh
  | 10, v, _, _, _, _, _, _, _, h => h
  | n + 11, v, _, _, _, _, _, _, _, h => trivial

set_option maxHeartbeats 4000000 in
theorem encode_list (zs : List Int) (A : Option Addr) (c : Nat) (w : World) (hz : Hid (∀ z ∈ zs, -9223372036854775808 ≤ z ∧ z ≤ 9223372036854775807)) (hn : zs.length ≤ 1000) (hV : Hid (VRd w w.heap.size A zs)) :
    Calls Tryd.prog 56 #[.agg #[.int .i64 3, .int .i64 0, .string ⟨#[]⟩, .slice A zs.length c]] w fun e w' => ∃ v', e = .returned (.tuple #[v', .int .i64 0]) ∧ OwnB w' w.heap.size v' (encI zs) ∧ Below w.heap.size w w' := by
  obtain ⟨n, HN⟩ : ∃ n, Hid (zs.length = n) := ⟨_, Lib.hid rfl⟩
  rw [HN.out]
  have hn' : n ≤ 1000 := by rw [← HN.out]; exact hn
  have HB0 := Lib.hid ((Below.refl _ w).alloc (Nat.le_refl _) (.cells #[.int .i64 3, .int .i64 0, .string ⟨#[]⟩, .slice A n c] 124))
  have HX := heap_alloc_new w (.cells #[.int .i64 3, .int .i64 0, .string ⟨#[]⟩, .slice A n c] 124)
  have HX' := Lib.hid HX
  have HVA := Lib.hid (hV.out.below HB0.out)
  clear HX
  go_enter Tryd.func56, Tryd.ntmps56
  go_wp2_with fail
  have hck := vcheck_list zs A c (w.alloc (.cells #[.int .i64 3, .int .i64 0, .string ⟨#[]⟩, .slice A n c] 124)) hn HVA
  rw [HN.out] at hck
  refine hck.mono ?_
  rintro e W1 ⟨rfl, hq⟩
  have HB1 := Lib.hid (HB0.out.trans (hq.mono HB0.out.size))
  have HX1' := Lib.hid ((hq.block w.heap.size (by simp)).trans HX'.out)
  have hV1 := Lib.hid (hV.out.below HB1.out)
  have HX0 : Hid (W1.cell? ⟨w.heap.size, 0, none⟩ = some (.int .i64 3)) := Lib.hid (by rw [cell_of_row _ _ _ _ _ _ HX1'.out]; rfl)
  have HX1 : Hid (W1.cell? ⟨w.heap.size, 1, none⟩ = some (.int .i64 0)) := Lib.hid (by rw [cell_of_row _ _ _ _ _ _ HX1'.out]; rfl)
  have HX2 : Hid (W1.cell? ⟨w.heap.size, 2, none⟩ = some (.string ⟨#[]⟩)) := Lib.hid (by rw [cell_of_row _ _ _ _ _ _ HX1'.out]; rfl)
  have HX3 : Hid (W1.cell? ⟨w.heap.size, 3, none⟩ = some (.slice A n c)) := Lib.hid (by rw [cell_of_row _ _ _ _ _ _ HX1'.out]; rfl)
  have hN1 : Hid (w.heap.size ≤ W1.heap.size) := Lib.hid HB1.out.size
  obtain ⟨N, HNN⟩ : ∃ N, N = w.heap.size := ⟨_, rfl⟩
  clear hq hck HX1' HX' HVA HNN hn N
  go_wp2_with fail

  refine region_flow3 (by kernel_rfl) (by kernel_rfl) (fun i => Nat.beq i 9 || Nat.beq i 10) (fun i => i) (by kernel_rfl) (fun fx => #[Value.agg #[.int .i64 3, .int .i64 0, .string ⟨#[]⟩, .slice A n c], Value.pointer (some ⟨w.heap.size, 0, none⟩), fx 9, fx 10, Value.int .i64 (0), Value.agg #[.int .i64 3, .int .i64 0, .string ⟨#[]⟩, .slice A n c], Value.int .i64 (0), Value.int .i64 (0), Value.bool false, undef, fx 0, fx 1, fx 2, fx 3, fx 4, fx 5, fx 6, fx 7, fx 8]) (fun i => bif Nat.beq i 9 then Value.slice none 0 0 else bif Nat.beq i 10 then Value.int .i64 0 else undef) (fun L _ w' => (L 8 = false → Below W1.heap.size W1 w')) (fun fi fv _ fw => wE w.heap.size W1 w.heap.size zs A n c fi fv fw) (fun _ => (Below.refl _ _).drew) ?_ ?_
  · refine ⟨?_, ?_, ?_, ?_, ?_, ?_, ?_, ?_, ?_, ?_, ?_, trivial⟩
    all_goals intro L fx w' hC hi hcl hdn hd
    · have hnd : L 8 = false := Bool.eq_false_iff.2 (fun h => by have := (hcl 3 0 (hcl 4 3 (hcl 5 4 (hcl 6 5 (hcl 8 6 h (by kernel_rfl)) (by kernel_rfl)) (by kernel_rfl)) (by kernel_rfl)) (by kernel_rfl)); rw [hi] at this; cases this)
      go_wp2_with fail
      refine (newWriter_any _).mono ?_
      rintro e w2 ⟨rfl, hw2, hb2⟩
      have HW2 := Lib.hid hw2
      have HB2 := Lib.hid hb2
      clear hw2 hb2
      go_wp2_with fail
      have hs := (hC hnd).size
      exact ⟨_, rfl, fun _ => (hC hnd).trans (HB2.out.mono hs), ⟨_, _, rfl, HW2.out, Nat.le_trans hN1.out hs, Nat.le_trans (Nat.le_trans hN1.out hs) (Nat.le_succ _)⟩, fun j v t _ _ h => wE_below hN1.out HB2.out j v h⟩
    · have hnd : L 8 = false := Bool.eq_false_iff.2 (fun h => by have := (hcl 2 1 (hcl 4 2 (hcl 5 4 (hcl 6 5 (hcl 8 6 h (by kernel_rfl)) (by kernel_rfl)) (by kernel_rfl)) (by kernel_rfl)) (by kernel_rfl)); rw [hi] at this; cases this)
      go_wp2_with fail
      exact ⟨_, rfl, (fun _ => hC hnd), rfl, fun _ _ _ _ _ h => h⟩
    · have h1 : fx 1 = Value.pointer (some ⟨w.heap.size, 0, none⟩) := hd.1 rfl
      have hnd : L 8 = false := Bool.eq_false_iff.2 (fun h => by have := (hcl 4 2 (hcl 5 4 (hcl 6 5 (hcl 8 6 h (by kernel_rfl)) (by kernel_rfl)) (by kernel_rfl)) (by kernel_rfl)); rw [hi] at this; cases this)
      have hc := ((hC hnd).cell (block_lt_of_cell HX0.out)).trans HX0.out
      go_wp2_with fail
      exact ⟨_, by rw [← h1]; rfl, (fun _ => hC hnd), rfl, fun _ _ _ _ _ h => h⟩
    · have H0 := Lib.hid (hd.1 rfl)
      have hnd : L 8 = false := Bool.eq_false_iff.2 (fun h => by have := (hcl 4 3 (hcl 5 4 (hcl 6 5 (hcl 8 6 h (by kernel_rfl)) (by kernel_rfl)) (by kernel_rfl)) (by kernel_rfl)); rw [hi] at this; cases this)
      obtain ⟨q, c2, h0, hw, hq⟩ := H0.out
      have HWq := Lib.hid hw
      clear hw
      go_wp2_with fail
      exact ⟨_, by rw [← h0]; rfl, fun _ => hC hnd, ⟨q, c2, rfl, HWq.out, hq⟩, fun _ _ _ _ _ h => h⟩
    · have H3 := Lib.hid (hd.1 rfl)
      have h2 : fx 2 = Value.int .i64 (3) := hd.2.1 rfl
      have hnd : L 8 = false := Bool.eq_false_iff.2 (fun h => by have := (hcl 5 4 (hcl 6 5 (hcl 8 6 h (by kernel_rfl)) (by kernel_rfl)) (by kernel_rfl)); rw [hi] at this; cases this)
      obtain ⟨q, c2, h3, hw, hq⟩ := H3.out
      have HWq := Lib.hid hw
      clear hw
      go_wp2_with fail
      exact ⟨_, by rw [← h3, ← h2]; rfl, fun _ => hC hnd, ⟨q, c2, rfl, HWq.out, hq⟩, fun _ _ _ _ _ h => h⟩
    · have H4 := Lib.hid (hd.1 rfl)
      have hnd : L 8 = false := Bool.eq_false_iff.2 (fun h => by have := (hcl 6 5 (hcl 8 6 h (by kernel_rfl)) (by kernel_rfl)); rw [hi] at this; cases this)
      obtain ⟨q, c2, h4, hw, hq⟩ := H4.out
      have HWq := Lib.hid hw
      clear hw
      go_wp2_with fail
      exact ⟨_, by rw [← h4]; rfl, fun _ => hC hnd, ⟨q, c2, rfl, HWq.out, hq⟩, fun _ _ _ _ _ h => h⟩
    · have H5 := Lib.hid (hd.1 rfl)
      have hnd : L 8 = false := Bool.eq_false_iff.2 (fun h => by have := (hcl 8 6 h (by kernel_rfl)); rw [hi] at this; cases this)
      obtain ⟨q, c2, h5, hw, hq⟩ := H5.out
      have HWq := Lib.hid hw
      have hc3 := hw.c3
      clear hw
      go_wp2_with fail
      exact ⟨_, by rw [← h5]; rfl, fun _ => hC hnd, ⟨q, c2, rfl, HWq.out, hq⟩, fun _ _ _ _ _ h => h⟩
    · have hnd : L 8 = false := Bool.eq_false_iff.2 (fun h => by have := (hcl 8 7 h (by kernel_rfl)); rw [hi] at this; cases this)
      have hc0 := ((hC hnd).cell (block_lt_of_cell HX0.out)).trans HX0.out
      have hc1 := ((hC hnd).cell (block_lt_of_cell HX1.out)).trans HX1.out
      have hc2 := ((hC hnd).cell (block_lt_of_cell HX2.out)).trans HX2.out
      have hc3 := ((hC hnd).cell (block_lt_of_cell HX3.out)).trans HX3.out
      go_wp2_with fail
      exact ⟨_, rfl, (fun _ => hC hnd), rfl, fun _ _ _ _ _ h => h⟩
    · have H6 := Lib.hid (hd.1 rfl)
      have h7 : fx 7 = Value.agg #[.int .i64 3, .int .i64 0, .string ⟨#[]⟩, .slice A n c] := hd.2.1 rfl
      obtain ⟨q, c2, h6, hw, hq1, hq2⟩ := H6.out
      have HWq := Lib.hid hw
      have hb8 := hC hi
      clear hw
      have HV8 := Lib.hid (hV1.out.below hb8)
      go_wp2_with fail
      have HWL := write_list zs (.slice none 0 0) [] A c q c2 w.heap.size w' hz (by rw [HN.out]; exact hn') HV8 (Lib.hid (OwnB.nil _ _)) (by simp) (Nat.le_trans hN1.out hb8.size) HWq (Lib.hid (fun e => by cases e)) (Lib.hid (fun e => by cases e)) (Lib.hid (fun _ _ e => by cases e))
      rw [HN.out] at HWL
      refine HWL.mono ?_
      rintro e w2 ⟨v2, rfl, hO3, hG3⟩
      have HO3 := Lib.hid hO3
      have HG3 := Lib.hid hG3
      clear hO3 hG3 HWL
      go_wp2_with fail
      refine ⟨v2, by rw [← h7, ← h6]; rfl, fun h => (updB_self h).elim, ⟨by have := HO3.out; rwa [List.nil_append] at this, (hb8.mono hN1.out).trans (HG3.out.below (Nat.le_trans hN1.out hb8.size) (fun g e => by cases e))⟩, fun j v t hj hu h => ?_⟩
      refine wE_pure j v ?_ ?_ ?_ ?_ ?_ ?_ ?_ h <;> intro e <;> subst e
      · refine absurd hu (not_needed (E := fun i => Nat.beq i 9 || Nat.beq i 10) (j := 0) [3] ?_ ?_ ?_)
        · kernel_rfl
        · kernel_rfl
        · intro m hm hne; simp at hm; subst hm; exact hcl 4 3 (hcl 5 4 (hcl 6 5 (hdn 6 (by kernel_rfl)) (by kernel_rfl)) (by kernel_rfl)) (by kernel_rfl)
      · refine absurd hu (not_needed (E := fun i => Nat.beq i 9 || Nat.beq i 10) (j := 3) [4] ?_ ?_ ?_)
        · kernel_rfl
        · kernel_rfl
        · intro m hm hne; simp at hm; subst hm; exact hcl 5 4 (hcl 6 5 (hdn 6 (by kernel_rfl)) (by kernel_rfl)) (by kernel_rfl)
      · refine absurd hu (not_needed (E := fun i => Nat.beq i 9 || Nat.beq i 10) (j := 4) [5] ?_ ?_ ?_)
        · kernel_rfl
        · kernel_rfl
        · intro m hm hne; simp at hm; subst hm; exact hcl 6 5 (hdn 6 (by kernel_rfl)) (by kernel_rfl)
      · refine absurd hu (not_needed (E := fun i => Nat.beq i 9 || Nat.beq i 10) (j := 5) [6] ?_ ?_ ?_)
        · kernel_rfl
        · kernel_rfl
        · intro m hm hne; simp at hm; subst hm; exact hdn 6 (by kernel_rfl)
      · refine absurd hu (not_needed (E := fun i => Nat.beq i 9 || Nat.beq i 10) (j := 6) [8] ?_ ?_ ?_)
        · kernel_rfl
        · kernel_rfl
        · intro m hm hne; simp at hm; omega
      · rw [hi] at hj; cases hj
      · have := hcl 9 8 hj (by kernel_rfl); rw [hi] at this; cases this
    · have H8 := Lib.hid (hd.1 rfl)
      go_wp2_with fail
      exact ⟨fx 8, rfl, fun h => hC h, H8.out, fun _ _ _ _ _ h => h⟩
    · go_wp2_with fail
      exact ⟨_, rfl, fun h => hC h, rfl, fun _ _ _ _ _ h => h⟩
  · intro L fx w' hC hS
    have H9 := Lib.hid (hS 9 (by decide) rfl)
    have H10 := Lib.hid (hS 10 (by decide) rfl)

    have HG := Lib.hid (HB1.out.trans H9.out.2)
    clear hC hS
    have h10 : fx 10 = .int .i64 0 := H10.out
    rw [h10]
    clear h10 H10
    go_wp2_with fail
    go_ret2
    exact ⟨_, rfl, H9.out.1, HG.out⟩
end Go.Proofs.YtmfmgeapecapiaaDoor
namespace Go.Proofs.YtmfmgeapecapiaaDoor
open Go.ChangeShapes Go.WideShapes Go.ChangeAt Go.RowKit SzSha
set_option linter.unusedVariables false
set_option maxRecDepth 100000
theorem own : ownKnob Tryd.prog.godebug = none := by kernel_rfl
theorem laidOut : laidOutB Tryd.prog = true := by kernel_rfl
theorem mapsIn : mapsRowed Tryd.prog = true := by kernel_rfl
theorem slicesFull : ∀ t e, t < Tryd.prog.types.size → Tryd.prog.underlying t = some (.slice e) → 0 < Tryd.prog.cellsOf e := slices_full_of Tryd.prog (by kernel_rfl)
theorem gS : Tryd.prog.globalNamed "sizar/digest.start" = some 0 := by kernel_rfl
theorem gN : Tryd.prog.globalNamed "sizar/digest.numbers" = some 1 := by kernel_rfl
theorem tS : (Tryd.prog.globals[0]?).map (·.type) = some 178 := by kernel_rfl
theorem tN : (Tryd.prog.globals[1]?).map (·.type) = some 206 := by kernel_rfl
theorem cellsE : Tryd.prog.cellsOf 177 = 1 := by kernel_rfl
theorem cellsS : Tryd.prog.cellsOf 178 = 8 := by kernel_rfl
theorem cellsN : Tryd.prog.cellsOf 206 = 64 := by kernel_rfl
theorem cells8 : Tryd.prog.cellsOf 5 = 1 := by kernel_rfl
/-- the tables as the rows list them -/
def laidL : List (String × DataW Unit) := [("sizar/digest.start", Rows.laid_sizar_digest_start), ("sizar/digest.numbers", Rows.laid_sizar_digest_numbers)]
theorem door_met (os : Os) (args : Array Value) : laidMetH Tryd.prog laidL ((World.doorLaid Tryd.prog 400 os).forCall (fun _ _ => 0) ⟨#[], args, []⟩).memory :=
  laidMetH_of_parts3 (fuel := 8) (laidMet_of_run' 8 (by kernel_rfl) (by kernel_rfl)) (by kernel_rfl) (by kernel_rfl)
theorem tabS : (Rows.laid_sizar_digest_start : DataW Unit) = Lib.tabData .u32 (hs.map fun x : Nat => (x : Int)) := by rfl
theorem tabN : (Rows.laid_sizar_digest_numbers : DataW Unit) = Lib.tabData .u32 (ks.map fun x : Nat => (x : Int)) := by rfl
theorem tabs_of {W : World} (h : laidMetH Tryd.prog laidL W) : Tabs W := by
  rw [MakeChecks.laidMetH_plain _ _ _ (by kernel_rfl)] at h
  obtain ⟨ps, ⟨g0, t0, cs0, f0, p0, q0, hg0, ht0, hv0, hd0, ⟨g1, t1, cs1, f1, p1, q1, hg1, ht1, hv1, hd1, _, _⟩, _⟩, _, _⟩ := h
  obtain rfl := Option.some.inj (gS.symm.trans hg0)
  obtain rfl := Option.some.inj (gN.symm.trans hg1)
  obtain rfl := Option.some.inj (tS.symm.trans ht0)
  obtain rfl := Option.some.inj (tN.symm.trans ht1)
  rw [tabS] at hd0
  rw [tabN] at hd1
  have e0 := Lib.cells_of_tab Tryd.underlying178 Tryd.underlying177 cellsE cellsS hd0
  have e1 := Lib.cells_of_tab Tryd.underlying206 Tryd.underlying177 cellsE cellsN hd1
  have c0 : ∀ t, t < 8 → W.cell? ⟨0, t, none⟩ = some (.int .u32 (hf t : Nat)) := fun t ht => by
    have := World.var?_cell gS hv0 t
    rw [this, ← Array.getElem?_toList, e0]
    have hl : t < hs.length := ht
    simp only [List.map_map, List.getElem?_map, List.getElem?_eq_getElem hl, Option.map_some, hf, List.getD_eq_getElem?_getD, Option.getD_some]; rfl
  have c1 : ∀ t, t < 64 → W.cell? ⟨1, t, none⟩ = some (.int .u32 (kf t : Nat)) := fun t ht => by
    have := World.var?_cell gN hv1 t
    rw [this, ← Array.getElem?_toList, e1]
    have hl : t < ks.length := ht
    simp only [List.map_map, List.getElem?_map, List.getElem?_eq_getElem hl, Option.map_some, kf, List.getD_eq_getElem?_getD, Option.getD_some]; rfl
  exact ⟨block_lt_of_cell (c0 0 (by omega)), block_lt_of_cell (c1 0 (by omega)), c0, c1⟩
theorem stands_of {ps : Array TypeId} (h : ps.all (fun t => !Tryd.prog.wantsStandIn t) = true) {j : Nat} {t : TypeId} (ht : ps[j]? = some t) : Tryd.prog.wantsStandIn t = false := by
  have := Array.all_eq_true_iff_forall_mem.1 h t (Array.mem_of_getElem? ht)
  simpa using this
/-- what a slice of bytes brings -/
structure In (w : World) (A : Option Addr) (n c : Nat) (l : List Nat) : Prop where
  len : l.length = n
  cap : n ≤ c
  none_ : A = none → c = 0
  bytes : Bytes l
  rd : Rd w w.heap.size A l
theorem In.below {w w' : World} {A : Option Addr} {n c : Nat} {l : List Nat} (h : In w A n c l) (hb : Below w.heap.size w w') : In w' A n c l :=
  ⟨h.len, h.cap, h.none_, h.bytes, (h.rd.below hb (Nat.le_refl _)).mono hb.size⟩
section
variable {H : Type} {enc : TypeId × Value → H}
theorem trodAll_carry {W W' : World} (hb : Below W.heap.size W W') : ∀ {ts : List TypeId} {vs : List Value} {ds : List (DataW H)} {ps : List MemPlace},
    DataW.TrodAll enc Tryd.prog W 0 (fun _ => true) true ts vs ds ps → DataW.TrodAll enc Tryd.prog W' 0 (fun _ => true) true ts vs ds ps
  | [], [], [], _, h => h
  | _ :: _, _ :: _, _ :: _, ps, h => by
    have hlt := DataW.TrodAll.lt h
    obtain ⟨p, q, ⟨n, h1⟩, h2, e⟩ := h
    refine ⟨p, q, ⟨n, DataW.trod_carry n _ _ _ h1 (fun x hx => ?_)⟩, trodAll_carry hb h2, e⟩
    have := hlt x (by rw [e]; exact List.mem_append_left _ hx)
    cases x with
    | cell b off => exact hb.cell (p := ⟨b, off, none⟩) this
    | map b => exact hb.block b this
/-- the last step of a law: true, and the arguments read as they did -/
theorem law_post {f : Func} {s : ChangeSpec} {W W' : World} {args : Array Value} {ds gs : List (DataW H)} {before : List MemPlace}
    (hts : f.params.toList.all (fun t => decide (t < Tryd.prog.types.size)) = true) (hvars : s.vars = []) (hrt : f.resultTypes = #[4])
    (hfn : gs = [] → (s.fn H ds).results = [.lit (.bool true)] ∧ (s.fn H ds).args = ds ∧ (s.fn H ds).vars = [])
    (hW : DataW.Whole enc Tryd.prog f.params.toList s.vars false W args.toList ds gs before) (hb : Below W.heap.size W W') :
    s.post enc Tryd.prog f false true false false W args (.bool true) W' := by
  have hW' := hW
  obtain ⟨p, q, hA, hV, rfl, hfz, hnd⟩ := hW
  rw [hvars] at hV
  obtain ⟨rfl, rfl⟩ := trodVars_none hV
  obtain ⟨e1, e2, e3⟩ := hfn rfl
  have hlt := DataW.TrodAll.lt hA
  have hA2 := DataW.TrodAll.respare (kids_rows laidOut mapsIn) (fun t e ht => slicesFull t e ht) (fun t ht => of_decide_eq_true (List.all_eq_true.1 hts t ht)) (trodAll_carry hb hA) (spare' := fun b => decide (b < W.heap.size)) (fun x hx => decide_eq_true (hlt x hx))
  refine ⟨ds, [], p ++ [], [], p, [], hW', ?_, ?_, ?_, World.keptBut_mono (fun x hx => ⟨hx, .inr (.inl (by simpa using hx))⟩) (hb.frame (· ∈ p ++ [])), fun h => by cases h⟩
  · rw [hrt, List.append_nil, e1]
    exact trodAll_cons_mk (shut_bool Tryd.underlying4 _) trodAll_mk0
  · rw [List.append_nil, e2]; exact hA2
  · rw [List.append_nil, e3, hvars]; rfl
end
end Go.Proofs.YtmfmgeapecapiaaDoor
namespace Go.Proofs.YtmfmgeapecapiaaDoor
open Go.RowKit SzSha SzTree
set_option linter.unusedVariables false
set_option maxRecDepth 100000
set_option maxHeartbeats 2000000 in
theorem clone_any (A : Option Addr) (n c : Nat) (l : List Nat) (w : World) (hn : n ≤ 1000000000) (h : Hid (In w A n c l)) :
    Calls Tryd.prog 105 #[.slice A n c] w fun e w' => ∃ v, e = .returned v ∧ OwnB w' w.heap.size v l ∧ Below w.heap.size w w' := by
  have kn0 := fun W => Lib.run_eql_slice_nil (P := Tryd.prog) W 55 5 A n c 0 0 Tryd.underlying55
  rcases A with _ | a
  · have h0 : n = 0 := by have := h.out.none_ rfl; have := h.out.cap; omega
    have hl : l = [] := List.eq_nil_of_length_eq_zero (by rw [h.out.len]; exact h0)
    have hc0 : c = 0 := h.out.none_ rfl
    subst hl
    subst h0
    subst hc0
    clear h hn
    go_enter Tryd.func105, Tryd.ntmps105
    go_wp2_with fail
    go_ret
    exact ⟨_, rfl, OwnB.nil _ _, Below.refl _ _⟩
  · have HO := Lib.hid (⟨rfl, .inr ⟨w.heap.size, 0, #[], rfl, Nat.le_refl _, heap_alloc_new w _, Nat.le_refl _, by simp [maxLen], rfl, rfl⟩⟩ : OwnB (w.alloc (.cells #[] 5)) w.heap.size (.slice (some ⟨w.heap.size, 0, none⟩) 0 0) [])
    have HB := Lib.hid ((Below.refl _ w).alloc (Nat.le_refl _) (.cells #[] 5))
    have HR := Lib.hid ((h.out.rd.below HB.out (Nat.le_refl _)).mono HB.out.size)
    have HLN := Lib.hid h.out.len
    have hlen : ([] : List Nat).length + n ≤ 1099511627776 := by simp; omega
    go_enter Tryd.func105, Tryd.ntmps105
    go_wp2_with (at_builtin; refine wpList_append_bytes rfl (.tmp 5) (.tmp 6) rfl w.heap.size _ [] l rfl HO (some a) n c rfl HLN (fun h => by cases h) HR hlen HB.out.size ?_; intro v2 w2 HO2 HB2)
    rw [List.nil_append] at HO2
    go_ret
    exact ⟨_, rfl, HO2.out, HB.out.trans HB2.out⟩
/-- the cells of integers of the codec -/
def vcells : List Int → List Value
  | [] => []
  | z :: zs => .int .i64 1 :: .int .i64 z :: .string ⟨#[]⟩ :: .slice none 0 0 :: vcells zs
theorem vcells_append : ∀ (a b : List Int), vcells (a ++ b) = vcells a ++ vcells b
  | [], b => rfl
  | z :: a, b => by simp only [List.cons_append, vcells, vcells_append a b]
theorem vcells_get : ∀ (zs : List Int) (i : Nat) (hi : i < zs.length), (vcells zs)[i * 4]? = some (.int .i64 1) ∧ (vcells zs)[i * 4 + 1]? = some (.int .i64 zs[i]) ∧ (vcells zs)[i * 4 + 2]? = some (.string ⟨#[]⟩) ∧ (vcells zs)[i * 4 + 3]? = some (.slice none 0 0)
  | [], i, hi => by simp at hi
  | z :: zs, 0, _ => by simp [vcells]
  | z :: zs, i + 1, hi => by
    have h := vcells_get zs i (by simpa using hi)
    rw [show (i + 1) * 4 = i * 4 + 4 by omega]
    simpa [vcells] using h
/-- a slice of values that the call made -/
def OwnV (w : World) (base : Nat) (v : Value) (zs : List Int) : Prop := w.ownsRow base 124 4 v zs.length (vcells zs)
theorem OwnV.nil (w : World) (base : Nat) : OwnV w base (.slice none 0 0) [] := ⟨rfl, .inl ⟨rfl, rfl⟩⟩
theorem OwnV.slice {w : World} {base : Nat} {v : Value} {zs : List Int} (h : OwnV w base v zs) : ∃ A c, v = .slice A zs.length c ∧ VRd w w.heap.size A zs := by
  rcases h.2 with ⟨rfl, h0⟩ | ⟨g, cap, cur, rfl, hb, hh, hc, hm, hs, ht⟩
  · exact ⟨none, 0, by rw [h0], fun h => by omega⟩
  · refine ⟨_, cap, rfl, fun _ => ⟨g, rfl, (Array.getElem?_eq_some_iff.1 hh).1, fun i hi => ?_⟩⟩
    have key : ∀ k, k < zs.length * 4 → w.cell? ⟨g, 0 + k, none⟩ = (vcells zs)[k]? := fun k hk => by
      rw [Nat.zero_add, cell_of_row w g k cur _ _ hh, ← ht, List.getElem?_take_of_lt hk]; simp
    have hv := vcells_get zs i hi
    refine ⟨?_, ?_, ?_, ?_⟩
    · rw [key _ (by omega)]; exact hv.1
    · rw [show 0 + i * 4 + 1 = 0 + (i * 4 + 1) by omega, key _ (by omega)]; exact hv.2.1
    · rw [show 0 + i * 4 + 2 = 0 + (i * 4 + 2) by omega, key _ (by omega)]; exact hv.2.2.1
    · rw [show 0 + i * 4 + 3 = 0 + (i * 4 + 3) by omega, key _ (by omega)]; exact hv.2.2.2
theorem OwnV.kept {w w' : World} {base : Nat} {v : Value} {zs : List Int} (h : OwnV w base v zs) (hk : ∀ g, base ≤ g → g < w.heap.size → w'.heap[g]? = w.heap[g]?) : OwnV w' base v zs := by
  refine ⟨h.1, ?_⟩
  rcases h.2 with h0 | ⟨g, cap, cur, rfl, hb, hh, r⟩
  · exact .inl h0
  · exact .inr ⟨g, cap, cur, rfl, hb, (hk g hb (Array.getElem?_eq_some_iff.1 hh).1).trans hh, r⟩
theorem info_val : ∃ i, Tryd.prog.info? 124 = some i ∧ i.zero = some (.agg #[.int .i64 0, .int .i64 0, .string ⟨#[]⟩, .slice none 0 0]) ∧ i.size = 4 ∧ i.bytes = 56 := by
  refine ⟨_, rfl, ?_, ?_, ?_⟩ <;> kernel_rfl
theorem wpList_append_val {w : World} {ops : Array Oper} {rest : List Oper} {o : Oper} {a : Act} {Q : Exit → Act → World → Prop} (hgd : o.guard = none) (s x : Operand)
    (ho : o.op = .call { callee := .builtin .append, args := #[s, x], argTypes := #[122, 122] })
    (base : Nat) (v : Value) (zs : List Int) (z : Int) (hs : a.eval s = v) (hown : Hid (OwnV w base v zs)) (g : Nat) (hx : a.eval x = .slice (some ⟨g, 0, none⟩) 1 1)
    (hr : Hid (w.heap[g]? = some (.cells #[.int .i64 1, .int .i64 z, .string ⟨#[]⟩, .slice none 0 0] 124 (0, 0)))) (hlen : zs.length ≤ 100000) (hbase : base ≤ w.heap.size)
    (h : ∀ v' w', Hid (OwnV w' base v' (zs ++ [z])) → Hid (Below base w w') → wpList Tryd.prog ops Q rest (a.put o.dst v') w') : wpList Tryd.prog ops Q (o :: rest) a w := by
  obtain ⟨i0, hi, hz0, hz1, hz2⟩ := info_val
  refine wpList_append_own_at _ hgd s x _ ho base _ i0 _ 4 56 Tryd.underlying122 hi hz0 hz1 hz2 (by simp [Value.cells]) (by omega) v _ _ hs hown.out ⟨g, 0, none⟩ 1 1 [.int .i64 1, .int .i64 z, .string ⟨#[]⟩, .slice none 0 0] hx rfl (fun j u hu => ?_) (fun u hu => ?_) (by unfold maxLen; omega) (by omega) hbase ?_
  · rw [add_row, cell_of_row _ _ _ _ _ _ hr.out, ← hu]; simp
  · simp only [List.mem_cons, List.not_mem_nil, or_false] at hu
    rcases hu with rfl | rfl | rfl | rfl <;> rfl
  · intro v' w' h1 h2 h3 h4
    refine h v' w' (Lib.hid ?_) (Lib.hid ((Below.refl base w).grown h2 hbase (fun k hk => ?_)))
    · unfold OwnV
      rw [vcells_append, List.length_append]; exact h1
    · rcases hown.out.2 with ⟨rfl, h0⟩ | ⟨g', cap, cur, rfl, hb, hh, r⟩
      · cases hk
      · have : g' = k := by simpa [Value.ownBlock] using hk
        omega
theorem ownV_form {w : World} {base : Nat} {v : Value} {zs : List Int} (h : OwnV w base v zs) : ∃ A n c, v = .slice A n c := by
  obtain ⟨A, c, e, _⟩ := h.slice
  exact ⟨A, _, c, e⟩
theorem row3 {w : World} {b : Nat} {v : Value} (h : w.heap[b]? = some (.cells #[.int .i64 3, .int .i64 0, .string ⟨#[]⟩, v] 124 (0, 0))) : w.cell? ⟨b, 3, none⟩ = some v ∧ w.frozen? ⟨b, 3, none⟩ = false :=
  ⟨by rw [cell_of_row _ _ _ _ _ _ h]; rfl, by simp [World.frozen?, h]⟩
theorem set3 {w : World} {b : Nat} {v v' : Value} (h : w.heap[b]? = some (.cells #[.int .i64 3, .int .i64 0, .string ⟨#[]⟩, v] 124 (0, 0))) : (w.setCell ⟨b, 3, none⟩ v').heap[b]? = some (.cells #[.int .i64 3, .int .i64 0, .string ⟨#[]⟩, v'] 124 (0, 0)) := by
  simp only [World.setCell, Array.getElem?_modify, if_true, h]; rfl
set_option maxHeartbeats 4000000 in
theorem thash_any (tag : ByteArray) (zs : List Int) (g m gc : Nat) (A : Option Addr) (n c : Nat) (l : List Nat) (w : World) (htag : tag.size ≤ 4294967296) (hz : Hid (∀ z ∈ zs, -9223372036854775808 ≤ z ∧ z ≤ 9223372036854775807)) (hm : zs.length = m) (hzn : m ≤ 1000) (hzc : Hid (∀ i, i < m → w.cell? ⟨g, i, none⟩ = some (.int .i64 (zs.getD i 0)))) (hg : g < w.heap.size) (hn : n ≤ 1000000) (hT : Hid (Tabs w)) (h : Hid (In w A n c l)) :
    Calls Tryd.prog 62 #[.string tag, .slice A n c, .slice (some ⟨g, 0, none⟩) m gc] w fun e w' => e = .returned (dgV (hashT (strL tag) l zs)) ∧ Below w.heap.size w w' := by
  have HM := Lib.hid hm
  clear hm
  have HB0 := Lib.hid (((Below.refl _ w).alloc (Nat.le_refl _) (.cells #[.int .u8 0, .int .u8 0, .int .u8 0, .int .u8 0, .int .u8 0, .int .u8 0, .int .u8 0, .int .u8 0, .int .u8 0, .int .u8 0, .int .u8 0, .int .u8 0, .int .u8 0, .int .u8 0, .int .u8 0, .int .u8 0, .int .u8 0, .int .u8 0, .int .u8 0, .int .u8 0, .int .u8 0, .int .u8 0, .int .u8 0, .int .u8 0, .int .u8 0, .int .u8 0, .int .u8 0, .int .u8 0, .int .u8 0, .int .u8 0, .int .u8 0, .int .u8 0] 25)).alloc (by simp) (.cells #[.int .i64 3, .int .i64 0, .string ⟨#[]⟩, .slice none 0 0] 124))
  have h1 := heap_alloc_new (w.alloc (.cells #[.int .u8 0, .int .u8 0, .int .u8 0, .int .u8 0, .int .u8 0, .int .u8 0, .int .u8 0, .int .u8 0, .int .u8 0, .int .u8 0, .int .u8 0, .int .u8 0, .int .u8 0, .int .u8 0, .int .u8 0, .int .u8 0, .int .u8 0, .int .u8 0, .int .u8 0, .int .u8 0, .int .u8 0, .int .u8 0, .int .u8 0, .int .u8 0, .int .u8 0, .int .u8 0, .int .u8 0, .int .u8 0, .int .u8 0, .int .u8 0, .int .u8 0, .int .u8 0] 25)) (.cells #[.int .i64 3, .int .i64 0, .string ⟨#[]⟩, .slice none 0 0] 124)
  have h2 := (Below.heap_alloc (w.alloc (.cells #[.int .u8 0, .int .u8 0, .int .u8 0, .int .u8 0, .int .u8 0, .int .u8 0, .int .u8 0, .int .u8 0, .int .u8 0, .int .u8 0, .int .u8 0, .int .u8 0, .int .u8 0, .int .u8 0, .int .u8 0, .int .u8 0, .int .u8 0, .int .u8 0, .int .u8 0, .int .u8 0, .int .u8 0, .int .u8 0, .int .u8 0, .int .u8 0, .int .u8 0, .int .u8 0, .int .u8 0, .int .u8 0, .int .u8 0, .int .u8 0, .int .u8 0, .int .u8 0] 25)) (.cells #[.int .i64 3, .int .i64 0, .string ⟨#[]⟩, .slice none 0 0] 124) w.heap.size (by simp)).trans (heap_alloc_new w _)
  rw [World.size_alloc] at h1
  have HV0 := Lib.hid h1
  have HD0 := Lib.hid h2
  clear h1 h2
  go_enter Tryd.func62, Tryd.ntmps62
  go_wp2_with fail
  go_loopw [15] (fun i wr => ∃ j : Nat, j ≤ m ∧ i = .int .i64 j ∧ ∃ vl, Hid (wr.heap[w.heap.size]? = some (.cells #[.int .u8 0, .int .u8 0, .int .u8 0, .int .u8 0, .int .u8 0, .int .u8 0, .int .u8 0, .int .u8 0, .int .u8 0, .int .u8 0, .int .u8 0, .int .u8 0, .int .u8 0, .int .u8 0, .int .u8 0, .int .u8 0, .int .u8 0, .int .u8 0, .int .u8 0, .int .u8 0, .int .u8 0, .int .u8 0, .int .u8 0, .int .u8 0, .int .u8 0, .int .u8 0, .int .u8 0, .int .u8 0, .int .u8 0, .int .u8 0, .int .u8 0, .int .u8 0] 25 (0, 0))) ∧ Hid (wr.heap[w.heap.size + 1]? = some (.cells #[.int .i64 3, .int .i64 0, .string ⟨#[]⟩, vl] 124 (0, 0))) ∧ Hid (OwnV wr (w.heap.size + 1 + 1) vl (zs.take j)) ∧ Hid (Below w.heap.size w wr)) (fun i _ => m - (intOf i).toNat)
  case atStart => exact ⟨0, by omega, rfl, _, HD0, HV0, Lib.hid (OwnV.nil _ _), HB0⟩
  case round =>
    clear HD0 HV0 HB0
    obtain ⟨j, hj, rfl, vl, HD, HV, HO, HB⟩ := hrel
    by_cases hlt : j < m
    · have d1 : decide ((j : Int) < (m : Int)) = true := decide_eq_true (by omega)
      obtain ⟨z, HZ⟩ : ∃ z, Hid (zs.getD j 0 = z) := ⟨_, Lib.hid rfl⟩
      have hcell : wr.cell? ⟨g, j, none⟩ = some (.int .i64 z) := by rw [← HZ.out]; exact (HB.out.cell (p := ⟨g, j, none⟩) hg).trans (hzc.out j hlt)
      have k3 : wr.cell? ⟨w.heap.size + 1, 3, none⟩ = some vl := by rw [cell_of_row _ _ _ _ _ _ HV.out]; rfl
      have HSZ : Hid (w.heap.size + 1 + 1 ≤ wr.heap.size) := Lib.hid (Array.getElem?_eq_some_iff.1 HV.out).1
      have HBA := Lib.hid ((Below.refl _ wr).alloc (Nat.le_refl _) (.cells #[.int .i64 1, .int .i64 z, .string ⟨#[]⟩, .slice none 0 0] 124))
      have HOA := Lib.hid (HO.out.kept (fun k _ hk => HBA.out.block k hk))
      have HVA := Lib.hid ((HBA.out.block _ HSZ.out).trans HV.out)
      have HRA := Lib.hid (heap_alloc_new wr (.cells #[.int .i64 1, .int .i64 z, .string ⟨#[]⟩, .slice none 0 0] 124))
      have HLN : Hid ((zs.take j).length ≤ 100000) := Lib.hid (by rw [List.length_take]; omega)
      have HSA := Lib.hid (Nat.le_trans HSZ.out HBA.out.size)
      have HNX : Hid (zs.take j ++ [z] = zs.take (j + 1)) := Lib.hid (by
        have h1 : j < zs.length := by rw [HM.out]; exact hlt
        rw [List.take_succ_eq_append_getElem h1, ← HZ.out]; simp [List.getD_eq_getElem?_getD, h1])
      go_wp2_with (at_builtin; refine wpList_append_val rfl (.tmp 20) (.tmp 23) rfl (w.heap.size + 1 + 1) vl (zs.take j) z ?ha HOA wr.heap.size ?hb ?hc HLN.out HSA.out ?_)
      case ha => rfl
      case hb => rfl
      case hc => exact HRA
      intro v2 w2 HO2 HB2
      obtain ⟨A', n', c', rfl⟩ := ownV_form HO2.out
      have HV2 := Lib.hid ((HB2.out.block (w.heap.size + 1) (Nat.lt_succ_self _)).trans HVA.out)
      obtain ⟨k3', f3'⟩ := row3 HV2.out
      go_wp2_with fail
      have HBB := Lib.hid (((HB.out.trans (HBA.out.mono HB.out.size)).trans (HB2.out.mono (by omega))).setCell (p := ⟨w.heap.size + 1, 3, none⟩) (Nat.le_succ _) (.slice A' n' c'))
      have HV3 := Lib.hid (set3 (v' := .slice A' n' c') HV2.out)
      have HD3 := Lib.hid ((Below.heap_setCell w2 ⟨w.heap.size + 1, 3, none⟩ (.slice A' n' c') w.heap.size (by simp)).trans ((HB2.out.block w.heap.size (by omega)).trans ((HBA.out.block _ (by have := HSZ.out; omega)).trans HD.out)))
      have HO3 := Lib.hid (HO2.out.kept (fun k hk hk2 => Below.heap_setCell w2 ⟨w.heap.size + 1, 3, none⟩ (.slice A' n' c') k (by intro e; simp at e; omega)))
      rw [HNX.out] at HO3
      clear k3' f3' k3 hcell
      go_roundw
      case rel => exact ⟨j + 1, by omega, by go_num, _, HD3, HV3, HO3, HBB⟩
      case measure => simp [intOf]; omega
    · have d1 : decide ((j : Int) < (m : Int)) = false := decide_eq_false (by omega)
      have HOm : Hid (OwnV wr (w.heap.size + 1 + 1) vl zs) := Lib.hid (by have := HO.out; rwa [List.take_of_length_le (by rw [HM.out]; omega)] at this)
      obtain ⟨Av, cv, rfl, hvr⟩ := HOm.out.slice
      have HVR := Lib.hid hvr
      have c0 : wr.cell? ⟨w.heap.size + 1, 0, none⟩ = some (.int .i64 3) := by rw [cell_of_row _ _ _ _ _ _ HV.out]; rfl
      have c1 : wr.cell? ⟨w.heap.size + 1, 1, none⟩ = some (.int .i64 0) := by rw [cell_of_row _ _ _ _ _ _ HV.out]; rfl
      have c2 : wr.cell? ⟨w.heap.size + 1, 2, none⟩ = some (.string ⟨#[]⟩) := by rw [cell_of_row _ _ _ _ _ _ HV.out]; rfl
      have c3 : wr.cell? ⟨w.heap.size + 1, 3, none⟩ = some (.slice Av zs.length cv) := by rw [cell_of_row _ _ _ _ _ _ HV.out]; rfl
      clear hvr
      go_wp2_with fail
      refine (encode_list zs Av cv _ hz (by rw [HM.out]; omega) HVR).mono ?_
      rintro e w2 ⟨v2, rfl, ho2, hb2⟩
      have HO2 := Lib.hid ho2
      have HB2 := Lib.hid (HB.out.trans (hb2.mono HB.out.size))
      have HD2 := Lib.hid ((hb2.block w.heap.size (Array.getElem?_eq_some_iff.1 HD.out).1).trans HD.out)
      clear ho2 hb2 c0 c1 c2 c3
      go_wp2_with fail
      refine (clone_any A n c l _ (by omega) (Lib.hid (h.out.below HB2.out))).mono ?_
      rintro e w3 ⟨v3, rfl, ho3, hb3⟩
      obtain ⟨A2, n2, cc2, rfl, hn2, hc2, hA2, HR2⟩ := (HO2.out.below hb3).slice
      have HO3 := Lib.hid ho3
      have HB3 := Lib.hid (HB2.out.trans (hb3.mono HB2.out.size))
      have HD3 := Lib.hid ((hb3.block w.heap.size (Array.getElem?_eq_some_iff.1 HD2.out).1).trans HD2.out)
      have HS3 : Hid (w2.heap.size ≤ w3.heap.size) := Lib.hid hb3.size
      have HEL : Hid (n2 ≤ 20000) := Lib.hid (by rw [← hn2.out]; have := encI_length zs; rw [HM.out] at this; omega)
      have HL3 : Hid (l.length + n2 ≤ 1099511627776) := Lib.hid (by have := h.out.len; have := HEL.out; omega)
      clear ho3 hb3
      go_wp2_with (at_builtin; refine wpList_append_bytes rfl (.tmp 34) (.tmp 35) rfl w2.heap.size _ l (encI zs) rfl HO3 A2 n2 cc2 rfl hn2 hA2.out HR2 HL3.out HS3.out ?_; intro v4 w4 HO4 HB4)
      obtain ⟨A6, n6, c6, rfl, hn6, hc6, hA6, HR6⟩ := HO4.out.slice
      have HB5 := Lib.hid (HB3.out.trans (HB4.out.mono HB2.out.size))
      have HD4 := Lib.hid ((HB4.out.block w.heap.size (Nat.lt_of_lt_of_le (Array.getElem?_eq_some_iff.1 HD2.out).1 (Nat.le_refl _))).trans HD3.out)
      refine (tagged_any tag A6 n6 c6 (l ++ encI zs) _ htag hn6 hc6 hA6.out (by rw [← hn6.out, List.length_append, h.out.len, hn2.out]; have := HEL.out; omega) (Lib.hid (fun x hx => by
        rcases List.mem_append.1 hx with h' | h'
        · exact h.out.bytes x h'
        · exact encI_bytes zs x h')) (Lib.hid (hT.out.below HB5.out)) HR6).mono ?_
      rintro e w5 ⟨rfl, hb5⟩
      have HB6 := Lib.hid (HB5.out.trans (hb5.mono HB5.out.size))
      have HD5 := Lib.hid ((hb5.block w.heap.size (Array.getElem?_eq_some_iff.1 HD4.out).1).trans HD4.out)
      have HE : Hid (dgV (tagged (strL tag) (l ++ encI zs)) = dgV (hashT (strL tag) l zs)) := Lib.hid rfl
      have HLH : Hid ((hashT (strL tag) l zs).length = 32) := Lib.hid (tagged_length _ _)
      rw [HE.out]
      obtain ⟨X, HX⟩ : ∃ X, Hid (((hashT (strL tag) l zs).map fun x => Value.int .u8 (x : Nat)).toArray = X) := ⟨_, Lib.hid rfl⟩
      have HEX : Hid (dgV (hashT (strL tag) l zs) = .agg X) := Lib.hid (by unfold dgV; rw [HX.out])
      have hXs : Hid (32 = X.size) := Lib.hid (by rw [← HX.out]; simp [HLH.out])
      have hsz : Hid ((Tryd.prog.info? 25).map (·.size) = some X.size) := Lib.hid (by rw [← HX.out]; exact size32 _ HLH.out)
      have hone : Hid (X.all (·.oneCell') = true) := Lib.hid (by rw [← HX.out]; exact oneCells _)
      rw [HEX.out]
      clear hb5
      go_wp2_with (refine wpList_store_row rfl 25 (.tmp 6) (.tmp 37) rfl w.heap.size X rfl rfl 25 _ HD5.out hsz.out hXs.out hone.out ?_)
      refine bodyPost_ret (results_cell_row rfl _ _ w.heap.size 25 _ (0, 0) _ rfl (setRow_heap w5 w.heap.size _ _ _ _ HD5.out) Tryd.underlying25 rfl hsz.out) rfl ?_
      exact ⟨by rw [HEX.out], below_setRow HB6.out (Nat.le_refl _) _⟩
end Go.Proofs.YtmfmgeapecapiaaDoor
namespace Go.Proofs.SzTree
open SzSha
set_option linter.unusedVariables false
/-- from the root downwards, the parts beside the way to a leaf: whether on the right side, from, to -/
def wayF : Nat → Nat → Nat → Nat → List (Bool × Nat × Nat)
  | 0, _, _, _ => []
  | f + 1, i, a, b => if b - a ≤ 1 then [] else if i < a + half (b - a) then (true, a + half (b - a), b) :: wayF f i a (a + half (b - a)) else (false, a, a + half (b - a)) :: wayF f i (a + half (b - a)) b
def way (i n : Nat) : List (Bool × Nat × Nat) := wayF n i 0 n
end Go.Proofs.SzTree
