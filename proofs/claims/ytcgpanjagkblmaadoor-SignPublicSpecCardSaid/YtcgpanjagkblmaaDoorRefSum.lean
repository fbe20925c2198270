/- The reference of layer 2: Sum and Tagged are the same plain functions. -/
import Derived.Test.YtcgpanjagkblmaaDoorRefPad
namespace Go.Proofs.YtcgpanjagkblmaaDoor
open Go.RowKit SzSha
set_option linter.unusedVariables false
theorem OwnB.at {w : World} {base : Nat} {v : Value} {l : List Nat} (h : OwnB w base v l) (hl : 0 < l.length) : ∃ g c, v = .slice (some ⟨g, 0, none⟩) l.length c ∧ l.length ≤ c ∧ base ≤ g ∧ g < w.heap.size ∧ BytesAt w g 0 l := by
  rcases h.2 with ⟨rfl, h0⟩ | ⟨g, cap, cur, rfl, hb, hh, hc, hm, hs, ht⟩
  · omega
  · refine ⟨g, cap, rfl, hc, hb, (Array.getElem?_eq_some_iff.1 hh).1, fun i hi => ?_⟩
    rw [Nat.zero_add, cell_of_row w g i cur _ _ hh]
    have h1 : (cur.toList.take (l.length * 1))[i]? = cur[i]? := by rw [List.getElem?_take_of_lt (by omega)]; simp
    rw [← h1, ht, List.getElem?_map, List.getElem?_eq_getElem hi, List.getD_eq_getElem?_getD, List.getElem?_eq_getElem hi]
    rfl
def outG (F : Nat → Nat) (k j : Nat) : Value := .int .u8 ((if j < k then out F j else 0 : Nat))
theorem outG_set (F : Nat → Nat) (k : Nat) : (fun j => if j = k then Value.int .u8 (out F k : Nat) else outG F k j) = outG F (k + 1) := by
  funext j
  unfold outG
  by_cases e : j = k
  · rw [if_pos e, if_pos (by omega), e]
  · rw [if_neg e]
    by_cases e2 : j < k
    · rw [if_pos e2, if_pos (by omega)]
    · rw [if_neg e2, if_neg (by omega)]
theorem outG_arr (l : List Nat) : ((List.range 32).map (outG (fin l) 32)).toArray = ((sha l).map fun x => Value.int .u8 (x : Nat)).toArray := by
  unfold sha
  rw [List.map_map]
  congr 1
theorem out_walk (x i r : Nat) (hr : r < 4) : ((x : Nat) : Int) / 2 ^ (24 - 8 * r) % 256 = ((x / 256 ^ (3 - r) % 256 : Nat) : Int) := by
  show ((x / 2 ^ (24 - 8 * r) % 256 : Nat) : Int) = _
  rw [show 24 - 8 * r = 8 * (3 - r) by omega, Nat.pow_mul]
theorem row_zero32 (W : World) (F : Nat → Nat) (t : TypeId) : (W.alloc (.cells #[.int .u8 0, .int .u8 0, .int .u8 0, .int .u8 0, .int .u8 0, .int .u8 0, .int .u8 0, .int .u8 0, .int .u8 0, .int .u8 0, .int .u8 0, .int .u8 0, .int .u8 0, .int .u8 0, .int .u8 0, .int .u8 0, .int .u8 0, .int .u8 0, .int .u8 0, .int .u8 0, .int .u8 0, .int .u8 0, .int .u8 0, .int .u8 0, .int .u8 0, .int .u8 0, .int .u8 0, .int .u8 0, .int .u8 0, .int .u8 0, .int .u8 0, .int .u8 0] t)).rowIs W.heap.size t 32 (outG F 0) := World.rowIs_alloc W _ t _ (fun i hi => by
    have : ∀ j : Fin 32, (Array.replicate 32 (Value.int .u8 0))[j.val]? = some (outG F 0 j.val) := fun j => by simp [outG]
    exact this ⟨i, hi⟩)
theorem row_hf (W : World) (t : TypeId) : (W.alloc (.cells #[.int .u32 1779033703, .int .u32 3144134277, .int .u32 1013904242, .int .u32 2773480762, .int .u32 1359893119, .int .u32 2600822924, .int .u32 528734635, .int .u32 1541459225] t)).rowIs W.heap.size t 8 (stF hf) := row8 W hf t
theorem arr8 {w : World} {g t : Nat} {v : Nat → Nat} (h : w.rowIs g t 8 (stF v)) : w.heap[g]? = some (.cells #[.int .u32 (v 0 : Nat), .int .u32 (v 1 : Nat), .int .u32 (v 2 : Nat), .int .u32 (v 3 : Nat), .int .u32 (v 4 : Nat), .int .u32 (v 5 : Nat), .int .u32 (v 6 : Nat), .int .u32 (v 7 : Nat)] t (0, 0)) := rowIs_arr h
theorem row_set8 {w : World} {g t : Nat} {c : Array Value} (h : w.heap[g]? = some (.cells c t (0, 0))) (v : Nat → Nat) : (w.setRow g #[.int .u32 (v 0 : Nat), .int .u32 (v 1 : Nat), .int .u32 (v 2 : Nat), .int .u32 (v 3 : Nat), .int .u32 (v 4 : Nat), .int .u32 (v 5 : Nat), .int .u32 (v 6 : Nat), .int .u32 (v 7 : Nat)]).rowIs g t 8 (stF v) :=
  ⟨#[.int .u32 (v 0 : Nat), .int .u32 (v 1 : Nat), .int .u32 (v 2 : Nat), .int .u32 (v 3 : Nat), .int .u32 (v 4 : Nat), .int .u32 (v 5 : Nat), .int .u32 (v 6 : Nat), .int .u32 (v 7 : Nat)], setRow_heap w g _ _ _ _ h, rfl, fun i hi => by
    have hi' : i < 8 := hi
    match i, hi' with
    | 0, _ => rfl
    | 1, _ => rfl
    | 2, _ => rfl
    | 3, _ => rfl
    | 4, _ => rfl
    | 5, _ => rfl
    | 6, _ => rfl
    | 7, _ => rfl⟩
theorem sz88 (a0 a1 a2 a3 a4 a5 a6 a7 b0 b1 b2 b3 b4 b5 b6 b7 : Value) : (#[a0, a1, a2, a3, a4, a5, a6, a7]).size = (#[b0, b1, b2, b3, b4, b5, b6, b7]).size := rfl
theorem bytesAt_set {w : World} {g gp off : Nat} {l : List Nat} (c : Array Value) (h : BytesAt w gp off l) (hne : gp ≠ g) : BytesAt (w.setRow g c) gp off l := fun i hi =>
  (World.cell?_of_block (setRow_other w g gp c hne)).trans (h i hi)
theorem bytesAt_below {w w' : World} {B gp off : Nat} {l : List Nat} (h : BytesAt w gp off l) (hb : Below B w w') (hg : gp < B) : BytesAt w' gp off l := fun i hi => (hb.cell (p := ⟨gp, off + i, none⟩) hg).trans (h i hi)
set_option maxHeartbeats 2000000 in
set_option maxRecDepth 100000 in
theorem rsum2_any (A : Option Addr) (n c : Nat) (l : List Nat) (w : World) (hn : Hid (l.length = n)) (hc : n ≤ c) (hA : A = none → c = 0) (hsz : n ≤ 4294967296) (hb : Hid (Bytes l)) (hR : Hid (Rd w w.heap.size A l)) :
    Calls Tryd.prog 64 #[.slice A n c] w fun e w' => e = .returned (dgV (sha l)) ∧ Below w.heap.size w w' := by
  have hB0 : Below w.heap.size w ((w.alloc (.cells #[.int .u8 0, .int .u8 0, .int .u8 0, .int .u8 0, .int .u8 0, .int .u8 0, .int .u8 0, .int .u8 0, .int .u8 0, .int .u8 0, .int .u8 0, .int .u8 0, .int .u8 0, .int .u8 0, .int .u8 0, .int .u8 0, .int .u8 0, .int .u8 0, .int .u8 0, .int .u8 0, .int .u8 0, .int .u8 0, .int .u8 0, .int .u8 0, .int .u8 0, .int .u8 0, .int .u8 0, .int .u8 0, .int .u8 0, .int .u8 0, .int .u8 0, .int .u8 0] 35)).alloc (.cells #[.int .u32 1779033703, .int .u32 3144134277, .int .u32 1013904242, .int .u32 2773480762, .int .u32 1359893119, .int .u32 2600822924, .int .u32 528734635, .int .u32 1541459225] 75)) := ((Below.refl _ w).alloc (Nat.le_refl _) _).alloc (by simp) _
  have hs0 := row_hf (w.alloc (.cells #[.int .u8 0, .int .u8 0, .int .u8 0, .int .u8 0, .int .u8 0, .int .u8 0, .int .u8 0, .int .u8 0, .int .u8 0, .int .u8 0, .int .u8 0, .int .u8 0, .int .u8 0, .int .u8 0, .int .u8 0, .int .u8 0, .int .u8 0, .int .u8 0, .int .u8 0, .int .u8 0, .int .u8 0, .int .u8 0, .int .u8 0, .int .u8 0, .int .u8 0, .int .u8 0, .int .u8 0, .int .u8 0, .int .u8 0, .int .u8 0, .int .u8 0, .int .u8 0] 35)) 75
  have hd0 : ((w.alloc (.cells #[.int .u8 0, .int .u8 0, .int .u8 0, .int .u8 0, .int .u8 0, .int .u8 0, .int .u8 0, .int .u8 0, .int .u8 0, .int .u8 0, .int .u8 0, .int .u8 0, .int .u8 0, .int .u8 0, .int .u8 0, .int .u8 0, .int .u8 0, .int .u8 0, .int .u8 0, .int .u8 0, .int .u8 0, .int .u8 0, .int .u8 0, .int .u8 0, .int .u8 0, .int .u8 0, .int .u8 0, .int .u8 0, .int .u8 0, .int .u8 0, .int .u8 0, .int .u8 0] 35)).alloc (.cells #[.int .u32 1779033703, .int .u32 3144134277, .int .u32 1013904242, .int .u32 2773480762, .int .u32 1359893119, .int .u32 2600822924, .int .u32 528734635, .int .u32 1541459225] 75)).heap[w.heap.size]? = some (.cells #[.int .u8 0, .int .u8 0, .int .u8 0, .int .u8 0, .int .u8 0, .int .u8 0, .int .u8 0, .int .u8 0, .int .u8 0, .int .u8 0, .int .u8 0, .int .u8 0, .int .u8 0, .int .u8 0, .int .u8 0, .int .u8 0, .int .u8 0, .int .u8 0, .int .u8 0, .int .u8 0, .int .u8 0, .int .u8 0, .int .u8 0, .int .u8 0, .int .u8 0, .int .u8 0, .int .u8 0, .int .u8 0, .int .u8 0, .int .u8 0, .int .u8 0, .int .u8 0] 35 (0, 0)) := (Below.heap_alloc _ _ _ (by simp)).trans (heap_alloc_new w _)
  rw [World.size_alloc] at hs0
  have HB0 := Lib.hid hB0
  have HS0 := Lib.hid hs0
  have HD0 := Lib.hid hd0
  have HR0 := Lib.hid ((hR.out.below hB0 (Nat.le_refl _)).mono hB0.size)
  have hsz0 : ((w.alloc (.cells #[.int .u8 0, .int .u8 0, .int .u8 0, .int .u8 0, .int .u8 0, .int .u8 0, .int .u8 0, .int .u8 0, .int .u8 0, .int .u8 0, .int .u8 0, .int .u8 0, .int .u8 0, .int .u8 0, .int .u8 0, .int .u8 0, .int .u8 0, .int .u8 0, .int .u8 0, .int .u8 0, .int .u8 0, .int .u8 0, .int .u8 0, .int .u8 0, .int .u8 0, .int .u8 0, .int .u8 0, .int .u8 0, .int .u8 0, .int .u8 0, .int .u8 0, .int .u8 0] 35)).alloc (.cells #[.int .u32 1779033703, .int .u32 3144134277, .int .u32 1013904242, .int .u32 2773480762, .int .u32 1359893119, .int .u32 2600822924, .int .u32 528734635, .int .u32 1541459225] 75)).heap.size = w.heap.size + 2 := by simp
  have HZ0 := Lib.hid hsz0
  clear hB0 hs0 hd0 hsz0
  go_enter Tryd.func64, Tryd.ntmps64
  go_wp2_with fail
  refine (padded_any A n c l _ hn hc hA hsz HR0).mono ?_
  rintro e w1 ⟨v, rfl, ho1, hb1⟩
  have hpl : 0 < (padded l).length := by unfold padded tail; simp; omega
  obtain ⟨gp, cp, rfl, hcp, hgb, hgp, hby⟩ := ho1.at hpl
  rw [HZ0.out] at hgb hb1
  obtain ⟨L, HL'⟩ : ∃ L, Hid ((padded l).length = L) := ⟨_, Lib.hid rfl⟩
  rw [HL'.out] at hcp hpl ⊢
  have hL64 : Hid (L = 64 * (L / 64)) := Lib.hid (by rw [← HL'.out]; exact padded_length l)
  have hLb : L ≤ 4294967500 := by
    rw [← HL'.out]; unfold padded; rw [List.length_append, tail_length, hn.out]
    have : zeros n < 64 := Nat.mod_lt _ (by omega)
    omega
  have HBY := Lib.hid hby
  have HB1 : Hid (Below w.heap.size w w1) := Lib.hid (HB0.out.trans (hb1.mono (by omega)))
  have HS1 : Hid (w1.rowIs (w.heap.size + 1) 75 8 (stF (blocks 0 hf (padded l)))) := Lib.hid (rowIs_below HS0.out hb1 (by omega))
  have HD1 : Hid (w1.heap[w.heap.size]? = some (.cells #[.int .u8 0, .int .u8 0, .int .u8 0, .int .u8 0, .int .u8 0, .int .u8 0, .int .u8 0, .int .u8 0, .int .u8 0, .int .u8 0, .int .u8 0, .int .u8 0, .int .u8 0, .int .u8 0, .int .u8 0, .int .u8 0, .int .u8 0, .int .u8 0, .int .u8 0, .int .u8 0, .int .u8 0, .int .u8 0, .int .u8 0, .int .u8 0, .int .u8 0, .int .u8 0, .int .u8 0, .int .u8 0, .int .u8 0, .int .u8 0, .int .u8 0, .int .u8 0] 35 (0, 0))) := Lib.hid ((hb1.block _ (by omega)).trans HD0.out)
  clear ho1 hb1 hby HB0 HS0 HD0 HR0 HZ0
  go_wp2_with fail
  go_loopw [5] (fun i wr => ∃ k : Nat, 64 * k ≤ L ∧ i = .int .i64 ((64 * k : Nat) : Int) ∧ gp < wr.heap.size ∧ Hid (BytesAt wr gp 0 (padded l)) ∧ Hid (wr.rowIs (w.heap.size + 1) 75 8 (stF (blocks k hf (padded l)))) ∧ Hid (wr.heap[w.heap.size]? = some (.cells #[.int .u8 0, .int .u8 0, .int .u8 0, .int .u8 0, .int .u8 0, .int .u8 0, .int .u8 0, .int .u8 0, .int .u8 0, .int .u8 0, .int .u8 0, .int .u8 0, .int .u8 0, .int .u8 0, .int .u8 0, .int .u8 0, .int .u8 0, .int .u8 0, .int .u8 0, .int .u8 0, .int .u8 0, .int .u8 0, .int .u8 0, .int .u8 0, .int .u8 0, .int .u8 0, .int .u8 0, .int .u8 0, .int .u8 0, .int .u8 0, .int .u8 0, .int .u8 0] 35 (0, 0))) ∧ Hid (Below w.heap.size w wr)) (fun i _ => L - (intOf i).toNat)
  case atStart => exact ⟨0, by omega, rfl, hgp, HBY, HS1, HD1, HB1⟩
  case round =>
    clear hgp HBY HS1 HD1 HB1
    obtain ⟨k, hk, rfl, hgp, hBy, hS, hD, hB⟩ := hrel
    by_cases hlt : 64 * k < L
    · have hfit : 64 * k + 64 ≤ L := by have := hL64.out; omega
      obtain ⟨m, hm⟩ : ∃ m, m = 64 * k := ⟨_, rfl⟩
      have HM := Lib.hid hm
      rw [← hm] at hlt hfit hk ⊢
      have dl : decide ((m : Int) < (L : Int)) = true := decide_eq_true (by omega)
      obtain ⟨m2, hm2⟩ : ∃ m2, m2 = m + 64 := ⟨_, rfl⟩
      have e64 : IntKind.i64.wrap ((m : Int) + 64) = (m2 : Int) := by rw [IntWalk.i64_in _ (by omega)]; omega
      have i1 : (0 : Int) ≤ (m : Int) := by omega
      have i2 : (m : Int) ≤ (m2 : Int) := by omega
      have i3 : (m2 : Int) ≤ (cp : Int) := by omega
      have i4 : m ≤ m2 := by omega
      have i5 : m2 ≤ cp := by omega
      have i6 : m2 - m = 64 := by omega
      have i7 : (cp == m) = false := by simp; omega
      have i8 : ¬ cp = m := by omega
      have HM2 := Lib.hid hm2
      clear hm hm2
      go_wp2_with fail
      refine wp_region_still_tail 6 (by kernel_rfl) (by kernel_rfl) ?_
      change wpStill _ _ wr.drew (fun a' => wpList _ _ _ _ a' wr.drew) _ _
      have hgp2 : gp < wr.drew.heap.size := hgp
      have hBy2 : Hid (BytesAt wr.drew gp 0 (padded l)) := hBy
      have hS2 : Hid (wr.drew.rowIs (w.heap.size + 1) 75 8 (stF (blocks k hf (padded l)))) := hS
      have hD2 : Hid (wr.drew.heap[w.heap.size]? = some (.cells #[.int .u8 0, .int .u8 0, .int .u8 0, .int .u8 0, .int .u8 0, .int .u8 0, .int .u8 0, .int .u8 0, .int .u8 0, .int .u8 0, .int .u8 0, .int .u8 0, .int .u8 0, .int .u8 0, .int .u8 0, .int .u8 0, .int .u8 0, .int .u8 0, .int .u8 0, .int .u8 0, .int .u8 0, .int .u8 0, .int .u8 0, .int .u8 0, .int .u8 0, .int .u8 0, .int .u8 0, .int .u8 0, .int .u8 0, .int .u8 0, .int .u8 0, .int .u8 0] 35 (0, 0))) := hD
      have hB2 : Hid (Below w.heap.size w wr.drew) := Lib.hid hB.out.drew
      generalize wr.drew = w2 at *
      clear hgp hBy hS hD hB
      have s0 : w2.cell? ⟨w.heap.size + 1, 0, none⟩ = some (.int .u32 (blocks k hf (padded l) 0 : Nat)) := hS2.out.cell (by omega)
      have s1 : w2.cell? ⟨w.heap.size + 1, 1, none⟩ = some (.int .u32 (blocks k hf (padded l) 1 : Nat)) := hS2.out.cell (by omega)
      have s2 : w2.cell? ⟨w.heap.size + 1, 2, none⟩ = some (.int .u32 (blocks k hf (padded l) 2 : Nat)) := hS2.out.cell (by omega)
      have s3 : w2.cell? ⟨w.heap.size + 1, 3, none⟩ = some (.int .u32 (blocks k hf (padded l) 3 : Nat)) := hS2.out.cell (by omega)
      have s4 : w2.cell? ⟨w.heap.size + 1, 4, none⟩ = some (.int .u32 (blocks k hf (padded l) 4 : Nat)) := hS2.out.cell (by omega)
      have s5 : w2.cell? ⟨w.heap.size + 1, 5, none⟩ = some (.int .u32 (blocks k hf (padded l) 5 : Nat)) := hS2.out.cell (by omega)
      have s6 : w2.cell? ⟨w.heap.size + 1, 6, none⟩ = some (.int .u32 (blocks k hf (padded l) 6 : Nat)) := hS2.out.cell (by omega)
      have s7 : w2.cell? ⟨w.heap.size + 1, 7, none⟩ = some (.int .u32 (blocks k hf (padded l) 7 : Nat)) := hS2.out.cell (by omega)
      simp only [List.take_succ_cons, List.take_zero, List.drop_succ_cons, List.drop_zero]
      repeat still_step
      refine wpStill_nil ?_
      go_wp2_with fail
      have HBl : Hid (BytesAt w2 gp m (((padded l).drop m).take 64)) := Lib.hid fun i hi => by
        have hi64 : i < 64 := by rw [List.length_take] at hi; omega
        have := hBy2.out (m + i) (by rw [HL'.out]; omega)
        rw [Nat.zero_add] at this
        rw [this, List.getD_eq_getElem?_getD, List.getD_eq_getElem?_getD, List.getElem?_take_of_lt hi64, List.getElem?_drop]
      refine (rblock_any gp m (cp - m) (blocks k hf (padded l)) (((padded l).drop m).take 64) _ (Lib.hid (by rw [List.length_take, List.length_drop, HL'.out]; omega)) (Lib.hid (bytes_take (bytes_drop (padded_bytes hb.out) _) _)) (Lib.hid (blocks_words _ _ hf_words)) (by omega) hgp2 HBl).mono ?_
      rintro e w3 ⟨rfl, hb3⟩
      have hsl2 := hS2.out.lt
      have hS3 := Lib.hid (arr8 (rowIs_below hS2.out hb3 hsl2))
      have hBy3 := Lib.hid (bytesAt_below hBy2.out hb3 hgp2)
      have hD3 := Lib.hid ((hb3.block w.heap.size (by omega)).trans hD2.out)
      have hB3 := Lib.hid (hB2.out.trans (hb3.mono hB2.out.size))
      have hgp3 : gp < w3.heap.size := Nat.lt_of_lt_of_le hgp2 hb3.size
      clear hb3 hS2 hBy2 hD2 hB2 hgp2 HBl s0 s1 s2 s3 s4 s5 s6 s7
      obtain ⟨vn, HVN⟩ : ∃ vn, Hid (block (blocks k hf (padded l)) (((padded l).drop m).take 64) = vn) := ⟨_, Lib.hid rfl⟩
      obtain ⟨vo, HVO⟩ : ∃ vo, Hid (blocks k hf (padded l) = vo) := ⟨_, Lib.hid rfl⟩
      rw [HVN.out]
      rw [HVO.out] at hS3 ⊢
      go_wp2_with (refine wpList_store_row rfl 75 (.tmp 3) (.tmp 23) rfl (w.heap.size + 1) #[.int .u32 (vn 0 : Nat), .int .u32 (vn 1 : Nat), .int .u32 (vn 2 : Nat), .int .u32 (vn 3 : Nat), .int .u32 (vn 4 : Nat), .int .u32 (vn 5 : Nat), .int .u32 (vn 6 : Nat), .int .u32 (vn 7 : Nat)] rfl rfl 75 _ hS3.out (sz8 _ _ _ _ _ _ _ _) (sz88 _ _ _ _ _ _ _ _ _ _ _ _ _ _ _ _) (one8 _ _ _ _ _ _ _ _) ?_)
      go_roundw
      case rel =>
        refine ⟨k + 1, by have := HM.out; omega, by have := HM.out; have := HM2.out; go_num, by simpa using hgp3, Lib.hid (bytesAt_set _ hBy3.out (by omega)), Lib.hid ?_, Lib.hid ((setRow_other _ _ _ _ (by omega)).trans hD3.out), Lib.hid (below_setRow hB3.out (by omega) _)⟩
        rw [blocks_snoc, ← HM.out, HVN.out]; exact row_set8 hS3.out _
      case measure => have := HM2.out; simp [intOf]; omega
    · have hfin : Hid (blocks k hf (padded l) = fin l) := Lib.hid (by unfold fin; rw [HL'.out]; congr 1; have := hL64.out; omega)
      have hS2 : Hid (wr.rowIs (w.heap.size + 1) 75 8 (stF (fin l))) := Lib.hid (by rw [← hfin.out]; exact hS.out)
      have hsl2 := hS2.out.lt
      obtain ⟨m, hm⟩ : ∃ m, m = 64 * k := ⟨_, rfl⟩
      rw [← hm] at hlt ⊢
      have dl : decide (m < L) = false := decide_eq_false hlt
      have hge : L ≤ m := by omega
      clear hm hS hfin hBy
      have hq := laid_row wr #[.int .u8 0, .int .u8 0, .int .u8 0, .int .u8 0, .int .u8 0, .int .u8 0, .int .u8 0, .int .u8 0, .int .u8 0, .int .u8 0, .int .u8 0, .int .u8 0, .int .u8 0, .int .u8 0, .int .u8 0, .int .u8 0, .int .u8 0, .int .u8 0, .int .u8 0, .int .u8 0, .int .u8 0, .int .u8 0, .int .u8 0, .int .u8 0, .int .u8 0, .int .u8 0, .int .u8 0, .int .u8 0, .int .u8 0, .int .u8 0, .int .u8 0, .int .u8 0] #[.int .u8 0, .int .u8 0, .int .u8 0, .int .u8 0, .int .u8 0, .int .u8 0, .int .u8 0, .int .u8 0, .int .u8 0, .int .u8 0, .int .u8 0, .int .u8 0, .int .u8 0, .int .u8 0, .int .u8 0, .int .u8 0, .int .u8 0, .int .u8 0, .int .u8 0, .int .u8 0, .int .u8 0, .int .u8 0, .int .u8 0, .int .u8 0, .int .u8 0, .int .u8 0, .int .u8 0, .int .u8 0, .int .u8 0, .int .u8 0, .int .u8 0, .int .u8 0] 35
      have HQ := Lib.hid hq
      clear hq
      go_wp2_with (refine wpList_store_row rfl 35 (.tmp 6) (.tmp 24) rfl wr.heap.size #[.int .u8 0, .int .u8 0, .int .u8 0, .int .u8 0, .int .u8 0, .int .u8 0, .int .u8 0, .int .u8 0, .int .u8 0, .int .u8 0, .int .u8 0, .int .u8 0, .int .u8 0, .int .u8 0, .int .u8 0, .int .u8 0, .int .u8 0, .int .u8 0, .int .u8 0, .int .u8 0, .int .u8 0, .int .u8 0, .int .u8 0, .int .u8 0, .int .u8 0, .int .u8 0, .int .u8 0, .int .u8 0, .int .u8 0, .int .u8 0, .int .u8 0, .int .u8 0] rfl rfl 35 _ (heap_alloc_new wr _) (by kernel_rfl) rfl (by decide +kernel) ?_)
      have hS3 : Hid (((wr.alloc (.cells #[.int .u8 0, .int .u8 0, .int .u8 0, .int .u8 0, .int .u8 0, .int .u8 0, .int .u8 0, .int .u8 0, .int .u8 0, .int .u8 0, .int .u8 0, .int .u8 0, .int .u8 0, .int .u8 0, .int .u8 0, .int .u8 0, .int .u8 0, .int .u8 0, .int .u8 0, .int .u8 0, .int .u8 0, .int .u8 0, .int .u8 0, .int .u8 0, .int .u8 0, .int .u8 0, .int .u8 0, .int .u8 0, .int .u8 0, .int .u8 0, .int .u8 0, .int .u8 0] 35)).setRow wr.heap.size #[.int .u8 0, .int .u8 0, .int .u8 0, .int .u8 0, .int .u8 0, .int .u8 0, .int .u8 0, .int .u8 0, .int .u8 0, .int .u8 0, .int .u8 0, .int .u8 0, .int .u8 0, .int .u8 0, .int .u8 0, .int .u8 0, .int .u8 0, .int .u8 0, .int .u8 0, .int .u8 0, .int .u8 0, .int .u8 0, .int .u8 0, .int .u8 0, .int .u8 0, .int .u8 0, .int .u8 0, .int .u8 0, .int .u8 0, .int .u8 0, .int .u8 0, .int .u8 0]).rowIs (w.heap.size + 1) 75 8 (stF (fin l))) := Lib.hid (rowIs_below hS2.out HQ.out.1 hsl2)
      have hD3 := Lib.hid ((HQ.out.1.block w.heap.size (by omega)).trans hD.out)
      have hB3 := Lib.hid (hB.out.trans (HQ.out.1.mono hB.out.size))
      have hO3 : Hid (((wr.alloc (.cells #[.int .u8 0, .int .u8 0, .int .u8 0, .int .u8 0, .int .u8 0, .int .u8 0, .int .u8 0, .int .u8 0, .int .u8 0, .int .u8 0, .int .u8 0, .int .u8 0, .int .u8 0, .int .u8 0, .int .u8 0, .int .u8 0, .int .u8 0, .int .u8 0, .int .u8 0, .int .u8 0, .int .u8 0, .int .u8 0, .int .u8 0, .int .u8 0, .int .u8 0, .int .u8 0, .int .u8 0, .int .u8 0, .int .u8 0, .int .u8 0, .int .u8 0, .int .u8 0] 35)).setRow wr.heap.size #[.int .u8 0, .int .u8 0, .int .u8 0, .int .u8 0, .int .u8 0, .int .u8 0, .int .u8 0, .int .u8 0, .int .u8 0, .int .u8 0, .int .u8 0, .int .u8 0, .int .u8 0, .int .u8 0, .int .u8 0, .int .u8 0, .int .u8 0, .int .u8 0, .int .u8 0, .int .u8 0, .int .u8 0, .int .u8 0, .int .u8 0, .int .u8 0, .int .u8 0, .int .u8 0, .int .u8 0, .int .u8 0, .int .u8 0, .int .u8 0, .int .u8 0, .int .u8 0]).rowIs wr.heap.size 35 32 (outG (fin l) 0)) := Lib.hid (row_same (row_zero32 wr (fin l) 35) (heap_alloc_new wr _))
      clear HQ hS2 hD hB
      go_loopw [7] (fun i wz => ∃ t : Nat, t ≤ 32 ∧ i = .int .i64 t ∧ Hid (wz.rowIs (w.heap.size + 1) 75 8 (stF (fin l))) ∧ Hid (wz.heap[w.heap.size]? = some (.cells #[.int .u8 0, .int .u8 0, .int .u8 0, .int .u8 0, .int .u8 0, .int .u8 0, .int .u8 0, .int .u8 0, .int .u8 0, .int .u8 0, .int .u8 0, .int .u8 0, .int .u8 0, .int .u8 0, .int .u8 0, .int .u8 0, .int .u8 0, .int .u8 0, .int .u8 0, .int .u8 0, .int .u8 0, .int .u8 0, .int .u8 0, .int .u8 0, .int .u8 0, .int .u8 0, .int .u8 0, .int .u8 0, .int .u8 0, .int .u8 0, .int .u8 0, .int .u8 0] 35 (0, 0))) ∧ Hid (wz.rowIs wr.heap.size 35 32 (outG (fin l) t)) ∧ Hid (Below w.heap.size w wz)) (fun i _ => 32 - (intOf i).toNat)
      case atStart => exact ⟨0, by omega, rfl, hS3, hD3, hO3, hB3⟩
      case round =>
        clear hS3 hD3 hO3 hB3
        rename World => wz
        obtain ⟨t, ht, rfl, hS3, hD3, hO3, hB3⟩ := hrel
        by_cases hlt2 : t < 32
        · have hF := fin_words l (t / 4) (by omega)
          have cs : wz.cell? ⟨w.heap.size + 1, t / 4, none⟩ = some (.int .u32 (fin l (t / 4) : Nat)) := hS3.out.cell (by omega)
          have co := hO3.out.cell (i := t) (by omega)
          have cf := hO3.out.frozen t
          have OW := Lib.hid (out_walk (fin l (t / 4)) t (t % 4) (by omega))
          go_wp2_with fail
          go_roundw
          case rel =>
            rw [OW.out]
            exact ⟨t + 1, by omega, by go_num, Lib.hid (hS3.out.setOther (a := ⟨wr.heap.size, t, none⟩) (by show w.heap.size + 1 ≠ wr.heap.size; omega) _), Lib.hid ((Below.heap_setCell wz ⟨wr.heap.size, t, none⟩ _ w.heap.size (by show w.heap.size ≠ wr.heap.size; omega)).trans hD3.out), Lib.hid (by rw [← outG_set]; exact hO3.out.set _ _), Lib.hid (hB3.out.setCell (p := ⟨wr.heap.size, t, none⟩) (by show w.heap.size ≤ wr.heap.size; omega) _)⟩
          case measure => simp [intOf]; omega
        · have dt : decide ((t : Int) < 32) = false := decide_eq_false (by omega)
          have hO32 : Hid (wz.heap[wr.heap.size]? = some (.cells ((sha l).map fun x => Value.int .u8 (x : Nat)).toArray 35 (0, 0))) := Lib.hid (by
            have := rowIs_arr hO3.out
            rw [show t = 32 by omega, outG_arr] at this
            exact this)
          have HOLD : Hid (32 = ((sha l).map fun x => Value.int .u8 (x : Nat)).toArray.size) := Lib.hid (by simp [sha_length])
          go_wp2_with (first | ((with_reducible refine wpList_load_row rfl 35 (.tmp 6) rfl wr.heap.size rfl 35 _ (0, 0) _ hO32.out Tryd.underlying35 rfl (size32 _ (sha_length _)) ?_)) | (refine wpList_store_row rfl 35 (.tmp 2) (.tmp 41) rfl w.heap.size ((sha l).map fun x => Value.int .u8 (x : Nat)).toArray rfl rfl 35 _ hD3.out (size32 _ (sha_length _)) HOLD.out (oneCells _) ?_))
          refine bodyPost_ret (results_cell_row rfl _ _ w.heap.size 35 _ (0, 0) _ rfl (setRow_heap wz w.heap.size _ _ _ _ hD3.out) Tryd.underlying35 rfl (size32 _ (sha_length _))) rfl ?_
          exact ⟨rfl, below_setRow hB3.out (Nat.le_refl _) _⟩
end Go.Proofs.YtcgpanjagkblmaaDoor
