/- The reference of layer 2: Sum and Tagged are the same plain functions. The reference of layer 2: Tagged. sizarref41.Salt. sizarref42: LineSalt, ClaimSalt. sizarref41: Valid, Line, Half, Check. -/
import Derived.Test.YtmfmgeapecapiaaGreatDoorSH16
import Derived.Test.YtmfmgeapecapiaaGreatDoorSH2
import Derived.Test.YtmfmgeapecapiaaGreatDoorSH5
import Derived.Test.YtmfmgeapecapiaaGreatDoorSH14
import Derived.Test.YtmfmgeapecapiaaGreatDoorSH6
import Derived.Test.YtmfmgeapecapiaaGreatDoorSH7
set_option maxHeartbeats 64000001
open Go.Lib (hid)
namespace Go.Proofs.YtmfmgeapecapiaaGreatDoor
open Go.RowKit SzSha
set_option linter.unusedVariables false
set_option maxRecDepth 100000
theorem OwnB.at {w : World} {base : Nat} {v : Value} {l : List Nat} (h : OwnB w base v l) (hl : 0 < l.length) : ∃ g c, v = .slice (some ⟨g, 0, none⟩) l.length c ∧ l.length ≤ c ∧ base ≤ g ∧ g < w.heap.size ∧ BytesAt w g 0 l := by
 rcases h.2 with ⟨rfl, h0⟩ | ⟨g, cap, cur, rfl, hb, hh, hc, hm, hs, ht⟩
 ·omega
 ·refine ⟨g, cap, rfl, hc, hb, (Array.getElem?_eq_some_iff.1 hh).1, fun i hi => ?_⟩
  rw [Nat.zero_add, cell_of_row w g i cur _ _ hh]
  have h1 : (cur.toList.take (l.length * 1))[i]? = cur[i]? := by rw [List.getElem?_take_of_lt (by omega)]; simp
  rw [← h1, ht, List.getElem?_map, List.getElem?_eq_getElem hi, List.getD_eq_getElem?_getD, List.getElem?_eq_getElem hi]
  rfl
def outG (F : Nat → Nat) (k j : Nat) : Value := .int .u8 ((if j < k then out F j else 0 : Nat))
theorem outG_set (F : Nat → Nat) (k : Nat) : (fun j => if j = k then Value.int .u8 (out F k : Nat) else outG F k j) = outG F (k + 1) := by
 funext j
 unfold outG
 by_cases e : j = k
 ·rw [if_pos e, if_pos (by omega), e]
 ·rw [if_neg e]
  by_cases e2 : j < k
  ·rw [if_pos e2, if_pos (by omega)]
  ·rw [if_neg e2, if_neg (by omega)]
theorem outG_arr (l : List Nat) : ((List.range 32).map (outG (fin l) 32)).toArray = ((sha l).map fun x => Value.int .u8 (x : Nat)).toArray := by
 unfold sha
 rw [List.map_map]
 congr 1
theorem out_walk (x i r : Nat) (hr : r < 4) : ((x : Nat) : Int) / 2 ^ (24 - 8 * r) % 256 = ((x / 256 ^ (3 - r) % 256 : Nat) : Int) := by
 show ((x / 2 ^ (24 - 8 * r) % 256 : Nat) : Int) = _
 rw [show 24 - 8 * r = 8 * (3 - r) by omega, Nat.pow_mul]
theorem row_zero32 (W : World) (F : Nat → Nat) (t : TypeId) : (W.alloc (.cells #[.int .u8 0, .int .u8 0, .int .u8 0, .int .u8 0, .int .u8 0, .int .u8 0, .int .u8 0, .int .u8 0, .int .u8 0, .int .u8 0, .int .u8 0, .int .u8 0, .int .u8 0, .int .u8 0, .int .u8 0, .int .u8 0, .int .u8 0, .int .u8 0, .int .u8 0, .int .u8 0, .int .u8 0, .int .u8 0, .int .u8 0, .int .u8 0, .int .u8 0, .int .u8 0, .int .u8 0, .int .u8 0, .int .u8 0, .int .u8 0, .int .u8 0, .int .u8 0] t)).rowIs W.heap.size t 32 (outG F 0) := World.rowIs_alloc W _ t _ (fun i hi => by
  have : ∀ j : Fin 32, (Array.replicate 32 (Value.int .u8 0))[j.val]? = some (outG F 0 j.val) := fun j => by simp [outG]
  exact this ⟨i, hi⟩)
theorem row_hf (W : World) (t : TypeId) : (W.alloc (.cells #[.int .u32 1779033703, .int .u32 3144134277, .int .u32 1013904242, .int .u32 2773480762, .int .u32 1359893119, .int .u32 2600822924, .int .u32 528734635, .int .u32 1541459225] t)).rowIs W.heap.size t 8 (stF hf) := row8 W hf t
theorem arr8 {w : World} {g t : Nat} {v : Nat → Nat} (h : w.rowIs g t 8 (stF v)) : w.heap[g]? = some (.cells #[.int .u32 (v 0 : Nat), .int .u32 (v 1 : Nat), .int .u32 (v 2 : Nat), .int .u32 (v 3 : Nat), .int .u32 (v 4 : Nat), .int .u32 (v 5 : Nat), .int .u32 (v 6 : Nat), .int .u32 (v 7 : Nat)] t (0, 0)) := rowIs_arr h
theorem row_set8 {w : World} {g t : Nat} {c : Array Value} (h : w.heap[g]? = some (.cells c t (0, 0))) (v : Nat → Nat) : (w.setRow g #[.int .u32 (v 0 : Nat), .int .u32 (v 1 : Nat), .int .u32 (v 2 : Nat), .int .u32 (v 3 : Nat), .int .u32 (v 4 : Nat), .int .u32 (v 5 : Nat), .int .u32 (v 6 : Nat), .int .u32 (v 7 : Nat)]).rowIs g t 8 (stF v) :=
 ⟨#[.int .u32 (v 0 : Nat), .int .u32 (v 1 : Nat), .int .u32 (v 2 : Nat), .int .u32 (v 3 : Nat), .int .u32 (v 4 : Nat), .int .u32 (v 5 : Nat), .int .u32 (v 6 : Nat), .int .u32 (v 7 : Nat)], setRow_heap w g _ _ _ _ h, rfl, fun i hi => by
  have hi' : i < 8 := hi
  match i, hi' with
  | 0, _ => rfl
  | 1, _ => rfl
  | 2, _ => rfl
  | 3, _ => rfl
  | 4, _ => rfl
  | 5, _ => rfl
  | 6, _ => rfl
  | 7, _ => rfl⟩
theorem sz88 (a0 a1 a2 a3 a4 a5 a6 a7 b0 b1 b2 b3 b4 b5 b6 b7 : Value) : (#[a0, a1, a2, a3, a4, a5, a6, a7]).size = (#[b0, b1, b2, b3, b4, b5, b6, b7]).size := rfl
theorem bytesAt_set {w : World} {g gp off : Nat} {l : List Nat} (c : Array Value) (h : BytesAt w gp off l) (hne : gp ≠ g) : BytesAt (w.setRow g c) gp off l := fun i hi =>
 (World.cell?_of_block (setRow_other w g gp c hne)).trans (h i hi)
theorem bytesAt_below {w w' : World} {B gp off : Nat} {l : List Nat} (h : BytesAt w gp off l) (hb : Below B w w') (hg : gp < B) : BytesAt w' gp off l := fun i hi => (hb.cell (p := ⟨gp, off + i, none⟩) hg).trans (h i hi)
set_option maxRecDepth 100000 in
theorem rsum2_any (A : Option Addr) (n c : Nat) (l : List Nat) (w : World) (hn : Hid (l.length = n)) (hc : n ≤ c) (hA : A = none → c = 0) (hsz : n ≤ 4294967296) (hb : Hid (Bytes l)) (hR : Hid (Rd w w.heap.size A l)) :
  Calls Tryz.prog 137 #[.slice A n c] w fun e w' => e = .returned (dgV (sha l)) ∧ Below w.heap.size w w' := by
 have hB0 : Below w.heap.size w ((w.alloc (.cells #[.int .u8 0, .int .u8 0, .int .u8 0, .int .u8 0, .int .u8 0, .int .u8 0, .int .u8 0, .int .u8 0, .int .u8 0, .int .u8 0, .int .u8 0, .int .u8 0, .int .u8 0, .int .u8 0, .int .u8 0, .int .u8 0, .int .u8 0, .int .u8 0, .int .u8 0, .int .u8 0, .int .u8 0, .int .u8 0, .int .u8 0, .int .u8 0, .int .u8 0, .int .u8 0, .int .u8 0, .int .u8 0, .int .u8 0, .int .u8 0, .int .u8 0, .int .u8 0] 25)).alloc (.cells #[.int .u32 1779033703, .int .u32 3144134277, .int .u32 1013904242, .int .u32 2773480762, .int .u32 1359893119, .int .u32 2600822924, .int .u32 528734635, .int .u32 1541459225] 190)) := ((Below.refl _ w).alloc (Nat.le_refl _) _).alloc (by simp) _
 have hs0 := row_hf (w.alloc (.cells #[.int .u8 0, .int .u8 0, .int .u8 0, .int .u8 0, .int .u8 0, .int .u8 0, .int .u8 0, .int .u8 0, .int .u8 0, .int .u8 0, .int .u8 0, .int .u8 0, .int .u8 0, .int .u8 0, .int .u8 0, .int .u8 0, .int .u8 0, .int .u8 0, .int .u8 0, .int .u8 0, .int .u8 0, .int .u8 0, .int .u8 0, .int .u8 0, .int .u8 0, .int .u8 0, .int .u8 0, .int .u8 0, .int .u8 0, .int .u8 0, .int .u8 0, .int .u8 0] 25)) 190
 have hd0 : ((w.alloc (.cells #[.int .u8 0, .int .u8 0, .int .u8 0, .int .u8 0, .int .u8 0, .int .u8 0, .int .u8 0, .int .u8 0, .int .u8 0, .int .u8 0, .int .u8 0, .int .u8 0, .int .u8 0, .int .u8 0, .int .u8 0, .int .u8 0, .int .u8 0, .int .u8 0, .int .u8 0, .int .u8 0, .int .u8 0, .int .u8 0, .int .u8 0, .int .u8 0, .int .u8 0, .int .u8 0, .int .u8 0, .int .u8 0, .int .u8 0, .int .u8 0, .int .u8 0, .int .u8 0] 25)).alloc (.cells #[.int .u32 1779033703, .int .u32 3144134277, .int .u32 1013904242, .int .u32 2773480762, .int .u32 1359893119, .int .u32 2600822924, .int .u32 528734635, .int .u32 1541459225] 190)).heap[w.heap.size]? = some (.cells #[.int .u8 0, .int .u8 0, .int .u8 0, .int .u8 0, .int .u8 0, .int .u8 0, .int .u8 0, .int .u8 0, .int .u8 0, .int .u8 0, .int .u8 0, .int .u8 0, .int .u8 0, .int .u8 0, .int .u8 0, .int .u8 0, .int .u8 0, .int .u8 0, .int .u8 0, .int .u8 0, .int .u8 0, .int .u8 0, .int .u8 0, .int .u8 0, .int .u8 0, .int .u8 0, .int .u8 0, .int .u8 0, .int .u8 0, .int .u8 0, .int .u8 0, .int .u8 0] 25 (0, 0)) := (Below.heap_alloc _ _ _ (by simp)).trans (heap_alloc_new w _)
 rw [World.size_alloc] at hs0
 have HB0 := hid hB0
 have HS0 := hid hs0
 have HD0 := hid hd0
 have HR0 := hid ((hR.out.below hB0 (Nat.le_refl _)).mono hB0.size)
 have hsz0 : ((w.alloc (.cells #[.int .u8 0, .int .u8 0, .int .u8 0, .int .u8 0, .int .u8 0, .int .u8 0, .int .u8 0, .int .u8 0, .int .u8 0, .int .u8 0, .int .u8 0, .int .u8 0, .int .u8 0, .int .u8 0, .int .u8 0, .int .u8 0, .int .u8 0, .int .u8 0, .int .u8 0, .int .u8 0, .int .u8 0, .int .u8 0, .int .u8 0, .int .u8 0, .int .u8 0, .int .u8 0, .int .u8 0, .int .u8 0, .int .u8 0, .int .u8 0, .int .u8 0, .int .u8 0] 25)).alloc (.cells #[.int .u32 1779033703, .int .u32 3144134277, .int .u32 1013904242, .int .u32 2773480762, .int .u32 1359893119, .int .u32 2600822924, .int .u32 528734635, .int .u32 1541459225] 190)).heap.size = w.heap.size + 2 := by simp
 have HZ0 := hid hsz0
 clear hB0 hs0 hd0 hsz0
 go_enter Tryz.func137, Tryz.ntmps137
 go_wp2_with fail
 refine (padded_any A n c l _ hn hc hA hsz HR0).mono ?_
 rintro e w1 ⟨v, rfl, ho1, hb1⟩
 have hpl : 0 < (padded l).length := by unfold padded tail; simp; omega
 obtain ⟨gp, cp, rfl, hcp, hgb, hgp, hby⟩ := ho1.at hpl
 rw [HZ0.out] at hgb hb1
 obtain ⟨L, HL'⟩ : ∃ L, Hid ((padded l).length = L) := ⟨_, hid rfl⟩
 rw [HL'.out] at hcp hpl ⊢
 have hL64 : Hid (L = 64 * (L / 64)) := hid (by rw [← HL'.out]; exact padded_length l)
 have hLb : L ≤ 4294967500 := by
  rw [← HL'.out]; unfold padded; rw [List.length_append, tail_length, hn.out]
  have : zeros n < 64 := Nat.mod_lt _ (by omega)
  omega
 have HBY := hid hby
 have HB1 : Hid (Below w.heap.size w w1) := hid (HB0.out.trans (hb1.mono (by omega)))
 have HS1 : Hid (w1.rowIs (w.heap.size + 1) 190 8 (stF (blocks 0 hf (padded l)))) := hid (rowIs_below HS0.out hb1 (by omega))
 have HD1 : Hid (w1.heap[w.heap.size]? = some (.cells #[.int .u8 0, .int .u8 0, .int .u8 0, .int .u8 0, .int .u8 0, .int .u8 0, .int .u8 0, .int .u8 0, .int .u8 0, .int .u8 0, .int .u8 0, .int .u8 0, .int .u8 0, .int .u8 0, .int .u8 0, .int .u8 0, .int .u8 0, .int .u8 0, .int .u8 0, .int .u8 0, .int .u8 0, .int .u8 0, .int .u8 0, .int .u8 0, .int .u8 0, .int .u8 0, .int .u8 0, .int .u8 0, .int .u8 0, .int .u8 0, .int .u8 0, .int .u8 0] 25 (0, 0))) := hid ((hb1.block _ (by omega)).trans HD0.out)
 clear ho1 hb1 hby HB0 HS0 HD0 HR0 HZ0
 go_wp2_with fail
 go_loopw [5] (fun i wr => ∃ k : Nat, 64 * k ≤ L ∧ i = .int .i64 ((64 * k : Nat) : Int) ∧ gp < wr.heap.size ∧ Hid (BytesAt wr gp 0 (padded l)) ∧ Hid (wr.rowIs (w.heap.size + 1) 190 8 (stF (blocks k hf (padded l)))) ∧ Hid (wr.heap[w.heap.size]? = some (.cells #[.int .u8 0, .int .u8 0, .int .u8 0, .int .u8 0, .int .u8 0, .int .u8 0, .int .u8 0, .int .u8 0, .int .u8 0, .int .u8 0, .int .u8 0, .int .u8 0, .int .u8 0, .int .u8 0, .int .u8 0, .int .u8 0, .int .u8 0, .int .u8 0, .int .u8 0, .int .u8 0, .int .u8 0, .int .u8 0, .int .u8 0, .int .u8 0, .int .u8 0, .int .u8 0, .int .u8 0, .int .u8 0, .int .u8 0, .int .u8 0, .int .u8 0, .int .u8 0] 25 (0, 0))) ∧ Hid (Below w.heap.size w wr)) (fun i _ => L - (intOf i).toNat)
 case atStart => exact ⟨0, by omega, rfl, hgp, HBY, HS1, HD1, HB1⟩
 case round =>
  clear hgp HBY HS1 HD1 HB1
  obtain ⟨k, hk, rfl, hgp, hBy, hS, hD, hB⟩ := hrel
  by_cases hlt : 64 * k < L
  ·have hfit : 64 * k + 64 ≤ L := by have := hL64.out; omega
   obtain ⟨m, hm⟩ : ∃ m, m = 64 * k := ⟨_, rfl⟩
   have HM := hid hm
   rw [← hm] at hlt hfit hk ⊢
   have dl : decide ((m : Int) < (L : Int)) = true := eQ (by omega)
   obtain ⟨m2, hm2⟩ : ∃ m2, m2 = m + 64 := ⟨_, rfl⟩
   have e64 : IntKind.i64.wrap ((m : Int) + 64) = (m2 : Int) := by rw [IntWalk.i64_in _ (by omega)]; omega
   have i1 : (0 : Int) ≤ (m : Int) := by omega
   have i2 : (m : Int) ≤ (m2 : Int) := by omega
   have i3 : (m2 : Int) ≤ (cp : Int) := by omega
   have i4 : m ≤ m2 := by omega
   have i5 : m2 ≤ cp := by omega
   have i6 : m2 - m = 64 := by omega
   have i7 : (cp == m) = false := by simp; omega
   have i8 : ¬ cp = m := by omega
   have HM2 := hid hm2
   clear hm hm2
   go_wp2_with fail
   refine wp_region_still_tail 6 (by kernel_rfl) (by kernel_rfl) ?_
   change wpStill _ _ wr.drew (fun a' => wpList _ _ _ _ a' wr.drew) _ _
   have hgp2 : gp < wr.drew.heap.size := hgp
   have hBy2 : Hid (BytesAt wr.drew gp 0 (padded l)) := hBy
   have hS2 : Hid (wr.drew.rowIs (w.heap.size + 1) 190 8 (stF (blocks k hf (padded l)))) := hS
   have hD2 : Hid (wr.drew.heap[w.heap.size]? = some (.cells #[.int .u8 0, .int .u8 0, .int .u8 0, .int .u8 0, .int .u8 0, .int .u8 0, .int .u8 0, .int .u8 0, .int .u8 0, .int .u8 0, .int .u8 0, .int .u8 0, .int .u8 0, .int .u8 0, .int .u8 0, .int .u8 0, .int .u8 0, .int .u8 0, .int .u8 0, .int .u8 0, .int .u8 0, .int .u8 0, .int .u8 0, .int .u8 0, .int .u8 0, .int .u8 0, .int .u8 0, .int .u8 0, .int .u8 0, .int .u8 0, .int .u8 0, .int .u8 0] 25 (0, 0))) := hD
   have hB2 : Hid (Below w.heap.size w wr.drew) := hid hB.out.drew
   generalize wr.drew = w2 at *
   clear hgp hBy hS hD hB
   have s0 : w2.cell? ⟨w.heap.size + 1, 0, none⟩ = some (.int .u32 (blocks k hf (padded l) 0 : Nat)) := hS2.out.cell (by omega)
   have s1 : w2.cell? ⟨w.heap.size + 1, 1, none⟩ = some (.int .u32 (blocks k hf (padded l) 1 : Nat)) := hS2.out.cell (by omega)
   have s2 : w2.cell? ⟨w.heap.size + 1, 2, none⟩ = some (.int .u32 (blocks k hf (padded l) 2 : Nat)) := hS2.out.cell (by omega)
   have s3 : w2.cell? ⟨w.heap.size + 1, 3, none⟩ = some (.int .u32 (blocks k hf (padded l) 3 : Nat)) := hS2.out.cell (by omega)
   have s4 : w2.cell? ⟨w.heap.size + 1, 4, none⟩ = some (.int .u32 (blocks k hf (padded l) 4 : Nat)) := hS2.out.cell (by omega)
   have s5 : w2.cell? ⟨w.heap.size + 1, 5, none⟩ = some (.int .u32 (blocks k hf (padded l) 5 : Nat)) := hS2.out.cell (by omega)
   have s6 : w2.cell? ⟨w.heap.size + 1, 6, none⟩ = some (.int .u32 (blocks k hf (padded l) 6 : Nat)) := hS2.out.cell (by omega)
   have s7 : w2.cell? ⟨w.heap.size + 1, 7, none⟩ = some (.int .u32 (blocks k hf (padded l) 7 : Nat)) := hS2.out.cell (by omega)
   simp only [List.take_succ_cons, List.take_zero, List.drop_succ_cons, List.drop_zero]
   repeat still_step
   refine wpStill_nil ?_
   go_wp2_with fail
   have HBl : Hid (BytesAt w2 gp m (((padded l).drop m).take 64)) := hid fun i hi => by
    have hi64 : i < 64 := by rw [List.length_take] at hi; omega
    have := hBy2.out (m + i) (by rw [HL'.out]; omega)
    rw [Nat.zero_add] at this
    rw [this, List.getD_eq_getElem?_getD, List.getD_eq_getElem?_getD, List.getElem?_take_of_lt hi64, List.getElem?_drop]
   refine (rblock_any gp m (cp - m) (blocks k hf (padded l)) (((padded l).drop m).take 64) _ (hid (by rw [List.length_take, List.length_drop, HL'.out]; omega)) (hid (bytes_take (bytes_drop (padded_bytes hb.out) _) _)) (hid (blocks_words _ _ hf_words)) (by omega) hgp2 HBl).mono ?_
   rintro e w3 ⟨rfl, hb3⟩
   have hsl2 := hS2.out.lt
   have hS3 := hid (arr8 (rowIs_below hS2.out hb3 hsl2))
   have hBy3 := hid (bytesAt_below hBy2.out hb3 hgp2)
   have hD3 := hid ((hb3.block w.heap.size (by omega)).trans hD2.out)
   have hB3 := hid (hB2.out.trans (hb3.mono hB2.out.size))
   have hgp3 : gp < w3.heap.size := Nat.lt_of_lt_of_le hgp2 hb3.size
   clear hb3 hS2 hBy2 hD2 hB2 hgp2 HBl s0 s1 s2 s3 s4 s5 s6 s7
   obtain ⟨vn, HVN⟩ : ∃ vn, Hid (block (blocks k hf (padded l)) (((padded l).drop m).take 64) = vn) := ⟨_, hid rfl⟩
   obtain ⟨vo, HVO⟩ : ∃ vo, Hid (blocks k hf (padded l) = vo) := ⟨_, hid rfl⟩
   rw [HVN.out]
   rw [HVO.out] at hS3 ⊢
   go_wp2_with (refine wpList_store_row rfl 190 (.tmp 3) (.tmp 23) rfl (w.heap.size + 1) #[.int .u32 (vn 0 : Nat), .int .u32 (vn 1 : Nat), .int .u32 (vn 2 : Nat), .int .u32 (vn 3 : Nat), .int .u32 (vn 4 : Nat), .int .u32 (vn 5 : Nat), .int .u32 (vn 6 : Nat), .int .u32 (vn 7 : Nat)] rfl rfl 190 _ hS3.out (sz8 _ _ _ _ _ _ _ _) (sz88 _ _ _ _ _ _ _ _ _ _ _ _ _ _ _ _) (one8 _ _ _ _ _ _ _ _) ?_)
   go_roundw
   case rel =>
    refine ⟨k + 1, by have := HM.out; omega, by have := HM.out; have := HM2.out; go_num, by simpa using hgp3, hid (bytesAt_set _ hBy3.out (by omega)), hid ?_, hid ((setRow_other _ _ _ _ (by omega)).trans hD3.out), hid (below_setRow hB3.out (by omega) _)⟩
    rw [blocks_snoc, ← HM.out, HVN.out]; exact row_set8 hS3.out _
   case measure => have := HM2.out; simp [intOf]; omega
  ·have hfin : Hid (blocks k hf (padded l) = fin l) := hid (by unfold fin; rw [HL'.out]; congr 1; have := hL64.out; omega)
   have hS2 : Hid (wr.rowIs (w.heap.size + 1) 190 8 (stF (fin l))) := hid (by rw [← hfin.out]; exact hS.out)
   have hsl2 := hS2.out.lt
   obtain ⟨m, hm⟩ : ∃ m, m = 64 * k := ⟨_, rfl⟩
   rw [← hm] at hlt ⊢
   have dl : decide (m < L) = false := dQ hlt
   have hge : L ≤ m := by omega
   clear hm hS hfin hBy
   have hq := laid_row wr #[.int .u8 0, .int .u8 0, .int .u8 0, .int .u8 0, .int .u8 0, .int .u8 0, .int .u8 0, .int .u8 0, .int .u8 0, .int .u8 0, .int .u8 0, .int .u8 0, .int .u8 0, .int .u8 0, .int .u8 0, .int .u8 0, .int .u8 0, .int .u8 0, .int .u8 0, .int .u8 0, .int .u8 0, .int .u8 0, .int .u8 0, .int .u8 0, .int .u8 0, .int .u8 0, .int .u8 0, .int .u8 0, .int .u8 0, .int .u8 0, .int .u8 0, .int .u8 0] #[.int .u8 0, .int .u8 0, .int .u8 0, .int .u8 0, .int .u8 0, .int .u8 0, .int .u8 0, .int .u8 0, .int .u8 0, .int .u8 0, .int .u8 0, .int .u8 0, .int .u8 0, .int .u8 0, .int .u8 0, .int .u8 0, .int .u8 0, .int .u8 0, .int .u8 0, .int .u8 0, .int .u8 0, .int .u8 0, .int .u8 0, .int .u8 0, .int .u8 0, .int .u8 0, .int .u8 0, .int .u8 0, .int .u8 0, .int .u8 0, .int .u8 0, .int .u8 0] 25
   have HQ := hid hq
   clear hq
   go_wp2_with (refine wpList_store_row rfl 25 (.tmp 6) (.tmp 24) rfl wr.heap.size #[.int .u8 0, .int .u8 0, .int .u8 0, .int .u8 0, .int .u8 0, .int .u8 0, .int .u8 0, .int .u8 0, .int .u8 0, .int .u8 0, .int .u8 0, .int .u8 0, .int .u8 0, .int .u8 0, .int .u8 0, .int .u8 0, .int .u8 0, .int .u8 0, .int .u8 0, .int .u8 0, .int .u8 0, .int .u8 0, .int .u8 0, .int .u8 0, .int .u8 0, .int .u8 0, .int .u8 0, .int .u8 0, .int .u8 0, .int .u8 0, .int .u8 0, .int .u8 0] rfl rfl 25 _ (heap_alloc_new wr _) (by kernel_rfl) rfl (by decide +kernel) ?_)
   have hS3 : Hid (((wr.alloc (.cells #[.int .u8 0, .int .u8 0, .int .u8 0, .int .u8 0, .int .u8 0, .int .u8 0, .int .u8 0, .int .u8 0, .int .u8 0, .int .u8 0, .int .u8 0, .int .u8 0, .int .u8 0, .int .u8 0, .int .u8 0, .int .u8 0, .int .u8 0, .int .u8 0, .int .u8 0, .int .u8 0, .int .u8 0, .int .u8 0, .int .u8 0, .int .u8 0, .int .u8 0, .int .u8 0, .int .u8 0, .int .u8 0, .int .u8 0, .int .u8 0, .int .u8 0, .int .u8 0] 25)).setRow wr.heap.size #[.int .u8 0, .int .u8 0, .int .u8 0, .int .u8 0, .int .u8 0, .int .u8 0, .int .u8 0, .int .u8 0, .int .u8 0, .int .u8 0, .int .u8 0, .int .u8 0, .int .u8 0, .int .u8 0, .int .u8 0, .int .u8 0, .int .u8 0, .int .u8 0, .int .u8 0, .int .u8 0, .int .u8 0, .int .u8 0, .int .u8 0, .int .u8 0, .int .u8 0, .int .u8 0, .int .u8 0, .int .u8 0, .int .u8 0, .int .u8 0, .int .u8 0, .int .u8 0]).rowIs (w.heap.size + 1) 190 8 (stF (fin l))) := hid (rowIs_below hS2.out HQ.out.1 hsl2)
   have hD3 := hid ((HQ.out.1.block w.heap.size (by omega)).trans hD.out)
   have hB3 := hid (hB.out.trans (HQ.out.1.mono hB.out.size))
   have hO3 : Hid (((wr.alloc (.cells #[.int .u8 0, .int .u8 0, .int .u8 0, .int .u8 0, .int .u8 0, .int .u8 0, .int .u8 0, .int .u8 0, .int .u8 0, .int .u8 0, .int .u8 0, .int .u8 0, .int .u8 0, .int .u8 0, .int .u8 0, .int .u8 0, .int .u8 0, .int .u8 0, .int .u8 0, .int .u8 0, .int .u8 0, .int .u8 0, .int .u8 0, .int .u8 0, .int .u8 0, .int .u8 0, .int .u8 0, .int .u8 0, .int .u8 0, .int .u8 0, .int .u8 0, .int .u8 0] 25)).setRow wr.heap.size #[.int .u8 0, .int .u8 0, .int .u8 0, .int .u8 0, .int .u8 0, .int .u8 0, .int .u8 0, .int .u8 0, .int .u8 0, .int .u8 0, .int .u8 0, .int .u8 0, .int .u8 0, .int .u8 0, .int .u8 0, .int .u8 0, .int .u8 0, .int .u8 0, .int .u8 0, .int .u8 0, .int .u8 0, .int .u8 0, .int .u8 0, .int .u8 0, .int .u8 0, .int .u8 0, .int .u8 0, .int .u8 0, .int .u8 0, .int .u8 0, .int .u8 0, .int .u8 0]).rowIs wr.heap.size 25 32 (outG (fin l) 0)) := hid (row_same (row_zero32 wr (fin l) 25) (heap_alloc_new wr _))
   clear HQ hS2 hD hB
   go_loopw [7] (fun i wz => ∃ t : Nat, t ≤ 32 ∧ i = .int .i64 t ∧ Hid (wz.rowIs (w.heap.size + 1) 190 8 (stF (fin l))) ∧ Hid (wz.heap[w.heap.size]? = some (.cells #[.int .u8 0, .int .u8 0, .int .u8 0, .int .u8 0, .int .u8 0, .int .u8 0, .int .u8 0, .int .u8 0, .int .u8 0, .int .u8 0, .int .u8 0, .int .u8 0, .int .u8 0, .int .u8 0, .int .u8 0, .int .u8 0, .int .u8 0, .int .u8 0, .int .u8 0, .int .u8 0, .int .u8 0, .int .u8 0, .int .u8 0, .int .u8 0, .int .u8 0, .int .u8 0, .int .u8 0, .int .u8 0, .int .u8 0, .int .u8 0, .int .u8 0, .int .u8 0] 25 (0, 0))) ∧ Hid (wz.rowIs wr.heap.size 25 32 (outG (fin l) t)) ∧ Hid (Below w.heap.size w wz)) (fun i _ => 32 - (intOf i).toNat)
   case atStart => exact ⟨0, by omega, rfl, hS3, hD3, hO3, hB3⟩
   case round =>
    clear hS3 hD3 hO3 hB3
    rename World => wz
    obtain ⟨t, ht, rfl, hS3, hD3, hO3, hB3⟩ := hrel
    by_cases hlt2 : t < 32
    ·have hF := fin_words l (t / 4) (by omega)
     have cs : wz.cell? ⟨w.heap.size + 1, t / 4, none⟩ = some (.int .u32 (fin l (t / 4) : Nat)) := hS3.out.cell (by omega)
     have co := hO3.out.cell (i := t) (by omega)
     have cf := hO3.out.frozen t
     have OW := hid (out_walk (fin l (t / 4)) t (t % 4) (by omega))
     go_wp2_with fail
     go_roundw
     case rel =>
      rw [OW.out]
      exact ⟨t + 1, by omega, by go_num, hid (hS3.out.setOther (a := ⟨wr.heap.size, t, none⟩) (by show w.heap.size + 1 ≠ wr.heap.size; omega) _), hid ((Below.heap_setCell wz ⟨wr.heap.size, t, none⟩ _ w.heap.size (by show w.heap.size ≠ wr.heap.size; omega)).trans hD3.out), hid (by rw [← outG_set]; exact hO3.out.set _ _), hid (hB3.out.setCell (p := ⟨wr.heap.size, t, none⟩) (by show w.heap.size ≤ wr.heap.size; omega) _)⟩
     case measure => simp [intOf]; omega
    ·have dt : decide ((t : Int) < 32) = false := dQ (by omega)
     have hO32 : Hid (wz.heap[wr.heap.size]? = some (.cells ((sha l).map fun x => Value.int .u8 (x : Nat)).toArray 25 (0, 0))) := hid (by
      have := rowIs_arr hO3.out
      rw [show t = 32 by omega, outG_arr] at this
      exact this)
     have HOLD : Hid (32 = ((sha l).map fun x => Value.int .u8 (x : Nat)).toArray.size) := hid (by simp [sha_length])
     go_wp2_with (first | ((with_reducible refine wpList_load_row rfl 25 (.tmp 6) rfl wr.heap.size rfl 25 _ (0, 0) _ hO32.out Tryz.underlying25 rfl (size32 _ (sha_length _)) ?_)) | (refine wpList_store_row rfl 25 (.tmp 2) (.tmp 41) rfl w.heap.size ((sha l).map fun x => Value.int .u8 (x : Nat)).toArray rfl rfl 25 _ hD3.out (size32 _ (sha_length _)) HOLD.out (oneCells _) ?_))
     refine bodyPost_ret (results_cell_row rfl _ _ w.heap.size 25 _ (0, 0) _ rfl (setRow_heap wz w.heap.size _ _ _ _ hD3.out) Tryz.underlying25 rfl (size32 _ (sha_length _))) rfl ?_
     exact ⟨rfl, below_setRow hB3.out (Nat.le_refl _) _⟩
set_option maxRecDepth 100000 in
theorem rtagged_any (tag : ByteArray) (A : Option Addr) (n c : Nat) (l : List Nat) (w : World) (htag : tag.size ≤ 4294967296) (hn : Hid (l.length = n)) (hc : n ≤ c) (hA : A = none → c = 0) (hsz : n ≤ 2147483648) (hb : Hid (Bytes l)) (hR : Hid (Rd w w.heap.size A l)) :
  Calls Tryz.prog 100 #[.string tag, .slice A n c] w fun e w' => e = .returned (dgV (tagged (strL tag) l)) ∧ Below w.heap.size w w' := by
 have HA := hid hA
 clear hA
 have hb0 : Below w.heap.size w (w.alloc (.cells #[.int .u8 0, .int .u8 0, .int .u8 0, .int .u8 0, .int .u8 0, .int .u8 0, .int .u8 0, .int .u8 0, .int .u8 0, .int .u8 0, .int .u8 0, .int .u8 0, .int .u8 0, .int .u8 0, .int .u8 0, .int .u8 0, .int .u8 0, .int .u8 0, .int .u8 0, .int .u8 0, .int .u8 0, .int .u8 0, .int .u8 0, .int .u8 0, .int .u8 0, .int .u8 0, .int .u8 0, .int .u8 0, .int .u8 0, .int .u8 0, .int .u8 0, .int .u8 0] 25)) := (Below.refl _ _).alloc (Nat.le_refl _) _
 obtain ⟨c0, W2, hconv, hc0, hbc, hlt2, hby⟩ := conv_bytes tag (w.alloc (.cells #[.int .u8 0, .int .u8 0, .int .u8 0, .int .u8 0, .int .u8 0, .int .u8 0, .int .u8 0, .int .u8 0, .int .u8 0, .int .u8 0, .int .u8 0, .int .u8 0, .int .u8 0, .int .u8 0, .int .u8 0, .int .u8 0, .int .u8 0, .int .u8 0, .int .u8 0, .int .u8 0, .int .u8 0, .int .u8 0, .int .u8 0, .int .u8 0, .int .u8 0, .int .u8 0, .int .u8 0, .int .u8 0, .int .u8 0, .int .u8 0, .int .u8 0, .int .u8 0] 25))
 have hbl0 : (w.alloc (.cells #[.int .u8 0, .int .u8 0, .int .u8 0, .int .u8 0, .int .u8 0, .int .u8 0, .int .u8 0, .int .u8 0, .int .u8 0, .int .u8 0, .int .u8 0, .int .u8 0, .int .u8 0, .int .u8 0, .int .u8 0, .int .u8 0, .int .u8 0, .int .u8 0, .int .u8 0, .int .u8 0, .int .u8 0, .int .u8 0, .int .u8 0, .int .u8 0, .int .u8 0, .int .u8 0, .int .u8 0, .int .u8 0, .int .u8 0, .int .u8 0, .int .u8 0, .int .u8 0] 25)).heap[w.heap.size]? = some (.cells #[.int .u8 0, .int .u8 0, .int .u8 0, .int .u8 0, .int .u8 0, .int .u8 0, .int .u8 0, .int .u8 0, .int .u8 0, .int .u8 0, .int .u8 0, .int .u8 0, .int .u8 0, .int .u8 0, .int .u8 0, .int .u8 0, .int .u8 0, .int .u8 0, .int .u8 0, .int .u8 0, .int .u8 0, .int .u8 0, .int .u8 0, .int .u8 0, .int .u8 0, .int .u8 0, .int .u8 0, .int .u8 0, .int .u8 0, .int .u8 0, .int .u8 0, .int .u8 0] 25 (0, 0)) := heap_alloc_new w _
 have hbl2 := hid ((hbc.block w.heap.size (by simp)).trans hbl0)
 have hb2 := hid (hb0.trans (hbc.mono (by simp)))
 simp only [World.size_alloc] at hconv hby hlt2
 have HBY := hid hby
 clear hb0 hbl0 hby hbc
 go_enter Tryz.func100, Tryz.ntmps100
 go_wp2_with fail
 refine (rsum2_any (some ⟨w.heap.size + 1, 0, none⟩) tag.size c0 (strL tag) _ (hid (strL_length tag)) hc0 (fun h => by cases h) htag (hid (strL_bytes tag)) (hid (fun _ => ⟨_, _, rfl, hlt2, HBY.out⟩))).mono ?_
 rintro e W3 ⟨rfl, hb3⟩
 have hbl3 := hid ((hb3.block w.heap.size (by omega)).trans hbl2.out)
 have HB3 := hid (hb2.out.trans (hb3.mono hb2.out.size))
 have hs3 : w.heap.size + 1 < W3.heap.size := Nat.lt_of_lt_of_le hlt2 hb3.size
 clear hb3 HBY hbl2 hb2 hconv
 have hold : ∀ m : List Nat, m.length = 32 → 32 = (m.map fun x => Value.int .u8 (x : Nat)).toArray.size := fun m h => by simp [h]
 have HOLD := hid hold
 clear hold
 have hq := laid_row W3 #[.int .u8 0, .int .u8 0, .int .u8 0, .int .u8 0, .int .u8 0, .int .u8 0, .int .u8 0, .int .u8 0, .int .u8 0, .int .u8 0, .int .u8 0, .int .u8 0, .int .u8 0, .int .u8 0, .int .u8 0, .int .u8 0, .int .u8 0, .int .u8 0, .int .u8 0, .int .u8 0, .int .u8 0, .int .u8 0, .int .u8 0, .int .u8 0, .int .u8 0, .int .u8 0, .int .u8 0, .int .u8 0, .int .u8 0, .int .u8 0, .int .u8 0, .int .u8 0] ((sha (strL tag)).map fun x => Value.int .u8 (x : Nat)).toArray 25
 have HQ := hid hq
 clear hq
 obtain ⟨W4, HW4⟩ : ∃ W4, Hid ((W3.alloc (.cells #[.int .u8 0, .int .u8 0, .int .u8 0, .int .u8 0, .int .u8 0, .int .u8 0, .int .u8 0, .int .u8 0, .int .u8 0, .int .u8 0, .int .u8 0, .int .u8 0, .int .u8 0, .int .u8 0, .int .u8 0, .int .u8 0, .int .u8 0, .int .u8 0, .int .u8 0, .int .u8 0, .int .u8 0, .int .u8 0, .int .u8 0, .int .u8 0, .int .u8 0, .int .u8 0, .int .u8 0, .int .u8 0, .int .u8 0, .int .u8 0, .int .u8 0, .int .u8 0] 25)).setRow W3.heap.size ((sha (strL tag)).map fun x => Value.int .u8 (x : Nat)).toArray = W4) := ⟨_, hid rfl⟩
 rw [HW4.out] at HQ
 have HO4 := hid (OwnB.empty W4 (w.heap.size + 1) (by have := HQ.out.2.1; omega))
 have HS5 : Hid (w.heap.size + 1 ≤ (W4.alloc (.cells #[] 5)).heap.size) := hid (by have := HQ.out.2.1; simp; omega)
 have HB4 := hid (HB3.out.trans (HQ.out.1.mono HB3.out.size))
 have HB5 := hid (HB4.out.alloc HB4.out.size (.cells #[] 5))
 have hd5 : Hid (Rd (W4.alloc (.cells #[] 5)) (W4.alloc (.cells #[] 5)).heap.size (some ⟨W3.heap.size, 0, none⟩) (sha (strL tag))) := hid (fun _ => ⟨_, _, rfl, by have := HQ.out.2.1; simp; omega, bytesAt_arr ((Below.heap_alloc W4 _ _ (by have := HQ.out.2.1; omega)).trans HQ.out.2.2)⟩)
 have hbl4 := hid ((HQ.out.1.block w.heap.size (by omega)).trans hbl3.out)
 have HR4 : Hid (∀ W6, Below w.heap.size (W4.alloc (.cells #[] 5)) W6 → Rd W6 W6.heap.size A l) := hid (fun W6 h => by
  have hh := HB5.out.trans h
  exact (hR.out.below hh (Nat.le_refl _)).mono hh.size)
 have hl32 := hid (sha_length (strL tag))
 have hapl : Hid ((([] : List Nat) ++ sha (strL tag)).length + n ≤ 1099511627776) := hid (by rw [List.nil_append, hl32.out]; omega)
 have hap0 : Hid (([] : List Nat).length + 32 ≤ 1099511627776) := hid (by simp)
 go_wp2_with (first
  | (refine wpList_store_row rfl 25 (.tmp 5) (.tmp 8) rfl W3.heap.size ((sha (strL tag)).map fun x => Value.int .u8 (x : Nat)).toArray rfl rfl 25 _ (heap_alloc_new W3 _) (size32 _ (sha_length _)) (HOLD.out _ (sha_length _)) (oneCells _) ?_; rw [HW4.out])
  | (at_builtin; refine wpList_append_bytes rfl (.tmp 9) (.tmp 10) rfl (w.heap.size + 1) _ [] (sha (strL tag)) rfl HO4 (some ⟨W3.heap.size, 0, none⟩) 32 32 rfl hl32 (fun h => by cases h) hd5 hap0.out HS5.out ?_; intro v1 W6 HO6 HB6; have HR6 := hid (HR4.out W6 (HB6.out.mono (Nat.le_succ _))); have HS6 := hid (Nat.le_trans HS5.out HB6.out.size))
  | (at_builtin; refine wpList_append_bytes rfl (.tmp 11) (.tmp 12) rfl (w.heap.size + 1) _ ([] ++ sha (strL tag)) l rfl HO6 A n c rfl hn HA.out HR6 hapl.out HS6.out ?_; intro v2 W7 HO7 HB7))
 have hB57 := HB6.out.trans HB7.out
 have hbl7 := hid ((hB57.block w.heap.size (Nat.lt_succ_self _)).trans (((Below.heap_alloc W4 _ _ (by have := HQ.out.2.1; omega))).trans hbl4.out))
 have HB8 := hid (HB5.out.trans (hB57.mono (Nat.le_succ _)))
 have hs7 : w.heap.size < W7.heap.size := by have := HB7.out.size; have := HS6.out; omega
 have ho7 : OwnB W7 (w.heap.size + 1) v2 (sha (strL tag) ++ l) := HO7.out
 obtain ⟨A6, n6, c6, rfl, hn6, hc6, hA6, HR8⟩ := ho7.slice
 have hbb : Hid (Bytes (sha (strL tag) ++ l)) := hid (fun x hx => by
  rcases List.mem_append.1 hx with h | h
  ·exact sha_bytes _ x h
  ·exact hb.out x h)
 have hm6 : n6 ≤ 4294967296 := by rw [← hn6.out, List.length_append, sha_length, hn.out]; omega
 clear ho7 HO7 HO6 hB57 HB6 HB7 HO4 hd5 hbl4 hbl3 HB3 HB4 HB5 HR4 HR6 HS6 HS5
 go_wp2_with fail
 refine (rsum2_any A6 n6 c6 (sha (strL tag) ++ l) _ hn6 hc6 hA6.out hm6 hbb HR8).mono ?_
 rintro e W9 ⟨rfl, hb9⟩
 have hbl9 := hid ((hb9.block w.heap.size hs7).trans hbl7.out)
 have HB9 := hid (HB8.out.trans (hb9.mono HB8.out.size))
 clear hb9 HB8 hbl7 HR8 hbb
 go_wp2_with (refine wpList_store_row rfl 25 (.tmp 4) (.tmp 14) rfl w.heap.size ((sha (sha (strL tag) ++ l)).map fun x => Value.int .u8 (x : Nat)).toArray rfl rfl 25 _ hbl9.out (size32 _ (sha_length _)) (HOLD.out _ (sha_length _)) (oneCells _) ?_)
 refine bodyPost_ret (results_cell_row rfl _ _ w.heap.size 25 _ (0, 0) _ rfl (setRow_heap W9 w.heap.size _ _ _ _ hbl9.out) Tryz.underlying25 rfl (size32 _ (sha_length _))) rfl ?_
 exact ⟨rfl, below_setRow HB9.out (Nat.le_refl _) _⟩
open SzTree
theorem two_cells {w : World} {g t : Nat} {a b : Int} (h : w.heap[g]? = some (.cells #[.int .i64 a, .int .i64 b] t (0, 0))) (i : Nat) (hi : i < 2) : w.cell? ⟨g, i, none⟩ = some (.int .i64 (([a, b] : List Int).getD i 0)) := by
 have : i = 0 ∨ i = 1 := by omega
 rcases this with rfl | rfl <;> (rw [cell_of_row _ _ _ _ _ _ h]; rfl)
theorem bytes_app {l m : List Nat} (hl : Bytes l) (hm : Bytes m) : Bytes (l ++ m) := fun x hx => by
 rcases List.mem_append.1 hx with h | h
 ·exact hl x h
 ·exact hm x h
theorem rsalt_any (l : List Nat) (k z : Int) (w : World) (hl : Hid (l.length = 32)) (hb : Hid (Bytes l)) (hk1 : -9223372036854775808 ≤ k) (hk2 : k ≤ 9223372036854775807) (hz1 : -9223372036854775808 ≤ z) (hz2 : z ≤ 9223372036854775807) :
  Calls Tryz.prog 101 #[dgV l, .int .i64 k, .int .i64 z] w fun e w' => e = .returned (dgV (saltN l k z)) ∧ Below w.heap.size w w' := by
 have HZS : Hid (∀ y ∈ ([k, z] : List Int), -9223372036854775808 ≤ y ∧ y ≤ 9223372036854775807) := hid (fun y hy => by
  simp only [List.mem_cons, List.not_mem_nil, or_false] at hy
  rcases hy with rfl | rfl <;> omega)
 clear hk1 hk2 hz1 hz2
 obtain ⟨X, HX⟩ : ∃ X, Hid ((l.map fun x => Value.int .u8 (x : Nat)).toArray = X) := ⟨_, hid rfl⟩
 have e0 : dgV l = .agg X := by unfold dgV; rw [HX.out]
 rw [e0]
 clear e0
 obtain ⟨t1, t2, t3, t4, t5⟩ := two_rows2 w X #[.int .u8 0, .int .u8 0, .int .u8 0, .int .u8 0, .int .u8 0, .int .u8 0, .int .u8 0, .int .u8 0, .int .u8 0, .int .u8 0, .int .u8 0, .int .u8 0, .int .u8 0, .int .u8 0, .int .u8 0, .int .u8 0, .int .u8 0, .int .u8 0, .int .u8 0, .int .u8 0, .int .u8 0, .int .u8 0, .int .u8 0, .int .u8 0, .int .u8 0, .int .u8 0, .int .u8 0, .int .u8 0, .int .u8 0, .int .u8 0, .int .u8 0, .int .u8 0] 25 (.cells #[] 5)
 obtain ⟨W3, HW3⟩ : ∃ W3, Hid (((w.alloc (.cells X 25)).alloc (.cells #[.int .u8 0, .int .u8 0, .int .u8 0, .int .u8 0, .int .u8 0, .int .u8 0, .int .u8 0, .int .u8 0, .int .u8 0, .int .u8 0, .int .u8 0, .int .u8 0, .int .u8 0, .int .u8 0, .int .u8 0, .int .u8 0, .int .u8 0, .int .u8 0, .int .u8 0, .int .u8 0, .int .u8 0, .int .u8 0, .int .u8 0, .int .u8 0, .int .u8 0, .int .u8 0, .int .u8 0, .int .u8 0, .int .u8 0, .int .u8 0, .int .u8 0, .int .u8 0] 25)).alloc (.cells #[] 5) = W3) := ⟨_, hid rfl⟩
 have HO0 : Hid (OwnB (((w.alloc (.cells X 25)).alloc (.cells #[.int .u8 0, .int .u8 0, .int .u8 0, .int .u8 0, .int .u8 0, .int .u8 0, .int .u8 0, .int .u8 0, .int .u8 0, .int .u8 0, .int .u8 0, .int .u8 0, .int .u8 0, .int .u8 0, .int .u8 0, .int .u8 0, .int .u8 0, .int .u8 0, .int .u8 0, .int .u8 0, .int .u8 0, .int .u8 0, .int .u8 0, .int .u8 0, .int .u8 0, .int .u8 0, .int .u8 0, .int .u8 0, .int .u8 0, .int .u8 0, .int .u8 0, .int .u8 0] 25)).alloc (.cells #[] 5)) (w.heap.size + 1 + 1) (.slice (some ⟨w.heap.size + 1 + 1, 0, none⟩) 0 0) []) := hid (by have := OwnB.empty ((w.alloc (.cells X 25)).alloc (.cells #[.int .u8 0, .int .u8 0, .int .u8 0, .int .u8 0, .int .u8 0, .int .u8 0, .int .u8 0, .int .u8 0, .int .u8 0, .int .u8 0, .int .u8 0, .int .u8 0, .int .u8 0, .int .u8 0, .int .u8 0, .int .u8 0, .int .u8 0, .int .u8 0, .int .u8 0, .int .u8 0, .int .u8 0, .int .u8 0, .int .u8 0, .int .u8 0, .int .u8 0, .int .u8 0, .int .u8 0, .int .u8 0, .int .u8 0, .int .u8 0, .int .u8 0, .int .u8 0] 25)) (w.heap.size + 1 + 1) (by simp); simpa only [World.size_alloc] using this)
 have HRD : Hid (Rd (((w.alloc (.cells X 25)).alloc (.cells #[.int .u8 0, .int .u8 0, .int .u8 0, .int .u8 0, .int .u8 0, .int .u8 0, .int .u8 0, .int .u8 0, .int .u8 0, .int .u8 0, .int .u8 0, .int .u8 0, .int .u8 0, .int .u8 0, .int .u8 0, .int .u8 0, .int .u8 0, .int .u8 0, .int .u8 0, .int .u8 0, .int .u8 0, .int .u8 0, .int .u8 0, .int .u8 0, .int .u8 0, .int .u8 0, .int .u8 0, .int .u8 0, .int .u8 0, .int .u8 0, .int .u8 0, .int .u8 0] 25)).alloc (.cells #[] 5)) (((w.alloc (.cells X 25)).alloc (.cells #[.int .u8 0, .int .u8 0, .int .u8 0, .int .u8 0, .int .u8 0, .int .u8 0, .int .u8 0, .int .u8 0, .int .u8 0, .int .u8 0, .int .u8 0, .int .u8 0, .int .u8 0, .int .u8 0, .int .u8 0, .int .u8 0, .int .u8 0, .int .u8 0, .int .u8 0, .int .u8 0, .int .u8 0, .int .u8 0, .int .u8 0, .int .u8 0, .int .u8 0, .int .u8 0, .int .u8 0, .int .u8 0, .int .u8 0, .int .u8 0, .int .u8 0, .int .u8 0] 25)).alloc (.cells #[] 5)).heap.size (some ⟨w.heap.size, 0, none⟩) l) := hid (fun _ => ⟨_, 0, rfl, by rw [t5]; omega, bytesAt_arr (by rw [HX.out]; exact t2)⟩)
 rw [HW3.out] at t1 t2 t3 t4 t5 HO0 HRD
 have T1 := hid t1
 have T3 := hid t3
 have T5 := hid t5
 have HSZ : Hid (w.heap.size + 1 + 1 ≤ W3.heap.size) := hid (by rw [t5]; omega)
 have HL0 : Hid (([] : List Nat).length + 32 ≤ 1099511627776) := hid (by simp)
 clear t1 t2 t3 t4 t5
 go_enter Tryz.func101, Tryz.ntmps101
 go_wp2_with (at_builtin; rw [HW3.out]; refine wpList_append_bytes rfl (.tmp 8) (.tmp 9) rfl (w.heap.size + 1 + 1) _ [] l rfl HO0 (some ⟨w.heap.size, 0, none⟩) 32 32 rfl hl (fun h => by cases h) HRD HL0.out HSZ.out ?_; intro v1 W4 HO4 HB4)
 have hq := heap_alloc_new W4 (.cells #[.int .i64 k, .int .i64 z] 3)
 have hba := (Below.refl _ W4).alloc (Nat.le_refl _) (.cells #[.int .i64 k, .int .i64 z] 3)
 have HB5 := hid (HB4.out.trans (hba.mono (by have := HB4.out.size; have := HSZ.out; omega)))
 have HO5 := hid (HO4.out.below hba)
 have HCS : Hid (∀ i, i < 2 → (W4.alloc (.cells #[.int .i64 k, .int .i64 z] 3)).cell? ⟨W4.heap.size, i, none⟩ = some (.int .i64 (([k, z] : List Int).getD i 0))) := hid (fun i hi => two_cells hq i hi)
 clear hq hba
 refine (rints_any [k, z] W4.heap.size 2 2 _ HZS rfl (by omega) HCS (by simp)).mono ?_
 rintro e W6 ⟨v6, rfl, ho6, hq6⟩
 obtain ⟨A6, n6, c6, rfl, hn6, hc6, hA6, HR6⟩ := ho6.slice
 have HB6 := hid (HB5.out.trans (hq6.mono (by have := HB5.out.size; have := HSZ.out; omega)))
 have HO6 := hid (HO5.out.below hq6)
 have HEL : Hid (n6 ≤ 100) := hid (by rw [← hn6.out]; have := encI_length [k, z]; simp only [List.length_cons, List.length_nil] at this; omega)
 have HL6 : Hid (([] ++ l).length + n6 ≤ 1099511627776) := hid (by rw [List.nil_append, hl.out]; have := HEL.out; omega)
 have HS6 := hid (Nat.le_trans HSZ.out HB6.out.size)
 clear ho6 hq6
 go_wp2_with (at_builtin; refine wpList_append_bytes rfl (.tmp 11) (.tmp 15) rfl (w.heap.size + 1 + 1) _ ([] ++ l) (encI [k, z]) rfl HO6 A6 n6 c6 rfl hn6 hA6.out HR6 HL6.out HS6.out ?_; intro v7 W7 HO7 HB7)
 obtain ⟨A7, n7, c7, rfl, hn7, hc7, hA7, HR7⟩ := HO7.out.slice
 have HB8 := hid (HB6.out.trans HB7.out)
 have HB9 := hid (T1.out.trans (HB8.out.mono (by omega)))
 have HR9 := hid ((HB8.out.block (w.heap.size + 1) (by omega)).trans T3.out)
 refine (rtagged_any saltTag A7 n7 c7 _ _ (by decide) hn7 hc7 hA7.out (by rw [← hn7.out]; have := HL6.out; have := HEL.out; simp only [List.length_append, List.nil_append, hl.out, hn6.out]; omega) (hid (bytes_app (bytes_app (fun x hx => by cases hx) hb.out) (encI_bytes _))) HR7).mono ?_
 rintro e w2 ⟨rfl, hq⟩
 have HE : Hid (dgV (tagged (strL saltTag) ([] ++ l ++ encI [k, z])) = dgV (saltN l k z)) := hid (by rw [← salt_d, List.nil_append]; rfl)
 rw [HE.out]
 have HB2 := hid (HB9.out.trans (hq.mono HB9.out.size))
 have HR2 := hid ((hq.block (w.heap.size + 1) (Array.getElem?_eq_some_iff.1 HR9.out).1).trans HR9.out)
 obtain ⟨Y, HY⟩ : ∃ Y, Hid (((saltN l k z).map fun x => Value.int .u8 (x : Nat)).toArray = Y) := ⟨_, hid rfl⟩
 have HEX : Hid (dgV (saltN l k z) = .agg Y) := hid (by unfold dgV; rw [HY.out])
 have hYs : Hid (32 = Y.size) := hid (by rw [← HY.out]; simp [saltN_length])
 have hsz : Hid ((Tryz.prog.info? 25).map (·.size) = some Y.size) := hid (by rw [← HY.out]; exact size32 _ (saltN_length _ _ _))
 have hone : Hid (Y.all (·.oneCell') = true) := hid (by rw [← HY.out]; exact oneCells _)
 rw [HEX.out]
 clear hq
 go_wp2_with (refine wpList_store_row rfl 25 (.tmp 6) (.tmp 17) rfl (w.heap.size + 1) Y rfl rfl 25 _ HR2.out hsz.out hYs.out hone.out ?_)
 refine bodyPost_ret (results_cell_row rfl _ _ (w.heap.size + 1) 25 _ (0, 0) _ rfl (setRow_heap w2 (w.heap.size + 1) _ _ _ _ HR2.out) Tryz.underlying25 rfl hsz.out) rfl ?_
 exact ⟨by rw [HEX.out], below_setRow HB2.out (Nat.le_succ _) _⟩
def wR42sL (W0 : World) (br : Nat) (s : Dg) (x : Ln) (r : Dg) : Nat → Value → World → Prop
 | 0, fv, _ => fv = dgV s
 | 1, fv, _ => fv = lnV x
 | 2, fv, _ => fv = .int .i64 (nLn x)
 | 3, fv, _ => fv = dgV r
 | 4, fv, fw => fw.heap[br]? = some (.cells (dgC r).toArray 25 (0, 0)) ∧ Below W0.heap.size W0 fw
 | _, _, _ => True
theorem wR42sL_below {W0 : World} {br : Nat} {s : Dg} {x : Ln} {r : Dg} {w w' : World} (hb : Below w.heap.size w w') : ∀ j v, wR42sL W0 br s x r j v w → wR42sL W0 br s x r j v w'
 | 0, v, h => h
 | 1, v, h => h
 | 2, v, h => h
 | 3, v, h => h
 | 4, v, h => ⟨row_kept h.1 hb, h.2.trans (hb.mono h.2.size)⟩
 | n + 5, v, h => trivial
theorem wR42sL_pure {W0 : World} {br : Nat} {s : Dg} {x : Ln} {r : Dg} {w w' : World} : ∀ j v, j ≠ 4 → wR42sL W0 br s x r j v w → wR42sL W0 br s x r j v w'
 | 0, v, _, h => h
 | 1, v, _, h => h
 | 2, v, _, h => h
 | 3, v, _, h => h
 | 4, v, hh, _ => absurd rfl hh
 | n + 5, v, _, h => trivial
theorem lnC_infoS (x : Ln) : (Tryz.prog.info? 45).map (·.size) = some (lnC x).toArray.size := by show _ = some 5; kernel_rfl
theorem rsaltL (s : Dg) (x : Ln) (w : World) (hs : Hid (DgOk s)) :
  Calls Tryz.prog 45 #[dgV s, lnV x] w fun e w' => e = .returned (dgV (saltN s 1 (nLn x))) ∧ Below w.heap.size w w' := by
 obtain ⟨t1, t2, t3, t4⟩ := three_rows3 w (dgC s).toArray (lnC x).toArray #[.int .u8 0, .int .u8 0, .int .u8 0, .int .u8 0, .int .u8 0, .int .u8 0, .int .u8 0, .int .u8 0, .int .u8 0, .int .u8 0, .int .u8 0, .int .u8 0, .int .u8 0, .int .u8 0, .int .u8 0, .int .u8 0, .int .u8 0, .int .u8 0, .int .u8 0, .int .u8 0, .int .u8 0, .int .u8 0, .int .u8 0, .int .u8 0, .int .u8 0, .int .u8 0, .int .u8 0, .int .u8 0, .int .u8 0, .int .u8 0, .int .u8 0, .int .u8 0] 25 45 25
 have HB0 := hid t1
 have HRA := hid t2
 have HRB := hid t3
 have HR0 := hid t4
 clear t1 t2 t3 t4
 obtain ⟨r, HR⟩ : ∃ r, Hid (saltN s 1 (nLn x) = r) := ⟨_, hid rfl⟩
 have HRO : Hid (DgOk r) := hid (by rw [← HR.out]; exact saltN_ok _ _ _)
 have HS0 := hid (dgC_info hs.out)
 have HSX := hid (lnC_infoS x)
 have HS1 := hid (dgC_info HRO.out)
 have HS2 := hid (dgC_size HRO.out)
 have HBD : Hid (I64 (nLn x)) := hid (noL_bd _ _)
 rw [HR.out, dgV_agg s, show lnV x = .agg (lnC x).toArray from rfl]
 go_enter Tryz.func45, Tryz.ntmps45
 go_wp2_with fail
 generalize ((w.alloc (.cells (dgC s).toArray 25)).alloc (.cells (lnC x).toArray 45)).alloc (.cells #[.int .u8 0, .int .u8 0, .int .u8 0, .int .u8 0, .int .u8 0, .int .u8 0, .int .u8 0, .int .u8 0, .int .u8 0, .int .u8 0, .int .u8 0, .int .u8 0, .int .u8 0, .int .u8 0, .int .u8 0, .int .u8 0, .int .u8 0, .int .u8 0, .int .u8 0, .int .u8 0, .int .u8 0, .int .u8 0, .int .u8 0, .int .u8 0, .int .u8 0, .int .u8 0, .int .u8 0, .int .u8 0, .int .u8 0, .int .u8 0, .int .u8 0, .int .u8 0] 25) = W1 at *
 refine region_flow3 (by kernel_rfl) (by kernel_rfl) (fun i => Nat.beq i 4) (fun i => i) (by kernel_rfl) (fun fx => #[.agg (dgC s).toArray, .agg (lnC x).toArray, .pointer (some { block := w.heap.size, off := 0 }), .pointer (some { block := w.heap.size + 1, off := 0 }), .pointer (some { block := w.heap.size + 1 + 1, off := 0 }), fx 0, fx 1, fx 2, fx 3]) (fun _ => undef) (fun L fx w' => (L 4 = false → Below W1.heap.size W1 w')) (fun fi fv _ fw => wR42sL w (w.heap.size + 1 + 1) s x r fi fv fw) (fun _ => (Below.refl _ _).drew) ?_ ?_
 ·refine ⟨?_, ?_, ?_, ?_, ?_, trivial⟩
  all_goals intro L fx w' hC hi hcl hdn hd
  ·have hnd : L 4 = false := nQ hi (fun h => (hcl 3 0 (hcl 4 3 h (by kernel_rfl)) (by kernel_rfl)))
   have hb12 := hC hnd
   have hrow := row_kept HRA.out hb12
   refine wpList_load_row rfl 25 (.tmp 2) rfl w.heap.size rfl 25 _ (0, 0) _ hrow Tryz.underlying25 rfl HS0.out ?_
   clear hd
   go_wp2_with fail
   exact ⟨_, rfl, fun _ => hb12, rfl, kP⟩
  ·have hnd : L 4 = false := nQ hi (fun h => (hcl 2 1 (hcl 3 2 (hcl 4 3 h (by kernel_rfl)) (by kernel_rfl)) (by kernel_rfl)))
   have hb12 := hC hnd
   have hrow := row_kept HRB.out hb12
   refine wpList_load_row rfl 45 (.tmp 3) rfl (w.heap.size + 1) rfl 45 _ (0, 0) _ hrow Tryz.underlying45 rfl HSX.out ?_
   clear hd
   go_wp2_with fail
   exact ⟨_, rfl, fun _ => hb12, rfl, kP⟩
  ·have h1 : fx 1 = lnV x := hd.1 rfl
   have hnd : L 4 = false := nQ hi (fun h => (hcl 3 2 (hcl 4 3 h (by kernel_rfl)) (by kernel_rfl)))
   have hb12 := hC hnd
   clear hd
   go_wp2_with fail
   refine (rnoL_any x.c0 x.c1 x.c2 x.c3 x.c4 w').mono ?_
   rintro e w2 ⟨rfl, hq⟩
   rw [show noL x.c0 x.c1 = nLn x from rfl]
   go_wp2_with fail
   exact ⟨_, by simp only [upd, h1]; rfl, fun _ => hb12.trans (hq.mono hb12.size), rfl, fun j v t _ _ h => wR42sL_below hq j v h⟩
  ·have h0 : fx 0 = dgV s := hd.1 rfl
   have h2 : fx 2 = .int .i64 (nLn x) := hd.2.1 rfl
   have hnd : L 4 = false := nQ hi (fun h => (hcl 4 3 h (by kernel_rfl)))
   have hb12 := hC hnd
   clear hd
   go_wp2_with fail
   refine (rsalt_any s 1 (nLn x) w' (hid hs.out.len) (hid hs.out.bytes) (by decide) (by decide) HBD.out.1 HBD.out.2).mono ?_
   rintro e w2 ⟨rfl, hq⟩
   rw [HR.out]
   go_wp2_with fail
   exact ⟨_, by simp only [upd, h0, h2]; rfl, fun _ => hb12.trans (hq.mono hb12.size), rfl, fun j v t _ _ h => wR42sL_below hq j v h⟩
  ·have h3 : fx 3 = dgV r := hd.1 rfl
   have hb21 := hC hi
   have hrow := row_kept HR0.out hb21
   refine wpList_store_row rfl 25 (.tmp 4) (.tmp 8) rfl (w.heap.size + 1 + 1) (dgC r).toArray rfl h3 25 _ hrow HS1.out HS2.out (dgC_one _) ?_
   clear hd
   go_wp2_with fail
   refine ⟨undef, by rw [← h3]; rfl, fun h => (updB_self h).elim, ⟨setRow_heap _ _ _ _ _ _ hrow, below_setRow (HB0.out.trans (hb21.mono HB0.out.size)) (by omega) _⟩, fun j v t hj hu h => ?_⟩
   refine wR42sL_pure j v ?_ h
   intro e
   subst e
   rw [hi] at hj; cases hj
 ·intro L fx w' hC hS
  have H4 := hid (hS 4 (by decide) rfl)
  clear hS hC
  go_wp2_with fail
  refine bodyPost_ret (results_cell_row rfl _ _ (w.heap.size + 1 + 1) 25 _ (0, 0) _ rfl H4.out.1 Tryz.underlying25 rfl HS1.out) rfl ?_
  exact ⟨rfl, H4.out.2⟩
theorem rvalid_any (x : Nd) (w : World) (hx : NdOk x) : Calls Tryz.prog 144 #[ndV x] w fun e w' => e = .returned (.bool (vN x)) ∧ Below w.heap.size w w' := by
 have HB := hid ((Below.refl _ w).alloc (Nat.le_refl _) (.cells (ndC x).toArray 39))
 have HR := hid (heap_alloc_new w (.cells (ndC x).toArray 39))
 have hc := cell_c hx HR.out
 have hp := cell_p hx HR.out
 have hcb := hx.c
 rw [show ndV x = .agg (ndC x).toArray from rfl]
 go_enter Tryz.func144, Tryz.ntmps144
 by_cases b1 : 0 ≤ x.c
 ·have d1 : decide (0 ≤ x.c) = true := eQ b1
  by_cases b2 : x.c ≤ 1073741824
  ·have d2 : decide (x.c ≤ 1073741824) = true := eQ b2
   by_cases b3 : 0 ≤ x.p
   ·have d3 : decide (0 ≤ x.p) = true := eQ b3
    have hw : IntKind.i64.wrap (12 * x.c) = 12 * x.c := IntWalk.i64_in _ (by omega)
    have HE : Hid (vN x = decide (x.p ≤ 12 * x.c)) := hid (by unfold vN; rw [d1, d2, d3]; rfl)
    go_wp2_with fail
    go_ret
    exact ⟨by rw [HE.out]; rfl, HB.out⟩
   ·have d3 : decide (0 ≤ x.p) = false := dQ b3
    have HE : Hid (vN x = false) := hid (by unfold vN; rw [d1, d2, d3]; rfl)
    go_wp2_with fail
    go_ret
    exact ⟨by rw [HE.out]; rfl, HB.out⟩
  ·have d2 : decide (x.c ≤ 1073741824) = false := dQ b2
   have HE : Hid (vN x = false) := hid (by unfold vN; rw [d1, d2]; rfl)
   go_wp2_with fail
   go_ret
   exact ⟨by rw [HE.out]; rfl, HB.out⟩
 ·have d1 : decide (0 ≤ x.c) = false := dQ b1
  have HE : Hid (vN x = false) := hid (by unfold vN; rw [d1]; rfl)
  go_wp2_with fail
  go_ret
  exact ⟨by rw [HE.out]; rfl, HB.out⟩
theorem rline_0 (c0 c1 c2 c3 c4 : Int) (w : World) (d0 : decide (0 ≤ c0) = false) : Calls Tryz.prog 98 #[.agg #[.int .i64 c0, .int .i64 c1, .int .i64 c2, .int .i64 c3, .int .i64 c4]] w fun e w' => e = .returned (.bool false) ∧ Below w.heap.size w w' := by
 have HB := hid ((Below.refl _ w).alloc (Nat.le_refl _) (.cells #[.int .i64 c0, .int .i64 c1, .int .i64 c2, .int .i64 c3, .int .i64 c4] 45))
 go_enter Tryz.func98, Tryz.ntmps98
 go_wp2_with fail
 go_ret
 exact ⟨rfl, HB.out⟩
theorem rline_1 (c0 c1 c2 c3 c4 : Int) (w : World) (d0 : decide (0 ≤ c0) = true) (d1 : decide (c0 < 4096) = false) : Calls Tryz.prog 98 #[.agg #[.int .i64 c0, .int .i64 c1, .int .i64 c2, .int .i64 c3, .int .i64 c4]] w fun e w' => e = .returned (.bool false) ∧ Below w.heap.size w w' := by
 have HB := hid ((Below.refl _ w).alloc (Nat.le_refl _) (.cells #[.int .i64 c0, .int .i64 c1, .int .i64 c2, .int .i64 c3, .int .i64 c4] 45))
 go_enter Tryz.func98, Tryz.ntmps98
 go_wp2_with fail
 go_ret
 exact ⟨rfl, HB.out⟩
theorem rline_2 (c0 c1 c2 c3 c4 : Int) (w : World) (d0 : decide (0 ≤ c0) = true) (d1 : decide (c0 < 4096) = true) (d2 : decide (0 ≤ c1) = false) : Calls Tryz.prog 98 #[.agg #[.int .i64 c0, .int .i64 c1, .int .i64 c2, .int .i64 c3, .int .i64 c4]] w fun e w' => e = .returned (.bool false) ∧ Below w.heap.size w w' := by
 have HB := hid ((Below.refl _ w).alloc (Nat.le_refl _) (.cells #[.int .i64 c0, .int .i64 c1, .int .i64 c2, .int .i64 c3, .int .i64 c4] 45))
 go_enter Tryz.func98, Tryz.ntmps98
 go_wp2_with fail
 go_ret
 exact ⟨rfl, HB.out⟩
theorem rline_3 (c0 c1 c2 c3 c4 : Int) (w : World) (d0 : decide (0 ≤ c0) = true) (d1 : decide (c0 < 4096) = true) (d2 : decide (0 ≤ c1) = true) (d3 : decide (c1 < 1024) = false) : Calls Tryz.prog 98 #[.agg #[.int .i64 c0, .int .i64 c1, .int .i64 c2, .int .i64 c3, .int .i64 c4]] w fun e w' => e = .returned (.bool false) ∧ Below w.heap.size w w' := by
 have HB := hid ((Below.refl _ w).alloc (Nat.le_refl _) (.cells #[.int .i64 c0, .int .i64 c1, .int .i64 c2, .int .i64 c3, .int .i64 c4] 45))
 go_enter Tryz.func98, Tryz.ntmps98
 go_wp2_with fail
 go_ret
 exact ⟨rfl, HB.out⟩
theorem rline_4 (c0 c1 c2 c3 c4 : Int) (w : World) (d0 : decide (0 ≤ c0) = true) (d1 : decide (c0 < 4096) = true) (d2 : decide (0 ≤ c1) = true) (d3 : decide (c1 < 1024) = true) (d4 : decide (0 ≤ c2) = false) : Calls Tryz.prog 98 #[.agg #[.int .i64 c0, .int .i64 c1, .int .i64 c2, .int .i64 c3, .int .i64 c4]] w fun e w' => e = .returned (.bool false) ∧ Below w.heap.size w w' := by
 have HB := hid ((Below.refl _ w).alloc (Nat.le_refl _) (.cells #[.int .i64 c0, .int .i64 c1, .int .i64 c2, .int .i64 c3, .int .i64 c4] 45))
 go_enter Tryz.func98, Tryz.ntmps98
 go_wp2_with fail
 go_ret
 exact ⟨rfl, HB.out⟩
theorem rline_5 (c0 c1 c2 c3 c4 : Int) (w : World) (d0 : decide (0 ≤ c0) = true) (d1 : decide (c0 < 4096) = true) (d2 : decide (0 ≤ c1) = true) (d3 : decide (c1 < 1024) = true) (d4 : decide (0 ≤ c2) = true) (d5 : decide (c2 ≤ 12) = false) : Calls Tryz.prog 98 #[.agg #[.int .i64 c0, .int .i64 c1, .int .i64 c2, .int .i64 c3, .int .i64 c4]] w fun e w' => e = .returned (.bool false) ∧ Below w.heap.size w w' := by
 have HB := hid ((Below.refl _ w).alloc (Nat.le_refl _) (.cells #[.int .i64 c0, .int .i64 c1, .int .i64 c2, .int .i64 c3, .int .i64 c4] 45))
 go_enter Tryz.func98, Tryz.ntmps98
 go_wp2_with fail
 go_ret
 exact ⟨rfl, HB.out⟩
theorem rline_6 (c0 c1 c2 c3 c4 : Int) (w : World) (d0 : decide (0 ≤ c0) = true) (d1 : decide (c0 < 4096) = true) (d2 : decide (0 ≤ c1) = true) (d3 : decide (c1 < 1024) = true) (d4 : decide (0 ≤ c2) = true) (d5 : decide (c2 ≤ 12) = true) (d6 : decide (0 ≤ c3) = false) : Calls Tryz.prog 98 #[.agg #[.int .i64 c0, .int .i64 c1, .int .i64 c2, .int .i64 c3, .int .i64 c4]] w fun e w' => e = .returned (.bool false) ∧ Below w.heap.size w w' := by
 have HB := hid ((Below.refl _ w).alloc (Nat.le_refl _) (.cells #[.int .i64 c0, .int .i64 c1, .int .i64 c2, .int .i64 c3, .int .i64 c4] 45))
 go_enter Tryz.func98, Tryz.ntmps98
 go_wp2_with fail
 go_ret
 exact ⟨rfl, HB.out⟩
theorem rline_7 (c0 c1 c2 c3 c4 : Int) (w : World) (d0 : decide (0 ≤ c0) = true) (d1 : decide (c0 < 4096) = true) (d2 : decide (0 ≤ c1) = true) (d3 : decide (c1 < 1024) = true) (d4 : decide (0 ≤ c2) = true) (d5 : decide (c2 ≤ 12) = true) (d6 : decide (0 ≤ c3) = true) (d7 : decide (c3 ≤ 60) = false) : Calls Tryz.prog 98 #[.agg #[.int .i64 c0, .int .i64 c1, .int .i64 c2, .int .i64 c3, .int .i64 c4]] w fun e w' => e = .returned (.bool false) ∧ Below w.heap.size w w' := by
 have HB := hid ((Below.refl _ w).alloc (Nat.le_refl _) (.cells #[.int .i64 c0, .int .i64 c1, .int .i64 c2, .int .i64 c3, .int .i64 c4] 45))
 go_enter Tryz.func98, Tryz.ntmps98
 go_wp2_with fail
 go_ret
 exact ⟨rfl, HB.out⟩
theorem rline_8 (c0 c1 c2 c3 c4 : Int) (w : World) (d0 : decide (0 ≤ c0) = true) (d1 : decide (c0 < 4096) = true) (d2 : decide (0 ≤ c1) = true) (d3 : decide (c1 < 1024) = true) (d4 : decide (0 ≤ c2) = true) (d5 : decide (c2 ≤ 12) = true) (d6 : decide (0 ≤ c3) = true) (d7 : decide (c3 ≤ 60) = true) (d8 : decide (0 ≤ c4) = false) : Calls Tryz.prog 98 #[.agg #[.int .i64 c0, .int .i64 c1, .int .i64 c2, .int .i64 c3, .int .i64 c4]] w fun e w' => e = .returned (.bool false) ∧ Below w.heap.size w w' := by
 have HB := hid ((Below.refl _ w).alloc (Nat.le_refl _) (.cells #[.int .i64 c0, .int .i64 c1, .int .i64 c2, .int .i64 c3, .int .i64 c4] 45))
 go_enter Tryz.func98, Tryz.ntmps98
 go_wp2_with fail
 go_ret
 exact ⟨rfl, HB.out⟩
theorem rline_9 (c0 c1 c2 c3 c4 : Int) (w : World) (d0 : decide (0 ≤ c0) = true) (d1 : decide (c0 < 4096) = true) (d2 : decide (0 ≤ c1) = true) (d3 : decide (c1 < 1024) = true) (d4 : decide (0 ≤ c2) = true) (d5 : decide (c2 ≤ 12) = true) (d6 : decide (0 ≤ c3) = true) (d7 : decide (c3 ≤ 60) = true) (d8 : decide (0 ≤ c4) = true) (d9 : decide (c4 < 7) = false) : Calls Tryz.prog 98 #[.agg #[.int .i64 c0, .int .i64 c1, .int .i64 c2, .int .i64 c3, .int .i64 c4]] w fun e w' => e = .returned (.bool false) ∧ Below w.heap.size w w' := by
 have HB := hid ((Below.refl _ w).alloc (Nat.le_refl _) (.cells #[.int .i64 c0, .int .i64 c1, .int .i64 c2, .int .i64 c3, .int .i64 c4] 45))
 go_enter Tryz.func98, Tryz.ntmps98
 go_wp2_with fail
 go_ret
 exact ⟨rfl, HB.out⟩
theorem rline_10 (c0 c1 c2 c3 c4 : Int) (w : World) (d0 : decide (0 ≤ c0) = true) (d1 : decide (c0 < 4096) = true) (d2 : decide (0 ≤ c1) = true) (d3 : decide (c1 < 1024) = true) (d4 : decide (0 ≤ c2) = true) (d5 : decide (c2 ≤ 12) = true) (d6 : decide (0 ≤ c3) = true) (d7 : decide (c3 ≤ 60) = true) (d8 : decide (0 ≤ c4) = true) (d9 : decide (c4 < 7) = true) : Calls Tryz.prog 98 #[.agg #[.int .i64 c0, .int .i64 c1, .int .i64 c2, .int .i64 c3, .int .i64 c4]] w fun e w' => e = .returned (.bool true) ∧ Below w.heap.size w w' := by
 have HB := hid ((Below.refl _ w).alloc (Nat.le_refl _) (.cells #[.int .i64 c0, .int .i64 c1, .int .i64 c2, .int .i64 c3, .int .i64 c4] 45))
 go_enter Tryz.func98, Tryz.ntmps98
 go_wp2_with fail
 go_ret
 exact ⟨rfl, HB.out⟩
theorem rline_any (c0 c1 c2 c3 c4 : Int) (w : World) : Calls Tryz.prog 98 #[.agg #[.int .i64 c0, .int .i64 c1, .int .i64 c2, .int .i64 c3, .int .i64 c4]] w fun e w' => e = .returned (.bool (decide (lOk c0 c1 c2 c3 c4))) ∧ Below w.heap.size w w' := by
 by_cases b0 : 0 ≤ c0
 case neg =>
  rw [dQ (show ¬ lOk c0 c1 c2 c3 c4 by unfold lOk; omega)]
  exact rline_0 c0 c1 c2 c3 c4 w (dQ b0)
 by_cases b1 : c0 < 4096
 case neg =>
  rw [dQ (show ¬ lOk c0 c1 c2 c3 c4 by unfold lOk; omega)]
  exact rline_1 c0 c1 c2 c3 c4 w (eQ b0) (dQ b1)
 by_cases b2 : 0 ≤ c1
 case neg =>
  rw [dQ (show ¬ lOk c0 c1 c2 c3 c4 by unfold lOk; omega)]
  exact rline_2 c0 c1 c2 c3 c4 w (eQ b0) (eQ b1) (dQ b2)
 by_cases b3 : c1 < 1024
 case neg =>
  rw [dQ (show ¬ lOk c0 c1 c2 c3 c4 by unfold lOk; omega)]
  exact rline_3 c0 c1 c2 c3 c4 w (eQ b0) (eQ b1) (eQ b2) (dQ b3)
 by_cases b4 : 0 ≤ c2
 case neg =>
  rw [dQ (show ¬ lOk c0 c1 c2 c3 c4 by unfold lOk; omega)]
  exact rline_4 c0 c1 c2 c3 c4 w (eQ b0) (eQ b1) (eQ b2) (eQ b3) (dQ b4)
 by_cases b5 : c2 ≤ 12
 case neg =>
  rw [dQ (show ¬ lOk c0 c1 c2 c3 c4 by unfold lOk; omega)]
  exact rline_5 c0 c1 c2 c3 c4 w (eQ b0) (eQ b1) (eQ b2) (eQ b3) (eQ b4) (dQ b5)
 by_cases b6 : 0 ≤ c3
 case neg =>
  rw [dQ (show ¬ lOk c0 c1 c2 c3 c4 by unfold lOk; omega)]
  exact rline_6 c0 c1 c2 c3 c4 w (eQ b0) (eQ b1) (eQ b2) (eQ b3) (eQ b4) (eQ b5) (dQ b6)
 by_cases b7 : c3 ≤ 60
 case neg =>
  rw [dQ (show ¬ lOk c0 c1 c2 c3 c4 by unfold lOk; omega)]
  exact rline_7 c0 c1 c2 c3 c4 w (eQ b0) (eQ b1) (eQ b2) (eQ b3) (eQ b4) (eQ b5) (eQ b6) (dQ b7)
 by_cases b8 : 0 ≤ c4
 case neg =>
  rw [dQ (show ¬ lOk c0 c1 c2 c3 c4 by unfold lOk; omega)]
  exact rline_8 c0 c1 c2 c3 c4 w (eQ b0) (eQ b1) (eQ b2) (eQ b3) (eQ b4) (eQ b5) (eQ b6) (eQ b7) (dQ b8)
 by_cases b9 : c4 < 7
 case neg =>
  rw [dQ (show ¬ lOk c0 c1 c2 c3 c4 by unfold lOk; omega)]
  exact rline_9 c0 c1 c2 c3 c4 w (eQ b0) (eQ b1) (eQ b2) (eQ b3) (eQ b4) (eQ b5) (eQ b6) (eQ b7) (eQ b8) (dQ b9)
 rw [eQ (show lOk c0 c1 c2 c3 c4 by unfold lOk; omega)]
 exact rline_10 c0 c1 c2 c3 c4 w (eQ b0) (eQ b1) (eQ b2) (eQ b3) (eQ b4) (eQ b5) (eQ b6) (eQ b7) (eQ b8) (eQ b9)
theorem rhalf_any (n : Nat) (w : World) (hn : n ≤ 1000000) : Calls Tryz.prog 145 #[.int .i64 (n : Nat)] w fun e w' => e = .returned (.int .i64 (half n : Nat)) ∧ w = w' := by
 go_enter Tryz.func145, Tryz.ntmps145
 go_wp2_with fail
 go_loop [3] (fun v => ∃ k : Nat, v = .int .i64 (k : Nat) ∧ 1 ≤ k ∧ k ≤ 1000000 ∧ Hid (∃ f, halfF f k n = half n ∧ 18446744073709551616 ≤ k * 2 ^ f)) (fun v => n - (intOf v).toNat)
 case atStart => exact ⟨1, rfl, by omega, by omega, hid ⟨64, rfl, by decide⟩⟩
 case round =>
  obtain ⟨k, rfl, hk1, hk2, HF⟩ := hrel
  by_cases hlt : 2 * k < n
  ·have d1 : decide (2 * (k : Int) < (n : Int)) = true := eQ (by omega)
   have HF2 : Hid (∃ f, halfF f (2 * k) n = half n ∧ 18446744073709551616 ≤ 2 * k * 2 ^ f) := hid (by
    obtain ⟨f, h1, h2⟩ := HF.out
    obtain ⟨g, h3, h4⟩ := half_step hlt hn h2
    exact ⟨g, by rw [← h3]; exact h1, h4⟩)
   go_wp2_with fail
   go_round
   case rel => exact ⟨2 * k, by go_num, by omega, by omega, HF2⟩
   case measure => simp [intOf]; omega
  ·have d1 : decide (2 * (k : Int) < (n : Int)) = false := dQ (by omega)
   have HE : Hid (half n = k) := hid (by
    obtain ⟨f, h1, _⟩ := HF.out
    rw [← h1]; exact half_end hlt)
   go_wp2_with fail
   go_ret
   exact ⟨by rw [HE.out]; rfl, rfl⟩
theorem rcheck_any (ls : List Nd) (A : Option Addr) (n c : Nat) (w : World) (hn : n ≤ 9223372036854775807) (h : Hid (InN w A n c ls)) :
  Calls Tryz.prog 125 #[.slice A n c] w fun e w' => e = .returned (.int .i64 (rootE ls)) ∧ Below w.heap.size w w' := by
 have HN := hid (show ls.length = n from h.out.len)
 by_cases hbig : 4096 < n
 ·have d0 : decide ((4096 : Int) < (n : Int)) = true := eQ (by omega)
  have HE : Hid (rootE ls = 410) := hid (rootR_no (by rw [HN.out]; omega)).2
  rw [HE.out]
  go_enter Tryz.func125, Tryz.ntmps125
  go_wp2_with fail
  go_ret
  exact ⟨rfl, Below.refl _ _⟩
 have d0 : decide ((4096 : Int) < (n : Int)) = false := dQ (by omega)
 go_enter Tryz.func125, Tryz.ntmps125
 go_wp2_with fail
 go_loopw [3, 4] (fun s i wr => ∃ j : Nat, j ≤ n ∧ i = .int .i64 j ∧ s = .int .i64 (sumC (ls.take j)) ∧ Hid ((ls.take j).all vN = true) ∧ Hid (Below w.heap.size w wr)) (fun _ i _ => n - (intOf i).toNat)
 case atStart => exact ⟨0, by omega, rfl, rfl, hid rfl, hid (Below.refl _ _)⟩
 case round =>
  obtain ⟨j, hj, rfl, rfl, HV, HB⟩ := hrel
  have hsm : 0 ≤ sumC (ls.take j) ∧ sumC (ls.take j) ≤ 1073741824 * (j : Int) := ⟨(sums_bd HV.out).1, by
   have := sumC_le (ls.take j) HV.out
   have h2 : ((ls.take j).length : Int) ≤ (j : Int) := by rw [List.length_take]; omega
   omega⟩
  by_cases hlt : j < n
  ·have d1 : decide ((j : Int) < (n : Int)) = true := eQ (by omega)
   have d11 : decide (j < n) = true := eQ hlt
   have hjl : j < ls.length := by rw [h.out.len]; exact hlt
   obtain ⟨g, off, rfl, hg, hr⟩ := h.out.rd (by omega)
   obtain ⟨x, HX⟩ : ∃ x, Hid (ls[j] = x) := ⟨_, hid rfl⟩
   have HOK : Hid (NdOk x) := hid (by rw [← HX.out]; exact h.out.ok _ (List.getElem_mem _))
   have HR : Hid (wr.rangeAt g (off + j * 34) (ndC x)) := hid (by rw [← HX.out]; exact rangeAt_below (range_one hr h.out.ok j hjl) hg HB.out)
   have HG : Hid (g < wr.heap.size) := hid (Nat.lt_of_lt_of_le hg HB.out.size)
   have HNX : Hid (ls.take (j + 1) = ls.take j ++ [x]) := hid (by rw [List.take_succ_eq_append_getElem hjl, HX.out])
   have HXB := hid (show (x.c + x.c = x.c + x.c) from rfl)
   clear hr
   go_wp2_with (with_reducible refine wpList_load_mid rfl 39 (.tmp 16) rfl g (off + j * 34) rfl (ndC x) _ HR.out Tryz.underlying39 rfl (size34 HOK.out) ?_)
   rw [show Value.agg (ndC x).toArray = ndV x from rfl]
   refine (rvalid_any x wr HOK.out).mono ?_
   rintro e w2 ⟨rfl, hq⟩
   have HB2 := hid (HB.out.trans (hq.mono HB.out.size))
   have kc : w2.cell? ⟨g, off + j * 34 + 32, none⟩ = some (.int .i64 x.c) := rangeAt_below HR.out HG.out hq 32 _ (ndC_c HOK.out)
   clear hq
   by_cases hv : vN x = true
   ·rw [hv]
    have hxb := vN_bd hv
    have hw2 : IntKind.i64.wrap (sumC (ls.take j) + x.c) = sumC (ls.take j) + x.c := IntWalk.i64_in _ (by omega)
    have HSUM : Hid (sumC (ls.take j) + x.c = sumC (ls.take (j + 1))) := hid (by rw [HNX.out, sumC_append]; simp [sumC])
    have HALL : Hid ((ls.take (j + 1)).all vN = true) := hid (by rw [HNX.out, List.all_append, HV.out]; simp [hv])
    clear hv hxb
    go_wp2_with fail
    go_roundw
    case rel => exact ⟨j + 1, by omega, by go_num, by rw [← HSUM.out], HALL, HB2⟩
    case measure => first | (simp [intOf]; done) | (simp [intOf]; omega)
   ·have hv' : vN x = false := by simpa using hv
    rw [hv']
    have HE : Hid (rootE ls = 410) := hid (rootR_no (fun hh => by have := vL_bad hjl (by rw [HX.out]; exact hv'); rw [hh.2] at this; cases this)).2
    clear hv hv'
    go_wp2_with fail
    go_ret
    exact ⟨by rw [HE.out]; rfl, HB2.out⟩
  ·have d1 : decide ((j : Int) < (n : Int)) = false := dQ (by omega)
   have HE : Hid (ls.take j = ls) := hid (List.take_of_length_le (by rw [h.out.len]; omega))
   have HV2 := hid HV.out
   rw [HE.out] at HV2 hsm ⊢
   by_cases hs : 1073741824 < sumC ls
   ·have d2 : decide (1073741824 < sumC ls) = true := eQ hs
    have HE2 : Hid (rootE ls = 410) := hid (rootR_no (fun hh => by have := hh.2; unfold vL at this; simp only [Bool.and_eq_true, decide_eq_true_eq] at this; omega)).2
    go_wp2_with fail
    go_ret
    exact ⟨by rw [HE2.out]; rfl, HB.out⟩
   ·have d2 : decide (1073741824 < sumC ls) = false := dQ hs
    have HE2 : Hid (rootE ls = 0) := hid (by
     have : ls.length ≤ 4096 ∧ vL ls = true := ⟨by rw [HN.out]; omega, by unfold vL; rw [HV2.out]; simp; omega⟩
     unfold rootE; exact if_pos this)
    go_wp2_with fail
    go_ret
    exact ⟨by rw [HE2.out]; rfl, HB.out⟩
end Go.Proofs.YtmfmgeapecapiaaGreatDoor
