/- The reference of layers 2 and 3: Rest, Scalar are the same plain functions. -/
import Derived.Test.YtcgpanjagkblmaaDoorRef03s
namespace Go.Proofs.YtcgpanjagkblmaaDoor
open Go.RowKit SzSha SzRef
set_option linter.unusedVariables false
theorem rest_step (l : List Nat) (m k : Nat) : (mulM 256 (restN l m k) m + l.getD k 0) % m = restN l m (k + 1) := by
  show (256 * restN l m k % m + l.getD k 0) % m = (restN l m k * 256 + l.getD k 0) % m
  rw [Nat.mod_add_mod, Nat.mul_comm]
set_option maxHeartbeats 2000000 in
set_option maxRecDepth 100000 in
theorem rrest_any (l : List Nat) (m : Nat) (w : World) (hl : Hid (l.length = 32)) (hb : Hid (Bytes l)) (h0 : 256 < m) (hm : m ≤ 4611686018427387904) :
    Calls Tryd.prog 53 #[dgV l, .int .i64 m] w fun e w' => e = .returned (.int .i64 (restN l m 32 : Nat)) ∧ Below w.heap.size w w' := by
  obtain ⟨X, HX⟩ : ∃ X, Hid ((l.map fun x => Value.int .u8 (x : Nat)).toArray = X) := ⟨_, Lib.hid rfl⟩
  have e0 : dgV l = .agg X := by unfold dgV; rw [HX.out]
  rw [e0]
  have E0 := Lib.hid e0
  clear e0
  have hb0 := Lib.hid ((Below.refl _ w).alloc (Nat.le_refl _) (.cells X 35))
  have hc0 : Hid (BytesAt (w.alloc (.cells X 35)) w.heap.size 0 l) := Lib.hid (bytesAt_arr (by rw [HX.out]; exact heap_alloc_new w _))
  go_enter Tryd.func53, Tryd.ntmps53
  go_wp2_with fail
  go_loopw [5, 6] (fun n i wr => ∃ k : Nat, k ≤ 32 ∧ n = .int .i64 (restN l m k : Nat) ∧ i = .int .i64 k ∧ Hid (BytesAt wr w.heap.size 0 l) ∧ Hid (Below w.heap.size w wr)) (fun _ i _ => 32 - (intOf i).toNat)
  case atStart => exact ⟨0, by omega, rfl, rfl, hc0, hb0⟩
  case round =>
    clear hb0 hc0
    obtain ⟨k, hk, rfl, rfl, hC, hB⟩ := hrel
    by_cases hlt : k < 32
    · have HB1 := Lib.hid hB.out.drew
      have HC1 : Hid (BytesAt wr.drew w.heap.size 0 l) := hC
      have hcell := HC1.out k (by rw [hl.out]; exact hlt)
      rw [Nat.zero_add] at hcell
      have hrn := restN_lt l m k (by omega)
      have hs := Lib.hid (rest_step l m k)
      have hbk := hb.out.getD k
      obtain ⟨b, HBk⟩ : ∃ b, b = l.getD k 0 := ⟨_, rfl⟩
      rw [← HBk] at hcell hbk hs
      obtain ⟨r, HR⟩ : ∃ r, r = restN l m k := ⟨_, rfl⟩
      rw [← HR] at hrn hs
      rw [← HR]
      have hms : mulM 256 r m < m := Nat.mod_lt _ (by omega)
      obtain ⟨q, HQ⟩ : ∃ q, q = mulM 256 r m := ⟨_, rfl⟩
      rw [← HQ] at hms hs
      have HQ' := Lib.hid HQ
      have hir : (0 : Int) ≤ k ∧ (k : Int) < 32 := by omega
      have HH := Lib.hid (And.intro HBk HR)
      clear HQ HBk HR
      have wb : IntKind.i64.wrap (b : Int) = (b : Int) := by rw [IntWalk.i64_in _ (by omega)]
      obtain ⟨t, HT⟩ : ∃ t : Nat, t = q + b := ⟨_, rfl⟩
      have wt1 : IntKind.i64.wrap ((q : Int) + (b : Int)) = (t : Int) := by rw [HT, IntWalk.i64_in _ (by omega)]; omega
      have hm0 : ¬ m = 0 := by omega
      have htb : t ≤ 4611686018427388160 := by omega
      rw [← HT] at hs
      clear HT
      have hmm : Int.tmod (t : Int) (m : Int) = ((t % m : Nat) : Int) := rfl
      go_wp2_with fail
      refine wp_region_still_lit (by kernel_rfl) (by kernel_rfl) ?_
      change wpStill _ _ wr.drew (fun a' => Exit.inBlock _ _ _ a' wr.drew) _ _
      generalize wr.drew = w2 at *
      repeat still_step
      still_call ((modular_any 256 r m _ (by omega) (by omega) hm).mono fun _ _ h => ⟨h.1, h.2.symm⟩)
      rw [← HQ'.out]
      repeat still_step
      refine wpStill_nil ?_
      go_wp2_with fail
      go_roundw
      case rel => exact ⟨k + 1, by omega, by rw [← hs.out]; go_num, by go_num, HC1, HB1⟩
      case measure => simp [intOf]; omega
    · have dk : decide ((k : Int) < 32) = false := decide_eq_false (by omega)
      have hv : Hid (restN l m k = restN l m 32) := Lib.hid (by rw [show k = 32 by omega])
      go_wp2_with fail
      go_ret
      exact ⟨by rw [← hv.out]; rfl, hB.out⟩
set_option maxHeartbeats 2000000 in
set_option maxRecDepth 100000 in
theorem rscal_any (tag : ByteArray) (A : Option Addr) (n c : Nat) (l : List Nat) (w : World) (htag : tag.size ≤ 4294967296) (hn : Hid (l.length = n)) (hc : n ≤ c) (hA : A = none → c = 0) (hsz : n ≤ 2147483648) (hb : Hid (Bytes l)) (hR : Hid (Rd w w.heap.size A l)) :
    Calls Tryd.prog 37 #[.string tag, .slice A n c] w fun e w' => e = .returned (.int .i64 (scalN (strL tag) l : Nat)) ∧ Below w.heap.size w w' := by
  have hlt := restN_lt (tagged (strL tag) l) 2305843009213688668 32 (by omega)
  go_enter Tryd.func37, Tryd.ntmps37
  go_wp2_with fail
  refine (rtagged_any tag A n c l _ htag hn hc hA hsz hb hR).mono ?_
  rintro e w1 ⟨rfl, hb1⟩
  have HB1 := Lib.hid hb1
  clear hb1
  go_wp2_with fail
  refine (rrest_any (tagged (strL tag) l) 2305843009213688668 _ (Lib.hid (tagged_length _ _)) (Lib.hid (tagged_bytes _ _)) (by omega) (by omega)).mono ?_
  rintro e w2 ⟨rfl, hb2⟩
  have HB2 := Lib.hid (HB1.out.trans (hb2.mono HB1.out.size))
  clear hb2
  go_wp2_with fail
  go_ret
  refine ⟨?_, HB2.out⟩
  show Ending.returned (.int .i64 _) = Ending.returned (.int .i64 _)
  congr 2
end Go.Proofs.YtcgpanjagkblmaaDoor
