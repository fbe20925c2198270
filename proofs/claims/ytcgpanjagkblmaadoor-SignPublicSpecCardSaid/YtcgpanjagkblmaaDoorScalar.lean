/- sizar/group: rest, Scalar: the scalar that the hash of bytes under a tag determines. -/
import Derived.OneCell
import Derived.RangeFuncBox
import Derived.Test.YtcgpanjagkblmaaDoorTagged
import Derived.Test.YtcgpanjagkblmaaDoorTimes
namespace Go.Proofs.YtcgpanjagkblmaaDoor
open Go.RowKit SzSha
set_option linter.unusedVariables false
/-- the remainder of the number of bytes -/
def restN (l : List Nat) (m : Nat) : Nat → Nat
  | 0 => 0
  | k + 1 => (restN l m k * 256 + l.getD k 0) % m
theorem restN_lt (l : List Nat) (m k : Nat) (h : 0 < m) : restN l m k < m := by
  cases k with
  | zero => exact h
  | succ k => exact Nat.mod_lt _ h
theorem index32 (l : List Nat) (hl : l.length = 32) (k : Nat) (hk : k < 32) (w : World) : (Instr.index 35 (dgV l) (.int .i64 (k : Int))).run Tryd.prog w = .ok (.int .u8 (l.getD k 0 : Nat)) w := by
  obtain ⟨i0, hi, hz0, hz1, hz2⟩ := info_parts info_u8
  have h1 : (0 : Int) ≤ k ∧ (k : Int) < 32 := by omega
  have hk' : k < l.length := by omega
  have h2 : ¬ 32 ≤ k := by omega
  simp [Instr.index, dgV, asIntOf, run_underlying Tryd.underlying35, run_underlying Tryd.underlying5, part, isAgg, sizeOf, typeInfo, hi, hz1, h1, hk', h2]
theorem or_byte64 (n b : Nat) (hb : b < 256) : bits .or .u64 (IntKind.u64.wrap ((n : Int) * 256)) (b : Int) = ((n * 256 % 18446744073709551616 + b : Nat) : Int) := by
  have e : IntKind.u64.wrap ((n : Int) * 256) = ((n * 256 % 18446744073709551616 : Nat) : Int) := by rw [IntKind.wrap_u64]; omega
  rw [e, u64_or_nat _ _ (Nat.mod_lt _ (by omega)) (by omega)]
  obtain ⟨q, hq⟩ : ∃ q, n * 256 % 18446744073709551616 = 256 * q := ⟨n * 256 % 18446744073709551616 / 256, by omega⟩
  rw [hq]
  have := Nat.two_pow_add_eq_or_of_lt (i := 8) (b := b) (by omega) q
  rw [show (2 : Nat) ^ 8 = 256 from rfl] at this
  rw [this]
set_option maxHeartbeats 2000000 in
set_option maxRecDepth 100000 in
theorem rest1_any (b gn gm n m T1 : Nat) (w : World) (hb : b < 256) (hnm : n < m) (hm : m ≤ 4611686018427387904) (hn : Hid (w.rowIs gn T1 1 (fun _ => .int .u64 (n : Nat)))) (hmc : w.cell? ⟨gm, 0, none⟩ = some (.int .u64 (m : Nat))) :
    Calls Tryd.prog 61 #[.int .u8 b, .pointer (some ⟨gn, 0, none⟩), .pointer (some ⟨gm, 0, none⟩)] w fun e w' => (∃ v, e = .returned v) ∧ w'.rowIs gn T1 1 (fun _ => .int .u64 (((n * 256 + b) % m : Nat))) ∧ w.grownBy w' (some gn) := by
  have hnc := hn.out.cell (i := 0) (by omega)
  have hnf := hn.out.frozen 0
  have ho := or_byte64 n b hb
  obtain ⟨lo, HL⟩ : ∃ lo, Hid (n * 256 % 18446744073709551616 + b = lo) := ⟨_, Lib.hid rfl⟩
  rw [HL.out] at ho
  obtain ⟨hi, HH, eh⟩ : ∃ hi : Nat, Hid (n / 72057594037927936 = hi) ∧ (n : Int) / 72057594037927936 = (hi : Int) := ⟨_, Lib.hid rfl, by omega⟩
  have hlo : lo ≤ 18446744073709551615 := by have := HL.out; omega
  have hhi : hi < m := by have := HH.out; omega
  obtain ⟨q, HQ⟩ : ∃ q, Hid (q = (hi * 18446744073709551616 + lo) / m) := ⟨_, Lib.hid rfl⟩
  obtain ⟨r, HR⟩ : ∃ r, Hid (r = (hi * 18446744073709551616 + lo) % m) := ⟨_, Lib.hid rfl⟩
  have HE : Hid (r = (n * 256 + b) % m) := Lib.hid (by rw [HR.out]; congr 1; have := HL.out; have := HH.out; omega)
  go_enter Tryd.func61, Tryd.ntmps61
  go_wp2_with fail
  with_reducible refine (div64_rest hi lo m q r _ hhi (by omega) hlo HQ HR).mono ?_
  rintro e w1 ⟨rfl, hb1⟩
  have hr1 := Lib.hid (rowIs_below hn.out hb1 hn.out.lt)
  have hc1 := hr1.out.cell (i := 0) (by omega)
  have hf1 := hr1.out.frozen 0
  have HB1 := Lib.hid hb1
  clear hb1
  go_wp2_with fail
  go_end0
  refine ⟨⟨_, rfl⟩, (hr1.out.set 0 _).congr (fun i hi => ?_), only_setCell (only_of_below HB1.out _) (.inl rfl) _⟩
  rw [if_pos (by omega), HE.out]
theorem row1 (W : World) (v : Value) (t : TypeId) : (W.alloc (.cells #[v] t)).rowIs W.heap.size t 1 (fun _ => v) :=
  World.rowIs_alloc W #[v] t (fun _ => v) (fun i hi => by
    have : i = 0 := by simpa using hi
    subst this; rfl)
theorem dg_cells (l : List Nat) : (dgV l).cells = (l.map fun x => Value.int .u8 (x : Nat)).toArray := rfl
set_option maxHeartbeats 2000000 in
set_option maxRecDepth 100000 in
theorem rest_any (l : List Nat) (m : Nat) (w : World) (hl : Hid (l.length = 32)) (hb : Hid (Bytes l)) (h0 : 0 < m) (hm : m ≤ 4611686018427387904) :
    Calls Tryd.prog 51 #[dgV l, .int .u64 m] w fun e w' => e = .returned (.int .u64 (restN l m 32 : Nat)) ∧ Below w.heap.size w w' := by
  obtain ⟨X, HX⟩ : ∃ X, Hid ((l.map fun x => Value.int .u8 (x : Nat)).toArray = X) := ⟨_, Lib.hid rfl⟩
  have e0 : dgV l = .agg X := by unfold dgV; rw [HX.out]
  have hXs : Hid (X.size = 32) := Lib.hid (by rw [← HX.out]; simp [hl.out])
  have hsz : Hid ((Tryd.prog.info? 35).map (·.size) = some X.size) := Lib.hid (by rw [← HX.out]; exact size32 l hl.out)
  rw [e0]
  have E0 := Lib.hid e0
  clear e0
  have HXh : Hid ((((w.alloc (.cells X 35)).alloc (.cells #[.int .u64 (m : Nat)] 50)).alloc (.cells #[.int .u64 0] 50)).heap[w.heap.size]? = some (.cells X 35 (0, 0))) := Lib.hid (by
    rw [Below.heap_alloc _ _ _ (by simp; omega), Below.heap_alloc _ _ _ (by simp)]; exact heap_alloc_new w _)
  have hm1 : Hid ((((w.alloc (.cells X 35)).alloc (.cells #[.int .u64 (m : Nat)] 50)).alloc (.cells #[.int .u64 0] 50)).rowIs (w.heap.size + 1) 50 1 (fun _ => .int .u64 (m : Nat))) := Lib.hid (by
    have := row1 (w.alloc (.cells X 35)) (.int .u64 (m : Nat)) 50
    simp only [World.size_alloc] at this
    exact this.alloc _)
  have hn1 : Hid ((((w.alloc (.cells X 35)).alloc (.cells #[.int .u64 (m : Nat)] 50)).alloc (.cells #[.int .u64 0] 50)).rowIs (w.heap.size + 1 + 1) 50 1 (fun _ => .int .u64 (restN l m 0 : Nat))) := Lib.hid (by
    have := row1 ((w.alloc (.cells X 35)).alloc (.cells #[.int .u64 (m : Nat)] 50)) (.int .u64 0) 50
    simp only [World.size_alloc] at this
    exact this)
  have hB1 : Hid (Below w.heap.size w (((w.alloc (.cells X 35)).alloc (.cells #[.int .u64 (m : Nat)] 50)).alloc (.cells #[.int .u64 0] 50))) := Lib.hid ((((Below.refl _ w).alloc (Nat.le_refl _) _).alloc (by simp) _).alloc (by simp; omega) _)
  go_enter Tryd.func51, Tryd.ntmps51
  go_wp2_with (with_reducible refine wpList_load_row rfl 35 (.tmp 2) rfl w.heap.size rfl 35 X (0, 0) _ HXh.out Tryd.underlying35 rfl hsz.out ?_)
  go_loopw [10] (fun i wr => ∃ k : Nat, k ≤ 32 ∧ i = .int .i64 k ∧ Hid (wr.rowIs (w.heap.size + 1) 50 1 (fun _ => .int .u64 (m : Nat))) ∧ Hid (wr.rowIs (w.heap.size + 1 + 1) 50 1 (fun _ => .int .u64 (restN l m k : Nat))) ∧ Hid (Below w.heap.size w wr)) (fun i _ => 32 - (intOf i).toNat)
  case atStart => exact ⟨0, by omega, rfl, hm1, hn1, hB1⟩
  case round =>
    clear hm1 hn1 hB1 HXh
    obtain ⟨k, hk, rfl, hm1, hn1, hB1⟩ := hrel
    by_cases hlt : k < 32
    · have hidx := index32 l hl.out k hlt wr
      rw [E0.out] at hidx
      have hmc := hm1.out.cell (i := 0) (by omega)
      have hbk := hb.out.getD k
      obtain ⟨b, HBk⟩ : ∃ b, Hid (l.getD k 0 = b) := ⟨_, Lib.hid rfl⟩
      rw [HBk.out] at hidx hbk
      go_wp2_with fail
      with_reducible refine (rest1_any b (w.heap.size + 1 + 1) (w.heap.size + 1) (restN l m k) m 50 _ hbk (restN_lt l m k h0) hm hn1 hmc).mono ?_
      rintro e w1 ⟨⟨v, rfl⟩, hs1, ho1⟩
      have HS1 := Lib.hid hs1
      have HO1 := Lib.hid ho1
      clear hs1 ho1 hidx hmc
      go_wp2_with fail
      go_roundw
      case rel => exact ⟨k + 1, by omega, by go_num, Lib.hid (rowIs_only hm1.out HO1.out (by omega)), (by rw [restN, HBk.out]; exact HS1), Lib.hid (below_of_only hB1.out HO1.out hB1.out.size (by omega))⟩
      case measure => simp [intOf]; omega
    · have dk : decide ((k : Int) < 32) = false := decide_eq_false (by omega)
      have hn32 : Hid (wr.rowIs (w.heap.size + 1 + 1) 50 1 (fun _ => .int .u64 (restN l m 32 : Nat))) := by
        have := hn1
        rw [show k = 32 by omega] at this
        exact this
      have hc := hn32.out.cell (i := 0) (by omega)
      have hf := hn32.out.frozen 0
      go_wp2_with fail
      have hr := (hn32.out.set 0 (.int .u64 (restN l m 32 : Nat))).cell (i := 0) (by omega)
      refine bodyPost_ret (v := .int .u64 (restN l m 32 : Nat)) ?_ rfl ⟨rfl, hB1.out.setCell (p := ⟨w.heap.size + 1 + 1, 0, none⟩) (by show w.heap.size ≤ w.heap.size + 1 + 1; omega) _⟩
      simp [results, Tryd.results51, go_sem, hr]
/-- the scalar -/
def scalN (tag l : List Nat) : Nat := 1 + restN (tagged tag l) 2305843009213688668 32
theorem scalN_bd (tag l : List Nat) : 1 ≤ scalN tag l ∧ scalN tag l < 2305843009213688669 := by
  have := restN_lt (tagged tag l) 2305843009213688668 32 (by omega)
  unfold scalN; omega
set_option maxHeartbeats 2000000 in
set_option maxRecDepth 100000 in
theorem scalar_any (tag : ByteArray) (A : Option Addr) (n c : Nat) (l : List Nat) (w : World) (htag : tag.size ≤ 4294967296) (hn : Hid (l.length = n)) (hc : n ≤ c) (hA : A = none → c = 0) (hsz : n ≤ 2147483648) (hb : Hid (Bytes l)) (hT : Hid (Tabs w)) (hR : Hid (Rd w w.heap.size A l)) :
    Calls Tryd.prog 28 #[.string tag, .slice A n c] w fun e w' => e = .returned (.int .i64 (scalN (strL tag) l : Nat)) ∧ Below w.heap.size w w' := by
  have hlt := restN_lt (tagged (strL tag) l) 2305843009213688668 32 (by omega)
  go_enter Tryd.func28, Tryd.ntmps28
  go_wp2_with fail
  refine (tagged_any tag A n c l _ htag hn hc hA hsz hb hT hR).mono ?_
  rintro e w1 ⟨rfl, hb1⟩
  have HB1 := Lib.hid hb1
  clear hb1
  go_wp2_with fail
  refine (rest_any (tagged (strL tag) l) 2305843009213688668 _ (Lib.hid (tagged_length _ _)) (Lib.hid (tagged_bytes _ _)) (by omega) (by omega)).mono ?_
  rintro e w2 ⟨rfl, hb2⟩
  have HB2 := Lib.hid (HB1.out.trans (hb2.mono HB1.out.size))
  clear hb2
  go_wp2_with fail
  go_ret
  refine ⟨?_, HB2.out⟩
  show Ending.returned (.int .i64 _) = Ending.returned (.int .i64 _)
  congr 2
end Go.Proofs.YtcgpanjagkblmaaDoor
