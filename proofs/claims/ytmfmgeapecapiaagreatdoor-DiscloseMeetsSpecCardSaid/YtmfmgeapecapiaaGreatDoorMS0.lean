/- SHA-256 on lists of numbers: the plain function, no program in sight. math/bits.RotateLeft32, sizar/digest: rotated, word, put: each does what its plain function says. Laws for the walk: copy into a row that is known by its index. sizar/digest: word, put: each does what its plain function says. sizar/digest: (*state).absorb adds a block to the state. sizar/digest.Sum returns the hash of the bytes; what was in memory stays. -/
import Derived.Lib.Hide
import Derived.Laws.BitsAllLaws
import Derived.WalkKit
import Derived.WalkLawsBesides
import Derived.Deep.OwnRows
import Derived.Laws.AppendOwn
import Derived.OwnWalk
import Derived.Laws.Bits64b
import Derived.Test.YtmfmgeapecapiaaGreatDoorProg
import Derived.Laws.CopyOwn
import Derived.Deep.QuietTactic
import Derived.BigQuiet
import Derived.StillTailTactics
import Derived.Deep.RegionLaw
import Derived.Laws.Rows
import Derived.Laws.Tables
import Derived.Laws.MakeOwn
set_option maxHeartbeats 64000001
namespace Go.Proofs
theorem nQ {a b : Bool} (hi : b = false) (f : a = true → b = true) : a = false := Bool.eq_false_iff.2 (fun h => by have := f h; rw [hi] at this; cases this)
theorem dQ {p : Prop} [Decidable p] (h : ¬ p) : decide p = false := decide_eq_false h
theorem eQ {p : Prop} [Decidable p] (h : p) : decide p = true := decide_eq_true h
end Go.Proofs
namespace Go.Proofs.YtmfmgeapecapiaaGreatDoor
theorem kP {A B C : Sort _} {P Q R : A → B → C → Prop} : ∀ a b c, P a b c → Q a b c → R a b c → R a b c := fun _ _ _ _ _ h => h
end Go.Proofs.YtmfmgeapecapiaaGreatDoor
open Go.Lib (hid)
namespace Go.Proofs
open Go.RowKit
theorem lay_row (w : World) (ty : TypeId) (z cs : Array Value) : ∃ V, Hid ((w.alloc (.cells z ty)).setRow w.heap.size cs = V) ∧ V.heap[w.heap.size]? = some (.cells cs ty (0, 0)) ∧ Below w.heap.size w V :=
 ⟨_, hid rfl, setRow_heap _ _ _ _ _ _ (heap_alloc_new w _), below_setRow ((Below.refl _ w).alloc (Nat.le_refl _) _) (Nat.le_refl _) cs⟩
end Go.Proofs
namespace Go.Proofs.SzSha
set_option linter.unusedVariables false
def ks : List Nat := [1116352408, 1899447441, 3049323471, 3921009573, 961987163, 1508970993, 2453635748, 2870763221, 3624381080, 310598401, 607225278, 1426881987, 1925078388, 2162078206, 2614888103, 3248222580, 3835390401, 4022224774, 264347078, 604807628, 770255983, 1249150122, 1555081692, 1996064986, 2554220882, 2821834349, 2952996808, 3210313671, 3336571891, 3584528711, 113926993, 338241895, 666307205, 773529912, 1294757372, 1396182291, 1695183700, 1986661051, 2177026350, 2456956037, 2730485921, 2820302411, 3259730800, 3345764771, 3516065817, 3600352804, 4094571909, 275423344, 430227734, 506948616, 659060556, 883997877, 958139571, 1322822218, 1537002063, 1747873779, 1955562222, 2024104815, 2227730452, 2361852424, 2428436474, 2756734187, 3204031479, 3329325298]
def hs : List Nat := [1779033703, 3144134277, 1013904242, 2773480762, 1359893119, 2600822924, 528734635, 1541459225]
def kf (t : Nat) : Nat := ks.getD t 0
def hf (i : Nat) : Nat := hs.getD i 0
theorem getD_out (l : List Nat) (i : Nat) (h : l.length ≤ i) : l.getD i 0 = 0 := by
 rw [List.getD_eq_getElem?_getD, List.getElem?_eq_none h]; rfl
theorem kf_lt (t : Nat) : kf t < 4294967296 := by
 unfold kf
 by_cases h : t < 64
 ·have : ∀ i : Fin 64, ks.getD i.val 0 < 4294967296 := by decide +kernel
  exact this ⟨t, h⟩
 ·rw [getD_out _ _ (show ks.length ≤ t by have : ks.length = 64 := rfl; omega)]; omega
theorem hf_lt (t : Nat) : hf t < 4294967296 := by
 unfold hf
 by_cases h : t < 8
 ·have : ∀ i : Fin 8, hs.getD i.val 0 < 4294967296 := by decide +kernel
  exact this ⟨t, h⟩
 ·rw [getD_out _ _ (show hs.length ≤ t by have : hs.length = 8 := rfl; omega)]; omega
/-- a sum of words -/
def add (a b : Nat) : Nat := (a + b) % 4294967296
theorem add_lt (a b : Nat) : add a b < 4294967296 := Nat.mod_lt _ (by decide)
/-- a rotation to the right -/
def ror (x n : Nat) : Nat := x / 2 ^ n ||| x * 2 ^ (32 - n) % 4294967296
theorem ror_lt (x n : Nat) (h : x < 4294967296) : ror x n < 4294967296 :=
 Nat.or_lt_two_pow (n := 32) (Nat.lt_of_le_of_lt (Nat.div_le_self _ _) h) (Nat.mod_lt _ (by decide))
theorem xor_lt {a b : Nat} (ha : a < 4294967296) (hb : b < 4294967296) : a ^^^ b < 4294967296 := Nat.xor_lt_two_pow (n := 32) ha hb
theorem and_lt {a b : Nat} (ha : a < 4294967296) : a &&& b < 4294967296 := Nat.lt_of_le_of_lt Nat.and_le_left ha
theorem or_lt {a b : Nat} (ha : a < 4294967296) (hb : b < 4294967296) : a ||| b < 4294967296 := Nat.or_lt_two_pow (n := 32) ha hb
theorem div_lt {a : Nat} (n : Nat) (ha : a < 4294967296) : a / n < 4294967296 := Nat.lt_of_le_of_lt (Nat.div_le_self _ _) ha
def rot3 (v a b c : Nat) : Nat := (ror v a ^^^ ror v b) ^^^ ror v c
def sg0 (x : Nat) : Nat := (ror x 7 ^^^ ror x 18) ^^^ (x / 8)
def sg1 (x : Nat) : Nat := (ror x 17 ^^^ ror x 19) ^^^ (x / 1024)
def ch (e f g : Nat) : Nat := g ^^^ (e &&& (f ^^^ g))
def maj (a b c : Nat) : Nat := (a &&& b) ||| (c &&& (a ||| b))
theorem maj_eq (a b c : Nat) : ((a &&& b) ^^^ (a &&& c)) ^^^ (b &&& c) = maj a b c := by
 apply Nat.eq_of_testBit_eq
 intro i
 simp only [maj, Nat.testBit_xor, Nat.testBit_and, Nat.testBit_or]
 cases a.testBit i <;> cases b.testBit i <;> cases c.testBit i <;> rfl
/-- the word at a place of bytes -/
def word (b : List Nat) (t : Nat) : Nat := ((b.getD (4 * t) 0 * 256 + b.getD (4 * t + 1) 0) * 256 + b.getD (4 * t + 2) 0) * 256 + b.getD (4 * t + 3) 0
/-- all are bytes -/
def Bytes (b : List Nat) : Prop := ∀ x ∈ b, x < 256
theorem Bytes.getD {b : List Nat} (h : Bytes b) (i : Nat) : b.getD i 0 < 256 := by
 by_cases hi : i < b.length
 ·rw [List.getD_eq_getElem?_getD, List.getElem?_eq_getElem hi]; exact h _ (List.getElem_mem hi)
 ·rw [getD_out _ _ (by omega)]; omega
theorem word_lt {b : List Nat} (h : Bytes b) (t : Nat) : word b t < 4294967296 := by
 have h0 := h.getD (4 * t)
 have h1 := h.getD (4 * t + 1)
 have h2 := h.getD (4 * t + 2)
 have h3 := h.getD (4 * t + 3)
 unfold word; omega
/-- the first words of the schedule -/
def wl (b : List Nat) : Nat → List Nat
 | 0 => []
 | t + 1 => wl b t ++ [if t < 16 then word b t else add (add (add ((wl b t).getD (t - 16) 0) (sg0 ((wl b t).getD (t - 15) 0))) ((wl b t).getD (t - 7) 0)) (sg1 ((wl b t).getD (t - 2) 0))]
theorem wl_length (b : List Nat) (t : Nat) : (wl b t).length = t := by
 induction t with
 | zero => rfl
 | succ t ih => simp [wl, ih]
theorem wl_get (b : List Nat) (t n : Nat) (h : t < n) : (wl b n).getD t 0 = (wl b (t + 1)).getD t 0 := by
 induction n with
 | zero => omega
 | succ n ih =>
  by_cases e : t = n
  ·rw [e]
  ·rw [← ih (by omega)]
   show (wl b n ++ _).getD t 0 = _
   rw [List.getD_eq_getElem?_getD, List.getElem?_append_left (by rw [wl_length]; omega), ← List.getD_eq_getElem?_getD]
/-- the words of the schedule -/
def wt (b : List Nat) (t : Nat) : Nat := (wl b 64).getD t 0
theorem wl_last (b : List Nat) (t : Nat) : (wl b (t + 1)).getD t 0 = if t < 16 then word b t else add (add (add ((wl b t).getD (t - 16) 0) (sg0 ((wl b t).getD (t - 15) 0))) ((wl b t).getD (t - 7) 0)) (sg1 ((wl b t).getD (t - 2) 0)) := by
 show (wl b t ++ [_]).getD t 0 = _
 rw [List.getD_eq_getElem?_getD, List.getElem?_append_right (by rw [wl_length]; omega), wl_length, Nat.sub_self]; rfl
theorem wt_low (b : List Nat) (t : Nat) (h : t < 16) : wt b t = word b t := by
 unfold wt; rw [wl_get b t 64 (by omega), wl_last, if_pos h]
theorem wt_high (b : List Nat) (t : Nat) (h : 16 ≤ t) (h' : t < 64) : wt b t = add (add (add (wt b (t - 16)) (sg0 (wt b (t - 15)))) (wt b (t - 7))) (sg1 (wt b (t - 2))) := by
 have g : ∀ j, j < t → (wl b t).getD j 0 = wt b j := fun j hj => by unfold wt; rw [wl_get b j 64 (by omega), wl_get b j t hj]
 conv => lhs; unfold wt
 rw [wl_get b t 64 h', wl_last, if_neg (by omega), g _ (by omega), g _ (by omega), g _ (by omega), g _ (by omega)]
theorem wt_lt {b : List Nat} (hb : Bytes b) (t : Nat) (h : t < 64) : wt b t < 4294967296 := by
 by_cases e : t < 16
 ·rw [wt_low b t e]; exact word_lt hb t
 ·rw [wt_high b t (by omega) h]; exact add_lt _ _
/-- a round -/
def rp (v : Nat → Nat) (k w : Nat) : Nat := add (add (add (add (v 7) (rot3 (v 4) 6 11 25)) (ch (v 4) (v 5) (v 6))) k) w
def rq (v : Nat → Nat) : Nat := add (rot3 (v 0) 2 13 22) (maj (v 0) (v 1) (v 2))
def rnd (v : Nat → Nat) (k w : Nat) (i : Nat) : Nat := if i = 0 then add (rp v k w) (rq v) else if i = 4 then add (v 3) (rp v k w) else v (i - 1)
def Words (v : Nat → Nat) : Prop := ∀ i, i < 8 → v i < 4294967296
theorem rnd_words {v : Nat → Nat} (h : Words v) (k w : Nat) : Words (rnd v k w) := fun i hi => by
 unfold rnd
 split
 ·exact add_lt _ _
 ·split
  ·exact add_lt _ _
  ·exact h _ (by omega)
def rounds (b : List Nat) (s : Nat → Nat) : Nat → Nat → Nat
 | 0 => s
 | t + 1 => rnd (rounds b s t) (kf t) (wt b t)
theorem rounds_words {s : Nat → Nat} (h : Words s) (b : List Nat) (t : Nat) : Words (rounds b s t) := by
 induction t with
 | zero => exact h
 | succ t ih => exact rnd_words ih _ _
/-- the state after a block -/
def block (s : Nat → Nat) (b : List Nat) (i : Nat) : Nat := add (s i) (rounds b s 64 i)
theorem block_words (s : Nat → Nat) (b : List Nat) : Words (block s b) := fun _ _ => add_lt _ _
def blocks : Nat → (Nat → Nat) → List Nat → Nat → Nat
 | 0, s, _ => s
 | n + 1, s, l => blocks n (block s (l.take 64)) (l.drop 64)
theorem blocks_words (n : Nat) : ∀ {s : Nat → Nat} (l : List Nat), Words s → Words (blocks n s l) := by
 induction n with
 | zero => intro s l h; exact h
 | succ n ih => intro s l h; exact ih _ (block_words _ _)
theorem blocks_snoc (n : Nat) : ∀ (s : Nat → Nat) (l : List Nat), blocks (n + 1) s l = block (blocks n s l) ((l.drop (64 * n)).take 64) := by
 induction n with
 | zero => intro s l; simp [blocks]
 | succ n ih =>
  intro s l
  rw [blocks, ih, blocks, List.drop_drop, show 64 + 64 * n = 64 * (n + 1) by omega]
theorem blocks_append (m n : Nat) : ∀ (s : Nat → Nat) (l r : List Nat), l.length = 64 * m → blocks (m + n) s (l ++ r) = blocks n (blocks m s l) r := by
 induction m with
 | zero =>
  intro s l r h
  obtain rfl : l = [] := List.eq_nil_of_length_eq_zero (by omega)
  simp [blocks]
 | succ m ih =>
  intro s l r h
  rw [show m + 1 + n = (m + n) + 1 by omega, blocks, blocks, List.take_append_of_le_length (by omega), List.drop_append_of_le_length (by omega), ih _ _ _ (by rw [List.length_drop]; omega)]
theorem blocks_left (m : Nat) (s : Nat → Nat) (l r : List Nat) (h : l.length = 64 * m) : blocks m s (l ++ r) = blocks m s l := by
 have := blocks_append m 0 s l r h
 rw [Nat.add_zero] at this; exact this
/-- a number's bytes, the greatest first -/
def be (n : Nat) (k : Nat) : List Nat := (List.range k).map fun i => n / 256 ^ (k - 1 - i) % 256
theorem be_length (n k : Nat) : (be n k).length = k := by simp [be]
theorem be_bytes (n k : Nat) : Bytes (be n k) := fun x hx => by
 simp only [be, List.mem_map] at hx
 obtain ⟨i, _, rfl⟩ := hx
 exact Nat.mod_lt _ (by decide)
/-- how many zeros follow -/
def zeros (n : Nat) : Nat := (119 - n % 64) % 64
def tail (n : Nat) : List Nat := 128 :: (List.replicate (zeros n) 0 ++ be (8 * n) 8)
theorem tail_length (n : Nat) : (tail n).length = 9 + zeros n := by simp [tail, be_length]; omega
theorem tail_bytes (n : Nat) : Bytes (tail n) := fun x hx => by
 simp only [tail, List.mem_cons, List.mem_append, List.mem_replicate] at hx
 rcases hx with rfl | ⟨_, rfl⟩ | h
 ·omega
 ·omega
 ·exact be_bytes _ _ x h
def padded (b : List Nat) : List Nat := b ++ tail b.length
theorem padded_length (b : List Nat) : (padded b).length = 64 * ((padded b).length / 64) := by
 rw [padded, List.length_append, tail_length, zeros]; omega
theorem padded_bytes {b : List Nat} (h : Bytes b) : Bytes (padded b) := fun x hx => by
 rcases List.mem_append.1 hx with h' | h'
 ·exact h x h'
 ·exact tail_bytes _ x h'
/-- the state behind all blocks -/
def fin (b : List Nat) : Nat → Nat := blocks ((padded b).length / 64) hf (padded b)
theorem hf_words : Words hf := fun i _ => hf_lt i
theorem fin_words (b : List Nat) : Words (fin b) := blocks_words _ _ hf_words
/-- the bytes of a hash -/
def out (v : Nat → Nat) (i : Nat) : Nat := v (i / 4) / 256 ^ (3 - i % 4) % 256
theorem out_lt (v : Nat → Nat) (i : Nat) : out v i < 256 := Nat.mod_lt _ (by decide)
def sha (b : List Nat) : List Nat := (List.range 32).map (out (fin b))
theorem sha_length (b : List Nat) : (sha b).length = 32 := by simp [sha]
theorem sha_bytes (b : List Nat) : Bytes (sha b) := fun x hx => by
 simp only [sha, List.mem_map] at hx
 obtain ⟨i, _, rfl⟩ := hx
 exact out_lt _ _
/-- the hash under a tag -/
def tagged (tag b : List Nat) : List Nat := sha (sha tag ++ b)
theorem tagged_length (t b : List Nat) : (tagged t b).length = 32 := sha_length _
theorem tagged_bytes (t b : List Nat) : Bytes (tagged t b) := sha_bytes _
/-- the last blocks, as the program makes them: behind the m whole blocks of b -/
def last (b : List Nat) : List Nat := b.drop (64 * (b.length / 64)) ++ tail b.length
theorem last_length (b : List Nat) : (last b).length = if b.length % 64 > 55 then 128 else 64 := by
 rw [last, List.length_append, List.length_drop, tail_length, zeros]
 split <;> omega
theorem fin_eq (b : List Nat) : fin b = blocks ((last b).length / 64) (blocks (b.length / 64) hf b) (last b) := by
 have e : padded b = b.take (64 * (b.length / 64)) ++ last b := by
  rw [padded, last, ← List.append_assoc, List.take_append_drop]
 have hl : (b.take (64 * (b.length / 64))).length = 64 * (b.length / 64) := by rw [List.length_take]; omega
 have hn : (padded b).length / 64 = b.length / 64 + (last b).length / 64 := by
  rw [e, List.length_append, hl]; omega
 have h2 : blocks (b.length / 64) hf b = blocks (b.length / 64) hf (b.take (64 * (b.length / 64))) := by
  have := blocks_left (b.length / 64) hf _ (b.drop (64 * (b.length / 64))) hl
  rwa [List.take_append_drop] at this
 unfold fin
 rw [hn, e, blocks_append _ _ _ _ _ hl, h2]
end Go.Proofs.SzSha
namespace Go.Proofs.YtmfmgeapecapiaaGreatDoor
open Go.RowKit SzSha
set_option linter.unusedVariables false
theorem rot_bits (n : Nat) (h1 : 1 ≤ n) (h2 : n ≤ 31) : bits .and .u64 (IntKind.u64.wrap (-(n : Int))) 31 = ((32 - n : Nat) : Int) := by
 have e : IntKind.u64.wrap (-(n : Int)) = ((18446744073709551616 - n : Nat) : Int) := by
  rw [IntKind.wrap_u64]; omega
 have h := bits_and_u64_nat (18446744073709551616 - n) 31 (by omega) (by omega)
 rw [e]
 refine h.trans ?_
 rw [show (31 : Nat) = 2 ^ 5 - 1 from rfl, Nat.and_two_pow_sub_one_eq_mod]
 omega
theorem rot_end (x n m : Nat) (hx : x < 4294967296) (h : n + m = 32) :
  bits .or .u32 ((x : Int) * 2 ^ m % 4294967296) ((x : Int) / 2 ^ (32 - m)) = (ror x n : Nat) := by
 have e1 : (x : Int) * 2 ^ m % 4294967296 = ((x * 2 ^ (32 - n) % 4294967296 : Nat) : Int) := by
  rw [show 32 - n = m by omega]; rfl
 have e2 : ((x : Int) / 2 ^ (32 - m)) = ((x / 2 ^ n : Nat) : Int) := by
  rw [show 32 - m = n by omega]; rfl
 rw [e1, e2, u32_or_nat _ _ (Nat.mod_lt _ (by decide)) (div_lt _ hx), Nat.or_comm]; rfl
theorem rotl_any (x n : Nat) (w : World) (hx : x < 4294967296) (h1 : 1 ≤ n) (h2 : n ≤ 31) :
  Calls Tryz.prog 164 #[.int .u32 x, .int .i64 (-(n : Int))] w fun e w' => e = .returned (.int .u32 (ror x n : Nat)) ∧ w = w' := by
 have hb := rot_bits n h1 h2
 obtain ⟨m, hm⟩ : ∃ m, n + m = 32 := ⟨32 - n, by omega⟩
 rw [show 32 - n = m by omega] at hb
 have hm1 : m ≤ 31 := by omega
 have R := hid (rot_end x n m hx hm)
 have HM := hid hm
 clear hm
 go_enter Tryz.func164, Tryz.ntmps164
 go_wp2_with fail
 go_ret
 refine ⟨?_, rfl⟩
 rw [← R.out]; rfl
theorem xor_nat (a b : Nat) (ha : a < 4294967296) (hb : b < 4294967296) : Hid (bits .xor .u32 (a : Int) (b : Int) = ((a ^^^ b : Nat) : Int)) := hid (u32_xor_nat a b ha hb)
theorem rotated_any (x a b c : Nat) (w : World) (hx : x < 4294967296) (a1 : 1 ≤ a) (a2 : a ≤ 31) (b1 : 1 ≤ b) (b2 : b ≤ 31) (c1 : 1 ≤ c) (c2 : c ≤ 31) :
  Calls Tryz.prog 165 #[.int .u32 x, .int .i64 a, .int .i64 b, .int .i64 c] w fun e w' => e = .returned (.int .u32 (rot3 x a b c : Nat)) ∧ w = w' := by
 have r1 := ror_lt x a hx
 have r2 := ror_lt x b hx
 have r3 := ror_lt x c hx
 have X1 := xor_nat _ _ r1 r2
 have X2 := xor_nat _ _ (SzSha.xor_lt r1 r2) r3
 clear r1 r2 r3
 go_enter Tryz.func165, Tryz.ntmps165
 go_wp2_with fail
 refine (rotl_any x a _ hx a1 a2).mono ?_
 rintro e w' ⟨rfl, rfl⟩
 go_wp2_with fail
 refine (rotl_any x b _ hx b1 b2).mono ?_
 rintro e w' ⟨rfl, rfl⟩
 go_wp2_with fail
 refine (rotl_any x c _ hx c1 c2).mono ?_
 rintro e w' ⟨rfl, rfl⟩
 rw [X1.out]
 go_wp2_with fail
 go_ret
 refine ⟨?_, rfl⟩
 show Ending.returned (.int .u32 (bits .xor .u32 _ _)) = _
 rw [X2.out]; rfl
theorem only_setCell {a w : World} {g : Nat} (h : a.grownBy w (some g)) {p : Addr} (hp : p.block = g ∨ a.heap.size ≤ p.block) (u : Value) : a.grownBy (w.setCell p u) (some g) :=
 ⟨h.os, h.tape, h.output, by simpa [World.setCell] using h.size, fun i hi hne => (Below.heap_setCell w p u i (by
  rintro rfl
  rcases hp with hp | hp
  ·exact hne (by rw [hp])
  ·omega)).trans (h.block i hi hne)⟩
theorem only_of_below {a w : World} (h : Below a.heap.size a w) (row : Option Nat) : a.grownBy w row := ⟨h.os, h.tape, h.output, h.size, fun i hi _ => h.block i hi⟩
theorem only_trans {a b c : World} {row : Option Nat} (h : a.grownBy b row) (k : b.grownBy c row) : a.grownBy c row :=
 ⟨k.os.trans h.os, k.tape.trans h.tape, k.output.trans h.output, Nat.le_trans h.size k.size, fun i hi hne => (k.block i (Nat.lt_of_lt_of_le hi h.size) hne).trans (h.block i hi hne)⟩
/-- writes to a block that is new do not count -/
theorem below_of_only {B : Nat} {a w w' : World} {g : Nat} (h : Below B a w) (k : w.grownBy w' (some g)) (hB : B ≤ w.heap.size) (hg : B ≤ g) : Below B a w' :=
 ⟨k.os.trans h.os, k.tape.trans h.tape, k.output.trans h.output, Nat.le_trans h.size k.size, fun i hi => (k.block i (Nat.lt_of_lt_of_le hi hB) (fun e => by injection e with e; omega)).trans (h.block i hi)⟩
theorem rowIs_only {w w' : World} {g b : Nat} {t n : Nat} {f : Nat → Value} (h : w.rowIs b t n f) (k : w.grownBy w' (some g)) (hne : b ≠ g) : w'.rowIs b t n f :=
 h.of_block (k.block b h.lt (fun e => by injection e with e; exact hne e))
theorem rowIs_below {B : Nat} {w w' : World} {b : Nat} {t n : Nat} {f : Nat → Value} (h : w.rowIs b t n f) (k : Below B w w') (hb : b < B) : w'.rowIs b t n f := h.of_block (k.block b hb)
theorem cell_only {w w' : World} {g : Nat} {p : Addr} (k : w.grownBy w' (some g)) (hlt : p.block < w.heap.size) (hne : p.block ≠ g) : w'.cell? p = w.cell? p :=
 World.cell?_of_block (k.block p.block hlt (fun e => by injection e with e; exact hne e))
theorem drew_only {a w : World} {row : Option Nat} (h : a.grownBy w row) : a.grownBy w.drew row := ⟨h.os, h.tape, h.output, h.size, h.block⟩
def overF (off m : Nat) (h f : Nat → Value) (j : Nat) : Value := if off ≤ j ∧ j < off + m then h (j - off) else f j
theorem over_get (off m N : Nat) (h f : Nat → Value) (c : Array Value) (hc : c.size = N) (hf : ∀ i, i < N → c[i]? = some (f i)) (hfit : off + m ≤ N) (i : Nat) (hi : i < N) :
  (c.toList.take off ++ ((List.range m).map h ++ c.toList.drop (off + ((List.range m).map h).length)))[i]? = some (overF off m h f i) := by
 have hl : c.toList.length = N := by simpa using hc
 have ht : (c.toList.take off).length = off := by rw [List.length_take]; omega
 unfold overF
 by_cases h1 : i < off
 ·rw [List.getElem?_append_left (by omega), List.getElem?_take_of_lt h1, if_neg (by omega)]
  simpa using hf i hi
 ·rw [List.getElem?_append_right (by omega), ht]
  by_cases h2 : i < off + m
  ·rw [List.getElem?_append_left (by simp; omega), if_pos (by omega)]
   simp [show i - off < m by omega]
  ·rw [List.getElem?_append_right (by simp; omega), List.getElem?_drop, if_neg (by omega)]
   simp only [List.length_map, List.length_range]
   rw [show off + m + (i - off - m) = i by omega]
   simpa using hf i hi
/-- copy into a row known by its index -/
theorem wpList_copy_rowIs {P : Program} {w : World} {ops : Array Oper} {rest : List Oper} {o : Oper} {a : Act} {Q : Exit → Act → World → Prop} (hgd : o.guard = none) (d s : Operand) (dT sT : TypeId)
  (ho : o.op = .call { callee := .builtin .copy, args := #[d, s], argTypes := #[dT, sT] }) (elem : TypeId) (hu : P.underlying dT = some (.slice elem)) (hsz : (P.info? elem).map (·.size) = some 1)
  (g off dLen dCap : Nat) (sp : Option Addr) (sLen sCap : Nat) (hd : a.eval d = .slice (some ⟨g, off, none⟩) dLen dCap) (hs : a.eval s = .slice sp sLen sCap)
  (T N : Nat) (f : Nat → Value) (hr : Hid (w.rowIs g T N f)) (m : Nat) (hm : m = Nat.min sLen dLen) (h : Nat → Value)
  (hsrc : 0 < m → ∃ ad, sp = some ad ∧ ∀ j, j < m → w.cell? (ad.add j) = some (h j)) (hfit : off + m ≤ N) (h1 : ∀ j, j < m → (h j).oneCell' = true)
  (K : ∀ w', Hid (w'.rowIs g T N (overF off m h f)) → Hid (w.grownBy w' (some g)) → wpList P ops Q rest (a.put o.dst (goInt m)) w') :
  wpList P ops Q (o :: rest) a w := by
 rcases Nat.eq_zero_or_pos m with h0 | h0
 ·refine wpList_copy_nothing hgd d s dT sT ho elem hu hsz _ sp dLen dCap sLen sCap hd hs (by omega) ?_
  have := K w (hid (hr.out.congr fun i hi => by unfold overF; rw [if_neg (by omega)])) (hid (World.grownBy.refl _ _))
  rw [h0] at this
  exact this
 ·obtain ⟨ad, rfl, hc⟩ := hsrc h0
  obtain ⟨c, hb, hn, hcf⟩ := hr.out
  have hlen : ((List.range m).map h).length = m := by simp
  refine wpList_copy_own hgd d s dT sT ho elem hu hsz g off dLen dCap ad sLen sCap hd hs c T hb ((List.range m).map h) (by rw [hlen]; exact hm)
   (fun j v hv => ?_) (by rw [hlen, hn]; exact hfit) (fun v hv => ?_) ?_
  ·have hj : j < m := by have := (List.getElem?_eq_some_iff.1 hv).1; simpa using this
   have : v = h j := by simp [hj] at hv; exact hv.symm
   rw [this]; exact hc j hj
  ·simp only [List.mem_map, List.mem_range] at hv
   obtain ⟨j, hj, rfl⟩ := hv
   exact h1 j hj
  ·have hrow : (w.setRow g (c.toList.take off ++ ((List.range m).map h ++ c.toList.drop (off + ((List.range m).map h).length))).toArray).rowIs g T N (overF off m h f) :=
    ⟨_, setRow_heap w g _ _ T _ hb, by simp [hn]; omega, fun i hi => by
     rw [List.getElem?_toArray]
     exact over_get off m N h f c hn hcf hfit i hi⟩
   have := K _ (hid hrow) (hid ⟨rfl, rfl, rfl, by simp [World.setRow], fun i hi hne => setRow_other w g i _ (fun e => hne (by rw [e]))⟩)
   rw [hlen] at this ⊢
   exact this
/-- the number of k bytes -/
def wordN (x : Nat → Nat) : Nat → Nat
 | 0 => 0
 | k + 1 => wordN x k * 256 + x k
theorem wordN_lt (x : Nat → Nat) (hx : ∀ i, i < 4 → x i < 256) : ∀ k, k ≤ 4 → wordN x k < 256 ^ k
 | 0, _ => by simp [wordN]
 | k + 1, h => by
  have h1 := wordN_lt x hx k (by omega)
  have h2 := hx k (by omega)
  rw [wordN, Nat.pow_succ]
  generalize 256 ^ k = z at *
  omega
theorem or_byte (n c : Nat) (hn : n < 16777216) (hc : c < 256) : bits .or .u32 ((n : Int) * 256) (c : Int) = ((n * 256 + c : Nat) : Int) := by
 have e : (n : Int) * 256 = ((n * 256 : Nat) : Int) := by omega
 rw [e, u32_or_nat _ _ (by omega) (by omega)]
 have := Nat.two_pow_add_eq_or_of_lt (i := 8) (b := c) (by omega) n
 rw [show (2 : Nat) ^ 8 * n = n * 256 by omega] at this
 rw [this]
theorem word_any (g off n c : Nat) (x : Nat → Nat) (w : World) (hn : 4 ≤ n) (hc : n ≤ c) (hx : ∀ i, i < 4 → x i < 256) (h : Hid (∀ i, i < 4 → w.cell? ⟨g, off + i, none⟩ = some (.int .u8 (x i)))) :
  Calls Tryz.prog 163 #[.slice (some ⟨g, off, none⟩) n c] w fun e w' => e = .returned (.int .u32 (wordN x 4 : Nat)) ∧ w = w' := by
 have HX := hid hx
 clear hx
 have hc4 : 4 ≤ c := by omega
 go_enter Tryz.func163, Tryz.ntmps163
 go_wp2_with fail
 go_loop [2, 8] (fun a i => ∃ k : Nat, k ≤ 4 ∧ i = .int .i64 k ∧ a = .int .u32 (wordN x k : Nat)) (fun _ i => 4 - (intOf i).toNat)
 case atStart => exact ⟨0, by omega, rfl, rfl⟩
 case round =>
  obtain ⟨k, hk, rfl, rfl⟩ := hrel
  by_cases hlt : k < 4
  ·have hcell := h.out k hlt
   have hw : wordN x k < 16777216 := Nat.lt_of_lt_of_le (wordN_lt x HX.out k hk) (Nat.pow_le_pow_right (n := 256) (i := k) (j := 3) (by omega) (by omega))
   have hb := HX.out k hlt
   have ho := hid (or_byte _ _ hw hb)
   go_wp2_with fail
   go_round
   case rel => exact ⟨k + 1, by omega, by go_num, by rw [ho.out]; rfl⟩
   case measure => simp [intOf]; omega
  ·obtain rfl : k = 4 := by omega
   go_wp2_with fail
   go_ret
   exact ⟨rfl, rfl⟩
/-- what 'put' leaves in a row -/
def putF (off L n : Nat) (f : Nat → Value) (j : Nat) : Value := if off ≤ j ∧ j < off + L then .int .u8 ((n / 256 ^ (off + L - 1 - j) % 256 : Nat)) else f j
/-- the same behind k rounds: the last k places are written -/
def putK (off L n k : Nat) (f : Nat → Value) (j : Nat) : Value := if off + L - k ≤ j ∧ j < off + L then .int .u8 ((n / 256 ^ (off + L - 1 - j) % 256 : Nat)) else f j
theorem putK_succ (off L n k : Nat) (f : Nat → Value) (hk : k < L) : (fun j => if j = off + (L - 1 - k) then Value.int .u8 ((n / 256 ^ k % 256 : Nat)) else putK off L n k f j) = putK off L n (k + 1) f := by
 funext j
 unfold putK
 by_cases e : j = off + (L - 1 - k)
 ·rw [if_pos e, if_pos (by omega), show off + L - 1 - j = k by omega]
 ·rw [if_neg e]
  by_cases e2 : off + L - k ≤ j ∧ j < off + L
  ·rw [if_pos e2, if_pos (by omega)]
  ·rw [if_neg e2, if_neg (by omega)]
theorem byte_shift (n k : Nat) (hn : n ≤ 18446744073709551615) (hk : k < 8) : (n : Int) / 2 ^ (8 * k) % 256 = ((n / 256 ^ k % 256 : Nat) : Int) := by
 show ((n / 2 ^ (8 * k) % 256 : Nat) : Int) = _
 rw [Nat.pow_mul]
theorem put_any (g off L c n T N : Nat) (f : Nat → Value) (w : World) (hL : L ≤ 8) (hLc : L ≤ c) (hN : off + L ≤ N) (hn : n ≤ 18446744073709551615) (h : Hid (w.rowIs g T N f)) :
  Calls Tryz.prog 150 #[.slice (some ⟨g, off, none⟩) L c, .int .u64 n] w fun e w' => (∃ v, e = .returned v) ∧ w'.rowIs g T N (putF off L n f) ∧ w.grownBy w' (some g) := by
 go_enter Tryz.func150, Tryz.ntmps150
 go_wp2_with fail
 go_loopw [7] (fun i wr => ∃ k : Nat, k ≤ L ∧ i = .int .i64 k ∧ Hid (wr.rowIs g T N (putK off L n k f)) ∧ Hid (w.grownBy wr (some g))) (fun i _ => L - (intOf i).toNat)
 case atStart => exact ⟨0, by omega, rfl, hid (h.out.congr fun i hi => by unfold putK; rw [if_neg (by omega)]), hid (World.grownBy.refl _ _)⟩
 case round =>
  obtain ⟨k, hk, rfl, hr, hg⟩ := hrel
  by_cases hlt : k < L
  ·have hcell := hr.out.cell (i := off + (L - 1 - k)) (by omega)
   have hfr := hr.out.frozen (off + (L - 1 - k))
   go_wp2_with fail
   go_roundw
   case rel => exact ⟨k + 1, by omega, by go_num, hid (by rw [← putK_succ off L n k f hlt, ← byte_shift n k hn (by omega)]; exact hr.out.set _ _), hid (only_setCell hg.out (.inl rfl) _)⟩
   case measure => simp [intOf]; omega
  ·obtain rfl : k = L := by omega
   go_wp2_with fail
   go_end0
   exact ⟨⟨_, rfl⟩, hr.out.congr fun i hi => by unfold putK putF; rw [show off + k - k = off by omega], hg.out⟩
/-- the table K lies where the program reads it -/
def TabK (w : World) : Prop := ∀ t, t < 64 → w.cell? ⟨1, t, none⟩ = some (.int .u32 (kf t : Nat))
/-- a row of bytes -/
def BytesAt (w : World) (g off : Nat) (l : List Nat) : Prop := ∀ i, i < l.length → w.cell? ⟨g, off + i, none⟩ = some (.int .u8 (l.getD i 0 : Nat))
def schF (l : List Nat) (k j : Nat) : Value := .int .u32 ((if j < k then wt l j else 0 : Nat))
def stF (v : Nat → Nat) (j : Nat) : Value := .int .u32 (v j : Nat)
def blF (l : List Nat) (s : Nat → Nat) (k j : Nat) : Value := .int .u32 ((if j < k then block s l j else s j : Nat))
theorem wordN_word (l : List Nat) (k : Nat) : wordN (fun i => l.getD (4 * k + i) 0) 4 = word l k := by
 simp [wordN, word]
theorem xor3 (a b c : Nat) (ha : a < 4294967296) (hb : b < 4294967296) (hc : c < 4294967296) : bits .xor .u32 (bits .xor .u32 (a : Int) (b : Int)) (c : Int) = (((a ^^^ b) ^^^ c : Nat) : Int) := by
 rw [u32_xor_nat a b ha hb, u32_xor_nat _ c (SzSha.xor_lt ha hb) hc]
theorem sch_end (d x f y : Nat) (hx : x < 4294967296) (hy : y < 4294967296) : ((d : Int) + bits .xor .u32 (bits .xor .u32 (ror x 7 : Nat) (ror x 18 : Nat)) ((x : Int) / 8) + (f : Int) + bits .xor .u32 (bits .xor .u32 (ror y 17 : Nat) (ror y 19 : Nat)) ((y : Int) / 1024)) % 4294967296 = (add (add (add d (sg0 x)) f) (sg1 y) : Nat) := by
 have e1 := xor3 (ror x 7) (ror x 18) (x / 8) (ror_lt _ _ hx) (ror_lt _ _ hx) (div_lt _ hx)
 have e2 := xor3 (ror y 17) (ror y 19) (y / 1024) (ror_lt _ _ hy) (ror_lt _ _ hy) (div_lt _ hy)
 have c1 : ((x : Int) / 8) = ((x / 8 : Nat) : Int) := by omega
 have c2 : ((y : Int) / 1024) = ((y / 1024 : Nat) : Int) := by omega
 rw [c1, c2, e1, e2]
 show _ = ((add (add (add d (sg0 x)) f) (sg1 y) : Nat) : Int)
 change ((d : Int) + (sg0 x : Nat) + (f : Int) + (sg1 y : Nat)) % 4294967296 = _
 unfold add
 omega
theorem addI (a b : Nat) : ((a : Int) + (b : Int)) % 4294967296 = (add a b : Nat) := by unfold add; omega
theorem add_row (b o j : Nat) : (⟨b, o, none⟩ : Addr).add j = ⟨b, o + j, none⟩ := by
 unfold Addr.add
 split
 ·rename_i h; rw [h]; rfl
 ·rfl
theorem blF_set (l : List Nat) (s : Nat → Nat) (k : Nat) : (fun j => if j = k then Value.int .u32 (block s l k : Nat) else blF l s k j) = blF l s (k + 1) := by
 funext j
 unfold blF
 by_cases e : j = k
 ·rw [if_pos e, if_pos (by omega), e]
 ·rw [if_neg e]
  by_cases e2 : j < k
  ·rw [if_pos e2, if_pos (by omega)]
  ·rw [if_neg e2, if_neg (by omega)]
theorem rp_end (v : Nat → Nat) (k w : Nat) (h : Words v) :
  IntKind.u32.wrap (IntKind.u32.wrap (IntKind.u32.wrap (IntKind.u32.wrap ((v 7 : Int) + (rot3 (v 4) 6 11 25 : Nat)) + bits .xor .u32 (v 6 : Nat) (bits .and .u32 (v 4 : Nat) (bits .xor .u32 (v 5 : Nat) (v 6 : Nat)))) + (k : Int)) + (w : Int)) = (rp v k w : Nat) := by
 rw [u32_xor_nat _ _ (h 5 (by omega)) (h 6 (by omega)), u32_and_nat _ _ (h 4 (by omega)) (SzSha.xor_lt (h 5 (by omega)) (h 6 (by omega))), u32_xor_nat _ _ (h 6 (by omega)) (SzSha.and_lt (h 4 (by omega)))]
 change IntKind.u32.wrap (IntKind.u32.wrap (IntKind.u32.wrap (IntKind.u32.wrap ((v 7 : Int) + (rot3 (v 4) 6 11 25 : Nat)) + (ch (v 4) (v 5) (v 6) : Nat)) + (k : Int)) + (w : Int)) = _
 simp only [IntKind.wrap_u32', rp, add]
 omega
theorem rq_end (v : Nat → Nat) (h : Words v) :
  IntKind.u32.wrap ((rot3 (v 0) 2 13 22 : Nat) + bits .or .u32 (bits .and .u32 (v 0 : Nat) (v 1 : Nat)) (bits .and .u32 (v 2 : Nat) (bits .or .u32 (v 0 : Nat) (v 1 : Nat)))) = (rq v : Nat) := by
 rw [u32_and_nat _ _ (h 0 (by omega)) (h 1 (by omega)), u32_or_nat _ _ (h 0 (by omega)) (h 1 (by omega)), u32_and_nat _ _ (h 2 (by omega)) (SzSha.or_lt (h 0 (by omega)) (h 1 (by omega))), u32_or_nat _ _ (SzSha.and_lt (h 0 (by omega))) (SzSha.and_lt (h 2 (by omega)))]
 change IntKind.u32.wrap ((rot3 (v 0) 2 13 22 : Nat) + (maj (v 0) (v 1) (v 2) : Nat)) = _
 simp only [IntKind.wrap_u32', rq, add]
 omega
theorem rnd_row (v : Nat → Nat) (k w : Nat) (j : Nat) (hj : j < 8) :
  (if j = 0 then Value.int .u32 (add (rp v k w) (rq v) : Nat) else if j = 4 then Value.int .u32 (add (v 3) (rp v k w) : Nat) else overF 1 7 (stF v) (stF v) j) = stF (rnd v k w) j := by
 unfold stF rnd overF
 by_cases e0 : j = 0
 ·rw [if_pos e0, if_pos e0]
 ·rw [if_neg e0, if_neg e0]
  by_cases e4 : j = 4
  ·rw [if_pos e4, if_pos e4]
  ·rw [if_neg e4, if_neg e4, if_pos (by omega)]
theorem schF_set (l : List Nat) (k : Nat) : (fun j => if j = k then Value.int .u32 (wt l k : Nat) else schF l k j) = schF l (k + 1) := by
 funext j
 unfold schF
 by_cases e : j = k
 ·rw [if_pos e, if_pos (by omega), e]
 ·rw [if_neg e]
  by_cases e2 : j < k
  ·rw [if_pos e2, if_pos (by omega)]
  ·rw [if_neg e2, if_neg (by omega)]
set_option maxRecDepth 100000 in
theorem absorb_any (gs T gb off c : Nat) (s : Nat → Nat) (l : List Nat) (w : World) (hl : Hid (l.length = 64)) (hb : Hid (Bytes l)) (hs : Hid (Words s)) (hc : 64 ≤ c) (hgs : Hid (w.rowIs gs T 8 (stF s)))
  (hgb : gb < w.heap.size) (hne : gb ≠ gs) (hkk : 1 < w.heap.size) (hnk : 1 ≠ gs) (hK : Hid (TabK w)) (hL : Hid (BytesAt w gb off l)) :
  Calls Tryz.prog 149 #[.pointer (some ⟨gs, 0, none⟩), .slice (some ⟨gb, off, none⟩) 64 c] w fun e w' => (∃ v, e = .returned v) ∧ w'.rowIs gs T 8 (stF (block s l)) ∧ w.grownBy w' (some gs) := by
 have hgl := hgs.out.lt
 go_enter Tryz.func149, Tryz.ntmps149
 go_wp2_with fail
 go_loopw [14] (fun i wr => ∃ k : Nat, k ≤ 16 ∧ i = .int .i64 k ∧ Hid (wr.rowIs w.heap.size 205 64 (schF l k)) ∧ Hid (Below w.heap.size w wr)) (fun i _ => 16 - (intOf i).toNat)
 case atStart => exact ⟨0, by omega, rfl, hid (World.rowIs_alloc w _ _ _ (fun i hi => by
   have : ∀ j : Fin 64, (Array.replicate 64 (Value.int .u32 0))[j.val]? = some (schF l 0 j.val) := fun j => by simp [schF]
   exact this ⟨i, hi⟩)), hid ((Below.refl _ _).alloc (Nat.le_refl _) _)⟩
 case round =>
  obtain ⟨k, hk1, rfl, hr, hg⟩ := hrel
  by_cases hlt : k < 16
  ·have hcell := hr.out.cell (i := k) (by omega)
   have hfr := hr.out.frozen k
   have HX : Hid (∀ i, i < 4 → wr.cell? ⟨gb, off + 4 * k + i, none⟩ = some (.int .u8 (l.getD (4 * k + i) 0 : Nat))) := hid fun i hi => by
    rw [Nat.add_assoc]
    exact (hg.out.cell (p := ⟨gb, off + (4 * k + i), none⟩) hgb).trans (hL.out _ (by have := hl.out; omega))
   have hgg := hg.out.size
   go_wp2_with fail
   refine (word_any gb (off + 4 * k) (64 - 4 * k) (c - 4 * k) (fun i => l.getD (4 * k + i) 0) _ (by omega) (by omega) (fun i _ => hb.out.getD _) HX).mono ?_
   rintro e w1 ⟨rfl, rfl⟩
   rw [wordN_word, ← wt_low l k hlt]
   go_wp2_with fail
   go_roundw
   case rel => exact ⟨k + 1, by omega, by go_num, hid (by rw [← schF_set]; exact hr.out.set _ _), hid (hg.out.setCell (p := ⟨w.heap.size, k, none⟩) (Nat.le_refl _) _)⟩
   case measure => simp [intOf]; omega
  ·have hr16 : Hid (wr.rowIs w.heap.size 205 64 (schF l 16)) := by have := hr; rw [show k = 16 by omega] at this; exact this
   have d16 : decide ((k : Int) < 16) = false := dQ (by omega)
   go_wp2_with fail
   go_loopw [6] (fun i wr => ∃ k : Nat, 16 ≤ k ∧ k ≤ 64 ∧ i = .int .i64 k ∧ Hid (wr.rowIs w.heap.size 205 64 (schF l k)) ∧ Hid (Below w.heap.size w wr)) (fun i _ => 64 - (intOf i).toNat)
   case atStart => exact ⟨16, by omega, by omega, rfl, hr16, hg⟩
   case round =>
    clear hr hg hr16 hlt
    obtain ⟨k, hk0, hk, rfl, hr, hg⟩ := hrel
    by_cases hlt : k < 64
    ·obtain ⟨d, hd⟩ : ∃ d, d + 16 = k := ⟨k - 16, by omega⟩
     obtain ⟨a, ha⟩ : ∃ a, a + 15 = k := ⟨k - 15, by omega⟩
     obtain ⟨f, hf⟩ : ∃ f, f + 7 = k := ⟨k - 7, by omega⟩
     obtain ⟨b, hb2⟩ : ∃ b, b + 2 = k := ⟨k - 2, by omega⟩
     have hcell := hr.out.cell (i := k) (by omega)
     have hfr := hr.out.frozen k
     have c15 := hr.out.cell (i := a) (by omega)
     have c2 := hr.out.cell (i := b) (by omega)
     have c16 := hr.out.cell (i := d) (by omega)
     have c7 := hr.out.cell (i := f) (by omega)
     unfold schF at c15 c2 c16 c7
     rw [if_pos (by omega)] at c15 c2 c16 c7
     have a64 : (a : Int) < 64 := by omega
     have b64 : (b : Int) < 64 := by omega
     have d64 : (d : Int) < 64 := by omega
     have f64 : (f : Int) < 64 := by omega
     have k64 : (k : Int) < 64 := by omega
     have e15 : IntKind.i64.wrap ((k : Int) - 15) = (a : Int) := by rw [IntWalk.i64_in _ (by omega)]; omega
     have e2 : IntKind.i64.wrap ((k : Int) - 2) = (b : Int) := by rw [IntWalk.i64_in _ (by omega)]; omega
     have e16 : IntKind.i64.wrap ((k : Int) - 16) = (d : Int) := by rw [IntWalk.i64_in _ (by omega)]; omega
     have e7 : IntKind.i64.wrap ((k : Int) - 7) = (f : Int) := by rw [IntWalk.i64_in _ (by omega)]; omega
     have hW := hid (wt_high l k hk0 hlt)
     have HD := hid hd
     have HA := hid ha
     have HF := hid hf
     have HB := hid hb2
     clear hd ha hf hb2
     go_wp2_with fail
     refine wp_region_still_lit (by kernel_rfl) (by kernel_rfl) ?_
     repeat still_step
     refine wpStill_nil ?_
     change Exit.then _ _ _ _ wr.drew
     have hr2 : Hid (wr.drew.rowIs w.heap.size 205 64 (schF l k)) := hr
     have hg2 : Hid (Below w.heap.size w wr.drew) := hid hg.out.drew
     generalize wr.drew = w2 at *
     clear hr hg c15 c2 c16 c7 hcell hfr
     go_wp2_with fail
     refine wp_region_still_tail 29 (by kernel_rfl) (by kernel_rfl) ?_
     change wpStill _ _ w2.drew (fun a' => wpList _ _ _ _ a' w2.drew) _ _
     have hr3 : Hid (w2.drew.rowIs w.heap.size 205 64 (schF l k)) := hr2
     have hg3 : Hid (Below w.heap.size w w2.drew) := hid hg2.out.drew
     generalize w2.drew = w3 at *
     clear hr2 hg2
     have hcell := hr3.out.cell (i := k) (by omega)
     have hfr := hr3.out.frozen k
     have c16 := hr3.out.cell (i := d) (by omega)
     have c7 := hr3.out.cell (i := f) (by omega)
     unfold schF at c16 c7
     rw [if_pos (by have := HD.out; omega)] at c16
     rw [if_pos (by have := HF.out; omega)] at c7
     have la := wt_lt hb.out a (by omega)
     have lb := wt_lt hb.out b (by omega)
     have SE := hid (sch_end (wt l d) (wt l a) (wt l f) (wt l b) la lb)
     have EW : Hid (wt l k = add (add (add (wt l d) (sg0 (wt l a))) (wt l f)) (sg1 (wt l b))) := hid (by
      rw [hW.out, show k - 16 = d by have := HD.out; omega, show k - 15 = a by have := HA.out; omega, show k - 7 = f by have := HF.out; omega, show k - 2 = b by have := HB.out; omega])
     simp only [List.take_succ_cons, List.take_zero, List.drop_succ_cons, List.drop_zero]
     repeat still_step
     still_call ((rotl_any (wt l a) 7 _ la (by omega) (by omega)).mono fun _ _ h => ⟨h.1, h.2.symm⟩)
     repeat still_step
     still_call ((rotl_any (wt l a) 18 _ la (by omega) (by omega)).mono fun _ _ h => ⟨h.1, h.2.symm⟩)
     repeat still_step
     still_call ((rotl_any (wt l b) 17 _ lb (by omega) (by omega)).mono fun _ _ h => ⟨h.1, h.2.symm⟩)
     repeat still_step
     still_call ((rotl_any (wt l b) 19 _ lb (by omega) (by omega)).mono fun _ _ h => ⟨h.1, h.2.symm⟩)
     repeat still_step
     refine wpStill_nil ?_
     go_wp2_with fail
     go_roundw
     case rel =>
      rw [SE.out, ← EW.out]
      exact ⟨k + 1, by omega, by omega, by go_num, hid (by rw [← schF_set]; exact hr3.out.set _ _), hid (hg3.out.setCell (p := ⟨w.heap.size, k, none⟩) (Nat.le_refl _) _)⟩
     case measure => simp [intOf]; omega
    ·have hr64 : Hid (wr.rowIs w.heap.size 205 64 (schF l 64)) := by have := hr; rw [show k = 64 by omega] at this; exact this
     have hgs0 : ∀ i, i < 8 → wr.cell? ⟨gs, i, none⟩ = some (.int .u32 (s i : Nat)) := fun i hi => (hg.out.cell (p := ⟨gs, i, none⟩) hgl).trans (hgs.out.cell hi)
     have s0 := hgs0 0 (by omega)
     have s1 := hgs0 1 (by omega)
     have s2 := hgs0 2 (by omega)
     have s3 := hgs0 3 (by omega)
     have s4 := hgs0 4 (by omega)
     have s5 := hgs0 5 (by omega)
     have s6 := hgs0 6 (by omega)
     have s7 := hgs0 7 (by omega)
     clear hgs0
     have d64 : decide ((k : Int) < 64) = false := dQ (by omega)
     go_wp2_with fail
     obtain ⟨w1, hw1⟩ : ∃ w1 : World, w1 = wr := ⟨_, rfl⟩
     have hrv : Hid ((wr.alloc (.cells #[.int .u32 (s 0 : Nat), .int .u32 (s 1 : Nat), .int .u32 (s 2 : Nat), .int .u32 (s 3 : Nat), .int .u32 (s 4 : Nat), .int .u32 (s 5 : Nat), .int .u32 (s 6 : Nat), .int .u32 (s 7 : Nat)] 191)).rowIs wr.heap.size 191 8 (stF s)) := hid (World.rowIs_alloc _ _ _ _ (fun i hi => by
      have hi' : i < 8 := hi
      match i, hi' with
      | 0, _ => rfl
      | 1, _ => rfl
      | 2, _ => rfl
      | 3, _ => rfl
      | 4, _ => rfl
      | 5, _ => rfl
      | 6, _ => rfl
      | 7, _ => rfl))
     have hlt1 := hr64.out.lt
     have hg1 := hid (hg.out.alloc hg.out.size (.cells #[.int .u32 (s 0 : Nat), .int .u32 (s 1 : Nat), .int .u32 (s 2 : Nat), .int .u32 (s 3 : Nat), .int .u32 (s 4 : Nat), .int .u32 (s 5 : Nat), .int .u32 (s 6 : Nat), .int .u32 (s 7 : Nat)] 191))
     have hr1 := hid (hr64.out.alloc (.cells #[.int .u32 (s 0 : Nat), .int .u32 (s 1 : Nat), .int .u32 (s 2 : Nat), .int .u32 (s 3 : Nat), .int .u32 (s 4 : Nat), .int .u32 (s 5 : Nat), .int .u32 (s 6 : Nat), .int .u32 (s 7 : Nat)] 191))
     subst hw1
     clear hr64 hg hr s0 s1 s2 s3 s4 s5 s6 s7
     go_loopw [69] (fun i wr => ∃ k : Nat, k ≤ 64 ∧ i = .int .i64 k ∧ Hid (wr.rowIs w.heap.size 205 64 (schF l 64)) ∧ Hid (wr.rowIs w1.heap.size 191 8 (stF (rounds l s k))) ∧ Hid (Below w.heap.size w wr)) (fun i _ => 64 - (intOf i).toNat)
     case atStart => exact ⟨0, by omega, rfl, hr1, hrv, hg1⟩
     case round =>
      clear hr1 hrv hg1
      obtain ⟨k, hk, rfl, hr, hv, hg⟩ := hrel
      by_cases hlt : k < 64
      ·go_wp2_with fail
       refine wp_region_still_lit (by kernel_rfl) (by kernel_rfl) ?_
       change wpStill _ _ wr.drew (fun a' => Exit.then _ _ _ a' wr.drew) _ _
       have hr2 : Hid (wr.drew.rowIs w.heap.size 205 64 (schF l 64)) := hr
       have hv2 : Hid (wr.drew.rowIs w1.heap.size 191 8 (stF (rounds l s k))) := hv
       have hg2 : Hid (Below w.heap.size w wr.drew) := hid hg.out.drew
       generalize wr.drew = w2 at *
       clear hr hv hg
       have k64 : (k : Int) < 64 := by omega
       have v7 := hv2.out.cell (i := 7) (by omega)
       have v4 := hv2.out.cell (i := 4) (by omega)
       have v5 := hv2.out.cell (i := 5) (by omega)
       have v6 := hv2.out.cell (i := 6) (by omega)
       have wk := hr2.out.cell (i := k) (by omega)
       have nk := (hg2.out.cell (p := ⟨1, k, none⟩) hkk).trans (hK.out k hlt)
       unfold stF at v7 v4 v5 v6
       unfold schF at wk
       rw [if_pos hlt] at wk
       have hWd := rounds_words hs.out l k
       have l4 := hWd 4 (by omega)
       repeat still_step
       still_call ((rotated_any (rounds l s k 4) 6 11 25 _ l4 (by omega) (by omega) (by omega) (by omega) (by omega) (by omega)).mono fun _ _ h => ⟨h.1, h.2.symm⟩)
       repeat still_step
       refine wpStill_nil ?_
       rw [rp_end _ _ _ hWd]
       clear v7 v4 v5 v6 wk nk l4 k64
       go_wp2_with fail
       refine wp_region_still_lit (by kernel_rfl) (by kernel_rfl) ?_
       change wpStill _ _ w2.drew (fun a' => Exit.then _ _ _ a' w2.drew) _ _
       have hr3 : Hid (w2.drew.rowIs w.heap.size 205 64 (schF l 64)) := hr2
       have hv3 : Hid (w2.drew.rowIs w1.heap.size 191 8 (stF (rounds l s k))) := hv2
       have hg3 : Hid (Below w.heap.size w w2.drew) := hid hg2.out.drew
       generalize w2.drew = w3 at *
       clear hr2 hv2 hg2
       have v0 := hv3.out.cell (i := 0) (by omega)
       have v1 := hv3.out.cell (i := 1) (by omega)
       have v2 := hv3.out.cell (i := 2) (by omega)
       unfold stF at v0 v1 v2
       have l0 := hWd 0 (by omega)
       repeat still_step
       still_call ((rotated_any (rounds l s k 0) 2 13 22 _ l0 (by omega) (by omega) (by omega) (by omega) (by omega) (by omega)).mono fun _ _ h => ⟨h.1, h.2.symm⟩)
       repeat still_step
       refine wpStill_nil ?_
       rw [rq_end _ hWd]
       clear v0 v1 v2 l0
       go_wp2_with fail
       refine wp_region_still_tail 2 (by kernel_rfl) (by kernel_rfl) ?_
       change wpStill _ _ w3.drew (fun a' => wpList _ _ _ _ a' w3.drew) _ _
       have hr4 : Hid (w3.drew.rowIs w.heap.size 205 64 (schF l 64)) := hr3
       have hv4 : Hid (w3.drew.rowIs w1.heap.size 191 8 (stF (rounds l s k))) := hv3
       have hg4 : Hid (Below w.heap.size w w3.drew) := hid hg3.out.drew
       generalize w3.drew = w4 at *
       clear hr3 hv3 hg3
       simp only [List.take_succ_cons, List.take_zero, List.drop_succ_cons, List.drop_zero]
       repeat still_step
       refine wpStill_nil ?_
       refine wpList_copy_rowIs rfl (.tmp 116) (.tmp 117) 209 209 rfl 188 Tryz.underlying209 (by kernel_rfl) w1.heap.size 1 7 7 (some ⟨w1.heap.size, 0, none⟩) 7 8 rfl rfl 191 8 _ hv4 7 rfl (stF (rounds l s k)) (fun _ => ⟨_, rfl, fun j hj => ?_⟩) (by omega) (fun _ _ => rfl) ?_
       ·have := hv4.out.cell (i := j) (by omega)
        rw [add_row, Nat.zero_add]; exact this
       intro w5 hv5 ho5
       have hr5 : Hid (w5.rowIs w.heap.size 205 64 (schF l 64)) := hid (rowIs_only hr4.out ho5.out (by omega))
       have hg5 : Hid (Below w.heap.size w w5) := hid (below_of_only hg4.out ho5.out hg4.out.size (by omega))
       clear hr4 hv4 hg4 ho5
       have x4 : w5.cell? ⟨w1.heap.size, 4, none⟩ = some (.int .u32 (rounds l s k 3 : Nat)) := hv5.out.cell (i := 4) (by omega)
       have f4 := hv5.out.frozen 4
       have f0 := hv5.out.frozen 0
       have x0 := hv5.out.cell (i := 0) (by omega)
       go_wp2_with fail
       go_roundw
       case rel =>
        rw [addI, addI]
        exact ⟨k + 1, by omega, by go_num, hid ((hr5.out.setOther (a := ⟨w1.heap.size, 4, none⟩) (by show w.heap.size ≠ w1.heap.size; omega) _).setOther (a := ⟨w1.heap.size, 0, none⟩) (by show w.heap.size ≠ w1.heap.size; omega) _),
         hid (((hv5.out.set 4 _).set 0 _).congr fun j hj => rnd_row _ _ _ j hj), hid ((hg5.out.setCell (p := ⟨w1.heap.size, 4, none⟩) (by show w.heap.size ≤ w1.heap.size; omega) _).setCell (p := ⟨w1.heap.size, 0, none⟩) (by show w.heap.size ≤ w1.heap.size; omega) _)⟩
       case measure => simp [intOf]; omega
      ·have hv64 : Hid (wr.rowIs w1.heap.size 191 8 (stF (rounds l s 64))) := by have := hv; rw [show k = 64 by omega] at this; exact this
       have hs0 : Hid (wr.rowIs gs T 8 (blF l s 0)) := hid ((rowIs_below hgs.out hg.out hgl).congr fun j hj => by unfold blF stF; rw [if_neg (by omega)])
       have ho0 : Hid (w.grownBy wr (some gs)) := hid (only_of_below hg.out _)
       clear hr hv hg
       have dk : decide ((k : Int) < 64) = false := dQ (by omega)
       go_wp2_with fail
       go_loopw [129] (fun i wr => ∃ k : Nat, k ≤ 8 ∧ i = .int .i64 k ∧ Hid (wr.rowIs w1.heap.size 191 8 (stF (rounds l s 64))) ∧ Hid (wr.rowIs gs T 8 (blF l s k)) ∧ Hid (w.grownBy wr (some gs))) (fun i _ => 8 - (intOf i).toNat)
       case atStart => exact ⟨0, by omega, rfl, hv64, hs0, ho0⟩
       case round =>
        clear hv64 hs0 ho0
        obtain ⟨k, hk, rfl, hv, hs1, ho⟩ := hrel
        by_cases hlt : k < 8
        ·go_wp2_with fail
         refine wp_region_still_tail 11 (by kernel_rfl) (by kernel_rfl) ?_
         change wpStill _ _ wr.drew (fun a' => wpList _ _ _ _ a' wr.drew) _ _
         have hv2 : Hid (wr.drew.rowIs w1.heap.size 191 8 (stF (rounds l s 64))) := hv
         have hs2 : Hid (wr.drew.rowIs gs T 8 (blF l s k)) := hs1
         have ho2 : Hid (w.grownBy wr.drew (some gs)) := hid (drew_only ho.out)
         generalize wr.drew = w2 at *
         clear hv hs1 ho
         have k8 : (k : Int) < 8 := by omega
         have vk := hv2.out.cell (i := k) (by omega)
         have sk := hs2.out.cell (i := k) (by omega)
         have sf := hs2.out.frozen k
         unfold stF at vk
         unfold blF at sk
         rw [if_neg (by omega)] at sk
         simp only [List.take_succ_cons, List.take_zero, List.drop_succ_cons, List.drop_zero]
         repeat still_step
         refine wpStill_nil ?_
         go_wp2_with fail
         go_roundw
         case rel =>
          exact ⟨k + 1, by omega, by go_num, hid (hv2.out.setOther (a := ⟨gs, k, none⟩) (by show w1.heap.size ≠ gs; omega) _), hid (by rw [← blF_set]; exact hs2.out.set _ _), hid (only_setCell ho2.out (.inl rfl) _)⟩
         case measure => simp [intOf]; omega
        ·obtain rfl : k = 8 := by omega
         go_wp2_with fail
         go_end0
         exact ⟨⟨_, rfl⟩, hs1.out.congr fun j hj => by unfold blF stF; rw [if_pos hj], ho.out⟩
/-- both tables of the hash lie where the program reads them -/
def Tabs (w : World) : Prop := 0 < w.heap.size ∧ 1 < w.heap.size ∧ (∀ t, t < 8 → w.cell? ⟨0, t, none⟩ = some (.int .u32 (hf t : Nat))) ∧ TabK w
theorem Tabs.below {w w' : World} (h : Tabs w) (hb : Below w.heap.size w w') : Tabs w' :=
 ⟨Nat.lt_of_lt_of_le h.1 hb.size, Nat.lt_of_lt_of_le h.2.1 hb.size, fun t ht => (hb.cell (p := ⟨0, t, none⟩) h.1).trans (h.2.2.1 t ht), fun t ht => (hb.cell (p := ⟨1, t, none⟩) h.2.1).trans (h.2.2.2 t ht)⟩
/-- a slice of bytes reads as a list; it lies below block B -/
def Rd (w : World) (B : Nat) (A : Option Addr) (l : List Nat) : Prop := 0 < l.length → ∃ g off, A = some ⟨g, off, none⟩ ∧ g < B ∧ BytesAt w g off l
theorem Rd.below {w w' : World} {B B' : Nat} {A : Option Addr} {l : List Nat} (h : Rd w B A l) (hb : Below B' w w') (hB : B ≤ B') : Rd w' B A l := fun hl => by
 obtain ⟨g, off, e, hg, hc⟩ := h hl
 exact ⟨g, off, e, hg, fun i hi => (hb.cell (p := ⟨g, off + i, none⟩) (Nat.lt_of_lt_of_le hg hB)).trans (hc i hi)⟩
/-- the value of a digest -/
def dgV (l : List Nat) : Value := .agg (l.map fun x => Value.int .u8 (x : Nat)).toArray
def lenOf : Value → Nat
 | .slice _ n _ => n
 | _ => 0
def zeroF (_ : Nat) : Value := .int .u8 0
theorem Rd.cut {w : World} {B g off : Nat} {l : List Nat} (hg : g < B) (h : BytesAt w g off l) (k : Nat) : Rd w B (some ⟨g, off + k, none⟩) (l.drop k) := fun hl => by
 refine ⟨g, off + k, rfl, hg, fun i hi => ?_⟩
 rw [List.length_drop] at hi
 have := h (k + i) (by omega)
 rw [List.getD_eq_getElem?_getD, List.getElem?_drop, ← List.getD_eq_getElem?_getD, Nat.add_assoc]
 exact this
theorem BytesAt.take {w : World} {g off : Nat} {l : List Nat} (h : BytesAt w g off l) (k : Nat) : BytesAt w g off (l.take k) := fun i hi => by
 rw [List.length_take] at hi
 rw [List.getD_eq_getElem?_getD, List.getElem?_take_of_lt (by omega), ← List.getD_eq_getElem?_getD]
 exact h i (by omega)
theorem Rd.only {w w' : World} {B gs : Nat} {A : Option Addr} {l : List Nat} (h : Rd w B A l) (ho : w.grownBy w' (some gs)) (h1 : B ≤ w.heap.size) (h2 : B ≤ gs) : Rd w' B A l := fun hl => by
 obtain ⟨g, off, e, hg, hc⟩ := h hl
 exact ⟨g, off, e, hg, fun i hi => (cell_only (p := ⟨g, off + i, none⟩) ho (Nat.lt_of_lt_of_le hg h1) (by show g ≠ gs; omega)).trans (hc i hi)⟩
theorem bytes_take {l : List Nat} (h : Bytes l) (k : Nat) : Bytes (l.take k) := fun x hx => h x (List.mem_of_mem_take hx)
theorem bytes_drop {l : List Nat} (h : Bytes l) (k : Nat) : Bytes (l.drop k) := fun x hx => h x (List.mem_of_mem_drop hx)
theorem info_u8 : (Tryz.prog.info? 5).map (fun i => (i.zero, i.size, i.bytes)) = some (some (.int .u8 0), 1, 1) := by kernel_rfl
theorem make_bytes (n c : Nat) (hnc : n ≤ c) (hc : c ≤ 281474976710656) (W : World) : (Instr.makeSlice 143 (.int .i64 (n : Int)) (.int .i64 (c : Int))).run Tryz.prog W = .ok (.slice (some ⟨W.heap.size, 0, none⟩) n c) (W.alloc (.cells (madeCells #[.int .u8 0] c) 5)) := by
 obtain ⟨i0, hi, hz0, hz1, hz2⟩ := info_parts info_u8
 have h := run_make (P := Tryz.prog) W 143 5 i0 (.int .u8 0) Tryz.underlying143 hi hz0 .i64 .i64 (n : Int) (c : Int) (by omega) (by omega) (by rw [hz2]; omega) (by omega)
 rw [hz1, Nat.mul_one] at h
 exact h
/-- the row of the last blocks -/
def lastF (l : List Nat) (j : Nat) : Value := .int .u8 ((last l).getD j 0 : Nat)
theorem last_cells (l : List Nat) (k r L N8 : Nat) (hl : l.length = 64 * k + r) (hr : r < 64) (hL : L = if r > 55 then 128 else 64) (h8 : N8 = 8 * l.length) (j : Nat) (hj : j < L) :
  putF (L - 8) 8 N8 (fun j => if j = r then Value.int .u8 128 else overF 0 r (fun j => Value.int .u8 ((l.drop (64 * k)).getD j 0 : Nat)) (fun _ => Value.int .u8 0) j) j = lastF l j := by
 have hk : l.length / 64 = k := by omega
 have hd : (l.drop (64 * k)).length = r := by rw [List.length_drop]; omega
 have hz : zeros l.length = L - 9 - r := by unfold zeros; split at hL <;> omega
 have hL9 : r + 9 ≤ L := by split at hL <;> omega
 unfold lastF last tail putF overF
 rw [hk, List.getD_eq_getElem?_getD]
 by_cases c1 : j < r
 ·rw [if_neg (by omega)]
  show (if j = r then _ else _) = _
  rw [if_neg (by omega), if_pos (by omega), List.getElem?_append_left (by omega), Nat.sub_zero, ← List.getD_eq_getElem?_getD]
 ·rw [List.getElem?_append_right (by omega), hd]
  by_cases c2 : j = r
  ·rw [if_neg (by omega)]
   show (if j = r then _ else _) = _
   rw [if_pos c2, show j - r = 0 by omega]; rfl
  ·obtain ⟨i, hi⟩ : ∃ i, j - r = i + 1 := ⟨j - r - 1, by omega⟩
   rw [hi, List.getElem?_cons_succ]
   by_cases c3 : j < L - 8
   ·rw [if_neg (by omega)]
    show (if j = r then _ else _) = _
    rw [if_neg c2, if_neg (by omega), List.getElem?_append_left (by simp; omega), List.getElem?_replicate, if_pos (by omega)]; rfl
   ·rw [if_pos (by omega), List.getElem?_append_right (by simp; omega), List.length_replicate, hz]
    have hb : i - (L - 9 - r) < 8 := by omega
    simp only [be, List.getElem?_map, List.getElem?_range hb, Option.map_some, Option.getD_some]
    rw [h8, show L - 8 + 8 - 1 - j = 8 - 1 - (i - (L - 9 - r)) by omega]
theorem last_len (l : List Nat) (k r L : Nat) (hl : l.length = 64 * k + r) (hr : r < 64) (hL : L = if r > 55 then 128 else 64) : (last l).length = L := by
 rw [last_length, show l.length % 64 = r by omega]; exact hL.symm
theorem last_bytes {l : List Nat} (h : Bytes l) : Bytes (last l) := fun x hx => by
 rcases List.mem_append.1 hx with h' | h'
 ·exact h x (List.mem_of_mem_drop h')
 ·exact tail_bytes _ x h'
def outF (F : Nat → Nat) (k j : Nat) : Value := .int .u8 ((if j < 4 * k then out F j else 0 : Nat))
theorem outF_put (F : Nat → Nat) (k : Nat) : putF (4 * k) 4 (F k) (outF F k) = outF F (k + 1) := by
 funext j
 unfold putF outF
 by_cases c : 4 * k ≤ j ∧ j < 4 * k + 4
 ·rw [if_pos c, if_pos (by omega)]
  unfold out
  rw [show j / 4 = k by omega, show 4 * k + 4 - 1 - j = 3 - j % 4 by omega]
 ·rw [if_neg c]
  by_cases c2 : j < 4 * k
  ·rw [if_pos c2, if_pos (by omega)]
  ·rw [if_neg c2, if_neg (by omega)]
theorem oneCells (l : List Nat) : (l.map fun x => Value.int .u8 (x : Nat)).toArray.all (·.oneCell') = true := by
 simp; intros; rfl
theorem index8 (x0 x1 x2 x3 x4 x5 x6 x7 : Value) (w : World) (k : Nat) (hk : k < 8) :
  (Instr.index 191 (.agg #[x0, x1, x2, x3, x4, x5, x6, x7]) (.int .i64 (k : Int))).run Tryz.prog w = .ok ([x0, x1, x2, x3, x4, x5, x6, x7].getD k undef) w := by
 have h : k = 0 ∨ k = 1 ∨ k = 2 ∨ k = 3 ∨ k = 4 ∨ k = 5 ∨ k = 6 ∨ k = 7 := by omega
 rcases h with rfl | rfl | rfl | rfl | rfl | rfl | rfl | rfl <;> (show _ = _; kernel_rfl)
theorem slice4 (g t : Nat) (w : World) (ht : t < 8) : (Instr.sliceAt 25 (.pointer (some ⟨g, 0, none⟩)) (some (.int .i64 (4 * (t : Int)))) (some (.int .i64 (4 * (t : Int) + 4))) none).run Tryz.prog w = .ok (.slice (some ⟨g, 4 * t, none⟩) 4 (32 - 4 * t)) w := by
 have h : t = 0 ∨ t = 1 ∨ t = 2 ∨ t = 3 ∨ t = 4 ∨ t = 5 ∨ t = 6 ∨ t = 7 := by omega
 rcases h with rfl | rfl | rfl | rfl | rfl | rfl | rfl | rfl <;> (show _ = _; kernel_rfl)
theorem get8 (F : Nat → Nat) (k : Nat) (hk : k < 8) : [Value.int .u32 (F 0 : Nat), .int .u32 (F 1 : Nat), .int .u32 (F 2 : Nat), .int .u32 (F 3 : Nat), .int .u32 (F 4 : Nat), .int .u32 (F 5 : Nat), .int .u32 (F 6 : Nat), .int .u32 (F 7 : Nat)].getD k undef = .int .u32 (F k : Nat) := by
 match k, hk with
 | 0, _ => rfl
 | 1, _ => rfl
 | 2, _ => rfl
 | 3, _ => rfl
 | 4, _ => rfl
 | 5, _ => rfl
 | 6, _ => rfl
 | 7, _ => rfl
theorem rowIs_arr {w : World} {g t n : Nat} {f : Nat → Value} (h : w.rowIs g t n f) : w.heap[g]? = some (.cells ((List.range n).map f).toArray t (0, 0)) := by
 obtain ⟨c, hb, hn, hc⟩ := h
 have : c = ((List.range n).map f).toArray := by
  apply Array.ext_getElem?
  intro i
  by_cases hi : i < n
  ·rw [hc i hi]; simp [hi]
  ·rw [Array.getElem?_eq_none (by omega), Array.getElem?_eq_none (by simp; omega)]
 rw [hb, this]
theorem sha_arr (l : List Nat) : ((List.range 32).map (outF (fin l) 8)).toArray = ((sha l).map fun x => Value.int .u8 (x : Nat)).toArray := by
 unfold sha
 rw [List.map_map]
 congr 1
set_option maxRecDepth 100000 in
theorem dsum_any (A : Option Addr) (n c : Nat) (l : List Nat) (w : World) (hn : Hid (l.length = n)) (hc : n ≤ c) (hsz : n ≤ 4294967296) (hb : Hid (Bytes l)) (hT : Hid (Tabs w)) (hR : Hid (Rd w w.heap.size A l)) :
  Calls Tryz.prog 133 #[.slice A n c] w fun e w' => e = .returned (dgV (sha l)) ∧ Below w.heap.size w w' := by
 have s0 := hT.out.2.2.1 0 (by omega)
 have s1 := hT.out.2.2.1 1 (by omega)
 have s2 := hT.out.2.2.1 2 (by omega)
 have s3 := hT.out.2.2.1 3 (by omega)
 have s4 := hT.out.2.2.1 4 (by omega)
 have s5 := hT.out.2.2.1 5 (by omega)
 have s6 := hT.out.2.2.1 6 (by omega)
 have s7 := hT.out.2.2.1 7 (by omega)
 have t1 := hT.out.1
 have t2 := hT.out.2.1
 go_enter Tryz.func133, Tryz.ntmps133
 go_wp2_with fail
 clear s0 s1 s2 s3 s4 s5 s6 s7
 go_loopw [5] (fun v wr => ∃ (k r c' : Nat) (A' : Option Addr), Hid (n = 64 * k + r) ∧ r ≤ c' ∧ r ≤ n ∧ v = .slice A' r c' ∧ Hid (Rd wr w.heap.size A' (l.drop (64 * k))) ∧ Hid (wr.rowIs w.heap.size 25 32 zeroF) ∧ Hid (wr.rowIs (w.heap.size + 1) 191 8 (stF (blocks k hf l))) ∧ Hid (Below w.heap.size w wr)) (fun v _ => lenOf v)
 case atStart =>
  have hb0 := ((Below.refl w.heap.size w).alloc (Nat.le_refl _) (.cells (Array.replicate 32 (.int .u8 0)) 25)).alloc (by simp) (.cells #[.int .u32 (hf 0 : Nat), .int .u32 (hf 1 : Nat), .int .u32 (hf 2 : Nat), .int .u32 (hf 3 : Nat), .int .u32 (hf 4 : Nat), .int .u32 (hf 5 : Nat), .int .u32 (hf 6 : Nat), .int .u32 (hf 7 : Nat)] 191)
  refine ⟨0, n, c, A, hid (by omega), hc, Nat.le_refl _, rfl, hid ?_, hid ?_, hid ?_, hid hb0⟩
  ·exact Rd.below (by simpa using hR.out) hb0 (Nat.le_refl _)
  ·refine World.rowIs.alloc (World.rowIs_alloc w _ _ _ (fun i hi => ?_)) _
   have : ∀ j : Fin 32, (Array.replicate 32 (Value.int .u8 0))[j.val]? = some (zeroF j.val) := fun j => by simp [zeroF]
   exact this ⟨i, hi⟩
  ·have := World.rowIs_alloc (w.alloc (.cells (Array.replicate 32 (.int .u8 0)) 25)) #[.int .u32 (hf 0 : Nat), .int .u32 (hf 1 : Nat), .int .u32 (hf 2 : Nat), .int .u32 (hf 3 : Nat), .int .u32 (hf 4 : Nat), .int .u32 (hf 5 : Nat), .int .u32 (hf 6 : Nat), .int .u32 (hf 7 : Nat)] 191 (stF (blocks 0 hf l)) (fun i hi => by
    have hi' : i < 8 := hi
    match i, hi' with
    | 0, _ => rfl
    | 1, _ => rfl
    | 2, _ => rfl
    | 3, _ => rfl
    | 4, _ => rfl
    | 5, _ => rfl
    | 6, _ => rfl
    | 7, _ => rfl)
   simp only [World.size_alloc] at this
   exact this
 case round =>
  obtain ⟨k, r, c', A', hnr, hrc, hrn, rfl, hRd, hD, hS, hB⟩ := hrel
  have hT' : Hid (Tabs wr) := hid (hT.out.below hB.out)
  by_cases h64 : 64 ≤ r
  ·obtain ⟨g, off, rfl, hg, hBy⟩ := hRd.out (by rw [List.length_drop]; have := hnr.out; have := hn.out; omega)
   have HBy := hid hBy
   clear hBy
   have hSl := hS.out.lt
   have HL : Hid (((l.drop (64 * k)).take 64).length = 64) := hid (by rw [List.length_take, List.length_drop]; have := hnr.out; have := hn.out; omega)
   by_cases hc64 : c' = 64
   ·obtain rfl : r = 64 := by omega
    subst hc64
    go_wp2_with fail
    refine (absorb_any (w.heap.size + 1) 191 g off 64 (blocks k hf l) ((l.drop (64 * k)).take 64) _ HL (hid (bytes_take (bytes_drop hb.out _) _)) (hid (blocks_words _ _ hf_words)) (by omega) hS (by omega) (by omega) hT'.out.2.1 (by omega) (hid hT'.out.2.2.2) (hid (HBy.out.take 64))).mono ?_
    rintro e w1 ⟨⟨v, rfl⟩, hs1, ho1⟩
    have HS1 := hid hs1
    have HO1 := hid ho1
    clear hs1 ho1
    go_wp2_with fail
    go_roundw
    case rel =>
     refine ⟨k + 1, 0, 0, _, hid (by have := hnr.out; omega), by omega, by omega, rfl, hid ?_, hid (rowIs_only hD.out HO1.out (by omega)), hid ?_, hid (below_of_only hB.out HO1.out hB.out.size (by omega))⟩
     ·intro hl; rw [List.length_drop] at hl; have := hnr.out; have := hn.out; omega
     ·rw [blocks_snoc]; exact HS1.out
    case measure => simp [lenOf]
   ·have c64 : (c' == 64) = false := by simpa using hc64
    go_wp2_with fail
    refine (absorb_any (w.heap.size + 1) 191 g off c' (blocks k hf l) ((l.drop (64 * k)).take 64) _ HL (hid (bytes_take (bytes_drop hb.out _) _)) (hid (blocks_words _ _ hf_words)) (by omega) hS (by omega) (by omega) hT'.out.2.1 (by omega) (hid hT'.out.2.2.2) (hid (HBy.out.take 64))).mono ?_
    rintro e w1 ⟨⟨v, rfl⟩, hs1, ho1⟩
    have HS1 := hid hs1
    have HO1 := hid ho1
    clear hs1 ho1
    go_wp2_with fail
    go_roundw
    case rel =>
     refine ⟨k + 1, r - 64, c' - 64, _, hid (by have := hnr.out; omega), by omega, by omega, rfl, hid ?_, hid (rowIs_only hD.out HO1.out (by omega)), hid ?_, hid (below_of_only hB.out HO1.out hB.out.size (by omega))⟩
     ·have := (Rd.cut hg HBy.out 64).only HO1.out hB.out.size (by omega)
      rw [List.drop_drop] at this
      exact this
     ·rw [blocks_snoc]; exact HS1.out
    case measure => simp [lenOf]; omega
  ·have d64 : decide ((64 : Int) ≤ (r : Int)) = false := dQ (by omega)
   have hmk : (Instr.makeSlice 143 (.int .i64 64) (.int .i64 128)).run Tryz.prog wr = .ok (.slice (some ⟨wr.heap.size, 0, none⟩) 64 128) (wr.alloc (.cells (madeCells #[.int .u8 0] 128) 5)) := make_bytes 64 128 (by omega) (by omega) wr
   have HM := hid (World.rowIs_made wr (.int .u8 0) 128 5)
   have hRr : Hid (0 < r → ∃ ad, A' = some ad ∧ ∀ j, j < r → (wr.alloc (.cells (madeCells #[.int .u8 0] 128) 5)).cell? (ad.add j) = some (.int .u8 ((l.drop (64 * k)).getD j 0 : Nat))) := hid fun h0 => by
    have hlen : (l.drop (64 * k)).length = r := by rw [List.length_drop]; have := hnr.out; have := hn.out; omega
    obtain ⟨g, off, e, hg, hBy⟩ := hRd.out (by omega)
    refine ⟨_, e, fun j hj => ?_⟩
    rw [add_row]
    refine Eq.trans (World.cell?_alloc_lt wr _ _ (Nat.lt_of_lt_of_le hg hB.out.size)) (hBy j (by omega))
   have hm : r = Nat.min r 64 := by show r = min r 64; omega
   have HMm := hid hm
   clear hm
   obtain ⟨N8, H8, e8⟩ : ∃ N8 : Nat, Hid (N8 = 8 * n) ∧ (n : Int) * 8 = (N8 : Int) := ⟨8 * n, hid rfl, by omega⟩
   have hN8 : N8 ≤ 34359738368 := by have := H8.out; omega
   by_cases h55 : 55 < r
   ·have d55 : decide ((55 : Int) < (r : Int)) = true := eQ (by omega)
    have HLL : Hid (128 = if r > 55 then 128 else 64) := hid (by rw [if_pos h55])
    clear h55
    go_wp2_with ((with_reducible refine wpList_copy_rowIs rfl (.tmp 22) (.tmp 23) 143 143 rfl 5 Tryz.underlying143 (by kernel_rfl) wr.heap.size 0 64 128 A' r c' rfl rfl 5 128 _ HM r HMm.out (fun j => .int .u8 ((l.drop (64 * k)).getD j 0 : Nat)) hRr.out (by omega) (fun _ _ => rfl) ?_); intro w2 hv2 ho2; have hcr := hv2.out.cell (i := r) (by omega); have hfr := hv2.out.frozen r)
    refine (put_any wr.heap.size 120 8 8 N8 5 128 _ _ (by omega) (by omega) (by omega) (by omega) (hid (hv2.out.set r (.int .u8 128)))).mono ?_
    rintro e w3 ⟨⟨v, rfl⟩, hs3, ho3⟩
    have HE : Hid (∀ j, j < 128 → w3.cell? ⟨wr.heap.size, j, none⟩ = some (lastF l j)) := hid fun j hj => by
     rw [hs3.cell (i := j) (by omega), last_cells l k r 128 N8 (by rw [hn.out]; exact hnr.out) (by omega) HLL.out (by rw [hn.out]; exact H8.out) j hj]
    have hlt3 : wr.heap.size < w3.heap.size := hs3.lt
    have ho13 : (wr.alloc (.cells (madeCells #[.int .u8 0] 128) 5)).grownBy w3 (some wr.heap.size) := only_trans (only_setCell ho2.out (.inl rfl) _) ho3
    have hD3 : Hid (w3.rowIs w.heap.size 25 32 zeroF) := hid (rowIs_only (hD.out.alloc _) ho13 (by have := hD.out.lt; omega))
    have hS3 : Hid (w3.rowIs (w.heap.size + 1) 191 8 (stF (blocks k hf l))) := hid (rowIs_only (hS.out.alloc _) ho13 (by have := hS.out.lt; omega))
    have hB3 : Hid (Below w.heap.size w w3) := hid (below_of_only (hB.out.alloc hB.out.size _) ho13 (by simp; have := hB.out.size; omega) hB.out.size)
    have hSl := hS.out.lt
    clear hs3 ho3 ho13 hcr hfr hv2 ho2 hmk HM hRr HMm hRd hD hS hB
    go_wp2_with fail
    go_loopw [6] (fun v wq => ∃ (m r2 c2 off : Nat), Hid (128 = 64 * m + r2) ∧ Hid (0 < r2 → off = 64 * m) ∧ r2 ≤ c2 ∧ r2 ≤ 128 ∧ (64 ≤ r2 ∨ r2 = 0) ∧ v = .slice (some ⟨wr.heap.size, off, none⟩) r2 c2 ∧ Hid (∀ j, j < 128 → wq.cell? ⟨wr.heap.size, j, none⟩ = some (lastF l j)) ∧ wr.heap.size < wq.heap.size ∧ Hid (wq.rowIs w.heap.size 25 32 zeroF) ∧ Hid (wq.rowIs (w.heap.size + 1) 191 8 (stF (blocks m (blocks k hf l) (last l)))) ∧ Hid (Below w.heap.size w wq)) (fun v _ => lenOf v)
    case atStart => exact ⟨0, 128, 128, 0, hid (by omega), hid (fun _ => rfl), by omega, by omega, .inl (by omega), rfl, HE, hlt3, hD3, hS3, hB3⟩
    case round =>
     clear HE hlt3 hD3 hS3 hB3 hT'
     rename World => wq
     obtain ⟨m, r2, c2, off, hLm, hoff, hrc2, hrL, hr2, rfl, HE, hlt3, hD3, hS3, hB3⟩ := hrel
     have hT' : Hid (Tabs wq) := hid (hT.out.below hB3.out)
     rcases hr2 with h64' | rfl
     ·obtain rfl : off = 64 * m := hoff.out (by omega)
      have hll : Hid ((last l).length = 128) := hid (last_len l k r 128 (by rw [hn.out]; exact hnr.out) (by omega) HLL.out)
      have HL : Hid ((((last l).drop (64 * m)).take 64).length = 64) := hid (by rw [List.length_take, List.length_drop, hll.out]; have := hLm.out; omega)
      have HBy : Hid (BytesAt wq wr.heap.size (64 * m) (((last l).drop (64 * m)).take 64)) := hid fun i hi => by
       rw [HL.out] at hi
       rw [HE.out (64 * m + i) (by have := hLm.out; omega), lastF, List.getD_eq_getElem?_getD, List.getD_eq_getElem?_getD, List.getElem?_take_of_lt hi, List.getElem?_drop]
      by_cases hc64 : c2 = 64
      ·subst hc64
       obtain rfl : r2 = 64 := by omega
       go_wp2_with fail
       refine (absorb_any (w.heap.size + 1) 191 wr.heap.size (64 * m) 64 _ (((last l).drop (64 * m)).take 64) _ HL (hid (bytes_take (bytes_drop (last_bytes hb.out) _) _)) (hid (blocks_words _ _ (blocks_words _ _ hf_words))) (by omega) hS3 (by omega) (by omega) hT'.out.2.1 (by omega) (hid hT'.out.2.2.2) HBy).mono ?_
       rintro e w4 ⟨⟨v, rfl⟩, hs4, ho4⟩
       have HS4 := hid hs4
       have HO4 := hid ho4
       clear hs4 ho4
       go_wp2_with fail
       go_roundw
       case rel =>
        refine ⟨m + 1, 0, 0, _, hid (by have := hLm.out; omega), hid (fun h => absurd h (by omega)), by omega, by omega, .inr rfl, rfl, hid (fun j hj => (cell_only (p := ⟨wr.heap.size, j, none⟩) HO4.out hlt3 (by show wr.heap.size ≠ w.heap.size + 1; omega)).trans (HE.out j hj)), Nat.lt_of_lt_of_le hlt3 HO4.out.size, hid (rowIs_only hD3.out HO4.out (by omega)), hid (by rw [blocks_snoc]; exact HS4.out), hid (below_of_only hB3.out HO4.out hB3.out.size (by omega))⟩
       case measure => simp [lenOf]
      ·have c64 : (c2 == 64) = false := by simpa using hc64
       go_wp2_with fail
       refine (absorb_any (w.heap.size + 1) 191 wr.heap.size (64 * m) c2 _ (((last l).drop (64 * m)).take 64) _ HL (hid (bytes_take (bytes_drop (last_bytes hb.out) _) _)) (hid (blocks_words _ _ (blocks_words _ _ hf_words))) (by omega) hS3 (by omega) (by omega) hT'.out.2.1 (by omega) (hid hT'.out.2.2.2) HBy).mono ?_
       rintro e w4 ⟨⟨v, rfl⟩, hs4, ho4⟩
       have HS4 := hid hs4
       have HO4 := hid ho4
       clear hs4 ho4
       go_wp2_with fail
       go_roundw
       case rel =>
        refine ⟨m + 1, r2 - 64, c2 - 64, _, hid (by have := hLm.out; omega), hid (fun h => by omega), by omega, by omega, by have := hLm.out; omega, rfl, hid (fun j hj => (cell_only (p := ⟨wr.heap.size, j, none⟩) HO4.out hlt3 (by show wr.heap.size ≠ w.heap.size + 1; omega)).trans (HE.out j hj)), Nat.lt_of_lt_of_le hlt3 HO4.out.size, hid (rowIs_only hD3.out HO4.out (by omega)), hid (by rw [blocks_snoc]; exact HS4.out), hid (below_of_only hB3.out HO4.out hB3.out.size (by omega))⟩
       case measure => simp [lenOf]; omega
     ·have hfin : Hid (blocks m (blocks k hf l) (last l) = fin l) := hid (by
       rw [fin_eq, last_len l k r 128 (by rw [hn.out]; exact hnr.out) (by omega) HLL.out, hn.out, show n / 64 = k by have := hnr.out; omega, show 128 / 64 = m by have := hLm.out; omega])
      have hS4 : Hid (wq.rowIs (w.heap.size + 1) 191 8 (stF (fin l))) := hid (by rw [← hfin.out]; exact hS3.out)
      have e0 : wq.cell? ⟨w.heap.size + 1, 0, none⟩ = some (.int .u32 (fin l 0 : Nat)) := hS4.out.cell (by omega)
      have e1 : wq.cell? ⟨w.heap.size + 1, 1, none⟩ = some (.int .u32 (fin l 1 : Nat)) := hS4.out.cell (by omega)
      have e2 : wq.cell? ⟨w.heap.size + 1, 2, none⟩ = some (.int .u32 (fin l 2 : Nat)) := hS4.out.cell (by omega)
      have e3 : wq.cell? ⟨w.heap.size + 1, 3, none⟩ = some (.int .u32 (fin l 3 : Nat)) := hS4.out.cell (by omega)
      have e4 : wq.cell? ⟨w.heap.size + 1, 4, none⟩ = some (.int .u32 (fin l 4 : Nat)) := hS4.out.cell (by omega)
      have e5 : wq.cell? ⟨w.heap.size + 1, 5, none⟩ = some (.int .u32 (fin l 5 : Nat)) := hS4.out.cell (by omega)
      have e6 : wq.cell? ⟨w.heap.size + 1, 6, none⟩ = some (.int .u32 (fin l 6 : Nat)) := hS4.out.cell (by omega)
      have e7 : wq.cell? ⟨w.heap.size + 1, 7, none⟩ = some (.int .u32 (fin l 7 : Nat)) := hS4.out.cell (by omega)
      go_wp2_with fail
      clear e0 e1 e2 e3 e4 e5 e6 e7
      go_loopw [54] (fun i wz => ∃ t : Nat, t ≤ 8 ∧ i = .int .i64 t ∧ Hid (wz.rowIs w.heap.size 25 32 (outF (fin l) t)) ∧ Hid (Below w.heap.size w wz)) (fun i _ => 8 - (intOf i).toNat)
      case atStart => exact ⟨0, by omega, rfl, hid (hD3.out.congr fun j hj => by unfold zeroF outF; rw [if_neg (by omega)]; rfl), hB3⟩
      case round =>
       clear hS4 hS3 hD3 hB3 HE hT' hlt3
       rename World => wz
       obtain ⟨t, ht, rfl, hD3, hB3⟩ := hrel
       by_cases hlt : t < 8
       ·have hidx := index8 (.int .u32 (fin l 0 : Nat)) (.int .u32 (fin l 1 : Nat)) (.int .u32 (fin l 2 : Nat)) (.int .u32 (fin l 3 : Nat)) (.int .u32 (fin l 4 : Nat)) (.int .u32 (fin l 5 : Nat)) (.int .u32 (fin l 6 : Nat)) (.int .u32 (fin l 7 : Nat)) wz t hlt
        rw [get8 (fin l) t hlt] at hidx
        have hF := fin_words l t hlt
        have hsl := slice4 w.heap.size t wz hlt
        go_wp2_with fail
        refine (put_any w.heap.size (4 * t) 4 (32 - 4 * t) (fin l t) 25 32 _ _ (by omega) (by omega) (by omega) (by omega) hD3).mono ?_
        rintro e w5 ⟨⟨v, rfl⟩, hs5, ho5⟩
        rw [outF_put] at hs5
        have HS5 := hid hs5
        have HO5 := hid ho5
        clear hs5 ho5 hidx hsl
        go_wp2_with fail
        go_roundw
        case rel => exact ⟨t + 1, by omega, by go_num, HS5, hid (below_of_only hB3.out HO5.out hB3.out.size (Nat.le_refl _))⟩
        case measure => simp [intOf]; omega
       ·have hD8 : Hid (wz.heap[w.heap.size]? = some (.cells ((sha l).map fun x => Value.int .u8 (x : Nat)).toArray 25 (0, 0))) := hid (by
         have := rowIs_arr hD3.out
         rw [show t = 8 by omega, sha_arr] at this
         exact this)
        have dt : decide ((t : Int) < 8) = false := dQ (by omega)
        have hsz32 : (Tryz.prog.info? 25).map (·.size) = some ((sha l).map fun x => Value.int .u8 (x : Nat)).toArray.size := by
         have : ((sha l).map fun x => Value.int .u8 (x : Nat)).toArray.size = 32 := by simp [sha_length]
         rw [this]; show _ = _; kernel_rfl
        have HZ := hid hsz32
        clear hsz32
        go_wp2_with (first | ((with_reducible refine wpList_load_row rfl 25 (.tmp 2) rfl w.heap.size rfl 25 _ (0, 0) _ hD8.out Tryz.underlying25 rfl HZ.out ?_)) | ((with_reducible refine wpList_store_row rfl 25 (.tmp 2) (.tmp 68) rfl w.heap.size _ rfl rfl 25 _ hD8.out HZ.out rfl ?_ ?_)))
        all_goals first
         | exact oneCells _
         | (have hB' : Below w.heap.size w (wz.setRow w.heap.size ((sha l).map fun x => Value.int .u8 (x : Nat)).toArray) := below_setRow hB3.out (Nat.le_refl _) _
            refine bodyPost_ret (results_cell_row rfl _ _ w.heap.size 25 _ (0, 0) _ rfl (setRow_heap wz w.heap.size _ _ _ _ hD8.out) Tryz.underlying25 rfl HZ.out) rfl ?_
            exact ⟨rfl, hB'⟩)
   ·have d55 : decide ((55 : Int) < (r : Int)) = false := dQ (by omega)
    have HLL : Hid (64 = if r > 55 then 128 else 64) := hid (by rw [if_neg h55])
    clear h55
    go_wp2_with ((with_reducible refine wpList_copy_rowIs rfl (.tmp 22) (.tmp 23) 143 143 rfl 5 Tryz.underlying143 (by kernel_rfl) wr.heap.size 0 64 128 A' r c' rfl rfl 5 128 _ HM r HMm.out (fun j => .int .u8 ((l.drop (64 * k)).getD j 0 : Nat)) hRr.out (by omega) (fun _ _ => rfl) ?_); intro w2 hv2 ho2; have hcr := hv2.out.cell (i := r) (by omega); have hfr := hv2.out.frozen r)
    refine (put_any wr.heap.size 56 8 72 N8 5 128 _ _ (by omega) (by omega) (by omega) (by omega) (hid (hv2.out.set r (.int .u8 128)))).mono ?_
    rintro e w3 ⟨⟨v, rfl⟩, hs3, ho3⟩
    have HE : Hid (∀ j, j < 64 → w3.cell? ⟨wr.heap.size, j, none⟩ = some (lastF l j)) := hid fun j hj => by
     rw [hs3.cell (i := j) (by omega), last_cells l k r 64 N8 (by rw [hn.out]; exact hnr.out) (by omega) HLL.out (by rw [hn.out]; exact H8.out) j hj]
    have hlt3 : wr.heap.size < w3.heap.size := hs3.lt
    have ho13 : (wr.alloc (.cells (madeCells #[.int .u8 0] 128) 5)).grownBy w3 (some wr.heap.size) := only_trans (only_setCell ho2.out (.inl rfl) _) ho3
    have hD3 : Hid (w3.rowIs w.heap.size 25 32 zeroF) := hid (rowIs_only (hD.out.alloc _) ho13 (by have := hD.out.lt; omega))
    have hS3 : Hid (w3.rowIs (w.heap.size + 1) 191 8 (stF (blocks k hf l))) := hid (rowIs_only (hS.out.alloc _) ho13 (by have := hS.out.lt; omega))
    have hB3 : Hid (Below w.heap.size w w3) := hid (below_of_only (hB.out.alloc hB.out.size _) ho13 (by simp; have := hB.out.size; omega) hB.out.size)
    have hSl := hS.out.lt
    clear hs3 ho3 ho13 hcr hfr hv2 ho2 hmk HM hRr HMm hRd hD hS hB
    go_wp2_with fail
    go_loopw [6] (fun v wq => ∃ (m r2 c2 off : Nat), Hid (64 = 64 * m + r2) ∧ Hid (0 < r2 → off = 64 * m) ∧ r2 ≤ c2 ∧ r2 ≤ 64 ∧ (64 ≤ r2 ∨ r2 = 0) ∧ v = .slice (some ⟨wr.heap.size, off, none⟩) r2 c2 ∧ Hid (∀ j, j < 64 → wq.cell? ⟨wr.heap.size, j, none⟩ = some (lastF l j)) ∧ wr.heap.size < wq.heap.size ∧ Hid (wq.rowIs w.heap.size 25 32 zeroF) ∧ Hid (wq.rowIs (w.heap.size + 1) 191 8 (stF (blocks m (blocks k hf l) (last l)))) ∧ Hid (Below w.heap.size w wq)) (fun v _ => lenOf v)
    case atStart => exact ⟨0, 64, 128, 0, hid (by omega), hid (fun _ => rfl), by omega, by omega, .inl (by omega), rfl, HE, hlt3, hD3, hS3, hB3⟩
    case round =>
     clear HE hlt3 hD3 hS3 hB3 hT'
     rename World => wq
     obtain ⟨m, r2, c2, off, hLm, hoff, hrc2, hrL, hr2, rfl, HE, hlt3, hD3, hS3, hB3⟩ := hrel
     have hT' : Hid (Tabs wq) := hid (hT.out.below hB3.out)
     rcases hr2 with h64' | rfl
     ·obtain rfl : off = 64 * m := hoff.out (by omega)
      have hll : Hid ((last l).length = 64) := hid (last_len l k r 64 (by rw [hn.out]; exact hnr.out) (by omega) HLL.out)
      have HL : Hid ((((last l).drop (64 * m)).take 64).length = 64) := hid (by rw [List.length_take, List.length_drop, hll.out]; have := hLm.out; omega)
      have HBy : Hid (BytesAt wq wr.heap.size (64 * m) (((last l).drop (64 * m)).take 64)) := hid fun i hi => by
       rw [HL.out] at hi
       rw [HE.out (64 * m + i) (by have := hLm.out; omega), lastF, List.getD_eq_getElem?_getD, List.getD_eq_getElem?_getD, List.getElem?_take_of_lt hi, List.getElem?_drop]
      by_cases hc64 : c2 = 64
      ·subst hc64
       obtain rfl : r2 = 64 := by omega
       go_wp2_with fail
       refine (absorb_any (w.heap.size + 1) 191 wr.heap.size (64 * m) 64 _ (((last l).drop (64 * m)).take 64) _ HL (hid (bytes_take (bytes_drop (last_bytes hb.out) _) _)) (hid (blocks_words _ _ (blocks_words _ _ hf_words))) (by omega) hS3 (by omega) (by omega) hT'.out.2.1 (by omega) (hid hT'.out.2.2.2) HBy).mono ?_
       rintro e w4 ⟨⟨v, rfl⟩, hs4, ho4⟩
       have HS4 := hid hs4
       have HO4 := hid ho4
       clear hs4 ho4
       go_wp2_with fail
       go_roundw
       case rel =>
        refine ⟨m + 1, 0, 0, _, hid (by have := hLm.out; omega), hid (fun h => absurd h (by omega)), by omega, by omega, .inr rfl, rfl, hid (fun j hj => (cell_only (p := ⟨wr.heap.size, j, none⟩) HO4.out hlt3 (by show wr.heap.size ≠ w.heap.size + 1; omega)).trans (HE.out j hj)), Nat.lt_of_lt_of_le hlt3 HO4.out.size, hid (rowIs_only hD3.out HO4.out (by omega)), hid (by rw [blocks_snoc]; exact HS4.out), hid (below_of_only hB3.out HO4.out hB3.out.size (by omega))⟩
       case measure => simp [lenOf]
      ·have c64 : (c2 == 64) = false := by simpa using hc64
       obtain rfl : r2 = 64 := by omega
       go_wp2_with fail
       refine (absorb_any (w.heap.size + 1) 191 wr.heap.size (64 * m) c2 _ (((last l).drop (64 * m)).take 64) _ HL (hid (bytes_take (bytes_drop (last_bytes hb.out) _) _)) (hid (blocks_words _ _ (blocks_words _ _ hf_words))) (by omega) hS3 (by omega) (by omega) hT'.out.2.1 (by omega) (hid hT'.out.2.2.2) HBy).mono ?_
       rintro e w4 ⟨⟨v, rfl⟩, hs4, ho4⟩
       have HS4 := hid hs4
       have HO4 := hid ho4
       clear hs4 ho4
       go_wp2_with fail
       go_roundw
       case rel =>
        refine ⟨m + 1, 0, c2 - 64, _, hid (by have := hLm.out; omega), hid (fun h => by omega), by omega, by omega, (.inr rfl), rfl, hid (fun j hj => (cell_only (p := ⟨wr.heap.size, j, none⟩) HO4.out hlt3 (by show wr.heap.size ≠ w.heap.size + 1; omega)).trans (HE.out j hj)), Nat.lt_of_lt_of_le hlt3 HO4.out.size, hid (rowIs_only hD3.out HO4.out (by omega)), hid (by rw [blocks_snoc]; exact HS4.out), hid (below_of_only hB3.out HO4.out hB3.out.size (by omega))⟩
       case measure => simp [lenOf]
     ·have hfin : Hid (blocks m (blocks k hf l) (last l) = fin l) := hid (by
       rw [fin_eq, last_len l k r 64 (by rw [hn.out]; exact hnr.out) (by omega) HLL.out, hn.out, show n / 64 = k by have := hnr.out; omega, show 64 / 64 = m by have := hLm.out; omega])
      have hS4 : Hid (wq.rowIs (w.heap.size + 1) 191 8 (stF (fin l))) := hid (by rw [← hfin.out]; exact hS3.out)
      have e0 : wq.cell? ⟨w.heap.size + 1, 0, none⟩ = some (.int .u32 (fin l 0 : Nat)) := hS4.out.cell (by omega)
      have e1 : wq.cell? ⟨w.heap.size + 1, 1, none⟩ = some (.int .u32 (fin l 1 : Nat)) := hS4.out.cell (by omega)
      have e2 : wq.cell? ⟨w.heap.size + 1, 2, none⟩ = some (.int .u32 (fin l 2 : Nat)) := hS4.out.cell (by omega)
      have e3 : wq.cell? ⟨w.heap.size + 1, 3, none⟩ = some (.int .u32 (fin l 3 : Nat)) := hS4.out.cell (by omega)
      have e4 : wq.cell? ⟨w.heap.size + 1, 4, none⟩ = some (.int .u32 (fin l 4 : Nat)) := hS4.out.cell (by omega)
      have e5 : wq.cell? ⟨w.heap.size + 1, 5, none⟩ = some (.int .u32 (fin l 5 : Nat)) := hS4.out.cell (by omega)
      have e6 : wq.cell? ⟨w.heap.size + 1, 6, none⟩ = some (.int .u32 (fin l 6 : Nat)) := hS4.out.cell (by omega)
      have e7 : wq.cell? ⟨w.heap.size + 1, 7, none⟩ = some (.int .u32 (fin l 7 : Nat)) := hS4.out.cell (by omega)
      go_wp2_with fail
      clear e0 e1 e2 e3 e4 e5 e6 e7
      go_loopw [54] (fun i wz => ∃ t : Nat, t ≤ 8 ∧ i = .int .i64 t ∧ Hid (wz.rowIs w.heap.size 25 32 (outF (fin l) t)) ∧ Hid (Below w.heap.size w wz)) (fun i _ => 8 - (intOf i).toNat)
      case atStart => exact ⟨0, by omega, rfl, hid (hD3.out.congr fun j hj => by unfold zeroF outF; rw [if_neg (by omega)]; rfl), hB3⟩
      case round =>
       clear hS4 hS3 hD3 hB3 HE hT' hlt3
       rename World => wz
       obtain ⟨t, ht, rfl, hD3, hB3⟩ := hrel
       by_cases hlt : t < 8
       ·have hidx := index8 (.int .u32 (fin l 0 : Nat)) (.int .u32 (fin l 1 : Nat)) (.int .u32 (fin l 2 : Nat)) (.int .u32 (fin l 3 : Nat)) (.int .u32 (fin l 4 : Nat)) (.int .u32 (fin l 5 : Nat)) (.int .u32 (fin l 6 : Nat)) (.int .u32 (fin l 7 : Nat)) wz t hlt
        rw [get8 (fin l) t hlt] at hidx
        have hF := fin_words l t hlt
        have hsl := slice4 w.heap.size t wz hlt
        go_wp2_with fail
        refine (put_any w.heap.size (4 * t) 4 (32 - 4 * t) (fin l t) 25 32 _ _ (by omega) (by omega) (by omega) (by omega) hD3).mono ?_
        rintro e w5 ⟨⟨v, rfl⟩, hs5, ho5⟩
        rw [outF_put] at hs5
        have HS5 := hid hs5
        have HO5 := hid ho5
        clear hs5 ho5 hidx hsl
        go_wp2_with fail
        go_roundw
        case rel => exact ⟨t + 1, by omega, by go_num, HS5, hid (below_of_only hB3.out HO5.out hB3.out.size (Nat.le_refl _))⟩
        case measure => simp [intOf]; omega
       ·have hD8 : Hid (wz.heap[w.heap.size]? = some (.cells ((sha l).map fun x => Value.int .u8 (x : Nat)).toArray 25 (0, 0))) := hid (by
         have := rowIs_arr hD3.out
         rw [show t = 8 by omega, sha_arr] at this
         exact this)
        have dt : decide ((t : Int) < 8) = false := dQ (by omega)
        have hsz32 : (Tryz.prog.info? 25).map (·.size) = some ((sha l).map fun x => Value.int .u8 (x : Nat)).toArray.size := by
         have : ((sha l).map fun x => Value.int .u8 (x : Nat)).toArray.size = 32 := by simp [sha_length]
         rw [this]; show _ = _; kernel_rfl
        have HZ := hid hsz32
        clear hsz32
        go_wp2_with (first | ((with_reducible refine wpList_load_row rfl 25 (.tmp 2) rfl w.heap.size rfl 25 _ (0, 0) _ hD8.out Tryz.underlying25 rfl HZ.out ?_)) | ((with_reducible refine wpList_store_row rfl 25 (.tmp 2) (.tmp 68) rfl w.heap.size _ rfl rfl 25 _ hD8.out HZ.out rfl ?_ ?_)))
        all_goals first
         | exact oneCells _
         | (have hB' : Below w.heap.size w (wz.setRow w.heap.size ((sha l).map fun x => Value.int .u8 (x : Nat)).toArray) := below_setRow hB3.out (Nat.le_refl _) _
            refine bodyPost_ret (results_cell_row rfl _ _ w.heap.size 25 _ (0, 0) _ rfl (setRow_heap wz w.heap.size _ _ _ _ hD8.out) Tryz.underlying25 rfl HZ.out) rfl ?_
            exact ⟨rfl, hB'⟩)
end Go.Proofs.YtmfmgeapecapiaaGreatDoor
