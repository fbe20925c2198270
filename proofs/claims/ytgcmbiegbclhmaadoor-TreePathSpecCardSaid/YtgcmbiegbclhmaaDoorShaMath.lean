/- SHA-256 on lists of numbers: the plain function, no program in sight. -/
import Derived.Lib.Hide
import Derived.Laws.BitsAllLaws
namespace Go.Proofs.SzSha
set_option linter.unusedVariables false
def ks : List Nat := [1116352408, 1899447441, 3049323471, 3921009573, 961987163, 1508970993, 2453635748, 2870763221, 3624381080, 310598401, 607225278, 1426881987, 1925078388, 2162078206, 2614888103, 3248222580, 3835390401, 4022224774, 264347078, 604807628, 770255983, 1249150122, 1555081692, 1996064986, 2554220882, 2821834349, 2952996808, 3210313671, 3336571891, 3584528711, 113926993, 338241895, 666307205, 773529912, 1294757372, 1396182291, 1695183700, 1986661051, 2177026350, 2456956037, 2730485921, 2820302411, 3259730800, 3345764771, 3516065817, 3600352804, 4094571909, 275423344, 430227734, 506948616, 659060556, 883997877, 958139571, 1322822218, 1537002063, 1747873779, 1955562222, 2024104815, 2227730452, 2361852424, 2428436474, 2756734187, 3204031479, 3329325298]
def hs : List Nat := [1779033703, 3144134277, 1013904242, 2773480762, 1359893119, 2600822924, 528734635, 1541459225]
def kf (t : Nat) : Nat := ks.getD t 0
def hf (i : Nat) : Nat := hs.getD i 0
theorem getD_out (l : List Nat) (i : Nat) (h : l.length ≤ i) : l.getD i 0 = 0 := by
  rw [List.getD_eq_getElem?_getD, List.getElem?_eq_none h]; rfl
theorem kf_lt (t : Nat) : kf t < 4294967296 := by
  unfold kf
  by_cases h : t < 64
  · have : ∀ i : Fin 64, ks.getD i.val 0 < 4294967296 := by decide +kernel
    exact this ⟨t, h⟩
  · rw [getD_out _ _ (show ks.length ≤ t by have : ks.length = 64 := rfl; omega)]; omega
theorem hf_lt (t : Nat) : hf t < 4294967296 := by
  unfold hf
  by_cases h : t < 8
  · have : ∀ i : Fin 8, hs.getD i.val 0 < 4294967296 := by decide +kernel
    exact this ⟨t, h⟩
  · rw [getD_out _ _ (show hs.length ≤ t by have : hs.length = 8 := rfl; omega)]; omega
/-- a sum of words -/
def add (a b : Nat) : Nat := (a + b) % 4294967296
theorem add_lt (a b : Nat) : add a b < 4294967296 := Nat.mod_lt _ (by decide)
/-- a rotation to the right -/
def ror (x n : Nat) : Nat := x / 2 ^ n ||| x * 2 ^ (32 - n) % 4294967296
theorem ror_lt (x n : Nat) (h : x < 4294967296) : ror x n < 4294967296 :=
  Nat.or_lt_two_pow (n := 32) (Nat.lt_of_le_of_lt (Nat.div_le_self _ _) h) (Nat.mod_lt _ (by decide))
theorem xor_lt {a b : Nat} (ha : a < 4294967296) (hb : b < 4294967296) : a ^^^ b < 4294967296 := Nat.xor_lt_two_pow (n := 32) ha hb
theorem and_lt {a b : Nat} (ha : a < 4294967296) : a &&& b < 4294967296 := Nat.lt_of_le_of_lt Nat.and_le_left ha
theorem or_lt {a b : Nat} (ha : a < 4294967296) (hb : b < 4294967296) : a ||| b < 4294967296 := Nat.or_lt_two_pow (n := 32) ha hb
theorem div_lt {a : Nat} (n : Nat) (ha : a < 4294967296) : a / n < 4294967296 := Nat.lt_of_le_of_lt (Nat.div_le_self _ _) ha
def rot3 (v a b c : Nat) : Nat := (ror v a ^^^ ror v b) ^^^ ror v c
theorem rot3_lt (v a b c : Nat) (h : v < 4294967296) : rot3 v a b c < 4294967296 := xor_lt (xor_lt (ror_lt _ _ h) (ror_lt _ _ h)) (ror_lt _ _ h)
def sg0 (x : Nat) : Nat := (ror x 7 ^^^ ror x 18) ^^^ (x / 8)
def sg1 (x : Nat) : Nat := (ror x 17 ^^^ ror x 19) ^^^ (x / 1024)
theorem sg0_lt (x : Nat) (h : x < 4294967296) : sg0 x < 4294967296 := xor_lt (xor_lt (ror_lt _ _ h) (ror_lt _ _ h)) (div_lt _ h)
theorem sg1_lt (x : Nat) (h : x < 4294967296) : sg1 x < 4294967296 := xor_lt (xor_lt (ror_lt _ _ h) (ror_lt _ _ h)) (div_lt _ h)
def ch (e f g : Nat) : Nat := g ^^^ (e &&& (f ^^^ g))
def maj (a b c : Nat) : Nat := (a &&& b) ||| (c &&& (a ||| b))
theorem ch_lt {e f g : Nat} (he : e < 4294967296) (hg : g < 4294967296) : ch e f g < 4294967296 := xor_lt hg (and_lt he)
theorem maj_lt {a b c : Nat} (ha : a < 4294967296) (hc : c < 4294967296) : maj a b c < 4294967296 := or_lt (and_lt ha) (and_lt hc)
theorem ch_eq {e f g : Nat} (he : e < 4294967296) (hf : f < 4294967296) (hg : g < 4294967296) : (e &&& f) ^^^ ((4294967295 - e) &&& g) = ch e f g := by
  apply Nat.eq_of_testBit_eq
  intro i
  have hn : (4294967295 - e).testBit i = (decide (i < 32) && !e.testBit i) := by
    have := Nat.testBit_two_pow_sub_succ (x := e) (n := 32) he i
    rw [show (2 : Nat) ^ 32 - (e + 1) = 4294967295 - e by omega] at this
    exact this
  simp only [ch, Nat.testBit_xor, Nat.testBit_and, hn]
  by_cases hi : i < 32
  · simp only [hi, decide_true, Bool.true_and]
    cases e.testBit i <;> cases f.testBit i <;> cases g.testBit i <;> rfl
  · have h2 : g.testBit i = false := Nat.testBit_lt_two_pow (Nat.lt_of_lt_of_le hg (Nat.pow_le_pow_right (n := 2) (i := 32) (j := i) (by omega) (by omega)))
    have h3 : f.testBit i = false := Nat.testBit_lt_two_pow (Nat.lt_of_lt_of_le hf (Nat.pow_le_pow_right (n := 2) (i := 32) (j := i) (by omega) (by omega)))
    simp [h2, h3]
theorem maj_eq (a b c : Nat) : ((a &&& b) ^^^ (a &&& c)) ^^^ (b &&& c) = maj a b c := by
  apply Nat.eq_of_testBit_eq
  intro i
  simp only [maj, Nat.testBit_xor, Nat.testBit_and, Nat.testBit_or]
  cases a.testBit i <;> cases b.testBit i <;> cases c.testBit i <;> rfl
/-- the word at a place of bytes -/
def word (b : List Nat) (t : Nat) : Nat := ((b.getD (4 * t) 0 * 256 + b.getD (4 * t + 1) 0) * 256 + b.getD (4 * t + 2) 0) * 256 + b.getD (4 * t + 3) 0
/-- all are bytes -/
def Bytes (b : List Nat) : Prop := ∀ x ∈ b, x < 256
theorem Bytes.getD {b : List Nat} (h : Bytes b) (i : Nat) : b.getD i 0 < 256 := by
  by_cases hi : i < b.length
  · rw [List.getD_eq_getElem?_getD, List.getElem?_eq_getElem hi]; exact h _ (List.getElem_mem hi)
  · rw [getD_out _ _ (by omega)]; omega
theorem word_lt {b : List Nat} (h : Bytes b) (t : Nat) : word b t < 4294967296 := by
  have h0 := h.getD (4 * t)
  have h1 := h.getD (4 * t + 1)
  have h2 := h.getD (4 * t + 2)
  have h3 := h.getD (4 * t + 3)
  unfold word; omega
/-- the first words of the schedule -/
def wl (b : List Nat) : Nat → List Nat
  | 0 => []
  | t + 1 => wl b t ++ [if t < 16 then word b t else add (add (add ((wl b t).getD (t - 16) 0) (sg0 ((wl b t).getD (t - 15) 0))) ((wl b t).getD (t - 7) 0)) (sg1 ((wl b t).getD (t - 2) 0))]
theorem wl_length (b : List Nat) (t : Nat) : (wl b t).length = t := by
  induction t with
  | zero => rfl
  | succ t ih => simp [wl, ih]
theorem wl_get (b : List Nat) (t n : Nat) (h : t < n) : (wl b n).getD t 0 = (wl b (t + 1)).getD t 0 := by
  induction n with
  | zero => omega
  | succ n ih =>
    by_cases e : t = n
    · rw [e]
    · rw [← ih (by omega)]
      show (wl b n ++ _).getD t 0 = _
      rw [List.getD_eq_getElem?_getD, List.getElem?_append_left (by rw [wl_length]; omega), ← List.getD_eq_getElem?_getD]
/-- the words of the schedule -/
def wt (b : List Nat) (t : Nat) : Nat := (wl b 64).getD t 0
theorem wl_last (b : List Nat) (t : Nat) : (wl b (t + 1)).getD t 0 = if t < 16 then word b t else add (add (add ((wl b t).getD (t - 16) 0) (sg0 ((wl b t).getD (t - 15) 0))) ((wl b t).getD (t - 7) 0)) (sg1 ((wl b t).getD (t - 2) 0)) := by
  show (wl b t ++ [_]).getD t 0 = _
  rw [List.getD_eq_getElem?_getD, List.getElem?_append_right (by rw [wl_length]; omega), wl_length, Nat.sub_self]; rfl
theorem wt_low (b : List Nat) (t : Nat) (h : t < 16) : wt b t = word b t := by
  unfold wt; rw [wl_get b t 64 (by omega), wl_last, if_pos h]
theorem wt_high (b : List Nat) (t : Nat) (h : 16 ≤ t) (h' : t < 64) : wt b t = add (add (add (wt b (t - 16)) (sg0 (wt b (t - 15)))) (wt b (t - 7))) (sg1 (wt b (t - 2))) := by
  have g : ∀ j, j < t → (wl b t).getD j 0 = wt b j := fun j hj => by unfold wt; rw [wl_get b j 64 (by omega), wl_get b j t hj]
  conv => lhs; unfold wt
  rw [wl_get b t 64 h', wl_last, if_neg (by omega), g _ (by omega), g _ (by omega), g _ (by omega), g _ (by omega)]
theorem wt_lt {b : List Nat} (hb : Bytes b) (t : Nat) (h : t < 64) : wt b t < 4294967296 := by
  by_cases e : t < 16
  · rw [wt_low b t e]; exact word_lt hb t
  · rw [wt_high b t (by omega) h]; exact add_lt _ _
/-- a round -/
def rp (v : Nat → Nat) (k w : Nat) : Nat := add (add (add (add (v 7) (rot3 (v 4) 6 11 25)) (ch (v 4) (v 5) (v 6))) k) w
def rq (v : Nat → Nat) : Nat := add (rot3 (v 0) 2 13 22) (maj (v 0) (v 1) (v 2))
def rnd (v : Nat → Nat) (k w : Nat) (i : Nat) : Nat := if i = 0 then add (rp v k w) (rq v) else if i = 4 then add (v 3) (rp v k w) else v (i - 1)
def Words (v : Nat → Nat) : Prop := ∀ i, i < 8 → v i < 4294967296
theorem rnd_words {v : Nat → Nat} (h : Words v) (k w : Nat) : Words (rnd v k w) := fun i hi => by
  unfold rnd
  split
  · exact add_lt _ _
  · split
    · exact add_lt _ _
    · exact h _ (by omega)
def rounds (b : List Nat) (s : Nat → Nat) : Nat → Nat → Nat
  | 0 => s
  | t + 1 => rnd (rounds b s t) (kf t) (wt b t)
theorem rounds_words {s : Nat → Nat} (h : Words s) (b : List Nat) (t : Nat) : Words (rounds b s t) := by
  induction t with
  | zero => exact h
  | succ t ih => exact rnd_words ih _ _
/-- the state after a block -/
def block (s : Nat → Nat) (b : List Nat) (i : Nat) : Nat := add (s i) (rounds b s 64 i)
theorem block_words (s : Nat → Nat) (b : List Nat) : Words (block s b) := fun _ _ => add_lt _ _
def blocks : Nat → (Nat → Nat) → List Nat → Nat → Nat
  | 0, s, _ => s
  | n + 1, s, l => blocks n (block s (l.take 64)) (l.drop 64)
theorem blocks_words (n : Nat) : ∀ {s : Nat → Nat} (l : List Nat), Words s → Words (blocks n s l) := by
  induction n with
  | zero => intro s l h; exact h
  | succ n ih => intro s l h; exact ih _ (block_words _ _)
theorem blocks_snoc (n : Nat) : ∀ (s : Nat → Nat) (l : List Nat), blocks (n + 1) s l = block (blocks n s l) ((l.drop (64 * n)).take 64) := by
  induction n with
  | zero => intro s l; simp [blocks]
  | succ n ih =>
    intro s l
    rw [blocks, ih, blocks, List.drop_drop, show 64 + 64 * n = 64 * (n + 1) by omega]
theorem blocks_append (m n : Nat) : ∀ (s : Nat → Nat) (l r : List Nat), l.length = 64 * m → blocks (m + n) s (l ++ r) = blocks n (blocks m s l) r := by
  induction m with
  | zero =>
    intro s l r h
    obtain rfl : l = [] := List.eq_nil_of_length_eq_zero (by omega)
    simp [blocks]
  | succ m ih =>
    intro s l r h
    rw [show m + 1 + n = (m + n) + 1 by omega, blocks, blocks, List.take_append_of_le_length (by omega), List.drop_append_of_le_length (by omega), ih _ _ _ (by rw [List.length_drop]; omega)]
theorem blocks_left (m : Nat) (s : Nat → Nat) (l r : List Nat) (h : l.length = 64 * m) : blocks m s (l ++ r) = blocks m s l := by
  have := blocks_append m 0 s l r h
  rw [Nat.add_zero] at this; exact this
theorem block_congr {s s' : Nat → Nat} (h : ∀ i, i < 8 → s i = s' i) (b : List Nat) : ∀ i, i < 8 → block s b i = block s' b i := by
  have hr : ∀ t i, i < 8 → rounds b s t i = rounds b s' t i := by
    intro t
    induction t with
    | zero => exact h
    | succ t ih =>
      intro i hi
      have hp : rp (rounds b s t) (kf t) (wt b t) = rp (rounds b s' t) (kf t) (wt b t) := by
        unfold rp; rw [ih 7 (by omega), ih 4 (by omega), ih 5 (by omega), ih 6 (by omega)]
      have hq : rq (rounds b s t) = rq (rounds b s' t) := by
        unfold rq; rw [ih 0 (by omega), ih 1 (by omega), ih 2 (by omega)]
      simp only [rounds, rnd]
      rw [hp, hq, ih 3 (by omega)]
      split
      · rfl
      · split
        · rfl
        · exact ih _ (by omega)
  intro i hi
  unfold block
  rw [h i hi, hr 64 i hi]
/-- a number's bytes, the greatest first -/
def be (n : Nat) (k : Nat) : List Nat := (List.range k).map fun i => n / 256 ^ (k - 1 - i) % 256
theorem be_length (n k : Nat) : (be n k).length = k := by simp [be]
theorem be_bytes (n k : Nat) : Bytes (be n k) := fun x hx => by
  simp only [be, List.mem_map] at hx
  obtain ⟨i, _, rfl⟩ := hx
  exact Nat.mod_lt _ (by decide)
/-- how many zeros follow -/
def zeros (n : Nat) : Nat := (119 - n % 64) % 64
def tail (n : Nat) : List Nat := 128 :: (List.replicate (zeros n) 0 ++ be (8 * n) 8)
theorem tail_length (n : Nat) : (tail n).length = 9 + zeros n := by simp [tail, be_length]; omega
theorem tail_bytes (n : Nat) : Bytes (tail n) := fun x hx => by
  simp only [tail, List.mem_cons, List.mem_append, List.mem_replicate] at hx
  rcases hx with rfl | ⟨_, rfl⟩ | h
  · omega
  · omega
  · exact be_bytes _ _ x h
def padded (b : List Nat) : List Nat := b ++ tail b.length
theorem padded_length (b : List Nat) : (padded b).length = 64 * ((padded b).length / 64) := by
  rw [padded, List.length_append, tail_length, zeros]; omega
theorem padded_bytes {b : List Nat} (h : Bytes b) : Bytes (padded b) := fun x hx => by
  rcases List.mem_append.1 hx with h' | h'
  · exact h x h'
  · exact tail_bytes _ x h'
/-- the state behind all blocks -/
def fin (b : List Nat) : Nat → Nat := blocks ((padded b).length / 64) hf (padded b)
theorem hf_words : Words hf := fun i _ => hf_lt i
theorem fin_words (b : List Nat) : Words (fin b) := blocks_words _ _ hf_words
/-- the bytes of a hash -/
def out (v : Nat → Nat) (i : Nat) : Nat := v (i / 4) / 256 ^ (3 - i % 4) % 256
theorem out_lt (v : Nat → Nat) (i : Nat) : out v i < 256 := Nat.mod_lt _ (by decide)
def sha (b : List Nat) : List Nat := (List.range 32).map (out (fin b))
theorem sha_length (b : List Nat) : (sha b).length = 32 := by simp [sha]
theorem sha_bytes (b : List Nat) : Bytes (sha b) := fun x hx => by
  simp only [sha, List.mem_map] at hx
  obtain ⟨i, _, rfl⟩ := hx
  exact out_lt _ _
theorem sha_get (b : List Nat) (i : Nat) (h : i < 32) : (sha b).getD i 0 = out (fin b) i := by
  simp [sha, List.getD_eq_getElem?_getD, h]
/-- the hash under a tag -/
def tagged (tag b : List Nat) : List Nat := sha (sha tag ++ b)
theorem tagged_length (t b : List Nat) : (tagged t b).length = 32 := sha_length _
theorem tagged_bytes (t b : List Nat) : Bytes (tagged t b) := sha_bytes _
/-- the last blocks, as the program makes them: behind the m whole blocks of b -/
def last (b : List Nat) : List Nat := b.drop (64 * (b.length / 64)) ++ tail b.length
theorem last_length (b : List Nat) : (last b).length = if b.length % 64 > 55 then 128 else 64 := by
  rw [last, List.length_append, List.length_drop, tail_length, zeros]
  split <;> omega
theorem fin_eq (b : List Nat) : fin b = blocks ((last b).length / 64) (blocks (b.length / 64) hf b) (last b) := by
  have e : padded b = b.take (64 * (b.length / 64)) ++ last b := by
    rw [padded, last, ← List.append_assoc, List.take_append_drop]
  have hl : (b.take (64 * (b.length / 64))).length = 64 * (b.length / 64) := by rw [List.length_take]; omega
  have hn : (padded b).length / 64 = b.length / 64 + (last b).length / 64 := by
    rw [e, List.length_append, hl]; omega
  have h2 : blocks (b.length / 64) hf b = blocks (b.length / 64) hf (b.take (64 * (b.length / 64))) := by
    have := blocks_left (b.length / 64) hf _ (b.drop (64 * (b.length / 64))) hl
    rwa [List.take_append_drop] at this
  unfold fin
  rw [hn, e, blocks_append _ _ _ _ _ hl, h2]
end Go.Proofs.SzSha
