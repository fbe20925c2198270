/- sizar/digest.Sum returns the hash of the bytes; what was in memory stays. -/
import Derived.Laws.Rows
import Derived.Laws.Tables
import Derived.Laws.MakeOwn
import Derived.Test.YtgcmbiegbclhmaaDoorAbsorb
namespace Go.Proofs.YtgcmbiegbclhmaaDoor
open Go.RowKit SzSha
set_option linter.unusedVariables false
/-- both tables of the hash lie where the program reads them -/
def Tabs (w : World) : Prop := 0 < w.heap.size ∧ 1 < w.heap.size ∧ (∀ t, t < 8 → w.cell? ⟨0, t, none⟩ = some (.int .u32 (hf t : Nat))) ∧ TabK w
theorem Tabs.below {w w' : World} (h : Tabs w) (hb : Below w.heap.size w w') : Tabs w' :=
  ⟨Nat.lt_of_lt_of_le h.1 hb.size, Nat.lt_of_lt_of_le h.2.1 hb.size, fun t ht => (hb.cell (p := ⟨0, t, none⟩) h.1).trans (h.2.2.1 t ht), fun t ht => (hb.cell (p := ⟨1, t, none⟩) h.2.1).trans (h.2.2.2 t ht)⟩
/-- a slice of bytes reads as a list; it lies below block B -/
def Rd (w : World) (B : Nat) (A : Option Addr) (l : List Nat) : Prop := 0 < l.length → ∃ g off, A = some ⟨g, off, none⟩ ∧ g < B ∧ BytesAt w g off l
theorem Rd.below {w w' : World} {B B' : Nat} {A : Option Addr} {l : List Nat} (h : Rd w B A l) (hb : Below B' w w') (hB : B ≤ B') : Rd w' B A l := fun hl => by
  obtain ⟨g, off, e, hg, hc⟩ := h hl
  exact ⟨g, off, e, hg, fun i hi => (hb.cell (p := ⟨g, off + i, none⟩) (Nat.lt_of_lt_of_le hg hB)).trans (hc i hi)⟩
/-- the value of a digest -/
def dgV (l : List Nat) : Value := .agg (l.map fun x => Value.int .u8 (x : Nat)).toArray
def lenOf : Value → Nat
  | .slice _ n _ => n
  | _ => 0
def zeroF (_ : Nat) : Value := .int .u8 0
theorem Rd.cut {w : World} {B g off : Nat} {l : List Nat} (hg : g < B) (h : BytesAt w g off l) (k : Nat) : Rd w B (some ⟨g, off + k, none⟩) (l.drop k) := fun hl => by
  refine ⟨g, off + k, rfl, hg, fun i hi => ?_⟩
  rw [List.length_drop] at hi
  have := h (k + i) (by omega)
  rw [List.getD_eq_getElem?_getD, List.getElem?_drop, ← List.getD_eq_getElem?_getD, Nat.add_assoc]
  exact this
theorem BytesAt.take {w : World} {g off : Nat} {l : List Nat} (h : BytesAt w g off l) (k : Nat) : BytesAt w g off (l.take k) := fun i hi => by
  rw [List.length_take] at hi
  rw [List.getD_eq_getElem?_getD, List.getElem?_take_of_lt (by omega), ← List.getD_eq_getElem?_getD]
  exact h i (by omega)
theorem Rd.only {w w' : World} {B gs : Nat} {A : Option Addr} {l : List Nat} (h : Rd w B A l) (ho : w.grownBy w' (some gs)) (h1 : B ≤ w.heap.size) (h2 : B ≤ gs) : Rd w' B A l := fun hl => by
  obtain ⟨g, off, e, hg, hc⟩ := h hl
  exact ⟨g, off, e, hg, fun i hi => (cell_only (p := ⟨g, off + i, none⟩) ho (Nat.lt_of_lt_of_le hg h1) (by show g ≠ gs; omega)).trans (hc i hi)⟩
theorem bytes_take {l : List Nat} (h : Bytes l) (k : Nat) : Bytes (l.take k) := fun x hx => h x (List.mem_of_mem_take hx)
theorem bytes_drop {l : List Nat} (h : Bytes l) (k : Nat) : Bytes (l.drop k) := fun x hx => h x (List.mem_of_mem_drop hx)
theorem Tabs.only {w w' : World} {gs : Nat} (h : Tabs w) (ho : w.grownBy w' (some gs)) (h1 : 0 ≠ gs) (h2 : 1 ≠ gs) : Tabs w' :=
  ⟨Nat.lt_of_lt_of_le h.1 ho.size, Nat.lt_of_lt_of_le h.2.1 ho.size, fun t ht => (cell_only (p := ⟨0, t, none⟩) ho h.1 h1).trans (h.2.2.1 t ht), fun t ht => (cell_only (p := ⟨1, t, none⟩) ho h.2.1 h2).trans (h.2.2.2 t ht)⟩
theorem info_u8 : (Tryd.prog.info? 5).map (fun i => (i.zero, i.size, i.bytes)) = some (some (.int .u8 0), 1, 1) := by kernel_rfl
theorem make_bytes (n c : Nat) (hnc : n ≤ c) (hc : c ≤ 281474976710656) (W : World) : (Instr.makeSlice 43 (.int .i64 (n : Int)) (.int .i64 (c : Int))).run Tryd.prog W = .ok (.slice (some ⟨W.heap.size, 0, none⟩) n c) (W.alloc (.cells (madeCells #[.int .u8 0] c) 5)) := by
  obtain ⟨i0, hi, hz0, hz1, hz2⟩ := info_parts info_u8
  have h := run_make (P := Tryd.prog) W 43 5 i0 (.int .u8 0) Tryd.underlying43 hi hz0 .i64 .i64 (n : Int) (c : Int) (by omega) (by omega) (by rw [hz2]; omega) (by omega)
  rw [hz1, Nat.mul_one] at h
  exact h
/-- the row of the last blocks -/
def lastF (l : List Nat) (j : Nat) : Value := .int .u8 ((last l).getD j 0 : Nat)
theorem last_cells (l : List Nat) (k r L N8 : Nat) (hl : l.length = 64 * k + r) (hr : r < 64) (hL : L = if r > 55 then 128 else 64) (h8 : N8 = 8 * l.length) (j : Nat) (hj : j < L) :
    putF (L - 8) 8 N8 (fun j => if j = r then Value.int .u8 128 else overF 0 r (fun j => Value.int .u8 ((l.drop (64 * k)).getD j 0 : Nat)) (fun _ => Value.int .u8 0) j) j = lastF l j := by
  have hk : l.length / 64 = k := by omega
  have hd : (l.drop (64 * k)).length = r := by rw [List.length_drop]; omega
  have hz : zeros l.length = L - 9 - r := by unfold zeros; split at hL <;> omega
  have hL9 : r + 9 ≤ L := by split at hL <;> omega
  unfold lastF last tail putF overF
  rw [hk, List.getD_eq_getElem?_getD]
  by_cases c1 : j < r
  · rw [if_neg (by omega)]
    show (if j = r then _ else _) = _
    rw [if_neg (by omega), if_pos (by omega), List.getElem?_append_left (by omega), Nat.sub_zero, ← List.getD_eq_getElem?_getD]
  · rw [List.getElem?_append_right (by omega), hd]
    by_cases c2 : j = r
    · rw [if_neg (by omega)]
      show (if j = r then _ else _) = _
      rw [if_pos c2, show j - r = 0 by omega]; rfl
    · obtain ⟨i, hi⟩ : ∃ i, j - r = i + 1 := ⟨j - r - 1, by omega⟩
      rw [hi, List.getElem?_cons_succ]
      by_cases c3 : j < L - 8
      · rw [if_neg (by omega)]
        show (if j = r then _ else _) = _
        rw [if_neg c2, if_neg (by omega), List.getElem?_append_left (by simp; omega), List.getElem?_replicate, if_pos (by omega)]; rfl
      · rw [if_pos (by omega), List.getElem?_append_right (by simp; omega), List.length_replicate, hz]
        have hb : i - (L - 9 - r) < 8 := by omega
        simp only [be, List.getElem?_map, List.getElem?_range hb, Option.map_some, Option.getD_some]
        rw [h8, show L - 8 + 8 - 1 - j = 8 - 1 - (i - (L - 9 - r)) by omega]
theorem last_len (l : List Nat) (k r L : Nat) (hl : l.length = 64 * k + r) (hr : r < 64) (hL : L = if r > 55 then 128 else 64) : (last l).length = L := by
  rw [last_length, show l.length % 64 = r by omega]; exact hL.symm
theorem last_bytes {l : List Nat} (h : Bytes l) : Bytes (last l) := fun x hx => by
  rcases List.mem_append.1 hx with h' | h'
  · exact h x (List.mem_of_mem_drop h')
  · exact tail_bytes _ x h'
def outF (F : Nat → Nat) (k j : Nat) : Value := .int .u8 ((if j < 4 * k then out F j else 0 : Nat))
theorem outF_put (F : Nat → Nat) (k : Nat) : putF (4 * k) 4 (F k) (outF F k) = outF F (k + 1) := by
  funext j
  unfold putF outF
  by_cases c : 4 * k ≤ j ∧ j < 4 * k + 4
  · rw [if_pos c, if_pos (by omega)]
    unfold out
    rw [show j / 4 = k by omega, show 4 * k + 4 - 1 - j = 3 - j % 4 by omega]
  · rw [if_neg c]
    by_cases c2 : j < 4 * k
    · rw [if_pos c2, if_pos (by omega)]
    · rw [if_neg c2, if_neg (by omega)]
theorem oneCells (l : List Nat) : (l.map fun x => Value.int .u8 (x : Nat)).toArray.all (·.oneCell') = true := by
  simp; intros; rfl
theorem index8 (x0 x1 x2 x3 x4 x5 x6 x7 : Value) (w : World) (k : Nat) (hk : k < 8) :
    (Instr.index 93 (.agg #[x0, x1, x2, x3, x4, x5, x6, x7]) (.int .i64 (k : Int))).run Tryd.prog w = .ok ([x0, x1, x2, x3, x4, x5, x6, x7].getD k undef) w := by
  have h : k = 0 ∨ k = 1 ∨ k = 2 ∨ k = 3 ∨ k = 4 ∨ k = 5 ∨ k = 6 ∨ k = 7 := by omega
  rcases h with rfl | rfl | rfl | rfl | rfl | rfl | rfl | rfl <;> (show _ = _; kernel_rfl)
theorem slice4 (g t : Nat) (w : World) (ht : t < 8) : (Instr.sliceAt 24 (.pointer (some ⟨g, 0, none⟩)) (some (.int .i64 (4 * (t : Int)))) (some (.int .i64 (4 * (t : Int) + 4))) none).run Tryd.prog w = .ok (.slice (some ⟨g, 4 * t, none⟩) 4 (32 - 4 * t)) w := by
  have h : t = 0 ∨ t = 1 ∨ t = 2 ∨ t = 3 ∨ t = 4 ∨ t = 5 ∨ t = 6 ∨ t = 7 := by omega
  rcases h with rfl | rfl | rfl | rfl | rfl | rfl | rfl | rfl <;> (show _ = _; kernel_rfl)
theorem get8 (F : Nat → Nat) (k : Nat) (hk : k < 8) : [Value.int .u32 (F 0 : Nat), .int .u32 (F 1 : Nat), .int .u32 (F 2 : Nat), .int .u32 (F 3 : Nat), .int .u32 (F 4 : Nat), .int .u32 (F 5 : Nat), .int .u32 (F 6 : Nat), .int .u32 (F 7 : Nat)].getD k undef = .int .u32 (F k : Nat) := by
  match k, hk with
  | 0, _ => rfl
  | 1, _ => rfl
  | 2, _ => rfl
  | 3, _ => rfl
  | 4, _ => rfl
  | 5, _ => rfl
  | 6, _ => rfl
  | 7, _ => rfl
theorem rowIs_arr {w : World} {g t n : Nat} {f : Nat → Value} (h : w.rowIs g t n f) : w.heap[g]? = some (.cells ((List.range n).map f).toArray t (0, 0)) := by
  obtain ⟨c, hb, hn, hc⟩ := h
  have : c = ((List.range n).map f).toArray := by
    apply Array.ext_getElem?
    intro i
    by_cases hi : i < n
    · rw [hc i hi]; simp [hi]
    · rw [Array.getElem?_eq_none (by omega), Array.getElem?_eq_none (by simp; omega)]
  rw [hb, this]
theorem sha_arr (l : List Nat) : ((List.range 32).map (outF (fin l) 8)).toArray = ((sha l).map fun x => Value.int .u8 (x : Nat)).toArray := by
  unfold sha
  rw [List.map_map]
  congr 1
set_option maxRecDepth 100000 in
set_option maxHeartbeats 4000000 in
theorem dsum_any (A : Option Addr) (n c : Nat) (l : List Nat) (w : World) (hn : Hid (l.length = n)) (hc : n ≤ c) (hsz : n ≤ 4294967296) (hb : Hid (Bytes l)) (hT : Hid (Tabs w)) (hR : Hid (Rd w w.heap.size A l)) :
    Calls Tryd.prog 46 #[.slice A n c] w fun e w' => e = .returned (dgV (sha l)) ∧ Below w.heap.size w w' := by
  have s0 := hT.out.2.2.1 0 (by omega)
  have s1 := hT.out.2.2.1 1 (by omega)
  have s2 := hT.out.2.2.1 2 (by omega)
  have s3 := hT.out.2.2.1 3 (by omega)
  have s4 := hT.out.2.2.1 4 (by omega)
  have s5 := hT.out.2.2.1 5 (by omega)
  have s6 := hT.out.2.2.1 6 (by omega)
  have s7 := hT.out.2.2.1 7 (by omega)
  have t1 := hT.out.1
  have t2 := hT.out.2.1
  go_enter Tryd.func46, Tryd.ntmps46
  go_wp2_with fail
  clear s0 s1 s2 s3 s4 s5 s6 s7
  go_loopw [5] (fun v wr => ∃ (k r c' : Nat) (A' : Option Addr), Hid (n = 64 * k + r) ∧ r ≤ c' ∧ r ≤ n ∧ v = .slice A' r c' ∧ Hid (Rd wr w.heap.size A' (l.drop (64 * k))) ∧ Hid (wr.rowIs w.heap.size 24 32 zeroF) ∧ Hid (wr.rowIs (w.heap.size + 1) 93 8 (stF (blocks k hf l))) ∧ Hid (Below w.heap.size w wr)) (fun v _ => lenOf v)
  case atStart =>
    have hb0 := ((Below.refl w.heap.size w).alloc (Nat.le_refl _) (.cells (Array.replicate 32 (.int .u8 0)) 24)).alloc (by simp) (.cells #[.int .u32 (hf 0 : Nat), .int .u32 (hf 1 : Nat), .int .u32 (hf 2 : Nat), .int .u32 (hf 3 : Nat), .int .u32 (hf 4 : Nat), .int .u32 (hf 5 : Nat), .int .u32 (hf 6 : Nat), .int .u32 (hf 7 : Nat)] 93)
    refine ⟨0, n, c, A, Lib.hid (by omega), hc, Nat.le_refl _, rfl, Lib.hid ?_, Lib.hid ?_, Lib.hid ?_, Lib.hid hb0⟩
    · exact Rd.below (by simpa using hR.out) hb0 (Nat.le_refl _)
    · refine World.rowIs.alloc (World.rowIs_alloc w _ _ _ (fun i hi => ?_)) _
      have : ∀ j : Fin 32, (Array.replicate 32 (Value.int .u8 0))[j.val]? = some (zeroF j.val) := fun j => by simp [zeroF]
      exact this ⟨i, hi⟩
    · have := World.rowIs_alloc (w.alloc (.cells (Array.replicate 32 (.int .u8 0)) 24)) #[.int .u32 (hf 0 : Nat), .int .u32 (hf 1 : Nat), .int .u32 (hf 2 : Nat), .int .u32 (hf 3 : Nat), .int .u32 (hf 4 : Nat), .int .u32 (hf 5 : Nat), .int .u32 (hf 6 : Nat), .int .u32 (hf 7 : Nat)] 93 (stF (blocks 0 hf l)) (fun i hi => by
        have hi' : i < 8 := hi
        match i, hi' with
        | 0, _ => rfl
        | 1, _ => rfl
        | 2, _ => rfl
        | 3, _ => rfl
        | 4, _ => rfl
        | 5, _ => rfl
        | 6, _ => rfl
        | 7, _ => rfl)
      simp only [World.size_alloc] at this
      exact this
  case round =>
    obtain ⟨k, r, c', A', hnr, hrc, hrn, rfl, hRd, hD, hS, hB⟩ := hrel
    have hT' : Hid (Tabs wr) := Lib.hid (hT.out.below hB.out)
    by_cases h64 : 64 ≤ r
    · obtain ⟨g, off, rfl, hg, hBy⟩ := hRd.out (by rw [List.length_drop]; have := hnr.out; have := hn.out; omega)
      have HBy := Lib.hid hBy
      clear hBy
      have hSl := hS.out.lt
      have HL : Hid (((l.drop (64 * k)).take 64).length = 64) := Lib.hid (by rw [List.length_take, List.length_drop]; have := hnr.out; have := hn.out; omega)
      by_cases hc64 : c' = 64
      · obtain rfl : r = 64 := by omega
        subst hc64
        go_wp2_with fail
        refine (absorb_any (w.heap.size + 1) 93 g off 64 (blocks k hf l) ((l.drop (64 * k)).take 64) _ HL (Lib.hid (bytes_take (bytes_drop hb.out _) _)) (Lib.hid (blocks_words _ _ hf_words)) (by omega) hS (by omega) (by omega) hT'.out.2.1 (by omega) (Lib.hid hT'.out.2.2.2) (Lib.hid (HBy.out.take 64))).mono ?_
        rintro e w1 ⟨⟨v, rfl⟩, hs1, ho1⟩
        have HS1 := Lib.hid hs1
        have HO1 := Lib.hid ho1
        clear hs1 ho1
        go_wp2_with fail
        go_roundw
        case rel =>
          refine ⟨k + 1, 0, 0, _, Lib.hid (by have := hnr.out; omega), by omega, by omega, rfl, Lib.hid ?_, Lib.hid (rowIs_only hD.out HO1.out (by omega)), Lib.hid ?_, Lib.hid (below_of_only hB.out HO1.out hB.out.size (by omega))⟩
          · intro hl; rw [List.length_drop] at hl; have := hnr.out; have := hn.out; omega
          · rw [blocks_snoc]; exact HS1.out
        case measure => simp [lenOf]
      · have c64 : (c' == 64) = false := by simpa using hc64
        go_wp2_with fail
        refine (absorb_any (w.heap.size + 1) 93 g off c' (blocks k hf l) ((l.drop (64 * k)).take 64) _ HL (Lib.hid (bytes_take (bytes_drop hb.out _) _)) (Lib.hid (blocks_words _ _ hf_words)) (by omega) hS (by omega) (by omega) hT'.out.2.1 (by omega) (Lib.hid hT'.out.2.2.2) (Lib.hid (HBy.out.take 64))).mono ?_
        rintro e w1 ⟨⟨v, rfl⟩, hs1, ho1⟩
        have HS1 := Lib.hid hs1
        have HO1 := Lib.hid ho1
        clear hs1 ho1
        go_wp2_with fail
        go_roundw
        case rel =>
          refine ⟨k + 1, r - 64, c' - 64, _, Lib.hid (by have := hnr.out; omega), by omega, by omega, rfl, Lib.hid ?_, Lib.hid (rowIs_only hD.out HO1.out (by omega)), Lib.hid ?_, Lib.hid (below_of_only hB.out HO1.out hB.out.size (by omega))⟩
          · have := (Rd.cut hg HBy.out 64).only HO1.out hB.out.size (by omega)
            rw [List.drop_drop] at this
            exact this
          · rw [blocks_snoc]; exact HS1.out
        case measure => simp [lenOf]; omega
    · have d64 : decide ((64 : Int) ≤ (r : Int)) = false := decide_eq_false (by omega)
      have hmk : (Instr.makeSlice 43 (.int .i64 64) (.int .i64 128)).run Tryd.prog wr = .ok (.slice (some ⟨wr.heap.size, 0, none⟩) 64 128) (wr.alloc (.cells (madeCells #[.int .u8 0] 128) 5)) := make_bytes 64 128 (by omega) (by omega) wr
      have HM := Lib.hid (World.rowIs_made wr (.int .u8 0) 128 5)
      have hRr : Hid (0 < r → ∃ ad, A' = some ad ∧ ∀ j, j < r → (wr.alloc (.cells (madeCells #[.int .u8 0] 128) 5)).cell? (ad.add j) = some (.int .u8 ((l.drop (64 * k)).getD j 0 : Nat))) := Lib.hid fun h0 => by
        have hlen : (l.drop (64 * k)).length = r := by rw [List.length_drop]; have := hnr.out; have := hn.out; omega
        obtain ⟨g, off, e, hg, hBy⟩ := hRd.out (by omega)
        refine ⟨_, e, fun j hj => ?_⟩
        rw [add_row]
        refine Eq.trans (World.cell?_alloc_lt wr _ _ (Nat.lt_of_lt_of_le hg hB.out.size)) (hBy j (by omega))
      have hm : r = Nat.min r 64 := by show r = min r 64; omega
      have HMm := Lib.hid hm
      clear hm
      obtain ⟨N8, H8, e8⟩ : ∃ N8 : Nat, Hid (N8 = 8 * n) ∧ (n : Int) * 8 = (N8 : Int) := ⟨8 * n, Lib.hid rfl, by omega⟩
      have hN8 : N8 ≤ 34359738368 := by have := H8.out; omega
      by_cases h55 : 55 < r
      · have d55 : decide ((55 : Int) < (r : Int)) = true := decide_eq_true (by omega)
        have HLL : Hid (128 = if r > 55 then 128 else 64) := Lib.hid (by rw [if_pos h55])
        clear h55
        go_wp2_with ((with_reducible refine wpList_copy_rowIs rfl (.tmp 22) (.tmp 23) 43 43 rfl 5 Tryd.underlying43 (by kernel_rfl) wr.heap.size 0 64 128 A' r c' rfl rfl 5 128 _ HM r HMm.out (fun j => .int .u8 ((l.drop (64 * k)).getD j 0 : Nat)) hRr.out (by omega) (fun _ _ => rfl) ?_); intro w2 hv2 ho2; have hcr := hv2.out.cell (i := r) (by omega); have hfr := hv2.out.frozen r)
        refine (put_any wr.heap.size 120 8 8 N8 5 128 _ _ (by omega) (by omega) (by omega) (by omega) (Lib.hid (hv2.out.set r (.int .u8 128)))).mono ?_
        rintro e w3 ⟨⟨v, rfl⟩, hs3, ho3⟩
        have HE : Hid (∀ j, j < 128 → w3.cell? ⟨wr.heap.size, j, none⟩ = some (lastF l j)) := Lib.hid fun j hj => by
          rw [hs3.cell (i := j) (by omega), last_cells l k r 128 N8 (by rw [hn.out]; exact hnr.out) (by omega) HLL.out (by rw [hn.out]; exact H8.out) j hj]
        have hlt3 : wr.heap.size < w3.heap.size := hs3.lt
        have ho13 : (wr.alloc (.cells (madeCells #[.int .u8 0] 128) 5)).grownBy w3 (some wr.heap.size) := only_trans (only_setCell ho2.out (.inl rfl) _) ho3
        have hD3 : Hid (w3.rowIs w.heap.size 24 32 zeroF) := Lib.hid (rowIs_only (hD.out.alloc _) ho13 (by have := hD.out.lt; omega))
        have hS3 : Hid (w3.rowIs (w.heap.size + 1) 93 8 (stF (blocks k hf l))) := Lib.hid (rowIs_only (hS.out.alloc _) ho13 (by have := hS.out.lt; omega))
        have hB3 : Hid (Below w.heap.size w w3) := Lib.hid (below_of_only (hB.out.alloc hB.out.size _) ho13 (by simp; have := hB.out.size; omega) hB.out.size)
        have hSl := hS.out.lt
        clear hs3 ho3 ho13 hcr hfr hv2 ho2 hmk HM hRr HMm hRd hD hS hB
        go_wp2_with fail
        go_loopw [6] (fun v wq => ∃ (m r2 c2 off : Nat), Hid (128 = 64 * m + r2) ∧ Hid (0 < r2 → off = 64 * m) ∧ r2 ≤ c2 ∧ r2 ≤ 128 ∧ (64 ≤ r2 ∨ r2 = 0) ∧ v = .slice (some ⟨wr.heap.size, off, none⟩) r2 c2 ∧ Hid (∀ j, j < 128 → wq.cell? ⟨wr.heap.size, j, none⟩ = some (lastF l j)) ∧ wr.heap.size < wq.heap.size ∧ Hid (wq.rowIs w.heap.size 24 32 zeroF) ∧ Hid (wq.rowIs (w.heap.size + 1) 93 8 (stF (blocks m (blocks k hf l) (last l)))) ∧ Hid (Below w.heap.size w wq)) (fun v _ => lenOf v)
        case atStart => exact ⟨0, 128, 128, 0, Lib.hid (by omega), Lib.hid (fun _ => rfl), by omega, by omega, .inl (by omega), rfl, HE, hlt3, hD3, hS3, hB3⟩
        case round =>
          clear HE hlt3 hD3 hS3 hB3 hT'
          rename World => wq
          obtain ⟨m, r2, c2, off, hLm, hoff, hrc2, hrL, hr2, rfl, HE, hlt3, hD3, hS3, hB3⟩ := hrel
          have hT' : Hid (Tabs wq) := Lib.hid (hT.out.below hB3.out)
          rcases hr2 with h64' | rfl
          · obtain rfl : off = 64 * m := hoff.out (by omega)
            have hll : Hid ((last l).length = 128) := Lib.hid (last_len l k r 128 (by rw [hn.out]; exact hnr.out) (by omega) HLL.out)
            have HL : Hid ((((last l).drop (64 * m)).take 64).length = 64) := Lib.hid (by rw [List.length_take, List.length_drop, hll.out]; have := hLm.out; omega)
            have HBy : Hid (BytesAt wq wr.heap.size (64 * m) (((last l).drop (64 * m)).take 64)) := Lib.hid fun i hi => by
              rw [HL.out] at hi
              rw [HE.out (64 * m + i) (by have := hLm.out; omega), lastF, List.getD_eq_getElem?_getD, List.getD_eq_getElem?_getD, List.getElem?_take_of_lt hi, List.getElem?_drop]
            by_cases hc64 : c2 = 64
            · subst hc64
              obtain rfl : r2 = 64 := by omega
              go_wp2_with fail
              refine (absorb_any (w.heap.size + 1) 93 wr.heap.size (64 * m) 64 _ (((last l).drop (64 * m)).take 64) _ HL (Lib.hid (bytes_take (bytes_drop (last_bytes hb.out) _) _)) (Lib.hid (blocks_words _ _ (blocks_words _ _ hf_words))) (by omega) hS3 (by omega) (by omega) hT'.out.2.1 (by omega) (Lib.hid hT'.out.2.2.2) HBy).mono ?_
              rintro e w4 ⟨⟨v, rfl⟩, hs4, ho4⟩
              have HS4 := Lib.hid hs4
              have HO4 := Lib.hid ho4
              clear hs4 ho4
              go_wp2_with fail
              go_roundw
              case rel =>
                refine ⟨m + 1, 0, 0, _, Lib.hid (by have := hLm.out; omega), Lib.hid (fun h => absurd h (by omega)), by omega, by omega, .inr rfl, rfl, Lib.hid (fun j hj => (cell_only (p := ⟨wr.heap.size, j, none⟩) HO4.out hlt3 (by show wr.heap.size ≠ w.heap.size + 1; omega)).trans (HE.out j hj)), Nat.lt_of_lt_of_le hlt3 HO4.out.size, Lib.hid (rowIs_only hD3.out HO4.out (by omega)), Lib.hid (by rw [blocks_snoc]; exact HS4.out), Lib.hid (below_of_only hB3.out HO4.out hB3.out.size (by omega))⟩
              case measure => simp [lenOf]
            · have c64 : (c2 == 64) = false := by simpa using hc64
              go_wp2_with fail
              refine (absorb_any (w.heap.size + 1) 93 wr.heap.size (64 * m) c2 _ (((last l).drop (64 * m)).take 64) _ HL (Lib.hid (bytes_take (bytes_drop (last_bytes hb.out) _) _)) (Lib.hid (blocks_words _ _ (blocks_words _ _ hf_words))) (by omega) hS3 (by omega) (by omega) hT'.out.2.1 (by omega) (Lib.hid hT'.out.2.2.2) HBy).mono ?_
              rintro e w4 ⟨⟨v, rfl⟩, hs4, ho4⟩
              have HS4 := Lib.hid hs4
              have HO4 := Lib.hid ho4
              clear hs4 ho4
              go_wp2_with fail
              go_roundw
              case rel =>
                refine ⟨m + 1, r2 - 64, c2 - 64, _, Lib.hid (by have := hLm.out; omega), Lib.hid (fun h => by omega), by omega, by omega, by have := hLm.out; omega, rfl, Lib.hid (fun j hj => (cell_only (p := ⟨wr.heap.size, j, none⟩) HO4.out hlt3 (by show wr.heap.size ≠ w.heap.size + 1; omega)).trans (HE.out j hj)), Nat.lt_of_lt_of_le hlt3 HO4.out.size, Lib.hid (rowIs_only hD3.out HO4.out (by omega)), Lib.hid (by rw [blocks_snoc]; exact HS4.out), Lib.hid (below_of_only hB3.out HO4.out hB3.out.size (by omega))⟩
              case measure => simp [lenOf]; omega
          · have hfin : Hid (blocks m (blocks k hf l) (last l) = fin l) := Lib.hid (by
              rw [fin_eq, last_len l k r 128 (by rw [hn.out]; exact hnr.out) (by omega) HLL.out, hn.out, show n / 64 = k by have := hnr.out; omega, show 128 / 64 = m by have := hLm.out; omega])
            have hS4 : Hid (wq.rowIs (w.heap.size + 1) 93 8 (stF (fin l))) := Lib.hid (by rw [← hfin.out]; exact hS3.out)
            have e0 : wq.cell? ⟨w.heap.size + 1, 0, none⟩ = some (.int .u32 (fin l 0 : Nat)) := hS4.out.cell (by omega)
            have e1 : wq.cell? ⟨w.heap.size + 1, 1, none⟩ = some (.int .u32 (fin l 1 : Nat)) := hS4.out.cell (by omega)
            have e2 : wq.cell? ⟨w.heap.size + 1, 2, none⟩ = some (.int .u32 (fin l 2 : Nat)) := hS4.out.cell (by omega)
            have e3 : wq.cell? ⟨w.heap.size + 1, 3, none⟩ = some (.int .u32 (fin l 3 : Nat)) := hS4.out.cell (by omega)
            have e4 : wq.cell? ⟨w.heap.size + 1, 4, none⟩ = some (.int .u32 (fin l 4 : Nat)) := hS4.out.cell (by omega)
            have e5 : wq.cell? ⟨w.heap.size + 1, 5, none⟩ = some (.int .u32 (fin l 5 : Nat)) := hS4.out.cell (by omega)
            have e6 : wq.cell? ⟨w.heap.size + 1, 6, none⟩ = some (.int .u32 (fin l 6 : Nat)) := hS4.out.cell (by omega)
            have e7 : wq.cell? ⟨w.heap.size + 1, 7, none⟩ = some (.int .u32 (fin l 7 : Nat)) := hS4.out.cell (by omega)
            go_wp2_with fail
            clear e0 e1 e2 e3 e4 e5 e6 e7
            go_loopw [54] (fun i wz => ∃ t : Nat, t ≤ 8 ∧ i = .int .i64 t ∧ Hid (wz.rowIs w.heap.size 24 32 (outF (fin l) t)) ∧ Hid (Below w.heap.size w wz)) (fun i _ => 8 - (intOf i).toNat)
            case atStart => exact ⟨0, by omega, rfl, Lib.hid (hD3.out.congr fun j hj => by unfold zeroF outF; rw [if_neg (by omega)]; rfl), hB3⟩
            case round =>
              clear hS4 hS3 hD3 hB3 HE hT' hlt3
              rename World => wz
              obtain ⟨t, ht, rfl, hD3, hB3⟩ := hrel
              by_cases hlt : t < 8
              · have hidx := index8 (.int .u32 (fin l 0 : Nat)) (.int .u32 (fin l 1 : Nat)) (.int .u32 (fin l 2 : Nat)) (.int .u32 (fin l 3 : Nat)) (.int .u32 (fin l 4 : Nat)) (.int .u32 (fin l 5 : Nat)) (.int .u32 (fin l 6 : Nat)) (.int .u32 (fin l 7 : Nat)) wz t hlt
                rw [get8 (fin l) t hlt] at hidx
                have hF := fin_words l t hlt
                have hsl := slice4 w.heap.size t wz hlt
                go_wp2_with fail
                refine (put_any w.heap.size (4 * t) 4 (32 - 4 * t) (fin l t) 24 32 _ _ (by omega) (by omega) (by omega) (by omega) hD3).mono ?_
                rintro e w5 ⟨⟨v, rfl⟩, hs5, ho5⟩
                rw [outF_put] at hs5
                have HS5 := Lib.hid hs5
                have HO5 := Lib.hid ho5
                clear hs5 ho5 hidx hsl
                go_wp2_with fail
                go_roundw
                case rel => exact ⟨t + 1, by omega, by go_num, HS5, Lib.hid (below_of_only hB3.out HO5.out hB3.out.size (Nat.le_refl _))⟩
                case measure => simp [intOf]; omega
              · have hD8 : Hid (wz.heap[w.heap.size]? = some (.cells ((sha l).map fun x => Value.int .u8 (x : Nat)).toArray 24 (0, 0))) := Lib.hid (by
                  have := rowIs_arr hD3.out
                  rw [show t = 8 by omega, sha_arr] at this
                  exact this)
                have dt : decide ((t : Int) < 8) = false := decide_eq_false (by omega)
                have hsz32 : (Tryd.prog.info? 24).map (·.size) = some ((sha l).map fun x => Value.int .u8 (x : Nat)).toArray.size := by
                  have : ((sha l).map fun x => Value.int .u8 (x : Nat)).toArray.size = 32 := by simp [sha_length]
                  rw [this]; show _ = _; kernel_rfl
                have HZ := Lib.hid hsz32
                clear hsz32
                go_wp2_with (first | ((with_reducible refine wpList_load_row rfl 24 (.tmp 2) rfl w.heap.size rfl 24 _ (0, 0) _ hD8.out Tryd.underlying24 rfl HZ.out ?_)) | ((with_reducible refine wpList_store_row rfl 24 (.tmp 2) (.tmp 68) rfl w.heap.size _ rfl rfl 24 _ hD8.out HZ.out rfl ?_ ?_)))
                all_goals first
                  | exact oneCells _
                  | (have hB' : Below w.heap.size w (wz.setRow w.heap.size ((sha l).map fun x => Value.int .u8 (x : Nat)).toArray) := below_setRow hB3.out (Nat.le_refl _) _
                     refine bodyPost_ret (results_cell_row rfl _ _ w.heap.size 24 _ (0, 0) _ rfl (setRow_heap wz w.heap.size _ _ _ _ hD8.out) Tryd.underlying24 rfl HZ.out) rfl ?_
                     exact ⟨rfl, hB'⟩)
      · have d55 : decide ((55 : Int) < (r : Int)) = false := decide_eq_false (by omega)
        have HLL : Hid (64 = if r > 55 then 128 else 64) := Lib.hid (by rw [if_neg h55])
        clear h55
        go_wp2_with ((with_reducible refine wpList_copy_rowIs rfl (.tmp 22) (.tmp 23) 43 43 rfl 5 Tryd.underlying43 (by kernel_rfl) wr.heap.size 0 64 128 A' r c' rfl rfl 5 128 _ HM r HMm.out (fun j => .int .u8 ((l.drop (64 * k)).getD j 0 : Nat)) hRr.out (by omega) (fun _ _ => rfl) ?_); intro w2 hv2 ho2; have hcr := hv2.out.cell (i := r) (by omega); have hfr := hv2.out.frozen r)
        refine (put_any wr.heap.size 56 8 72 N8 5 128 _ _ (by omega) (by omega) (by omega) (by omega) (Lib.hid (hv2.out.set r (.int .u8 128)))).mono ?_
        rintro e w3 ⟨⟨v, rfl⟩, hs3, ho3⟩
        have HE : Hid (∀ j, j < 64 → w3.cell? ⟨wr.heap.size, j, none⟩ = some (lastF l j)) := Lib.hid fun j hj => by
          rw [hs3.cell (i := j) (by omega), last_cells l k r 64 N8 (by rw [hn.out]; exact hnr.out) (by omega) HLL.out (by rw [hn.out]; exact H8.out) j hj]
        have hlt3 : wr.heap.size < w3.heap.size := hs3.lt
        have ho13 : (wr.alloc (.cells (madeCells #[.int .u8 0] 128) 5)).grownBy w3 (some wr.heap.size) := only_trans (only_setCell ho2.out (.inl rfl) _) ho3
        have hD3 : Hid (w3.rowIs w.heap.size 24 32 zeroF) := Lib.hid (rowIs_only (hD.out.alloc _) ho13 (by have := hD.out.lt; omega))
        have hS3 : Hid (w3.rowIs (w.heap.size + 1) 93 8 (stF (blocks k hf l))) := Lib.hid (rowIs_only (hS.out.alloc _) ho13 (by have := hS.out.lt; omega))
        have hB3 : Hid (Below w.heap.size w w3) := Lib.hid (below_of_only (hB.out.alloc hB.out.size _) ho13 (by simp; have := hB.out.size; omega) hB.out.size)
        have hSl := hS.out.lt
        clear hs3 ho3 ho13 hcr hfr hv2 ho2 hmk HM hRr HMm hRd hD hS hB
        go_wp2_with fail
        go_loopw [6] (fun v wq => ∃ (m r2 c2 off : Nat), Hid (64 = 64 * m + r2) ∧ Hid (0 < r2 → off = 64 * m) ∧ r2 ≤ c2 ∧ r2 ≤ 64 ∧ (64 ≤ r2 ∨ r2 = 0) ∧ v = .slice (some ⟨wr.heap.size, off, none⟩) r2 c2 ∧ Hid (∀ j, j < 64 → wq.cell? ⟨wr.heap.size, j, none⟩ = some (lastF l j)) ∧ wr.heap.size < wq.heap.size ∧ Hid (wq.rowIs w.heap.size 24 32 zeroF) ∧ Hid (wq.rowIs (w.heap.size + 1) 93 8 (stF (blocks m (blocks k hf l) (last l)))) ∧ Hid (Below w.heap.size w wq)) (fun v _ => lenOf v)
        case atStart => exact ⟨0, 64, 128, 0, Lib.hid (by omega), Lib.hid (fun _ => rfl), by omega, by omega, .inl (by omega), rfl, HE, hlt3, hD3, hS3, hB3⟩
        case round =>
          clear HE hlt3 hD3 hS3 hB3 hT'
          rename World => wq
          obtain ⟨m, r2, c2, off, hLm, hoff, hrc2, hrL, hr2, rfl, HE, hlt3, hD3, hS3, hB3⟩ := hrel
          have hT' : Hid (Tabs wq) := Lib.hid (hT.out.below hB3.out)
          rcases hr2 with h64' | rfl
          · obtain rfl : off = 64 * m := hoff.out (by omega)
            have hll : Hid ((last l).length = 64) := Lib.hid (last_len l k r 64 (by rw [hn.out]; exact hnr.out) (by omega) HLL.out)
            have HL : Hid ((((last l).drop (64 * m)).take 64).length = 64) := Lib.hid (by rw [List.length_take, List.length_drop, hll.out]; have := hLm.out; omega)
            have HBy : Hid (BytesAt wq wr.heap.size (64 * m) (((last l).drop (64 * m)).take 64)) := Lib.hid fun i hi => by
              rw [HL.out] at hi
              rw [HE.out (64 * m + i) (by have := hLm.out; omega), lastF, List.getD_eq_getElem?_getD, List.getD_eq_getElem?_getD, List.getElem?_take_of_lt hi, List.getElem?_drop]
            by_cases hc64 : c2 = 64
            · subst hc64
              obtain rfl : r2 = 64 := by omega
              go_wp2_with fail
              refine (absorb_any (w.heap.size + 1) 93 wr.heap.size (64 * m) 64 _ (((last l).drop (64 * m)).take 64) _ HL (Lib.hid (bytes_take (bytes_drop (last_bytes hb.out) _) _)) (Lib.hid (blocks_words _ _ (blocks_words _ _ hf_words))) (by omega) hS3 (by omega) (by omega) hT'.out.2.1 (by omega) (Lib.hid hT'.out.2.2.2) HBy).mono ?_
              rintro e w4 ⟨⟨v, rfl⟩, hs4, ho4⟩
              have HS4 := Lib.hid hs4
              have HO4 := Lib.hid ho4
              clear hs4 ho4
              go_wp2_with fail
              go_roundw
              case rel =>
                refine ⟨m + 1, 0, 0, _, Lib.hid (by have := hLm.out; omega), Lib.hid (fun h => absurd h (by omega)), by omega, by omega, .inr rfl, rfl, Lib.hid (fun j hj => (cell_only (p := ⟨wr.heap.size, j, none⟩) HO4.out hlt3 (by show wr.heap.size ≠ w.heap.size + 1; omega)).trans (HE.out j hj)), Nat.lt_of_lt_of_le hlt3 HO4.out.size, Lib.hid (rowIs_only hD3.out HO4.out (by omega)), Lib.hid (by rw [blocks_snoc]; exact HS4.out), Lib.hid (below_of_only hB3.out HO4.out hB3.out.size (by omega))⟩
              case measure => simp [lenOf]
            · have c64 : (c2 == 64) = false := by simpa using hc64
              obtain rfl : r2 = 64 := by omega
              go_wp2_with fail
              refine (absorb_any (w.heap.size + 1) 93 wr.heap.size (64 * m) c2 _ (((last l).drop (64 * m)).take 64) _ HL (Lib.hid (bytes_take (bytes_drop (last_bytes hb.out) _) _)) (Lib.hid (blocks_words _ _ (blocks_words _ _ hf_words))) (by omega) hS3 (by omega) (by omega) hT'.out.2.1 (by omega) (Lib.hid hT'.out.2.2.2) HBy).mono ?_
              rintro e w4 ⟨⟨v, rfl⟩, hs4, ho4⟩
              have HS4 := Lib.hid hs4
              have HO4 := Lib.hid ho4
              clear hs4 ho4
              go_wp2_with fail
              go_roundw
              case rel =>
                refine ⟨m + 1, 0, c2 - 64, _, Lib.hid (by have := hLm.out; omega), Lib.hid (fun h => by omega), by omega, by omega, (.inr rfl), rfl, Lib.hid (fun j hj => (cell_only (p := ⟨wr.heap.size, j, none⟩) HO4.out hlt3 (by show wr.heap.size ≠ w.heap.size + 1; omega)).trans (HE.out j hj)), Nat.lt_of_lt_of_le hlt3 HO4.out.size, Lib.hid (rowIs_only hD3.out HO4.out (by omega)), Lib.hid (by rw [blocks_snoc]; exact HS4.out), Lib.hid (below_of_only hB3.out HO4.out hB3.out.size (by omega))⟩
              case measure => simp [lenOf]
          · have hfin : Hid (blocks m (blocks k hf l) (last l) = fin l) := Lib.hid (by
              rw [fin_eq, last_len l k r 64 (by rw [hn.out]; exact hnr.out) (by omega) HLL.out, hn.out, show n / 64 = k by have := hnr.out; omega, show 64 / 64 = m by have := hLm.out; omega])
            have hS4 : Hid (wq.rowIs (w.heap.size + 1) 93 8 (stF (fin l))) := Lib.hid (by rw [← hfin.out]; exact hS3.out)
            have e0 : wq.cell? ⟨w.heap.size + 1, 0, none⟩ = some (.int .u32 (fin l 0 : Nat)) := hS4.out.cell (by omega)
            have e1 : wq.cell? ⟨w.heap.size + 1, 1, none⟩ = some (.int .u32 (fin l 1 : Nat)) := hS4.out.cell (by omega)
            have e2 : wq.cell? ⟨w.heap.size + 1, 2, none⟩ = some (.int .u32 (fin l 2 : Nat)) := hS4.out.cell (by omega)
            have e3 : wq.cell? ⟨w.heap.size + 1, 3, none⟩ = some (.int .u32 (fin l 3 : Nat)) := hS4.out.cell (by omega)
            have e4 : wq.cell? ⟨w.heap.size + 1, 4, none⟩ = some (.int .u32 (fin l 4 : Nat)) := hS4.out.cell (by omega)
            have e5 : wq.cell? ⟨w.heap.size + 1, 5, none⟩ = some (.int .u32 (fin l 5 : Nat)) := hS4.out.cell (by omega)
            have e6 : wq.cell? ⟨w.heap.size + 1, 6, none⟩ = some (.int .u32 (fin l 6 : Nat)) := hS4.out.cell (by omega)
            have e7 : wq.cell? ⟨w.heap.size + 1, 7, none⟩ = some (.int .u32 (fin l 7 : Nat)) := hS4.out.cell (by omega)
            go_wp2_with fail
            clear e0 e1 e2 e3 e4 e5 e6 e7
            go_loopw [54] (fun i wz => ∃ t : Nat, t ≤ 8 ∧ i = .int .i64 t ∧ Hid (wz.rowIs w.heap.size 24 32 (outF (fin l) t)) ∧ Hid (Below w.heap.size w wz)) (fun i _ => 8 - (intOf i).toNat)
            case atStart => exact ⟨0, by omega, rfl, Lib.hid (hD3.out.congr fun j hj => by unfold zeroF outF; rw [if_neg (by omega)]; rfl), hB3⟩
            case round =>
              clear hS4 hS3 hD3 hB3 HE hT' hlt3
              rename World => wz
              obtain ⟨t, ht, rfl, hD3, hB3⟩ := hrel
              by_cases hlt : t < 8
              · have hidx := index8 (.int .u32 (fin l 0 : Nat)) (.int .u32 (fin l 1 : Nat)) (.int .u32 (fin l 2 : Nat)) (.int .u32 (fin l 3 : Nat)) (.int .u32 (fin l 4 : Nat)) (.int .u32 (fin l 5 : Nat)) (.int .u32 (fin l 6 : Nat)) (.int .u32 (fin l 7 : Nat)) wz t hlt
                rw [get8 (fin l) t hlt] at hidx
                have hF := fin_words l t hlt
                have hsl := slice4 w.heap.size t wz hlt
                go_wp2_with fail
                refine (put_any w.heap.size (4 * t) 4 (32 - 4 * t) (fin l t) 24 32 _ _ (by omega) (by omega) (by omega) (by omega) hD3).mono ?_
                rintro e w5 ⟨⟨v, rfl⟩, hs5, ho5⟩
                rw [outF_put] at hs5
                have HS5 := Lib.hid hs5
                have HO5 := Lib.hid ho5
                clear hs5 ho5 hidx hsl
                go_wp2_with fail
                go_roundw
                case rel => exact ⟨t + 1, by omega, by go_num, HS5, Lib.hid (below_of_only hB3.out HO5.out hB3.out.size (Nat.le_refl _))⟩
                case measure => simp [intOf]; omega
              · have hD8 : Hid (wz.heap[w.heap.size]? = some (.cells ((sha l).map fun x => Value.int .u8 (x : Nat)).toArray 24 (0, 0))) := Lib.hid (by
                  have := rowIs_arr hD3.out
                  rw [show t = 8 by omega, sha_arr] at this
                  exact this)
                have dt : decide ((t : Int) < 8) = false := decide_eq_false (by omega)
                have hsz32 : (Tryd.prog.info? 24).map (·.size) = some ((sha l).map fun x => Value.int .u8 (x : Nat)).toArray.size := by
                  have : ((sha l).map fun x => Value.int .u8 (x : Nat)).toArray.size = 32 := by simp [sha_length]
                  rw [this]; show _ = _; kernel_rfl
                have HZ := Lib.hid hsz32
                clear hsz32
                go_wp2_with (first | ((with_reducible refine wpList_load_row rfl 24 (.tmp 2) rfl w.heap.size rfl 24 _ (0, 0) _ hD8.out Tryd.underlying24 rfl HZ.out ?_)) | ((with_reducible refine wpList_store_row rfl 24 (.tmp 2) (.tmp 68) rfl w.heap.size _ rfl rfl 24 _ hD8.out HZ.out rfl ?_ ?_)))
                all_goals first
                  | exact oneCells _
                  | (have hB' : Below w.heap.size w (wz.setRow w.heap.size ((sha l).map fun x => Value.int .u8 (x : Nat)).toArray) := below_setRow hB3.out (Nat.le_refl _) _
                     refine bodyPost_ret (results_cell_row rfl _ _ w.heap.size 24 _ (0, 0) _ rfl (setRow_heap wz w.heap.size _ _ _ _ hD8.out) Tryd.underlying24 rfl HZ.out) rfl ?_
                     exact ⟨rfl, hB'⟩)
end Go.Proofs.YtgcmbiegbclhmaaDoor
