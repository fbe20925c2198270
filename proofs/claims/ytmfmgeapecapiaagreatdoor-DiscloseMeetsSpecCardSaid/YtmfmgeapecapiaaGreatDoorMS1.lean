/- Rows of bytes that a call owns: append, slices.Grow of nil. Encodings of lists of numbers; trees of nodes with sums: plain functions, no program in sight. sizar/codec: what Encode says of integers and lists of integers. sizar/codec: numeral, unsigned. A region that draws its order, walked once per operation: each operation's value meets a fact of its own, whatever came before it. One proof for all orders. region_flow2: a region that draws, walked once per operation; a fact is kept only while someone still needs it. region_flow3: a region that draws, walked once per operation; a fact is kept only while someone still needs it; what holds throughout may speak of which operations are done. slices.Concat of two slices of bytes; sizar/digest.Tagged returns the hash under a tag. sizar/codec: the writer of integers. sizar/codec.newWriter. -/
import Derived.Maps.AppendAt
import Derived.Laws.AppendOwnNone
import Derived.Lib.AppendZerosOnto
import Derived.Lib.Walk
import Derived.Test.YtmfmgeapecapiaaGreatDoorMS0
import Derived.Lib.Hide
import Derived.IntWalk
import Derived.StillTail
import Derived.Deep.Quiet
import Derived.Deep.QuietTactic
import Derived.BigQuiet
import Derived.Lib.ConvBytes
import Derived.Laws.EntriesVeiled
set_option maxHeartbeats 64000001
open Go.Lib (hid)
namespace Go.Proofs.YtmfmgeapecapiaaGreatDoor
open Go.RowKit SzSha
set_option linter.unusedVariables false
/-- a slice that the call made holds these bytes -/
def OwnB (w : World) (base : Nat) (v : Value) (l : List Nat) : Prop := w.ownsRow base 5 1 v l.length (l.map fun x => Value.int .u8 (x : Nat))
theorem OwnB.nil (w : World) (base : Nat) : OwnB w base (.slice none 0 0) [] := ⟨rfl, .inl ⟨rfl, rfl⟩⟩
theorem OwnB.slice {w : World} {base : Nat} {v : Value} {l : List Nat} (h : OwnB w base v l) : ∃ A n c, v = .slice A n c ∧ Hid (l.length = n) ∧ n ≤ c ∧ Hid (A = none → c = 0) ∧ Hid (Rd w w.heap.size A l) := by
 rcases h.2 with ⟨rfl, h0⟩ | ⟨g, cap, cur, rfl, hb, hh, hc, hm, hs, ht⟩
 ·exact ⟨none, 0, 0, rfl, hid h0, by omega, hid fun _ => rfl, hid fun h => by omega⟩
 ·refine ⟨_, _, cap, rfl, hid rfl, hc, hid (fun h => by cases h), hid fun _ => ⟨g, 0, rfl, (Array.getElem?_eq_some_iff.1 hh).1, fun i hi => ?_⟩⟩
  rw [Nat.zero_add, cell_of_row w g i cur _ _ hh]
  have h1 : (cur.toList.take (l.length * 1))[i]? = cur[i]? := by rw [List.getElem?_take_of_lt (by omega)]; simp
  rw [← h1, ht, List.getElem?_map, List.getElem?_eq_getElem hi, List.getD_eq_getElem?_getD, List.getElem?_eq_getElem hi]
  rfl
theorem OwnB.kept {w w' : World} {base : Nat} {v : Value} {l : List Nat} (h : OwnB w base v l) (hk : ∀ g, v.ownBlock = some g → w'.heap[g]? = w.heap[g]?) : OwnB w' base v l := by
 refine ⟨h.1, ?_⟩
 rcases h.2 with h0 | ⟨g, cap, cur, rfl, hb, hh, r⟩
 ·exact .inl h0
 ·exact .inr ⟨g, cap, cur, rfl, hb, (hk g rfl).trans hh, r⟩
theorem OwnB.block {w : World} {base : Nat} {v : Value} {l : List Nat} (h : OwnB w base v l) (g : Nat) (hg : v.ownBlock = some g) : base ≤ g ∧ g < w.heap.size := by
 rcases h.2 with ⟨rfl, h0⟩ | ⟨g', cap, cur, rfl, hb, hh, r⟩
 ·cases hg
 ·have : g' = g := by simpa [Value.ownBlock] using hg
  subst this
  exact ⟨hb, (Array.getElem?_eq_some_iff.1 hh).1⟩
theorem OwnB.below {w w' : World} {base : Nat} {v : Value} {l : List Nat} (h : OwnB w base v l) (hb : Below w.heap.size w w') : OwnB w' base v l :=
 h.kept fun g hg => hb.block g (h.block g hg).2
set_option maxRecDepth 100000 in
/-- append of bytes to a slice that the call made -/
theorem wpList_append_bytes {w : World} {ops : Array Oper} {rest : List Oper} {o : Oper} {a : Act} {Q : Exit → Act → World → Prop} (hgd : o.guard = none) (s x : Operand)
  (ho : o.op = .call { callee := .builtin .append, args := #[s, x], argTypes := #[143, 143] })
  (base : Nat) (v : Value) (l r : List Nat) (hs : a.eval s = v) (hown : Hid (OwnB w base v l)) (A : Option Addr) (m c : Nat) (hx : a.eval x = .slice A m c) (hm : Hid (r.length = m)) (hn : A = none → c = 0)
  (hr : Hid (Rd w w.heap.size A r)) (hlen : l.length + m ≤ 1099511627776) (hbase : base ≤ w.heap.size)
  (h : ∀ v' w', Hid (OwnB w' base v' (l ++ r)) → Hid (Below base w w') → wpList Tryz.prog ops Q rest (a.put o.dst v') w') : wpList Tryz.prog ops Q (o :: rest) a w := by
 obtain ⟨i0, hi, hz0, hz1, hz2⟩ := info_parts info_u8
 obtain rfl := hm.out
 rcases A with _ | ad
 ·obtain rfl := hn rfl
  have h0 : r = [] := by
   apply Classical.byContradiction
   intro hne
   obtain ⟨g, off, e, _⟩ := hr.out (List.length_pos_iff.2 hne)
   cases e
  subst h0
  refine wpList_append_own_none hgd s x _ ho base _ i0 1 Tryz.underlying143 hi v _ _ hs hown.out hx ?_
  exact h v w (hid (by rw [List.append_nil]; exact hown.out)) (hid (Below.refl _ _))
 ·refine wpList_append_own_at _ hgd s x _ ho base _ i0 _ 1 1 Tryz.underlying143 hi hz0 hz1 hz2 rfl (by omega) v _ _ hs hown.out ad r.length c (r.map fun x => Value.int .u8 (x : Nat)) hx (by simp) (fun j u hu => ?_) (fun u hu => ?_) (by unfold maxLen; omega) (by omega) hbase ?_
  ·have hj : j < r.length := by have := (List.getElem?_eq_some_iff.1 hu).1; simpa using this
   obtain ⟨g, off, e, _, hc⟩ := hr.out (by omega)
   injection e with e
   subst e
   rw [add_row, hc j hj, ← hu, List.getElem?_map, List.getD_eq_getElem?_getD, List.getElem?_eq_getElem hj]
   rfl
  ·simp only [List.mem_map] at hu
   obtain ⟨x, _, rfl⟩ := hu
   rfl
  ·intro v' w' h1 h2 _ h3
   refine h v' w' (hid ?_) (hid ⟨h2.os, h2.tape, h2.output, h2.size, fun i hi => ?_⟩)
   ·unfold OwnB; rw [List.length_append, List.map_append]; exact h1
   ·refine h2.block i (Nat.lt_of_lt_of_le hi hbase) (fun e => ?_)
    have := (hown.out.block i e.symm).1
    omega
set_option maxRecDepth 100000 in
theorem grow_nil (n : Nat) (w : World) (hn : n ≤ 1099511627776) :
  Calls Tryz.prog 151 #[.slice none 0 0, .int .i64 n] w fun e w' => ∃ v, e = .returned v ∧ OwnB w' w.heap.size v [] ∧ Below w.heap.size w w' := by
 by_cases h0 : n = 0
 ·subst h0
  go_enter Tryz.func151, Tryz.ntmps151
  go_wp2_with fail
  go_ret
  exact ⟨_, rfl, OwnB.nil _ _, Below.refl _ _⟩
 ·obtain ⟨i0, hi, hz0, hz1, hz2⟩ := info_parts info_u8
  have hold : (Builtin.firstCells i0.size 0 (.slice none 0 0)).run Tryz.prog w.drew = .ok ([] : List Value).toArray w.drew := run_firstCells_none w.drew i0.size 0 0 0
  have hrz := Lib.run_append_grow_zeros (P := Tryz.prog) w 143 3 143 5 i0 (.int .u8 0) .i64 .i64 Tryz.underlying143 Tryz.underlying3 hi hz0 none 0 0 [] hold n (by omega) (by omega) (by omega) (by omega) (by rw [hz2]; omega) (growslice_fits (by omega) (by rw [hz2]; omega))
  have hG := grownCap_ge w (0 + n) 0 5
  have hG2 := grownCap_le_maxLen w (0 + n) 0 5 (by unfold maxLen; omega)
  generalize grownCap w (0 + n) 0 5 = G at *
  rw [Nat.zero_add] at hrz hG
  unfold maxLen at hG2
  have HR := hid hrz
  clear hrz hold
  have hn1 : 0 < n := by omega
  go_enter Tryz.func151, Tryz.ntmps151
  go_wp2_with (at_builtin; refine Lib.wpList_append_run _ rfl _ _ _ _ rfl _ _ rfl rfl _ _ HR.out ?_)
  go_ret
  refine ⟨_, rfl, ⟨rfl, .inr ⟨w.heap.size, G, _, rfl, Nat.le_refl _, heap_alloc_new w.drew _, by simp, by unfold maxLen; omega, ?_, by simp⟩⟩, ((Below.refl _ _).drew).alloc (Nat.le_refl _) _⟩
  simp [Builtin.zeroCells]
  omega
end Go.Proofs.YtmfmgeapecapiaaGreatDoor
namespace Go.Proofs.SzTree
open SzSha
set_option linter.unusedVariables false
/-- the unsigned form of an integer -/
def zig (z : Int) : Nat := if 0 ≤ z then (2 * z).toNat else (-2 * z - 1).toNat
theorem zig_lt {z : Int} (h1 : -9223372036854775808 ≤ z) (h2 : z ≤ 9223372036854775807) : zig z < 18446744073709551616 := by unfold zig; split <;> omega
/-- a numeral -/
def numB : Nat → Nat → List Nat
 | 0, u => [u % 128]
 | f + 1, u => if u < 128 then [u] else (u % 128 + 128) :: numB f (u / 128)
def num (u : Nat) : List Nat := numB 10 u
theorem numB_length : ∀ f u, (numB f u).length ≤ f + 1
 | 0, u => by simp [numB]
 | f + 1, u => by
  unfold numB; split
  ·simp
  ·have := numB_length f (u / 128); simp; omega
theorem numB_bytes : ∀ f u, Bytes (numB f u)
 | 0, u => fun x hx => by simp [numB] at hx; omega
 | f + 1, u => fun x hx => by
  unfold numB at hx; split at hx
  ·simp at hx; omega
  ·rcases List.mem_cons.1 hx with h | h
   ·omega
   ·exact numB_bytes f _ x h
/-- the digits ahead of the i-th -/
def numP : Nat → Nat → List Nat
 | 0, u => []
 | i + 1, u => (u % 128 + 128) :: numP i (u / 128)
theorem numP_length : ∀ i u, (numP i u).length = i
 | 0, _ => rfl
 | i + 1, u => by simp [numP, numP_length i]
theorem numP_snoc : ∀ i u, numP (i + 1) u = numP i u ++ [u / 128 ^ i % 128 + 128]
 | 0, u => by simp [numP]
 | i + 1, u => by
  have h := numP_snoc i (u / 128)
  show (u % 128 + 128) :: numP (i + 1) (u / 128) = _
  rw [h, Nat.div_div_eq_div_mul, Nat.pow_succ, Nat.mul_comm (128 ^ i)]; rfl
theorem numB_stop (f i : Nat) : ∀ u, (∀ j, j < i → 128 ≤ u / 128 ^ j) → u / 128 ^ i < 128 → i ≤ f → numB f u = numP i u ++ [u / 128 ^ i] := by
 induction i generalizing f with
 | zero =>
  intro u _ h _
  simp only [Nat.pow_zero, Nat.div_one] at h ⊢
  cases f with
  | zero => simp [numB, numP, Nat.mod_eq_of_lt h]
  | succ f => simp [numB, numP, h]
 | succ i ih =>
  intro u h1 h2 h3
  cases f with
  | zero => omega
  | succ f =>
   have h0 := h1 0 (by omega)
   simp only [Nat.pow_zero, Nat.div_one] at h0
   have hh := ih f (u / 128) (fun j hj => by
    have := h1 (j + 1) (by omega)
    rwa [Nat.pow_succ, Nat.mul_comm, ← Nat.div_div_eq_div_mul] at this) (by rwa [Nat.div_div_eq_div_mul, Nat.mul_comm, ← Nat.pow_succ]) (by omega)
   unfold numB
   rw [if_neg (by omega), hh, Nat.div_div_eq_div_mul, Nat.mul_comm 128, ← Nat.pow_succ]
   rfl
/-- the encoding of a list of integers -/
def encI (zs : List Int) : List Nat := 3 :: (num zs.length ++ zs.flatMap fun z => 1 :: num (zig z))
theorem encI_bytes (zs : List Int) : Bytes (encI zs) := fun x hx => by
 rcases List.mem_cons.1 hx with h | h
 ·omega
 ·rcases List.mem_append.1 h with h | h
  ·exact numB_bytes _ _ x h
  ·obtain ⟨z, _, h⟩ := List.mem_flatMap.1 h
   rcases List.mem_cons.1 h with h | h
   ·omega
   ·exact numB_bytes _ _ x h
theorem flat_length (zs : List Int) : (zs.flatMap fun z => 1 :: num (zig z)).length ≤ 12 * zs.length := by
 induction zs with
 | nil => simp
 | cons z zs ih =>
  have := numB_length 10 (zig z)
  simp only [List.flatMap_cons, List.length_append, List.length_cons, num] at *
  omega
theorem encI_length (zs : List Int) : (encI zs).length ≤ 12 + 12 * zs.length := by
 have h1 := flat_length zs
 have h2 := numB_length 10 zs.length
 simp only [encI, List.length_cons, List.length_append, num] at *
 omega
/-- the hash of bytes, followed by numbers, under a tag -/
def hashT (tag b : List Nat) (zs : List Int) : List Nat := tagged tag (b ++ encI zs)
/-- a node -/
structure Nd where
 d : List Nat
 c : Int
 p : Int
def sumT : List Nat := [115, 117, 109]
def joinN (a b : Nd) : Nd := ⟨hashT sumT (a.d ++ b.d) [a.c, a.p, b.c, b.p], a.c + b.c, a.p + b.p⟩
/-- the greatest power of 2 that is less than n -/
def halfF : Nat → Nat → Nat → Nat
 | 0, k, _ => k
 | f + 1, k, n => if 2 * k < n then halfF f (2 * k) n else k
def half (n : Nat) : Nat := halfF 64 1 n
theorem halfF_bd : ∀ f k n, 1 ≤ k → k < n → 1 ≤ halfF f k n ∧ halfF f k n < n
 | 0, k, n, h1, h2 => ⟨h1, h2⟩
 | f + 1, k, n, h1, h2 => by
  unfold halfF; split
  ·exact halfF_bd f _ n (by omega) (by omega)
  ·exact ⟨h1, h2⟩
theorem half_bd {n : Nat} (h : 2 ≤ n) : 1 ≤ half n ∧ half n < n := halfF_bd 64 1 n (by omega) (by omega)
/-- the root of leaves (at least one), by at most so many steps -/
def rootF : Nat → List Nd → Nd
 | 0, l => l.headD ⟨[], 0, 0⟩
 | f + 1, l => if l.length ≤ 1 then l.headD ⟨[], 0, 0⟩ else joinN (rootF f (l.take (half l.length))) (rootF f (l.drop (half l.length)))
def root (l : List Nd) : Nd := rootF l.length l
end Go.Proofs.SzTree
namespace Go.Proofs.YtmfmgeapecapiaaGreatDoor
open Go.RowKit SzSha SzTree
set_option linter.unusedVariables false
set_option maxRecDepth 100000 in
theorem formed_int (z : Int) (w : World) : Calls Tryz.prog 156 #[.agg #[.int .i64 1, .int .i64 z, .string ⟨#[]⟩, .slice none 0 0]] w fun e w' => e = .returned (.tuple #[.int .i64 0, .bool true]) ∧ Below w.heap.size w w' := by
 go_enter Tryz.func156, Tryz.ntmps156
 go_wp2_with fail
 all_goals
  go_ret2
  exact ⟨rfl, ((Below.refl _ _).alloc (Nat.le_refl _) _).alloc (by simp) _⟩
/-- the integers of a list, four cells each -/
def ValsAt (w : World) (g off : Nat) (zs : List Int) : Prop := ∀ i (hi : i < zs.length), w.cell? ⟨g, off + i * 4, none⟩ = some (.int .i64 1) ∧ w.cell? ⟨g, off + i * 4 + 1, none⟩ = some (.int .i64 zs[i]) ∧ w.cell? ⟨g, off + i * 4 + 2, none⟩ = some (.string ⟨#[]⟩) ∧ w.cell? ⟨g, off + i * 4 + 3, none⟩ = some (.slice none 0 0)
/-- a slice of integers of the codec -/
def VRd (w : World) (B : Nat) (A : Option Addr) (zs : List Int) : Prop := 0 < zs.length → ∃ g, A = some ⟨g, 0, none⟩ ∧ g < B ∧ ValsAt w g 0 zs
theorem ValsAt.below {w w' : World} {g off : Nat} {zs : List Int} (h : ValsAt w g off zs) (hg : g < w.heap.size) (hb : Below w.heap.size w w') : ValsAt w' g off zs := fun i hi => by
 obtain ⟨h0, h1, h2, h3⟩ := h i hi
 exact ⟨(hb.cell (p := ⟨g, _, none⟩) hg).trans h0, (hb.cell (p := ⟨g, _, none⟩) hg).trans h1, (hb.cell (p := ⟨g, _, none⟩) hg).trans h2, (hb.cell (p := ⟨g, _, none⟩) hg).trans h3⟩
theorem VRd.below {w w' : World} {A : Option Addr} {zs : List Int} (h : VRd w w.heap.size A zs) (hb : Below w.heap.size w w') : VRd w' w'.heap.size A zs := fun h0 => by
 obtain ⟨g, e, hg, hv⟩ := h h0
 exact ⟨g, e, Nat.lt_of_lt_of_le hg hb.size, hv.below hg hb⟩
set_option maxRecDepth 100000 in
theorem formed_list (zs : List Int) (A : Option Addr) (c : Nat) (w : World) (hn : zs.length ≤ 1000) (hV : Hid (VRd w w.heap.size A zs)) :
  Calls Tryz.prog 156 #[.agg #[.int .i64 3, .int .i64 0, .string ⟨#[]⟩, .slice A zs.length c]] w fun e w' => e = .returned (.tuple #[.int .i64 1, .bool true]) ∧ Below w.heap.size w w' := by
 obtain ⟨n, HN⟩ : ∃ n, Hid (zs.length = n) := ⟨_, hid rfl⟩
 rw [HN.out]
 have hn' : n ≤ 1000 := by rw [← HN.out]; exact hn
 obtain ⟨b, hbz⟩ : ∃ b, ((n : Int) == 0) = b := ⟨_, rfl⟩
 clear hn
 go_enter Tryz.func156, Tryz.ntmps156
 go_wp2_with fail
 have HB0 := hid (((Below.refl _ w).alloc (Nat.le_refl _) (.cells #[.int .i64 3, .int .i64 0, .string ⟨#[]⟩, .slice A n c] 148)).alloc (by simp) (.cells #[.bool false, .bool b, .bool b, .bool true] 214))
 clear hbz
 go_loopw [2, 57] (fun d i wr => ∃ j : Nat, j ≤ n ∧ d = .int .i64 0 ∧ i = .int .i64 j ∧ Hid (Below w.heap.size w wr)) (fun _ i _ => n - (intOf i).toNat)
 case atStart => exact ⟨0, by omega, rfl, rfl, HB0⟩
 case round =>
  clear HB0
  obtain ⟨j, hj, rfl, rfl, HB⟩ := hrel
  by_cases hlt : j < n
  ·obtain ⟨g, rfl, hg, hv⟩ := hV.out (by rw [HN.out]; omega)
   have hv2 := (hv.below hg HB.out) j (by rw [HN.out]; exact hlt)
   obtain ⟨z, HZ⟩ : ∃ z, Hid (zs[j]'(by rw [HN.out]; exact hlt) = z) := ⟨_, hid rfl⟩
   rw [HZ.out, Nat.zero_add] at hv2
   obtain ⟨k0, k1, k2, k3⟩ := hv2
   have HV := hid hv
   clear hv
   have d1 : decide ((j : Int) < (n : Int)) = true := eQ (by omega)
   go_wp2_with fail
   refine (formed_int z _).mono ?_
   rintro e w2 ⟨rfl, hq⟩
   have HB2 := hid ((HB.out.alloc HB.out.size (.cells #[.int .i64 1, .int .i64 z, .string ⟨#[]⟩, .slice none 0 0] 148)).trans (hq.mono (by have := HB.out.size; simp; omega)))
   clear hq k0 k1 k2 k3
   go_wp2_with fail
   go_roundw
   case rel => exact ⟨j + 1, by omega, rfl, by go_num, HB2⟩
   case measure => simp [intOf]; omega
  ·have d1 : decide ((j : Int) < (n : Int)) = false := dQ (by omega)
   go_wp2_with fail
   go_ret2
   exact ⟨rfl, HB.out⟩
set_option maxRecDepth 100000 in
theorem vcheck_list (zs : List Int) (A : Option Addr) (c : Nat) (w : World) (hn : zs.length ≤ 1000) (hV : Hid (VRd w w.heap.size A zs)) :
  Calls Tryz.prog 138 #[.agg #[.int .i64 3, .int .i64 0, .string ⟨#[]⟩, .slice A zs.length c]] w fun e w' => e = .returned (.int .i64 0) ∧ Below w.heap.size w w' := by
 have HB0 := hid ((Below.refl _ w).alloc (Nat.le_refl _) (.cells #[.int .i64 3, .int .i64 0, .string ⟨#[]⟩, .slice A zs.length c] 148))
 have HV := hid (hV.out.below HB0.out)
 go_enter Tryz.func138, Tryz.ntmps138
 go_wp2_with fail
 refine (formed_list zs A c _ hn HV).mono ?_
 rintro e w2 ⟨rfl, hq⟩
 have HB2 := hid (HB0.out.trans (hq.mono HB0.out.size))
 clear hq
 go_wp2_with fail
 go_ret
 exact ⟨rfl, HB2.out⟩
set_option maxRecDepth 100000
/-- a slice that the call made grew: its own block alone may have changed, or it lies in a new one -/
def Grew (v v' : Value) (w w' : World) : Prop := w.grownBy w' v.ownBlock ∧ (v'.ownBlock = v.ownBlock ∨ ∃ g, v'.ownBlock = some g ∧ w.heap.size ≤ g)
theorem Grew.refl (v : Value) (w : World) : Grew v v w w := ⟨⟨rfl, rfl, rfl, Nat.le_refl _, fun _ _ _ => rfl⟩, .inl rfl⟩
theorem Grew.trans {v v1 v2 : Value} {w w1 w2 : World} (h : Grew v v1 w w1) (k : Grew v1 v2 w1 w2) : Grew v v2 w w2 := by
 refine ⟨⟨k.1.os.trans h.1.os, k.1.tape.trans h.1.tape, k.1.output.trans h.1.output, Nat.le_trans h.1.size k.1.size, fun i hi hne => (k.1.block i (Nat.lt_of_lt_of_le hi h.1.size) (fun e => ?_)).trans (h.1.block i hi hne)⟩, ?_⟩
 ·rcases h.2 with e1 | ⟨g, e1, hg⟩
  ·exact hne (e.trans e1)
  ·rw [e1] at e
   injection e with e
   omega
 ·rcases k.2 with e1 | ⟨g, e1, hg⟩
  ·rcases h.2 with e2 | ⟨g, e2, hg⟩
   ·exact .inl (e1.trans e2)
   ·exact .inr ⟨g, e1.trans e2, hg⟩
  ·exact .inr ⟨g, e1, Nat.le_trans h.1.size hg⟩
theorem Grew.ahead {v v' : Value} {w w1 w2 : World} (hb : Below w.heap.size w w1) (k : Grew v v' w1 w2) : Grew v v' w w2 := by
 refine ⟨⟨k.1.os.trans hb.os, k.1.tape.trans hb.tape, k.1.output.trans hb.output, Nat.le_trans hb.size k.1.size, fun i hi hne => (k.1.block i (Nat.lt_of_lt_of_le hi hb.size) hne).trans (hb.block i hi)⟩, ?_⟩
 rcases k.2 with e1 | ⟨g, e1, hg⟩
 ·exact .inl e1
 ·exact .inr ⟨g, e1, Nat.le_trans hb.size hg⟩
theorem Grew.then {v v' : Value} {w w1 w2 : World} (k : Grew v v' w w1) (hb : Below w1.heap.size w1 w2) : Grew v v' w w2 :=
 ⟨⟨hb.os.trans k.1.os, hb.tape.trans k.1.tape, hb.output.trans k.1.output, Nat.le_trans k.1.size hb.size, fun i hi hne => (hb.block i (Nat.lt_of_lt_of_le hi k.1.size)).trans (k.1.block i hi hne)⟩, k.2⟩
theorem Grew.below {v v' : Value} {w w' : World} {base : Nat} (k : Grew v v' w w') (hb : base ≤ w.heap.size) (hv : ∀ g, v.ownBlock = some g → base ≤ g) : Below base w w' :=
 ⟨k.1.os, k.1.tape, k.1.output, k.1.size, fun i hi => k.1.block i (by omega) (fun e => by have := hv i e.symm; omega)⟩
theorem wpList_append_grew {w : World} {ops : Array Oper} {rest : List Oper} {o : Oper} {a : Act} {Q : Exit → Act → World → Prop} (hgd : o.guard = none) (s x : Operand)
  (ho : o.op = .call { callee := .builtin .append, args := #[s, x], argTypes := #[143, 143] })
  (base : Nat) (v : Value) (l r : List Nat) (hs : a.eval s = v) (hown : Hid (OwnB w base v l)) (A : Option Addr) (m c : Nat) (hx : a.eval x = .slice A m c) (hm : Hid (r.length = m)) (hn : A = none → c = 0)
  (hr : Hid (Rd w w.heap.size A r)) (hlen : l.length + m ≤ 1099511627776) (hbase : base ≤ w.heap.size)
  (h : ∀ v' w', Hid (OwnB w' base v' (l ++ r)) → Hid (Grew v v' w w') → wpList Tryz.prog ops Q rest (a.put o.dst v') w') : wpList Tryz.prog ops Q (o :: rest) a w := by
 obtain ⟨i0, hi, hz0, hz1, hz2⟩ := info_parts info_u8
 obtain rfl := hm.out
 rcases A with _ | ad
 ·obtain rfl := hn rfl
  have h0 : r = [] := by
   apply Classical.byContradiction
   intro hne
   obtain ⟨g, off, e, _⟩ := hr.out (List.length_pos_iff.2 hne)
   cases e
  subst h0
  refine wpList_append_own_none hgd s x _ ho base _ i0 1 Tryz.underlying143 hi v _ _ hs hown.out hx ?_
  exact h v w (hid (by rw [List.append_nil]; exact hown.out)) (hid (Grew.refl _ _))
 ·refine wpList_append_own_at _ hgd s x _ ho base _ i0 _ 1 1 Tryz.underlying143 hi hz0 hz1 hz2 rfl (by omega) v _ _ hs hown.out ad r.length c (r.map fun x => Value.int .u8 (x : Nat)) hx (by simp) (fun j u hu => ?_) (fun u hu => ?_) (by unfold maxLen; omega) (by omega) hbase ?_
  ·have hj : j < r.length := by have := (List.getElem?_eq_some_iff.1 hu).1; simpa using this
   obtain ⟨g, off, e, _, hc⟩ := hr.out (by omega)
   injection e with e
   subst e
   rw [add_row, hc j hj, ← hu, List.getElem?_map, List.getD_eq_getElem?_getD, List.getElem?_eq_getElem hj]
   rfl
  ·simp only [List.mem_map] at hu
   obtain ⟨x, _, rfl⟩ := hu
   rfl
  ·intro v' w' h1 h2 h3 h4
   refine h v' w' (hid ?_) (hid ⟨h2, ?_⟩)
   ·unfold OwnB
    rw [List.length_append, List.map_append]; exact h1
   ·rcases h4 with e | e
    ·exact .inl e
    ·exact .inr ⟨_, e, Nat.le_refl _⟩
theorem one_rowU (W : World) (x : Nat) : Rd (W.alloc (.cells #[.int .u8 (x : Nat)] 5)) (W.alloc (.cells #[.int .u8 (x : Nat)] 5)).heap.size (some ⟨W.heap.size, 0, none⟩) [x] := fun _ =>
 ⟨_, 0, rfl, by simp, fun i hi => by
  have : i = 0 := by simpa using hi
  subst this
  rw [Nat.add_zero, cell_of_row _ _ _ _ _ _ (heap_alloc_new W _)]; rfl⟩
theorem or128 (x : Nat) (h : x < 256) : bits .or .u8 (x : Int) 128 = ((x % 128 + 128 : Nat) : Int) := by
 have : ∀ y : Fin 256, bits .or .u8 ((y : Nat) : Int) 128 = (((y : Nat) % 128 + 128 : Nat) : Int) := by decide +kernel
 exact this ⟨x, h⟩
set_option maxRecDepth 100000 in
theorem numeral_any (v : Value) (l : List Nat) (u base : Nat) (w : World) (hO : Hid (OwnB w base v l)) (hl : l.length ≤ 1099511620000) (hu : u < 18446744073709551616) (hb : base ≤ w.heap.size) :
  Calls Tryz.prog 158 #[v, .int .u64 (u : Nat)] w fun e w' => ∃ v', e = .returned v' ∧ OwnB w' base v' (l ++ num u) ∧ Grew v v' w w' := by
 go_enter Tryz.func158, Tryz.ntmps158
 go_wp2_with fail
 go_loopw [0, 1] (fun v2 i wr => ∃ j k : Nat, j ≤ 10 ∧ i = .int .u64 (k : Nat) ∧ Hid (k = u / 128 ^ j ∧ ∀ t, t < j → 128 ≤ u / 128 ^ t) ∧ Hid (OwnB wr base v2 (l ++ numP j u)) ∧ Hid (Grew v v2 w wr)) (fun _ i _ => (intOf i).toNat)
 case atStart => exact ⟨0, u, by omega, rfl, hid ⟨by simp, fun t ht => by omega⟩, hid (by rw [numP, List.append_nil]; exact hO.out), hid (Grew.refl _ _)⟩
 case round =>
  clear hO
  obtain ⟨j, k, hj, rfl, HK, hO, hB⟩ := hrel
  by_cases hlt : 128 ≤ k
  ·have hj9 : j < 10 := by
    rcases Nat.lt_or_ge j 10 with h | h
    ·exact h
    ·exfalso
     have e : j = 10 := by omega
     have := HK.out.1
     rw [e, Nat.div_eq_of_lt (by omega)] at this
     omega
   have hkl : k < 18446744073709551616 := by have := HK.out.1; have := Nat.div_le_self u (128 ^ j); omega
   obtain ⟨x, HX⟩ : ∃ x : Nat, Hid (k % 256 = x) := ⟨_, hid rfl⟩
   have hx : (k : Int) % 256 = (x : Int) := by rw [← HX.out]; omega
   obtain ⟨y, HY⟩ : ∃ y : Nat, Hid (x % 128 + 128 = y) := ⟨_, hid rfl⟩
   have hy : bits .or .u8 (x : Int) 128 = (y : Int) := by rw [or128 x (by rw [← HX.out]; omega), HY.out]
   obtain ⟨m, HM⟩ : ∃ m : Nat, Hid (k / 128 = m) := ⟨_, hid rfl⟩
   have hm : (k : Int) / 128 = (m : Int) := by rw [← HM.out]; omega
   have d1 : decide ((128 : Int) ≤ (k : Int)) = true := eQ (by omega)
   have hlen : (l ++ numP j u).length + 1 ≤ 1099511627776 := by rw [List.length_append, numP_length]; omega
   have HB1 := hid (hB.out.then ((Below.refl _ _).alloc (Nat.le_refl _) (.cells #[.int .u8 (y : Nat)] 5)))
   have HO1 : Hid (OwnB (wr.alloc (.cells #[.int .u8 (y : Nat)] 5)) base _ (l ++ numP j u)) := hid (hO.out.below ((Below.refl _ _).alloc (Nat.le_refl _) _))
   have HS1 := hid (Nat.le_trans hb HB1.out.1.size)
   go_wp2_with (at_builtin; refine wpList_append_grew rfl (.tmp 9) (.tmp 13) rfl base _ _ [y] rfl HO1 (some ⟨wr.heap.size, 0, none⟩) 1 1 rfl (hid rfl) (fun h => by cases h) (hid (one_rowU wr y)) hlen HS1.out ?_; intro v2 w2 HO2 HB2)
   go_roundw
   case rel =>
    refine ⟨j + 1, m, by omega, rfl, hid ⟨by rw [← HM.out, HK.out.1, Nat.div_div_eq_div_mul, ← Nat.pow_succ], fun t ht => ?_⟩, hid ?_, hid (HB1.out.trans HB2.out)⟩
    ·rcases Nat.lt_or_ge t j with h | h
     ·exact HK.out.2 t h
     ·have e : t = j := by omega
      rw [e, ← HK.out.1]; exact hlt
    ·have e : u / 128 ^ j % 128 + 128 = y := by rw [← HK.out.1, ← HY.out, ← HX.out]; omega
     rw [numP_snoc, e, ← List.append_assoc]; exact HO2.out
   case measure => have := HM.out; simp [intOf]; omega
  ·have d1 : decide ((128 : Int) ≤ (k : Int)) = false := dQ (by omega)
   have hx : (k : Int) % 256 = (k : Int) := by omega
   have hkk : k < 256 := by omega
   have hlen : (l ++ numP j u).length + 1 ≤ 1099511627776 := by rw [List.length_append, numP_length]; omega
   have HB1 := hid (hB.out.then ((Below.refl _ _).alloc (Nat.le_refl _) (.cells #[.int .u8 (k : Nat)] 5)))
   have HO1 : Hid (OwnB (wr.alloc (.cells #[.int .u8 (k : Nat)] 5)) base _ (l ++ numP j u)) := hid (hO.out.below ((Below.refl _ _).alloc (Nat.le_refl _) _))
   have HS1 := hid (Nat.le_trans hb HB1.out.1.size)
   have HE : Hid (l ++ num u = l ++ numP j u ++ [k]) := hid (by
    rw [num, numB_stop 10 j u HK.out.2 (by rw [← HK.out.1]; omega) hj, ← HK.out.1, List.append_assoc])
   clear hlt
   go_wp2_with (at_builtin; refine wpList_append_grew rfl (.tmp 15) (.tmp 18) rfl base _ _ [k] rfl HO1 (some ⟨wr.heap.size, 0, none⟩) 1 1 rfl (hid rfl) (fun h => by cases h) (hid (one_rowU wr k)) hlen HS1.out ?_; intro v2 w2 HO2 HB2)
   go_ret
   exact ⟨_, rfl, by rw [HE.out]; exact HO2.out, HB1.out.trans HB2.out⟩
theorem xor0 (a : Int) (h0 : 0 ≤ a) (h : a < 18446744073709551616) : bits .xor .u64 a 0 = a := by
 show IntKind.u64.wrap ((BitVec.ofInt 64 a ^^^ BitVec.ofInt 64 0).toNat : Int) = _
 rw [show BitVec.ofInt 64 0 = 0#64 by decide, BitVec.xor_zero, BitVec.toNat_ofInt, IntKind.wrap_u64, show ((2 ^ 64 : Nat) : Int) = 18446744073709551616 from rfl]
 omega
theorem xorAll (a : Int) (h0 : 0 ≤ a) (h : a < 18446744073709551616) : bits .xor .u64 a 18446744073709551615 = 18446744073709551615 - a := by
 show IntKind.u64.wrap ((BitVec.ofInt 64 a ^^^ BitVec.ofInt 64 18446744073709551615).toNat : Int) = _
 rw [show BitVec.ofInt 64 18446744073709551615 = BitVec.allOnes 64 by decide, BitVec.xor_allOnes, BitVec.toNat_not, BitVec.toNat_ofInt, IntKind.wrap_u64, show ((2 ^ 64 : Nat) : Int) = 18446744073709551616 from rfl, show (2 : Nat) ^ 64 = 18446744073709551616 from rfl]
 omega
theorem zigE (z : Int) (h1 : -9223372036854775808 ≤ z) (h2 : z ≤ 9223372036854775807) : bits .xor .u64 (IntKind.u64.wrap (IntKind.u64.wrap z * 2)) (IntKind.u64.wrap (z / 9223372036854775808)) = (zig z : Nat) := by
 simp only [IntKind.wrap_u64]
 unfold zig
 by_cases h : 0 ≤ z
 ·rw [if_pos h, show z / 9223372036854775808 % 18446744073709551616 = 0 by omega, xor0 _ (by omega) (by omega)]
  omega
 ·rw [if_neg h, show z / 9223372036854775808 % 18446744073709551616 = 18446744073709551615 by omega, xorAll _ (by omega) (by omega)]
  omega
set_option maxRecDepth 100000 in
theorem unsigned_any (z : Int) (w : World) (h1 : -9223372036854775808 ≤ z) (h2 : z ≤ 9223372036854775807) :
  Calls Tryz.prog 159 #[.int .i64 z] w fun e w' => e = .returned (.int .u64 (zig z : Nat)) ∧ w = w' := by
 go_enter Tryz.func159, Tryz.ntmps159
 go_wp2_with fail
 go_ret
 exact ⟨by rw [← zigE z h1 h2]; rfl, rfl⟩
section
variable {P : Program} {ops : Array Oper}
def upd (x : Nat → Value) (i : Nat) (v : Value) : Nat → Value := fun j => bif Nat.beq j i then v else x j
theorem upd_same (x : Nat → Value) (i : Nat) (v : Value) : upd x i v i = v := by unfold upd; rw [show Nat.beq i i = true by simp]; rfl
theorem upd_ne (x : Nat → Value) (v : Value) {i j : Nat} (h : j ≠ i) : upd x i v j = x j := by
 unfold upd; rw [show Nat.beq j i = false by cases hb : Nat.beq j i; rfl; exact absurd (Nat.eq_of_beq_eq_true hb) h]; rfl
/-- what an operation must reach: its own fact, the others' kept; no other way out -/
def FlowPost (k : Nat → Nat) (build : (Nat → Value) → Array Value) (df : List Deferred) (C : World → Prop) (S : Nat → Value → Value → World → Prop) (i : Nat) (x : Nat → Value) (w : World) : Exit → Act → World → Prop
 | .normal, a', w' => ∃ v, a' = ⟨build (upd x i v), df⟩ ∧ C w' ∧ S i v (upd x i v (k i)) w' ∧ ∀ j u t, j ≠ i → S j u t w → S j u t w'
 | _, _, _ => False
def Deps (k : Nat → Nat) (S : Nat → Value → Value → World → Prop) (x : Nat → Value) (w : World) : List Edge → Prop
 | [] => True
 | e :: l => (Region.binds .any e = true → S e.on (x e.on) (x (k e.on)) w) ∧ Deps k S x w l
def FlowAll (P : Program) (ops : Array Oper) (k : Nat → Nat) (build : (Nat → Value) → Array Value) (df : List Deferred) (C : World → Prop) (S : Nat → Value → Value → World → Prop) : Nat → List Oper → Prop
 | _, [] => True
 | i, o :: l => (∀ x w, C w → Deps k S x w o.after.toList → wpList P ops (FlowPost k build df C S i x w) [o] ⟨build x, df⟩ w) ∧ FlowAll P ops k build df C S (i + 1) l
theorem FlowAll.at {k : Nat → Nat} {build : (Nat → Value) → Array Value} {df : List Deferred} {C : World → Prop} {S : Nat → Value → Value → World → Prop} :
  ∀ (l : List Oper) (m i : Nat) (o : Oper), FlowAll P ops k build df C S m l → l[i]? = some o → ∀ x w, C w → Deps k S x w o.after.toList → wpList P ops (FlowPost k build df C S (m + i) x w) [o] ⟨build x, df⟩ w
 | [], m, i, o, _, h => by simp at h
 | o' :: l, m, 0, o, h, ho => by
  have : o' = o := by simpa using ho
  subst this
  exact h.1
 | o' :: l, m, i + 1, o, h, ho => by
  have := FlowAll.at l (m + 1) i o h.2 (by simpa using ho)
  rw [show m + (i + 1) = m + 1 + i by omega]
  exact this
theorem deps_of {k : Nat → Nat} {S : Nat → Value → Value → World → Prop} {x : Nat → Value} {w : World} : ∀ l : List Edge, (∀ e ∈ l, Region.binds .any e = true → S e.on (x e.on) (x (k e.on)) w) → Deps k S x w l
 | [], _ => trivial
 | e :: l, h => ⟨h e (by simp), deps_of l fun e' he => h e' (by simp [he])⟩
theorem wp_flow {o : Oper} {a : Act} {w : World} {K : Act → World → Prop} {Q Q' : Exit → Act → World → Prop} (hQ : ∀ e a w, e ≠ .normal → ¬ Q' e a w) (hK : ∀ a' w', Q' .normal a' w' → K a' w')
  (hh : o.wp P a w (wpList P ops Q' []) Q') : o.wp P a w K Q := by
 have hL : ¬ LetsOut Q' := fun ⟨a, w, h⟩ => hQ _ a w (by simp) h
 unfold Oper.wp at *
 generalize (execOp a.eval o).run P w = r at *
 cases r with
 | ok n w' =>
  cases n <;> simp only [Oper.upon] at hh ⊢ <;>
   first
    | exact hK _ _ hh
    | exact Calls.mono hh (fun e w'' he => by cases e <;> first | exact hK _ _ he | exact absurd he (hQ _ _ _ (by simp)) | exact absurd he hL)
    | exact Rows.mono hh (fun _ _ he => hK _ _ he)
 | halt x w' => cases x <;> simp only [Oper.upon] at hh ⊢ <;> exact absurd hh (hQ _ _ _ (by simp))
theorem wpOp_flow {i : Nat} {o : Oper} {a : Act} {w : World} {K : Act → World → Prop} {Q Q' : Exit → Act → World → Prop} (ho : ops[i]? = some o) (hQ : ∀ e a w, e ≠ .normal → ¬ Q' e a w) (hK : ∀ a' w', Q' .normal a' w' → K a' w')
  (h : wpList P ops Q' [o] a w) : wpOp P ops Q i K a w := by
 have hL : ¬ LetsOut Q' := fun ⟨a, w, h⟩ => hQ _ a w (by simp) h
 unfold wpList at h
 unfold wpOp
 simp only [ho]
 split at h
 ·rename_i hw
  rw [if_pos hw]
  rcases h with h | h
  ·exact .inl (wp_flow hQ hK h)
  ·exact absurd h.2 hL
 ·rename_i hw
  rw [if_neg hw]
  exact hK _ _ h
/-- each operation waits for earlier ones alone -/
def flowB (l : List Oper) : Bool := (List.range l.length).all fun i => (l[i]?.map fun o => o.after.all fun e => !Region.binds .any e || decide (e.on < i)).getD true
/-- what a fact is tied to, its operation waits for -/
def tiedB (k : Nat → Nat) (l : List Oper) : Bool := (List.range l.length).all fun i => Nat.beq (k i) i || (l[i]?.map fun o => o.after.any fun e => Region.binds .any e && Nat.beq e.on (k i)).getD true
def cnt (listed : Array Bool) (n : Nat) : Nat := (List.range n).countP fun i => !listed.getD i true
theorem countP_drop {p q : Nat → Bool} {i : Nat} : ∀ l : List Nat, l.Nodup → i ∈ l → p i = true → q i = false → (∀ j, j ≠ i → q j = p j) → l.countP q + 1 = l.countP p
 | [], _, h, _, _, _ => by cases h
 | a :: l, hn, hi, hp, hq, hj => by
  by_cases e : a = i
  ·subst e
   have hna : a ∉ l := (List.nodup_cons.1 hn).1
   have hl : l.countP q = l.countP p := List.countP_congr fun x hx => by rw [hj x (fun e => hna (e ▸ hx))]
   rw [List.countP_cons, List.countP_cons, hp, hq, hl]; simp
  ·have hm : i ∈ l := by rcases List.mem_cons.1 hi with h | h; exact absurd h.symm e; exact h
   have ih := countP_drop l (List.nodup_cons.1 hn).2 hm hp hq hj
   rw [List.countP_cons, List.countP_cons, hj a e]; omega
theorem any_flow {k : Nat → Nat} {l : List Oper} {Q : Exit → Act → World → Prop} {build : (Nat → Value) → Array Value} {df : List Deferred} {C : World → Prop} {S : Nat → Value → Value → World → Prop} (hB : flowB l = true) (hk : tiedB k l = true) (hall : FlowAll P l.toArray k build df C S 0 l)
  (hend : ∀ x w, C w → (∀ i, i < l.length → S i (x i) (x (k i)) w) → Q .normal ⟨build x, df⟩ w) :
  ∀ (f : Nat) (listed : Array Bool) (x : Nat → Value) (w : World), listed.size = l.length → cnt listed l.length ≤ f → C w → (∀ i, listed.getD i false = true → S i (x i) (x (k i)) w) → (∀ i, listed.getD i false = true → listed.getD (k i) false = true) → wpAny P .any l.toArray Q f listed ⟨build x, df⟩ w := by
 have hfull : ∀ (listed : Array Bool) (x : Nat → Value) (w : World), listed.size = l.length → C w → (∀ i, listed.getD i false = true → S i (x i) (x (k i)) w) → Region.ready .any l.toArray listed = [] → Q .normal ⟨build x, df⟩ w := by
  intro listed x w hs hC hS hr
  have hlt : ∀ n i, i < n → i < l.length → listed.getD i true = true := by
   intro n
   induction n with
   | zero => intro i hi; omega
   | succ n ih =>
    intro i hi hil
    rcases Nat.lt_or_ge i n with h | h
    ·exact ih i h hil
    ·obtain rfl : i = n := by omega
     apply Classical.byContradiction
     intro hne
     have hf : listed.getD i true = false := by simpa using hne
     have : i ∈ Region.ready .any l.toArray listed := by
      refine mem_ready.2 ⟨hf, l[i], by simp [hil], fun e he hbd => ?_⟩
      have h1 := List.all_eq_true.1 hB i (by simpa using hil)
      simp only [List.getElem?_eq_getElem hil, Option.map_some, Option.getD_some] at h1
      have h2 := Array.all_eq_true_iff_forall_mem.1 h1 e he
      have h3 : e.on < i := by rw [hbd] at h2; simpa using h2
      have h4 := ih e.on h3 (by omega)
      have h5 : e.on < listed.size := by omega
      simp only [Array.getD, h5, dite_true] at h4 ⊢
      exact h4
     rw [hr] at this
     cases this
  refine hend x w hC fun i hi => hS i ?_
  have h4 := hlt (i + 1) i (by omega) hi
  have h5 : i < listed.size := by omega
  simp only [Array.getD, h5, dite_true] at h4 ⊢
  exact h4
 intro f
 induction f with
 | zero =>
  intro listed x w hs hc hC hS hT
  have hr : Region.ready .any l.toArray listed = [] := by
   rw [List.eq_nil_iff_forall_not_mem]
   intro i hi
   obtain ⟨hu, o, ho, _⟩ := mem_ready.1 hi
   have hil : i < l.length := by have := (Array.getElem?_eq_some_iff.1 ho).1; simpa using this
   have : 0 < cnt listed l.length := List.countP_pos_iff.2 ⟨i, by simpa using hil, by rw [hu]; rfl⟩
   omega
  exact ⟨hr, hfull listed x w hs hC hS hr⟩
 | succ f ih =>
  intro listed x w hs hc hC hS hT
  refine ⟨fun hr => hfull listed x w hs hC hS hr, fun i hi => ?_⟩
  obtain ⟨hu, o, ho, hd⟩ := mem_ready.1 hi
  have hil : i < l.length := by have := (Array.getElem?_eq_some_iff.1 ho).1; simpa using this
  have hstep := hall.at l 0 i o (by simpa using ho) x w hC (deps_of _ fun e he hb => hS e.on (hd e (by simpa using he) hb))
  rw [Nat.zero_add] at hstep
  refine wpOp_flow ho (fun e a w he h => ?_) (fun a' w' h => ?_) hstep
  ·cases e <;> first | exact he rfl | exact h
  ·obtain ⟨v, rfl, hC', hS', hk'⟩ := h
   refine ih _ _ _ (by simp [hs]) ?_ hC' (fun j hj => ?_) fun j hj => ?_
   ·have h1 := countP_drop (p := fun k => !listed.getD k true) (q := fun k => !(listed.setIfInBounds i true).getD k true) (i := i) (List.range l.length) List.nodup_range (by simpa using hil) (by rw [hu]; rfl)
     (by have : i < (listed.setIfInBounds i true).size := by simp; omega
         simp only [Array.getD, this, dite_true]; simp) (fun j hj => by rw [getD_set_ne true (Ne.symm hj)])
    have h2 : cnt listed l.length ≤ f + 1 := hc
    unfold cnt at h2 ⊢
    omega
   ·by_cases e : j = i
    ·subst e; rw [upd_same]; exact hS'
    ·rw [getD_set_ne false (Ne.symm e)] at hj
     have hki : k j ≠ i := fun e2 => by
      have := hT j hj
      rw [e2, getD_both hu] at this
      cases this
     rw [upd_ne x v e, upd_ne x v hki]
     exact hk' j _ _ e (hS j hj)
   ·have hset : ∀ m, listed.getD m false = true → (listed.setIfInBounds i true).getD m false = true := fun m hm => by
     by_cases e : m = i
     ·subst e; rw [getD_both hu] at hm; cases hm
     ·rw [getD_set_ne false (Ne.symm e)]; exact hm
    by_cases e : j = i
    ·subst e
     have h1 := List.all_eq_true.1 hk j (by simpa using hil)
     simp only [Bool.or_eq_true] at h1
     rcases h1 with h1 | h1
     ·rw [Nat.eq_of_beq_eq_true h1]; exact hj
     ·have ho' : l[j]? = some o := by simpa using ho
      rw [ho', Option.map_some, Option.getD_some] at h1
      obtain ⟨m, hm, h2⟩ := Array.any_eq_true.1 h1
      obtain ⟨e, he, h2⟩ : ∃ e ∈ o.after, (Region.binds .any e && Nat.beq e.on (k j)) = true := ⟨_, Array.getElem_mem hm, h2⟩
      simp only [Bool.and_eq_true] at h2
      rw [← Nat.eq_of_beq_eq_true h2.2]
      exact hset _ (hd e he h2.1)
    ·rw [getD_set_ne false (Ne.symm e)] at hj
     exact hset _ (hT j hj)
/-- the region -/
theorem region_flow {l : List Oper} {Q : Exit → Act → World → Prop} {id : Nat} {df : List Deferred} {w : World} (hm : P.follows .mixedOrders = true) (hB : flowB l = true)
  (k : Nat → Nat) (hk : tiedB k l = true) (build : (Nat → Value) → Array Value) (x0 : Nat → Value) (C : World → Prop) (S : Nat → Value → Value → World → Prop) (hC : C w.drew) (hall : FlowAll P l.toArray k build df C S 0 l)
  (hend : ∀ x w, C w → (∀ i, i < l.length → S i (x i) (x (k i)) w) → Q .normal ⟨build x, df⟩ w) : (Code.region id l.toArray true).wp P Q ⟨build x0, df⟩ w := by
 refine wp_region_any hm (any_flow hB hk hall hend _ _ _ _ (by simp) ?_ hC (fun i hi => ?_) fun i hi => ?_)
 ·have : cnt (Array.replicate l.toArray.size false) l.length ≤ (List.range l.length).length := List.countP_le_length
  simpa using this
 ·rw [getD_replicate_false] at hi; cases hi
 ·rw [getD_replicate_false] at hi; cases hi
end
section
variable {P : Program} {ops : Array Oper}
def dataE (e : Edge) : Bool := match e.ground with
 | .data => true
 | .guard => true
 | _ => false
theorem dataE_binds {e : Edge} (h : dataE e = true) : Region.binds .any e = true := by
 unfold dataE at h; unfold Region.binds
 cases hg : e.ground <;> rw [hg] at h <;> first | rfl | cases h
def usesB (l : List Oper) (m j : Nat) : Bool := (l[m]?.map fun o => o.after.any fun e => dataE e && Nat.beq e.on j).getD false
end
section
variable {P : Program} {ops : Array Oper}
def updB (L : Nat → Bool) (i : Nat) : Nat → Bool := fun j => Nat.beq j i || L j
def usersB (l : List Oper) (j : Nat) : List Nat := (List.range l.length).filter fun m => usesB l m j
theorem mem_users {l : List Oper} {m j : Nat} (hm : m < l.length) (h : usesB l m j = true) : m ∈ usersB l j := List.mem_filter.2 ⟨List.mem_range.2 hm, h⟩
theorem not_needed {E : Nat → Bool} {l : List Oper} {j i : Nat} {L : Nat → Bool} (us : List Nat) (hE : E j = false) (hus : usersB l j = us) (h : ∀ m, m ∈ us → m ≠ i → L m = true) : ¬ (E j = true ∨ ∃ m, m ∈ usersB l j ∧ m ≠ i ∧ L m = false) := by
 rintro (h1 | ⟨m, h1, h2, h3⟩)
 ·rw [hE] at h1; cases h1
 ·rw [hus] at h1
  have := h m h1 h2
  rw [h3] at this; cases this
theorem updB_same (L : Nat → Bool) (i : Nat) : updB L i i = true := by unfold updB; rw [show Nat.beq i i = true by simp]; rfl
/-- what an operation must reach: its own fact, the others' kept as far as they are needed; no other way out -/
def FlowPost3 (E : Nat → Bool) (l0 : List Oper) (k : Nat → Nat) (build : (Nat → Value) → Array Value) (df : List Deferred) (C : (Nat → Bool) → (Nat → Value) → World → Prop) (S : Nat → Value → Value → World → Prop) (i : Nat) (L : Nat → Bool) (x : Nat → Value) (w : World) : Exit → Act → World → Prop
 | .normal, a', w' => ∃ v, a' = ⟨build (upd x i v), df⟩ ∧ C (updB L i) (upd x i v) w' ∧ S i v (upd x i v (k i)) w' ∧ ∀ j u t, L j = true → (E j = true ∨ ∃ m, m ∈ usersB l0 j ∧ m ≠ i ∧ L m = false) → S j u t w → S j u t w'
 | _, _, _ => False
def Deps3 (k : Nat → Nat) (S : Nat → Value → Value → World → Prop) (x : Nat → Value) (w : World) : List Edge → Prop
 | [] => True
 | e :: l => (dataE e = true → S e.on (x e.on) (x (k e.on)) w) ∧ Deps3 k S x w l
def FlowAll3 (P : Program) (ops : Array Oper) (E : Nat → Bool) (l0 : List Oper) (k : Nat → Nat) (build : (Nat → Value) → Array Value) (df : List Deferred) (C : (Nat → Bool) → (Nat → Value) → World → Prop) (S : Nat → Value → Value → World → Prop) : Nat → List Oper → Prop
 | _, [] => True
 | i, o :: l => (∀ L x w, C L x w → L i = false → (∀ m j, L m = true → usesB l0 m j = true → L j = true) → (∀ m, usesB l0 i m = true → L m = true) → Deps3 k S x w o.after.toList → wpList P ops (FlowPost3 E l0 k build df C S i L x w) [o] ⟨build x, df⟩ w) ∧ FlowAll3 P ops E l0 k build df C S (i + 1) l
theorem FlowAll3.at {l0 : List Oper} {E : Nat → Bool} {k : Nat → Nat} {build : (Nat → Value) → Array Value} {df : List Deferred} {C : (Nat → Bool) → (Nat → Value) → World → Prop} {S : Nat → Value → Value → World → Prop} :
  ∀ (l : List Oper) (m i : Nat) (o : Oper), FlowAll3 P ops E l0 k build df C S m l → l[i]? = some o → ∀ L x w, C L x w → L (m + i) = false → (∀ m' j, L m' = true → usesB l0 m' j = true → L j = true) → (∀ m', usesB l0 (m + i) m' = true → L m' = true) → Deps3 k S x w o.after.toList → wpList P ops (FlowPost3 E l0 k build df C S (m + i) L x w) [o] ⟨build x, df⟩ w
 | [], m, i, o, _, h => by simp at h
 | o' :: l, m, 0, o, h, ho => by
  have : o' = o := by simpa using ho
  subst this
  exact h.1
 | o' :: l, m, i + 1, o, h, ho => by
  have := FlowAll3.at l (m + 1) i o h.2 (by simpa using ho)
  rw [show m + (i + 1) = m + 1 + i by omega]
  exact this
theorem deps3_of {k : Nat → Nat} {S : Nat → Value → Value → World → Prop} {x : Nat → Value} {w : World} : ∀ l : List Edge, (∀ e ∈ l, dataE e = true → S e.on (x e.on) (x (k e.on)) w) → Deps3 k S x w l
 | [], _ => trivial
 | e :: l, h => ⟨h e (by simp), deps3_of l fun e' he => h e' (by simp [he])⟩
theorem any_flow3 {E : Nat → Bool} {k : Nat → Nat} {l : List Oper} {Q : Exit → Act → World → Prop} {build : (Nat → Value) → Array Value} {df : List Deferred} {C : (Nat → Bool) → (Nat → Value) → World → Prop} {S : Nat → Value → Value → World → Prop} (hB : flowB l = true) (hk : tiedB k l = true) (hall : FlowAll3 P l.toArray E l k build df C S 0 l)
  (hend : ∀ L x w, C L x w → (∀ i, i < l.length → E i = true → S i (x i) (x (k i)) w) → Q .normal ⟨build x, df⟩ w) :
  ∀ (f : Nat) (listed : Array Bool) (x : Nat → Value) (w : World), listed.size = l.length → cnt listed l.length ≤ f → C (fun j => listed.getD j false) x w → (∀ i, listed.getD i false = true → (E i = true ∨ ∃ m, m < l.length ∧ listed.getD m true = false ∧ usesB l m i = true) → S i (x i) (x (k i)) w) → (∀ i, listed.getD i false = true → listed.getD (k i) false = true) → (∀ m j, listed.getD m false = true → usesB l m j = true → listed.getD j false = true) → wpAny P .any l.toArray Q f listed ⟨build x, df⟩ w := by
 have hfull : ∀ (listed : Array Bool) (x : Nat → Value) (w : World), listed.size = l.length → C (fun j => listed.getD j false) x w → (∀ i, listed.getD i false = true → (E i = true ∨ ∃ m, m < l.length ∧ listed.getD m true = false ∧ usesB l m i = true) → S i (x i) (x (k i)) w) → Region.ready .any l.toArray listed = [] → Q .normal ⟨build x, df⟩ w := by
  intro listed x w hs hC hS hr
  have hlt : ∀ n i, i < n → i < l.length → listed.getD i true = true := by
   intro n
   induction n with
   | zero => intro i hi; omega
   | succ n ih =>
    intro i hi hil
    rcases Nat.lt_or_ge i n with h | h
    ·exact ih i h hil
    ·obtain rfl : i = n := by omega
     apply Classical.byContradiction
     intro hne
     have hf : listed.getD i true = false := by simpa using hne
     have : i ∈ Region.ready .any l.toArray listed := by
      refine mem_ready.2 ⟨hf, l[i], by simp [hil], fun e he hbd => ?_⟩
      have h1 := List.all_eq_true.1 hB i (by simpa using hil)
      simp only [List.getElem?_eq_getElem hil, Option.map_some, Option.getD_some] at h1
      have h2 := Array.all_eq_true_iff_forall_mem.1 h1 e he
      have h3 : e.on < i := by rw [hbd] at h2; simpa using h2
      have h4 := ih e.on h3 (by omega)
      have h5 : e.on < listed.size := by omega
      simp only [Array.getD, h5, dite_true] at h4 ⊢
      exact h4
     rw [hr] at this
     cases this
  refine hend _ x w hC fun i hi hE => hS i ?_ (.inl hE)
  have h4 := hlt (i + 1) i (by omega) hi
  have h5 : i < listed.size := by omega
  simp only [Array.getD, h5, dite_true] at h4 ⊢
  exact h4
 intro f
 induction f with
 | zero =>
  intro listed x w hs hc hC hS hT hD
  have hr : Region.ready .any l.toArray listed = [] := by
   rw [List.eq_nil_iff_forall_not_mem]
   intro i hi
   obtain ⟨hu, o, ho, _⟩ := mem_ready.1 hi
   have hil : i < l.length := by have := (Array.getElem?_eq_some_iff.1 ho).1; simpa using this
   have : 0 < cnt listed l.length := List.countP_pos_iff.2 ⟨i, by simpa using hil, by rw [hu]; rfl⟩
   omega
  exact ⟨hr, hfull listed x w hs hC hS hr⟩
 | succ f ih =>
  intro listed x w hs hc hC hS hT hD
  refine ⟨fun hr => hfull listed x w hs hC hS hr, fun i hi => ?_⟩
  obtain ⟨hu, o, ho, hd⟩ := mem_ready.1 hi
  have hil : i < l.length := by have := (Array.getElem?_eq_some_iff.1 ho).1; simpa using this
  have hol : l[i]? = some o := by simpa using ho
  have hui : listed.getD i false = false := by
   have : i < listed.size := by omega
   simp only [Array.getD, this, dite_true] at hu ⊢
   exact hu
  have hdn : ∀ j, usesB l (0 + i) j = true → listed.getD j false = true := fun j huse => by
   rw [Nat.zero_add] at huse
   unfold usesB at huse
   rw [hol, Option.map_some, Option.getD_some] at huse
   obtain ⟨q, hq, h2⟩ := Array.any_eq_true.1 huse
   simp only [Bool.and_eq_true] at h2
   have h3 := hd _ (Array.getElem_mem hq) (dataE_binds h2.1)
   rw [Nat.eq_of_beq_eq_true h2.2] at h3
   exact h3
  have hstep := hall.at l 0 i o hol (fun j => listed.getD j false) x w hC (by rw [Nat.zero_add]; exact hui) hD hdn (deps3_of _ fun e he hb => hS e.on (hd e (by simpa using he) (dataE_binds hb)) (.inr ⟨i, hil, hu, by
   unfold usesB
   rw [hol, Option.map_some, Option.getD_some]
   exact Array.any_eq_true'.2 ⟨e, by simpa using he, by rw [hb]; simp⟩⟩))
  rw [Nat.zero_add] at hstep
  refine wpOp_flow ho (fun e a w he h => ?_) (fun a' w' h => ?_) hstep
  ·cases e <;> first | exact he rfl | exact h
  ·obtain ⟨v, rfl, hC', hS', hk'⟩ := h
   have hfe : (fun j => (listed.setIfInBounds i true).getD j false) = updB (fun j => listed.getD j false) i := by
    funext j
    by_cases e : j = i
    ·subst e
     have h1 : j < (listed.setIfInBounds j true).size := by simp; omega
     rw [updB_same]
     simp only [Array.getD, h1, dite_true]; simp
    ·rw [getD_set_ne false (Ne.symm e)]
     unfold updB
     rw [show Nat.beq j i = false by cases hb : Nat.beq j i; rfl; exact absurd (Nat.eq_of_beq_eq_true hb) e]; rfl
   have hset0 : ∀ m, listed.getD m false = true → (listed.setIfInBounds i true).getD m false = true := fun m hm => by
    have := congrFun hfe m
    rw [this]; unfold updB; simp only [hm, Bool.or_true]
   refine ih _ _ _ (by simp [hs]) ?_ (by rw [hfe]; exact hC') (fun j hj hn => ?_) (fun j hj => ?_) fun m j hm huse => ?_
   ·have h1 := countP_drop (p := fun k => !listed.getD k true) (q := fun k => !(listed.setIfInBounds i true).getD k true) (i := i) (List.range l.length) List.nodup_range (by simpa using hil) (by rw [hu]; rfl)
     (by have : i < (listed.setIfInBounds i true).size := by simp; omega
         simp only [Array.getD, this, dite_true]; simp) (fun j hj => by rw [getD_set_ne true (Ne.symm hj)])
    have h2 : cnt listed l.length ≤ f + 1 := hc
    unfold cnt at h2 ⊢
    omega
   ·by_cases e : j = i
    ·subst e; rw [upd_same]; exact hS'
    ·rw [getD_set_ne false (Ne.symm e)] at hj
     have hki : k j ≠ i := fun e2 => by
      have := hT j hj
      rw [e2, getD_both hu] at this
      cases this
     rw [upd_ne x v e, upd_ne x v hki]
     have hn' : E j = true ∨ ∃ m, m < l.length ∧ m ≠ i ∧ listed.getD m true = false ∧ usesB l m j = true := by
      rcases hn with h | ⟨m, h1, h2, h3⟩
      ·exact .inl h
      ·refine .inr ⟨m, h1, ?_, ?_, h3⟩
       ·intro em
        subst em
        have : m < (listed.setIfInBounds m true).size := by simp; omega
        simp only [Array.getD, this, dite_true] at h2
        simp at h2
       ·by_cases em : m = i
        ·subst em
         have : m < (listed.setIfInBounds m true).size := by simp; omega
         simp only [Array.getD, this, dite_true] at h2
         simp at h2
        ·rwa [getD_set_ne true (Ne.symm em)] at h2
     refine hk' j _ _ hj ?_ (hS j hj ?_)
     ·rcases hn' with h | ⟨m, h1, h2, h4, h3⟩
      ·exact .inl h
      ·refine .inr ⟨m, mem_users h1 h3, h2, ?_⟩
       have : m < listed.size := by omega
       simp only [Array.getD, this, dite_true] at h4 ⊢
       exact h4
     ·rcases hn' with h | ⟨m, h1, _, h2, h3⟩
      ·exact .inl h
      ·exact .inr ⟨m, h1, h2, h3⟩
   ·have hset : ∀ m, listed.getD m false = true → (listed.setIfInBounds i true).getD m false = true := fun m hm => by
     by_cases e : m = i
     ·subst e; rw [getD_both hu] at hm; cases hm
     ·rw [getD_set_ne false (Ne.symm e)]; exact hm
    by_cases e : j = i
    ·subst e
     have h1 := List.all_eq_true.1 hk j (by simpa using hil)
     simp only [Bool.or_eq_true] at h1
     rcases h1 with h1 | h1
     ·rw [Nat.eq_of_beq_eq_true h1]; exact hj
     ·have ho' : l[j]? = some o := by simpa using ho
      rw [ho', Option.map_some, Option.getD_some] at h1
      obtain ⟨m, hm, h2⟩ := Array.any_eq_true.1 h1
      obtain ⟨e, he, h2⟩ : ∃ e ∈ o.after, (Region.binds .any e && Nat.beq e.on (k j)) = true := ⟨_, Array.getElem_mem hm, h2⟩
      simp only [Bool.and_eq_true] at h2
      rw [← Nat.eq_of_beq_eq_true h2.2]
      exact hset _ (hd e he h2.1)
    ·rw [getD_set_ne false (Ne.symm e)] at hj
     exact hset _ (hT j hj)
   ·by_cases e : m = i
    ·subst e
     unfold usesB at huse
     rw [hol, Option.map_some, Option.getD_some] at huse
     obtain ⟨q, hq, h2⟩ := Array.any_eq_true.1 huse
     simp only [Bool.and_eq_true] at h2
     have h3 := hd _ (Array.getElem_mem hq) (dataE_binds h2.1)
     rw [Nat.eq_of_beq_eq_true h2.2] at h3
     exact hset0 _ h3
    ·rw [getD_set_ne false (Ne.symm e)] at hm
     exact hset0 _ (hD m j hm huse)
/-- the region -/
theorem region_flow3 {l : List Oper} {Q : Exit → Act → World → Prop} {id : Nat} {df : List Deferred} {w : World} (hm : P.follows .mixedOrders = true) (hB : flowB l = true) (E : Nat → Bool)
  (k : Nat → Nat) (hk : tiedB k l = true) (build : (Nat → Value) → Array Value) (x0 : Nat → Value) (C : (Nat → Bool) → (Nat → Value) → World → Prop) (S : Nat → Value → Value → World → Prop) (hC : C (fun _ => false) x0 w.drew) (hall : FlowAll3 P l.toArray E l k build df C S 0 l)
  (hend : ∀ L x w, C L x w → (∀ i, i < l.length → E i = true → S i (x i) (x (k i)) w) → Q .normal ⟨build x, df⟩ w) : (Code.region id l.toArray true).wp P Q ⟨build x0, df⟩ w := by
 have hf : (fun j => (Array.replicate l.toArray.size false).getD j false) = fun _ => false := by funext j; exact getD_replicate_false _ _
 refine wp_region_any hm (any_flow3 hB hk hall hend _ _ _ _ (by simp) ?_ (by rw [hf]; exact hC) (fun i hi => ?_) (fun i hi => ?_) fun m j hm _ => ?_)
 ·have : cnt (Array.replicate l.toArray.size false) l.length ≤ (List.range l.length).length := List.countP_le_length
  simpa using this
 ·rw [getD_replicate_false] at hi; cases hi
 ·rw [getD_replicate_false] at hi; cases hi
 ·rw [getD_replicate_false] at hm; cases hm
end
set_option maxRecDepth 100000 in
theorem concat2 (g n1 c1 n2 c2 : Nat) (A1 A2 : Option Addr) (l1 l2 : List Nat) (w : World) (hg : g < w.heap.size) (h0 : w.cell? ⟨g, 0, none⟩ = some (.slice A1 n1 c1)) (h1 : w.cell? ⟨g, 1, none⟩ = some (.slice A2 n2 c2))
  (hn1 : Hid (l1.length = n1)) (hn2 : Hid (l2.length = n2)) (m1 : n1 ≤ 4294967296) (m2 : n2 ≤ 4294967296) (a1 : A1 = none → c1 = 0) (a2 : A2 = none → c2 = 0) (r1 : Hid (Rd w w.heap.size A1 l1)) (r2 : Hid (Rd w w.heap.size A2 l2)) :
  Calls Tryz.prog 134 #[.slice (some ⟨g, 0, none⟩) 2 2] w fun e w' => ∃ v, e = .returned v ∧ OwnB w' w.heap.size v (l1 ++ l2) ∧ Below w.heap.size w w' := by
 have HA1 := hid a1
 have HA2 := hid a2
 clear a1 a2
 go_enter Tryz.func134, Tryz.ntmps134
 go_wp2_with fail
 go_loop [3, 11] (fun s i => (i = .int .i64 0 ∧ s = .int .i64 0) ∨ (i = .int .i64 1 ∧ s = .int .i64 n1) ∨ (i = .int .i64 2 ∧ s = .int .i64 ((n1 + n2 : Nat) : Int))) (fun _ i => 2 - (intOf i).toNat)
 case atStart => exact .inl ⟨rfl, rfl⟩
 case round =>
  rcases hrel with ⟨rfl, rfl⟩ | ⟨rfl, rfl⟩ | ⟨rfl, rfl⟩
  ·go_wp2_with fail
   go_round
   case rel => exact .inr (.inl ⟨rfl, rfl⟩)
   case measure => simp [intOf]
  ·go_wp2_with fail
   go_round
   case rel => exact .inr (.inr ⟨rfl, by go_num⟩)
   case measure => simp [intOf]
  ·go_wp2_with fail
   refine (grow_nil (n1 + n2) _ (by omega)).mono ?_
   rintro e w1 ⟨v, rfl, ho1, hb1⟩
   have HO1 := hid ho1
   have HB1 := hid hb1
   clear ho1 hb1
   go_wp2_with fail
   go_loopw [6, 27] (fun v i wr => Hid (Below w.heap.size w wr) ∧ ((i = .int .i64 0 ∧ Hid (OwnB wr w.heap.size v [])) ∨ (i = .int .i64 1 ∧ Hid (OwnB wr w.heap.size v l1)) ∨ (i = .int .i64 2 ∧ Hid (OwnB wr w.heap.size v (l1 ++ l2))))) (fun _ i _ => 2 - (intOf i).toNat)
   case atStart => exact ⟨HB1, .inl ⟨rfl, HO1⟩⟩
   case round =>
    clear HO1 HB1
    obtain ⟨hB, hrel⟩ := hrel
    rcases hrel with ⟨rfl, hO⟩ | ⟨rfl, hO⟩ | ⟨rfl, hO⟩
    ·have c0 : wr.cell? ⟨g, 0, none⟩ = some (.slice A1 n1 c1) := (hB.out.cell (p := ⟨g, 0, none⟩) hg).trans h0
     go_wp2_with (at_builtin; refine wpList_append_bytes rfl (.tmp 31) (.tmp 32) rfl w.heap.size _ [] l1 rfl hO A1 n1 c1 rfl hn1 HA1.out (hid (fun hl => by obtain ⟨g, off, e, hg, hc⟩ := r1.out hl; exact ⟨g, off, e, Nat.lt_of_lt_of_le hg hB.out.size, fun i hi => (hB.out.cell (p := ⟨g, off + i, none⟩) hg).trans (hc i hi)⟩)) (by simp; omega) hB.out.size ?_; intro v2 w2 HO2 HB2)
     go_roundw
     case rel => exact ⟨hid (hB.out.trans HB2.out), .inr (.inl ⟨rfl, HO2⟩)⟩
     case measure => simp [intOf]
    ·have c0 : wr.cell? ⟨g, 1, none⟩ = some (.slice A2 n2 c2) := (hB.out.cell (p := ⟨g, 1, none⟩) hg).trans h1
     go_wp2_with (at_builtin; refine wpList_append_bytes rfl (.tmp 31) (.tmp 32) rfl w.heap.size _ l1 l2 rfl hO A2 n2 c2 rfl hn2 HA2.out (hid (fun hl => by obtain ⟨g, off, e, hg, hc⟩ := r2.out hl; exact ⟨g, off, e, Nat.lt_of_lt_of_le hg hB.out.size, fun i hi => (hB.out.cell (p := ⟨g, off + i, none⟩) hg).trans (hc i hi)⟩)) (by rw [hn1.out]; omega) hB.out.size ?_; intro v2 w2 HO2 HB2)
     go_roundw
     case rel => exact ⟨hid (hB.out.trans HB2.out), .inr (.inr ⟨rfl, HO2⟩)⟩
     case measure => simp [intOf]
    ·go_wp2_with fail
     go_ret
     exact ⟨_, rfl, hO.out, hB.out⟩
/-- the bytes of a string -/
def strL (s : ByteArray) : List Nat := s.data.toList.map UInt8.toNat
theorem strL_length (s : ByteArray) : (strL s).length = s.size := by simp [strL]
theorem strL_bytes (s : ByteArray) : Bytes (strL s) := fun x hx => by
 simp only [strL, List.mem_map] at hx
 obtain ⟨b, _, rfl⟩ := hx
 exact b.toNat_lt
theorem conv_bytes (s : ByteArray) (W : World) : ∃ c W2, (convert 9 143 (.string s)).run Tryz.prog W = .ok (.slice (some ⟨W.heap.size, 0, none⟩) s.size c) W2 ∧ s.size ≤ c ∧ Below W.heap.size W W2 ∧ W.heap.size < W2.heap.size ∧ BytesAt W2 W.heap.size 0 (strL s) := by
 refine ⟨_, _, Lib.run_convert_string_bytes W 9 143 5 s Tryz.underlying9 Tryz.underlying143 Tryz.underlying5, grownCap_ge _ _ _ _, ⟨rfl, rfl, rfl, ?_, fun k hk => Lib.bytesWorld_at_old W _ s k hk⟩, ?_, fun i hi => ?_⟩
 ·rw [Lib.bytesWorld_size]; omega
 ·rw [Lib.bytesWorld_size]; omega
 ·rw [strL_length] at hi
  rw [Nat.zero_add, Lib.bytesWorld_cell W _ s i hi]
  have h2 : i < s.data.toList.length := by simpa using hi
  simp only [strL, List.getD_eq_getElem?_getD, List.getElem?_map, List.getElem?_eq_getElem h2, Option.map_some, Option.getD_some]
theorem size32 (l : List Nat) (h : l.length = 32) : (Tryz.prog.info? 25).map (·.size) = some (l.map fun x => Value.int .u8 (x : Nat)).toArray.size := by
 have : (l.map fun x => Value.int .u8 (x : Nat)).toArray.size = 32 := by simp [h]
 rw [this]; show _ = _; kernel_rfl
theorem bytesAt_arr {w : World} {g t : Nat} {l : List Nat} (h : w.heap[g]? = some (.cells (l.map fun x => Value.int .u8 (x : Nat)).toArray t (0, 0))) : BytesAt w g 0 l := fun i hi => by
 rw [Nat.zero_add, cell_of_row w g i _ _ _ h]
 simp [List.getD_eq_getElem?_getD, hi]
/-- a variable that is laid, then written whole -/
theorem laid_row (W : World) (Z cells : Array Value) (t : TypeId) : Below W.heap.size W ((W.alloc (.cells Z t)).setRow W.heap.size cells) ∧ ((W.alloc (.cells Z t)).setRow W.heap.size cells).heap.size = W.heap.size + 1 ∧ ((W.alloc (.cells Z t)).setRow W.heap.size cells).heap[W.heap.size]? = some (.cells cells t (0, 0)) :=
 ⟨below_setRow ((Below.refl _ _).alloc (Nat.le_refl _) _) (Nat.le_refl _) _, by simp, setRow_heap _ _ _ _ _ _ (heap_alloc_new W _)⟩
theorem pair_row (W : World) (v1 v2 : Value) (t : TypeId) : Below W.heap.size W (W.alloc (.cells #[v1, v2] t)) ∧ (W.alloc (.cells #[v1, v2] t)).heap.size = W.heap.size + 1 ∧ (W.alloc (.cells #[v1, v2] t)).cell? ⟨W.heap.size, 0, none⟩ = some v1 ∧ (W.alloc (.cells #[v1, v2] t)).cell? ⟨W.heap.size, 1, none⟩ = some v2 :=
 ⟨(Below.refl _ _).alloc (Nat.le_refl _) _, by simp, by rw [cell_of_row _ _ _ _ _ _ (heap_alloc_new W _)]; rfl, by rw [cell_of_row _ _ _ _ _ _ (heap_alloc_new W _)]; rfl⟩
theorem Rd.mono {w : World} {B B' : Nat} {A : Option Addr} {l : List Nat} (h : Rd w B A l) (hB : B ≤ B') : Rd w B' A l := fun hl => by
 obtain ⟨g, off, e, hg, hc⟩ := h hl
 exact ⟨g, off, e, Nat.lt_of_lt_of_le hg hB, hc⟩
set_option maxRecDepth 100000 in
theorem tagged_any (tag : ByteArray) (A : Option Addr) (n c : Nat) (l : List Nat) (w : World) (htag : tag.size ≤ 4294967296) (hn : Hid (l.length = n)) (hc : n ≤ c) (hA : A = none → c = 0) (hsz : n ≤ 2147483648) (hb : Hid (Bytes l)) (hT : Hid (Tabs w)) (hR : Hid (Rd w w.heap.size A l)) :
  Calls Tryz.prog 89 #[.string tag, .slice A n c] w fun e w' => e = .returned (dgV (tagged (strL tag) l)) ∧ Below w.heap.size w w' := by
 have HA := hid hA
 clear hA
 have hb0 : Below w.heap.size w (w.alloc (.cells #[.int .u8 0, .int .u8 0, .int .u8 0, .int .u8 0, .int .u8 0, .int .u8 0, .int .u8 0, .int .u8 0, .int .u8 0, .int .u8 0, .int .u8 0, .int .u8 0, .int .u8 0, .int .u8 0, .int .u8 0, .int .u8 0, .int .u8 0, .int .u8 0, .int .u8 0, .int .u8 0, .int .u8 0, .int .u8 0, .int .u8 0, .int .u8 0, .int .u8 0, .int .u8 0, .int .u8 0, .int .u8 0, .int .u8 0, .int .u8 0, .int .u8 0, .int .u8 0] 25)) := (Below.refl _ _).alloc (Nat.le_refl _) _
 obtain ⟨c0, W2, hconv, hc0, hbc, hlt2, hby⟩ := conv_bytes tag (w.alloc (.cells #[.int .u8 0, .int .u8 0, .int .u8 0, .int .u8 0, .int .u8 0, .int .u8 0, .int .u8 0, .int .u8 0, .int .u8 0, .int .u8 0, .int .u8 0, .int .u8 0, .int .u8 0, .int .u8 0, .int .u8 0, .int .u8 0, .int .u8 0, .int .u8 0, .int .u8 0, .int .u8 0, .int .u8 0, .int .u8 0, .int .u8 0, .int .u8 0, .int .u8 0, .int .u8 0, .int .u8 0, .int .u8 0, .int .u8 0, .int .u8 0, .int .u8 0, .int .u8 0] 25))
 have hbl0 : (w.alloc (.cells #[.int .u8 0, .int .u8 0, .int .u8 0, .int .u8 0, .int .u8 0, .int .u8 0, .int .u8 0, .int .u8 0, .int .u8 0, .int .u8 0, .int .u8 0, .int .u8 0, .int .u8 0, .int .u8 0, .int .u8 0, .int .u8 0, .int .u8 0, .int .u8 0, .int .u8 0, .int .u8 0, .int .u8 0, .int .u8 0, .int .u8 0, .int .u8 0, .int .u8 0, .int .u8 0, .int .u8 0, .int .u8 0, .int .u8 0, .int .u8 0, .int .u8 0, .int .u8 0] 25)).heap[w.heap.size]? = some (.cells #[.int .u8 0, .int .u8 0, .int .u8 0, .int .u8 0, .int .u8 0, .int .u8 0, .int .u8 0, .int .u8 0, .int .u8 0, .int .u8 0, .int .u8 0, .int .u8 0, .int .u8 0, .int .u8 0, .int .u8 0, .int .u8 0, .int .u8 0, .int .u8 0, .int .u8 0, .int .u8 0, .int .u8 0, .int .u8 0, .int .u8 0, .int .u8 0, .int .u8 0, .int .u8 0, .int .u8 0, .int .u8 0, .int .u8 0, .int .u8 0, .int .u8 0, .int .u8 0] 25 (0, 0)) := heap_alloc_new w _
 have hbl2 := hid ((hbc.block w.heap.size (by simp)).trans hbl0)
 have hb2 := hid (hb0.trans (hbc.mono (by simp)))
 simp only [World.size_alloc] at hconv hby hlt2
 have HBY := hid hby
 clear hb0 hbl0 hby hbc
 go_enter Tryz.func89, Tryz.ntmps89
 go_wp2_with fail
 refine (dsum_any (some ⟨w.heap.size + 1, 0, none⟩) tag.size c0 (strL tag) _ (hid (strL_length tag)) hc0 htag (hid (strL_bytes tag)) (hid (hT.out.below hb2.out)) (hid (fun _ => ⟨_, _, rfl, hlt2, HBY.out⟩))).mono ?_
 rintro e W3 ⟨rfl, hb3⟩
 have hbl3 := hid ((hb3.block w.heap.size (by omega)).trans hbl2.out)
 have HB3 := hid (hb2.out.trans (hb3.mono hb2.out.size))
 have hs3 : w.heap.size + 1 < W3.heap.size := Nat.lt_of_lt_of_le hlt2 hb3.size
 clear hb3 HBY hbl2 hb2 hconv
 have hold : ∀ m : List Nat, m.length = 32 → 32 = (m.map fun x => Value.int .u8 (x : Nat)).toArray.size := fun m h => by simp [h]
 have HOLD := hid hold
 clear hold
 go_wp2_with (refine wpList_store_row rfl 25 (.tmp 5) (.tmp 8) rfl W3.heap.size ((sha (strL tag)).map fun x => Value.int .u8 (x : Nat)).toArray rfl rfl 25 _ (heap_alloc_new W3 _) (size32 _ (sha_length _)) (HOLD.out _ (sha_length _)) (oneCells _) ?_)
 have hq := laid_row W3 #[.int .u8 0, .int .u8 0, .int .u8 0, .int .u8 0, .int .u8 0, .int .u8 0, .int .u8 0, .int .u8 0, .int .u8 0, .int .u8 0, .int .u8 0, .int .u8 0, .int .u8 0, .int .u8 0, .int .u8 0, .int .u8 0, .int .u8 0, .int .u8 0, .int .u8 0, .int .u8 0, .int .u8 0, .int .u8 0, .int .u8 0, .int .u8 0, .int .u8 0, .int .u8 0, .int .u8 0, .int .u8 0, .int .u8 0, .int .u8 0, .int .u8 0, .int .u8 0] ((sha (strL tag)).map fun x => Value.int .u8 (x : Nat)).toArray 25
 generalize (W3.alloc (.cells #[.int .u8 0, .int .u8 0, .int .u8 0, .int .u8 0, .int .u8 0, .int .u8 0, .int .u8 0, .int .u8 0, .int .u8 0, .int .u8 0, .int .u8 0, .int .u8 0, .int .u8 0, .int .u8 0, .int .u8 0, .int .u8 0, .int .u8 0, .int .u8 0, .int .u8 0, .int .u8 0, .int .u8 0, .int .u8 0, .int .u8 0, .int .u8 0, .int .u8 0, .int .u8 0, .int .u8 0, .int .u8 0, .int .u8 0, .int .u8 0, .int .u8 0, .int .u8 0] 25)).setRow W3.heap.size ((sha (strL tag)).map fun x => Value.int .u8 (x : Nat)).toArray = W4 at *
 obtain ⟨q1, q2, q3⟩ := hq
 have hq := pair_row W4 (.slice (some ⟨W3.heap.size, 0, none⟩) 32 32) (.slice A n c) 143
 generalize W4.alloc (.cells #[.slice (some ⟨W3.heap.size, 0, none⟩) 32 32, .slice A n c] 143) = W5 at *
 obtain ⟨q4, q5, q6, q7⟩ := hq
 rw [q2] at q5 q6 q7
 have HB5 := hid ((HB3.out.trans (q1.mono HB3.out.size)).trans (q4.mono (by rw [q2]; have := HB3.out.size; omega)))
 have hbl5 := hid ((q4.block w.heap.size (by rw [q2]; omega)).trans ((q1.block w.heap.size (by omega)).trans hbl3.out))
 have hd5 := hid ((q4.block W3.heap.size (by rw [q2]; omega)).trans q3)
 have hs5 : W3.heap.size + 1 < W5.heap.size := by omega
 clear q1 q2 q3 q4 q5 HB3 hbl3
 refine (concat2 (W3.heap.size + 1) 32 32 n c (some ⟨W3.heap.size, 0, none⟩) A (sha (strL tag)) l _ hs5 q6 q7 (hid (sha_length _)) hn (by omega) (by omega) (fun h => by cases h) HA.out (hid (fun _ => ⟨_, _, rfl, by omega, bytesAt_arr hd5.out⟩)) (hid ((hR.out.below HB5.out (Nat.le_refl _)).mono HB5.out.size))).mono ?_
 rintro e W6 ⟨v, rfl, ho6, hb6⟩
 obtain ⟨A6, n6, c6, rfl, hn6, hc6, _, HR6⟩ := ho6.slice
 have hbl6 := hid ((hb6.block w.heap.size (by omega)).trans hbl5.out)
 have HB6 := hid (HB5.out.trans (hb6.mono HB5.out.size))
 have hbb : Hid (Bytes (sha (strL tag) ++ l)) := hid (fun x hx => by
  rcases List.mem_append.1 hx with h | h
  ·exact sha_bytes _ x h
  ·exact hb.out x h)
 have hs6 : w.heap.size < W6.heap.size := by have := hb6.size; omega
 have hm6 : n6 ≤ 4294967296 := by rw [← hn6.out, List.length_append, sha_length, hn.out]; omega
 clear ho6 hb6 hd5 hbl5 HB5 q6 q7
 go_wp2_with fail
 refine (dsum_any A6 n6 c6 (sha (strL tag) ++ l) _ hn6 hc6 hm6 hbb (hid (hT.out.below HB6.out)) HR6).mono ?_
 rintro e W7 ⟨rfl, hb7⟩
 have hbl7 := hid ((hb7.block w.heap.size hs6).trans hbl6.out)
 have HB7 := hid (HB6.out.trans (hb7.mono HB6.out.size))
 clear hb7 HB6 hbl6 HR6 hbb
 go_wp2_with (refine wpList_store_row rfl 25 (.tmp 4) (.tmp 13) rfl w.heap.size ((sha (sha (strL tag) ++ l)).map fun x => Value.int .u8 (x : Nat)).toArray rfl rfl 25 _ hbl7.out (size32 _ (sha_length _)) (HOLD.out _ (sha_length _)) (oneCells _) ?_)
 refine bodyPost_ret (results_cell_row rfl _ _ w.heap.size 25 _ (0, 0) _ rfl (setRow_heap W7 w.heap.size _ _ _ _ hbl7.out) Tryz.underlying25 rfl (size32 _ (sha_length _))) rfl ?_
 exact ⟨rfl, below_setRow HB7.out (Nat.le_refl _) _⟩
/-- a slice lies in the old one's block or in a new one -/
def OwnG (v0 : Value) (N : Nat) (v : Value) : Prop := v.ownBlock = v0.ownBlock ∨ ∃ g, v.ownBlock = some g ∧ N ≤ g
theorem OwnG.of_grew {v0 v v' : Value} {w w' : World} {N : Nat} (hN : N ≤ w.heap.size) (h : OwnG v0 N v) (k : Grew v v' w w') : OwnG v0 N v' := by
 rcases k.2 with e | ⟨g, e, hg⟩
 ·rcases h with e2 | ⟨g, e2, hg⟩
  ·exact .inl (e.trans e2)
  ·exact .inr ⟨g, e.trans e2, hg⟩
 ·exact .inr ⟨g, e, Nat.le_trans hN hg⟩
/-- what the call began with stays, but for the block of the slice that it writes to -/
theorem grown_grew {v0 v v' : Value} {W w w' : World} (hC : W.grownBy w v0.ownBlock) (h : OwnG v0 W.heap.size v) (k : Grew v v' w w') : W.grownBy w' v0.ownBlock :=
 ⟨k.1.os.trans hC.os, k.1.tape.trans hC.tape, k.1.output.trans hC.output, Nat.le_trans hC.size k.1.size, fun i hi hne => (k.1.block i (Nat.lt_of_lt_of_le hi hC.size) (fun e => by
  rcases h with e2 | ⟨g, e2, hg⟩
  ·exact hne (e.trans e2)
  ·rw [e2] at e
   injection e with e
   omega)).trans (hC.block i hi hne)⟩
theorem grown_below {v0 : Value} {W w w' : World} (hC : W.grownBy w v0.ownBlock) (hb : Below w.heap.size w w') : W.grownBy w' v0.ownBlock :=
 ⟨hb.os.trans hC.os, hb.tape.trans hC.tape, hb.output.trans hC.output, Nat.le_trans hC.size hb.size, fun i hi hne => (hb.block i (Nat.lt_of_lt_of_le hi hC.size)).trans (hC.block i hi hne)⟩
theorem grown_drew (v0 : Value) (W : World) : W.grownBy W.drew v0.ownBlock := ⟨rfl, rfl, rfl, Nat.le_refl _, fun _ _ _ => rfl⟩
theorem grew_of {v0 v : Value} {W w : World} (hC : W.grownBy w v0.ownBlock) (h : OwnG v0 W.heap.size v) : Grew v0 v W w := ⟨hC, h⟩
def wI (base N b : Nat) (v0 : Value) (l : List Nat) (z : Int) (u : Nat) : Nat → Value → World → Prop
 | 0, fv, _ => fv = v0
 | 1, fv, fw => ∃ g, fv = .slice (some ⟨g, 0, none⟩) 1 1 ∧ Rd fw fw.heap.size (some ⟨g, 0, none⟩) [1]
 | 2, fv, fw => OwnB fw base fv (l ++ [1]) ∧ OwnG v0 N fv
 | 3, fv, _ => fv = .pointer (some ⟨b, 1, none⟩)
 | 4, fv, _ => fv = .int .i64 z
 | 5, fv, _ => fv = .int .u64 (u : Nat)
 | 6, fv, fw => OwnB fw base fv (l ++ [1] ++ num u) ∧ OwnG v0 N fv
 | 7, fv, fw => OwnB fw base fv (l ++ [1] ++ num u) ∧ OwnG v0 N fv
 | _, _, _ => True
theorem wI_below {base N b : Nat} {v0 : Value} {l : List Nat} {z : Int} {u : Nat} {w w' : World} (hb : Below w.heap.size w w') : ∀ j v, wI base N b v0 l z u j v w → wI base N b v0 l z u j v w'
 | 0, v, h => h
 | 1, v, ⟨g, h1, h2⟩ => ⟨g, h1, (h2.below hb (Nat.le_refl _)).mono hb.size⟩
 | 2, v, h => ⟨h.1.below hb, h.2⟩
 | 3, v, h => h
 | 4, v, h => h
 | 5, v, h => h
 | 6, v, h => ⟨h.1.below hb, h.2⟩
 | 7, v, h => ⟨h.1.below hb, h.2⟩
 | n + 8, v, h => trivial
theorem updB_self {L : Nat → Bool} {i : Nat} (h : updB L i i = false) : False := by rw [updB_same] at h; cases h
theorem wI_pure {base N b : Nat} {v0 : Value} {l : List Nat} {z : Int} {u : Nat} {w w' : World} : ∀ j v, j ≠ 1 → j ≠ 2 → j ≠ 6 → j ≠ 7 → wI base N b v0 l z u j v w → wI base N b v0 l z u j v w'
 | 0, v, _, _, _, _, h => h
 | 1, v, h, _, _, _, _ => absurd rfl h
 | 2, v, _, h, _, _, _ => absurd rfl h
 | 3, v, _, _, _, _, h => h
 | 4, v, _, _, _, _, h => h
 | 5, v, _, _, _, _, h => h
 | 6, v, _, _, h, _, _ => absurd rfl h
 | 7, v, _, _, _, h, _ => absurd rfl h
 | n + 8, v, _, _, _, _, h => trivial
theorem write_int (v0 : Value) (l : List Nat) (z : Int) (base : Nat) (w : World) (hz1 : -9223372036854775808 ≤ z) (hz2 : z ≤ 9223372036854775807) (hO : Hid (OwnB w base v0 l)) (hl : l.length ≤ 1000000) (hb : base ≤ w.heap.size) :
  Calls Tryz.prog 157 #[v0, .agg #[.int .i64 1, .int .i64 z, .string ⟨#[]⟩, .slice none 0 0]] w fun e w' => ∃ v', e = .returned v' ∧ OwnB w' base v' (l ++ 1 :: num (zig z)) ∧ Grew v0 v' w w' := by
 have hu := zig_lt hz1 hz2
 obtain ⟨u, HU⟩ : ∃ u, Hid (zig z = u) := ⟨_, hid rfl⟩
 rw [HU.out] at hu
 have HUL := hid hu
 have ZB := hid (And.intro hz1 hz2)
 clear hz1 hz2 hu
 have HB0 := hid ((Below.refl _ w).alloc (Nat.le_refl _) (.cells #[.int .i64 1, .int .i64 z, .string ⟨#[]⟩, .slice none 0 0] 148))
 have HO1 := hid (hO.out.below HB0.out)
 have HC1 : Hid ((w.alloc (.cells #[.int .i64 1, .int .i64 z, .string ⟨#[]⟩, .slice none 0 0] 148)).cell? ⟨w.heap.size, 1, none⟩ = some (.int .i64 z)) := hid (by rw [cell_of_row _ _ _ _ _ _ (heap_alloc_new w _)]; rfl)
 have HNE : Hid (some w.heap.size ≠ v0.ownBlock) := hid (fun e => by have := (hO.out.block _ e.symm).2; omega)
 go_enter Tryz.func157, Tryz.ntmps157
 go_wp2_with fail
 have HBS : Hid (base ≤ (w.alloc (.cells #[.int .i64 1, .int .i64 z, .string ⟨#[]⟩, .slice none 0 0] 148)).heap.size) := hid (Nat.le_trans hb HB0.out.size)
 generalize w.alloc (.cells #[.int .i64 1, .int .i64 z, .string ⟨#[]⟩, .slice none 0 0] 148) = W1 at *
 refine region_flow3 (by kernel_rfl) (by kernel_rfl) (fun i => Nat.beq i 7) (fun i => i) (by kernel_rfl)
  (fun fx => #[v0, .agg #[.int .i64 1, .int .i64 z, .string ⟨#[]⟩, .slice none 0 0], undef, .pointer (some ⟨w.heap.size, 0, none⟩), fx 7, fx 0, fx 1, fx 2, fx 3, fx 4, fx 5, fx 6])
  (fun i => bif Nat.beq i 7 then .slice none 0 0 else undef) (fun L _ w' => W1.grownBy w' v0.ownBlock ∧ (L 2 = false → OwnB w' base v0 l)) (fun fi fv _ fw => wI base W1.heap.size w.heap.size v0 l z u fi fv fw) ⟨grown_drew v0 W1, fun _ => HO1.out.below (Below.refl _ _).drew⟩ ?_ ?_
 ·refine ⟨?_, ?_, ?_, ?_, ?_, ?_, ?_, ?_, trivial⟩
  all_goals intro L fx w' hC hi hcl hdn hd
  ·go_wp2_with fail
   exact ⟨_, rfl, ⟨hC.1, fun h => hC.2 h⟩, rfl, kP⟩
  ·go_wp2_with fail
   have hbb : Below w'.heap.size w' (w'.alloc (.cells #[.int .u8 1] 5)) := (Below.refl _ _).alloc (Nat.le_refl _) _
   exact ⟨_, rfl, ⟨grown_below hC.1 hbb, fun h => (hC.2 h).below hbb⟩, ⟨_, rfl, one_rowU w' 1⟩, fun j v t _ _ h => wI_below hbb j v h⟩
  ·have h0 : fx 0 = v0 := hd.1 rfl
   obtain ⟨g, h1, hR⟩ := hd.2.1 rfl
   have HOv := hid (hC.2 hi)
   have HR := hid hR
   have HSZ := hid (Nat.le_trans HBS.out hC.1.size)
   have hlen : l.length + 1 ≤ 1099511627776 := by omega
   refine wpList_append_grew rfl (.tmp 5) (.tmp 6) rfl base v0 l [1] h0 HOv (some ⟨g, 0, none⟩) 1 1 h1 (hid rfl) (fun h => by cases h) HR hlen HSZ.out ?_
   intro v2 w2 HO2 HG2
   clear hd
   go_wp2_with fail
   refine ⟨v2, by rw [← h0, ← h1]; rfl, ⟨grown_grew hC.1 (.inl rfl) HG2.out, fun h => (updB_self h).elim⟩, ⟨HO2.out, OwnG.of_grew hC.1.size (.inl rfl) HG2.out⟩, fun j v t hj hu h => ?_⟩
   refine wI_pure j v ?_ ?_ ?_ ?_ h <;> intro e <;> subst e
   ·refine absurd hu (not_needed (E := fun i => Nat.beq i 7) (j := 1) [2] ?_ ?_ ?_)
    ·kernel_rfl
    ·kernel_rfl
    ·intro m hm hne; simp at hm; omega
   ·rw [hi] at hj; cases hj
   ·have := hcl 6 2 hj (by kernel_rfl); rw [hi] at this; cases this
   ·have := hcl 6 2 (hcl 7 6 hj (by kernel_rfl)) (by kernel_rfl); rw [hi] at this; cases this
  ·go_wp2_with fail
   exact ⟨_, rfl, ⟨hC.1, fun h => hC.2 h⟩, rfl, kP⟩
  ·have h3 : fx 3 = .pointer (some ⟨w.heap.size, 1, none⟩) := hd.1 rfl
   have hc : w'.cell? ⟨w.heap.size, 1, none⟩ = some (.int .i64 z) := hC.1.cell HC1.out HNE.out
   go_wp2_with fail
   exact ⟨_, by rw [← h3]; rfl, ⟨hC.1, fun h => hC.2 h⟩, rfl, kP⟩
  ·have h4 : fx 4 = .int .i64 z := hd.1 rfl
   go_wp2_with fail
   refine (unsigned_any z _ ZB.out.1 ZB.out.2).mono ?_
   rintro e w2 ⟨rfl, rfl⟩
   rw [HU.out]
   go_wp2_with fail
   exact ⟨_, by rw [← h4]; rfl, ⟨hC.1, fun h => hC.2 h⟩, rfl, kP⟩
  ·have H2 := hid (hd.1 rfl)
   have h5 : fx 5 = .int .u64 (u : Nat) := hd.2.1 rfl
   have HSZ := hid (Nat.le_trans HBS.out hC.1.size)
   go_wp2_with fail
   refine (numeral_any (fx 2) (l ++ [1]) u base _ (hid H2.out.1) (by simp; omega) HUL.out HSZ.out).mono ?_
   rintro e w2 ⟨v2, rfl, hO2, hG2⟩
   have HO2 := hid hO2
   have HG2 := hid hG2
   clear hO2 hG2
   go_wp2_with fail
   refine ⟨v2, by rw [← h5]; rfl, ⟨grown_grew hC.1 H2.out.2 HG2.out, fun h => by have h2 : L 2 = false := h; have := hdn 2 (by kernel_rfl); rw [h2] at this; cases this⟩, ⟨HO2.out, OwnG.of_grew hC.1.size H2.out.2 HG2.out⟩, fun j v t hj hu h => ?_⟩
   refine wI_pure j v ?_ ?_ ?_ ?_ h <;> intro e <;> subst e
   ·refine absurd hu (not_needed (E := fun i => Nat.beq i 7) (j := 1) [2] ?_ ?_ ?_)
    ·kernel_rfl
    ·kernel_rfl
    ·intro m hm hne; simp at hm; subst hm; exact hdn 2 (by kernel_rfl)
   ·refine absurd hu (not_needed (E := fun i => Nat.beq i 7) (j := 2) [6] ?_ ?_ ?_)
    ·kernel_rfl
    ·kernel_rfl
    ·intro m hm hne; simp at hm; omega
   ·rw [hi] at hj; cases hj
   ·have := hcl 7 6 hj (by kernel_rfl); rw [hi] at this; cases this
  ·have H6 := hid (hd.1 rfl)
   go_wp2_with fail
   exact ⟨fx 6, rfl, ⟨hC.1, fun h => hC.2 h⟩, H6.out, kP⟩
 ·intro L fx w' hC hS
  have H7 := hid (hS 7 (by decide) rfl)
  have HE : Hid (l ++ 1 :: num (zig z) = l ++ [1] ++ num u) := hid (by rw [HU.out, List.append_assoc]; rfl)
  have HG := hid (Grew.ahead HB0.out (grew_of hC.1 H7.out.2))
  clear hC hS
  go_wp2_with fail
  go_ret
  exact ⟨_, rfl, by rw [HE.out]; exact H7.out.1, HG.out⟩
/-- the table of writers -/
structure Wr (w : World) (q c : Nat) : Prop where
 c1 : w.cell? ⟨q, 1, none⟩ = some (.func (.func 157) #[] #[])
 c3 : w.cell? ⟨q, 3, none⟩ = some (.func (.func 161) #[] #[.pointer (some ⟨c, 0, none⟩)])
 p : w.cell? ⟨c, 0, none⟩ = some (.pointer (some ⟨q, 0, none⟩))
theorem Wr.below {w w' : World} {q c : Nat} (h : Wr w q c) (hb : Below w.heap.size w w') : Wr w' q c :=
 ⟨(hb.cell (block_lt_of_cell h.c1)).trans h.c1, (hb.cell (block_lt_of_cell h.c3)).trans h.c3, (hb.cell (block_lt_of_cell h.p)).trans h.p⟩
theorem newWriter_any (w : World) : Calls Tryz.prog 139 #[] w fun e w' => e = .returned (.pointer (some ⟨w.heap.size, 0, none⟩)) ∧ Wr w' w.heap.size (w.heap.size + 1) ∧ Below w.heap.size w w' := by
 go_enter Tryz.func139, Tryz.ntmps139
 go_wp2_with fail
 go_ret
 have h0 := heap_alloc_new w (.cells #[.nilFunc, .func (.func 157) #[] #[], .func (.func 160) #[] #[], .func (.func 161) #[] #[.pointer (some ⟨w.heap.size + 1, 0, none⟩)]] 201)
 have h1 := heap_alloc_new (w.alloc (.cells #[.nilFunc, .func (.func 157) #[] #[], .func (.func 160) #[] #[], .func (.func 161) #[] #[.pointer (some ⟨w.heap.size + 1, 0, none⟩)]] 201)) (.cells #[.pointer (some ⟨w.heap.size, 0, none⟩)] 179)
 have h2 := (Below.heap_alloc (w.alloc (.cells #[.nilFunc, .func (.func 157) #[] #[], .func (.func 160) #[] #[], .func (.func 161) #[] #[.pointer (some ⟨w.heap.size + 1, 0, none⟩)]] 201)) (.cells #[.pointer (some ⟨w.heap.size, 0, none⟩)] 179) w.heap.size (by simp)).trans h0
 rw [World.size_alloc] at h1
 exact ⟨rfl, ⟨by rw [cell_of_row _ _ _ _ _ _ h2]; rfl, by rw [cell_of_row _ _ _ _ _ _ h2]; rfl, by rw [cell_of_row _ _ _ _ _ _ h1]; rfl⟩, ((Below.refl _ w).alloc (Nat.le_refl _) _).alloc (by simp) _⟩
end Go.Proofs.YtmfmgeapecapiaaGreatDoor
