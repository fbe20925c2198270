/- Trees of digests, paths and climbs: plain functions. The kit of layers 42 and 43. sizar/digest: leaf, node. sizar/disclose: in, validLine, validClaim, the numbers of lines and claims, lines, claims. sizar/digest: half. sizar/digest.Tree. -/
import Derived.Test.YtmfmgeapecapiaaGreatDoorMS2
import Derived.Test.YtmfmgeapecapiaaGreatDoorMS3
import Derived.Test.YtmfmgeapecapiaaGreatDoorShelf
import Derived.Test.YtmfmgeapecapiaaGreatDoorMS1
import Derived.IntWalk
import Derived.Lib.ItoaNum
set_option maxHeartbeats 64000001
open Go.Lib (hid)
namespace Go.Proofs.SzTree
open SzSha
set_option linter.unusedVariables false
abbrev Dg := List Nat
def leafT : Dg := [108, 101, 97, 102]
def nodeT : Dg := [110, 111, 100, 101]
def emptyT : Dg := [101, 109, 112, 116, 121]
def leafD (d : Dg) : Dg := tagged leafT d
def nodeD (a b : Dg) : Dg := tagged nodeT (a ++ b)
def emptyD : Dg := tagged emptyT []
def treeF : Nat → List Dg → Dg
 | 0, _ => emptyD
 | f + 1, l => if l.length = 0 then emptyD else if l.length = 1 then leafD (l.headD []) else nodeD (treeF f (l.take (half l.length))) (treeF f (l.drop (half l.length)))
theorem treeF_fuel : ∀ f g l, l.length ≤ f → l.length ≤ g → treeF f l = treeF g l
 | 0, 0, _, _, _ => rfl
 | 0, g + 1, l, h, _ => by unfold treeF; rw [if_pos (by omega)]
 | f + 1, 0, l, _, h => by unfold treeF; rw [if_pos (by omega)]
 | f + 1, g + 1, l, h1, h2 => by
  unfold treeF
  by_cases h0 : l.length = 0
  ·rw [if_pos h0, if_pos h0]
  ·by_cases h : l.length = 1
   ·rw [if_neg h0, if_neg h0, if_pos h, if_pos h]
   ·have hb := half_bd (n := l.length) (by omega)
    rw [if_neg h0, if_neg h0, if_neg h, if_neg h, treeF_fuel f g _ (by rw [List.length_take]; omega) (by rw [List.length_take]; omega), treeF_fuel f g _ (by rw [List.length_drop]; omega) (by rw [List.length_drop]; omega)]
/-- the digest of a list -/
def treeD (l : List Dg) : Dg := treeF l.length l
theorem treeD_nil : treeD [] = emptyD := rfl
theorem treeD_one (d : Dg) : treeD [d] = leafD d := rfl
theorem treeD_two {l : List Dg} (h : 2 ≤ l.length) : treeD l = nodeD (treeD (l.take (half l.length))) (treeD (l.drop (half l.length))) := by
 have hb := half_bd h
 unfold treeD
 rw [treeF_fuel l.length (l.length - 1 + 1) l (by omega) (by omega)]
 conv => lhs; unfold treeF
 rw [if_neg (by omega), if_neg (by omega), treeF_fuel (l.length - 1) (l.take (half l.length)).length _ (by rw [List.length_take]; omega) (by omega), treeF_fuel (l.length - 1) (l.drop (half l.length)).length _ (by rw [List.length_drop]; omega) (by omega)]
theorem leafD_length (d : Dg) : (leafD d).length = 32 := tagged_length _ _
theorem nodeD_length (a b : Dg) : (nodeD a b).length = 32 := tagged_length _ _
theorem leafD_bytes (d : Dg) : Bytes (leafD d) := tagged_bytes _ _
theorem nodeD_bytes (a b : Dg) : Bytes (nodeD a b) := tagged_bytes _ _
theorem treeF_ok : ∀ f l, (treeF f l).length = 32 ∧ Bytes (treeF f l)
 | 0, _ => ⟨tagged_length _ _, tagged_bytes _ _⟩
 | f + 1, l => by
  unfold treeF
  split
  ·exact ⟨tagged_length _ _, tagged_bytes _ _⟩
  ·split
   ·exact ⟨leafD_length _, leafD_bytes _⟩
   ·exact ⟨nodeD_length _ _, nodeD_bytes _ _⟩
theorem treeD_length (l : List Dg) : (treeD l).length = 32 := (treeF_ok _ l).1
theorem treeD_bytes (l : List Dg) : Bytes (treeD l) := (treeF_ok _ l).2
/-- the sides of the way to leaf i of n, from the root downwards: whether the leaf is in the first half -/
def dirsF : Nat → Nat → Nat → List Bool
 | 0, _, _ => []
 | f + 1, i, n => if n ≤ 1 then [] else if i < half n then true :: dirsF f i (half n) else false :: dirsF f (i - half n) (n - half n)
theorem dirsF_stop (f i n : Nat) (h : n ≤ 1) : dirsF f i n = [] := by
 cases f with
 | zero => rfl
 | succ f => unfold dirsF; rw [if_pos h]
theorem dirsF_fuel : ∀ f g i n, n ≤ f + 1 → n ≤ g + 1 → dirsF f i n = dirsF g i n
 | 0, g, i, n, h, _ => by rw [dirsF_stop _ _ _ (by omega), dirsF_stop _ _ _ (by omega)]
 | f + 1, 0, i, n, _, h => by rw [dirsF_stop _ _ _ (by omega), dirsF_stop _ _ _ (by omega)]
 | f + 1, g + 1, i, n, h1, h2 => by
  unfold dirsF
  by_cases h : n ≤ 1
  ·rw [if_pos h, if_pos h]
  ·have hb := half_bd (n := n) (by omega)
   rw [if_neg h, if_neg h, dirsF_fuel f g i (half n) (by omega) (by omega), dirsF_fuel f g (i - half n) (n - half n) (by omega) (by omega)]
def dirsD (i m : Nat) : List Bool := dirsF m i m
theorem dirsD_one (i : Nat) {m : Nat} (h : m ≤ 1) : dirsD i m = [] := dirsF_stop _ _ _ h
theorem dirsD_left {i m : Nat} (h : 2 ≤ m) (hi : i < half m) : dirsD i m = true :: dirsD i (half m) := by
 have hb := half_bd h
 unfold dirsD
 rw [dirsF_fuel m (m + 1) i m (by omega) (by omega)]
 conv => lhs; unfold dirsF
 rw [if_neg (by omega), if_pos hi, dirsF_fuel m (half m) i (half m) (by omega) (by omega)]
theorem dirsD_right {i m : Nat} (h : 2 ≤ m) (hi : ¬ i < half m) : dirsD i m = false :: dirsD (i - half m) (m - half m) := by
 have hb := half_bd h
 unfold dirsD
 rw [dirsF_fuel m (m + 1) i m (by omega) (by omega)]
 conv => lhs; unfold dirsF
 rw [if_neg (by omega), if_neg hi, dirsF_fuel m (m - half m) (i - half m) (m - half m) (by omega) (by omega)]
/-- the path of element i -/
def pathF : Nat → List Dg → Nat → List Dg
 | 0, _, _ => []
 | f + 1, l, i => if l.length ≤ 1 then [] else if i < half l.length then pathF f (l.take (half l.length)) i ++ [treeD (l.drop (half l.length))] else pathF f (l.drop (half l.length)) (i - half l.length) ++ [treeD (l.take (half l.length))]
theorem pathF_stop (f : Nat) (l : List Dg) (i : Nat) (h : l.length ≤ 1) : pathF f l i = [] := by
 cases f with
 | zero => rfl
 | succ f => unfold pathF; rw [if_pos h]
theorem pathF_fuel : ∀ f g l i, l.length ≤ f + 1 → l.length ≤ g + 1 → pathF f l i = pathF g l i
 | 0, g, l, i, h, _ => by rw [pathF_stop _ _ _ (by omega), pathF_stop _ _ _ (by omega)]
 | f + 1, 0, l, i, _, h => by rw [pathF_stop _ _ _ (by omega), pathF_stop _ _ _ (by omega)]
 | f + 1, g + 1, l, i, h1, h2 => by
  unfold pathF
  by_cases h : l.length ≤ 1
  ·rw [if_pos h, if_pos h]
  ·have hb := half_bd (n := l.length) (by omega)
   rw [if_neg h, if_neg h, pathF_fuel f g (l.take (half l.length)) i (by rw [List.length_take]; omega) (by rw [List.length_take]; omega), pathF_fuel f g (l.drop (half l.length)) _ (by rw [List.length_drop]; omega) (by rw [List.length_drop]; omega)]
def pathD (l : List Dg) (i : Nat) : List Dg := pathF l.length l i
theorem pathD_one {l : List Dg} {i : Nat} (h : l.length ≤ 1) : pathD l i = [] := pathF_stop _ _ _ h
theorem pathD_left {l : List Dg} {i : Nat} (h : 2 ≤ l.length) (hi : i < half l.length) : pathD l i = pathD (l.take (half l.length)) i ++ [treeD (l.drop (half l.length))] := by
 have hb := half_bd h
 unfold pathD
 rw [pathF_fuel l.length (l.length + 1) l i (by omega) (by omega)]
 conv => lhs; unfold pathF
 rw [if_neg (by omega), if_pos hi, pathF_fuel l.length (l.take (half l.length)).length _ i (by rw [List.length_take]; omega) (by omega)]
theorem pathD_right {l : List Dg} {i : Nat} (h : 2 ≤ l.length) (hi : ¬ i < half l.length) : pathD l i = pathD (l.drop (half l.length)) (i - half l.length) ++ [treeD (l.take (half l.length))] := by
 have hb := half_bd h
 unfold pathD
 rw [pathF_fuel l.length (l.length + 1) l i (by omega) (by omega)]
 conv => lhs; unfold pathF
 rw [if_neg (by omega), if_neg hi, pathF_fuel l.length (l.drop (half l.length)).length _ _ (by rw [List.length_drop]; omega) (by omega)]
theorem pathD_dirs : ∀ (f : Nat) (l : List Dg) (i : Nat), l.length ≤ f → (pathD l i).length = (dirsD i l.length).length
 | 0, l, i, h => by rw [pathD_one (by omega), dirsD_one i (by omega)]; rfl
 | f + 1, l, i, h => by
  by_cases h1 : l.length ≤ 1
  ·rw [pathD_one h1, dirsD_one i h1]; rfl
  ·have hb := half_bd (n := l.length) (by omega)
   have ht : (l.take (half l.length)).length = half l.length := by rw [List.length_take]; omega
   have hd : (l.drop (half l.length)).length = l.length - half l.length := List.length_drop
   by_cases hi : i < half l.length
   ·rw [pathD_left (by omega) hi, dirsD_left (by omega) hi, List.length_append, List.length_cons, pathD_dirs f _ i (by omega), ht]; rfl
   ·rw [pathD_right (by omega) hi, dirsD_right (by omega) hi, List.length_append, List.length_cons, pathD_dirs f _ _ (by omega), hd]; rfl
theorem pathD_length (l : List Dg) (i : Nat) : (pathD l i).length = (dirsD i l.length).length := pathD_dirs _ l i (Nat.le_refl _)
theorem dirsF_length : ∀ f i n, (dirsF f i n).length ≤ f
 | 0, _, _ => Nat.le_refl _
 | f + 1, i, n => by
  unfold dirsF; split
  ·simp
  ·split
   ·have := dirsF_length f i (half n); simp; omega
   ·have := dirsF_length f (i - half n) (n - half n); simp; omega
theorem pathF_ok : ∀ f l i, ∀ p ∈ pathF f l i, p.length = 32 ∧ Bytes p
 | 0, _, _, p, hp => by simp [pathF] at hp
 | f + 1, l, i, p, hp => by
  unfold pathF at hp
  split at hp
  ·cases hp
  ·split at hp
   ·rcases List.mem_append.1 hp with h | h
    ·exact pathF_ok f _ _ p h
    ·rw [List.mem_singleton.1 h]; exact ⟨treeD_length _, treeD_bytes _⟩
   ·rcases List.mem_append.1 hp with h | h
    ·exact pathF_ok f _ _ p h
    ·rw [List.mem_singleton.1 h]; exact ⟨treeD_length _, treeD_bytes _⟩
theorem pathD_ok (l : List Dg) (i : Nat) : ∀ p ∈ pathD l i, p.length = 32 ∧ Bytes p := pathF_ok _ l i
/-- a step upwards, and many -/
def stepD (r : Bool) (p x : Dg) : Dg := if r then nodeD x p else nodeD p x
def climbD : List Bool → List Dg → Dg → Dg
 | r :: rs, p :: ps, x => climbD rs ps (stepD r p x)
 | _, _, x => x
theorem climbD_snoc : ∀ (rs : List Bool) (ps : List Dg) (r : Bool) (p x : Dg), rs.length = ps.length → climbD (rs ++ [r]) (ps ++ [p]) x = stepD r p (climbD rs ps x)
 | [], [], _, _, _, _ => rfl
 | [], _ :: _, _, _, _, h => by simp at h
 | _ :: _, [], _, _, _, h => by simp at h
 | r' :: rs, p' :: ps, r, p, x, h => by
  simp only [List.cons_append, climbD]
  exact climbD_snoc rs ps r p _ (by simpa using h)
theorem climbD_ok : ∀ (rs : List Bool) (ps : List Dg) (x : Dg), x.length = 32 → Bytes x → (climbD rs ps x).length = 32 ∧ Bytes (climbD rs ps x)
 | [], _, x, h1, h2 => ⟨h1, h2⟩
 | _ :: _, [], x, h1, h2 => ⟨h1, h2⟩
 | r :: rs, p :: ps, x, _, _ => by
  simp only [climbD]
  refine climbD_ok rs ps _ ?_ ?_ <;> (unfold stepD; split)
  ·exact nodeD_length _ _
  ·exact nodeD_length _ _
  ·exact nodeD_bytes _ _
  ·exact nodeD_bytes _ _
/-- paths lead to the digest of the list -/
theorem climbD_path : ∀ (f : Nat) (l : List Dg) (i : Nat) (hi : i < l.length), l.length ≤ f → climbD (dirsD i l.length).reverse (pathD l i) (leafD l[i]) = treeD l
 | 0, l, i, hi, h => by omega
 | f + 1, l, i, hi, h => by
  by_cases h1 : l.length ≤ 1
  ·obtain ⟨d, rfl⟩ : ∃ d, l = [d] := List.length_eq_one_iff.1 (by omega)
   have : i = 0 := by simpa using hi
   subst this
   rw [pathD_one (by simp), dirsD_one 0 (by simp)]; rfl
  ·have hb := half_bd (n := l.length) (by omega)
   have ht : (l.take (half l.length)).length = half l.length := by rw [List.length_take]; omega
   have hd : (l.drop (half l.length)).length = l.length - half l.length := List.length_drop
   rw [treeD_two (by omega)]
   by_cases hk : i < half l.length
   ·rw [pathD_left (by omega) hk, dirsD_left (by omega) hk, List.reverse_cons]
    have ih := climbD_path f (l.take (half l.length)) i (by omega) (by omega)
    rw [show (l.take (half l.length))[i]'(by omega) = l[i] from List.getElem_take, ht] at ih
    rw [climbD_snoc _ _ _ _ _ (by rw [List.length_reverse, pathD_length, ht])]
    rw [ih]; rfl
   ·rw [pathD_right (by omega) hk, dirsD_right (by omega) hk, List.reverse_cons]
    have ih := climbD_path f (l.drop (half l.length)) (i - half l.length) (by omega) (by omega)
    rw [climbD_snoc _ _ _ _ _ (by rw [List.length_reverse, pathD_length, hd])]
    have e : (l.drop (half l.length))[i - half l.length]'(by omega) = l[i] := by
     rw [List.getElem_drop]; congr 1; omega
    rw [e, hd] at ih
    rw [ih]; rfl
/-- half by logarithm -/
theorem halfF_log : ∀ (f j n : Nat), 2 ^ j < n → n ≤ 2 ^ (j + f + 1) → halfF f (2 ^ j) n = 2 ^ (Nat.log2 (n - 1))
 | 0, j, n, h1, h2 => by
  have hp := Nat.two_pow_pos j
  rw [Nat.add_zero] at h2
  have e : Nat.log2 (n - 1) = j := (Nat.log2_eq_iff (by omega)).2 ⟨by omega, by omega⟩
  rw [e]; rfl
 | f + 1, j, n, h1, h2 => by
  unfold halfF
  have hp := Nat.two_pow_pos j
  by_cases h : 2 * 2 ^ j < n
  ·rw [if_pos h, show 2 * 2 ^ j = 2 ^ (j + 1) by rw [Nat.pow_succ]; omega]
   exact halfF_log f (j + 1) n (by rw [Nat.pow_succ]; omega) (by rw [show j + 1 + f + 1 = j + (f + 1) + 1 by omega]; exact h2)
  ·rw [if_neg h]
   have e : Nat.log2 (n - 1) = j := (Nat.log2_eq_iff (by omega)).2 ⟨by omega, by rw [Nat.pow_succ]; omega⟩
   rw [e]
theorem half_log {n : Nat} (h : 2 ≤ n) (h2 : n ≤ 18446744073709551616) : half n = 2 ^ (Nat.log2 (n - 1)) := halfF_log 64 0 n (by show 1 < n; omega) (Nat.le_trans h2 (by decide))
end Go.Proofs.SzTree
namespace Go.Proofs.YtmfmgeapecapiaaGreatDoor
open Go.RowKit SzSha SzTree
set_option linter.unusedVariables false
set_option maxRecDepth 100000
theorem row_kept {w w' : World} {b : Nat} {cs : Array Value} {t : TypeId} (h : w.heap[b]? = some (.cells cs t (0, 0))) (hb : Below w.heap.size w w') : w'.heap[b]? = some (.cells cs t (0, 0)) := (hb.block b (Array.getElem?_eq_some_iff.1 h).1).trans h
theorem wpList_unguard {P : Program} {ops : Array Oper} {rest : List Oper} {o : Oper} {a : Act} {w : World} {Q : Exit → Act → World → Prop} (hw : Region.wanted o (yielded ops a.tmps) = true) (h : wpList P ops Q ({ o with guard := none } :: rest) a w) : wpList P ops Q (o :: rest) a w := by
 unfold wpList at h ⊢
 rw [if_pos hw]
 rw [if_pos (by unfold Region.wanted; rfl)] at h
 exact h
/-- a digest's cells -/
def dgC (l : List Nat) : List Value := l.map fun x => Value.int .u8 (x : Nat)
theorem dgV_agg (l : List Nat) : dgV l = .agg (dgC l).toArray := rfl
theorem dgC_length (l : List Nat) : (dgC l).length = l.length := by simp [dgC]
structure DgOk (l : List Nat) : Prop where
 len : l.length = 32
 bytes : Bytes l
theorem dgC_size {l : List Nat} (h : DgOk l) : 32 = (dgC l).toArray.size := by simp [dgC, h.len]
theorem dgC_info {l : List Nat} (h : DgOk l) : (Tryz.prog.info? 25).map (·.size) = some (dgC l).toArray.size := size32 l h.len
theorem dgC_one (l : List Nat) : (dgC l).toArray.all (·.oneCell') = true := oneCells l
theorem leafD_ok (d : List Nat) : DgOk (leafD d) := ⟨leafD_length d, leafD_bytes d⟩
theorem nodeD_ok (a b : List Nat) : DgOk (nodeD a b) := ⟨nodeD_length a b, nodeD_bytes a b⟩
theorem treeD_okD (l : List Dg) : DgOk (treeD l) := ⟨treeD_length l, treeD_bytes l⟩
def leafTag : ByteArray := ⟨#[108, 101, 97, 102]⟩
def nodeTag : ByteArray := ⟨#[110, 111, 100, 101]⟩
def emptyTag : ByteArray := ⟨#[101, 109, 112, 116, 121]⟩
theorem leafTag_d (l : List Nat) : dgV (tagged (strL leafTag) l) = dgV (leafD l) := rfl
theorem nodeTag_d (a b : List Nat) : dgV (tagged (strL nodeTag) (a ++ b)) = dgV (nodeD a b) := rfl
theorem emptyTag_d : dgV (tagged (strL emptyTag) []) = dgV emptyD := rfl
def zeroD : List Nat := List.replicate 32 0
theorem zeroD_ok : DgOk zeroD := ⟨by simp [zeroD], fun x hx => by have := List.eq_of_mem_replicate hx; omega⟩
theorem zeroD_cells : (dgC zeroD).toArray = #[.int .u8 0, .int .u8 0, .int .u8 0, .int .u8 0, .int .u8 0, .int .u8 0, .int .u8 0, .int .u8 0, .int .u8 0, .int .u8 0, .int .u8 0, .int .u8 0, .int .u8 0, .int .u8 0, .int .u8 0, .int .u8 0, .int .u8 0, .int .u8 0, .int .u8 0, .int .u8 0, .int .u8 0, .int .u8 0, .int .u8 0, .int .u8 0, .int .u8 0, .int .u8 0, .int .u8 0, .int .u8 0, .int .u8 0, .int .u8 0, .int .u8 0, .int .u8 0] := by simp [zeroD, dgC, List.replicate]
theorem bytes_app2 {l m : List Nat} (hl : Bytes l) (hm : Bytes m) : Bytes (l ++ m) := fun x hx => by
 rcases List.mem_append.1 hx with h | h
 ·exact hl x h
 ·exact hm x h
theorem rd_row {w : World} {g : Nat} {l : List Nat} {t : Nat} (h : w.heap[g]? = some (.cells (dgC l).toArray t (0, 0))) : Rd w w.heap.size (some ⟨g, 0, none⟩) l := fun _ => ⟨_, 0, rfl, (Array.getElem?_eq_some_iff.1 h).1, bytesAt_arr h⟩
theorem dleaf_any (d : List Nat) (w : World) (hd : Hid (DgOk d)) (hT : Hid (Tabs w)) :
  Calls Tryz.prog 90 #[dgV d] w fun e w' => e = .returned (dgV (leafD d)) ∧ Below w.heap.size w w' := by
 have hb0 := ((Below.refl _ w).alloc (Nat.le_refl _) (.cells (dgC d).toArray 25)).alloc (by simp) (.cells (dgC zeroD).toArray 25)
 have hr0 := (Below.heap_alloc (w.alloc (.cells (dgC d).toArray 25)) (.cells (dgC zeroD).toArray 25) w.heap.size (by simp)).trans (heap_alloc_new w (.cells (dgC d).toArray 25))
 have hr1 := heap_alloc_new (w.alloc (.cells (dgC d).toArray 25)) (.cells (dgC zeroD).toArray 25)
 rw [World.size_alloc] at hr1
 rw [zeroD_cells] at hb0 hr0 hr1
 have HB0 := hid hb0
 have HR0 := hid hr0
 have HR1 := hid hr1
 clear hb0 hr0 hr1
 rw [dgV_agg]
 go_enter Tryz.func90, Tryz.ntmps90
 go_wp2_with fail
 refine (tagged_any leafTag (some ⟨w.heap.size, 0, none⟩) 32 32 d _ (by decide) (hid hd.out.len) (Nat.le_refl _) (fun h => by cases h) (by omega) (hid hd.out.bytes) (hid (hT.out.below HB0.out)) (hid (rd_row HR0.out))).mono ?_
 rintro e w2 ⟨rfl, hq⟩
 rw [leafTag_d]
 have HB2 := hid (HB0.out.trans (hq.mono HB0.out.size))
 have HR2 := hid (row_kept HR1.out hq)
 have HS1 := hid (dgC_info (leafD_ok d))
 have HS2 := hid (dgC_size (leafD_ok d))
 rw [dgV_agg]
 clear hq
 go_wp2_with (refine wpList_store_row rfl 25 (.tmp 2) (.tmp 4) rfl (w.heap.size + 1) (dgC (leafD d)).toArray rfl rfl 25 _ HR2.out HS1.out HS2.out (dgC_one _) ?_)
 refine bodyPost_ret (results_cell_row rfl _ _ (w.heap.size + 1) 25 _ (0, 0) _ rfl (setRow_heap w2 (w.heap.size + 1) _ _ _ _ HR2.out) Tryz.underlying25 rfl HS1.out) rfl ?_
 exact ⟨rfl, below_setRow HB2.out (Nat.le_succ _) _⟩
def wDn (W0 : World) (M : Nat) (ba : Nat) (bb : Nat) (br : Nat) (a : List Nat) (b : List Nat) : Nat → Value → World → Prop
 | 0, fv, _ => fv = .slice (some ⟨ba, 0, none⟩) 32 32
 | 1, fv, _ => fv = .slice (some ⟨bb, 0, none⟩) 32 32
 | 2, fv, fw => ∃ g, fv = .slice (some ⟨g, 0, none⟩) 2 2 ∧ g < fw.heap.size ∧ fw.cell? ⟨g, 0, none⟩ = some (Value.slice (some ⟨ba, 0, none⟩) 32 32) ∧ fw.cell? ⟨g, 1, none⟩ = some (Value.slice (some ⟨bb, 0, none⟩) 32 32)
 | 3, fv, fw => OwnB fw M fv (a ++ b)
 | 4, fv, _ => fv = dgV (nodeD a b)
 | 5, fv, fw => fw.heap[br]? = some (.cells (dgC (nodeD a b)).toArray 25 (0, 0)) ∧ Below W0.heap.size W0 fw
 | _, _, _ => True
theorem wDn_below {W0 : World} {M : Nat} {ba : Nat} {bb : Nat} {br : Nat} {a : List Nat} {b : List Nat} {w w' : World} (hb : Below w.heap.size w w') : ∀ j v, wDn W0 M ba bb br a b j v w → wDn W0 M ba bb br a b j v w'
 | 0, v, h => h
 | 1, v, h => h
 | 2, v, ⟨g, h1, h2, h3, h4⟩ => ⟨g, h1, Nat.lt_of_lt_of_le h2 hb.size, (hb.cell (p := ⟨g, 0, none⟩) h2).trans h3, (hb.cell (p := ⟨g, 1, none⟩) h2).trans h4⟩
 | 3, v, h => h.below hb
 | 4, v, h => h
 | 5, v, h => ⟨row_kept h.1 hb, h.2.trans (hb.mono h.2.size)⟩
 | n + 6, v, h => trivial
theorem wDn_pure {W0 : World} {M : Nat} {ba : Nat} {bb : Nat} {br : Nat} {a : List Nat} {b : List Nat} {w w' : World} : ∀ j v, j ≠ 2 → j ≠ 3 → j ≠ 5 → wDn W0 M ba bb br a b j v w → wDn W0 M ba bb br a b j v w'
 | 0, v, _, _, _, h => h
 | 1, v, _, _, _, h => h
 | 2, v, hh, _, _, _ => absurd rfl hh
 | 3, v, _, hh, _, _ => absurd rfl hh
 | 4, v, _, _, _, h => h
 | 5, v, _, _, hh, _ => absurd rfl hh
 | n + 6, v, _, _, _, h => trivial
theorem dnode_any (a b : List Nat) (w : World) (ha : Hid (DgOk a)) (hb : Hid (DgOk b)) (hT : Hid (Tabs w)) :
  Calls Tryz.prog 92 #[dgV a, dgV b] w fun e w' => e = .returned (dgV (nodeD a b)) ∧ Below w.heap.size w w' := by
 obtain ⟨t1, t2, t3, t4, t5⟩ := two_rows2 w (dgC a).toArray (dgC b).toArray 25 (.cells (dgC zeroD).toArray 25)
 rw [zeroD_cells] at t1 t2 t3 t4 t5
 have HB0 := hid t1
 have HRA := hid t2
 have HRB := hid t3
 have HRR := hid t4
 have hT1 := hid (hT.out.below t1)
 have HS1 := hid (dgC_info (nodeD_ok a b))
 have HS2 := hid (dgC_size (nodeD_ok a b))
 clear t1 t2 t3 t4 t5
 rw [dgV_agg a, dgV_agg b]
 go_enter Tryz.func92, Tryz.ntmps92
 go_wp2_with fail
 generalize (((w.alloc (.cells (dgC a).toArray 25)).alloc (.cells (dgC b).toArray 25)).alloc (.cells #[.int .u8 0, .int .u8 0, .int .u8 0, .int .u8 0, .int .u8 0, .int .u8 0, .int .u8 0, .int .u8 0, .int .u8 0, .int .u8 0, .int .u8 0, .int .u8 0, .int .u8 0, .int .u8 0, .int .u8 0, .int .u8 0, .int .u8 0, .int .u8 0, .int .u8 0, .int .u8 0, .int .u8 0, .int .u8 0, .int .u8 0, .int .u8 0, .int .u8 0, .int .u8 0, .int .u8 0, .int .u8 0, .int .u8 0, .int .u8 0, .int .u8 0, .int .u8 0] 25)) = W1 at *
 refine region_flow3 (by kernel_rfl) (by kernel_rfl) (fun i => Nat.beq i 5) (fun i => i) (by kernel_rfl) (fun fx => #[.agg (dgC a).toArray, .agg (dgC b).toArray, .pointer (some { block := w.heap.size, off := 0 }), .pointer (some { block := w.heap.size + 1, off := 0 }), .pointer (some { block := w.heap.size + 1 + 1, off := 0 }), fx 0, fx 1, fx 2, fx 3, fx 4]) (fun _ => undef) (fun L fx w' => (L 5 = false → Below W1.heap.size W1 w')) (fun fi fv _ fw => wDn w W1.heap.size w.heap.size (w.heap.size + 1) (w.heap.size + 1 + 1) a b fi fv fw) (fun _ => (Below.refl _ _).drew) ?_ ?_
 ·refine ⟨?_, ?_, ?_, ?_, ?_, ?_, trivial⟩
  all_goals intro L fx w' hC hi hcl hdn hd
  ·have hnd : L 5 = false := nQ hi (fun h => (hcl 2 0 (hcl 3 2 (hcl 4 3 (hcl 5 4 h (by kernel_rfl)) (by kernel_rfl)) (by kernel_rfl)) (by kernel_rfl)))
   go_wp2_with fail
   exact ⟨_, rfl, (fun _ => hC hnd), rfl, kP⟩
  ·have hnd : L 5 = false := nQ hi (fun h => (hcl 2 1 (hcl 3 2 (hcl 4 3 (hcl 5 4 h (by kernel_rfl)) (by kernel_rfl)) (by kernel_rfl)) (by kernel_rfl)))
   go_wp2_with fail
   exact ⟨_, rfl, (fun _ => hC hnd), rfl, kP⟩
  ·have h0 : fx 0 = .slice (some ⟨w.heap.size, 0, none⟩) 32 32 := hd.1 rfl
   have h1 : fx 1 = .slice (some ⟨w.heap.size + 1, 0, none⟩) 32 32 := hd.2.1 rfl
   have hnd : L 5 = false := nQ hi (fun h => (hcl 3 2 (hcl 4 3 (hcl 5 4 h (by kernel_rfl)) (by kernel_rfl)) (by kernel_rfl)))
   go_wp2_with fail
   have hq := pair_row w' (Value.slice (some ⟨w.heap.size, 0, none⟩) 32 32) (Value.slice (some ⟨w.heap.size + 1, 0, none⟩) 32 32) 143
   exact ⟨_, by simp only [upd, h0, h1]; rfl, fun _ => (hC hnd).trans (hq.1.mono (hC hnd).size), ⟨_, rfl, by rw [hq.2.1]; omega, hq.2.2.1, hq.2.2.2⟩, fun j v t _ _ h => wDn_below hq.1 j v h⟩
  ·have H2 := hid (hd.1 rfl)
   have hnd : L 5 = false := nQ hi (fun h => (hcl 4 3 (hcl 5 4 h (by kernel_rfl)) (by kernel_rfl)))
   obtain ⟨g, h2, hg, c0, c1⟩ := H2.out
   have hb12 := hC hnd
   go_wp2_with fail
   refine (concat2 g 32 32 32 32 _ _ a b w' hg c0 c1 (hid ha.out.len) (hid hb.out.len) (by omega) (by omega) (fun h => by cases h) (fun h => by cases h) (hid (rd_row (row_kept HRA.out hb12))) (hid (rd_row (row_kept HRB.out hb12)))).mono ?_
   rintro e w2 ⟨v2, rfl, ho, hq⟩
   go_wp2_with fail
   exact ⟨v2, by first | rfl | (rw [← h2]; rfl), fun _ => hb12.trans (hq.mono hb12.size), ⟨ho.1, ho.2.imp id fun ⟨g, cap, cur, e, h1, r⟩ => ⟨g, cap, cur, e, Nat.le_trans hb12.size h1, r⟩⟩, fun j v t _ _ h => wDn_below hq j v h⟩
  ·have H3 := hid (hd.1 rfl)
   have hnd : L 5 = false := nQ hi (fun h => (hcl 5 4 h (by kernel_rfl)))
   have hb12 := hC hnd
   obtain ⟨A3, n3, c3, h3, hn3, hc3, hA3, HR3⟩ := H3.out.slice
   go_wp2_with fail
   refine (tagged_any nodeTag A3 n3 c3 (a ++ b) w' (by decide) hn3 hc3 hA3.out (by rw [← hn3.out, List.length_append, ha.out.len, hb.out.len]; omega) (hid (bytes_app2 ha.out.bytes hb.out.bytes)) (hid (hT1.out.below hb12)) HR3).mono ?_
   rintro e w2 ⟨rfl, hq⟩
   rw [nodeTag_d]
   go_wp2_with fail
   exact ⟨_, by first | rfl | (rw [← h3]; rfl), fun _ => hb12.trans (hq.mono hb12.size), rfl, fun j v t _ _ h => wDn_below hq j v h⟩
  ·have h4 : fx 4 = dgV (nodeD a b) := hd.1 rfl
   have hb21 := hC hi
   have hrow := row_kept HRR.out hb21
   refine wpList_store_row rfl 25 (.tmp 4) (.tmp 9) rfl (w.heap.size + 1 + 1) (dgC (nodeD a b)).toArray rfl h4 25 _ hrow HS1.out HS2.out (dgC_one _) ?_
   clear hd
   go_wp2_with fail
   refine ⟨undef, by rw [← h4]; rfl, fun h => (updB_self h).elim, ⟨setRow_heap _ _ _ _ _ _ hrow, below_setRow (HB0.out.trans (hb21.mono HB0.out.size)) (by omega) _⟩, fun j v t hj hu h => ?_⟩
   refine wDn_pure j v ?_ ?_ ?_ h <;> intro e <;> subst e
   ·exact absurd hu (not_needed (E := fun i => Nat.beq i 5) (j := 2) [3] (by kernel_rfl) (by kernel_rfl) (fun m hm hne => by simp at hm; subst hm; exact hcl 4 3 (hdn 4 (by kernel_rfl)) (by kernel_rfl)))
   ·exact absurd hu (not_needed (E := fun i => Nat.beq i 5) (j := 3) [4] (by kernel_rfl) (by kernel_rfl) (fun m hm hne => by simp at hm; subst hm; exact hdn 4 (by kernel_rfl)))
   ·rw [hi] at hj; cases hj
 ·intro L fx w' hC hS
  have H5 := hid (hS 5 (by decide) rfl)
  clear hS hC
  go_wp2_with fail
  refine bodyPost_ret (results_cell_row rfl _ _ (w.heap.size + 1 + 1) 25 _ (0, 0) _ rfl H5.out.1 Tryz.underlying25 rfl HS1.out) rfl ?_
  exact ⟨rfl, H5.out.2⟩
theorem in_any (x lo hi : Int) (w : World) : Calls Tryz.prog 52 #[.int .i64 x, .int .i64 lo, .int .i64 hi] w fun e w' => e = .returned (.bool (decide (lo ≤ x) && decide (x ≤ hi))) ∧ w = w' := by
 by_cases h : lo ≤ x
 ·have d : decide (lo ≤ x) = true := eQ h
  have HE : Hid ((decide (lo ≤ x) && decide (x ≤ hi)) = decide (x ≤ hi)) := hid (by rw [d]; rfl)
  rw [HE.out]
  go_enter Tryz.func52, Tryz.ntmps52
  go_wp2_with fail
  go_ret
  exact ⟨rfl, rfl⟩
 ·have d : decide (lo ≤ x) = false := dQ h
  have HE : Hid ((decide (lo ≤ x) && decide (x ≤ hi)) = false) := hid (by rw [d]; rfl)
  rw [HE.out]
  go_enter Tryz.func52, Tryz.ntmps52
  go_wp2_with fail
  go_ret
  exact ⟨rfl, rfl⟩
theorem and_dec {p q : Prop} [Decidable p] [Decidable q] (h : p ∧ q) : (decide p && decide q) = true := by simp [h]
theorem and_dec_no {p q : Prop} [Decidable p] [Decidable q] (h : ¬ (p ∧ q)) : (decide p && decide q) = false := by
 rw [← Bool.decide_and]; exact dQ h
/-- a valid claim -/
def kOk (p r : Int) : Prop := 0 ≤ p ∧ p ≤ 255 ∧ 0 ≤ r ∧ r ≤ 63
instance (p r : Int) : Decidable (kOk p r) := by unfold kOk; infer_instance
theorem vline_0 (c0 c1 c2 c3 c4 : Int) (w : World) (d0 : (decide (0 ≤ c0) && decide (c0 ≤ 4095)) = false) : Calls Tryz.prog 96 #[.agg #[.int .i64 c0, .int .i64 c1, .int .i64 c2, .int .i64 c3, .int .i64 c4]] w fun e w' => e = .returned (.bool false) ∧ Below w.heap.size w w' := by
 have HB := hid ((Below.refl _ w).alloc (Nat.le_refl _) (.cells #[.int .i64 c0, .int .i64 c1, .int .i64 c2, .int .i64 c3, .int .i64 c4] 45))
 have D0 := hid d0
 clear d0
 go_enter Tryz.func96, Tryz.ntmps96
 go_wp2_with fail
 refine (in_any _ _ _ _).mono ?_
 rintro e w0 ⟨rfl, rfl⟩
 rw [D0.out]
 go_wp2_with fail
 go_ret
 exact ⟨rfl, HB.out⟩
theorem vline_1 (c0 c1 c2 c3 c4 : Int) (w : World) (d0 : (decide (0 ≤ c0) && decide (c0 ≤ 4095)) = true) (d1 : (decide (0 ≤ c1) && decide (c1 ≤ 1023)) = false) : Calls Tryz.prog 96 #[.agg #[.int .i64 c0, .int .i64 c1, .int .i64 c2, .int .i64 c3, .int .i64 c4]] w fun e w' => e = .returned (.bool false) ∧ Below w.heap.size w w' := by
 have HB := hid ((Below.refl _ w).alloc (Nat.le_refl _) (.cells #[.int .i64 c0, .int .i64 c1, .int .i64 c2, .int .i64 c3, .int .i64 c4] 45))
 have D0 := hid d0
 have D1 := hid d1
 clear d0 d1
 go_enter Tryz.func96, Tryz.ntmps96
 go_wp2_with fail
 refine (in_any _ _ _ _).mono ?_
 rintro e w0 ⟨rfl, rfl⟩
 rw [D0.out]
 go_wp2_with fail
 refine (in_any _ _ _ _).mono ?_
 rintro e w1 ⟨rfl, rfl⟩
 rw [D1.out]
 go_wp2_with fail
 go_ret
 exact ⟨rfl, HB.out⟩
theorem vline_2 (c0 c1 c2 c3 c4 : Int) (w : World) (d0 : (decide (0 ≤ c0) && decide (c0 ≤ 4095)) = true) (d1 : (decide (0 ≤ c1) && decide (c1 ≤ 1023)) = true) (d2 : (decide (0 ≤ c2) && decide (c2 ≤ 12)) = false) : Calls Tryz.prog 96 #[.agg #[.int .i64 c0, .int .i64 c1, .int .i64 c2, .int .i64 c3, .int .i64 c4]] w fun e w' => e = .returned (.bool false) ∧ Below w.heap.size w w' := by
 have HB := hid ((Below.refl _ w).alloc (Nat.le_refl _) (.cells #[.int .i64 c0, .int .i64 c1, .int .i64 c2, .int .i64 c3, .int .i64 c4] 45))
 have D0 := hid d0
 have D1 := hid d1
 have D2 := hid d2
 clear d0 d1 d2
 go_enter Tryz.func96, Tryz.ntmps96
 go_wp2_with fail
 refine (in_any _ _ _ _).mono ?_
 rintro e w0 ⟨rfl, rfl⟩
 rw [D0.out]
 go_wp2_with fail
 refine (in_any _ _ _ _).mono ?_
 rintro e w1 ⟨rfl, rfl⟩
 rw [D1.out]
 go_wp2_with fail
 refine (in_any _ _ _ _).mono ?_
 rintro e w2 ⟨rfl, rfl⟩
 rw [D2.out]
 go_wp2_with fail
 go_ret
 exact ⟨rfl, HB.out⟩
theorem vline_3 (c0 c1 c2 c3 c4 : Int) (w : World) (d0 : (decide (0 ≤ c0) && decide (c0 ≤ 4095)) = true) (d1 : (decide (0 ≤ c1) && decide (c1 ≤ 1023)) = true) (d2 : (decide (0 ≤ c2) && decide (c2 ≤ 12)) = true) (d3 : (decide (0 ≤ c3) && decide (c3 ≤ 60)) = false) : Calls Tryz.prog 96 #[.agg #[.int .i64 c0, .int .i64 c1, .int .i64 c2, .int .i64 c3, .int .i64 c4]] w fun e w' => e = .returned (.bool false) ∧ Below w.heap.size w w' := by
 have HB := hid ((Below.refl _ w).alloc (Nat.le_refl _) (.cells #[.int .i64 c0, .int .i64 c1, .int .i64 c2, .int .i64 c3, .int .i64 c4] 45))
 have D0 := hid d0
 have D1 := hid d1
 have D2 := hid d2
 have D3 := hid d3
 clear d0 d1 d2 d3
 go_enter Tryz.func96, Tryz.ntmps96
 go_wp2_with fail
 refine (in_any _ _ _ _).mono ?_
 rintro e w0 ⟨rfl, rfl⟩
 rw [D0.out]
 go_wp2_with fail
 refine (in_any _ _ _ _).mono ?_
 rintro e w1 ⟨rfl, rfl⟩
 rw [D1.out]
 go_wp2_with fail
 refine (in_any _ _ _ _).mono ?_
 rintro e w2 ⟨rfl, rfl⟩
 rw [D2.out]
 go_wp2_with fail
 refine (in_any _ _ _ _).mono ?_
 rintro e w3 ⟨rfl, rfl⟩
 rw [D3.out]
 go_wp2_with fail
 go_ret
 exact ⟨rfl, HB.out⟩
theorem vline_4 (c0 c1 c2 c3 c4 : Int) (w : World) (d0 : (decide (0 ≤ c0) && decide (c0 ≤ 4095)) = true) (d1 : (decide (0 ≤ c1) && decide (c1 ≤ 1023)) = true) (d2 : (decide (0 ≤ c2) && decide (c2 ≤ 12)) = true) (d3 : (decide (0 ≤ c3) && decide (c3 ≤ 60)) = true) (d4 : (decide (0 ≤ c4) && decide (c4 ≤ 6)) = false) : Calls Tryz.prog 96 #[.agg #[.int .i64 c0, .int .i64 c1, .int .i64 c2, .int .i64 c3, .int .i64 c4]] w fun e w' => e = .returned (.bool false) ∧ Below w.heap.size w w' := by
 have HB := hid ((Below.refl _ w).alloc (Nat.le_refl _) (.cells #[.int .i64 c0, .int .i64 c1, .int .i64 c2, .int .i64 c3, .int .i64 c4] 45))
 have D0 := hid d0
 have D1 := hid d1
 have D2 := hid d2
 have D3 := hid d3
 have D4 := hid d4
 clear d0 d1 d2 d3 d4
 go_enter Tryz.func96, Tryz.ntmps96
 go_wp2_with fail
 refine (in_any _ _ _ _).mono ?_
 rintro e w0 ⟨rfl, rfl⟩
 rw [D0.out]
 go_wp2_with fail
 refine (in_any _ _ _ _).mono ?_
 rintro e w1 ⟨rfl, rfl⟩
 rw [D1.out]
 go_wp2_with fail
 refine (in_any _ _ _ _).mono ?_
 rintro e w2 ⟨rfl, rfl⟩
 rw [D2.out]
 go_wp2_with fail
 refine (in_any _ _ _ _).mono ?_
 rintro e w3 ⟨rfl, rfl⟩
 rw [D3.out]
 go_wp2_with fail
 refine (in_any _ _ _ _).mono ?_
 rintro e w4 ⟨rfl, rfl⟩
 rw [D4.out]
 go_wp2_with fail
 go_ret
 exact ⟨rfl, HB.out⟩
theorem vline_5 (c0 c1 c2 c3 c4 : Int) (w : World) (d0 : (decide (0 ≤ c0) && decide (c0 ≤ 4095)) = true) (d1 : (decide (0 ≤ c1) && decide (c1 ≤ 1023)) = true) (d2 : (decide (0 ≤ c2) && decide (c2 ≤ 12)) = true) (d3 : (decide (0 ≤ c3) && decide (c3 ≤ 60)) = true) (d4 : (decide (0 ≤ c4) && decide (c4 ≤ 6)) = true) : Calls Tryz.prog 96 #[.agg #[.int .i64 c0, .int .i64 c1, .int .i64 c2, .int .i64 c3, .int .i64 c4]] w fun e w' => e = .returned (.bool true) ∧ Below w.heap.size w w' := by
 have HB := hid ((Below.refl _ w).alloc (Nat.le_refl _) (.cells #[.int .i64 c0, .int .i64 c1, .int .i64 c2, .int .i64 c3, .int .i64 c4] 45))
 have D0 := hid d0
 have D1 := hid d1
 have D2 := hid d2
 have D3 := hid d3
 have D4 := hid d4
 clear d0 d1 d2 d3 d4
 go_enter Tryz.func96, Tryz.ntmps96
 go_wp2_with fail
 refine (in_any _ _ _ _).mono ?_
 rintro e w0 ⟨rfl, rfl⟩
 rw [D0.out]
 go_wp2_with fail
 refine (in_any _ _ _ _).mono ?_
 rintro e w1 ⟨rfl, rfl⟩
 rw [D1.out]
 go_wp2_with fail
 refine (in_any _ _ _ _).mono ?_
 rintro e w2 ⟨rfl, rfl⟩
 rw [D2.out]
 go_wp2_with fail
 refine (in_any _ _ _ _).mono ?_
 rintro e w3 ⟨rfl, rfl⟩
 rw [D3.out]
 go_wp2_with fail
 refine (in_any _ _ _ _).mono ?_
 rintro e w4 ⟨rfl, rfl⟩
 rw [D4.out]
 go_wp2_with fail
 go_ret
 exact ⟨rfl, HB.out⟩
theorem vline_any (c0 c1 c2 c3 c4 : Int) (w : World) : Calls Tryz.prog 96 #[.agg #[.int .i64 c0, .int .i64 c1, .int .i64 c2, .int .i64 c3, .int .i64 c4]] w fun e w' => e = .returned (.bool (decide (lOk c0 c1 c2 c3 c4))) ∧ Below w.heap.size w w' := by
 by_cases b0 : 0 ≤ c0 ∧ c0 ≤ 4095
 case neg =>
  rw [dQ (show ¬ (lOk c0 c1 c2 c3 c4) by unfold lOk; omega)]
  exact vline_0 c0 c1 c2 c3 c4  w (and_dec_no b0)
 by_cases b1 : 0 ≤ c1 ∧ c1 ≤ 1023
 case neg =>
  rw [dQ (show ¬ (lOk c0 c1 c2 c3 c4) by unfold lOk; omega)]
  exact vline_1 c0 c1 c2 c3 c4  w (and_dec b0) (and_dec_no b1)
 by_cases b2 : 0 ≤ c2 ∧ c2 ≤ 12
 case neg =>
  rw [dQ (show ¬ (lOk c0 c1 c2 c3 c4) by unfold lOk; omega)]
  exact vline_2 c0 c1 c2 c3 c4  w (and_dec b0) (and_dec b1) (and_dec_no b2)
 by_cases b3 : 0 ≤ c3 ∧ c3 ≤ 60
 case neg =>
  rw [dQ (show ¬ (lOk c0 c1 c2 c3 c4) by unfold lOk; omega)]
  exact vline_3 c0 c1 c2 c3 c4  w (and_dec b0) (and_dec b1) (and_dec b2) (and_dec_no b3)
 by_cases b4 : 0 ≤ c4 ∧ c4 ≤ 6
 case neg =>
  rw [dQ (show ¬ (lOk c0 c1 c2 c3 c4) by unfold lOk; omega)]
  exact vline_4 c0 c1 c2 c3 c4  w (and_dec b0) (and_dec b1) (and_dec b2) (and_dec b3) (and_dec_no b4)
 rw [eQ (show lOk c0 c1 c2 c3 c4 by unfold lOk; omega)]
 exact vline_5 c0 c1 c2 c3 c4  w (and_dec b0) (and_dec b1) (and_dec b2) (and_dec b3) (and_dec b4)
theorem vclaim_0 (p r : Int) (m : Bool) (w : World) (d0 : (decide (0 ≤ p) && decide (p ≤ 255)) = false) : Calls Tryz.prog 107 #[.agg #[.int .i64 p, .int .i64 r, .bool m]] w fun e w' => e = .returned (.bool false) ∧ Below w.heap.size w w' := by
 have HB := hid ((Below.refl _ w).alloc (Nat.le_refl _) (.cells #[.int .i64 p, .int .i64 r, .bool m] 56))
 have D0 := hid d0
 clear d0
 go_enter Tryz.func107, Tryz.ntmps107
 go_wp2_with fail
 refine (in_any _ _ _ _).mono ?_
 rintro e w0 ⟨rfl, rfl⟩
 rw [D0.out]
 go_wp2_with fail
 go_ret
 exact ⟨rfl, HB.out⟩
theorem vclaim_1 (p r : Int) (m : Bool) (w : World) (d0 : (decide (0 ≤ p) && decide (p ≤ 255)) = true) (d1 : (decide (0 ≤ r) && decide (r ≤ 63)) = false) : Calls Tryz.prog 107 #[.agg #[.int .i64 p, .int .i64 r, .bool m]] w fun e w' => e = .returned (.bool false) ∧ Below w.heap.size w w' := by
 have HB := hid ((Below.refl _ w).alloc (Nat.le_refl _) (.cells #[.int .i64 p, .int .i64 r, .bool m] 56))
 have D0 := hid d0
 have D1 := hid d1
 clear d0 d1
 go_enter Tryz.func107, Tryz.ntmps107
 go_wp2_with fail
 refine (in_any _ _ _ _).mono ?_
 rintro e w0 ⟨rfl, rfl⟩
 rw [D0.out]
 go_wp2_with fail
 refine (in_any _ _ _ _).mono ?_
 rintro e w1 ⟨rfl, rfl⟩
 rw [D1.out]
 go_wp2_with fail
 go_ret
 exact ⟨rfl, HB.out⟩
theorem vclaim_2 (p r : Int) (m : Bool) (w : World) (d0 : (decide (0 ≤ p) && decide (p ≤ 255)) = true) (d1 : (decide (0 ≤ r) && decide (r ≤ 63)) = true) : Calls Tryz.prog 107 #[.agg #[.int .i64 p, .int .i64 r, .bool m]] w fun e w' => e = .returned (.bool true) ∧ Below w.heap.size w w' := by
 have HB := hid ((Below.refl _ w).alloc (Nat.le_refl _) (.cells #[.int .i64 p, .int .i64 r, .bool m] 56))
 have D0 := hid d0
 have D1 := hid d1
 clear d0 d1
 go_enter Tryz.func107, Tryz.ntmps107
 go_wp2_with fail
 refine (in_any _ _ _ _).mono ?_
 rintro e w0 ⟨rfl, rfl⟩
 rw [D0.out]
 go_wp2_with fail
 refine (in_any _ _ _ _).mono ?_
 rintro e w1 ⟨rfl, rfl⟩
 rw [D1.out]
 go_wp2_with fail
 go_ret
 exact ⟨rfl, HB.out⟩
theorem vclaim_any (p r : Int) (m : Bool) (w : World) : Calls Tryz.prog 107 #[.agg #[.int .i64 p, .int .i64 r, .bool m]] w fun e w' => e = .returned (.bool (decide (kOk p r))) ∧ Below w.heap.size w w' := by
 by_cases b0 : 0 ≤ p ∧ p ≤ 255
 case neg =>
  rw [dQ (show ¬ (kOk p r) by unfold kOk; omega)]
  exact vclaim_0 p r  m  w (and_dec_no b0)
 by_cases b1 : 0 ≤ r ∧ r ≤ 63
 case neg =>
  rw [dQ (show ¬ (kOk p r) by unfold kOk; omega)]
  exact vclaim_1 p r  m  w (and_dec b0) (and_dec_no b1)
 rw [eQ (show kOk p r by unfold kOk; omega)]
 exact vclaim_2 p r  m  w (and_dec b0) (and_dec b1)
/-- the numbers of lines and of claims -/
def noL (c0 c1 : Int) : Int := wrap64 (wrap64 (4096 * c1) + c0)
def noK (p r : Int) : Int := wrap64 (wrap64 (64 * p) + r)
theorem noL_val {c0 c1 c2 c3 c4 : Int} (h : lOk c0 c1 c2 c3 c4) : noL c0 c1 = 4096 * c1 + c0 := by unfold lOk at h; unfold noL wrap64; omega
theorem noK_val {p r : Int} (h : kOk p r) : noK p r = 64 * p + r := by unfold kOk at h; unfold noK wrap64; omega
theorem noL_bd (c0 c1 : Int) : I64 (noL c0 c1) := by unfold I64 noL wrap64; omega
theorem noK_bd (p r : Int) : I64 (noK p r) := by unfold I64 noK wrap64; omega
theorem noL_any (c0 c1 c2 c3 c4 : Int) (w : World) : Calls Tryz.prog 94 #[.agg #[.int .i64 c0, .int .i64 c1, .int .i64 c2, .int .i64 c3, .int .i64 c4]] w fun e w' => e = .returned (.int .i64 (noL c0 c1)) ∧ Below w.heap.size w w' := by
 have HB := hid ((Below.refl _ w).alloc (Nat.le_refl _) (.cells #[.int .i64 c0, .int .i64 c1, .int .i64 c2, .int .i64 c3, .int .i64 c4] 45))
 go_enter Tryz.func94, Tryz.ntmps94
 go_wp2_with fail
 go_ret
 exact ⟨by unfold noL; rfl, HB.out⟩
theorem noK_any (p r : Int) (m : Bool) (w : World) : Calls Tryz.prog 104 #[.agg #[.int .i64 p, .int .i64 r, .bool m]] w fun e w' => e = .returned (.int .i64 (noK p r)) ∧ Below w.heap.size w w' := by
 have HB := hid ((Below.refl _ w).alloc (Nat.le_refl _) (.cells #[.int .i64 p, .int .i64 r, .bool m] 56))
 go_enter Tryz.func104, Tryz.ntmps104
 go_wp2_with fail
 go_ret
 exact ⟨by unfold noK; rfl, HB.out⟩
def tabL : Array Value := #[.int .i64 1, .func (.func 96) #[] #[], .func (.func 94) #[] #[], .func (.func 95) #[] #[]]
def tabK : Array Value := #[.int .i64 2, .func (.func 107) #[] #[], .func (.func 104) #[] #[], .func (.func 105) #[] #[]]
theorem lines_any (w : World) : Calls Tryz.prog 42 #[] w fun e w' => e = .returned (.agg tabL) ∧ Below w.heap.size w w' := by
 go_enter Tryz.func42, Tryz.ntmps42
 go_wp2_with (refine wpList_store_row rfl 86 (.tmp 0) (.tmp 5) rfl w.heap.size tabL rfl rfl 86 _ (heap_alloc_new w _) (by kernel_rfl) rfl (by decide +kernel) ?_)
 refine bodyPost_ret (results_cell_row rfl _ _ w.heap.size 86 tabL (0, 0) _ rfl (laid_row w _ tabL 86).2.2 Tryz.underlying86 rfl (by kernel_rfl)) rfl ?_
 exact ⟨rfl, (laid_row w _ tabL 86).1⟩
theorem claims_any (w : World) : Calls Tryz.prog 49 #[] w fun e w' => e = .returned (.agg tabK) ∧ Below w.heap.size w w' := by
 go_enter Tryz.func49, Tryz.ntmps49
 go_wp2_with (refine wpList_store_row rfl 95 (.tmp 0) (.tmp 5) rfl w.heap.size tabK rfl rfl 95 _ (heap_alloc_new w _) (by kernel_rfl) rfl (by decide +kernel) ?_)
 refine bodyPost_ret (results_cell_row rfl _ _ w.heap.size 95 tabK (0, 0) _ rfl (laid_row w _ tabK 95).2.2 Tryz.underlying95 rfl (by kernel_rfl)) rfl ?_
 exact ⟨rfl, (laid_row w _ tabK 95).1⟩
theorem bitLen_log {m k : Nat} (h1 : 2 ^ k ≤ m) (h2 : m < 2 ^ (k + 1)) (h3 : m < 2 ^ 64) : Lib.bitLen m = k + 1 := by
 have hm : m ≠ 0 := by have := Nat.two_pow_pos k; omega
 obtain ⟨a, b, c⟩ := Lib.bitLenAux_bounds 64 m h3 hm
 have e : Lib.bitLenAux 64 m = Lib.bitLen m := rfl
 rw [e] at a b c
 have q1 : 2 ^ k < 2 ^ Lib.bitLen m := by omega
 have q2 : 2 ^ (Lib.bitLen m - 1) < 2 ^ (k + 1) := by omega
 have r1 := (Nat.pow_lt_pow_iff_right (a := 2) (by omega)).1 q1
 have r2 := (Nat.pow_lt_pow_iff_right (a := 2) (by omega)).1 q2
 omega
theorem dhalf_any (n : Nat) (w : World) (h2 : 2 ≤ n) (hn : n ≤ 2199023255552) : Calls Tryz.prog 91 #[.int .i64 (n : Nat)] w fun e w' => e = .returned (.int .i64 (half n : Nat)) ∧ w = w' := by
 have e1 : IntKind.i64.wrap ((n : Int) - 1) = (n : Int) - 1 := IntWalk.i64_in _ (by omega)
 have e2 : IntKind.u64.wrap ((n : Int) - 1) = (n : Int) - 1 := by rw [IntKind.wrap_u64]; omega
 obtain ⟨k, HK⟩ : ∃ k, Hid (Nat.log2 (n - 1) = k) := ⟨_, hid rfl⟩
 have hlog := (Nat.log2_eq_iff (n := n - 1) (k := k) (by omega)).1 HK.out
 have hk : k ≤ 62 := by
  apply Classical.byContradiction
  intro hc
  have : 2 ^ 63 ≤ 2 ^ k := Nat.pow_le_pow_right (by omega) (by omega)
  omega
 have HE : Hid (half n = 2 ^ k) := hid (by rw [half_log h2 (by omega), HK.out])
 have HB : Hid (Lib.bitLen (n - 1) = k + 1) := hid (bitLen_log hlog.1 hlog.2 (by omega))
 have hw : IntKind.i64.wrap (((k + 1 : Nat) : Int) - 1) = (k : Int) := by rw [IntWalk.i64_in _ (by omega)]; omega
 have hw2 : IntKind.i64.wrap ((k : Int) + 1 - 1) = (k : Int) := by rw [IntWalk.i64_in _ (by omega)]; omega
 obtain ⟨p, HP⟩ : ∃ p : Nat, Hid (2 ^ k = p) := ⟨_, hid rfl⟩
 have HZ : Hid (wrap64 ((2 : Int) ^ k) = (p : Int)) := hid (by
  have hp : (2 : Nat) ^ k ≤ 2 ^ 62 := Nat.pow_le_pow_right (by omega) hk
  have e3 : (2 : Int) ^ k = ((2 ^ k : Nat) : Int) := by simp
  rw [e3, HP.out]
  rw [HP.out, show (2 : Nat) ^ 62 = 4611686018427387904 by decide] at hp
  unfold wrap64
  omega)
 clear hlog
 go_enter Tryz.func91, Tryz.ntmps91
 go_wp2_with fail
 refine (Tryz.bits_Len ((n : Int) - 1) w (by omega) (by omega)).mono ?_
 rintro e w2 ⟨rfl, rfl⟩
 rw [show ((n : Int) - 1).toNat = n - 1 by omega, HB.out]
 go_wp2_with fail
 go_ret
 exact ⟨by rw [HE.out, HP.out, ← HZ.out]; rfl, rfl⟩
/-- lists of digests -/
def flatD (ls : List Dg) : List Value := ls.flatMap dgC
structure InD (w : World) (A : Option Addr) (n c : Nat) (ls : List Dg) : Prop where
 len : ls.length = n
 cap : n ≤ c
 none_ : A = none → c = 0
 ok : ∀ x ∈ ls, DgOk x
 rd : 0 < ls.length → ∃ g off, A = some ⟨g, off, none⟩ ∧ g < w.heap.size ∧ w.rangeAt g off (flatD ls)
theorem InD.below {w w' : World} {A : Option Addr} {n c : Nat} {ls : List Dg} (h : InD w A n c ls) (hb : Below w.heap.size w w') : InD w' A n c ls :=
 ⟨h.len, h.cap, h.none_, h.ok, fun h0 => by
  obtain ⟨g, off, e, hg, hr⟩ := h.rd h0
  exact ⟨g, off, e, Nat.lt_of_lt_of_le hg hb.size, rangeAt_below hr hg hb⟩⟩
theorem flatD_append (a b : List Dg) : flatD (a ++ b) = flatD a ++ flatD b := by unfold flatD; rw [List.flatMap_append]
theorem flatD_length : ∀ (ls : List Dg), (∀ x ∈ ls, DgOk x) → (flatD ls).length = ls.length * 32
 | [], _ => rfl
 | n :: ls, ho => by
  have h1 : (dgC n).length = 32 := by rw [dgC_length]; exact (ho n (by simp)).len
  have h2 : (ls.flatMap dgC).length = ls.length * 32 := flatD_length ls (fun x hx => ho x (List.mem_cons_of_mem _ hx))
  show ((n :: ls).flatMap dgC).length = _
  rw [List.flatMap_cons, List.length_append, h1, h2, List.length_cons]; omega
theorem InD.take {w : World} {g off n c : Nat} {ls : List Dg} (h : InD w (some ⟨g, off, none⟩) n c ls) (k : Nat) (hk : k ≤ n) : InD w (some ⟨g, off, none⟩) k c (ls.take k) :=
 ⟨by rw [List.length_take, h.len]; omega, by have := h.cap; omega, (fun e => by cases e), fun x hx => h.ok x (List.mem_of_mem_take hx), fun h0 => by
  rw [List.length_take] at h0
  obtain ⟨g', off', e, hg, hr⟩ := h.rd (by omega)
  cases e
  refine ⟨g, off, rfl, hg, fun j v hj => hr j v ?_⟩
  have e2 : flatD ls = flatD (ls.take k) ++ flatD (ls.drop k) := by rw [← flatD_append, List.take_append_drop]
  rw [e2, List.getElem?_append_left (List.getElem?_eq_some_iff.1 hj).1]; exact hj⟩
theorem InD.drop {w : World} {g off n c : Nat} {ls : List Dg} (h : InD w (some ⟨g, off, none⟩) n c ls) (k : Nat) (hk : k ≤ n) : InD w (some ⟨g, off + k * 32, none⟩) (n - k) (c - k) (ls.drop k) :=
 ⟨by rw [List.length_drop, h.len], by have := h.cap; omega, (fun e => by cases e), fun x hx => h.ok x (List.mem_of_mem_drop hx), fun h0 => by
  rw [List.length_drop] at h0
  obtain ⟨g', off', e, hg, hr⟩ := h.rd (by omega)
  cases e
  refine ⟨g, off + k * 32, rfl, hg, fun j v hj => ?_⟩
  have e2 : flatD ls = flatD (ls.take k) ++ flatD (ls.drop k) := by rw [← flatD_append, List.take_append_drop]
  have e3 : (flatD (ls.take k)).length = k * 32 := by
   rw [flatD_length _ (fun x hx => h.ok x (List.mem_of_mem_take hx)), List.length_take, h.len]
   rw [show min k n = k by omega]
  rw [Nat.add_assoc]
  refine hr (k * 32 + j) v ?_
  rw [e2, List.getElem?_append_right (by omega), e3, Nat.add_sub_cancel_left]; exact hj⟩
theorem rangeD_one {w : World} {g off : Nat} {ls : List Dg} (hr : w.rangeAt g off (flatD ls)) (ho : ∀ x ∈ ls, DgOk x) (k : Nat) (hk : k < ls.length) : w.rangeAt g (off + k * 32) (dgC ls[k]) := fun j v hj => by
 have hj2 : j < 32 := by have := (List.getElem?_eq_some_iff.1 hj).1; rw [dgC_length, (ho _ (List.getElem_mem hk)).len] at this; exact this
 rw [Nat.add_assoc]
 refine hr (k * 32 + j) v ?_
 have e1 : ls = ls.take k ++ (ls[k] :: ls.drop (k + 1)) := by rw [← List.drop_eq_getElem_cons hk, List.take_append_drop]
 have e3 : (flatD (ls.take k)).length = k * 32 := by
  rw [flatD_length _ (fun x hx => ho x (List.mem_of_mem_take hx)), List.length_take, show min k ls.length = k by omega]
 have e2 : flatD ls = flatD (ls.take k) ++ (dgC ls[k] ++ flatD (ls.drop (k + 1))) := by
  conv => lhs; rw [e1]
  rw [flatD_append]; rfl
 rw [e2, List.getElem?_append_right (by omega), e3, Nat.add_sub_cancel_left, List.getElem?_append_left (by rw [dgC_length, (ho _ (List.getElem_mem hk)).len]; exact hj2)]
 exact hj
theorem dgC_infoL {l : List Nat} (h : DgOk l) : (Tryz.prog.info? 25).map (·.size) = some (dgC l).length := by have := dgC_info h; simpa using this
def wDt (W0 : World) (br : Nat) (g : Nat) (off : Nat) (n : Nat) (c : Nat) (k : Nat) (a : List Nat) (b : List Nat) (r : List Nat) : Nat → Value → World → Prop
 | 0, fv, _ => fv = .slice (some ⟨g, off, none⟩) n c
 | 1, fv, _ => fv = .int .i64 ((k : Nat))
 | 2, fv, _ => fv = .slice (some ⟨g, off, none⟩) k c
 | 3, fv, _ => fv = dgV a
 | 4, fv, _ => fv = .slice (some ⟨g, off, none⟩) n c
 | 5, fv, _ => fv = .int .i64 ((k : Nat))
 | 6, fv, _ => fv = .slice (some ⟨g, off + k * 32, none⟩) (n - k) (c - k)
 | 7, fv, _ => fv = dgV b
 | 8, fv, _ => fv = dgV r
 | 9, fv, fw => fw.heap[br]? = some (.cells (dgC r).toArray 25 (0, 0)) ∧ Below W0.heap.size W0 fw
 | _, _, _ => True
theorem wDt_below {W0 : World} {br : Nat} {g : Nat} {off : Nat} {n : Nat} {c : Nat} {k : Nat} {a : List Nat} {b : List Nat} {r : List Nat} {w w' : World} (hb : Below w.heap.size w w') : ∀ j v, wDt W0 br g off n c k a b r j v w → wDt W0 br g off n c k a b r j v w'
 | 0, v, h => h
 | 1, v, h => h
 | 2, v, h => h
 | 3, v, h => h
 | 4, v, h => h
 | 5, v, h => h
 | 6, v, h => h
 | 7, v, h => h
 | 8, v, h => h
 | 9, v, h => ⟨row_kept h.1 hb, h.2.trans (hb.mono h.2.size)⟩
 | n + 10, v, h => trivial
theorem wDt_pure {W0 : World} {br : Nat} {g : Nat} {off : Nat} {n : Nat} {c : Nat} {k : Nat} {a : List Nat} {b : List Nat} {r : List Nat} {w w' : World} : ∀ j v, j ≠ 9 → wDt W0 br g off n c k a b r j v w → wDt W0 br g off n c k a b r j v w'
 | 0, v, _, h => h
 | 1, v, _, h => h
 | 2, v, _, h => h
 | 3, v, _, h => h
 | 4, v, _, h => h
 | 5, v, _, h => h
 | 6, v, _, h => h
 | 7, v, _, h => h
 | 8, v, _, h => h
 | 9, v, hh, _ => absurd rfl hh
 | n + 10, v, _, h => trivial
theorem dtree_nil (A : Option Addr) (c : Nat) (w : World) (hT : Hid (Tabs w)) :
  Calls Tryz.prog 40 #[.slice A 0 c] w fun e w' => e = .returned (dgV (treeD [])) ∧ Below w.heap.size w w' := by
 have HB0 := hid ((Below.refl _ w).alloc (Nat.le_refl _) (.cells (dgC zeroD).toArray 25))
 have HR0 := hid (heap_alloc_new w (.cells (dgC zeroD).toArray 25))
 have HT1 := hid (hT.out.below HB0.out)
 rw [zeroD_cells] at HB0 HR0 HT1
 have HS1 := hid (dgC_info (treeD_okD []))
 have HS2 := hid (dgC_size (treeD_okD []))
 rw [treeD_nil] at HS1 HS2 ⊢
 go_enter Tryz.func40, Tryz.ntmps40
 go_wp2_with fail
 generalize w.alloc (.cells #[.int .u8 0, .int .u8 0, .int .u8 0, .int .u8 0, .int .u8 0, .int .u8 0, .int .u8 0, .int .u8 0, .int .u8 0, .int .u8 0, .int .u8 0, .int .u8 0, .int .u8 0, .int .u8 0, .int .u8 0, .int .u8 0, .int .u8 0, .int .u8 0, .int .u8 0, .int .u8 0, .int .u8 0, .int .u8 0, .int .u8 0, .int .u8 0, .int .u8 0, .int .u8 0, .int .u8 0, .int .u8 0, .int .u8 0, .int .u8 0, .int .u8 0, .int .u8 0] 25) = W1 at *
 refine (tagged_any emptyTag none 0 0 [] W1 (by decide) (hid rfl) (Nat.le_refl _) (fun _ => rfl) (by omega) (hid (fun x hx => by cases hx)) HT1 (hid (fun h => by simp at h))).mono ?_
 rintro e w2 ⟨rfl, hq⟩
 rw [emptyTag_d]
 have HB2 := hid (HB0.out.trans (hq.mono HB0.out.size))
 have HR2 := hid (row_kept HR0.out hq)
 clear hq
 rw [dgV_agg]
 go_wp2_with (refine wpList_store_row rfl 25 (.tmp 2) (.tmp 8) rfl w.heap.size (dgC emptyD).toArray rfl rfl 25 _ HR2.out HS1.out HS2.out (dgC_one _) ?_)
 refine bodyPost_ret (results_cell_row rfl _ _ w.heap.size 25 _ (0, 0) _ rfl (setRow_heap w2 w.heap.size _ _ _ _ HR2.out) Tryz.underlying25 rfl HS1.out) rfl ?_
 exact ⟨rfl, below_setRow HB2.out (Nat.le_refl _) _⟩
theorem dtree_any : ∀ (m : Nat) (ls : List Dg) (A : Option Addr) (n c : Nat) (w : World), n ≤ m → n ≤ 1099511627776 → Hid (InD w A n c ls) → Hid (Tabs w) →
  Calls Tryz.prog 40 #[.slice A n c] w fun e w' => e = .returned (dgV (treeD ls)) ∧ Below w.heap.size w w' := by
 intro m
 induction m with
 | zero =>
  intro ls A n c w h1 h2 h hT
  have h0 : n = 0 := by omega
  have hl : ls = [] := List.eq_nil_of_length_eq_zero (by rw [h.out.len]; exact h0)
  subst hl
  subst h0
  exact dtree_nil A c w hT
 | succ m ih =>
  intro ls A n c w hm hn h hT
  have HNE := hid (show ls.length = n from h.out.len)
  by_cases hz : n = 0
  ·have hl : ls = [] := List.eq_nil_of_length_eq_zero (by rw [HNE.out]; exact hz)
   subst hl
   subst hz
   exact dtree_nil A c w hT
  obtain ⟨g, off, rfl, hg, hr⟩ := h.out.rd (by rw [h.out.len]; omega)
  have hcap := h.out.cap
  clear hr
  have HB0 := hid ((Below.refl _ w).alloc (Nat.le_refl _) (.cells (dgC zeroD).toArray 25))
  have HR0 := hid (heap_alloc_new w (.cells (dgC zeroD).toArray 25))
  have HIN := hid (h.out.below HB0.out)
  have HT1 := hid (hT.out.below HB0.out)
  rw [zeroD_cells] at HB0 HR0 HIN HT1
  have d0 : ((n : Int) == 0) = false := beq_false_of_ne (by omega)
  have d00 : decide ((n : Int) = 0) = false := dQ (by omega)
  by_cases h2 : 2 ≤ n
  ·have d1 : decide ((n : Int) = 1) = false := dQ (by omega)
   have d11 : ((n : Int) == 1) = false := beq_false_of_ne (by omega)
   go_enter Tryz.func40, Tryz.ntmps40
   go_wp2_with fail
   generalize w.alloc (.cells #[.int .u8 0, .int .u8 0, .int .u8 0, .int .u8 0, .int .u8 0, .int .u8 0, .int .u8 0, .int .u8 0, .int .u8 0, .int .u8 0, .int .u8 0, .int .u8 0, .int .u8 0, .int .u8 0, .int .u8 0, .int .u8 0, .int .u8 0, .int .u8 0, .int .u8 0, .int .u8 0, .int .u8 0, .int .u8 0, .int .u8 0, .int .u8 0, .int .u8 0, .int .u8 0, .int .u8 0, .int .u8 0, .int .u8 0, .int .u8 0, .int .u8 0, .int .u8 0] 25) = W1 at *
   refine (dhalf_any n _ h2 (by omega)).mono ?_
   rintro e w2 ⟨rfl, hw1⟩
   subst hw1
   obtain ⟨k, HK⟩ : ∃ k, Hid (half n = k) := ⟨_, hid rfl⟩
   have hkb := half_bd h2
   rw [HK.out] at hkb
   rw [HK.out]
   have HT2 := hid (HIN.out.take k (by omega))
   have HT3 := hid (HIN.out.drop k (by omega))
   have HRT : Hid (nodeD (treeD (ls.take k)) (treeD (ls.drop k)) = treeD ls) := hid (by rw [treeD_two (l := ls) (by rw [HNE.out]; exact h2), HNE.out, HK.out])
   have HOA := hid (treeD_okD (ls.take k))
   have HOB := hid (treeD_okD (ls.drop k))
   have HRO := hid (treeD_okD ls)
   obtain ⟨a, HA⟩ : ∃ a, Hid (treeD (ls.take k) = a) := ⟨_, hid rfl⟩
   obtain ⟨b, HB⟩ : ∃ b, Hid (treeD (ls.drop k) = b) := ⟨_, hid rfl⟩
   obtain ⟨r, HR⟩ : ∃ r, Hid (treeD ls = r) := ⟨_, hid rfl⟩
   rw [HA.out, HB.out, HR.out] at HRT
   rw [HA.out] at HOA
   rw [HB.out] at HOB
   rw [HR.out] at HRO
   have HS1 := hid (dgC_info HRO.out)
   have HS2 := hid (dgC_size HRO.out)
   go_wp2_with fail
   refine region_flow3 (by kernel_rfl) (by kernel_rfl) (fun i => Nat.beq i 9) (fun i => i) (by kernel_rfl) (fun fx => #[.slice (some { block := g, off := off }) n c, undef, .pointer (some { block := w.heap.size, off := 0 }), .int IntKind.i64 ↑k, .slice (some { block := g, off := off }) n c, .int IntKind.i64 ↑n, .bool false, .bool false, undef, .bool false, .bool false, undef, undef, undef, undef, .slice (some { block := g, off := off }) n c, .int IntKind.i64 ↑n, .int IntKind.i64 ↑k, fx 0, fx 1, fx 2, fx 3, fx 4, fx 5, fx 6, fx 7, fx 8]) (fun _ => undef) (fun L fx w' => (L 9 = false → Below W1.heap.size W1 w')) (fun fi fv _ fw => wDt w w.heap.size g off n c k a b r fi fv fw) (fun _ => (Below.refl _ _).drew) ?_ ?_
   ·refine ⟨?_, ?_, ?_, ?_, ?_, ?_, ?_, ?_, ?_, ?_, trivial⟩
    all_goals intro L fx w' hC hi hcl hdn hd
    ·have hnd : L 9 = false := nQ hi (fun h => (hcl 2 0 (hcl 3 2 (hcl 8 3 (hcl 9 8 h (by kernel_rfl)) (by kernel_rfl)) (by kernel_rfl)) (by kernel_rfl)))
     go_wp2_with fail
     exact ⟨_, rfl, (fun _ => hC hnd), rfl, kP⟩
    ·have hnd : L 9 = false := nQ hi (fun h => (hcl 2 1 (hcl 3 2 (hcl 8 3 (hcl 9 8 h (by kernel_rfl)) (by kernel_rfl)) (by kernel_rfl)) (by kernel_rfl)))
     go_wp2_with fail
     exact ⟨_, rfl, (fun _ => hC hnd), rfl, kP⟩
    ·have h0 : fx 0 = .slice (some ⟨g, off, none⟩) n c := hd.1 rfl
     have h1 : fx 1 = .int .i64 ((k : Nat)) := hd.2.1 rfl
     have hnd : L 9 = false := nQ hi (fun h => (hcl 3 2 (hcl 8 3 (hcl 9 8 h (by kernel_rfl)) (by kernel_rfl)) (by kernel_rfl)))
     go_wp2_with fail
     exact ⟨_, by simp only [upd, h0, h1]; rfl, (fun _ => hC hnd), rfl, kP⟩
    ·have h2 : fx 2 = .slice (some ⟨g, off, none⟩) k c := hd.1 rfl
     have hnd : L 9 = false := nQ hi (fun h => (hcl 8 3 (hcl 9 8 h (by kernel_rfl)) (by kernel_rfl)))
     have hb12 := hC hnd
     have HIk := hid (HT2.out.below hb12)
     have HTk := hid (HT1.out.below hb12)
     go_wp2_with fail
     refine (ih (ls.take k) _ k c w' (by omega) (by omega) HIk HTk).mono ?_
     rintro e w2 ⟨rfl, hq⟩
     rw [HA.out]
     go_wp2_with fail
     exact ⟨_, by simp only [upd, h2]; rfl, fun _ => hb12.trans (hq.mono hb12.size), rfl, fun j v t _ _ h => wDt_below hq j v h⟩
    ·have hnd : L 9 = false := nQ hi (fun h => (hcl 6 4 (hcl 7 6 (hcl 8 7 (hcl 9 8 h (by kernel_rfl)) (by kernel_rfl)) (by kernel_rfl)) (by kernel_rfl)))
     go_wp2_with fail
     exact ⟨_, rfl, (fun _ => hC hnd), rfl, kP⟩
    ·have hnd : L 9 = false := nQ hi (fun h => (hcl 6 5 (hcl 7 6 (hcl 8 7 (hcl 9 8 h (by kernel_rfl)) (by kernel_rfl)) (by kernel_rfl)) (by kernel_rfl)))
     go_wp2_with fail
     exact ⟨_, rfl, (fun _ => hC hnd), rfl, kP⟩
    ·have h4 : fx 4 = .slice (some ⟨g, off, none⟩) n c := hd.1 rfl
     have h5 : fx 5 = .int .i64 ((k : Nat)) := hd.2.1 rfl
     have hnd : L 9 = false := nQ hi (fun h => (hcl 7 6 (hcl 8 7 (hcl 9 8 h (by kernel_rfl)) (by kernel_rfl)) (by kernel_rfl)))
     go_wp2_with fail
     exact ⟨_, by simp only [upd, h4, h5]; rfl, (fun _ => hC hnd), rfl, kP⟩
    ·have h6 : fx 6 = .slice (some ⟨g, off + k * 32, none⟩) (n - k) (c - k) := hd.1 rfl
     have hnd : L 9 = false := nQ hi (fun h => (hcl 8 7 (hcl 9 8 h (by kernel_rfl)) (by kernel_rfl)))
     have hb12 := hC hnd
     have HIk := hid (HT3.out.below hb12)
     have HTk := hid (HT1.out.below hb12)
     go_wp2_with fail
     refine (ih (ls.drop k) _ (n - k) (c - k) w' (by omega) (by omega) HIk HTk).mono ?_
     rintro e w2 ⟨rfl, hq⟩
     rw [HB.out]
     go_wp2_with fail
     exact ⟨_, by simp only [upd, h6]; rfl, fun _ => hb12.trans (hq.mono hb12.size), rfl, fun j v t _ _ h => wDt_below hq j v h⟩
    ·have h3 : fx 3 = dgV a := hd.1 rfl
     have h7 : fx 7 = dgV b := hd.2.1 rfl
     have hnd : L 9 = false := nQ hi (fun h => (hcl 9 8 h (by kernel_rfl)))
     have hb12 := hC hnd
     have HTk := hid (HT1.out.below hb12)
     go_wp2_with fail
     refine (dnode_any a b w' HOA HOB HTk).mono ?_
     rintro e w2 ⟨rfl, hq⟩
     rw [HRT.out]
     go_wp2_with fail
     exact ⟨_, by simp only [upd, h3, h7]; rfl, fun _ => hb12.trans (hq.mono hb12.size), rfl, fun j v t _ _ h => wDt_below hq j v h⟩
    ·have h8 : fx 8 = dgV r := hd.1 rfl
     have hb21 := hC hi
     have hrow := row_kept HR0.out hb21
     refine wpList_store_row rfl 25 (.tmp 2) (.tmp 26) rfl w.heap.size (dgC r).toArray rfl h8 25 _ hrow HS1.out HS2.out (dgC_one _) ?_
     clear hd
     go_wp2_with fail
     refine ⟨undef, by rw [← h8]; rfl, fun h => (updB_self h).elim, ⟨setRow_heap _ _ _ _ _ _ hrow, below_setRow (HB0.out.trans (hb21.mono HB0.out.size)) (Nat.le_refl _) _⟩, fun j v t hj hu h => ?_⟩
     refine wDt_pure j v ?_ h
     intro e
     subst e
     rw [hi] at hj; cases hj
   ·intro L fx w' hC hS
    have H9 := hid (hS 9 (by decide) rfl)
    clear hS hC
    go_wp2_with fail
    refine bodyPost_ret (results_cell_row rfl _ _ w.heap.size 25 _ (0, 0) _ rfl H9.out.1 Tryz.underlying25 rfl HS1.out) rfl ?_
    exact ⟨by rw [HR.out]; rfl, H9.out.2⟩
  ·have hn1 : n = 1 := by omega
   subst hn1
   obtain ⟨x, HX⟩ : ∃ x, Hid (ls = [x]) := (List.length_eq_one_iff.1 HNE.out).imp fun _ h => hid h
   have HXO : Hid (DgOk x) := hid (h.out.ok x (by rw [HX.out]; simp))
   obtain ⟨g', off', e, hg', hr⟩ := HIN.out.rd (by rw [HNE.out]; omega)
   cases e
   have HRX : Hid ((w.alloc (.cells #[.int .u8 0, .int .u8 0, .int .u8 0, .int .u8 0, .int .u8 0, .int .u8 0, .int .u8 0, .int .u8 0, .int .u8 0, .int .u8 0, .int .u8 0, .int .u8 0, .int .u8 0, .int .u8 0, .int .u8 0, .int .u8 0, .int .u8 0, .int .u8 0, .int .u8 0, .int .u8 0, .int .u8 0, .int .u8 0, .int .u8 0, .int .u8 0, .int .u8 0, .int .u8 0, .int .u8 0, .int .u8 0, .int .u8 0, .int .u8 0, .int .u8 0, .int .u8 0] 25)).rangeAt g off (dgC x)) := hid (by
    have := rangeD_one hr h.out.ok 0 (by rw [HNE.out]; omega)
    simpa [HX.out] using this)
   have HS1 := hid (dgC_info (leafD_ok x))
   have HS2 := hid (dgC_size (leafD_ok x))
   have HSX := hid (dgC_infoL HXO.out)
   clear hr
   go_enter Tryz.func40, Tryz.ntmps40
   go_wp2_with (with_reducible refine wpList_load_mid rfl 25 (.tmp 12) rfl g off rfl (dgC x) _ HRX.out Tryz.underlying25 rfl HSX.out ?_)
   rw [← dgV_agg]
   refine (dleaf_any x _ HXO HT1).mono ?_
   rintro e w2 ⟨rfl, hq⟩
   have HB2 := hid (HB0.out.trans (hq.mono HB0.out.size))
   have HR2 := hid (row_kept HR0.out hq)
   clear hq
   rw [dgV_agg]
   go_wp2_with (refine wpList_store_row rfl 25 (.tmp 2) (.tmp 14) rfl w.heap.size (dgC (leafD x)).toArray rfl rfl 25 _ HR2.out HS1.out HS2.out (dgC_one _) ?_)
   refine bodyPost_ret (results_cell_row rfl _ _ w.heap.size 25 _ (0, 0) _ rfl (setRow_heap w2 w.heap.size _ _ _ _ HR2.out) Tryz.underlying25 rfl HS1.out) rfl ?_
   exact ⟨by rw [HX.out, treeD_one]; rfl, below_setRow HB2.out (Nat.le_refl _) _⟩
end Go.Proofs.YtmfmgeapecapiaaGreatDoor
