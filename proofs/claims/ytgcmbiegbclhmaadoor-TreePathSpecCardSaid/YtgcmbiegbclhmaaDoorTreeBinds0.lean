/- Two climbs to one root: the same leaf and the same path, or two inputs with one hash. Plain functions. sizarlaw41.joined: what is hashed when two nodes are joined. Slices of pairs of nodes. The pairs on the way to a leaf: what sizarlaw41.sides gives. sizarlaw41.sides. For the law TreeBinds: the two nodes of a pair, read. -/
import Derived.Test.YtgcmbiegbclhmaaDoorTreeMath2
import Derived.Test.YtgcmbiegbclhmaaDoorTreeSame
import Derived.Test.YtgcmbiegbclhmaaDoorTreeLawKit
import Derived.Lib.SlBytesRow
import Derived.Test.YtgcmbiegbclhmaaDoorTreeApp
import Derived.Lib.ConvBytes
namespace Go.Proofs.SzTree
open SzSha
set_option linter.unusedVariables false
/-- numerals tell where they end -/
theorem numB_inj : ∀ f u v (r s : List Nat), u < 128 ^ (f + 1) → v < 128 ^ (f + 1) → numB f u ++ r = numB f v ++ s → u = v ∧ r = s
  | 0, u, v, r, s, hu, hv, h => by
    simp only [numB, List.cons_append, List.nil_append, List.cons.injEq] at h
    have e1 : u % 128 = u := Nat.mod_eq_of_lt (by simpa using hu)
    have e2 : v % 128 = v := Nat.mod_eq_of_lt (by simpa using hv)
    exact ⟨by rw [← e1, ← e2]; exact h.1, h.2⟩
  | f + 1, u, v, r, s, hu, hv, h => by
    unfold numB at h
    have pu : u / 128 < 128 ^ (f + 1) := Nat.div_lt_of_lt_mul (by rw [Nat.mul_comm, ← Nat.pow_succ]; exact hu)
    have pv : v / 128 < 128 ^ (f + 1) := Nat.div_lt_of_lt_mul (by rw [Nat.mul_comm, ← Nat.pow_succ]; exact hv)
    by_cases h1 : u < 128
    · by_cases h2 : v < 128
      · rw [if_pos h1, if_pos h2] at h
        simp only [List.cons_append, List.nil_append, List.cons.injEq] at h
        exact h
      · rw [if_pos h1, if_neg h2] at h
        simp only [List.cons_append, List.nil_append, List.cons.injEq] at h
        omega
    · by_cases h2 : v < 128
      · rw [if_neg h1, if_pos h2] at h
        simp only [List.cons_append, List.nil_append, List.cons.injEq] at h
        omega
      · rw [if_neg h1, if_neg h2] at h
        simp only [List.cons_append, List.cons.injEq] at h
        have := numB_inj f (u / 128) (v / 128) r s pu pv h.2
        refine ⟨?_, this.2⟩
        have h3 := h.1
        have h4 := this.1
        omega
theorem num_inj {u v : Nat} {r s : List Nat} (hu : u < 18446744073709551616) (hv : v < 18446744073709551616) (h : num u ++ r = num v ++ s) : u = v ∧ r = s :=
  numB_inj 10 u v r s (Nat.lt_of_lt_of_le hu (by decide)) (Nat.lt_of_lt_of_le hv (by decide)) h
theorem zig_inj {y z : Int} (h : zig y = zig z) : y = z := by
  unfold zig at h
  split at h <;> split at h <;> omega
def I64 (z : Int) : Prop := -9223372036854775808 ≤ z ∧ z ≤ 9223372036854775807
theorem zigs_inj : ∀ {ys zs : List Int} {r s : List Nat}, ys.length = zs.length → (∀ y ∈ ys, I64 y) → (∀ z ∈ zs, I64 z) → (ys.flatMap fun z => 1 :: num (zig z)) ++ r = (zs.flatMap fun z => 1 :: num (zig z)) ++ s → ys = zs ∧ r = s
  | [], [], r, s, _, _, _, h => ⟨rfl, by simpa using h⟩
  | [], _ :: _, _, _, h, _, _, _ => by simp at h
  | _ :: _, [], _, _, h, _, _, _ => by simp at h
  | y :: ys, z :: zs, r, s, hl, hy, hz, h => by
    simp only [List.flatMap_cons, List.cons_append, List.append_assoc, List.cons.injEq, true_and] at h
    have iy := hy y (by simp)
    have iz := hz z (by simp)
    obtain ⟨e1, e2⟩ := num_inj (zig_lt iy.1 iy.2) (zig_lt iz.1 iz.2) h
    obtain ⟨e3, e4⟩ := zigs_inj (by simpa using hl) (fun q hq => hy q (by simp [hq])) (fun q hq => hz q (by simp [hq])) e2
    exact ⟨by rw [zig_inj e1, e3], e4⟩
theorem encI_inj {ys zs : List Int} (hl : ys.length = zs.length) (hy : ∀ y ∈ ys, I64 y) (hz : ∀ z ∈ zs, I64 z) (h : encI ys = encI zs) : ys = zs := by
  unfold encI at h
  simp only [List.cons.injEq, true_and] at h
  rw [hl] at h
  have h2 := List.append_cancel_left h
  exact (zigs_inj (r := []) (s := []) hl hy hz (by rw [List.append_nil, List.append_nil]; exact h2)).1
/-- what is hashed when two nodes are joined -/
def jstr (a b : Nd) : List Nat := a.d ++ b.d ++ encI [a.c, a.p, b.c, b.p]
theorem joinN_d (a b : Nd) : (joinN a b).d = tagged sumT (jstr a b) := rfl
theorem nd_ext {a b : Nd} (h1 : a.d = b.d) (h2 : a.c = b.c) (h3 : a.p = b.p) : a = b := by cases a; cases b; simp_all
theorem vL_two_bd {a b : Nd} (h : vL [a, b] = true) : vN a = true ∧ vN b = true := by
  unfold vL at h
  simp only [List.all_cons, List.all_nil, Bool.and_eq_true] at h
  exact ⟨h.1.1, h.1.2.1⟩
theorem vN_I64 {a : Nd} (h : vN a = true) : I64 a.c ∧ I64 a.p := by
  have := vN_bd h; unfold I64; omega
theorem jstr_inj {a b x y : Nd} (ha : a.d.length = 32) (hx : x.d.length = 32) (hb : b.d.length = 32) (hy : y.d.length = 32) (h1 : vL [a, b] = true) (h2 : vL [x, y] = true) (h : jstr a b = jstr x y) : a = x ∧ b = y := by
  unfold jstr at h
  rw [List.append_assoc, List.append_assoc] at h
  obtain ⟨e1, h⟩ := List.append_inj h (by rw [ha, hx])
  obtain ⟨e2, h⟩ := List.append_inj h (by rw [hb, hy])
  obtain ⟨va, vb⟩ := vL_two_bd h1
  obtain ⟨vx, vy⟩ := vL_two_bd h2
  have e := encI_inj (by rfl) (by
    intro z hz
    simp only [List.mem_cons, List.not_mem_nil, or_false] at hz
    rcases hz with rfl | rfl | rfl | rfl
    · exact (vN_I64 va).1
    · exact (vN_I64 va).2
    · exact (vN_I64 vb).1
    · exact (vN_I64 vb).2) (by
    intro z hz
    simp only [List.mem_cons, List.not_mem_nil, or_false] at hz
    rcases hz with rfl | rfl | rfl | rfl
    · exact (vN_I64 vx).1
    · exact (vN_I64 vx).2
    · exact (vN_I64 vy).1
    · exact (vN_I64 vy).2) h
  simp only [List.cons.injEq, and_true] at e
  exact ⟨nd_ext e1 e.1 e.2.1, nd_ext e2 e.2.2.1 e.2.2.2⟩
/-- the sides of the way to a leaf, from the root downwards -/
def dirs : Nat → Nat → Nat → List Bool
  | 0, _, _ => []
  | f + 1, i, n => if n ≤ 1 then [] else if i < half n then true :: dirs f i (half n) else false :: dirs f (i - half n) (n - half n)
theorem wayF_dirs : ∀ f i a b, a ≤ i → (wayF f i a b).map (·.1) = dirs f (i - a) (b - a)
  | 0, _, _, _, _ => rfl
  | f + 1, i, a, b, h => by
    unfold wayF dirs
    by_cases h1 : b - a ≤ 1
    · rw [if_pos h1, if_pos h1]; rfl
    · rw [if_neg h1, if_neg h1]
      have hh := half_bd (n := b - a) (by omega)
      by_cases h2 : i < a + half (b - a)
      · rw [if_pos h2, if_pos (by omega), List.map_cons, wayF_dirs f i a _ h]
        rw [show a + half (b - a) - a = half (b - a) by omega]
      · rw [if_neg h2, if_neg (by omega), List.map_cons, wayF_dirs f i _ b (by omega)]
        rw [show i - (a + half (b - a)) = i - a - half (b - a) by omega, show b - (a + half (b - a)) = b - a - half (b - a) by omega]
theorem sidesN_dirs (i n : Nat) : sidesN i n = (dirs n i n).reverse := by
  unfold sidesN way
  rw [wayF_dirs n i 0 n (Nat.zero_le _), Nat.sub_zero, Nat.sub_zero]
/-- the two nodes that are joined, from the root downwards -/
def pairsN (z : Nd) : List Bool → Nd → List Nd → List (Nd × Nd)
  | [], _, _ => []
  | r :: ds, n, ps => (if r then ((climbF ds.reverse ps.dropLast n).getD z, ps.getLastD z) else (ps.getLastD z, (climbF ds.reverse ps.dropLast n).getD z)) :: pairsN z ds n ps.dropLast
/-- the first two different inputs have one hash -/
def bindsB : List (Nd × Nd) → List (Nd × Nd) → Bool
  | a :: la, b :: bs => if jstr a.1 a.2 = jstr b.1 b.2 then bindsB la bs else decide (tagged sumT (jstr a.1 a.2) = tagged sumT (jstr b.1 b.2))
  | _, _ => false
theorem pairsN_length (z : Nd) : ∀ ds n ps, (pairsN z ds n ps).length = ds.length
  | [], _, _ => rfl
  | r :: ds, n, ps => by unfold pairsN; rw [List.length_cons, List.length_cons, pairsN_length z ds]
theorem stepN_d {r : Bool} {p n x : Nd} (h : stepN r p n = some x) : x.d.length = 32 := by
  unfold stepN at h
  split at h <;> split at h
  · cases h; exact tagged_length _ _
  · cases h
  · cases h; exact tagged_length _ _
  · cases h
theorem climbF_d : ∀ rs ps (n x : Nd), n.d.length = 32 → climbF rs ps n = some x → x.d.length = 32
  | [], _, n, x, hn, h => by simp only [climbF] at h; cases h; exact hn
  | _ :: _, [], n, x, hn, h => by simp only [climbF] at h; cases h; exact hn
  | r :: rs, p :: ps, n, x, hn, h => by
    simp only [climbF] at h
    cases e : stepN r p n with
    | none => rw [e] at h; cases h
    | some y => rw [e] at h; exact climbF_d rs ps y x (stepN_d e) h
/-- two ways to one root -/
theorem binds_any (z : Nd) : ∀ (ds : List Bool) (m n : Nd) (ps qs : List Nd) (x : Nd), ps.length = ds.length → qs.length = ds.length → m.d.length = 32 → n.d.length = 32 → (∀ y ∈ ps, y.d.length = 32) → (∀ y ∈ qs, y.d.length = 32) →
    climbF ds.reverse ps m = some x → climbF ds.reverse qs n = some x → ¬ (m = n ∧ ps = qs) → bindsB (pairsN z ds m ps) (pairsN z ds n qs) = true
  | [], m, n, ps, qs, x, hp, hq, hm, hn, _, _, h1, h2, hne => by
    have e1 : ps = [] := List.length_eq_zero_iff.1 hp
    have e2 : qs = [] := List.length_eq_zero_iff.1 hq
    subst e1 e2
    simp only [List.reverse_nil, climbF] at h1 h2
    cases h1; cases h2
    exact absurd ⟨rfl, rfl⟩ hne
  | r :: ds, m, n, ps, qs, x, hp, hq, hm, hn, hps, hqs, h1, h2, hne => by
    have np : ps ≠ [] := fun e => by rw [e] at hp; simp at hp
    have nq : qs ≠ [] := fun e => by rw [e] at hq; simp at hq
    obtain ⟨ps', p, rfl⟩ : ∃ a b, ps = a ++ [b] := ⟨_, _, (List.dropLast_concat_getLast np).symm⟩
    obtain ⟨qs', q, rfl⟩ : ∃ a b, qs = a ++ [b] := ⟨_, _, (List.dropLast_concat_getLast nq).symm⟩
    simp only [List.length_append, List.length_cons, List.length_nil, Nat.add_right_cancel_iff] at hp hq
    rw [List.reverse_cons, climb_snoc _ _ _ _ _ (by rw [List.length_reverse, hp])] at h1
    rw [List.reverse_cons, climb_snoc _ _ _ _ _ (by rw [List.length_reverse, hq])] at h2
    obtain ⟨y, hy, sy⟩ := Option.bind_eq_some_iff.1 h1
    obtain ⟨y', hy', sy'⟩ := Option.bind_eq_some_iff.1 h2
    have ly := climbF_d _ _ _ _ hm hy
    have ly' := climbF_d _ _ _ _ hn hy'
    have lp := hps p (by simp)
    have lq := hqs q (by simp)
    have hps' : ∀ y ∈ ps', y.d.length = 32 := fun a h => hps a (by simp [h])
    have hqs' : ∀ y ∈ qs', y.d.length = 32 := fun a h => hqs a (by simp [h])
    unfold pairsN
    rw [List.dropLast_concat, List.dropLast_concat, hy, hy', Option.getD_some, Option.getD_some, List.getLastD_concat, List.getLastD_concat]
    unfold bindsB
    cases r with
    | true =>
      simp only [if_true]
      simp only [stepN, if_true] at sy sy'
      split at sy
      · rename_i v1
        split at sy'
        · rename_i v2
          cases sy
          by_cases hj : jstr y p = jstr y' q
          · rw [if_pos hj]
            obtain ⟨e1, e2⟩ := jstr_inj ly ly' lp lq v1 v2 hj
            subst e1 e2
            exact binds_any z ds m n ps' qs' y hp hq hm hn hps' hqs' hy hy' (fun h => hne ⟨h.1, by rw [h.2]⟩)
          · rw [if_neg hj]
            refine decide_eq_true ?_
            have e : (joinN y' q).d = (joinN y p).d := by rw [Option.some.inj sy']
            exact e.symm
        · cases sy'
      · cases sy
    | false =>
      simp only [Bool.false_eq_true, if_false]
      simp only [stepN, Bool.false_eq_true, if_false] at sy sy'
      split at sy
      · rename_i v1
        split at sy'
        · rename_i v2
          cases sy
          by_cases hj : jstr p y = jstr q y'
          · rw [if_pos hj]
            obtain ⟨e1, e2⟩ := jstr_inj lp lq ly ly' v1 v2 hj
            subst e1 e2
            exact binds_any z ds m n ps' qs' y hp hq hm hn hps' hqs' hy hy' (fun h => hne ⟨h.1, by rw [h.2]⟩)
          · rw [if_neg hj]
            refine decide_eq_true ?_
            have e : (joinN q y').d = (joinN p y).d := by rw [Option.some.inj sy']
            exact e.symm
        · cases sy'
      · cases sy
end Go.Proofs.SzTree
namespace Go.Proofs.YtgcmbiegbclhmaaDoor
open Go.RowKit SzSha SzTree
set_option linter.unusedVariables false
set_option maxRecDepth 100000
/-- a string out of bytes -/
def bstr (l : List Nat) : ByteArray := ⟨(l.map UInt8.ofNat).toArray⟩
theorem bstr_size (l : List Nat) : (bstr l).size = l.length := by simp [bstr, ByteArray.size]
theorem strL_bstr {l : List Nat} (h : Bytes l) : strL (bstr l) = l := by
  unfold strL bstr
  simp only [List.map_map]
  conv => rhs; rw [← List.map_id l]
  refine List.map_congr_left fun x hx => ?_
  have := h x hx
  simp [Nat.mod_eq_of_lt this]
theorem strL_append (s t : ByteArray) : strL (s ++ t) = strL s ++ strL t := by simp [strL]
theorem conv_str {P : Program} {w : World} {src dst e : TypeId} (hs : P.underlying src = some (.slice e)) (he : P.underlying e = some (.int .u8)) (hd : P.underlying dst = some .string) {g off n cap : Nat} {l : List Nat} (hl : l.length = n) (hb : Bytes l) (hr : BytesAt w g off l) :
    (convert src dst (.slice (some ⟨g, off, none⟩) n cap)).run P w = .ok (.string (bstr l)) w := by
  have h := Lib.run_convert_whole (P := P) w src e dst hs he hd g off (bstr l) (fun i hi => by
    have hi' : i < l.length := by rw [bstr_size] at hi; exact hi
    rw [hr i hi']
    have e1 : ((bstr l)[i]).toNat = l.getD i 0 := by
      have e2 : strL (bstr l) = l := strL_bstr hb
      have e3 : (strL (bstr l))[i]? = some ((bstr l)[i]).toNat := by
        unfold strL
        rw [List.getElem?_map, Array.getElem?_toList, Array.getElem?_eq_getElem (by exact hi)]; rfl
      rw [e2] at e3
      simp [List.getD_eq_getElem?_getD, e3]
    rw [e1]) cap
  rw [bstr_size, hl] at h
  exact h
def wJd (B1 B2 : Nat) (sa sb sc : ByteArray) (g2 o2 n2 cc2 : Nat) : Nat → Value → World → Prop
  | 0, fv, _ => fv = Value.pointer (some ⟨B1, 0, none⟩)
  | 1, fv, _ => fv = Value.slice (some ⟨B1, 0, none⟩) 32 32
  | 2, fv, _ => fv = Value.string sa
  | 3, fv, _ => fv = Value.pointer (some ⟨B2, 0, none⟩)
  | 4, fv, _ => fv = Value.slice (some ⟨B2, 0, none⟩) 32 32
  | 5, fv, _ => fv = Value.string sb
  | 6, fv, _ => fv = Value.string (sa ++ sb)
  | 7, fv, _ => fv = Value.slice (some ⟨g2, o2, none⟩) n2 cc2
  | 8, fv, _ => fv = Value.string sc
  | 9, fv, _ => fv = Value.string (sa ++ sb ++ sc)
  | 10, fv, fw => fv = Value.string (sa ++ sb ++ sc)
  | _, _, _ => True
theorem wJd_below {B1 B2 : Nat} {sa sb sc : ByteArray} {g2 o2 n2 cc2 : Nat} {w w' : World} (hb : Below w.heap.size w w') : ∀ j v, wJd B1 B2 sa sb sc g2 o2 n2 cc2 j v w → wJd B1 B2 sa sb sc g2 o2 n2 cc2 j v w'
  | 0, v, h => h
  | 1, v, h => h
  | 2, v, h => h
  | 3, v, h => h
  | 4, v, h => h
  | 5, v, h => h
  | 6, v, h => h
  | 7, v, h => h
  | 8, v, h => h
  | 9, v, h => h
  | 10, v, h => h
  | n + 11, v, h => trivial
theorem wJd_pure {B1 B2 : Nat} {sa sb sc : ByteArray} {g2 o2 n2 cc2 : Nat} {w w' : World} : ∀ j v, j ≠ 10 → wJd B1 B2 sa sb sc g2 o2 n2 cc2 j v w → wJd B1 B2 sa sb sc g2 o2 n2 cc2 j v w'
  | 0, v, _, h => h
  | 1, v, _, h => h
  | 2, v, _, h => h
  | 3, v, _, h => h
  | 4, v, _, h => h
  | 5, v, _, h => h
  | 6, v, _, h => h
  | 7, v, _, h => h
  | 8, v, _, h => h
  | 9, v, _, h => h
  | 10, v, hh, _ => absurd rfl hh
  | n + 11, v, _, h => trivial
set_option maxHeartbeats 4000000 in
theorem joined_any (a b : Nd) (w : World) (ha : Hid (NdOk a)) (hb : Hid (NdOk b)) :
    Calls Tryd.prog 22 #[ndV a, ndV b] w fun e w' => ∃ s, e = .returned (.string s) ∧ strL s = jstr a b ∧ Below w.heap.size w w' := by
  have HZS : Hid (∀ y ∈ ([a.c, a.p, b.c, b.p] : List Int), -9223372036854775808 ≤ y ∧ y ≤ 9223372036854775807) := Lib.hid (fun y hy => by
    simp only [List.mem_cons, List.not_mem_nil, or_false] at hy
    rcases hy with rfl | rfl | rfl | rfl
    · exact ha.out.c
    · exact ha.out.p
    · exact hb.out.c
    · exact hb.out.p)
  obtain ⟨zs, HZ0⟩ : ∃ zs : List Int, Hid ([a.c, a.p, b.c, b.p] = zs) := ⟨_, Lib.hid rfl⟩
  rw [HZ0.out] at HZS
  have HM : Hid (zs.length = 4) := Lib.hid (by rw [← HZ0.out]; rfl)
  obtain ⟨X, HX⟩ : ∃ X, Hid ((ndC a).toArray = X) := ⟨_, Lib.hid rfl⟩
  obtain ⟨Y, HY⟩ : ∃ Y, Hid ((ndC b).toArray = Y) := ⟨_, Lib.hid rfl⟩
  rw [show ndV a = .agg X by unfold ndV; rw [HX.out], show ndV b = .agg Y by unfold ndV; rw [HY.out]]
  obtain ⟨t1, t2, t3, t4, t5⟩ := two_rows2 w X Y 26 (.cells #[.int .i64 3, .int .i64 0, .string ⟨#[]⟩, .slice none 0 0] 76)
  have m1 : (((w.alloc (.cells X 26)).alloc (.cells Y 26)).alloc (.cells #[.int .i64 3, .int .i64 0, .string ⟨#[]⟩, .slice none 0 0] 76)).cell? ⟨w.heap.size, 32, none⟩ = some (.int .i64 a.c) := cell_c ha.out (by rw [HX.out]; exact t2)
  have m2 : (((w.alloc (.cells X 26)).alloc (.cells Y 26)).alloc (.cells #[.int .i64 3, .int .i64 0, .string ⟨#[]⟩, .slice none 0 0] 76)).cell? ⟨w.heap.size, 33, none⟩ = some (.int .i64 a.p) := cell_p ha.out (by rw [HX.out]; exact t2)
  have m3 : (((w.alloc (.cells X 26)).alloc (.cells Y 26)).alloc (.cells #[.int .i64 3, .int .i64 0, .string ⟨#[]⟩, .slice none 0 0] 76)).cell? ⟨w.heap.size + 1, 32, none⟩ = some (.int .i64 b.c) := cell_c hb.out (by rw [HY.out]; exact t3)
  have m4 : (((w.alloc (.cells X 26)).alloc (.cells Y 26)).alloc (.cells #[.int .i64 3, .int .i64 0, .string ⟨#[]⟩, .slice none 0 0] 76)).cell? ⟨w.heap.size + 1, 33, none⟩ = some (.int .i64 b.p) := cell_p hb.out (by rw [HY.out]; exact t3)
  have hb4 := (Below.refl _ (((w.alloc (.cells X 26)).alloc (.cells Y 26)).alloc (.cells #[.int .i64 3, .int .i64 0, .string ⟨#[]⟩, .slice none 0 0] 76))).alloc (Nat.le_refl _) (.cells #[.int .i64 a.c, .int .i64 a.p, .int .i64 b.c, .int .i64 b.p] 3)
  have hn := heap_alloc_new (((w.alloc (.cells X 26)).alloc (.cells Y 26)).alloc (.cells #[.int .i64 3, .int .i64 0, .string ⟨#[]⟩, .slice none 0 0] 76)) (.cells #[.int .i64 a.c, .int .i64 a.p, .int .i64 b.c, .int .i64 b.p] 3)
  rw [t5] at hn
  have A1 := Lib.hid (row_kept t2 hb4)
  have A2 := Lib.hid (row_kept t3 hb4)
  have A3 := Lib.hid (row_kept t4 hb4)
  have A4 := Lib.hid hn
  have A5 := Lib.hid (t1.trans (hb4.mono t1.size))
  clear t1 t2 t3 t4 t5 hb4 hn
  go_enter Tryd.func22, Tryd.ntmps22
  go_wp2_with fail
  go_loopw [21] (fun i wr => ∃ j : Nat, j ≤ 4 ∧ i = .int .i64 j ∧ ∃ vl, Hid (wr.heap[w.heap.size]? = some (.cells X 26 (0, 0))) ∧ Hid (wr.heap[(w.heap.size + 1)]? = some (.cells Y 26 (0, 0))) ∧ Hid (wr.heap[(w.heap.size + 1 + 1)]? = some (.cells #[.int .i64 3, .int .i64 0, .string ⟨#[]⟩, vl] 76 (0, 0))) ∧ Hid (wr.heap[(w.heap.size + 1 + 1 + 1)]? = some (.cells #[.int .i64 a.c, .int .i64 a.p, .int .i64 b.c, .int .i64 b.p] 3 (0, 0))) ∧ Hid (OwnV wr (w.heap.size + 1 + 1 + 1 + 1) vl (zs.take j)) ∧ Hid (Below w.heap.size w wr)) (fun i _ => 4 - (intOf i).toNat)
  case atStart => exact ⟨0, by omega, rfl, _, A1, A2, A3, A4, Lib.hid (OwnV.nil _ _), A5⟩
  case round =>
    clear A1 A2 A3 A4 A5 m1 m2 m3 m4
    obtain ⟨j, hj, rfl, vl, HRX, HRY, HV, HN, HO, HB⟩ := hrel
    by_cases hlt : j < 4
    · have d1 : decide ((j : Int) < (4 : Int)) = true := decide_eq_true (by omega)
      have d2 : decide (j < 4) = true := decide_eq_true hlt
      obtain ⟨z, HZ⟩ : ∃ z, Hid (zs.getD j 0 = z) := ⟨_, Lib.hid rfl⟩
      have hcell : wr.cell? ⟨(w.heap.size + 1 + 1 + 1), j, none⟩ = some (.int .i64 z) := by
        rw [cell_of_row _ _ _ _ _ _ HN.out, ← HZ.out, ← HZ0.out]
        have : j = 0 ∨ j = 1 ∨ j = 2 ∨ j = 3 := by omega
        rcases this with rfl | rfl | rfl | rfl <;> rfl
      have k3 : wr.cell? ⟨(w.heap.size + 1 + 1), 3, none⟩ = some vl := by rw [cell_of_row _ _ _ _ _ _ HV.out]; rfl
      have HSZ : Hid ((w.heap.size + 1 + 1 + 1 + 1) ≤ wr.heap.size) := Lib.hid (Array.getElem?_eq_some_iff.1 HN.out).1
      have HBA := Lib.hid ((Below.refl _ wr).alloc (Nat.le_refl _) (.cells #[.int .i64 1, .int .i64 z, .string ⟨#[]⟩, .slice none 0 0] 76))
      have HOA := Lib.hid (HO.out.kept (fun k _ hk => HBA.out.block k hk))
      have HVA := Lib.hid (row_kept HV.out HBA.out)
      have HXA := Lib.hid (row_kept HRX.out HBA.out)
      have HYA := Lib.hid (row_kept HRY.out HBA.out)
      have HNA := Lib.hid (row_kept HN.out HBA.out)
      have HRA := Lib.hid (heap_alloc_new wr (.cells #[.int .i64 1, .int .i64 z, .string ⟨#[]⟩, .slice none 0 0] 76))
      have HLN : Hid ((zs.take j).length ≤ 100000) := Lib.hid (by rw [List.length_take]; omega)
      have HSA := Lib.hid (Nat.le_trans HSZ.out HBA.out.size)
      have HNX : Hid (zs.take j ++ [z] = zs.take (j + 1)) := Lib.hid (by
        have h1 : j < zs.length := by rw [HM.out]; exact hlt
        rw [List.take_succ_eq_append_getElem h1, ← HZ.out]; simp [List.getD_eq_getElem?_getD, h1])
      go_wp2_with (at_builtin; refine wpList_append_val rfl (.tmp 26) (.tmp 29) rfl (w.heap.size + 1 + 1 + 1 + 1) vl (zs.take j) z ?ha HOA wr.heap.size ?hb ?hc HLN.out HSA.out ?_)
      case ha => rfl
      case hb => rfl
      case hc => exact HRA
      intro v2 w2 HO2 HB2
      obtain ⟨A', n', c', rfl⟩ := ownV_form HO2.out
      have HV2 := Lib.hid ((HB2.out.block (w.heap.size + 1 + 1) (by omega)).trans HVA.out)
      have HX2 := Lib.hid ((HB2.out.block w.heap.size (by omega)).trans HXA.out)
      have HY2 := Lib.hid ((HB2.out.block (w.heap.size + 1) (by omega)).trans HYA.out)
      have HN2 := Lib.hid ((HB2.out.block (w.heap.size + 1 + 1 + 1) (by omega)).trans HNA.out)
      obtain ⟨k3', f3'⟩ := row3 HV2.out
      go_wp2_with fail
      have HBB := Lib.hid (((HB.out.trans (HBA.out.mono HB.out.size)).trans (HB2.out.mono (by omega))).setCell (p := ⟨(w.heap.size + 1 + 1), 3, none⟩) (by show w.heap.size ≤ w.heap.size + 1 + 1; omega) (.slice A' n' c'))
      have HV3 := Lib.hid (set3 (v' := .slice A' n' c') HV2.out)
      have HX3 := Lib.hid ((Below.heap_setCell w2 ⟨(w.heap.size + 1 + 1), 3, none⟩ (.slice A' n' c') w.heap.size (by simp; omega)).trans HX2.out)
      have HY3 := Lib.hid ((Below.heap_setCell w2 ⟨(w.heap.size + 1 + 1), 3, none⟩ (.slice A' n' c') (w.heap.size + 1) (by simp)).trans HY2.out)
      have HN3 := Lib.hid ((Below.heap_setCell w2 ⟨(w.heap.size + 1 + 1), 3, none⟩ (.slice A' n' c') (w.heap.size + 1 + 1 + 1) (by simp)).trans HN2.out)
      have HO3 := Lib.hid (HO2.out.kept (fun k hk hk2 => Below.heap_setCell w2 ⟨(w.heap.size + 1 + 1), 3, none⟩ (.slice A' n' c') k (by intro e; simp at e; omega)))
      rw [HNX.out] at HO3
      clear k3' f3' k3 hcell
      go_roundw
      case rel => exact ⟨j + 1, by omega, by go_num, _, HX3, HY3, HV3, HN3, HO3, HBB⟩
      case measure => simp [intOf]; omega
    · have d1 : decide ((j : Int) < (4 : Int)) = false := decide_eq_false (by omega)
      have d2 : decide (j < 4) = false := decide_eq_false hlt
      have HOm : Hid (OwnV wr (w.heap.size + 1 + 1 + 1 + 1) vl zs) := Lib.hid (by have := HO.out; rwa [List.take_of_length_le (by rw [HM.out]; omega)] at this)
      obtain ⟨Av, cv, rfl, hvr⟩ := HOm.out.slice
      have HVR := Lib.hid hvr
      have c0 : wr.cell? ⟨(w.heap.size + 1 + 1), 0, none⟩ = some (.int .i64 3) := by rw [cell_of_row _ _ _ _ _ _ HV.out]; rfl
      have c1 : wr.cell? ⟨(w.heap.size + 1 + 1), 1, none⟩ = some (.int .i64 0) := by rw [cell_of_row _ _ _ _ _ _ HV.out]; rfl
      have c2 : wr.cell? ⟨(w.heap.size + 1 + 1), 2, none⟩ = some (.string ⟨#[]⟩) := by rw [cell_of_row _ _ _ _ _ _ HV.out]; rfl
      have c3 : wr.cell? ⟨(w.heap.size + 1 + 1), 3, none⟩ = some (.slice Av zs.length cv) := by rw [cell_of_row _ _ _ _ _ _ HV.out]; rfl
      clear hvr
      go_wp2_with fail
      refine (encode_list zs Av cv _ HZS (by rw [HM.out]; omega) HVR).mono ?_
      rintro e w2 ⟨v2, rfl, ho2, hb2⟩
      obtain ⟨A2, n2, cc2, rfl, hn2, hc2, hA2, HR2⟩ := ho2.slice
      have HB2 := Lib.hid (HB.out.trans (hb2.mono HB.out.size))
      have HX2 := Lib.hid (row_kept HRX.out hb2)
      have HY2 := Lib.hid (row_kept HRY.out hb2)
      clear ho2 hb2 c0 c1 c2 c3 HRX HRY HV HN HO HB HOm
      go_wp2_with fail
      obtain ⟨g2, o2, rfl, hg2, hr2⟩ := HR2.out (by simp [encI])
      obtain ⟨sa, HSA⟩ : ∃ s, Hid (bstr a.d = s) := ⟨_, Lib.hid rfl⟩
      obtain ⟨sb, HSB⟩ : ∃ s, Hid (bstr b.d = s) := ⟨_, Lib.hid rfl⟩
      obtain ⟨sc, HSC⟩ : ∃ s, Hid (bstr (encI zs) = s) := ⟨_, Lib.hid rfl⟩
      have HQ : Hid (sa.size = 32 ∧ sb.size = 32 ∧ sc.size ≤ 100) := Lib.hid ⟨by rw [← HSA.out, bstr_size]; exact ha.out.len, by rw [← HSB.out, bstr_size]; exact hb.out.len, by rw [← HSC.out, bstr_size]; have := encI_length zs; rw [HM.out] at this; omega⟩
      refine region_flow3 (by kernel_rfl) (by kernel_rfl) (fun i => Nat.beq i 10) (fun i => i) (by kernel_rfl) (fun fx => #[Value.agg X, Value.agg Y, Value.pointer (some { block := w.heap.size, off := 0 }), Value.pointer (some { block := w.heap.size + 1, off := 0 }), fx 10, Value.pointer (some { block := w.heap.size + 1 + 1, off := 0 }), undef, u7, Value.slice (some ⟨g2, o2, none⟩) n2 cc2, Value.int .i64 0, Value.agg #[Value.int .i64 3, Value.int .i64 0, Value.string { data := #[] }, Value.slice none 0 0], Value.pointer (some { block := w.heap.size, off := 32 }), Value.int .i64 a.c, Value.pointer (some { block := w.heap.size, off := 33 }), Value.int .i64 a.p, Value.pointer (some { block := w.heap.size + 1, off := 32 }), Value.int .i64 b.c, Value.pointer (some { block := w.heap.size + 1, off := 33 }), Value.int .i64 b.p, Value.slice (some { block := w.heap.size + 1 + 1 + 1, off := 0 }) 4 4, Value.int .i64 4, Value.int .i64 ↑j, Value.bool false, u23, u24, u25, u26, u27, u28, u29, u30, u31, u32, Value.tuple #[Value.slice (some ⟨g2, o2, none⟩) n2 cc2, Value.int .i64 0], Value.agg #[Value.int .i64 3, Value.int .i64 0, Value.string { data := #[] }, Value.slice Av zs.length cv], Value.tuple #[Value.slice (some ⟨g2, o2, none⟩) n2 cc2, Value.int .i64 0], Value.slice (some ⟨g2, o2, none⟩) n2 cc2, Value.int .i64 0, fx 0, fx 1, fx 2, fx 3, fx 4, fx 5, fx 6, fx 7, fx 8, fx 9]) (fun i => bif Nat.beq i 10 then Value.string { data := #[] } else undef) (fun L fx w' => Below w2.heap.size w2 w') (fun fi fv _ fw => wJd w.heap.size (w.heap.size + 1) sa sb sc g2 o2 n2 cc2 fi fv fw) (Below.refl _ _).drew ?_ ?_
      · refine ⟨?_, ?_, ?_, ?_, ?_, ?_, ?_, ?_, ?_, ?_, ?_, trivial⟩
        all_goals intro L fx w' hC hi hcl hdn hd
        · go_wp2_with fail
          exact ⟨_, rfl, hC, rfl, fun _ _ _ _ _ h => h⟩
        · have h0 : fx 0 = Value.pointer (some ⟨w.heap.size, 0, none⟩) := hd.1 rfl
          go_wp2_with fail
          exact ⟨_, by show _ = Act.mk #[Value.agg X, Value.agg Y, Value.pointer (some { block := w.heap.size, off := 0 }), Value.pointer (some { block := w.heap.size + 1, off := 0 }), fx 10, Value.pointer (some { block := w.heap.size + 1 + 1, off := 0 }), undef, u7, Value.slice (some ⟨g2, o2, none⟩) n2 cc2, Value.int .i64 0, Value.agg #[Value.int .i64 3, Value.int .i64 0, Value.string { data := #[] }, Value.slice none 0 0], Value.pointer (some { block := w.heap.size, off := 32 }), Value.int .i64 a.c, Value.pointer (some { block := w.heap.size, off := 33 }), Value.int .i64 a.p, Value.pointer (some { block := w.heap.size + 1, off := 32 }), Value.int .i64 b.c, Value.pointer (some { block := w.heap.size + 1, off := 33 }), Value.int .i64 b.p, Value.slice (some { block := w.heap.size + 1 + 1 + 1, off := 0 }) 4 4, Value.int .i64 4, Value.int .i64 ↑j, Value.bool false, u23, u24, u25, u26, u27, u28, u29, u30, u31, u32, Value.tuple #[Value.slice (some ⟨g2, o2, none⟩) n2 cc2, Value.int .i64 0], Value.agg #[Value.int .i64 3, Value.int .i64 0, Value.string { data := #[] }, Value.slice Av zs.length cv], Value.tuple #[Value.slice (some ⟨g2, o2, none⟩) n2 cc2, Value.int .i64 0], Value.slice (some ⟨g2, o2, none⟩) n2 cc2, Value.int .i64 0, fx 0, Value.slice (some ⟨w.heap.size, 0, none⟩) 32 32, fx 2, fx 3, fx 4, fx 5, fx 6, fx 7, fx 8, fx 9] []; rw [h0] <;> rfl, hC, rfl, fun _ _ _ _ _ h => h⟩
        · have h1 : fx 1 = Value.slice (some ⟨w.heap.size, 0, none⟩) 32 32 := hd.1 rfl
          have kc := conv_str (P := Tryd.prog) (w := w') (src := 43) (dst := 9) (cap := 32) Tryd.underlying43 Tryd.underlying5 Tryd.underlying9 ha.out.len ha.out.bytes (bytes_node (n := a) (by rw [HX.out]; exact row_kept HX2.out hC))
          rw [HSA.out] at kc
          go_wp2_with fail
          exact ⟨_, by show _ = Act.mk #[Value.agg X, Value.agg Y, Value.pointer (some { block := w.heap.size, off := 0 }), Value.pointer (some { block := w.heap.size + 1, off := 0 }), fx 10, Value.pointer (some { block := w.heap.size + 1 + 1, off := 0 }), undef, u7, Value.slice (some ⟨g2, o2, none⟩) n2 cc2, Value.int .i64 0, Value.agg #[Value.int .i64 3, Value.int .i64 0, Value.string { data := #[] }, Value.slice none 0 0], Value.pointer (some { block := w.heap.size, off := 32 }), Value.int .i64 a.c, Value.pointer (some { block := w.heap.size, off := 33 }), Value.int .i64 a.p, Value.pointer (some { block := w.heap.size + 1, off := 32 }), Value.int .i64 b.c, Value.pointer (some { block := w.heap.size + 1, off := 33 }), Value.int .i64 b.p, Value.slice (some { block := w.heap.size + 1 + 1 + 1, off := 0 }) 4 4, Value.int .i64 4, Value.int .i64 ↑j, Value.bool false, u23, u24, u25, u26, u27, u28, u29, u30, u31, u32, Value.tuple #[Value.slice (some ⟨g2, o2, none⟩) n2 cc2, Value.int .i64 0], Value.agg #[Value.int .i64 3, Value.int .i64 0, Value.string { data := #[] }, Value.slice Av zs.length cv], Value.tuple #[Value.slice (some ⟨g2, o2, none⟩) n2 cc2, Value.int .i64 0], Value.slice (some ⟨g2, o2, none⟩) n2 cc2, Value.int .i64 0, fx 0, fx 1, Value.string sa, fx 3, fx 4, fx 5, fx 6, fx 7, fx 8, fx 9] []; rw [h1] <;> rfl, hC, rfl, fun _ _ _ _ _ h => h⟩
        · go_wp2_with fail
          exact ⟨_, rfl, hC, rfl, fun _ _ _ _ _ h => h⟩
        · have h3 : fx 3 = Value.pointer (some ⟨w.heap.size + 1, 0, none⟩) := hd.1 rfl
          go_wp2_with fail
          exact ⟨_, by show _ = Act.mk #[Value.agg X, Value.agg Y, Value.pointer (some { block := w.heap.size, off := 0 }), Value.pointer (some { block := w.heap.size + 1, off := 0 }), fx 10, Value.pointer (some { block := w.heap.size + 1 + 1, off := 0 }), undef, u7, Value.slice (some ⟨g2, o2, none⟩) n2 cc2, Value.int .i64 0, Value.agg #[Value.int .i64 3, Value.int .i64 0, Value.string { data := #[] }, Value.slice none 0 0], Value.pointer (some { block := w.heap.size, off := 32 }), Value.int .i64 a.c, Value.pointer (some { block := w.heap.size, off := 33 }), Value.int .i64 a.p, Value.pointer (some { block := w.heap.size + 1, off := 32 }), Value.int .i64 b.c, Value.pointer (some { block := w.heap.size + 1, off := 33 }), Value.int .i64 b.p, Value.slice (some { block := w.heap.size + 1 + 1 + 1, off := 0 }) 4 4, Value.int .i64 4, Value.int .i64 ↑j, Value.bool false, u23, u24, u25, u26, u27, u28, u29, u30, u31, u32, Value.tuple #[Value.slice (some ⟨g2, o2, none⟩) n2 cc2, Value.int .i64 0], Value.agg #[Value.int .i64 3, Value.int .i64 0, Value.string { data := #[] }, Value.slice Av zs.length cv], Value.tuple #[Value.slice (some ⟨g2, o2, none⟩) n2 cc2, Value.int .i64 0], Value.slice (some ⟨g2, o2, none⟩) n2 cc2, Value.int .i64 0, fx 0, fx 1, fx 2, fx 3, Value.slice (some ⟨w.heap.size + 1, 0, none⟩) 32 32, fx 5, fx 6, fx 7, fx 8, fx 9] []; rw [h3] <;> rfl, hC, rfl, fun _ _ _ _ _ h => h⟩
        · have h4 : fx 4 = Value.slice (some ⟨w.heap.size + 1, 0, none⟩) 32 32 := hd.1 rfl
          have kc := conv_str (P := Tryd.prog) (w := w') (src := 43) (dst := 9) (cap := 32) Tryd.underlying43 Tryd.underlying5 Tryd.underlying9 hb.out.len hb.out.bytes (bytes_node (n := b) (by rw [HY.out]; exact row_kept HY2.out hC))
          rw [HSB.out] at kc
          go_wp2_with fail
          exact ⟨_, by show _ = Act.mk #[Value.agg X, Value.agg Y, Value.pointer (some { block := w.heap.size, off := 0 }), Value.pointer (some { block := w.heap.size + 1, off := 0 }), fx 10, Value.pointer (some { block := w.heap.size + 1 + 1, off := 0 }), undef, u7, Value.slice (some ⟨g2, o2, none⟩) n2 cc2, Value.int .i64 0, Value.agg #[Value.int .i64 3, Value.int .i64 0, Value.string { data := #[] }, Value.slice none 0 0], Value.pointer (some { block := w.heap.size, off := 32 }), Value.int .i64 a.c, Value.pointer (some { block := w.heap.size, off := 33 }), Value.int .i64 a.p, Value.pointer (some { block := w.heap.size + 1, off := 32 }), Value.int .i64 b.c, Value.pointer (some { block := w.heap.size + 1, off := 33 }), Value.int .i64 b.p, Value.slice (some { block := w.heap.size + 1 + 1 + 1, off := 0 }) 4 4, Value.int .i64 4, Value.int .i64 ↑j, Value.bool false, u23, u24, u25, u26, u27, u28, u29, u30, u31, u32, Value.tuple #[Value.slice (some ⟨g2, o2, none⟩) n2 cc2, Value.int .i64 0], Value.agg #[Value.int .i64 3, Value.int .i64 0, Value.string { data := #[] }, Value.slice Av zs.length cv], Value.tuple #[Value.slice (some ⟨g2, o2, none⟩) n2 cc2, Value.int .i64 0], Value.slice (some ⟨g2, o2, none⟩) n2 cc2, Value.int .i64 0, fx 0, fx 1, fx 2, fx 3, fx 4, Value.string sb, fx 6, fx 7, fx 8, fx 9] []; rw [h4] <;> rfl, hC, rfl, fun _ _ _ _ _ h => h⟩
        · have h2 : fx 2 = Value.string sa := hd.1 rfl
          have h5 : fx 5 = Value.string sb := hd.2.1 rfl
          have q1 := HQ.out.1
          have q2 := HQ.out.2.1
          have q4 : (sa ++ sb).size = 64 := by rw [ByteArray.size_append, q1, q2]
          go_wp2_with fail
          exact ⟨_, by show _ = Act.mk #[Value.agg X, Value.agg Y, Value.pointer (some { block := w.heap.size, off := 0 }), Value.pointer (some { block := w.heap.size + 1, off := 0 }), fx 10, Value.pointer (some { block := w.heap.size + 1 + 1, off := 0 }), undef, u7, Value.slice (some ⟨g2, o2, none⟩) n2 cc2, Value.int .i64 0, Value.agg #[Value.int .i64 3, Value.int .i64 0, Value.string { data := #[] }, Value.slice none 0 0], Value.pointer (some { block := w.heap.size, off := 32 }), Value.int .i64 a.c, Value.pointer (some { block := w.heap.size, off := 33 }), Value.int .i64 a.p, Value.pointer (some { block := w.heap.size + 1, off := 32 }), Value.int .i64 b.c, Value.pointer (some { block := w.heap.size + 1, off := 33 }), Value.int .i64 b.p, Value.slice (some { block := w.heap.size + 1 + 1 + 1, off := 0 }) 4 4, Value.int .i64 4, Value.int .i64 ↑j, Value.bool false, u23, u24, u25, u26, u27, u28, u29, u30, u31, u32, Value.tuple #[Value.slice (some ⟨g2, o2, none⟩) n2 cc2, Value.int .i64 0], Value.agg #[Value.int .i64 3, Value.int .i64 0, Value.string { data := #[] }, Value.slice Av zs.length cv], Value.tuple #[Value.slice (some ⟨g2, o2, none⟩) n2 cc2, Value.int .i64 0], Value.slice (some ⟨g2, o2, none⟩) n2 cc2, Value.int .i64 0, fx 0, fx 1, fx 2, fx 3, fx 4, fx 5, Value.string (sa ++ sb), fx 7, fx 8, fx 9] []; rw [h2, h5] <;> rfl, hC, rfl, fun _ _ _ _ _ h => h⟩
        · go_wp2_with fail
          exact ⟨_, rfl, hC, rfl, fun _ _ _ _ _ h => h⟩
        · have h7 : fx 7 = Value.slice (some ⟨g2, o2, none⟩) n2 cc2 := hd.1 rfl
          have kc := conv_str (P := Tryd.prog) (w := w') (src := 43) (dst := 9) (cap := cc2) Tryd.underlying43 Tryd.underlying5 Tryd.underlying9 hn2.out (encI_bytes zs) (fun i hi => (hC.cell (p := ⟨g2, o2 + i, none⟩) hg2).trans (hr2 i hi))
          rw [HSC.out] at kc
          go_wp2_with fail
          exact ⟨_, by show _ = Act.mk #[Value.agg X, Value.agg Y, Value.pointer (some { block := w.heap.size, off := 0 }), Value.pointer (some { block := w.heap.size + 1, off := 0 }), fx 10, Value.pointer (some { block := w.heap.size + 1 + 1, off := 0 }), undef, u7, Value.slice (some ⟨g2, o2, none⟩) n2 cc2, Value.int .i64 0, Value.agg #[Value.int .i64 3, Value.int .i64 0, Value.string { data := #[] }, Value.slice none 0 0], Value.pointer (some { block := w.heap.size, off := 32 }), Value.int .i64 a.c, Value.pointer (some { block := w.heap.size, off := 33 }), Value.int .i64 a.p, Value.pointer (some { block := w.heap.size + 1, off := 32 }), Value.int .i64 b.c, Value.pointer (some { block := w.heap.size + 1, off := 33 }), Value.int .i64 b.p, Value.slice (some { block := w.heap.size + 1 + 1 + 1, off := 0 }) 4 4, Value.int .i64 4, Value.int .i64 ↑j, Value.bool false, u23, u24, u25, u26, u27, u28, u29, u30, u31, u32, Value.tuple #[Value.slice (some ⟨g2, o2, none⟩) n2 cc2, Value.int .i64 0], Value.agg #[Value.int .i64 3, Value.int .i64 0, Value.string { data := #[] }, Value.slice Av zs.length cv], Value.tuple #[Value.slice (some ⟨g2, o2, none⟩) n2 cc2, Value.int .i64 0], Value.slice (some ⟨g2, o2, none⟩) n2 cc2, Value.int .i64 0, fx 0, fx 1, fx 2, fx 3, fx 4, fx 5, fx 6, fx 7, Value.string sc, fx 9] []; rw [h7] <;> rfl, hC, rfl, fun _ _ _ _ _ h => h⟩
        · have h6 : fx 6 = Value.string (sa ++ sb) := hd.1 rfl
          have h8 : fx 8 = Value.string sc := hd.2.1 rfl
          have q1 := HQ.out.1
          have q2 := HQ.out.2.1
          have q3 := HQ.out.2.2
          have q4 : (sa ++ sb).size = 64 := by rw [ByteArray.size_append, q1, q2]
          go_wp2_with fail
          exact ⟨_, by show _ = Act.mk #[Value.agg X, Value.agg Y, Value.pointer (some { block := w.heap.size, off := 0 }), Value.pointer (some { block := w.heap.size + 1, off := 0 }), fx 10, Value.pointer (some { block := w.heap.size + 1 + 1, off := 0 }), undef, u7, Value.slice (some ⟨g2, o2, none⟩) n2 cc2, Value.int .i64 0, Value.agg #[Value.int .i64 3, Value.int .i64 0, Value.string { data := #[] }, Value.slice none 0 0], Value.pointer (some { block := w.heap.size, off := 32 }), Value.int .i64 a.c, Value.pointer (some { block := w.heap.size, off := 33 }), Value.int .i64 a.p, Value.pointer (some { block := w.heap.size + 1, off := 32 }), Value.int .i64 b.c, Value.pointer (some { block := w.heap.size + 1, off := 33 }), Value.int .i64 b.p, Value.slice (some { block := w.heap.size + 1 + 1 + 1, off := 0 }) 4 4, Value.int .i64 4, Value.int .i64 ↑j, Value.bool false, u23, u24, u25, u26, u27, u28, u29, u30, u31, u32, Value.tuple #[Value.slice (some ⟨g2, o2, none⟩) n2 cc2, Value.int .i64 0], Value.agg #[Value.int .i64 3, Value.int .i64 0, Value.string { data := #[] }, Value.slice Av zs.length cv], Value.tuple #[Value.slice (some ⟨g2, o2, none⟩) n2 cc2, Value.int .i64 0], Value.slice (some ⟨g2, o2, none⟩) n2 cc2, Value.int .i64 0, fx 0, fx 1, fx 2, fx 3, fx 4, fx 5, fx 6, fx 7, fx 8, Value.string (sa ++ sb ++ sc)] []; rw [h6, h8] <;> rfl, hC, rfl, fun _ _ _ _ _ h => h⟩
        · have h9 : fx 9 = Value.string (sa ++ sb ++ sc) := hd.1 rfl
          go_wp2_with fail
          exact ⟨_, by show _ = Act.mk #[Value.agg X, Value.agg Y, Value.pointer (some { block := w.heap.size, off := 0 }), Value.pointer (some { block := w.heap.size + 1, off := 0 }), Value.string (sa ++ sb ++ sc), Value.pointer (some { block := w.heap.size + 1 + 1, off := 0 }), undef, u7, Value.slice (some ⟨g2, o2, none⟩) n2 cc2, Value.int .i64 0, Value.agg #[Value.int .i64 3, Value.int .i64 0, Value.string { data := #[] }, Value.slice none 0 0], Value.pointer (some { block := w.heap.size, off := 32 }), Value.int .i64 a.c, Value.pointer (some { block := w.heap.size, off := 33 }), Value.int .i64 a.p, Value.pointer (some { block := w.heap.size + 1, off := 32 }), Value.int .i64 b.c, Value.pointer (some { block := w.heap.size + 1, off := 33 }), Value.int .i64 b.p, Value.slice (some { block := w.heap.size + 1 + 1 + 1, off := 0 }) 4 4, Value.int .i64 4, Value.int .i64 ↑j, Value.bool false, u23, u24, u25, u26, u27, u28, u29, u30, u31, u32, Value.tuple #[Value.slice (some ⟨g2, o2, none⟩) n2 cc2, Value.int .i64 0], Value.agg #[Value.int .i64 3, Value.int .i64 0, Value.string { data := #[] }, Value.slice Av zs.length cv], Value.tuple #[Value.slice (some ⟨g2, o2, none⟩) n2 cc2, Value.int .i64 0], Value.slice (some ⟨g2, o2, none⟩) n2 cc2, Value.int .i64 0, fx 0, fx 1, fx 2, fx 3, fx 4, fx 5, fx 6, fx 7, fx 8, fx 9] []; rw [h9] <;> rfl, hC, rfl, fun _ _ _ _ _ h => h⟩
      · intro L fo w' hC hS
        have H10 := Lib.hid (hS 10 (by decide) rfl)
        have h10 : fo 10 = Value.string (sa ++ sb ++ sc) := hS 10 (by decide) rfl
        rw [h10]
        have hbq := Lib.hid hC
        clear hS hC h10
        go_wp2_with fail
        go_ret
        refine ⟨_, rfl, ?_, HB2.out.trans (hbq.out.mono HB2.out.size)⟩
        rw [strL_append, strL_append, ← HSA.out, ← HSB.out, ← HSC.out, strL_bstr ha.out.bytes, strL_bstr hb.out.bytes, strL_bstr (encI_bytes zs), ← HZ0.out]
        rfl
end Go.Proofs.YtgcmbiegbclhmaaDoor
namespace Go.Proofs.YtgcmbiegbclhmaaDoor
open Go.RowKit SzSha SzTree
set_option linter.unusedVariables false
set_option maxRecDepth 100000
def flatQ (ps : List (Nd × Nd)) : List Value := ps.flatMap fun p => flatN [p.1, p.2]
def prV (p : Nd × Nd) : Value := .agg (flatN [p.1, p.2]).toArray
def PrOk (p : Nd × Nd) : Prop := NdOk p.1 ∧ NdOk p.2
theorem flat2_length {p : Nd × Nd} (h : PrOk p) : (flatN [p.1, p.2]).length = 68 := by
  rw [flatN_length _ (fun x hx => by
    simp only [List.mem_cons, List.not_mem_nil, or_false] at hx
    rcases hx with rfl | rfl
    · exact h.1
    · exact h.2)]; rfl
theorem flatQ_length : ∀ (ps : List (Nd × Nd)), (∀ p ∈ ps, PrOk p) → (flatQ ps).length = ps.length * 68
  | [], _ => rfl
  | p :: ps, h => by
    have e : flatQ (p :: ps) = flatN [p.1, p.2] ++ flatQ ps := by unfold flatQ; rw [List.flatMap_cons]
    rw [e, List.length_append, flat2_length (h p (by simp)), flatQ_length ps (fun q hq => h q (by simp [hq])), List.length_cons]; omega
theorem flatQ_append (a b : List (Nd × Nd)) : flatQ (a ++ b) = flatQ a ++ flatQ b := by unfold flatQ; rw [List.flatMap_append]
theorem flatQ_one (ps : List (Nd × Nd)) : ∀ u ∈ flatQ ps, u.oneCell' = true := fun u hu => by
  obtain ⟨p, _, h⟩ := List.mem_flatMap.1 hu
  exact flatN_one _ u h
theorem flatQ_single (p : Nd × Nd) : flatQ [p] = flatN [p.1, p.2] := by simp [flatQ]
theorem info_pair : ∃ i, Tryd.prog.info? 41 = some i ∧ i.zero = some (.agg (Array.replicate 32 (.int .u8 0) ++ #[.int .i64 0, .int .i64 0] ++ Array.replicate 32 (.int .u8 0) ++ #[.int .i64 0, .int .i64 0])) ∧ i.size = 68 ∧ i.bytes = 96 := by
  refine ⟨_, rfl, ?_, ?_, ?_⟩ <;> kernel_rfl
theorem nd_size {n : Nd} (h : NdOk n) : (ndV n).cells.size = 34 := by rw [nd_cells]; simpa using ndC_length h
theorem built_pair {a b : Nd} (ha : NdOk a) (hb : NdOk b) : Tryd.prog.built 41 [(0, ndV a), (1, ndV b)] = some (flatN [a, b]).toArray := by
  obtain ⟨i0, hi, hz, hs, _⟩ := info_pair
  obtain ⟨i1, hj, _, hs1, _⟩ := info_node
  unfold Program.built
  rw [hi, Tryd.underlying41]
  simp only [hz, hj, hs1]
  have e1 : ([(0, ndV a), (1, ndV b)] : List (Nat × Value)) = (([ndV a, ndV b] : List Value).zipIdx 0).map fun x => (x.2, x.1) := by simp
  rw [e1, Great.fill_whole (by omega) [ndV a, ndV b] _ (fun v hv => by
    simp only [List.mem_cons, List.not_mem_nil, or_false] at hv
    rcases hv with rfl | rfl
    · exact nd_size ha
    · exact nd_size hb) (by simp [Value.cells])]
  rfl
theorem wpList_build_pair {w : World} {ops : Array Oper} {rest : List Oper} {o : Oper} {a : Act} {Q : Exit → Act → World → Prop} (hg : o.guard = none) (x y : Operand)
    (ho : o.op = .build 41 #[(0, x), (1, y)]) (n m : Nd) (hn : NdOk n) (hm : NdOk m) (hx : a.eval x = ndV n) (hy : a.eval y = ndV m)
    (h : wpList Tryd.prog ops Q rest (a.put o.dst (prV (n, m))) w) : wpList Tryd.prog ops Q (o :: rest) a w := by
  have e1 : (#[(0, x), (1, y)].map fun (i, x) => (i, a.eval x)).toList = [(0, ndV n), (1, ndV m)] := by simp [hx, hy]
  refine wpList_build hg 41 _ ho (by rw [e1, built_pair hn hm]; rfl) ?_
  rw [e1, built_pair hn hm]
  exact h
theorem wpList_build_pairs1 {w : World} {ops : Array Oper} {rest : List Oper} {o : Oper} {a : Act} {Q : Exit → Act → World → Prop} (hg : o.guard = none) (x : Operand)
    (ho : o.op = .buildSlice 38 1 #[(0, x)]) (p : Nd × Nd) (hx : a.eval x = prV p) (hp : PrOk p)
    (h : wpList Tryd.prog ops Q rest (a.put o.dst (.slice (some ⟨w.heap.size, 0, none⟩) 1 1)) (w.alloc (.cells (flatQ [p]).toArray 41))) : wpList Tryd.prog ops Q (o :: rest) a w := by
  obtain ⟨i0, hi, hz, hs, _⟩ := info_pair
  rw [flatQ_single] at h
  refine wpList_buildSlice hg 38 41 1 _ ho _ i0 _ Tryd.underlying38 hi hz (by rw [hs]; omega) (by rw [hs]; omega) ?_ h
  have e1 : (#[(0, x)].map fun (i, x) => (i, a.eval x)).toList = [(0, prV p)] := by simp [hx]
  rw [e1, hs]
  have e2 : ([(0, prV p)] : List (Nat × Value)) = (([prV p] : List Value).zipIdx 0).map fun x => (x.2, x.1) := by simp
  rw [e2, Great.fill_whole (by omega) [prV p] _ (fun v hv => by
    simp only [List.mem_cons, List.not_mem_nil, or_false] at hv
    subst hv
    simpa [prV, Value.cells] using flat2_length hp) (by simp)]
  simp [prV, Value.cells]
/-- a slice of pairs that the call made -/
def OwnQ (w : World) (base : Nat) (v : Value) (ps : List (Nd × Nd)) : Prop := w.ownsRow base 41 68 v ps.length (flatQ ps)
theorem OwnQ.nil (w : World) (base : Nat) : OwnQ w base (.slice none 0 0) [] := ⟨rfl, .inl ⟨rfl, rfl⟩⟩
theorem OwnQ.kept {w w' : World} {base : Nat} {v : Value} {ps : List (Nd × Nd)} (h : OwnQ w base v ps) (hk : ∀ g, v.ownBlock = some g → w'.heap[g]? = w.heap[g]?) : OwnQ w' base v ps := by
  refine ⟨h.1, ?_⟩
  rcases h.2 with h0 | ⟨g, cap, cur, rfl, hb, hh, r⟩
  · exact .inl h0
  · exact .inr ⟨g, cap, cur, rfl, hb, (hk g rfl).trans hh, r⟩
theorem OwnQ.block {w : World} {base : Nat} {v : Value} {ps : List (Nd × Nd)} (h : OwnQ w base v ps) (g : Nat) (hg : v.ownBlock = some g) : base ≤ g ∧ g < w.heap.size := by
  rcases h.2 with ⟨rfl, h0⟩ | ⟨g', cap, cur, rfl, hb, hh, r⟩
  · cases hg
  · have : g' = g := by simpa [Value.ownBlock] using hg
    subst this
    exact ⟨hb, (Array.getElem?_eq_some_iff.1 hh).1⟩
theorem OwnQ.below {w w' : World} {base : Nat} {v : Value} {ps : List (Nd × Nd)} (h : OwnQ w base v ps) (hb : Below w.heap.size w w') : OwnQ w' base v ps := h.kept fun g hg => hb.block g (h.block g hg).2
theorem OwnQ.mono {w : World} {base base' : Nat} {v : Value} {ps : List (Nd × Nd)} (h : OwnQ w base v ps) (hb : base' ≤ base) : OwnQ w base' v ps := by
  refine ⟨h.1, ?_⟩
  rcases h.2 with h0 | ⟨g, cap, cur, e, hb2, r⟩
  · exact .inl h0
  · exact .inr ⟨g, cap, cur, e, Nat.le_trans hb hb2, r⟩
structure InQ (w : World) (A : Option Addr) (n c : Nat) (ps : List (Nd × Nd)) : Prop where
  len : ps.length = n
  cap : n ≤ c
  none_ : A = none → c = 0
  ok : ∀ p ∈ ps, PrOk p
  rd : 0 < ps.length → ∃ g, A = some ⟨g, 0, none⟩ ∧ g < w.heap.size ∧ w.rangeAt g 0 (flatQ ps)
theorem OwnQ.slice {w : World} {base : Nat} {v : Value} {ps : List (Nd × Nd)} (h : OwnQ w base v ps) (ho : ∀ p ∈ ps, PrOk p) : ∃ A n c, v = .slice A n c ∧ InQ w A n c ps := by
  rcases h.2 with ⟨rfl, h0⟩ | ⟨g, cap, cur, rfl, hb, hh, hc, hm, hs, ht⟩
  · exact ⟨none, 0, 0, rfl, ⟨h0, Nat.le_refl _, fun _ => rfl, ho, fun h1 => by omega⟩⟩
  · refine ⟨_, _, cap, rfl, ⟨rfl, hc, (fun e => by cases e), ho, fun _ => ⟨g, rfl, (Array.getElem?_eq_some_iff.1 hh).1, fun j u hj => ?_⟩⟩⟩
    have hj2 : j < ps.length * 68 := by rw [← flatQ_length ps ho]; exact (List.getElem?_eq_some_iff.1 hj).1
    rw [Nat.zero_add, cell_of_row w g j cur _ _ hh]
    rw [← ht, List.getElem?_take_of_lt hj2] at hj
    simpa using hj
theorem OwnQ.one {w : World} {base g : Nat} {p : Nd × Nd} (hp : PrOk p) (h : w.heap[g]? = some (.cells (flatQ [p]).toArray 41 (0, 0))) (hb : base ≤ g) : OwnQ w base (.slice (some ⟨g, 0, none⟩) 1 1) [p] := by
  have hl := flatQ_length [p] (fun q hq => by simp at hq; subst hq; exact hp)
  refine ⟨hl, .inr ⟨g, 1, _, rfl, hb, h, Nat.le_refl _, by decide, by simpa using hl, ?_⟩⟩
  rw [List.take_of_length_le (by simpa using Nat.le_of_eq hl)]
theorem wpList_append_pairs {w : World} {ops : Array Oper} {rest : List Oper} {o : Oper} {a : Act} {Q : Exit → Act → World → Prop} (hgd : o.guard = none) (s x : Operand)
    (ho : o.op = .call { callee := .builtin .append, args := #[s, x], argTypes := #[38, 38] })
    (base : Nat) (v : Value) (ls ps : List (Nd × Nd)) (A : Option Addr) (n c : Nat) (hs : a.eval s = v) (hown : Hid (OwnQ w base v ls)) (hx : a.eval x = .slice A n c) (hin : Hid (InQ w A n c ps)) (hlen : ls.length ≤ 100000) (hn : n ≤ 100000) (hbase : base ≤ w.heap.size)
    (h : ∀ v' w', Hid (OwnQ w' base v' (ls ++ ps)) → Hid (w.grownBy w' v.ownBlock) → wpList Tryd.prog ops Q rest (a.put o.dst v') w') : wpList Tryd.prog ops Q (o :: rest) a w := by
  obtain ⟨i0, hi, hz, hz1, hz2⟩ := info_pair
  rcases A with _ | ad
  · have hc := hin.out.none_ rfl
    have h0 : n = 0 := by have := hin.out.cap; omega
    have hp : ps = [] := List.eq_nil_of_length_eq_zero (by rw [hin.out.len]; exact h0)
    subst hp h0 hc
    refine wpList_append_own_none hgd s x _ ho base _ i0 68 Tryd.underlying38 hi v _ _ hs hown.out hx ?_
    exact h v w (Lib.hid (by rw [List.append_nil]; exact hown.out)) (Lib.hid ⟨rfl, rfl, rfl, Nat.le_refl _, fun _ _ _ => rfl⟩)
  · have hl := flatQ_length ps hin.out.ok
    rw [hin.out.len] at hl
    refine wpList_append_own_at _ hgd s x _ ho base _ i0 _ 68 96 Tryd.underlying38 hi hz hz1 hz2 (by simp [Value.cells]) (by omega) v _ _ hs hown.out ad n c (flatQ ps) hx hl (fun j u hu => ?_) (flatQ_one _) (by unfold maxLen; omega) (by omega) hbase ?_
    · have hj := (List.getElem?_eq_some_iff.1 hu).1
      obtain ⟨g, e, hg, hr⟩ := hin.out.rd (by rw [hin.out.len]; omega)
      cases e
      rw [add_row]; exact hr j u hu
    · intro v' w' h1 h2 h3 h4
      refine h v' w' (Lib.hid ?_) (Lib.hid h2)
      unfold OwnQ
      rw [flatQ_append, List.length_append, hin.out.len]; exact h1
end Go.Proofs.YtgcmbiegbclhmaaDoor
namespace Go.Proofs.YtgcmbiegbclhmaaDoor
open Go.RowKit SzSha SzTree
set_option linter.unusedVariables false
set_option maxRecDepth 100000
theorem dirs_stop (f i n : Nat) (h : n ≤ 1) : dirs f i n = [] := by
  cases f with
  | zero => rfl
  | succ f => unfold dirs; rw [if_pos h]
theorem dirs_fuel : ∀ f g i n, n ≤ f + 1 → n ≤ g + 1 → dirs f i n = dirs g i n
  | 0, g, i, n, h, _ => by rw [dirs_stop _ _ _ (by omega), dirs_stop _ _ _ (by omega)]
  | f + 1, 0, i, n, _, h => by rw [dirs_stop _ _ _ (by omega), dirs_stop _ _ _ (by omega)]
  | f + 1, g + 1, i, n, h1, h2 => by
    unfold dirs
    by_cases h : n ≤ 1
    · rw [if_pos h, if_pos h]
    · have hb := half_bd (n := n) (by omega)
      rw [if_neg h, if_neg h, dirs_fuel f g i (half n) (by omega) (by omega), dirs_fuel f g (i - half n) (n - half n) (by omega) (by omega)]
/-- the sides of the way to leaf i of m, from the root downwards -/
def dirsN (i m : Nat) : List Bool := dirs m i m
theorem dirsN_one (i : Nat) : dirsN i 1 = [] := dirs_stop _ _ _ (Nat.le_refl _)
theorem dirsN_left {i m : Nat} (h : 2 ≤ m) (hi : i < half m) : dirsN i m = true :: dirsN i (half m) := by
  have hb := half_bd h
  unfold dirsN
  rw [dirs_fuel m (m + 1) i m (by omega) (by omega)]
  conv => lhs; unfold dirs
  rw [if_neg (by omega), if_pos hi, dirs_fuel m (half m) i (half m) (by omega) (by omega)]
theorem dirsN_right {i m : Nat} (h : 2 ≤ m) (hi : ¬ i < half m) : dirsN i m = false :: dirsN (i - half m) (m - half m) := by
  have hb := half_bd h
  unfold dirsN
  rw [dirs_fuel m (m + 1) i m (by omega) (by omega)]
  conv => lhs; unfold dirs
  rw [if_neg (by omega), if_neg hi, dirs_fuel m (m - half m) (i - half m) (m - half m) (by omega) (by omega)]
theorem way_dirsN (i m : Nat) : (way i m).length = (dirsN i m).length := by
  have h := sidesN_dirs i m
  have h2 := congrArg List.length h
  simpa [sidesN, dirsN] using h2
theorem climbR_dirs {n : Nd} {i m : Nat} {ps : List Nd} (hv : vN n = true) (h1 : 1 ≤ m) (h2 : m ≤ 4096) (h3 : i < m) (hl : ps.length = (dirsN i m).length) : climbR n (i : Int) (m : Int) ps = (climbF (dirsN i m).reverse ps n).getD zeroN := by
  have hc : ¬ climbArg (i : Int) (m : Int) ps.length := by
    unfold climbArg
    have e1 : ((i : Int)).toNat = i := by simp
    have e2 : ((m : Int)).toNat = m := by simp
    rw [e1, e2, way_dirsN, hl]
    omega
  unfold climbR climbO
  rw [if_neg hc, if_neg (by rw [hv]; decide), Int.toNat_natCast, Int.toNat_natCast, sidesN_dirs]
  rfl
theorem stepN_ok {r : Bool} {p n x : Nd} (hp : NdOk p) (hn : NdOk n) (h : stepN r p n = some x) : NdOk x := by
  unfold stepN at h
  split at h <;> split at h
  · rename_i hv; cases h; exact join_ok hn hp hv
  · cases h
  · rename_i hv; cases h; exact join_ok hp hn hv
  · cases h
theorem climbF_ok : ∀ rs ps (n x : Nd), NdOk n → (∀ p ∈ ps, NdOk p) → climbF rs ps n = some x → NdOk x
  | [], _, n, x, hn, _, h => by simp only [climbF] at h; cases h; exact hn
  | _ :: _, [], n, x, hn, _, h => by simp only [climbF] at h; cases h; exact hn
  | r :: rs, p :: ps, n, x, hn, hp, h => by
    simp only [climbF] at h
    cases e : stepN r p n with
    | none => rw [e] at h; cases h
    | some y => rw [e] at h; exact climbF_ok rs ps y x (stepN_ok (hp p (by simp)) hn e) (fun q hq => hp q (by simp [hq])) h
theorem climbR_okN {n : Nd} {i m : Int} {ps : List Nd} (hn : NdOk n) (hp : ∀ p ∈ ps, NdOk p) : NdOk (climbR n i m ps) := by
  unfold climbR
  split
  · exact zeroN_ok
  · split
    · exact zeroN_ok
    · cases e : climbO n i m ps with
      | none => exact zeroN_ok
      | some x => exact climbF_ok _ _ _ _ hn hp e
/-- what sides gives -/
def sidesQ (n : Nd) (i m : Nat) (ps : List Nd) : List (Nd × Nd) := pairsN zeroN (dirsN i m) n ps
theorem sidesQ_one (n : Nd) (i : Nat) (ps : List Nd) : sidesQ n i 1 ps = [] := by unfold sidesQ; rw [dirsN_one]; rfl
theorem sidesQ_left {n p : Nd} {i m : Nat} {ps : List Nd} (hv : vN n = true) (h1 : 2 ≤ m) (h2 : m ≤ 4096) (hi : i < half m) (hl : ps.length = (dirsN i (half m)).length) :
    sidesQ n i m (ps ++ [p]) = (climbR n (i : Int) (half m : Int) ps, p) :: sidesQ n i (half m) ps := by
  have hb := half_bd h1
  unfold sidesQ
  rw [dirsN_left h1 hi, climbR_dirs hv hb.1 (by omega) hi hl]
  conv => lhs; unfold pairsN
  rw [List.dropLast_concat, List.getLastD_concat]
  rfl
theorem sidesQ_right {n p : Nd} {i m : Nat} {ps : List Nd} (hv : vN n = true) (h1 : 2 ≤ m) (h2 : m ≤ 4096) (hi : ¬ i < half m) (him : i < m) (hl : ps.length = (dirsN (i - half m) (m - half m)).length) :
    sidesQ n i m (ps ++ [p]) = (p, climbR n ((i - half m : Nat) : Int) ((m - half m : Nat) : Int) ps) :: sidesQ n (i - half m) (m - half m) ps := by
  have hb := half_bd h1
  unfold sidesQ
  rw [dirsN_right h1 hi, climbR_dirs hv (by omega) (by omega) (by omega) hl]
  conv => lhs; unfold pairsN
  rw [List.dropLast_concat, List.getLastD_concat]
  rfl
theorem pairsN_ok : ∀ (ds : List Bool) (n : Nd) (ps : List Nd), NdOk n → (∀ p ∈ ps, NdOk p) → ∀ q ∈ pairsN zeroN ds n ps, PrOk q
  | [], n, ps, hn, hp, q, hq => by simp [pairsN] at hq
  | r :: ds, n, ps, hn, hp, q, hq => by
    unfold pairsN at hq
    have hd : ∀ p ∈ ps.dropLast, NdOk p := fun p h => hp p (List.dropLast_subset _ h)
    have hc : NdOk ((climbF ds.reverse ps.dropLast n).getD zeroN) := by
      cases e : climbF ds.reverse ps.dropLast n with
      | none => exact zeroN_ok
      | some x => exact climbF_ok _ _ _ _ hn hd e
    have hl : NdOk (ps.getLastD zeroN) := by
      rw [List.getLastD_eq_getLast?]
      cases e : ps.getLast? with
      | none => exact zeroN_ok
      | some x => exact hp x (List.mem_of_getLast? e)
    rcases List.mem_cons.1 hq with h | h
    · subst h; cases r
      · exact ⟨hl, hc⟩
      · exact ⟨hc, hl⟩
    · exact pairsN_ok ds n ps.dropLast hn hd q h
theorem sidesQ_ok {n : Nd} {i m : Nat} {ps : List Nd} (hn : NdOk n) (hp : ∀ p ∈ ps, NdOk p) : ∀ q ∈ sidesQ n i m ps, PrOk q := pairsN_ok _ n ps hn hp
theorem sidesQ_length (n : Nd) (i m : Nat) (ps : List Nd) : (sidesQ n i m ps).length = (dirsN i m).length := pairsN_length _ _ _ _
theorem dirs_length : ∀ f i n, (dirs f i n).length ≤ f
  | 0, _, _ => Nat.le_refl _
  | f + 1, i, n => by
    unfold dirs; split
    · simp
    · split
      · have := dirs_length f i (half n); simp; omega
      · have := dirs_length f (i - half n) (n - half n); simp; omega
theorem dirsN_length (i m : Nat) : (dirsN i m).length ≤ m := dirs_length m i m
end Go.Proofs.YtgcmbiegbclhmaaDoor
namespace Go.Proofs.YtgcmbiegbclhmaaDoor
open Go.RowKit SzSha SzTree
set_option linter.unusedVariables false
set_option maxRecDepth 100000
abbrev NdPairs := List (Nd × Nd)
def wS8 (M : Nat) (nd : Nd) (y : Nd) (ee : Int) (i : Nat) (k : Nat) (q : Nat) (g1 : Nat) (o1 : Nat) (n : Nat) (c : Nat) : Nat → Value → Value → World → Prop
  | 0, fv, _, _ => fv = ndV nd
  | 1, fv, _, _ => fv = Value.int .i64 ((i : Nat))
  | 2, fv, _, _ => fv = Value.int .i64 ((k : Nat))
  | 3, fv, _, _ => fv = Value.slice (some ⟨g1, o1, none⟩) n c
  | 4, fv, _, _ => fv = Value.int .i64 ((q : Nat))
  | 5, fv, _, _ => fv = Value.slice (some ⟨g1, o1, none⟩) q c
  | 6, fv, _, _ => fv = Value.tuple #[ndV y, .int .i64 ee]
  | 7, fv, _, _ => fv = Value.tuple #[ndV y, .int .i64 ee]
  | 8, fv, _, _ => fv = ndV y
  | 9, fv, _, _ => fv = Value.int .i64 (ee)
  | 10, fv, fu, fw => True
  | 11, fv, fu, fw => ∃ z, fu = .pointer (some ⟨z, 0, none⟩) ∧ M ≤ z ∧ fw.heap[z]? = some (.cells (ndC y).toArray 26 (0, 0))
  | 12, fv, _, _ => fv = Value.int .i64 (ee)
  | _, _, _, _ => True
theorem wS8_below {M : Nat} {nd : Nd} {y : Nd} {ee : Int} {i : Nat} {k : Nat} {q : Nat} {g1 : Nat} {o1 : Nat} {n : Nat} {c : Nat} {w w' : World} (hb : Below w.heap.size w w') : ∀ j v u, wS8 M nd y ee i k q g1 o1 n c j v u w → wS8 M nd y ee i k q g1 o1 n c j v u w'
  | 0, v, u, h => h
  | 1, v, u, h => h
  | 2, v, u, h => h
  | 3, v, u, h => h
  | 4, v, u, h => h
  | 5, v, u, h => h
  | 6, v, u, h => h
  | 7, v, u, h => h
  | 8, v, u, h => h
  | 9, v, u, h => h
  | 10, v, u, h => h
  | 11, v, u, ⟨z, h1, h2, h3⟩ => ⟨z, h1, h2, row_kept h3 hb⟩
  | 12, v, u, h => h
  | n + 13, v, u, h => trivial
theorem wS8_pure {M : Nat} {nd : Nd} {y : Nd} {ee : Int} {i : Nat} {k : Nat} {q : Nat} {g1 : Nat} {o1 : Nat} {n : Nat} {c : Nat} {w w' : World} : ∀ j v u, j ≠ 10 → j ≠ 11 → wS8 M nd y ee i k q g1 o1 n c j v u w → wS8 M nd y ee i k q g1 o1 n c j v u w'
  | 0, v, u, _, _, h => h
  | 1, v, u, _, _, h => h
  | 2, v, u, _, _, h => h
  | 3, v, u, _, _, h => h
  | 4, v, u, _, _, h => h
  | 5, v, u, _, _, h => h
  | 6, v, u, _, _, h => h
  | 7, v, u, _, _, h => h
  | 8, v, u, _, _, h => h
  | 9, v, u, _, _, h => h
  | 10, v, u, hh, _, _ => absurd rfl hh
  | 11, v, u, _, hh, _ => absurd rfl hh
  | 12, v, u, _, _, h => h
  | n + 13, v, u, _, _, h => trivial
def wS10 (M : Nat) (nd : Nd) (y : Nd) (ee : Int) (i : Nat) (k : Nat) (i2 : Nat) (m : Nat) (m2 : Nat) (q : Nat) (g1 : Nat) (o1 : Nat) (n : Nat) (c : Nat) : Nat → Value → Value → World → Prop
  | 0, fv, _, _ => fv = ndV nd
  | 1, fv, _, _ => fv = Value.int .i64 ((i : Nat))
  | 2, fv, _, _ => fv = Value.int .i64 ((k : Nat))
  | 3, fv, _, _ => fv = Value.int .i64 ((i2 : Nat))
  | 4, fv, _, _ => fv = Value.int .i64 ((m : Nat))
  | 5, fv, _, _ => fv = Value.int .i64 ((k : Nat))
  | 6, fv, _, _ => fv = Value.int .i64 ((m2 : Nat))
  | 7, fv, _, _ => fv = Value.slice (some ⟨g1, o1, none⟩) n c
  | 8, fv, _, _ => fv = Value.int .i64 ((q : Nat))
  | 9, fv, _, _ => fv = Value.slice (some ⟨g1, o1, none⟩) q c
  | 10, fv, _, _ => fv = Value.tuple #[ndV y, .int .i64 ee]
  | 11, fv, _, _ => fv = Value.tuple #[ndV y, .int .i64 ee]
  | 12, fv, _, _ => fv = ndV y
  | 13, fv, _, _ => fv = Value.int .i64 (ee)
  | 14, fv, fu, fw => True
  | 15, fv, fu, fw => ∃ z, fu = .pointer (some ⟨z, 0, none⟩) ∧ M ≤ z ∧ fw.heap[z]? = some (.cells (ndC y).toArray 26 (0, 0))
  | 16, fv, _, _ => fv = Value.int .i64 (ee)
  | _, _, _, _ => True
theorem wS10_below {M : Nat} {nd : Nd} {y : Nd} {ee : Int} {i : Nat} {k : Nat} {i2 : Nat} {m : Nat} {m2 : Nat} {q : Nat} {g1 : Nat} {o1 : Nat} {n : Nat} {c : Nat} {w w' : World} (hb : Below w.heap.size w w') : ∀ j v u, wS10 M nd y ee i k i2 m m2 q g1 o1 n c j v u w → wS10 M nd y ee i k i2 m m2 q g1 o1 n c j v u w'
  | 0, v, u, h => h
  | 1, v, u, h => h
  | 2, v, u, h => h
  | 3, v, u, h => h
  | 4, v, u, h => h
  | 5, v, u, h => h
  | 6, v, u, h => h
  | 7, v, u, h => h
  | 8, v, u, h => h
  | 9, v, u, h => h
  | 10, v, u, h => h
  | 11, v, u, h => h
  | 12, v, u, h => h
  | 13, v, u, h => h
  | 14, v, u, h => h
  | 15, v, u, ⟨z, h1, h2, h3⟩ => ⟨z, h1, h2, row_kept h3 hb⟩
  | 16, v, u, h => h
  | n + 17, v, u, h => trivial
theorem wS10_pure {M : Nat} {nd : Nd} {y : Nd} {ee : Int} {i : Nat} {k : Nat} {i2 : Nat} {m : Nat} {m2 : Nat} {q : Nat} {g1 : Nat} {o1 : Nat} {n : Nat} {c : Nat} {w w' : World} : ∀ j v u, j ≠ 14 → j ≠ 15 → wS10 M nd y ee i k i2 m m2 q g1 o1 n c j v u w → wS10 M nd y ee i k i2 m m2 q g1 o1 n c j v u w'
  | 0, v, u, _, _, h => h
  | 1, v, u, _, _, h => h
  | 2, v, u, _, _, h => h
  | 3, v, u, _, _, h => h
  | 4, v, u, _, _, h => h
  | 5, v, u, _, _, h => h
  | 6, v, u, _, _, h => h
  | 7, v, u, _, _, h => h
  | 8, v, u, _, _, h => h
  | 9, v, u, _, _, h => h
  | 10, v, u, _, _, h => h
  | 11, v, u, _, _, h => h
  | 12, v, u, _, _, h => h
  | 13, v, u, _, _, h => h
  | 14, v, u, hh, _, _ => absurd rfl hh
  | 15, v, u, _, hh, _ => absurd rfl hh
  | 16, v, u, _, _, h => h
  | n + 17, v, u, _, _, h => trivial
def wS9 (M : Nat) (nd : Nd) (y : Nd) (p : Nd) (SD : NdPairs) (i : Nat) (k : Nat) (q : Nat) (g1 : Nat) (o1 : Nat) (n : Nat) (c : Nat) : Nat → Value → World → Prop
  | 0, fv, _ => fv = ndV y
  | 1, fv, _ => fv = Value.slice (some ⟨g1, o1, none⟩) n c
  | 2, fv, _ => fv = Value.int .i64 ((q : Nat))
  | 3, fv, _ => fv = Value.pointer (some ⟨g1, o1 + q * 34, none⟩)
  | 4, fv, _ => fv = ndV p
  | 5, fv, _ => fv = prV (y, p)
  | 6, fv, fw => OwnQ fw M fv [(y, p)]
  | 7, fv, _ => fv = ndV nd
  | 8, fv, _ => fv = Value.int .i64 ((i : Nat))
  | 9, fv, _ => fv = Value.int .i64 ((k : Nat))
  | 10, fv, _ => fv = Value.slice (some ⟨g1, o1, none⟩) n c
  | 11, fv, _ => fv = Value.int .i64 ((q : Nat))
  | 12, fv, _ => fv = Value.slice (some ⟨g1, o1, none⟩) q c
  | 13, fv, fw => OwnQ fw M fv SD
  | 14, fv, fw => OwnQ fw M fv ((y, p) :: SD)
  | 15, fv, fw => OwnQ fw M fv ((y, p) :: SD)
  | _, _, _ => True
theorem wS9_below {M : Nat} {nd : Nd} {y : Nd} {p : Nd} {SD : NdPairs} {i : Nat} {k : Nat} {q : Nat} {g1 : Nat} {o1 : Nat} {n : Nat} {c : Nat} {w w' : World} (hb : Below w.heap.size w w') : ∀ j v, wS9 M nd y p SD i k q g1 o1 n c j v w → wS9 M nd y p SD i k q g1 o1 n c j v w'
  | 0, v, h => h
  | 1, v, h => h
  | 2, v, h => h
  | 3, v, h => h
  | 4, v, h => h
  | 5, v, h => h
  | 6, v, h => h.below hb
  | 7, v, h => h
  | 8, v, h => h
  | 9, v, h => h
  | 10, v, h => h
  | 11, v, h => h
  | 12, v, h => h
  | 13, v, h => h.below hb
  | 14, v, h => h.below hb
  | 15, v, h => h.below hb
  | n + 16, v, h => trivial
theorem wS9_pure {M : Nat} {nd : Nd} {y : Nd} {p : Nd} {SD : NdPairs} {i : Nat} {k : Nat} {q : Nat} {g1 : Nat} {o1 : Nat} {n : Nat} {c : Nat} {w w' : World} : ∀ j v, j ≠ 6 → j ≠ 13 → j ≠ 14 → j ≠ 15 → wS9 M nd y p SD i k q g1 o1 n c j v w → wS9 M nd y p SD i k q g1 o1 n c j v w'
  | 0, v, _, _, _, _, h => h
  | 1, v, _, _, _, _, h => h
  | 2, v, _, _, _, _, h => h
  | 3, v, _, _, _, _, h => h
  | 4, v, _, _, _, _, h => h
  | 5, v, _, _, _, _, h => h
  | 6, v, hh, _, _, _, _ => absurd rfl hh
  | 7, v, _, _, _, _, h => h
  | 8, v, _, _, _, _, h => h
  | 9, v, _, _, _, _, h => h
  | 10, v, _, _, _, _, h => h
  | 11, v, _, _, _, _, h => h
  | 12, v, _, _, _, _, h => h
  | 13, v, _, hh, _, _, _ => absurd rfl hh
  | 14, v, _, _, hh, _, _ => absurd rfl hh
  | 15, v, _, _, _, hh, _ => absurd rfl hh
  | n + 16, v, _, _, _, _, h => trivial
def wS11 (M : Nat) (nd : Nd) (y : Nd) (p : Nd) (SD : NdPairs) (i : Nat) (k : Nat) (i2 : Nat) (m : Nat) (m2 : Nat) (q : Nat) (g1 : Nat) (o1 : Nat) (n : Nat) (c : Nat) : Nat → Value → World → Prop
  | 0, fv, _ => fv = Value.slice (some ⟨g1, o1, none⟩) n c
  | 1, fv, _ => fv = Value.int .i64 ((q : Nat))
  | 2, fv, _ => fv = Value.pointer (some ⟨g1, o1 + q * 34, none⟩)
  | 3, fv, _ => fv = ndV p
  | 4, fv, _ => fv = ndV y
  | 5, fv, _ => fv = prV (p, y)
  | 6, fv, fw => OwnQ fw M fv [(p, y)]
  | 7, fv, _ => fv = ndV nd
  | 8, fv, _ => fv = Value.int .i64 ((i : Nat))
  | 9, fv, _ => fv = Value.int .i64 ((k : Nat))
  | 10, fv, _ => fv = Value.int .i64 ((i2 : Nat))
  | 11, fv, _ => fv = Value.int .i64 ((m : Nat))
  | 12, fv, _ => fv = Value.int .i64 ((k : Nat))
  | 13, fv, _ => fv = Value.int .i64 ((m2 : Nat))
  | 14, fv, _ => fv = Value.slice (some ⟨g1, o1, none⟩) n c
  | 15, fv, _ => fv = Value.int .i64 ((q : Nat))
  | 16, fv, _ => fv = Value.slice (some ⟨g1, o1, none⟩) q c
  | 17, fv, fw => OwnQ fw M fv SD
  | 18, fv, fw => OwnQ fw M fv ((p, y) :: SD)
  | 19, fv, fw => OwnQ fw M fv ((p, y) :: SD)
  | _, _, _ => True
theorem wS11_below {M : Nat} {nd : Nd} {y : Nd} {p : Nd} {SD : NdPairs} {i : Nat} {k : Nat} {i2 : Nat} {m : Nat} {m2 : Nat} {q : Nat} {g1 : Nat} {o1 : Nat} {n : Nat} {c : Nat} {w w' : World} (hb : Below w.heap.size w w') : ∀ j v, wS11 M nd y p SD i k i2 m m2 q g1 o1 n c j v w → wS11 M nd y p SD i k i2 m m2 q g1 o1 n c j v w'
  | 0, v, h => h
  | 1, v, h => h
  | 2, v, h => h
  | 3, v, h => h
  | 4, v, h => h
  | 5, v, h => h
  | 6, v, h => h.below hb
  | 7, v, h => h
  | 8, v, h => h
  | 9, v, h => h
  | 10, v, h => h
  | 11, v, h => h
  | 12, v, h => h
  | 13, v, h => h
  | 14, v, h => h
  | 15, v, h => h
  | 16, v, h => h
  | 17, v, h => h.below hb
  | 18, v, h => h.below hb
  | 19, v, h => h.below hb
  | n + 20, v, h => trivial
theorem wS11_pure {M : Nat} {nd : Nd} {y : Nd} {p : Nd} {SD : NdPairs} {i : Nat} {k : Nat} {i2 : Nat} {m : Nat} {m2 : Nat} {q : Nat} {g1 : Nat} {o1 : Nat} {n : Nat} {c : Nat} {w w' : World} : ∀ j v, j ≠ 6 → j ≠ 17 → j ≠ 18 → j ≠ 19 → wS11 M nd y p SD i k i2 m m2 q g1 o1 n c j v w → wS11 M nd y p SD i k i2 m m2 q g1 o1 n c j v w'
  | 0, v, _, _, _, _, h => h
  | 1, v, _, _, _, _, h => h
  | 2, v, _, _, _, _, h => h
  | 3, v, _, _, _, _, h => h
  | 4, v, _, _, _, _, h => h
  | 5, v, _, _, _, _, h => h
  | 6, v, hh, _, _, _, _ => absurd rfl hh
  | 7, v, _, _, _, _, h => h
  | 8, v, _, _, _, _, h => h
  | 9, v, _, _, _, _, h => h
  | 10, v, _, _, _, _, h => h
  | 11, v, _, _, _, _, h => h
  | 12, v, _, _, _, _, h => h
  | 13, v, _, _, _, _, h => h
  | 14, v, _, _, _, _, h => h
  | 15, v, _, _, _, _, h => h
  | 16, v, _, _, _, _, h => h
  | 17, v, _, hh, _, _, _ => absurd rfl hh
  | 18, v, _, _, hh, _, _ => absurd rfl hh
  | 19, v, _, _, _, hh, _ => absurd rfl hh
  | n + 20, v, _, _, _, _, h => trivial
set_option maxHeartbeats 4000000 in
theorem sides_any : ∀ (f i m : Nat) (nd : Nd) (ps : List Nd) (A : Option Addr) (n c : Nat) (w : World), m ≤ f → 1 ≤ m → m ≤ 4096 → i < m → Hid (ps.length = (dirsN i m).length) → Hid (NdOk nd) → Hid (vN nd = true) → Hid (InN w A n c ps) → Hid (Tabs w) →
    Calls Tryd.prog 21 #[ndV nd, .int .i64 (i : Nat), .int .i64 (m : Nat), .slice A n c] w fun e w' => ∃ v, e = .returned v ∧ OwnQ w' w.heap.size v (sidesQ nd i m ps) ∧ Below w.heap.size w w' := by
  intro f
  induction f with
  | zero => intro i m nd ps A n c w h1 h2; omega
  | succ f ih =>
    intro i m nd ps A n c w hf h1 h4 him HL HN HV HI hT
    obtain ⟨X, HX⟩ : ∃ X, Hid ((ndC nd).toArray = X) := ⟨_, Lib.hid rfl⟩
    have HB0 := Lib.hid ((Below.refl _ w).alloc (Nat.le_refl _) (.cells X 26))
    have HR0 : Hid ((w.alloc (.cells X 26)).heap[w.heap.size]? = some (.cells (ndC nd).toArray 26 (0, 0))) := Lib.hid (by rw [HX.out]; exact heap_alloc_new w _)
    have HLn := Lib.hid HI.out.len
    by_cases hm1 : m = 1
    · have HE : Hid (sidesQ nd i m ps = []) := Lib.hid (by rw [hm1]; exact sidesQ_one nd i ps)
      have d1 : ((m : Int) == 1) = true := by rw [hm1]; rfl
      rw [show ndV nd = .agg X by unfold ndV; rw [HX.out]]
      clear hm1
      go_enter Tryd.func21, Tryd.ntmps21
      go_wp2_with fail
      go_ret
      exact ⟨_, rfl, by rw [HE.out]; exact OwnQ.nil _ _, HB0.out⟩
    · have h2 : 2 ≤ m := by omega
      have d1 : ((m : Int) == 1) = false := beq_false_of_ne (by omega)
      have HD : Hid (1 ≤ (dirsN i m).length) := Lib.hid (by
        by_cases h : i < half m
        · rw [dirsN_left h2 h]; simp
        · rw [dirsN_right h2 h]; simp)
      have hn1 : 1 ≤ n := by rw [← HLn.out, HL.out]; exact HD.out
      have hn2 : n ≤ 4096 := by rw [← HLn.out, HL.out]; have := dirsN_length i m; omega
      have d3 : ((n : Int) == 0) = false := beq_false_of_ne (by omega)
      obtain ⟨g1, o1, rfl, hg1, hr1⟩ := HI.out.rd (by rw [HLn.out]; omega)
      have hcap := HI.out.cap
      obtain ⟨ps', p, HPS⟩ : ∃ a b, Hid (ps = a ++ [b]) := ⟨_, _, Lib.hid (List.dropLast_concat_getLast (fun e => by have := HL.out; rw [e] at this; have h := HD.out; simp at this; omega)).symm⟩
      obtain ⟨q, HQ⟩ : ∃ q, Hid (ps'.length = q) := ⟨_, Lib.hid rfl⟩
      have HNQ : Hid (n = q + 1) := Lib.hid (by rw [← HLn.out, HPS.out, List.length_append, HQ.out]; rfl)
      have hq1 : q < n := by have := HNQ.out; omega
      have w1 : IntKind.i64.wrap ((n : Int) - 1) = (q : Int) := by
        rw [IntWalk.i64_in _ (by omega)]; have := HNQ.out; omega
      have HPO : Hid (NdOk p) := Lib.hid (HI.out.ok p (by rw [HPS.out]; simp))
      have HPSO : Hid (∀ x ∈ ps', NdOk x) := Lib.hid (fun x hx => HI.out.ok x (by rw [HPS.out]; simp [hx]))
      have HIQ : Hid (InN w (some ⟨g1, o1, none⟩) q c ps') := Lib.hid (by
        have h := HI.out.take q (by omega)
        rwa [HPS.out, ← HQ.out, List.take_left'  rfl, HQ.out] at h)
      have HIP : Hid (w.rangeAt g1 (o1 + q * 34) (ndC p) ∧ g1 < w.heap.size) := Lib.hid (by
        have h := HI.out.drop q (by omega)
        rw [HPS.out, ← HQ.out, List.drop_left' rfl, HQ.out] at h
        obtain ⟨g', o', e, hg, hr⟩ := h.rd (by simp)
        cases e
        refine ⟨?_, hg⟩
        have e2 : flatN [p] = ndC p := by simp [flatN]
        rw [← e2]; exact hr)
      clear hg1 hr1
      rw [show ndV nd = .agg X by unfold ndV; rw [HX.out]]
      clear hm1
      have hbd := half_bd h2
      have HH := Lib.hid hbd
      clear hbd
      go_enter Tryd.func21, Tryd.ntmps21
      go_wp2_with fail
      go_loop [9] (fun v => ∃ k : Nat, v = .int .i64 (k : Nat) ∧ 1 ≤ k ∧ k ≤ 1000000 ∧ Hid (∃ f, halfF f k m = half m ∧ 18446744073709551616 ≤ k * 2 ^ f)) (fun v => m - (intOf v).toNat)
      case atStart => exact ⟨1, rfl, by omega, by omega, Lib.hid ⟨64, rfl, by decide⟩⟩
      case round =>
        obtain ⟨k, rfl, hk1, hk2, HF⟩ := hrel
        by_cases hlt : 2 * k < m
        · have e1 : decide (2 * (k : Int) < (m : Int)) = true := decide_eq_true (by omega)
          have HF2 : Hid (∃ f, halfF f (2 * k) m = half m ∧ 18446744073709551616 ≤ 2 * k * 2 ^ f) := Lib.hid (by
            obtain ⟨f, h1, h2⟩ := HF.out
            obtain ⟨g, h3, h4⟩ := half_step hlt (by omega) h2
            exact ⟨g, by rw [← h3]; exact h1, h4⟩)
          go_wp2_with fail
          go_round
          case rel => exact ⟨2 * k, by go_num, by omega, by omega, HF2⟩
          case measure => simp [intOf]; omega
        · have e1 : decide (2 * (k : Int) < (m : Int)) = false := decide_eq_false (by omega)
          have HK : Hid (half m = k) := Lib.hid (by
            obtain ⟨f, h1, _⟩ := HF.out
            rw [← h1]; exact half_end hlt)
          clear HF
          have hkm : k < m := by rw [← HK.out]; exact HH.out.2
          by_cases hik : i < k
          · have e2 : decide ((i : Int) < (k : Int)) = true := decide_eq_true (by omega)
            have e3 : decide (i < k) = true := decide_eq_true hik
            go_wp2_with fail
            generalize w.alloc (.cells X 26) = W1 at *
            obtain ⟨y, HY⟩ : ∃ y, Hid (climbR nd (i : Int) (k : Int) ps' = y) := ⟨_, Lib.hid rfl⟩
            obtain ⟨ee, HEE⟩ : ∃ e, Hid (climbE nd (i : Int) (k : Int) ps' = e) := ⟨_, Lib.hid rfl⟩
            have HYO : Hid (NdOk y) := Lib.hid (by rw [← HY.out]; exact climbR_okN HN.out HPSO.out)
            refine region_flow3 (by kernel_rfl) (by kernel_rfl) (fun i => Nat.beq i 11) (fun i => bif Nat.beq i 11 then 10 else i) (by kernel_rfl) (fun fx => #[Value.agg X, Value.int IntKind.i64 ↑i, Value.int IntKind.i64 ↑m, Value.slice (some { block := g1, off := o1 }) n c, Value.pointer (some { block := w.heap.size, off := 0 }), undef, undef, undef, Value.slice none 0 0, Value.int IntKind.i64 ↑k, Value.int IntKind.i64 ↑q, fx 10, fx 12, undef, undef, Value.int IntKind.i64 ↑m, Value.bool false, Value.bool false, Value.slice (some { block := g1, off := o1 }) n c, Value.int IntKind.i64 ↑n, Value.bool false, Value.bool false, Value.int IntKind.i64 ↑k, Value.int IntKind.i64 (2 * ↑k), Value.int IntKind.i64 ↑m, Value.bool false, u26, u27, Value.slice (some { block := g1, off := o1 }) n c, Value.int IntKind.i64 ↑n, Value.int IntKind.i64 ↑q, Value.int IntKind.i64 ↑i, Value.int IntKind.i64 ↑k, Value.bool true, fx 7, fx 0, fx 1, fx 2, fx 3, fx 4, fx 5, fx 6, fx 8, fx 9, undef, undef, undef, undef, undef, undef, undef, undef, undef, undef, undef, undef, undef, undef, undef, undef, undef, undef, undef, undef, undef, undef, undef, undef, undef, undef, undef, undef, undef, undef, undef, undef, undef, undef, undef, undef, undef, undef, undef, undef, undef, undef, undef, undef, undef, undef, undef, undef]) (fun _ => undef) (fun L fx w' => Below W1.heap.size W1 w' ∧ (L 10 = true → L 11 = false → NewN W1.heap.size (fx 10) w')) (fun fi fv fu fw => wS8 W1.heap.size nd y ee i k q g1 o1 n c fi fv fu fw) ⟨(Below.refl _ _).drew, fun h => by cases h⟩ ?_ ?_
            · refine ⟨?_, ?_, ?_, ?_, ?_, ?_, ?_, ?_, ?_, ?_, ?_, ?_, ?_, trivial⟩
              all_goals intro L fx w' hC hi hcl hdn hd
              · have hrow := row_kept HR0.out hC.1
                refine wpList_load_row rfl 26 (.tmp 4) rfl w.heap.size rfl 26 _ (0, 0) _ hrow Tryd.underlying26 rfl (size34' HN.out) ?_
                clear hd
                go_wp2_with fail
                exact ⟨_, rfl, ⟨hC.1, fun h h2 => hC.2 h h2⟩, rfl, fun _ _ _ _ _ h => h⟩
              · go_wp2_with fail
                exact ⟨_, rfl, ⟨hC.1, fun h h2 => hC.2 h h2⟩, rfl, fun _ _ _ _ _ h => h⟩
              · go_wp2_with fail
                exact ⟨_, rfl, ⟨hC.1, fun h h2 => hC.2 h h2⟩, rfl, fun _ _ _ _ _ h => h⟩
              · go_wp2_with fail
                exact ⟨_, rfl, ⟨hC.1, fun h h2 => hC.2 h h2⟩, rfl, fun _ _ _ _ _ h => h⟩
              · go_wp2_with fail
                exact ⟨_, rfl, ⟨hC.1, fun h h2 => hC.2 h h2⟩, rfl, fun _ _ _ _ _ h => h⟩
              · have h3 : fx 3 = Value.slice (some ⟨g1, o1, none⟩) n c := hd.1 rfl
                have h4 : fx 4 = Value.int .i64 ((q : Nat)) := hd.2.1 rfl
                go_wp2_with fail
                exact ⟨_, by show _ = Act.mk #[Value.agg X, Value.int IntKind.i64 ↑i, Value.int IntKind.i64 ↑m, Value.slice (some { block := g1, off := o1 }) n c, Value.pointer (some { block := w.heap.size, off := 0 }), undef, undef, undef, Value.slice none 0 0, Value.int IntKind.i64 ↑k, Value.int IntKind.i64 ↑q, fx 10, fx 12, undef, undef, Value.int IntKind.i64 ↑m, Value.bool false, Value.bool false, Value.slice (some { block := g1, off := o1 }) n c, Value.int IntKind.i64 ↑n, Value.bool false, Value.bool false, Value.int IntKind.i64 ↑k, Value.int IntKind.i64 (2 * ↑k), Value.int IntKind.i64 ↑m, Value.bool false, u26, u27, Value.slice (some { block := g1, off := o1 }) n c, Value.int IntKind.i64 ↑n, Value.int IntKind.i64 ↑q, Value.int IntKind.i64 ↑i, Value.int IntKind.i64 ↑k, Value.bool true, fx 7, fx 0, fx 1, fx 2, fx 3, fx 4, Value.slice (some ⟨g1, o1, none⟩) q c, fx 6, fx 8, fx 9, undef, undef, undef, undef, undef, undef, undef, undef, undef, undef, undef, undef, undef, undef, undef, undef, undef, undef, undef, undef, undef, undef, undef, undef, undef, undef, undef, undef, undef, undef, undef, undef, undef, undef, undef, undef, undef, undef, undef, undef, undef, undef, undef, undef, undef, undef, undef, undef] []; rw [h3, h4] <;> rfl, ⟨hC.1, fun h h2 => hC.2 h h2⟩, rfl, fun _ _ _ _ _ h => h⟩
              · have h0 : fx 0 = ndV nd := hd.1 rfl
                have h1 : fx 1 = Value.int .i64 ((i : Nat)) := hd.2.1 rfl
                have h2 : fx 2 = Value.int .i64 ((k : Nat)) := hd.2.2.1 rfl
                have h5 : fx 5 = Value.slice (some ⟨g1, o1, none⟩) q c := hd.2.2.2.1 rfl
                have HTk := Lib.hid (hT.out.below (HB0.out.trans (hC.1.mono HB0.out.size)))
                have HIk := Lib.hid ((HIQ.out.below HB0.out).below hC.1)
                go_wp2_with fail
                refine (climb_any nd (i : Int) (k : Int) ps' _ q c w' HN.out (by omega) (by omega) (by omega) HIk HTk).mono ?_
                rintro e w2 ⟨rfl, hq⟩
                rw [HY.out, HEE.out]
                go_wp2_with fail
                exact ⟨_, by show _ = Act.mk #[Value.agg X, Value.int IntKind.i64 ↑i, Value.int IntKind.i64 ↑m, Value.slice (some { block := g1, off := o1 }) n c, Value.pointer (some { block := w.heap.size, off := 0 }), undef, undef, undef, Value.slice none 0 0, Value.int IntKind.i64 ↑k, Value.int IntKind.i64 ↑q, fx 10, fx 12, undef, undef, Value.int IntKind.i64 ↑m, Value.bool false, Value.bool false, Value.slice (some { block := g1, off := o1 }) n c, Value.int IntKind.i64 ↑n, Value.bool false, Value.bool false, Value.int IntKind.i64 ↑k, Value.int IntKind.i64 (2 * ↑k), Value.int IntKind.i64 ↑m, Value.bool false, u26, u27, Value.slice (some { block := g1, off := o1 }) n c, Value.int IntKind.i64 ↑n, Value.int IntKind.i64 ↑q, Value.int IntKind.i64 ↑i, Value.int IntKind.i64 ↑k, Value.bool true, fx 7, fx 0, fx 1, fx 2, fx 3, fx 4, fx 5, Value.tuple #[ndV y, .int .i64 ee], fx 8, fx 9, undef, undef, undef, undef, undef, undef, undef, undef, undef, undef, undef, undef, undef, undef, undef, undef, undef, undef, undef, undef, undef, undef, undef, undef, undef, undef, undef, undef, undef, undef, undef, undef, undef, undef, undef, undef, undef, undef, undef, undef, undef, undef, undef, undef, undef, undef, undef, undef] []; rw [h0, h1, h2, h5] <;> rfl, ⟨hC.1.trans (hq.mono hC.1.size), fun h h2 => (hC.2 h h2).below hq⟩, rfl, fun j v t _ _ h => wS8_below hq j v t h⟩
              · have h6 : fx 6 = Value.tuple #[ndV y, .int .i64 ee] := hd.1 rfl
                go_wp2_with fail
                exact ⟨_, by show _ = Act.mk #[Value.agg X, Value.int IntKind.i64 ↑i, Value.int IntKind.i64 ↑m, Value.slice (some { block := g1, off := o1 }) n c, Value.pointer (some { block := w.heap.size, off := 0 }), undef, undef, undef, Value.slice none 0 0, Value.int IntKind.i64 ↑k, Value.int IntKind.i64 ↑q, fx 10, fx 12, undef, undef, Value.int IntKind.i64 ↑m, Value.bool false, Value.bool false, Value.slice (some { block := g1, off := o1 }) n c, Value.int IntKind.i64 ↑n, Value.bool false, Value.bool false, Value.int IntKind.i64 ↑k, Value.int IntKind.i64 (2 * ↑k), Value.int IntKind.i64 ↑m, Value.bool false, u26, u27, Value.slice (some { block := g1, off := o1 }) n c, Value.int IntKind.i64 ↑n, Value.int IntKind.i64 ↑q, Value.int IntKind.i64 ↑i, Value.int IntKind.i64 ↑k, Value.bool true, Value.tuple #[ndV y, .int .i64 ee], fx 0, fx 1, fx 2, fx 3, fx 4, fx 5, fx 6, fx 8, fx 9, undef, undef, undef, undef, undef, undef, undef, undef, undef, undef, undef, undef, undef, undef, undef, undef, undef, undef, undef, undef, undef, undef, undef, undef, undef, undef, undef, undef, undef, undef, undef, undef, undef, undef, undef, undef, undef, undef, undef, undef, undef, undef, undef, undef, undef, undef, undef, undef] []; rw [h6] <;> rfl, ⟨hC.1, fun h h2 => hC.2 h h2⟩, rfl, fun _ _ _ _ _ h => h⟩
              · have h7 : fx 7 = Value.tuple #[ndV y, .int .i64 ee] := hd.1 rfl
                go_wp2_with fail
                exact ⟨_, by show _ = Act.mk #[Value.agg X, Value.int IntKind.i64 ↑i, Value.int IntKind.i64 ↑m, Value.slice (some { block := g1, off := o1 }) n c, Value.pointer (some { block := w.heap.size, off := 0 }), undef, undef, undef, Value.slice none 0 0, Value.int IntKind.i64 ↑k, Value.int IntKind.i64 ↑q, fx 10, fx 12, undef, undef, Value.int IntKind.i64 ↑m, Value.bool false, Value.bool false, Value.slice (some { block := g1, off := o1 }) n c, Value.int IntKind.i64 ↑n, Value.bool false, Value.bool false, Value.int IntKind.i64 ↑k, Value.int IntKind.i64 (2 * ↑k), Value.int IntKind.i64 ↑m, Value.bool false, u26, u27, Value.slice (some { block := g1, off := o1 }) n c, Value.int IntKind.i64 ↑n, Value.int IntKind.i64 ↑q, Value.int IntKind.i64 ↑i, Value.int IntKind.i64 ↑k, Value.bool true, fx 7, fx 0, fx 1, fx 2, fx 3, fx 4, fx 5, fx 6, ndV y, fx 9, undef, undef, undef, undef, undef, undef, undef, undef, undef, undef, undef, undef, undef, undef, undef, undef, undef, undef, undef, undef, undef, undef, undef, undef, undef, undef, undef, undef, undef, undef, undef, undef, undef, undef, undef, undef, undef, undef, undef, undef, undef, undef, undef, undef, undef, undef, undef, undef] []; rw [h7] <;> rfl, ⟨hC.1, fun h h2 => hC.2 h h2⟩, rfl, fun _ _ _ _ _ h => h⟩
              · have h7 : fx 7 = Value.tuple #[ndV y, .int .i64 ee] := hd.1 rfl
                go_wp2_with fail
                exact ⟨_, by show _ = Act.mk #[Value.agg X, Value.int IntKind.i64 ↑i, Value.int IntKind.i64 ↑m, Value.slice (some { block := g1, off := o1 }) n c, Value.pointer (some { block := w.heap.size, off := 0 }), undef, undef, undef, Value.slice none 0 0, Value.int IntKind.i64 ↑k, Value.int IntKind.i64 ↑q, fx 10, fx 12, undef, undef, Value.int IntKind.i64 ↑m, Value.bool false, Value.bool false, Value.slice (some { block := g1, off := o1 }) n c, Value.int IntKind.i64 ↑n, Value.bool false, Value.bool false, Value.int IntKind.i64 ↑k, Value.int IntKind.i64 (2 * ↑k), Value.int IntKind.i64 ↑m, Value.bool false, u26, u27, Value.slice (some { block := g1, off := o1 }) n c, Value.int IntKind.i64 ↑n, Value.int IntKind.i64 ↑q, Value.int IntKind.i64 ↑i, Value.int IntKind.i64 ↑k, Value.bool true, fx 7, fx 0, fx 1, fx 2, fx 3, fx 4, fx 5, fx 6, fx 8, Value.int .i64 (ee), undef, undef, undef, undef, undef, undef, undef, undef, undef, undef, undef, undef, undef, undef, undef, undef, undef, undef, undef, undef, undef, undef, undef, undef, undef, undef, undef, undef, undef, undef, undef, undef, undef, undef, undef, undef, undef, undef, undef, undef, undef, undef, undef, undef, undef, undef, undef, undef] []; rw [h7] <;> rfl, ⟨hC.1, fun h h2 => hC.2 h h2⟩, rfl, fun _ _ _ _ _ h => h⟩
              · go_wp2_with fail
                rw [← zeroN_cells]
                have hbb : Below w'.heap.size w' (w'.alloc (.cells (ndC zeroN).toArray 26)) := (Below.refl _ _).alloc (Nat.le_refl _) _
                exact ⟨_, rfl, ⟨hC.1.trans (hbb.mono hC.1.size), fun _ _ => ⟨_, rfl, hC.1.size, heap_alloc_new _ _⟩⟩, trivial, fun j v t _ _ h => wS8_below hbb j v t h⟩
              · have H10 := Lib.hid (hd.1 rfl)
                have h8 : fx 8 = ndV y := hd.2.1 rfl
                obtain ⟨z, h10, hq, hrow⟩ := hC.2 (hdn 10 (by kernel_rfl)) hi
                refine wpList_store_row rfl 26 (.tmp 11) (.tmp 42) rfl z (ndC y).toArray h10 h8 26 _ hrow (size34' HYO.out) (by simp [ndC_length HYO.out, ndC_length zeroN_ok]) (ndC_one _) ?_
                clear hd
                go_wp2_with fail
                exact ⟨undef, by show _ = Act.mk #[Value.agg X, Value.int IntKind.i64 ↑i, Value.int IntKind.i64 ↑m, Value.slice (some { block := g1, off := o1 }) n c, Value.pointer (some { block := w.heap.size, off := 0 }), undef, undef, undef, Value.slice none 0 0, Value.int IntKind.i64 ↑k, Value.int IntKind.i64 ↑q, fx 10, fx 12, undef, undef, Value.int IntKind.i64 ↑m, Value.bool false, Value.bool false, Value.slice (some { block := g1, off := o1 }) n c, Value.int IntKind.i64 ↑n, Value.bool false, Value.bool false, Value.int IntKind.i64 ↑k, Value.int IntKind.i64 (2 * ↑k), Value.int IntKind.i64 ↑m, Value.bool false, u26, u27, Value.slice (some { block := g1, off := o1 }) n c, Value.int IntKind.i64 ↑n, Value.int IntKind.i64 ↑q, Value.int IntKind.i64 ↑i, Value.int IntKind.i64 ↑k, Value.bool true, fx 7, fx 0, fx 1, fx 2, fx 3, fx 4, fx 5, fx 6, fx 8, fx 9, undef, undef, undef, undef, undef, undef, undef, undef, undef, undef, undef, undef, undef, undef, undef, undef, undef, undef, undef, undef, undef, undef, undef, undef, undef, undef, undef, undef, undef, undef, undef, undef, undef, undef, undef, undef, undef, undef, undef, undef, undef, undef, undef, undef, undef, undef, undef, undef] []; rw [h8, h10] <;> rfl, ⟨below_setRow hC.1 hq _, fun _ h => (updB_self h).elim⟩, ⟨z, h10, hq, setRow_heap _ _ _ _ _ _ hrow⟩, fun j v t hj _ h => by
                  by_cases e : j = 10
                  · subst e; trivial
                  · exact wS8_pure j v t e (fun e => by subst e; rw [hi] at hj; cases hj) h⟩
              · have h9 : fx 9 = Value.int .i64 (ee) := hd.1 rfl
                go_wp2_with fail
                exact ⟨_, by show _ = Act.mk #[Value.agg X, Value.int IntKind.i64 ↑i, Value.int IntKind.i64 ↑m, Value.slice (some { block := g1, off := o1 }) n c, Value.pointer (some { block := w.heap.size, off := 0 }), undef, undef, undef, Value.slice none 0 0, Value.int IntKind.i64 ↑k, Value.int IntKind.i64 ↑q, fx 10, Value.int .i64 (ee), undef, undef, Value.int IntKind.i64 ↑m, Value.bool false, Value.bool false, Value.slice (some { block := g1, off := o1 }) n c, Value.int IntKind.i64 ↑n, Value.bool false, Value.bool false, Value.int IntKind.i64 ↑k, Value.int IntKind.i64 (2 * ↑k), Value.int IntKind.i64 ↑m, Value.bool false, u26, u27, Value.slice (some { block := g1, off := o1 }) n c, Value.int IntKind.i64 ↑n, Value.int IntKind.i64 ↑q, Value.int IntKind.i64 ↑i, Value.int IntKind.i64 ↑k, Value.bool true, fx 7, fx 0, fx 1, fx 2, fx 3, fx 4, fx 5, fx 6, fx 8, fx 9, undef, undef, undef, undef, undef, undef, undef, undef, undef, undef, undef, undef, undef, undef, undef, undef, undef, undef, undef, undef, undef, undef, undef, undef, undef, undef, undef, undef, undef, undef, undef, undef, undef, undef, undef, undef, undef, undef, undef, undef, undef, undef, undef, undef, undef, undef, undef, undef] []; rw [h9] <;> rfl, ⟨hC.1, fun h h2 => hC.2 h h2⟩, rfl, fun _ _ _ _ _ h => h⟩
            · intro L fo w' hC hS
              have H11 := Lib.hid (hS 11 (by decide) rfl)
              obtain ⟨z1, e1, hz1, hrz⟩ := H11.out
              have HB1 := Lib.hid hC.1
              have HRZ := Lib.hid hrz
              have HZB := Lib.hid hz1
              have HR1 := Lib.hid (row_kept HR0.out hC.1)
              replace e1 : fo 10 = _ := e1
              rw [e1]
              clear hS hC H11 hrz hz1 e1
              obtain ⟨W2, HW2⟩ : ∃ W, W = w' := ⟨_, rfl⟩
              subst HW2
              have HB2 := Lib.hid (HB0.out.trans (HB1.out.mono HB0.out.size))
              have HIQ2 := Lib.hid ((HIQ.out.below HB0.out).below HB1.out)
              have HIP2 : Hid (W2.rangeAt g1 (o1 + q * 34) (ndC p) ∧ g1 < W2.heap.size) := Lib.hid ⟨rangeAt_below HIP.out.1 HIP.out.2 HB2.out, Nat.lt_of_lt_of_le HIP.out.2 HB2.out.size⟩
              have HPR : Hid (PrOk (y, p)) := Lib.hid ⟨HYO.out, HPO.out⟩
              obtain ⟨SD, HSD⟩ : ∃ l, Hid (sidesQ nd i k ps' = l) := ⟨_, Lib.hid rfl⟩
              have HSDO : Hid (∀ x ∈ SD, PrOk x) := Lib.hid (by rw [← HSD.out]; exact sidesQ_ok HN.out HPSO.out)
              have HSDL : Hid (SD.length ≤ 100000) := Lib.hid (by rw [← HSD.out, sidesQ_length]; have := dirsN_length i k; omega)
              have hh : i < half m := by rw [HK.out]; exact hik
              have HLQ : Hid (ps'.length = (dirsN i k).length) := Lib.hid (by
                have h := HL.out
                rw [dirsN_left h2 hh, HPS.out, HK.out] at h
                simpa using h)
              have HFIN : Hid (sidesQ nd i m ps = (y, p) :: SD) := Lib.hid (by
                rw [HPS.out, sidesQ_left HV.out h2 h4 hh (by rw [HK.out]; exact HLQ.out), HK.out, HY.out, HSD.out])
              clear hh
              clear HB1 HZB HY HEE
              go_wp2_with fail
              refine region_flow3 (by kernel_rfl) (by kernel_rfl) (fun i => Nat.beq i 15) (fun i => i) (by kernel_rfl) (fun fx => #[Value.agg X, Value.int IntKind.i64 ↑i, Value.int IntKind.i64 ↑m, Value.slice (some { block := g1, off := o1 }) n c, Value.pointer (some { block := w.heap.size, off := 0 }), undef, undef, undef, fx 15, Value.int IntKind.i64 ↑k, Value.int IntKind.i64 ↑q, Value.pointer (some { block := z1, off := 0 }), fo 12, undef, undef, Value.int IntKind.i64 ↑m, Value.bool false, Value.bool false, Value.slice (some { block := g1, off := o1 }) n c, Value.int IntKind.i64 ↑n, Value.bool false, Value.bool false, Value.int IntKind.i64 ↑k, Value.int IntKind.i64 (2 * ↑k), Value.int IntKind.i64 ↑m, Value.bool false, u26, u27, Value.slice (some { block := g1, off := o1 }) n c, Value.int IntKind.i64 ↑n, Value.int IntKind.i64 ↑q, Value.int IntKind.i64 ↑i, Value.int IntKind.i64 ↑k, Value.bool true, fo 7, fo 0, fo 1, fo 2, fo 3, fo 4, fo 5, fo 6, fo 8, fo 9, fx 0, fx 1, fx 2, fx 3, fx 4, fx 5, fx 6, fx 7, fx 8, fx 9, fx 10, fx 11, fx 12, fx 13, fx 14, undef, undef, undef, undef, undef, undef, undef, undef, undef, undef, undef, undef, undef, undef, undef, undef, undef, undef, undef, undef, undef, undef, undef, undef, undef, undef, undef, undef, undef, undef, undef, undef, undef]) (fun i => bif Nat.beq i 15 then Value.slice none 0 0 else undef) (fun L fx w' => Below W2.heap.size W2 w') (fun fi fv _ fw => wS9 W2.heap.size nd y p SD i k q g1 o1 n c fi fv fw) (Below.refl _ _).drew ?_ ?_
              · refine ⟨?_, ?_, ?_, ?_, ?_, ?_, ?_, ?_, ?_, ?_, ?_, ?_, ?_, ?_, ?_, ?_, trivial⟩
                all_goals intro L fx w' hC hi hcl hdn hd
                · have hrow := row_kept HRZ.out hC
                  refine wpList_load_row rfl 26 (.tmp 11) rfl z1 rfl 26 _ (0, 0) _ hrow Tryd.underlying26 rfl (size34' HYO.out) ?_
                  clear hd
                  go_wp2_with fail
                  exact ⟨_, rfl, hC, rfl, fun _ _ _ _ _ h => h⟩
                · go_wp2_with fail
                  exact ⟨_, rfl, hC, rfl, fun _ _ _ _ _ h => h⟩
                · go_wp2_with fail
                  exact ⟨_, rfl, hC, rfl, fun _ _ _ _ _ h => h⟩
                · have h1 : fx 1 = Value.slice (some ⟨g1, o1, none⟩) n c := hd.1 rfl
                  have h2 : fx 2 = Value.int .i64 ((q : Nat)) := hd.2.1 rfl
                  go_wp2_with fail
                  exact ⟨_, by show _ = Act.mk #[Value.agg X, Value.int IntKind.i64 ↑i, Value.int IntKind.i64 ↑m, Value.slice (some { block := g1, off := o1 }) n c, Value.pointer (some { block := w.heap.size, off := 0 }), undef, undef, undef, fx 15, Value.int IntKind.i64 ↑k, Value.int IntKind.i64 ↑q, Value.pointer (some { block := z1, off := 0 }), fo 12, undef, undef, Value.int IntKind.i64 ↑m, Value.bool false, Value.bool false, Value.slice (some { block := g1, off := o1 }) n c, Value.int IntKind.i64 ↑n, Value.bool false, Value.bool false, Value.int IntKind.i64 ↑k, Value.int IntKind.i64 (2 * ↑k), Value.int IntKind.i64 ↑m, Value.bool false, u26, u27, Value.slice (some { block := g1, off := o1 }) n c, Value.int IntKind.i64 ↑n, Value.int IntKind.i64 ↑q, Value.int IntKind.i64 ↑i, Value.int IntKind.i64 ↑k, Value.bool true, fo 7, fo 0, fo 1, fo 2, fo 3, fo 4, fo 5, fo 6, fo 8, fo 9, fx 0, fx 1, fx 2, Value.pointer (some ⟨g1, o1 + q * 34, none⟩), fx 4, fx 5, fx 6, fx 7, fx 8, fx 9, fx 10, fx 11, fx 12, fx 13, fx 14, undef, undef, undef, undef, undef, undef, undef, undef, undef, undef, undef, undef, undef, undef, undef, undef, undef, undef, undef, undef, undef, undef, undef, undef, undef, undef, undef, undef, undef, undef, undef, undef, undef] []; rw [h1, h2] <;> rfl, hC, rfl, fun _ _ _ _ _ h => h⟩
                · have h3 : fx 3 = Value.pointer (some ⟨g1, o1 + q * 34, none⟩) := hd.1 rfl
                  have hrg := rangeAt_below HIP2.out.1 HIP2.out.2 hC
                  refine wpList_load_mid rfl 26 (.tmp 47) rfl g1 (o1 + q * 34) h3 (ndC p) _ hrg Tryd.underlying26 rfl (size34 HPO.out) ?_
                  clear hd
                  go_wp2_with fail
                  exact ⟨_, by show _ = Act.mk #[Value.agg X, Value.int IntKind.i64 ↑i, Value.int IntKind.i64 ↑m, Value.slice (some { block := g1, off := o1 }) n c, Value.pointer (some { block := w.heap.size, off := 0 }), undef, undef, undef, fx 15, Value.int IntKind.i64 ↑k, Value.int IntKind.i64 ↑q, Value.pointer (some { block := z1, off := 0 }), fo 12, undef, undef, Value.int IntKind.i64 ↑m, Value.bool false, Value.bool false, Value.slice (some { block := g1, off := o1 }) n c, Value.int IntKind.i64 ↑n, Value.bool false, Value.bool false, Value.int IntKind.i64 ↑k, Value.int IntKind.i64 (2 * ↑k), Value.int IntKind.i64 ↑m, Value.bool false, u26, u27, Value.slice (some { block := g1, off := o1 }) n c, Value.int IntKind.i64 ↑n, Value.int IntKind.i64 ↑q, Value.int IntKind.i64 ↑i, Value.int IntKind.i64 ↑k, Value.bool true, fo 7, fo 0, fo 1, fo 2, fo 3, fo 4, fo 5, fo 6, fo 8, fo 9, fx 0, fx 1, fx 2, fx 3, ndV p, fx 5, fx 6, fx 7, fx 8, fx 9, fx 10, fx 11, fx 12, fx 13, fx 14, undef, undef, undef, undef, undef, undef, undef, undef, undef, undef, undef, undef, undef, undef, undef, undef, undef, undef, undef, undef, undef, undef, undef, undef, undef, undef, undef, undef, undef, undef, undef, undef, undef] []; rw [h3] <;> rfl, hC, rfl, fun _ _ _ _ _ h => h⟩
                · have h0 : fx 0 = ndV y := hd.1 rfl
                  have h4 : fx 4 = ndV p := hd.2.1 rfl
                  refine wpList_build_pair rfl (.tmp 44) (.tmp 48) rfl y p HYO.out HPO.out h0 h4 ?_
                  clear hd
                  go_wp2_with fail
                  exact ⟨_, by show _ = Act.mk #[Value.agg X, Value.int IntKind.i64 ↑i, Value.int IntKind.i64 ↑m, Value.slice (some { block := g1, off := o1 }) n c, Value.pointer (some { block := w.heap.size, off := 0 }), undef, undef, undef, fx 15, Value.int IntKind.i64 ↑k, Value.int IntKind.i64 ↑q, Value.pointer (some { block := z1, off := 0 }), fo 12, undef, undef, Value.int IntKind.i64 ↑m, Value.bool false, Value.bool false, Value.slice (some { block := g1, off := o1 }) n c, Value.int IntKind.i64 ↑n, Value.bool false, Value.bool false, Value.int IntKind.i64 ↑k, Value.int IntKind.i64 (2 * ↑k), Value.int IntKind.i64 ↑m, Value.bool false, u26, u27, Value.slice (some { block := g1, off := o1 }) n c, Value.int IntKind.i64 ↑n, Value.int IntKind.i64 ↑q, Value.int IntKind.i64 ↑i, Value.int IntKind.i64 ↑k, Value.bool true, fo 7, fo 0, fo 1, fo 2, fo 3, fo 4, fo 5, fo 6, fo 8, fo 9, fx 0, fx 1, fx 2, fx 3, fx 4, prV (y, p), fx 6, fx 7, fx 8, fx 9, fx 10, fx 11, fx 12, fx 13, fx 14, undef, undef, undef, undef, undef, undef, undef, undef, undef, undef, undef, undef, undef, undef, undef, undef, undef, undef, undef, undef, undef, undef, undef, undef, undef, undef, undef, undef, undef, undef, undef, undef, undef] []; rw [h0, h4] <;> rfl, hC, rfl, fun _ _ _ _ _ h => h⟩
                · have h5 : fx 5 = prV (y, p) := hd.1 rfl
                  refine wpList_build_pairs1 rfl (.tmp 49) rfl (y, p) h5 HPR.out ?_
                  have hbb : Below w'.heap.size w' (w'.alloc (.cells (flatQ [(y, p)]).toArray 41)) := (Below.refl _ _).alloc (Nat.le_refl _) _
                  clear hd
                  go_wp2_with fail
                  exact ⟨_, by show _ = Act.mk #[Value.agg X, Value.int IntKind.i64 ↑i, Value.int IntKind.i64 ↑m, Value.slice (some { block := g1, off := o1 }) n c, Value.pointer (some { block := w.heap.size, off := 0 }), undef, undef, undef, fx 15, Value.int IntKind.i64 ↑k, Value.int IntKind.i64 ↑q, Value.pointer (some { block := z1, off := 0 }), fo 12, undef, undef, Value.int IntKind.i64 ↑m, Value.bool false, Value.bool false, Value.slice (some { block := g1, off := o1 }) n c, Value.int IntKind.i64 ↑n, Value.bool false, Value.bool false, Value.int IntKind.i64 ↑k, Value.int IntKind.i64 (2 * ↑k), Value.int IntKind.i64 ↑m, Value.bool false, u26, u27, Value.slice (some { block := g1, off := o1 }) n c, Value.int IntKind.i64 ↑n, Value.int IntKind.i64 ↑q, Value.int IntKind.i64 ↑i, Value.int IntKind.i64 ↑k, Value.bool true, fo 7, fo 0, fo 1, fo 2, fo 3, fo 4, fo 5, fo 6, fo 8, fo 9, fx 0, fx 1, fx 2, fx 3, fx 4, fx 5, Value.slice (some ⟨w'.heap.size, 0, none⟩) 1 1, fx 7, fx 8, fx 9, fx 10, fx 11, fx 12, fx 13, fx 14, undef, undef, undef, undef, undef, undef, undef, undef, undef, undef, undef, undef, undef, undef, undef, undef, undef, undef, undef, undef, undef, undef, undef, undef, undef, undef, undef, undef, undef, undef, undef, undef, undef] []; rw [h5] <;> rfl, hC.trans (hbb.mono hC.size), OwnQ.one HPR.out (heap_alloc_new _ _) hC.size, fun j v t _ _ h => wS9_below hbb j v h⟩
                · have hrow := row_kept HR1.out hC
                  refine wpList_load_row rfl 26 (.tmp 4) rfl w.heap.size rfl 26 _ (0, 0) _ hrow Tryd.underlying26 rfl (size34' HN.out) ?_
                  clear hd
                  go_wp2_with fail
                  exact ⟨_, rfl, hC, rfl, fun _ _ _ _ _ h => h⟩
                · go_wp2_with fail
                  exact ⟨_, rfl, hC, rfl, fun _ _ _ _ _ h => h⟩
                · go_wp2_with fail
                  exact ⟨_, rfl, hC, rfl, fun _ _ _ _ _ h => h⟩
                · go_wp2_with fail
                  exact ⟨_, rfl, hC, rfl, fun _ _ _ _ _ h => h⟩
                · go_wp2_with fail
                  exact ⟨_, rfl, hC, rfl, fun _ _ _ _ _ h => h⟩
                · have h10 : fx 10 = Value.slice (some ⟨g1, o1, none⟩) n c := hd.1 rfl
                  have h11 : fx 11 = Value.int .i64 ((q : Nat)) := hd.2.1 rfl
                  go_wp2_with fail
                  exact ⟨_, by show _ = Act.mk #[Value.agg X, Value.int IntKind.i64 ↑i, Value.int IntKind.i64 ↑m, Value.slice (some { block := g1, off := o1 }) n c, Value.pointer (some { block := w.heap.size, off := 0 }), undef, undef, undef, fx 15, Value.int IntKind.i64 ↑k, Value.int IntKind.i64 ↑q, Value.pointer (some { block := z1, off := 0 }), fo 12, undef, undef, Value.int IntKind.i64 ↑m, Value.bool false, Value.bool false, Value.slice (some { block := g1, off := o1 }) n c, Value.int IntKind.i64 ↑n, Value.bool false, Value.bool false, Value.int IntKind.i64 ↑k, Value.int IntKind.i64 (2 * ↑k), Value.int IntKind.i64 ↑m, Value.bool false, u26, u27, Value.slice (some { block := g1, off := o1 }) n c, Value.int IntKind.i64 ↑n, Value.int IntKind.i64 ↑q, Value.int IntKind.i64 ↑i, Value.int IntKind.i64 ↑k, Value.bool true, fo 7, fo 0, fo 1, fo 2, fo 3, fo 4, fo 5, fo 6, fo 8, fo 9, fx 0, fx 1, fx 2, fx 3, fx 4, fx 5, fx 6, fx 7, fx 8, fx 9, fx 10, fx 11, Value.slice (some ⟨g1, o1, none⟩) q c, fx 13, fx 14, undef, undef, undef, undef, undef, undef, undef, undef, undef, undef, undef, undef, undef, undef, undef, undef, undef, undef, undef, undef, undef, undef, undef, undef, undef, undef, undef, undef, undef, undef, undef, undef, undef] []; rw [h10, h11] <;> rfl, hC, rfl, fun _ _ _ _ _ h => h⟩
                · have h7 : fx 7 = ndV nd := hd.1 rfl
                  have h8 : fx 8 = Value.int .i64 ((i : Nat)) := hd.2.1 rfl
                  have h9 : fx 9 = Value.int .i64 ((k : Nat)) := hd.2.2.1 rfl
                  have h12 : fx 12 = Value.slice (some ⟨g1, o1, none⟩) q c := hd.2.2.2.1 rfl
                  have HTk := Lib.hid (hT.out.below (HB2.out.trans (hC.mono HB2.out.size)))
                  have HIk := Lib.hid (HIQ2.out.below hC)
                  go_wp2_with fail
                  refine (ih i k nd ps' _ q c w' (by omega) (by omega) (by omega) (by omega) HLQ HN HV HIk HTk).mono ?_
                  rintro e w3 ⟨v2, rfl, ho, hq⟩
                  rw [HSD.out] at ho
                  have HOV := Lib.hid ho
                  clear ho
                  go_wp2_with fail
                  exact ⟨v2, by show _ = Act.mk #[Value.agg X, Value.int IntKind.i64 ↑i, Value.int IntKind.i64 ↑m, Value.slice (some { block := g1, off := o1 }) n c, Value.pointer (some { block := w.heap.size, off := 0 }), undef, undef, undef, fx 15, Value.int IntKind.i64 ↑k, Value.int IntKind.i64 ↑q, Value.pointer (some { block := z1, off := 0 }), fo 12, undef, undef, Value.int IntKind.i64 ↑m, Value.bool false, Value.bool false, Value.slice (some { block := g1, off := o1 }) n c, Value.int IntKind.i64 ↑n, Value.bool false, Value.bool false, Value.int IntKind.i64 ↑k, Value.int IntKind.i64 (2 * ↑k), Value.int IntKind.i64 ↑m, Value.bool false, u26, u27, Value.slice (some { block := g1, off := o1 }) n c, Value.int IntKind.i64 ↑n, Value.int IntKind.i64 ↑q, Value.int IntKind.i64 ↑i, Value.int IntKind.i64 ↑k, Value.bool true, fo 7, fo 0, fo 1, fo 2, fo 3, fo 4, fo 5, fo 6, fo 8, fo 9, fx 0, fx 1, fx 2, fx 3, fx 4, fx 5, fx 6, fx 7, fx 8, fx 9, fx 10, fx 11, fx 12, v2, fx 14, undef, undef, undef, undef, undef, undef, undef, undef, undef, undef, undef, undef, undef, undef, undef, undef, undef, undef, undef, undef, undef, undef, undef, undef, undef, undef, undef, undef, undef, undef, undef, undef, undef] []; rw [h7, h8, h9, h12] <;> rfl, hC.trans (hq.mono hC.size), HOV.out.mono hC.size, fun j v t _ _ h => wS9_below hq j v h⟩
                · have H6 := Lib.hid (hd.1 rfl)
                  have H13 := Lib.hid (hd.2.1 rfl)
                  obtain ⟨A3, n3, c3, h13, hin⟩ := H13.out.slice HSDO.out
                  have HI3 := Lib.hid hin
                  have hn3 : n3 ≤ 100000 := by rw [← hin.len]; exact HSDL.out
                  clear hin
                  have hsz := hC.size
                  have hob : ∀ gk, (fx 6).ownBlock = some gk → W2.heap.size ≤ gk := fun gk hk => (H6.out.block gk hk).1
                  refine wpList_append_pairs rfl (.tmp 50) (.tmp 57) rfl W2.heap.size (fx 6) [(y, p)] SD A3 n3 c3 rfl H6 h13 HI3 (by simp) hn3 hsz ?_
                  intro v2 w3 HO2 HG2
                  clear hd
                  go_wp2_with fail
                  refine ⟨v2, by show _ = Act.mk #[Value.agg X, Value.int IntKind.i64 ↑i, Value.int IntKind.i64 ↑m, Value.slice (some { block := g1, off := o1 }) n c, Value.pointer (some { block := w.heap.size, off := 0 }), undef, undef, undef, fx 15, Value.int IntKind.i64 ↑k, Value.int IntKind.i64 ↑q, Value.pointer (some { block := z1, off := 0 }), fo 12, undef, undef, Value.int IntKind.i64 ↑m, Value.bool false, Value.bool false, Value.slice (some { block := g1, off := o1 }) n c, Value.int IntKind.i64 ↑n, Value.bool false, Value.bool false, Value.int IntKind.i64 ↑k, Value.int IntKind.i64 (2 * ↑k), Value.int IntKind.i64 ↑m, Value.bool false, u26, u27, Value.slice (some { block := g1, off := o1 }) n c, Value.int IntKind.i64 ↑n, Value.int IntKind.i64 ↑q, Value.int IntKind.i64 ↑i, Value.int IntKind.i64 ↑k, Value.bool true, fo 7, fo 0, fo 1, fo 2, fo 3, fo 4, fo 5, fo 6, fo 8, fo 9, fx 0, fx 1, fx 2, fx 3, fx 4, fx 5, fx 6, fx 7, fx 8, fx 9, fx 10, fx 11, fx 12, fx 13, v2, undef, undef, undef, undef, undef, undef, undef, undef, undef, undef, undef, undef, undef, undef, undef, undef, undef, undef, undef, undef, undef, undef, undef, undef, undef, undef, undef, undef, undef, undef, undef, undef, undef] []; rw [h13] <;> rfl, below_grown hC HG2.out (fun k hk => hob k hk) (Nat.le_refl _), HO2.out, fun j v t hj hu h => ?_⟩
                  by_cases e1 : j = 6
                  · subst e1; refine absurd hu (not_needed (E := fun i => Nat.beq i 15) (j := 6) [14] (by kernel_rfl) (by kernel_rfl) (fun m hm hne => by simp at hm; subst hm; omega))
                  · by_cases e2 : j = 13
                    · subst e2; refine absurd hu (not_needed (E := fun i => Nat.beq i 15) (j := 13) [14] (by kernel_rfl) (by kernel_rfl) (fun m hm hne => by simp at hm; subst hm; omega))
                    · by_cases e3 : j = 14
                      · subst e3; rw [hi] at hj; cases hj
                      · by_cases e4 : j = 15
                        · subst e4; have := hcl 15 14 hj (by kernel_rfl); rw [hi] at this; cases this
                        · exact wS9_pure j v e1 e2 e3 e4 h
                · have H14 := Lib.hid (hd.1 rfl)
                  go_wp2_with fail
                  exact ⟨_, rfl, hC, H14.out, fun j v t _ _ h => h⟩
              · intro L fe w' hC hS
                have H15 := Lib.hid (hS 15 (by decide) rfl)
                have HOE := Lib.hid H15.out
                have HBE := Lib.hid hC
                clear hS hC H15
                go_wp2_with fail
                go_ret
                exact ⟨_, rfl, by rw [HFIN.out]; exact HOE.out.mono HB2.out.size, HB2.out.trans (HBE.out.mono HB2.out.size)⟩
          · have e2 : decide ((i : Int) < (k : Int)) = false := decide_eq_false (by omega)
            have e3 : decide (i < k) = false := decide_eq_false hik
            go_wp2_with fail
            obtain ⟨i2, HI2⟩ : ∃ i2, Hid (i - k = i2) := ⟨_, Lib.hid rfl⟩
            obtain ⟨m2, HM2⟩ : ∃ m2, Hid (m - k = m2) := ⟨_, Lib.hid rfl⟩
            have w2 : IntKind.i64.wrap ((i : Int) - (k : Int)) = (i2 : Int) := by
              rw [IntWalk.i64_in _ (by omega)]; have := HI2.out; omega
            have w3 : IntKind.i64.wrap ((m : Int) - (k : Int)) = (m2 : Int) := by
              rw [IntWalk.i64_in _ (by omega)]; have := HM2.out; omega
            have hi2 : i2 ≤ 4096 := by have := HI2.out; omega
            have hm2 : m2 ≤ 4096 := by have := HM2.out; omega
            generalize w.alloc (.cells X 26) = W1 at *
            obtain ⟨y, HY⟩ : ∃ y, Hid (climbR nd (i2 : Int) (m2 : Int) ps' = y) := ⟨_, Lib.hid rfl⟩
            obtain ⟨ee, HEE⟩ : ∃ e, Hid (climbE nd (i2 : Int) (m2 : Int) ps' = e) := ⟨_, Lib.hid rfl⟩
            have HYO : Hid (NdOk y) := Lib.hid (by rw [← HY.out]; exact climbR_okN HN.out HPSO.out)
            refine region_flow3 (by kernel_rfl) (by kernel_rfl) (fun i => Nat.beq i 15) (fun i => bif Nat.beq i 15 then 14 else i) (by kernel_rfl) (fun fx => #[Value.agg X, Value.int IntKind.i64 ↑i, Value.int IntKind.i64 ↑m, Value.slice (some { block := g1, off := o1 }) n c, Value.pointer (some { block := w.heap.size, off := 0 }), undef, undef, undef, Value.slice none 0 0, Value.int IntKind.i64 ↑k, Value.int IntKind.i64 ↑q, undef, undef, fx 14, fx 16, Value.int IntKind.i64 ↑m, Value.bool false, Value.bool false, Value.slice (some { block := g1, off := o1 }) n c, Value.int IntKind.i64 ↑n, Value.bool false, Value.bool false, Value.int IntKind.i64 ↑k, Value.int IntKind.i64 (2 * ↑k), Value.int IntKind.i64 ↑m, Value.bool false, u26, u27, Value.slice (some { block := g1, off := o1 }) n c, Value.int IntKind.i64 ↑n, Value.int IntKind.i64 ↑q, Value.int IntKind.i64 ↑i, Value.int IntKind.i64 ↑k, Value.bool false, undef, undef, undef, undef, undef, undef, undef, undef, undef, undef, undef, undef, undef, undef, undef, undef, undef, undef, undef, undef, undef, undef, undef, undef, undef, fx 11, fx 0, fx 1, fx 2, fx 3, fx 4, fx 5, fx 6, fx 7, fx 8, fx 9, fx 10, fx 12, fx 13, undef, undef, undef, undef, undef, undef, undef, undef, undef, undef, undef, undef, undef, undef, undef, undef, undef, undef, undef]) (fun _ => undef) (fun L fx w' => Below W1.heap.size W1 w' ∧ (L 14 = true → L 15 = false → NewN W1.heap.size (fx 14) w')) (fun fi fv fu fw => wS10 W1.heap.size nd y ee i k i2 m m2 q g1 o1 n c fi fv fu fw) ⟨(Below.refl _ _).drew, fun h => by cases h⟩ ?_ ?_
            · refine ⟨?_, ?_, ?_, ?_, ?_, ?_, ?_, ?_, ?_, ?_, ?_, ?_, ?_, ?_, ?_, ?_, ?_, trivial⟩
              all_goals intro L fx w' hC hi hcl hdn hd
              · have hrow := row_kept HR0.out hC.1
                refine wpList_load_row rfl 26 (.tmp 4) rfl w.heap.size rfl 26 _ (0, 0) _ hrow Tryd.underlying26 rfl (size34' HN.out) ?_
                clear hd
                go_wp2_with fail
                exact ⟨_, rfl, ⟨hC.1, fun h h2 => hC.2 h h2⟩, rfl, fun _ _ _ _ _ h => h⟩
              · go_wp2_with fail
                exact ⟨_, rfl, ⟨hC.1, fun h h2 => hC.2 h h2⟩, rfl, fun _ _ _ _ _ h => h⟩
              · go_wp2_with fail
                exact ⟨_, rfl, ⟨hC.1, fun h h2 => hC.2 h h2⟩, rfl, fun _ _ _ _ _ h => h⟩
              · have h1 : fx 1 = Value.int .i64 ((i : Nat)) := hd.1 rfl
                have h2 : fx 2 = Value.int .i64 ((k : Nat)) := hd.2.1 rfl
                go_wp2_with fail
                exact ⟨_, by show _ = Act.mk #[Value.agg X, Value.int IntKind.i64 ↑i, Value.int IntKind.i64 ↑m, Value.slice (some { block := g1, off := o1 }) n c, Value.pointer (some { block := w.heap.size, off := 0 }), undef, undef, undef, Value.slice none 0 0, Value.int IntKind.i64 ↑k, Value.int IntKind.i64 ↑q, undef, undef, fx 14, fx 16, Value.int IntKind.i64 ↑m, Value.bool false, Value.bool false, Value.slice (some { block := g1, off := o1 }) n c, Value.int IntKind.i64 ↑n, Value.bool false, Value.bool false, Value.int IntKind.i64 ↑k, Value.int IntKind.i64 (2 * ↑k), Value.int IntKind.i64 ↑m, Value.bool false, u26, u27, Value.slice (some { block := g1, off := o1 }) n c, Value.int IntKind.i64 ↑n, Value.int IntKind.i64 ↑q, Value.int IntKind.i64 ↑i, Value.int IntKind.i64 ↑k, Value.bool false, undef, undef, undef, undef, undef, undef, undef, undef, undef, undef, undef, undef, undef, undef, undef, undef, undef, undef, undef, undef, undef, undef, undef, undef, undef, fx 11, fx 0, fx 1, fx 2, Value.int .i64 ((i2 : Nat)), fx 4, fx 5, fx 6, fx 7, fx 8, fx 9, fx 10, fx 12, fx 13, undef, undef, undef, undef, undef, undef, undef, undef, undef, undef, undef, undef, undef, undef, undef, undef, undef, undef, undef] []; rw [h1, h2] <;> rfl, ⟨hC.1, fun h h2 => hC.2 h h2⟩, rfl, fun _ _ _ _ _ h => h⟩
              · go_wp2_with fail
                exact ⟨_, rfl, ⟨hC.1, fun h h2 => hC.2 h h2⟩, rfl, fun _ _ _ _ _ h => h⟩
              · go_wp2_with fail
                exact ⟨_, rfl, ⟨hC.1, fun h h2 => hC.2 h h2⟩, rfl, fun _ _ _ _ _ h => h⟩
              · have h4 : fx 4 = Value.int .i64 ((m : Nat)) := hd.1 rfl
                have h5 : fx 5 = Value.int .i64 ((k : Nat)) := hd.2.1 rfl
                go_wp2_with fail
                exact ⟨_, by show _ = Act.mk #[Value.agg X, Value.int IntKind.i64 ↑i, Value.int IntKind.i64 ↑m, Value.slice (some { block := g1, off := o1 }) n c, Value.pointer (some { block := w.heap.size, off := 0 }), undef, undef, undef, Value.slice none 0 0, Value.int IntKind.i64 ↑k, Value.int IntKind.i64 ↑q, undef, undef, fx 14, fx 16, Value.int IntKind.i64 ↑m, Value.bool false, Value.bool false, Value.slice (some { block := g1, off := o1 }) n c, Value.int IntKind.i64 ↑n, Value.bool false, Value.bool false, Value.int IntKind.i64 ↑k, Value.int IntKind.i64 (2 * ↑k), Value.int IntKind.i64 ↑m, Value.bool false, u26, u27, Value.slice (some { block := g1, off := o1 }) n c, Value.int IntKind.i64 ↑n, Value.int IntKind.i64 ↑q, Value.int IntKind.i64 ↑i, Value.int IntKind.i64 ↑k, Value.bool false, undef, undef, undef, undef, undef, undef, undef, undef, undef, undef, undef, undef, undef, undef, undef, undef, undef, undef, undef, undef, undef, undef, undef, undef, undef, fx 11, fx 0, fx 1, fx 2, fx 3, fx 4, fx 5, Value.int .i64 ((m2 : Nat)), fx 7, fx 8, fx 9, fx 10, fx 12, fx 13, undef, undef, undef, undef, undef, undef, undef, undef, undef, undef, undef, undef, undef, undef, undef, undef, undef, undef, undef] []; rw [h4, h5] <;> rfl, ⟨hC.1, fun h h2 => hC.2 h h2⟩, rfl, fun _ _ _ _ _ h => h⟩
              · go_wp2_with fail
                exact ⟨_, rfl, ⟨hC.1, fun h h2 => hC.2 h h2⟩, rfl, fun _ _ _ _ _ h => h⟩
              · go_wp2_with fail
                exact ⟨_, rfl, ⟨hC.1, fun h h2 => hC.2 h h2⟩, rfl, fun _ _ _ _ _ h => h⟩
              · have h7 : fx 7 = Value.slice (some ⟨g1, o1, none⟩) n c := hd.1 rfl
                have h8 : fx 8 = Value.int .i64 ((q : Nat)) := hd.2.1 rfl
                go_wp2_with fail
                exact ⟨_, by show _ = Act.mk #[Value.agg X, Value.int IntKind.i64 ↑i, Value.int IntKind.i64 ↑m, Value.slice (some { block := g1, off := o1 }) n c, Value.pointer (some { block := w.heap.size, off := 0 }), undef, undef, undef, Value.slice none 0 0, Value.int IntKind.i64 ↑k, Value.int IntKind.i64 ↑q, undef, undef, fx 14, fx 16, Value.int IntKind.i64 ↑m, Value.bool false, Value.bool false, Value.slice (some { block := g1, off := o1 }) n c, Value.int IntKind.i64 ↑n, Value.bool false, Value.bool false, Value.int IntKind.i64 ↑k, Value.int IntKind.i64 (2 * ↑k), Value.int IntKind.i64 ↑m, Value.bool false, u26, u27, Value.slice (some { block := g1, off := o1 }) n c, Value.int IntKind.i64 ↑n, Value.int IntKind.i64 ↑q, Value.int IntKind.i64 ↑i, Value.int IntKind.i64 ↑k, Value.bool false, undef, undef, undef, undef, undef, undef, undef, undef, undef, undef, undef, undef, undef, undef, undef, undef, undef, undef, undef, undef, undef, undef, undef, undef, undef, fx 11, fx 0, fx 1, fx 2, fx 3, fx 4, fx 5, fx 6, fx 7, fx 8, Value.slice (some ⟨g1, o1, none⟩) q c, fx 10, fx 12, fx 13, undef, undef, undef, undef, undef, undef, undef, undef, undef, undef, undef, undef, undef, undef, undef, undef, undef, undef, undef] []; rw [h7, h8] <;> rfl, ⟨hC.1, fun h h2 => hC.2 h h2⟩, rfl, fun _ _ _ _ _ h => h⟩
              · have h0 : fx 0 = ndV nd := hd.1 rfl
                have h3 : fx 3 = Value.int .i64 ((i2 : Nat)) := hd.2.1 rfl
                have h6 : fx 6 = Value.int .i64 ((m2 : Nat)) := hd.2.2.1 rfl
                have h9 : fx 9 = Value.slice (some ⟨g1, o1, none⟩) q c := hd.2.2.2.1 rfl
                have HTk := Lib.hid (hT.out.below (HB0.out.trans (hC.1.mono HB0.out.size)))
                have HIk := Lib.hid ((HIQ.out.below HB0.out).below hC.1)
                go_wp2_with fail
                refine (climb_any nd (i2 : Int) (m2 : Int) ps' _ q c w' HN.out (by omega) (by omega) (by omega) HIk HTk).mono ?_
                rintro e w2 ⟨rfl, hq⟩
                rw [HY.out, HEE.out]
                go_wp2_with fail
                exact ⟨_, by show _ = Act.mk #[Value.agg X, Value.int IntKind.i64 ↑i, Value.int IntKind.i64 ↑m, Value.slice (some { block := g1, off := o1 }) n c, Value.pointer (some { block := w.heap.size, off := 0 }), undef, undef, undef, Value.slice none 0 0, Value.int IntKind.i64 ↑k, Value.int IntKind.i64 ↑q, undef, undef, fx 14, fx 16, Value.int IntKind.i64 ↑m, Value.bool false, Value.bool false, Value.slice (some { block := g1, off := o1 }) n c, Value.int IntKind.i64 ↑n, Value.bool false, Value.bool false, Value.int IntKind.i64 ↑k, Value.int IntKind.i64 (2 * ↑k), Value.int IntKind.i64 ↑m, Value.bool false, u26, u27, Value.slice (some { block := g1, off := o1 }) n c, Value.int IntKind.i64 ↑n, Value.int IntKind.i64 ↑q, Value.int IntKind.i64 ↑i, Value.int IntKind.i64 ↑k, Value.bool false, undef, undef, undef, undef, undef, undef, undef, undef, undef, undef, undef, undef, undef, undef, undef, undef, undef, undef, undef, undef, undef, undef, undef, undef, undef, fx 11, fx 0, fx 1, fx 2, fx 3, fx 4, fx 5, fx 6, fx 7, fx 8, fx 9, Value.tuple #[ndV y, .int .i64 ee], fx 12, fx 13, undef, undef, undef, undef, undef, undef, undef, undef, undef, undef, undef, undef, undef, undef, undef, undef, undef, undef, undef] []; rw [h0, h3, h6, h9] <;> rfl, ⟨hC.1.trans (hq.mono hC.1.size), fun h h2 => (hC.2 h h2).below hq⟩, rfl, fun j v t _ _ h => wS10_below hq j v t h⟩
              · have h10 : fx 10 = Value.tuple #[ndV y, .int .i64 ee] := hd.1 rfl
                go_wp2_with fail
                exact ⟨_, by show _ = Act.mk #[Value.agg X, Value.int IntKind.i64 ↑i, Value.int IntKind.i64 ↑m, Value.slice (some { block := g1, off := o1 }) n c, Value.pointer (some { block := w.heap.size, off := 0 }), undef, undef, undef, Value.slice none 0 0, Value.int IntKind.i64 ↑k, Value.int IntKind.i64 ↑q, undef, undef, fx 14, fx 16, Value.int IntKind.i64 ↑m, Value.bool false, Value.bool false, Value.slice (some { block := g1, off := o1 }) n c, Value.int IntKind.i64 ↑n, Value.bool false, Value.bool false, Value.int IntKind.i64 ↑k, Value.int IntKind.i64 (2 * ↑k), Value.int IntKind.i64 ↑m, Value.bool false, u26, u27, Value.slice (some { block := g1, off := o1 }) n c, Value.int IntKind.i64 ↑n, Value.int IntKind.i64 ↑q, Value.int IntKind.i64 ↑i, Value.int IntKind.i64 ↑k, Value.bool false, undef, undef, undef, undef, undef, undef, undef, undef, undef, undef, undef, undef, undef, undef, undef, undef, undef, undef, undef, undef, undef, undef, undef, undef, undef, Value.tuple #[ndV y, .int .i64 ee], fx 0, fx 1, fx 2, fx 3, fx 4, fx 5, fx 6, fx 7, fx 8, fx 9, fx 10, fx 12, fx 13, undef, undef, undef, undef, undef, undef, undef, undef, undef, undef, undef, undef, undef, undef, undef, undef, undef, undef, undef] []; rw [h10] <;> rfl, ⟨hC.1, fun h h2 => hC.2 h h2⟩, rfl, fun _ _ _ _ _ h => h⟩
              · have h11 : fx 11 = Value.tuple #[ndV y, .int .i64 ee] := hd.1 rfl
                go_wp2_with fail
                exact ⟨_, by show _ = Act.mk #[Value.agg X, Value.int IntKind.i64 ↑i, Value.int IntKind.i64 ↑m, Value.slice (some { block := g1, off := o1 }) n c, Value.pointer (some { block := w.heap.size, off := 0 }), undef, undef, undef, Value.slice none 0 0, Value.int IntKind.i64 ↑k, Value.int IntKind.i64 ↑q, undef, undef, fx 14, fx 16, Value.int IntKind.i64 ↑m, Value.bool false, Value.bool false, Value.slice (some { block := g1, off := o1 }) n c, Value.int IntKind.i64 ↑n, Value.bool false, Value.bool false, Value.int IntKind.i64 ↑k, Value.int IntKind.i64 (2 * ↑k), Value.int IntKind.i64 ↑m, Value.bool false, u26, u27, Value.slice (some { block := g1, off := o1 }) n c, Value.int IntKind.i64 ↑n, Value.int IntKind.i64 ↑q, Value.int IntKind.i64 ↑i, Value.int IntKind.i64 ↑k, Value.bool false, undef, undef, undef, undef, undef, undef, undef, undef, undef, undef, undef, undef, undef, undef, undef, undef, undef, undef, undef, undef, undef, undef, undef, undef, undef, fx 11, fx 0, fx 1, fx 2, fx 3, fx 4, fx 5, fx 6, fx 7, fx 8, fx 9, fx 10, ndV y, fx 13, undef, undef, undef, undef, undef, undef, undef, undef, undef, undef, undef, undef, undef, undef, undef, undef, undef, undef, undef] []; rw [h11] <;> rfl, ⟨hC.1, fun h h2 => hC.2 h h2⟩, rfl, fun _ _ _ _ _ h => h⟩
              · have h11 : fx 11 = Value.tuple #[ndV y, .int .i64 ee] := hd.1 rfl
                go_wp2_with fail
                exact ⟨_, by show _ = Act.mk #[Value.agg X, Value.int IntKind.i64 ↑i, Value.int IntKind.i64 ↑m, Value.slice (some { block := g1, off := o1 }) n c, Value.pointer (some { block := w.heap.size, off := 0 }), undef, undef, undef, Value.slice none 0 0, Value.int IntKind.i64 ↑k, Value.int IntKind.i64 ↑q, undef, undef, fx 14, fx 16, Value.int IntKind.i64 ↑m, Value.bool false, Value.bool false, Value.slice (some { block := g1, off := o1 }) n c, Value.int IntKind.i64 ↑n, Value.bool false, Value.bool false, Value.int IntKind.i64 ↑k, Value.int IntKind.i64 (2 * ↑k), Value.int IntKind.i64 ↑m, Value.bool false, u26, u27, Value.slice (some { block := g1, off := o1 }) n c, Value.int IntKind.i64 ↑n, Value.int IntKind.i64 ↑q, Value.int IntKind.i64 ↑i, Value.int IntKind.i64 ↑k, Value.bool false, undef, undef, undef, undef, undef, undef, undef, undef, undef, undef, undef, undef, undef, undef, undef, undef, undef, undef, undef, undef, undef, undef, undef, undef, undef, fx 11, fx 0, fx 1, fx 2, fx 3, fx 4, fx 5, fx 6, fx 7, fx 8, fx 9, fx 10, fx 12, Value.int .i64 (ee), undef, undef, undef, undef, undef, undef, undef, undef, undef, undef, undef, undef, undef, undef, undef, undef, undef, undef, undef] []; rw [h11] <;> rfl, ⟨hC.1, fun h h2 => hC.2 h h2⟩, rfl, fun _ _ _ _ _ h => h⟩
              · go_wp2_with fail
                rw [← zeroN_cells]
                have hbb : Below w'.heap.size w' (w'.alloc (.cells (ndC zeroN).toArray 26)) := (Below.refl _ _).alloc (Nat.le_refl _) _
                exact ⟨_, rfl, ⟨hC.1.trans (hbb.mono hC.1.size), fun _ _ => ⟨_, rfl, hC.1.size, heap_alloc_new _ _⟩⟩, trivial, fun j v t _ _ h => wS10_below hbb j v t h⟩
              · have H14 := Lib.hid (hd.1 rfl)
                have h12 : fx 12 = ndV y := hd.2.1 rfl
                obtain ⟨z, h14, hq, hrow⟩ := hC.2 (hdn 14 (by kernel_rfl)) hi
                refine wpList_store_row rfl 26 (.tmp 13) (.tmp 71) rfl z (ndC y).toArray h14 h12 26 _ hrow (size34' HYO.out) (by simp [ndC_length HYO.out, ndC_length zeroN_ok]) (ndC_one _) ?_
                clear hd
                go_wp2_with fail
                exact ⟨undef, by show _ = Act.mk #[Value.agg X, Value.int IntKind.i64 ↑i, Value.int IntKind.i64 ↑m, Value.slice (some { block := g1, off := o1 }) n c, Value.pointer (some { block := w.heap.size, off := 0 }), undef, undef, undef, Value.slice none 0 0, Value.int IntKind.i64 ↑k, Value.int IntKind.i64 ↑q, undef, undef, fx 14, fx 16, Value.int IntKind.i64 ↑m, Value.bool false, Value.bool false, Value.slice (some { block := g1, off := o1 }) n c, Value.int IntKind.i64 ↑n, Value.bool false, Value.bool false, Value.int IntKind.i64 ↑k, Value.int IntKind.i64 (2 * ↑k), Value.int IntKind.i64 ↑m, Value.bool false, u26, u27, Value.slice (some { block := g1, off := o1 }) n c, Value.int IntKind.i64 ↑n, Value.int IntKind.i64 ↑q, Value.int IntKind.i64 ↑i, Value.int IntKind.i64 ↑k, Value.bool false, undef, undef, undef, undef, undef, undef, undef, undef, undef, undef, undef, undef, undef, undef, undef, undef, undef, undef, undef, undef, undef, undef, undef, undef, undef, fx 11, fx 0, fx 1, fx 2, fx 3, fx 4, fx 5, fx 6, fx 7, fx 8, fx 9, fx 10, fx 12, fx 13, undef, undef, undef, undef, undef, undef, undef, undef, undef, undef, undef, undef, undef, undef, undef, undef, undef, undef, undef] []; rw [h12, h14] <;> rfl, ⟨below_setRow hC.1 hq _, fun _ h => (updB_self h).elim⟩, ⟨z, h14, hq, setRow_heap _ _ _ _ _ _ hrow⟩, fun j v t hj _ h => by
                  by_cases e : j = 14
                  · subst e; trivial
                  · exact wS10_pure j v t e (fun e => by subst e; rw [hi] at hj; cases hj) h⟩
              · have h13 : fx 13 = Value.int .i64 (ee) := hd.1 rfl
                go_wp2_with fail
                exact ⟨_, by show _ = Act.mk #[Value.agg X, Value.int IntKind.i64 ↑i, Value.int IntKind.i64 ↑m, Value.slice (some { block := g1, off := o1 }) n c, Value.pointer (some { block := w.heap.size, off := 0 }), undef, undef, undef, Value.slice none 0 0, Value.int IntKind.i64 ↑k, Value.int IntKind.i64 ↑q, undef, undef, fx 14, Value.int .i64 (ee), Value.int IntKind.i64 ↑m, Value.bool false, Value.bool false, Value.slice (some { block := g1, off := o1 }) n c, Value.int IntKind.i64 ↑n, Value.bool false, Value.bool false, Value.int IntKind.i64 ↑k, Value.int IntKind.i64 (2 * ↑k), Value.int IntKind.i64 ↑m, Value.bool false, u26, u27, Value.slice (some { block := g1, off := o1 }) n c, Value.int IntKind.i64 ↑n, Value.int IntKind.i64 ↑q, Value.int IntKind.i64 ↑i, Value.int IntKind.i64 ↑k, Value.bool false, undef, undef, undef, undef, undef, undef, undef, undef, undef, undef, undef, undef, undef, undef, undef, undef, undef, undef, undef, undef, undef, undef, undef, undef, undef, fx 11, fx 0, fx 1, fx 2, fx 3, fx 4, fx 5, fx 6, fx 7, fx 8, fx 9, fx 10, fx 12, fx 13, undef, undef, undef, undef, undef, undef, undef, undef, undef, undef, undef, undef, undef, undef, undef, undef, undef, undef, undef] []; rw [h13] <;> rfl, ⟨hC.1, fun h h2 => hC.2 h h2⟩, rfl, fun _ _ _ _ _ h => h⟩
            · intro L fo w' hC hS
              have H15 := Lib.hid (hS 15 (by decide) rfl)
              obtain ⟨z1, e1, hz1, hrz⟩ := H15.out
              have HB1 := Lib.hid hC.1
              have HRZ := Lib.hid hrz
              have HZB := Lib.hid hz1
              have HR1 := Lib.hid (row_kept HR0.out hC.1)
              replace e1 : fo 14 = _ := e1
              rw [e1]
              clear hS hC H15 hrz hz1 e1
              obtain ⟨W2, HW2⟩ : ∃ W, W = w' := ⟨_, rfl⟩
              subst HW2
              have HB2 := Lib.hid (HB0.out.trans (HB1.out.mono HB0.out.size))
              have HIQ2 := Lib.hid ((HIQ.out.below HB0.out).below HB1.out)
              have HIP2 : Hid (W2.rangeAt g1 (o1 + q * 34) (ndC p) ∧ g1 < W2.heap.size) := Lib.hid ⟨rangeAt_below HIP.out.1 HIP.out.2 HB2.out, Nat.lt_of_lt_of_le HIP.out.2 HB2.out.size⟩
              have HPR : Hid (PrOk (p, y)) := Lib.hid ⟨HPO.out, HYO.out⟩
              obtain ⟨SD, HSD⟩ : ∃ l, Hid (sidesQ nd i2 m2 ps' = l) := ⟨_, Lib.hid rfl⟩
              have HSDO : Hid (∀ x ∈ SD, PrOk x) := Lib.hid (by rw [← HSD.out]; exact sidesQ_ok HN.out HPSO.out)
              have HSDL : Hid (SD.length ≤ 100000) := Lib.hid (by rw [← HSD.out, sidesQ_length]; have := dirsN_length i2 m2; omega)
              have hh : ¬ i < half m := by rw [HK.out]; exact hik
              have HLQ : Hid (ps'.length = (dirsN i2 m2).length) := Lib.hid (by
                have h := HL.out
                rw [dirsN_right h2 hh, HPS.out, HK.out, HI2.out, HM2.out] at h
                simpa using h)
              have HFIN : Hid (sidesQ nd i m ps = (p, y) :: SD) := Lib.hid (by
                rw [HPS.out, sidesQ_right HV.out h2 h4 hh him (by rw [HK.out, HI2.out, HM2.out]; exact HLQ.out), HK.out, HI2.out, HM2.out, HY.out, HSD.out])
              have hi2m : i2 < m2 := by have := HI2.out; have := HM2.out; omega
              have hm2f : m2 ≤ f ∧ 1 ≤ m2 := by have := HM2.out; omega
              clear hh
              clear HB1 HZB HY HEE
              go_wp2_with fail
              refine region_flow3 (by kernel_rfl) (by kernel_rfl) (fun i => Nat.beq i 19) (fun i => i) (by kernel_rfl) (fun fx => #[Value.agg X, Value.int IntKind.i64 ↑i, Value.int IntKind.i64 ↑m, Value.slice (some { block := g1, off := o1 }) n c, Value.pointer (some { block := w.heap.size, off := 0 }), undef, undef, undef, fx 19, Value.int IntKind.i64 ↑k, Value.int IntKind.i64 ↑q, undef, undef, Value.pointer (some { block := z1, off := 0 }), fo 16, Value.int IntKind.i64 ↑m, Value.bool false, Value.bool false, Value.slice (some { block := g1, off := o1 }) n c, Value.int IntKind.i64 ↑n, Value.bool false, Value.bool false, Value.int IntKind.i64 ↑k, Value.int IntKind.i64 (2 * ↑k), Value.int IntKind.i64 ↑m, Value.bool false, u26, u27, Value.slice (some { block := g1, off := o1 }) n c, Value.int IntKind.i64 ↑n, Value.int IntKind.i64 ↑q, Value.int IntKind.i64 ↑i, Value.int IntKind.i64 ↑k, Value.bool false, undef, undef, undef, undef, undef, undef, undef, undef, undef, undef, undef, undef, undef, undef, undef, undef, undef, undef, undef, undef, undef, undef, undef, undef, undef, fo 11, fo 0, fo 1, fo 2, fo 3, fo 4, fo 5, fo 6, fo 7, fo 8, fo 9, fo 10, fo 12, fo 13, fx 0, fx 1, fx 2, fx 3, fx 4, fx 5, fx 6, fx 7, fx 8, fx 9, fx 10, fx 11, fx 12, fx 13, fx 14, fx 15, fx 16, fx 17, fx 18]) (fun i => bif Nat.beq i 19 then Value.slice none 0 0 else undef) (fun L fx w' => Below W2.heap.size W2 w') (fun fi fv _ fw => wS11 W2.heap.size nd y p SD i k i2 m m2 q g1 o1 n c fi fv fw) (Below.refl _ _).drew ?_ ?_
              · refine ⟨?_, ?_, ?_, ?_, ?_, ?_, ?_, ?_, ?_, ?_, ?_, ?_, ?_, ?_, ?_, ?_, ?_, ?_, ?_, ?_, trivial⟩
                all_goals intro L fx w' hC hi hcl hdn hd
                · go_wp2_with fail
                  exact ⟨_, rfl, hC, rfl, fun _ _ _ _ _ h => h⟩
                · go_wp2_with fail
                  exact ⟨_, rfl, hC, rfl, fun _ _ _ _ _ h => h⟩
                · have h0 : fx 0 = Value.slice (some ⟨g1, o1, none⟩) n c := hd.1 rfl
                  have h1 : fx 1 = Value.int .i64 ((q : Nat)) := hd.2.1 rfl
                  go_wp2_with fail
                  exact ⟨_, by show _ = Act.mk #[Value.agg X, Value.int IntKind.i64 ↑i, Value.int IntKind.i64 ↑m, Value.slice (some { block := g1, off := o1 }) n c, Value.pointer (some { block := w.heap.size, off := 0 }), undef, undef, undef, fx 19, Value.int IntKind.i64 ↑k, Value.int IntKind.i64 ↑q, undef, undef, Value.pointer (some { block := z1, off := 0 }), fo 16, Value.int IntKind.i64 ↑m, Value.bool false, Value.bool false, Value.slice (some { block := g1, off := o1 }) n c, Value.int IntKind.i64 ↑n, Value.bool false, Value.bool false, Value.int IntKind.i64 ↑k, Value.int IntKind.i64 (2 * ↑k), Value.int IntKind.i64 ↑m, Value.bool false, u26, u27, Value.slice (some { block := g1, off := o1 }) n c, Value.int IntKind.i64 ↑n, Value.int IntKind.i64 ↑q, Value.int IntKind.i64 ↑i, Value.int IntKind.i64 ↑k, Value.bool false, undef, undef, undef, undef, undef, undef, undef, undef, undef, undef, undef, undef, undef, undef, undef, undef, undef, undef, undef, undef, undef, undef, undef, undef, undef, fo 11, fo 0, fo 1, fo 2, fo 3, fo 4, fo 5, fo 6, fo 7, fo 8, fo 9, fo 10, fo 12, fo 13, fx 0, fx 1, Value.pointer (some ⟨g1, o1 + q * 34, none⟩), fx 3, fx 4, fx 5, fx 6, fx 7, fx 8, fx 9, fx 10, fx 11, fx 12, fx 13, fx 14, fx 15, fx 16, fx 17, fx 18] []; rw [h0, h1] <;> rfl, hC, rfl, fun _ _ _ _ _ h => h⟩
                · have h2 : fx 2 = Value.pointer (some ⟨g1, o1 + q * 34, none⟩) := hd.1 rfl
                  have hrg := rangeAt_below HIP2.out.1 HIP2.out.2 hC
                  refine wpList_load_mid rfl 26 (.tmp 75) rfl g1 (o1 + q * 34) h2 (ndC p) _ hrg Tryd.underlying26 rfl (size34 HPO.out) ?_
                  clear hd
                  go_wp2_with fail
                  exact ⟨_, by show _ = Act.mk #[Value.agg X, Value.int IntKind.i64 ↑i, Value.int IntKind.i64 ↑m, Value.slice (some { block := g1, off := o1 }) n c, Value.pointer (some { block := w.heap.size, off := 0 }), undef, undef, undef, fx 19, Value.int IntKind.i64 ↑k, Value.int IntKind.i64 ↑q, undef, undef, Value.pointer (some { block := z1, off := 0 }), fo 16, Value.int IntKind.i64 ↑m, Value.bool false, Value.bool false, Value.slice (some { block := g1, off := o1 }) n c, Value.int IntKind.i64 ↑n, Value.bool false, Value.bool false, Value.int IntKind.i64 ↑k, Value.int IntKind.i64 (2 * ↑k), Value.int IntKind.i64 ↑m, Value.bool false, u26, u27, Value.slice (some { block := g1, off := o1 }) n c, Value.int IntKind.i64 ↑n, Value.int IntKind.i64 ↑q, Value.int IntKind.i64 ↑i, Value.int IntKind.i64 ↑k, Value.bool false, undef, undef, undef, undef, undef, undef, undef, undef, undef, undef, undef, undef, undef, undef, undef, undef, undef, undef, undef, undef, undef, undef, undef, undef, undef, fo 11, fo 0, fo 1, fo 2, fo 3, fo 4, fo 5, fo 6, fo 7, fo 8, fo 9, fo 10, fo 12, fo 13, fx 0, fx 1, fx 2, ndV p, fx 4, fx 5, fx 6, fx 7, fx 8, fx 9, fx 10, fx 11, fx 12, fx 13, fx 14, fx 15, fx 16, fx 17, fx 18] []; rw [h2] <;> rfl, hC, rfl, fun _ _ _ _ _ h => h⟩
                · have hrow := row_kept HRZ.out hC
                  refine wpList_load_row rfl 26 (.tmp 13) rfl z1 rfl 26 _ (0, 0) _ hrow Tryd.underlying26 rfl (size34' HYO.out) ?_
                  clear hd
                  go_wp2_with fail
                  exact ⟨_, rfl, hC, rfl, fun _ _ _ _ _ h => h⟩
                · have h3 : fx 3 = ndV p := hd.1 rfl
                  have h4 : fx 4 = ndV y := hd.2.1 rfl
                  refine wpList_build_pair rfl (.tmp 76) (.tmp 77) rfl p y HPO.out HYO.out h3 h4 ?_
                  clear hd
                  go_wp2_with fail
                  exact ⟨_, by show _ = Act.mk #[Value.agg X, Value.int IntKind.i64 ↑i, Value.int IntKind.i64 ↑m, Value.slice (some { block := g1, off := o1 }) n c, Value.pointer (some { block := w.heap.size, off := 0 }), undef, undef, undef, fx 19, Value.int IntKind.i64 ↑k, Value.int IntKind.i64 ↑q, undef, undef, Value.pointer (some { block := z1, off := 0 }), fo 16, Value.int IntKind.i64 ↑m, Value.bool false, Value.bool false, Value.slice (some { block := g1, off := o1 }) n c, Value.int IntKind.i64 ↑n, Value.bool false, Value.bool false, Value.int IntKind.i64 ↑k, Value.int IntKind.i64 (2 * ↑k), Value.int IntKind.i64 ↑m, Value.bool false, u26, u27, Value.slice (some { block := g1, off := o1 }) n c, Value.int IntKind.i64 ↑n, Value.int IntKind.i64 ↑q, Value.int IntKind.i64 ↑i, Value.int IntKind.i64 ↑k, Value.bool false, undef, undef, undef, undef, undef, undef, undef, undef, undef, undef, undef, undef, undef, undef, undef, undef, undef, undef, undef, undef, undef, undef, undef, undef, undef, fo 11, fo 0, fo 1, fo 2, fo 3, fo 4, fo 5, fo 6, fo 7, fo 8, fo 9, fo 10, fo 12, fo 13, fx 0, fx 1, fx 2, fx 3, fx 4, prV (p, y), fx 6, fx 7, fx 8, fx 9, fx 10, fx 11, fx 12, fx 13, fx 14, fx 15, fx 16, fx 17, fx 18] []; rw [h3, h4] <;> rfl, hC, rfl, fun _ _ _ _ _ h => h⟩
                · have h5 : fx 5 = prV (p, y) := hd.1 rfl
                  refine wpList_build_pairs1 rfl (.tmp 78) rfl (p, y) h5 HPR.out ?_
                  have hbb : Below w'.heap.size w' (w'.alloc (.cells (flatQ [(p, y)]).toArray 41)) := (Below.refl _ _).alloc (Nat.le_refl _) _
                  clear hd
                  go_wp2_with fail
                  exact ⟨_, by show _ = Act.mk #[Value.agg X, Value.int IntKind.i64 ↑i, Value.int IntKind.i64 ↑m, Value.slice (some { block := g1, off := o1 }) n c, Value.pointer (some { block := w.heap.size, off := 0 }), undef, undef, undef, fx 19, Value.int IntKind.i64 ↑k, Value.int IntKind.i64 ↑q, undef, undef, Value.pointer (some { block := z1, off := 0 }), fo 16, Value.int IntKind.i64 ↑m, Value.bool false, Value.bool false, Value.slice (some { block := g1, off := o1 }) n c, Value.int IntKind.i64 ↑n, Value.bool false, Value.bool false, Value.int IntKind.i64 ↑k, Value.int IntKind.i64 (2 * ↑k), Value.int IntKind.i64 ↑m, Value.bool false, u26, u27, Value.slice (some { block := g1, off := o1 }) n c, Value.int IntKind.i64 ↑n, Value.int IntKind.i64 ↑q, Value.int IntKind.i64 ↑i, Value.int IntKind.i64 ↑k, Value.bool false, undef, undef, undef, undef, undef, undef, undef, undef, undef, undef, undef, undef, undef, undef, undef, undef, undef, undef, undef, undef, undef, undef, undef, undef, undef, fo 11, fo 0, fo 1, fo 2, fo 3, fo 4, fo 5, fo 6, fo 7, fo 8, fo 9, fo 10, fo 12, fo 13, fx 0, fx 1, fx 2, fx 3, fx 4, fx 5, Value.slice (some ⟨w'.heap.size, 0, none⟩) 1 1, fx 7, fx 8, fx 9, fx 10, fx 11, fx 12, fx 13, fx 14, fx 15, fx 16, fx 17, fx 18] []; rw [h5] <;> rfl, hC.trans (hbb.mono hC.size), OwnQ.one HPR.out (heap_alloc_new _ _) hC.size, fun j v t _ _ h => wS11_below hbb j v h⟩
                · have hrow := row_kept HR1.out hC
                  refine wpList_load_row rfl 26 (.tmp 4) rfl w.heap.size rfl 26 _ (0, 0) _ hrow Tryd.underlying26 rfl (size34' HN.out) ?_
                  clear hd
                  go_wp2_with fail
                  exact ⟨_, rfl, hC, rfl, fun _ _ _ _ _ h => h⟩
                · go_wp2_with fail
                  exact ⟨_, rfl, hC, rfl, fun _ _ _ _ _ h => h⟩
                · go_wp2_with fail
                  exact ⟨_, rfl, hC, rfl, fun _ _ _ _ _ h => h⟩
                · have h8 : fx 8 = Value.int .i64 ((i : Nat)) := hd.1 rfl
                  have h9 : fx 9 = Value.int .i64 ((k : Nat)) := hd.2.1 rfl
                  go_wp2_with fail
                  exact ⟨_, by show _ = Act.mk #[Value.agg X, Value.int IntKind.i64 ↑i, Value.int IntKind.i64 ↑m, Value.slice (some { block := g1, off := o1 }) n c, Value.pointer (some { block := w.heap.size, off := 0 }), undef, undef, undef, fx 19, Value.int IntKind.i64 ↑k, Value.int IntKind.i64 ↑q, undef, undef, Value.pointer (some { block := z1, off := 0 }), fo 16, Value.int IntKind.i64 ↑m, Value.bool false, Value.bool false, Value.slice (some { block := g1, off := o1 }) n c, Value.int IntKind.i64 ↑n, Value.bool false, Value.bool false, Value.int IntKind.i64 ↑k, Value.int IntKind.i64 (2 * ↑k), Value.int IntKind.i64 ↑m, Value.bool false, u26, u27, Value.slice (some { block := g1, off := o1 }) n c, Value.int IntKind.i64 ↑n, Value.int IntKind.i64 ↑q, Value.int IntKind.i64 ↑i, Value.int IntKind.i64 ↑k, Value.bool false, undef, undef, undef, undef, undef, undef, undef, undef, undef, undef, undef, undef, undef, undef, undef, undef, undef, undef, undef, undef, undef, undef, undef, undef, undef, fo 11, fo 0, fo 1, fo 2, fo 3, fo 4, fo 5, fo 6, fo 7, fo 8, fo 9, fo 10, fo 12, fo 13, fx 0, fx 1, fx 2, fx 3, fx 4, fx 5, fx 6, fx 7, fx 8, fx 9, Value.int .i64 ((i2 : Nat)), fx 11, fx 12, fx 13, fx 14, fx 15, fx 16, fx 17, fx 18] []; rw [h8, h9] <;> rfl, hC, rfl, fun _ _ _ _ _ h => h⟩
                · go_wp2_with fail
                  exact ⟨_, rfl, hC, rfl, fun _ _ _ _ _ h => h⟩
                · go_wp2_with fail
                  exact ⟨_, rfl, hC, rfl, fun _ _ _ _ _ h => h⟩
                · have h11 : fx 11 = Value.int .i64 ((m : Nat)) := hd.1 rfl
                  have h12 : fx 12 = Value.int .i64 ((k : Nat)) := hd.2.1 rfl
                  go_wp2_with fail
                  exact ⟨_, by show _ = Act.mk #[Value.agg X, Value.int IntKind.i64 ↑i, Value.int IntKind.i64 ↑m, Value.slice (some { block := g1, off := o1 }) n c, Value.pointer (some { block := w.heap.size, off := 0 }), undef, undef, undef, fx 19, Value.int IntKind.i64 ↑k, Value.int IntKind.i64 ↑q, undef, undef, Value.pointer (some { block := z1, off := 0 }), fo 16, Value.int IntKind.i64 ↑m, Value.bool false, Value.bool false, Value.slice (some { block := g1, off := o1 }) n c, Value.int IntKind.i64 ↑n, Value.bool false, Value.bool false, Value.int IntKind.i64 ↑k, Value.int IntKind.i64 (2 * ↑k), Value.int IntKind.i64 ↑m, Value.bool false, u26, u27, Value.slice (some { block := g1, off := o1 }) n c, Value.int IntKind.i64 ↑n, Value.int IntKind.i64 ↑q, Value.int IntKind.i64 ↑i, Value.int IntKind.i64 ↑k, Value.bool false, undef, undef, undef, undef, undef, undef, undef, undef, undef, undef, undef, undef, undef, undef, undef, undef, undef, undef, undef, undef, undef, undef, undef, undef, undef, fo 11, fo 0, fo 1, fo 2, fo 3, fo 4, fo 5, fo 6, fo 7, fo 8, fo 9, fo 10, fo 12, fo 13, fx 0, fx 1, fx 2, fx 3, fx 4, fx 5, fx 6, fx 7, fx 8, fx 9, fx 10, fx 11, fx 12, Value.int .i64 ((m2 : Nat)), fx 14, fx 15, fx 16, fx 17, fx 18] []; rw [h11, h12] <;> rfl, hC, rfl, fun _ _ _ _ _ h => h⟩
                · go_wp2_with fail
                  exact ⟨_, rfl, hC, rfl, fun _ _ _ _ _ h => h⟩
                · go_wp2_with fail
                  exact ⟨_, rfl, hC, rfl, fun _ _ _ _ _ h => h⟩
                · have h14 : fx 14 = Value.slice (some ⟨g1, o1, none⟩) n c := hd.1 rfl
                  have h15 : fx 15 = Value.int .i64 ((q : Nat)) := hd.2.1 rfl
                  go_wp2_with fail
                  exact ⟨_, by show _ = Act.mk #[Value.agg X, Value.int IntKind.i64 ↑i, Value.int IntKind.i64 ↑m, Value.slice (some { block := g1, off := o1 }) n c, Value.pointer (some { block := w.heap.size, off := 0 }), undef, undef, undef, fx 19, Value.int IntKind.i64 ↑k, Value.int IntKind.i64 ↑q, undef, undef, Value.pointer (some { block := z1, off := 0 }), fo 16, Value.int IntKind.i64 ↑m, Value.bool false, Value.bool false, Value.slice (some { block := g1, off := o1 }) n c, Value.int IntKind.i64 ↑n, Value.bool false, Value.bool false, Value.int IntKind.i64 ↑k, Value.int IntKind.i64 (2 * ↑k), Value.int IntKind.i64 ↑m, Value.bool false, u26, u27, Value.slice (some { block := g1, off := o1 }) n c, Value.int IntKind.i64 ↑n, Value.int IntKind.i64 ↑q, Value.int IntKind.i64 ↑i, Value.int IntKind.i64 ↑k, Value.bool false, undef, undef, undef, undef, undef, undef, undef, undef, undef, undef, undef, undef, undef, undef, undef, undef, undef, undef, undef, undef, undef, undef, undef, undef, undef, fo 11, fo 0, fo 1, fo 2, fo 3, fo 4, fo 5, fo 6, fo 7, fo 8, fo 9, fo 10, fo 12, fo 13, fx 0, fx 1, fx 2, fx 3, fx 4, fx 5, fx 6, fx 7, fx 8, fx 9, fx 10, fx 11, fx 12, fx 13, fx 14, fx 15, Value.slice (some ⟨g1, o1, none⟩) q c, fx 17, fx 18] []; rw [h14, h15] <;> rfl, hC, rfl, fun _ _ _ _ _ h => h⟩
                · have h7 : fx 7 = ndV nd := hd.1 rfl
                  have h10 : fx 10 = Value.int .i64 ((i2 : Nat)) := hd.2.1 rfl
                  have h13 : fx 13 = Value.int .i64 ((m2 : Nat)) := hd.2.2.1 rfl
                  have h16 : fx 16 = Value.slice (some ⟨g1, o1, none⟩) q c := hd.2.2.2.1 rfl
                  have HTk := Lib.hid (hT.out.below (HB2.out.trans (hC.mono HB2.out.size)))
                  have HIk := Lib.hid (HIQ2.out.below hC)
                  go_wp2_with fail
                  refine (ih i2 m2 nd ps' _ q c w' (by omega) (by omega) (by omega) (by omega) HLQ HN HV HIk HTk).mono ?_
                  rintro e w3 ⟨v2, rfl, ho, hq⟩
                  rw [HSD.out] at ho
                  have HOV := Lib.hid ho
                  clear ho
                  go_wp2_with fail
                  exact ⟨v2, by show _ = Act.mk #[Value.agg X, Value.int IntKind.i64 ↑i, Value.int IntKind.i64 ↑m, Value.slice (some { block := g1, off := o1 }) n c, Value.pointer (some { block := w.heap.size, off := 0 }), undef, undef, undef, fx 19, Value.int IntKind.i64 ↑k, Value.int IntKind.i64 ↑q, undef, undef, Value.pointer (some { block := z1, off := 0 }), fo 16, Value.int IntKind.i64 ↑m, Value.bool false, Value.bool false, Value.slice (some { block := g1, off := o1 }) n c, Value.int IntKind.i64 ↑n, Value.bool false, Value.bool false, Value.int IntKind.i64 ↑k, Value.int IntKind.i64 (2 * ↑k), Value.int IntKind.i64 ↑m, Value.bool false, u26, u27, Value.slice (some { block := g1, off := o1 }) n c, Value.int IntKind.i64 ↑n, Value.int IntKind.i64 ↑q, Value.int IntKind.i64 ↑i, Value.int IntKind.i64 ↑k, Value.bool false, undef, undef, undef, undef, undef, undef, undef, undef, undef, undef, undef, undef, undef, undef, undef, undef, undef, undef, undef, undef, undef, undef, undef, undef, undef, fo 11, fo 0, fo 1, fo 2, fo 3, fo 4, fo 5, fo 6, fo 7, fo 8, fo 9, fo 10, fo 12, fo 13, fx 0, fx 1, fx 2, fx 3, fx 4, fx 5, fx 6, fx 7, fx 8, fx 9, fx 10, fx 11, fx 12, fx 13, fx 14, fx 15, fx 16, v2, fx 18] []; rw [h7, h10, h13, h16] <;> rfl, hC.trans (hq.mono hC.size), HOV.out.mono hC.size, fun j v t _ _ h => wS11_below hq j v h⟩
                · have H6 := Lib.hid (hd.1 rfl)
                  have H17 := Lib.hid (hd.2.1 rfl)
                  obtain ⟨A3, n3, c3, h17, hin⟩ := H17.out.slice HSDO.out
                  have HI3 := Lib.hid hin
                  have hn3 : n3 ≤ 100000 := by rw [← hin.len]; exact HSDL.out
                  clear hin
                  have hsz := hC.size
                  have hob : ∀ gk, (fx 6).ownBlock = some gk → W2.heap.size ≤ gk := fun gk hk => (H6.out.block gk hk).1
                  refine wpList_append_pairs rfl (.tmp 79) (.tmp 90) rfl W2.heap.size (fx 6) [(p, y)] SD A3 n3 c3 rfl H6 h17 HI3 (by simp) hn3 hsz ?_
                  intro v2 w3 HO2 HG2
                  clear hd
                  go_wp2_with fail
                  refine ⟨v2, by show _ = Act.mk #[Value.agg X, Value.int IntKind.i64 ↑i, Value.int IntKind.i64 ↑m, Value.slice (some { block := g1, off := o1 }) n c, Value.pointer (some { block := w.heap.size, off := 0 }), undef, undef, undef, fx 19, Value.int IntKind.i64 ↑k, Value.int IntKind.i64 ↑q, undef, undef, Value.pointer (some { block := z1, off := 0 }), fo 16, Value.int IntKind.i64 ↑m, Value.bool false, Value.bool false, Value.slice (some { block := g1, off := o1 }) n c, Value.int IntKind.i64 ↑n, Value.bool false, Value.bool false, Value.int IntKind.i64 ↑k, Value.int IntKind.i64 (2 * ↑k), Value.int IntKind.i64 ↑m, Value.bool false, u26, u27, Value.slice (some { block := g1, off := o1 }) n c, Value.int IntKind.i64 ↑n, Value.int IntKind.i64 ↑q, Value.int IntKind.i64 ↑i, Value.int IntKind.i64 ↑k, Value.bool false, undef, undef, undef, undef, undef, undef, undef, undef, undef, undef, undef, undef, undef, undef, undef, undef, undef, undef, undef, undef, undef, undef, undef, undef, undef, fo 11, fo 0, fo 1, fo 2, fo 3, fo 4, fo 5, fo 6, fo 7, fo 8, fo 9, fo 10, fo 12, fo 13, fx 0, fx 1, fx 2, fx 3, fx 4, fx 5, fx 6, fx 7, fx 8, fx 9, fx 10, fx 11, fx 12, fx 13, fx 14, fx 15, fx 16, fx 17, v2] []; rw [h17] <;> rfl, below_grown hC HG2.out (fun k hk => hob k hk) (Nat.le_refl _), HO2.out, fun j v t hj hu h => ?_⟩
                  by_cases e1 : j = 6
                  · subst e1; refine absurd hu (not_needed (E := fun i => Nat.beq i 19) (j := 6) [18] (by kernel_rfl) (by kernel_rfl) (fun m hm hne => by simp at hm; subst hm; omega))
                  · by_cases e2 : j = 17
                    · subst e2; refine absurd hu (not_needed (E := fun i => Nat.beq i 19) (j := 17) [18] (by kernel_rfl) (by kernel_rfl) (fun m hm hne => by simp at hm; subst hm; omega))
                    · by_cases e3 : j = 18
                      · subst e3; rw [hi] at hj; cases hj
                      · by_cases e4 : j = 19
                        · subst e4; have := hcl 19 18 hj (by kernel_rfl); rw [hi] at this; cases this
                        · exact wS11_pure j v e1 e2 e3 e4 h
                · have H18 := Lib.hid (hd.1 rfl)
                  go_wp2_with fail
                  exact ⟨_, rfl, hC, H18.out, fun j v t _ _ h => h⟩
              · intro L fe w' hC hS
                have H19 := Lib.hid (hS 19 (by decide) rfl)
                have HOE := Lib.hid H19.out
                have HBE := Lib.hid hC
                clear hS hC H19
                go_wp2_with fail
                go_ret
                exact ⟨_, rfl, by rw [HFIN.out]; exact HOE.out.mono HB2.out.size, HB2.out.trans (HBE.out.mono HB2.out.size)⟩
end Go.Proofs.YtgcmbiegbclhmaaDoor
namespace Go.Proofs.YtgcmbiegbclhmaaDoor
open Go.RowKit SzSha SzTree
set_option linter.unusedVariables false
set_option maxRecDepth 100000
theorem bstr_strL (s : ByteArray) : bstr (strL s) = s := by
  apply ByteArray.ext
  apply Array.toList_inj.1
  simp only [bstr, strL, List.map_map]
  conv => rhs; rw [← List.map_id s.data.toList]
  refine List.map_congr_left fun x _ => ?_
  simp
theorem jstr_bytes {a b : Nd} (ha : NdOk a) (hb : NdOk b) : Bytes (jstr a b) := fun x hx => by
  unfold jstr at hx
  rcases List.mem_append.1 hx with h | h
  · rcases List.mem_append.1 h with h | h
    · exact ha.bytes x h
    · exact hb.bytes x h
  · exact encI_bytes _ x h
theorem pair_ranges {w : World} {A : Option Addr} {n c : Nat} {ls : List (Nd × Nd)} (h : InQ w A n c ls) (j : Nat) (hj : j < n) : ∃ g r t, A = some ⟨g, 0, none⟩ ∧ g < w.heap.size ∧ NdOk r ∧ NdOk t ∧ ls.drop j = (r, t) :: ls.drop (j + 1) ∧ w.rangeAt g (j * 68) (ndC r) ∧ w.rangeAt g (j * 68 + 34) (ndC t) := by
  have hjl : j < ls.length := by rw [h.len]; exact hj
  obtain ⟨g, e, hg, hr⟩ := h.rd (by omega)
  have hok := h.ok ls[j] (List.getElem_mem hjl)
  have e1 : flatQ ls = flatQ (ls.take j) ++ flatQ (ls.drop j) := by rw [← flatQ_append, List.take_append_drop]
  have e2 : (flatQ (ls.take j)).length = j * 68 := by
    rw [flatQ_length _ (fun p hp => h.ok p (List.mem_of_mem_take hp)), List.length_take, Nat.min_eq_left (by omega)]
  have e3 : ls.drop j = (ls[j].1, ls[j].2) :: ls.drop (j + 1) := List.drop_eq_getElem_cons hjl
  have e4 : flatQ (ls.drop j) = ndC ls[j].1 ++ (ndC ls[j].2 ++ flatQ (ls.drop (j + 1))) := by
    rw [e3]; simp [flatQ, flatN]
  have l1 := ndC_length hok.1
  have l2 := ndC_length hok.2
  refine ⟨g, _, _, e, hg, hok.1, hok.2, e3, fun k v hk => ?_, fun k v hk => ?_⟩
  · have hk2 := (List.getElem?_eq_some_iff.1 hk).1
    have := hr (j * 68 + k) v (by
      rw [e1, List.getElem?_append_right (by omega), e2, Nat.add_sub_cancel_left, e4, List.getElem?_append_left hk2]; exact hk)
    rw [Nat.zero_add] at this; exact this
  · have hk2 := (List.getElem?_eq_some_iff.1 hk).1
    have := hr (j * 68 + 34 + k) v (by
      rw [e1, List.getElem?_append_right (by omega), e2, show j * 68 + 34 + k - j * 68 = 34 + k by omega, e4, List.getElem?_append_right (by omega), l1, Nat.add_sub_cancel_left, List.getElem?_append_left hk2]; exact hk)
    rw [Nat.zero_add] at this; exact this
theorem conv_rd (w : World) (s : ByteArray) : Rd (Lib.bytesWorld w 5 s) (Lib.bytesWorld w 5 s).heap.size (some ⟨w.heap.size, 0, none⟩) (strL s) := fun _ =>
  ⟨w.heap.size, 0, rfl, by rw [Lib.bytesWorld_size]; exact Nat.lt_succ_self _, fun j hj => by
    rw [Nat.zero_add, Lib.bytesWorld_cell w _ s j (by rw [strL_length] at hj; exact hj)]
    have hj2 : j < s.data.toList.length := by rw [strL_length] at hj; simpa using hj
    have e : (strL s).getD j 0 = (s.data.toList.getD j 0).toNat := by
      unfold strL
      rw [List.getD_eq_getElem?_getD, List.getD_eq_getElem?_getD, List.getElem?_map]
      rw [List.getElem?_eq_getElem hj2]; rfl
    rw [e]⟩
end Go.Proofs.YtgcmbiegbclhmaaDoor
