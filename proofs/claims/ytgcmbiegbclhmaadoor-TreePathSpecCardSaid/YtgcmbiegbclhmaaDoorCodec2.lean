/- sizar/codec: numeral, unsigned. -/
import Derived.Test.YtgcmbiegbclhmaaDoorBytes
import Derived.Test.YtgcmbiegbclhmaaDoorCodec
import Derived.IntWalk
namespace Go.Proofs.YtgcmbiegbclhmaaDoor
open Go.RowKit SzSha SzTree
set_option linter.unusedVariables false
set_option maxRecDepth 100000
/-- a slice that the call made grew: its own block alone may have changed, or it lies in a new one -/
def Grew (v v' : Value) (w w' : World) : Prop := w.grownBy w' v.ownBlock ∧ (v'.ownBlock = v.ownBlock ∨ ∃ g, v'.ownBlock = some g ∧ w.heap.size ≤ g)
theorem Grew.refl (v : Value) (w : World) : Grew v v w w := ⟨⟨rfl, rfl, rfl, Nat.le_refl _, fun _ _ _ => rfl⟩, .inl rfl⟩
theorem Grew.trans {v v1 v2 : Value} {w w1 w2 : World} (h : Grew v v1 w w1) (k : Grew v1 v2 w1 w2) : Grew v v2 w w2 := by
  refine ⟨⟨k.1.os.trans h.1.os, k.1.tape.trans h.1.tape, k.1.output.trans h.1.output, Nat.le_trans h.1.size k.1.size, fun i hi hne => (k.1.block i (Nat.lt_of_lt_of_le hi h.1.size) (fun e => ?_)).trans (h.1.block i hi hne)⟩, ?_⟩
  · rcases h.2 with e1 | ⟨g, e1, hg⟩
    · exact hne (e.trans e1)
    · rw [e1] at e
      injection e with e
      omega
  · rcases k.2 with e1 | ⟨g, e1, hg⟩
    · rcases h.2 with e2 | ⟨g, e2, hg⟩
      · exact .inl (e1.trans e2)
      · exact .inr ⟨g, e1.trans e2, hg⟩
    · exact .inr ⟨g, e1, Nat.le_trans h.1.size hg⟩
theorem Grew.ahead {v v' : Value} {w w1 w2 : World} (hb : Below w.heap.size w w1) (k : Grew v v' w1 w2) : Grew v v' w w2 := by
  refine ⟨⟨k.1.os.trans hb.os, k.1.tape.trans hb.tape, k.1.output.trans hb.output, Nat.le_trans hb.size k.1.size, fun i hi hne => (k.1.block i (Nat.lt_of_lt_of_le hi hb.size) hne).trans (hb.block i hi)⟩, ?_⟩
  rcases k.2 with e1 | ⟨g, e1, hg⟩
  · exact .inl e1
  · exact .inr ⟨g, e1, Nat.le_trans hb.size hg⟩
theorem Grew.then {v v' : Value} {w w1 w2 : World} (k : Grew v v' w w1) (hb : Below w1.heap.size w1 w2) : Grew v v' w w2 :=
  ⟨⟨hb.os.trans k.1.os, hb.tape.trans k.1.tape, hb.output.trans k.1.output, Nat.le_trans k.1.size hb.size, fun i hi hne => (hb.block i (Nat.lt_of_lt_of_le hi k.1.size)).trans (k.1.block i hi hne)⟩, k.2⟩
theorem Grew.below {v v' : Value} {w w' : World} {base : Nat} (k : Grew v v' w w') (hb : base ≤ w.heap.size) (hv : ∀ g, v.ownBlock = some g → base ≤ g) : Below base w w' :=
  ⟨k.1.os, k.1.tape, k.1.output, k.1.size, fun i hi => k.1.block i (by omega) (fun e => by have := hv i e.symm; omega)⟩
theorem wpList_append_grew {w : World} {ops : Array Oper} {rest : List Oper} {o : Oper} {a : Act} {Q : Exit → Act → World → Prop} (hgd : o.guard = none) (s x : Operand)
    (ho : o.op = .call { callee := .builtin .append, args := #[s, x], argTypes := #[43, 43] })
    (base : Nat) (v : Value) (l r : List Nat) (hs : a.eval s = v) (hown : Hid (OwnB w base v l)) (A : Option Addr) (m c : Nat) (hx : a.eval x = .slice A m c) (hm : Hid (r.length = m)) (hn : A = none → c = 0)
    (hr : Hid (Rd w w.heap.size A r)) (hlen : l.length + m ≤ 1099511627776) (hbase : base ≤ w.heap.size)
    (h : ∀ v' w', Hid (OwnB w' base v' (l ++ r)) → Hid (Grew v v' w w') → wpList Tryd.prog ops Q rest (a.put o.dst v') w') : wpList Tryd.prog ops Q (o :: rest) a w := by
  obtain ⟨i0, hi, hz0, hz1, hz2⟩ := info_parts info_u8
  obtain rfl := hm.out
  rcases A with _ | ad
  · obtain rfl := hn rfl
    have h0 : r = [] := by
      apply Classical.byContradiction
      intro hne
      obtain ⟨g, off, e, _⟩ := hr.out (List.length_pos_iff.2 hne)
      cases e
    subst h0
    refine wpList_append_own_none hgd s x _ ho base _ i0 1 Tryd.underlying43 hi v _ _ hs hown.out hx ?_
    exact h v w (Lib.hid (by rw [List.append_nil]; exact hown.out)) (Lib.hid (Grew.refl _ _))
  · refine wpList_append_own_at _ hgd s x _ ho base _ i0 _ 1 1 Tryd.underlying43 hi hz0 hz1 hz2 rfl (by omega) v _ _ hs hown.out ad r.length c (r.map fun x => Value.int .u8 (x : Nat)) hx (by simp) (fun j u hu => ?_) (fun u hu => ?_) (by unfold maxLen; omega) (by omega) hbase ?_
    · have hj : j < r.length := by have := (List.getElem?_eq_some_iff.1 hu).1; simpa using this
      obtain ⟨g, off, e, _, hc⟩ := hr.out (by omega)
      injection e with e
      subst e
      rw [add_row, hc j hj, ← hu, List.getElem?_map, List.getD_eq_getElem?_getD, List.getElem?_eq_getElem hj]
      rfl
    · simp only [List.mem_map] at hu
      obtain ⟨x, _, rfl⟩ := hu
      rfl
    · intro v' w' h1 h2 h3 h4
      refine h v' w' (Lib.hid ?_) (Lib.hid ⟨h2, ?_⟩)
      · unfold OwnB
        rw [List.length_append, List.map_append]; exact h1
      · rcases h4 with e | e
        · exact .inl e
        · exact .inr ⟨_, e, Nat.le_refl _⟩
theorem one_rowU (W : World) (x : Nat) : Rd (W.alloc (.cells #[.int .u8 (x : Nat)] 5)) (W.alloc (.cells #[.int .u8 (x : Nat)] 5)).heap.size (some ⟨W.heap.size, 0, none⟩) [x] := fun _ =>
  ⟨_, 0, rfl, by simp, fun i hi => by
    have : i = 0 := by simpa using hi
    subst this
    rw [Nat.add_zero, cell_of_row _ _ _ _ _ _ (heap_alloc_new W _)]; rfl⟩
theorem or128 (x : Nat) (h : x < 256) : bits .or .u8 (x : Int) 128 = ((x % 128 + 128 : Nat) : Int) := by
  have : ∀ y : Fin 256, bits .or .u8 ((y : Nat) : Int) 128 = (((y : Nat) % 128 + 128 : Nat) : Int) := by decide +kernel
  exact this ⟨x, h⟩
set_option maxRecDepth 100000 in
set_option maxHeartbeats 2000000 in
theorem numeral_any (v : Value) (l : List Nat) (u base : Nat) (w : World) (hO : Hid (OwnB w base v l)) (hl : l.length ≤ 1099511620000) (hu : u < 18446744073709551616) (hb : base ≤ w.heap.size) :
    Calls Tryd.prog 65 #[v, .int .u64 (u : Nat)] w fun e w' => ∃ v', e = .returned v' ∧ OwnB w' base v' (l ++ num u) ∧ Grew v v' w w' := by
  go_enter Tryd.func65, Tryd.ntmps65
  go_wp2_with fail
  go_loopw [0, 1] (fun v2 i wr => ∃ j k : Nat, j ≤ 10 ∧ i = .int .u64 (k : Nat) ∧ Hid (k = u / 128 ^ j ∧ ∀ t, t < j → 128 ≤ u / 128 ^ t) ∧ Hid (OwnB wr base v2 (l ++ numP j u)) ∧ Hid (Grew v v2 w wr)) (fun _ i _ => (intOf i).toNat)
  case atStart => exact ⟨0, u, by omega, rfl, Lib.hid ⟨by simp, fun t ht => by omega⟩, Lib.hid (by rw [numP, List.append_nil]; exact hO.out), Lib.hid (Grew.refl _ _)⟩
  case round =>
    clear hO
    obtain ⟨j, k, hj, rfl, HK, hO, hB⟩ := hrel
    by_cases hlt : 128 ≤ k
    · have hj9 : j < 10 := by
        rcases Nat.lt_or_ge j 10 with h | h
        · exact h
        · exfalso
          have e : j = 10 := by omega
          have := HK.out.1
          rw [e, Nat.div_eq_of_lt (by omega)] at this
          omega
      have hkl : k < 18446744073709551616 := by have := HK.out.1; have := Nat.div_le_self u (128 ^ j); omega
      obtain ⟨x, HX⟩ : ∃ x : Nat, Hid (k % 256 = x) := ⟨_, Lib.hid rfl⟩
      have hx : (k : Int) % 256 = (x : Int) := by rw [← HX.out]; omega
      obtain ⟨y, HY⟩ : ∃ y : Nat, Hid (x % 128 + 128 = y) := ⟨_, Lib.hid rfl⟩
      have hy : bits .or .u8 (x : Int) 128 = (y : Int) := by rw [or128 x (by rw [← HX.out]; omega), HY.out]
      obtain ⟨m, HM⟩ : ∃ m : Nat, Hid (k / 128 = m) := ⟨_, Lib.hid rfl⟩
      have hm : (k : Int) / 128 = (m : Int) := by rw [← HM.out]; omega
      have d1 : decide ((128 : Int) ≤ (k : Int)) = true := decide_eq_true (by omega)
      have hlen : (l ++ numP j u).length + 1 ≤ 1099511627776 := by rw [List.length_append, numP_length]; omega
      have HB1 := Lib.hid (hB.out.then ((Below.refl _ _).alloc (Nat.le_refl _) (.cells #[.int .u8 (y : Nat)] 5)))
      have HO1 : Hid (OwnB (wr.alloc (.cells #[.int .u8 (y : Nat)] 5)) base _ (l ++ numP j u)) := Lib.hid (hO.out.below ((Below.refl _ _).alloc (Nat.le_refl _) _))
      have HS1 := Lib.hid (Nat.le_trans hb HB1.out.1.size)
      go_wp2_with (at_builtin; refine wpList_append_grew rfl (.tmp 9) (.tmp 13) rfl base _ _ [y] rfl HO1 (some ⟨wr.heap.size, 0, none⟩) 1 1 rfl (Lib.hid rfl) (fun h => by cases h) (Lib.hid (one_rowU wr y)) hlen HS1.out ?_; intro v2 w2 HO2 HB2)
      go_roundw
      case rel =>
        refine ⟨j + 1, m, by omega, rfl, Lib.hid ⟨by rw [← HM.out, HK.out.1, Nat.div_div_eq_div_mul, ← Nat.pow_succ], fun t ht => ?_⟩, Lib.hid ?_, Lib.hid (HB1.out.trans HB2.out)⟩
        · rcases Nat.lt_or_ge t j with h | h
          · exact HK.out.2 t h
          · have e : t = j := by omega
            rw [e, ← HK.out.1]; exact hlt
        · have e : u / 128 ^ j % 128 + 128 = y := by rw [← HK.out.1, ← HY.out, ← HX.out]; omega
          rw [numP_snoc, e, ← List.append_assoc]; exact HO2.out
      case measure => have := HM.out; simp [intOf]; omega
    · have d1 : decide ((128 : Int) ≤ (k : Int)) = false := decide_eq_false (by omega)
      have hx : (k : Int) % 256 = (k : Int) := by omega
      have hkk : k < 256 := by omega
      have hlen : (l ++ numP j u).length + 1 ≤ 1099511627776 := by rw [List.length_append, numP_length]; omega
      have HB1 := Lib.hid (hB.out.then ((Below.refl _ _).alloc (Nat.le_refl _) (.cells #[.int .u8 (k : Nat)] 5)))
      have HO1 : Hid (OwnB (wr.alloc (.cells #[.int .u8 (k : Nat)] 5)) base _ (l ++ numP j u)) := Lib.hid (hO.out.below ((Below.refl _ _).alloc (Nat.le_refl _) _))
      have HS1 := Lib.hid (Nat.le_trans hb HB1.out.1.size)
      have HE : Hid (l ++ num u = l ++ numP j u ++ [k]) := Lib.hid (by
        rw [num, numB_stop 10 j u HK.out.2 (by rw [← HK.out.1]; omega) hj, ← HK.out.1, List.append_assoc])
      clear hlt
      go_wp2_with (at_builtin; refine wpList_append_grew rfl (.tmp 15) (.tmp 18) rfl base _ _ [k] rfl HO1 (some ⟨wr.heap.size, 0, none⟩) 1 1 rfl (Lib.hid rfl) (fun h => by cases h) (Lib.hid (one_rowU wr k)) hlen HS1.out ?_; intro v2 w2 HO2 HB2)
      go_ret
      exact ⟨_, rfl, by rw [HE.out]; exact HO2.out, HB1.out.trans HB2.out⟩
theorem xor0 (a : Int) (h0 : 0 ≤ a) (h : a < 18446744073709551616) : bits .xor .u64 a 0 = a := by
  show IntKind.u64.wrap ((BitVec.ofInt 64 a ^^^ BitVec.ofInt 64 0).toNat : Int) = _
  rw [show BitVec.ofInt 64 0 = 0#64 by decide, BitVec.xor_zero, BitVec.toNat_ofInt, IntKind.wrap_u64, show ((2 ^ 64 : Nat) : Int) = 18446744073709551616 from rfl]
  omega
theorem xorAll (a : Int) (h0 : 0 ≤ a) (h : a < 18446744073709551616) : bits .xor .u64 a 18446744073709551615 = 18446744073709551615 - a := by
  show IntKind.u64.wrap ((BitVec.ofInt 64 a ^^^ BitVec.ofInt 64 18446744073709551615).toNat : Int) = _
  rw [show BitVec.ofInt 64 18446744073709551615 = BitVec.allOnes 64 by decide, BitVec.xor_allOnes, BitVec.toNat_not, BitVec.toNat_ofInt, IntKind.wrap_u64, show ((2 ^ 64 : Nat) : Int) = 18446744073709551616 from rfl, show (2 : Nat) ^ 64 = 18446744073709551616 from rfl]
  omega
theorem zigE (z : Int) (h1 : -9223372036854775808 ≤ z) (h2 : z ≤ 9223372036854775807) : bits .xor .u64 (IntKind.u64.wrap (IntKind.u64.wrap z * 2)) (IntKind.u64.wrap (z / 9223372036854775808)) = (zig z : Nat) := by
  simp only [IntKind.wrap_u64]
  unfold zig
  by_cases h : 0 ≤ z
  · rw [if_pos h, show z / 9223372036854775808 % 18446744073709551616 = 0 by omega, xor0 _ (by omega) (by omega)]
    omega
  · rw [if_neg h, show z / 9223372036854775808 % 18446744073709551616 = 18446744073709551615 by omega, xorAll _ (by omega) (by omega)]
    omega
set_option maxRecDepth 100000 in
set_option maxHeartbeats 2000000 in
theorem unsigned_any (z : Int) (w : World) (h1 : -9223372036854775808 ≤ z) (h2 : z ≤ 9223372036854775807) :
    Calls Tryd.prog 66 #[.int .i64 z] w fun e w' => e = .returned (.int .u64 (zig z : Nat)) ∧ w = w' := by
  go_enter Tryd.func66, Tryd.ntmps66
  go_wp2_with fail
  go_ret
  exact ⟨by rw [← zigE z h1 h2]; rfl, rfl⟩
end Go.Proofs.YtgcmbiegbclhmaaDoor
