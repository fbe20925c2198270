/- sizarlaw41.leaves. -/
import Derived.Test.YtgcmbiegbclhmaaDoorTreeLawKit
import Derived.Test.YtgcmbiegbclhmaaDoorArgNd
import Derived.Test.YtgcmbiegbclhmaaDoorTreeSalt
namespace Go.Proofs.YtgcmbiegbclhmaaDoor
open Go.RowKit SzSha SzTree
set_option linter.unusedVariables false
set_option maxRecDepth 100000
def lnOk (x : Ln) : Prop := lOk x.c0 x.c1 x.c2 x.c3 x.c4
instance (x : Ln) : Decidable (lnOk x) := by unfold lnOk; infer_instance
def lnLeaf (x : Ln) (l : List Nat) : Nd := leafN x.c0 x.c1 x.c2 x.c3 x.c4 l
/-- the leaf of the i-th line -/
def lv (ls : List Ln) (b : List Nat) (i : Nat) : Nd := lnLeaf (ls.getD i default) (saltN b 1 i)
def lvs (ls : List Ln) (b : List Nat) : List Nd := (List.range ls.length).map (lv ls b)
def lsB (ls : List Ln) : Bool := ls.all fun x => decide (lnOk x)
theorem lnLeaf_ok {x : Ln} (h : lnOk x) (l : List Nat) : NdOk (lnLeaf x l) := leafN_ok l h
theorem lv_ok {ls : List Ln} {i : Nat} (hi : i < ls.length) (h : lnOk ls[i]) (b : List Nat) : NdOk (lv ls b i) := by
  unfold lv
  rw [show ls.getD i default = ls[i] by simp [List.getD_eq_getElem?_getD, hi]]
  exact lnLeaf_ok h _
theorem saltN_bytes (l : List Nat) (k z : Int) : Bytes (saltN l k z) := tagged_bytes _ _
theorem lnC_one (x : Ln) : (lnC x).toArray.all (·.oneCell') = true := by simp [lnC, Value.oneCell']
theorem lsB_bad {ls : List Ln} {i : Nat} (hi : i < ls.length) (h : ¬ lnOk ls[i]) : lsB ls = false := by
  unfold lsB
  rw [List.all_eq_false]
  exact ⟨ls[i], List.getElem_mem _, by simpa using h⟩
theorem size5 (x : Ln) : (Tryd.prog.info? 49).map (·.size) = some (lnC x).toArray.size := by show _ = some 5; kernel_rfl
theorem size5' (x : Ln) : (Tryd.prog.info? 49).map (·.size) = some (lnC x).length := by show _ = some 5; kernel_rfl
theorem InLn.below {w w' : World} {A : Option Addr} {n c : Nat} {ls : List Ln} (h : InLn w A n c ls) (hb : Below w.heap.size w w') : InLn w' A n c ls :=
  ⟨h.len, h.cap, h.none_, h.ok, fun h0 => by
    obtain ⟨g, off, e, hg, hr⟩ := h.rd h0
    exact ⟨g, off, e, Nat.lt_of_lt_of_le hg hb.size, rangeAt_below hr hg hb⟩⟩
theorem ln_flat : ∀ (ls : List Ln) (i : Nat) (hi : i < ls.length) (j : Nat) (v : Value), (lnC ls[i])[j]? = some v → (ls.flatMap lnC)[i * 5 + j]? = some v
  | [], i, hi, _, _, _ => by simp at hi
  | n :: ls, 0, _, j, v, h => by
    have hj : j < (lnC n).length := (List.getElem?_eq_some_iff.1 h).1
    rw [List.flatMap_cons, Nat.zero_mul, Nat.zero_add, List.getElem?_append_left hj]
    exact h
  | n :: ls, i + 1, hi, j, v, h => by
    have ih := ln_flat ls i (by simpa using hi) j v h
    have hl : (lnC n).length = 5 := rfl
    rw [List.flatMap_cons, List.getElem?_append_right (by omega), hl, show (i + 1) * 5 + j - 5 = i * 5 + j by omega]
    exact ih
theorem ln_range {w : World} {g off : Nat} {ls : List Ln} (h : w.rangeAt g off (ls.flatMap lnC)) (i : Nat) (hi : i < ls.length) : w.rangeAt g (off + i * 5) (lnC ls[i]) := fun j v hj => by
  have := h (i * 5 + j) v (ln_flat ls i hi j v hj)
  rwa [← Nat.add_assoc] at this

def wLv (M : Nat) (x : Ln) (b : List Nat) (z : Nat) (r : Nd) (er : Int) : Nat → Value → Value → World → Prop
  | 0, fv, _, _ => fv = Value.agg (lnC x).toArray
  | 1, fv, _, _ => fv = dgV b
  | 2, fv, _, _ => fv = Value.int .i64 ((z : Nat))
  | 3, fv, _, _ => fv = dgV (saltN b 1 z)
  | 4, fv, _, _ => fv = Value.tuple #[ndV r, .int .i64 er]
  | 5, fv, _, _ => fv = Value.tuple #[ndV r, .int .i64 er]
  | 6, fv, _, _ => fv = ndV r
  | 7, fv, _, _ => fv = Value.int .i64 (er)
  | 8, fv, fu, fw => True
  | 9, fv, fu, fw => ∃ q, fu = .pointer (some ⟨q, 0, none⟩) ∧ M ≤ q ∧ fw.heap[q]? = some (.cells (ndC r).toArray 26 (0, 0))
  | 10, fv, _, _ => fv = Value.int .i64 (er)
  | _, _, _, _ => True
theorem wLv_below {M : Nat} {x : Ln} {b : List Nat} {z : Nat} {r : Nd} {er : Int} {w w' : World} (hb : Below w.heap.size w w') : ∀ j v u, wLv M x b z r er j v u w → wLv M x b z r er j v u w'
  | 0, v, u, h => h
  | 1, v, u, h => h
  | 2, v, u, h => h
  | 3, v, u, h => h
  | 4, v, u, h => h
  | 5, v, u, h => h
  | 6, v, u, h => h
  | 7, v, u, h => h
  | 8, v, u, h => h
  | 9, v, u, ⟨q, h1, h2, h3⟩ => ⟨q, h1, h2, (hb.block q (Array.getElem?_eq_some_iff.1 h3).1).trans h3⟩
  | 10, v, u, h => h
  | n + 11, v, u, h => trivial
theorem wLv_pure {M : Nat} {x : Ln} {b : List Nat} {z : Nat} {r : Nd} {er : Int} {w w' : World} : ∀ j v u, j ≠ 8 → j ≠ 9 → wLv M x b z r er j v u w → wLv M x b z r er j v u w'
  | 0, v, u, _, _, h => h
  | 1, v, u, _, _, h => h
  | 2, v, u, _, _, h => h
  | 3, v, u, _, _, h => h
  | 4, v, u, _, _, h => h
  | 5, v, u, _, _, h => h
  | 6, v, u, _, _, h => h
  | 7, v, u, _, _, h => h
  | 8, v, u, hh, _, _ => absurd rfl hh
  | 9, v, u, _, hh, _ => absurd rfl hh
  | 10, v, u, _, _, h => h
  | n + 11, v, u, _, _, h => trivial

set_option maxHeartbeats 8000000 in
theorem leaves_any (ls : List Ln) (b : List Nat) (A : Option Addr) (n c : Nat) (w : World) (hn : n ≤ 1000) (HI : Hid (InLn w A n c ls)) (hl : Hid (b.length = 32)) (hb : Hid (Bytes b)) (hT : Hid (Tabs w)) :
    Calls Tryd.prog 29 #[.slice A n c, dgV b] w fun e w' => ∃ A' n' c', e = .returned (.tuple #[.slice A' n' c', .bool (lsB ls)]) ∧ InN w' A' n' c' (bif lsB ls then lvs ls b else []) ∧ Below w.heap.size w w' := by
  have HNE := Lib.hid (show ls.length = n from HI.out.len)
  obtain ⟨X, HX⟩ : ∃ X, Hid ((b.map fun y => Value.int .u8 (y : Nat)).toArray = X) := ⟨_, Lib.hid rfl⟩
  have HDX : Hid (dgV b = .agg X) := Lib.hid (by unfold dgV; rw [HX.out])
  have HSX : Hid ((Tryd.prog.info? 24).map (·.size) = some X.size) := Lib.hid (by rw [← HX.out]; exact size32 _ hl.out)
  rw [HDX.out]
  have HB0 := Lib.hid ((Below.refl _ w).alloc (Nat.le_refl _) (.cells X 24))
  have HR0 := Lib.hid (heap_alloc_new w (.cells X 24))
  go_enter Tryd.func29, Tryd.ntmps29
  go_wp2_with fail
  go_loopw [6, 13] (fun v t wr => ∃ (j : Nat) (A' : Option Addr) (n' c' : Nat), j ≤ n ∧ t = .int .i64 (j : Nat) ∧ v = .slice A' n' c' ∧ Hid (OwnN wr (w.heap.size + 1) (.slice A' n' c') ((List.range j).map (lv ls b))) ∧ Hid ((ls.take j).all (fun x => decide (lnOk x)) = true) ∧ Hid (wr.heap[w.heap.size]? = some (.cells X 24 (0, 0))) ∧ Hid (Below w.heap.size w wr)) (fun _ t _ => n - (intOf t).toNat)
  case atStart => exact ⟨0, none, 0, 0, by omega, rfl, rfl, Lib.hid (OwnN.nil _ _), Lib.hid rfl, HR0, HB0⟩
  case round =>
    clear HB0 HR0
    obtain ⟨j, A', n', c', hj, rfl, rfl, HO, HV, HR, HB⟩ := hrel
    by_cases hlt : j < n
    · have d1 : decide ((j : Int) < (n : Int)) = true := decide_eq_true (by omega)
      have d2 : decide (j < n) = true := decide_eq_true hlt
      have hin := HI.out.below HB.out
      obtain ⟨g, off, rfl, hg, hr⟩ := hin.rd (by rw [HNE.out]; omega)
      obtain ⟨x, HQ⟩ : ∃ x, Hid (ls[j]'(by rw [HNE.out]; exact hlt) = x) := ⟨_, Lib.hid rfl⟩
      have HRX : Hid (wr.rangeAt g (off + j * 5) (lnC x)) := Lib.hid (by rw [← HQ.out]; exact ln_range hr j (by rw [HNE.out]; exact hlt))
      have HXB : Hid (LnOk x) := Lib.hid (by rw [← HQ.out]; exact HI.out.ok _ (List.getElem_mem _))
      have HS5 := Lib.hid (size5 x)
      have HRZ := Lib.hid (heap_alloc_new wr (.cells #[.int .i64 0, .int .i64 0, .int .i64 0, .int .i64 0, .int .i64 0] 49))
      obtain ⟨W1, HW1⟩ : ∃ W, Hid ((wr.alloc (.cells #[.int .i64 0, .int .i64 0, .int .i64 0, .int .i64 0, .int .i64 0] 49)).setRow wr.heap.size (lnC x).toArray = W) := ⟨_, Lib.hid rfl⟩
      have hlr := laid_row wr #[.int .i64 0, .int .i64 0, .int .i64 0, .int .i64 0, .int .i64 0] (lnC x).toArray 49
      rw [HW1.out] at hlr
      have HBW := Lib.hid (HB.out.trans (hlr.1.mono HB.out.size))
      have HRL := Lib.hid hlr.2.2
      have HRD := Lib.hid (row_kept HR.out hlr.1)
      have HOW := Lib.hid (HO.out.below hlr.1)
      have hcap := HI.out.cap
      have HLN : Hid (((List.range j).map (lv ls b)).length ≤ 100000) := Lib.hid (by simp; omega)
      obtain ⟨S, HS⟩ : ∃ S, Hid (saltN b 1 j = S) := ⟨_, Lib.hid rfl⟩
      obtain ⟨r, HRR⟩ : ∃ r, Hid (leafR x.c0 x.c1 x.c2 x.c3 x.c4 (saltN b 1 j) = r) := ⟨_, Lib.hid rfl⟩
      obtain ⟨er, HER⟩ : ∃ er, Hid (leafE x.c0 x.c1 x.c2 x.c3 x.c4 = er) := ⟨_, Lib.hid rfl⟩
      have HRO : Hid (NdOk r) := Lib.hid (by rw [← HRR.out]; exact leafR_ok _ _ _ _ _ _)
      have HS34 := Lib.hid (size34' HRO.out)
      have HT34 : Hid (34 = (ndC r).toArray.size) := Lib.hid (by simp [ndC_length HRO.out])
      have hjb : (j : Int) ≤ 9223372036854775807 := by omega
      have hjb2 : -9223372036854775808 ≤ (j : Int) := by omega
      clear hin hg hr hlr
      go_wp2_with (first | (with_reducible refine wpList_load_mid rfl 49 (.tmp 16) rfl g (off + j * 5) rfl (lnC x) _ HRX.out Tryd.underlying49 rfl (size5' x) ?_) | (refine wpList_store_row rfl 49 (.tmp 8) (.tmp 17) rfl wr.heap.size (lnC x).toArray rfl rfl 49 _ HRZ.out HS5.out rfl (lnC_one x) ?_; rw [HW1.out]))
      dsimp only [Act.put]
      refine region_flow3 (by kernel_rfl) (by kernel_rfl) (fun i => Nat.beq i 9 || Nat.beq i 10) (fun i => bif Nat.beq i 9 then 8 else i) (by kernel_rfl) (fun fx => #[Value.slice (some ⟨g, off, none⟩) n c, Value.agg X, undef, Value.pointer (some ⟨w.heap.size, 0, none⟩), u4, u5, Value.slice A' n' c', Value.int .i64 ((j : Nat)), Value.pointer (some ⟨wr.heap.size, 0, none⟩), fx 8, fx 10, Value.slice (some ⟨g, off, none⟩) n c, Value.int .i64 ((n : Nat)), Value.int .i64 ((j : Nat)), Value.bool true, Value.int .i64 ((j : Nat)), Value.pointer (some ⟨g, off + j * 5, none⟩), Value.agg (lnC x).toArray, fx 5, fx 0, fx 1, fx 2, fx 3, fx 4, fx 6, fx 7, u26, u27, u28, u29, u30, u31, u32, undef]) (fun i => bif Nat.beq i 0 then u19 else bif Nat.beq i 1 then u20 else bif Nat.beq i 2 then u21 else bif Nat.beq i 3 then u22 else bif Nat.beq i 4 then u23 else bif Nat.beq i 5 then u18 else bif Nat.beq i 6 then u24 else bif Nat.beq i 7 then u25 else bif Nat.beq i 8 then u9 else bif Nat.beq i 10 then u10 else undef) (fun L fx w' => Below W1.heap.size W1 w' ∧ (L 8 = true → L 9 = false → NewN W1.heap.size (fx 8) w')) (fun fi fv fu fw => wLv W1.heap.size x b j r er fi fv fu fw) ⟨(Below.refl _ _).drew, fun h => by cases h⟩ ?_ ?_
      · refine ⟨?_, ?_, ?_, ?_, ?_, ?_, ?_, ?_, ?_, ?_, ?_, trivial⟩
        all_goals intro L fx w' hC hi hcl hdn hd
        · have hrow := row_kept HRL.out hC.1
          refine wpList_load_row rfl 49 (.tmp 8) rfl wr.heap.size rfl 49 _ (0, 0) _ hrow Tryd.underlying49 rfl HS5.out ?_
          clear hd
          go_wp2_with fail
          exact ⟨_, rfl, ⟨hC.1, fun h8 h9 => hC.2 h8 h9⟩, rfl, fun _ _ _ _ _ h => h⟩
        · have hrow := row_kept HRD.out hC.1
          refine wpList_load_row rfl 24 (.tmp 3) rfl w.heap.size rfl 24 _ (0, 0) _ hrow Tryd.underlying24 rfl HSX.out ?_
          clear hd
          rw [← HDX.out]
          go_wp2_with fail
          exact ⟨_, rfl, ⟨hC.1, fun h8 h9 => hC.2 h8 h9⟩, rfl, fun _ _ _ _ _ h => h⟩
        · go_wp2_with fail
          exact ⟨_, rfl, ⟨hC.1, fun h8 h9 => hC.2 h8 h9⟩, rfl, fun _ _ _ _ _ h => h⟩
        · have h1 : fx 1 = dgV b := hd.1 rfl
          have h2 : fx 2 = Value.int .i64 ((j : Nat)) := hd.2.1 rfl
          have HTk := Lib.hid (hT.out.below (HBW.out.trans (hC.1.mono HBW.out.size)))
          go_wp2_with fail
          refine (salt_any b 1 (j : Int) w' hl hb (by omega) (by omega) hjb2 hjb HTk).mono ?_
          rintro e w2 ⟨rfl, hq⟩
          go_wp2_with fail
          exact ⟨_, by show _ = Act.mk #[Value.slice (some ⟨g, off, none⟩) n c, Value.agg X, undef, Value.pointer (some ⟨w.heap.size, 0, none⟩), u4, u5, Value.slice A' n' c', Value.int .i64 ((j : Nat)), Value.pointer (some ⟨wr.heap.size, 0, none⟩), fx 8, fx 10, Value.slice (some ⟨g, off, none⟩) n c, Value.int .i64 ((n : Nat)), Value.int .i64 ((j : Nat)), Value.bool true, Value.int .i64 ((j : Nat)), Value.pointer (some ⟨g, off + j * 5, none⟩), Value.agg (lnC x).toArray, fx 5, fx 0, fx 1, fx 2, dgV (saltN b 1 j), fx 4, fx 6, fx 7, u26, u27, u28, u29, u30, u31, u32, undef] []; rw [h1, h2] <;> rfl, ⟨hC.1.trans (hq.mono hC.1.size), fun h8 h9 => (hC.2 h8 h9).below hq⟩, rfl, fun j v t _ _ h => wLv_below hq j v t h⟩
        · have h0 : fx 0 = Value.agg (lnC x).toArray := hd.1 rfl
          have h3 : fx 3 = dgV (saltN b 1 j) := hd.2.1 rfl
          have HTk := Lib.hid (hT.out.below (HBW.out.trans (hC.1.mono HBW.out.size)))
          go_wp2_with fail
          refine (leaf_any x.c0 x.c1 x.c2 x.c3 x.c4 (saltN b 1 j) w' (Lib.hid (saltN_length _ _ _)) (Lib.hid (saltN_bytes _ _ _)) HTk).mono ?_
          rintro e w2 ⟨rfl, hq⟩
          rw [HRR.out, HER.out]
          go_wp2_with fail
          exact ⟨_, by show _ = Act.mk #[Value.slice (some ⟨g, off, none⟩) n c, Value.agg X, undef, Value.pointer (some ⟨w.heap.size, 0, none⟩), u4, u5, Value.slice A' n' c', Value.int .i64 ((j : Nat)), Value.pointer (some ⟨wr.heap.size, 0, none⟩), fx 8, fx 10, Value.slice (some ⟨g, off, none⟩) n c, Value.int .i64 ((n : Nat)), Value.int .i64 ((j : Nat)), Value.bool true, Value.int .i64 ((j : Nat)), Value.pointer (some ⟨g, off + j * 5, none⟩), Value.agg (lnC x).toArray, fx 5, fx 0, fx 1, fx 2, fx 3, Value.tuple #[ndV r, .int .i64 er], fx 6, fx 7, u26, u27, u28, u29, u30, u31, u32, undef] []; rw [h0, h3] <;> rfl, ⟨hC.1.trans (hq.mono hC.1.size), fun h8 h9 => (hC.2 h8 h9).below hq⟩, rfl, fun j v t _ _ h => wLv_below hq j v t h⟩
        · have h4 : fx 4 = Value.tuple #[ndV r, .int .i64 er] := hd.1 rfl
          go_wp2_with fail
          exact ⟨_, by show _ = Act.mk #[Value.slice (some ⟨g, off, none⟩) n c, Value.agg X, undef, Value.pointer (some ⟨w.heap.size, 0, none⟩), u4, u5, Value.slice A' n' c', Value.int .i64 ((j : Nat)), Value.pointer (some ⟨wr.heap.size, 0, none⟩), fx 8, fx 10, Value.slice (some ⟨g, off, none⟩) n c, Value.int .i64 ((n : Nat)), Value.int .i64 ((j : Nat)), Value.bool true, Value.int .i64 ((j : Nat)), Value.pointer (some ⟨g, off + j * 5, none⟩), Value.agg (lnC x).toArray, Value.tuple #[ndV r, .int .i64 er], fx 0, fx 1, fx 2, fx 3, fx 4, fx 6, fx 7, u26, u27, u28, u29, u30, u31, u32, undef] []; rw [h4] <;> rfl, ⟨hC.1, fun h8 h9 => hC.2 h8 h9⟩, rfl, fun _ _ _ _ _ h => h⟩
        · have h5 : fx 5 = Value.tuple #[ndV r, .int .i64 er] := hd.1 rfl
          go_wp2_with fail
          exact ⟨_, by show _ = Act.mk #[Value.slice (some ⟨g, off, none⟩) n c, Value.agg X, undef, Value.pointer (some ⟨w.heap.size, 0, none⟩), u4, u5, Value.slice A' n' c', Value.int .i64 ((j : Nat)), Value.pointer (some ⟨wr.heap.size, 0, none⟩), fx 8, fx 10, Value.slice (some ⟨g, off, none⟩) n c, Value.int .i64 ((n : Nat)), Value.int .i64 ((j : Nat)), Value.bool true, Value.int .i64 ((j : Nat)), Value.pointer (some ⟨g, off + j * 5, none⟩), Value.agg (lnC x).toArray, fx 5, fx 0, fx 1, fx 2, fx 3, fx 4, ndV r, fx 7, u26, u27, u28, u29, u30, u31, u32, undef] []; rw [h5] <;> rfl, ⟨hC.1, fun h8 h9 => hC.2 h8 h9⟩, rfl, fun _ _ _ _ _ h => h⟩
        · have h5 : fx 5 = Value.tuple #[ndV r, .int .i64 er] := hd.1 rfl
          go_wp2_with fail
          exact ⟨_, by show _ = Act.mk #[Value.slice (some ⟨g, off, none⟩) n c, Value.agg X, undef, Value.pointer (some ⟨w.heap.size, 0, none⟩), u4, u5, Value.slice A' n' c', Value.int .i64 ((j : Nat)), Value.pointer (some ⟨wr.heap.size, 0, none⟩), fx 8, fx 10, Value.slice (some ⟨g, off, none⟩) n c, Value.int .i64 ((n : Nat)), Value.int .i64 ((j : Nat)), Value.bool true, Value.int .i64 ((j : Nat)), Value.pointer (some ⟨g, off + j * 5, none⟩), Value.agg (lnC x).toArray, fx 5, fx 0, fx 1, fx 2, fx 3, fx 4, fx 6, Value.int .i64 (er), u26, u27, u28, u29, u30, u31, u32, undef] []; rw [h5] <;> rfl, ⟨hC.1, fun h8 h9 => hC.2 h8 h9⟩, rfl, fun _ _ _ _ _ h => h⟩
        · go_wp2_with fail
          rw [← zeroN_cells]
          have hbb : Below w'.heap.size w' (w'.alloc (.cells (ndC zeroN).toArray 26)) := (Below.refl _ _).alloc (Nat.le_refl _) _
          exact ⟨_, rfl, ⟨hC.1.trans (hbb.mono hC.1.size), fun _ _ => ⟨_, rfl, hC.1.size, heap_alloc_new _ _⟩⟩, trivial, fun j v t _ _ h => wLv_below hbb j v t h⟩
        · have H8 := Lib.hid (hd.1 rfl)
          have h6 : fx 6 = ndV r := hd.2.1 rfl
          obtain ⟨q, h8, hq, hrow⟩ := hC.2 (hdn 8 (by kernel_rfl)) hi
          refine wpList_store_row rfl 26 (.tmp 9) (.tmp 24) rfl q (ndC r).toArray h8 h6 26 _ hrow HS34.out HT34.out (ndC_one _) ?_
          clear hd
          go_wp2_with fail
          exact ⟨undef, by rw [← h8, ← h6]; rfl, ⟨below_setRow hC.1 hq _, fun _ h => (updB_self h).elim⟩, ⟨q, h8, hq, setRow_heap _ _ _ _ _ _ hrow⟩, fun m v t hj _ h => by
          by_cases e : m = 8
          · subst e; trivial
          · exact wLv_pure m v t e (fun e => by subst e; rw [hi] at hj; cases hj) h⟩
        · have h7 : fx 7 = Value.int .i64 (er) := hd.1 rfl
          go_wp2_with fail
          exact ⟨_, by show _ = Act.mk #[Value.slice (some ⟨g, off, none⟩) n c, Value.agg X, undef, Value.pointer (some ⟨w.heap.size, 0, none⟩), u4, u5, Value.slice A' n' c', Value.int .i64 ((j : Nat)), Value.pointer (some ⟨wr.heap.size, 0, none⟩), fx 8, Value.int .i64 (er), Value.slice (some ⟨g, off, none⟩) n c, Value.int .i64 ((n : Nat)), Value.int .i64 ((j : Nat)), Value.bool true, Value.int .i64 ((j : Nat)), Value.pointer (some ⟨g, off + j * 5, none⟩), Value.agg (lnC x).toArray, fx 5, fx 0, fx 1, fx 2, fx 3, fx 4, fx 6, fx 7, u26, u27, u28, u29, u30, u31, u32, undef] []; rw [h7] <;> rfl, ⟨hC.1, fun h8 h9 => hC.2 h8 h9⟩, rfl, fun _ _ _ _ _ h => h⟩
      · intro L fx w' hC hS
        have H9 := Lib.hid (hS 9 (by decide) rfl)
        have H10 := Lib.hid (hS 10 (by decide) rfl)

        obtain ⟨q, e8, hq, hrow⟩ := H9.out
        replace e8 : fx 8 = _ := e8
        have h10 : fx 10 = .int .i64 er := H10.out
        have HB9 := Lib.hid (HBW.out.trans (hC.1.mono HBW.out.size))
        have HRD9 := Lib.hid (row_kept HRD.out hC.1)
        have HO9 := Lib.hid (HOW.out.below hC.1)
        have HQR := Lib.hid hrow
        rw [e8, h10]
        clear hS hC H9 H10 hrow h10 e8 HBW HRD HOW
        by_cases hok : lnOk x
        · have he : er = 0 := by rw [← HER.out]; exact if_pos hok
          have hrr : r = lv ls b j := by
            rw [← HRR.out]
            unfold lv
            rw [show ls.getD j default = ls[j]'(by rw [HNE.out]; exact hlt) by simp [List.getD_eq_getElem?_getD, show j < ls.length by rw [HNE.out]; exact hlt], HQ.out]
            exact if_pos hok
          have HNX : Hid ((List.range j).map (lv ls b) ++ [r] = (List.range (j + 1)).map (lv ls b)) := Lib.hid (by rw [List.range_succ, List.map_append, hrr]; rfl)
          have HVX : Hid ((ls.take (j + 1)).all (fun x => decide (lnOk x)) = true) := Lib.hid (by
            rw [List.take_succ_eq_append_getElem (by rw [HNE.out]; exact hlt), List.all_append, HV.out, HQ.out]; simp [hok])
          have HA6 := Lib.hid (HO9.out.below ((Below.refl _ w').alloc (Nat.le_refl _) (.cells (flatN [r]).toArray 26)))
          have HRF := Lib.hid (heap_alloc_new w' (.cells (flatN [r]).toArray 26))
          have HRD8 : Hid ((w'.alloc (.cells (flatN [r]).toArray 26)).heap[w.heap.size]? = some (.cells X 24 (0, 0))) := Lib.hid (row_kept HRD9.out ((Below.refl _ w').alloc (Nat.le_refl _) _))
          have hbb := HB9.out.alloc HB9.out.size (.cells (flatN [r]).toArray 26)
          have HSW : Hid (w.heap.size + 1 ≤ (w'.alloc (.cells (flatN [r]).toArray 26)).heap.size) := Lib.hid (by have := (Array.getElem?_eq_some_iff.1 HRD8.out).1; omega)
          have HBB := Lib.hid hbb
          clear hbb hrr hok
          subst he
          go_wp2_with (first | (refine wpList_load_row rfl 26 (.tmp 9) rfl q rfl 26 _ (0, 0) _ HQR.out Tryd.underlying26 rfl HS34.out ?_) | (refine wpList_build_nodes1 rfl (.tmp 29) rfl r rfl HRO.out ?_) | (refine wpList_append_node rfl (.tmp 28) (.tmp 30) rfl (w.heap.size + 1) _ ((List.range j).map (lv ls b)) r rfl HA6 HRO.out w'.heap.size rfl HRF HLN.out HSW.out ?_; intro v2 w2 HO2 HG2; obtain ⟨A2, n2, c2, rfl⟩ := HO2.out.form))
          have HRD7 : Hid (w2.heap[w.heap.size]? = some (.cells X 24 (0, 0))) := Lib.hid ((HG2.out.block _ (Array.getElem?_eq_some_iff.1 HRD8.out).1 (fun e => by have := (HA6.out.block _ e.symm).1; omega)).trans HRD8.out)
          have HB7 := Lib.hid (HBB.out.grown HG2.out (by have := HSW.out; omega) (fun k hk => by have := (HA6.out.block k hk).1; omega))
          rw [HNX.out] at HO2
          go_roundw
          case rel => exact ⟨j + 1, _, _, _, by omega, by go_num, rfl, HO2, HVX, HRD7, HB7⟩
          case measure => first | (simp [intOf]; done) | (simp [intOf]; omega)
        · have he : er = 410 := by rw [← HER.out]; exact if_neg hok
          have HE : Hid (lsB ls = false) := Lib.hid (lsB_bad (i := j) (by rw [HNE.out]; exact hlt) (by rw [HQ.out]; exact hok))
          subst he
          clear hok
          go_wp2_with fail
          refine bodyPost_ret (v := .tuple #[.slice none 0 0, .bool false]) ?_ rfl ⟨none, 0, 0, by rw [HE.out], by rw [HE.out]; exact in_none _, HB9.out⟩
          simp [results, Tryd.results29]
    · have hjn : j = n := by omega
      have d1 : decide ((j : Int) < (n : Int)) = false := decide_eq_false (by omega)
      have d2 : decide (j < n) = false := decide_eq_false hlt
      have HE : Hid (lsB ls = true) := Lib.hid (by
        have := HV.out
        rw [List.take_of_length_le (by rw [HNE.out]; omega)] at this
        exact this)
      have HLV : Hid ((List.range j).map (lv ls b) = lvs ls b) := Lib.hid (by unfold lvs; rw [HNE.out, hjn])
      have hoks : ∀ y ∈ lvs ls b, NdOk y := fun y hy => by
        unfold lvs at hy
        obtain ⟨i, hi, rfl⟩ := List.mem_map.1 hy
        have hi' : i < ls.length := by simpa using hi
        refine lv_ok hi' ?_ b
        have := HE.out
        unfold lsB at this
        have h2 := List.all_eq_true.1 this _ (List.getElem_mem hi')
        simpa using h2
      rw [HLV.out] at HO
      obtain ⟨A3, n3, c3, e3, hin, _⟩ := HO.out.slice hoks
      cases e3
      have HIN := Lib.hid hin
      clear hin hoks hjn
      go_wp2_with fail
      refine bodyPost_ret (v := .tuple #[.slice A' _ c', .bool true]) ?_ rfl ⟨A', _, c', by rw [HE.out], by rw [HE.out]; exact HIN.out, HB.out⟩
      simp [results, Tryd.results29]
end Go.Proofs.YtgcmbiegbclhmaaDoor
