/- sizarlaw42: half, flag, number, right. Guarded loads and comparisons in a region: the operation is known first, then that it is wanted. sizarlaw42.hashed. Slices of slices of bytes; the inputs on a way. sizarlaw42.inputs. -/
import Derived.Test.YtmfmgeapecapiaaDoorDT6
import Derived.Test.YtmfmgeapecapiaaDoorDT2
import Derived.Test.YtmfmgeapecapiaaDoorDT4
import Derived.Deep.MidRow
import Derived.Test.YtmfmgeapecapiaaDoorDT5
import Derived.Test.YtmfmgeapecapiaaDoorDT3
import Derived.Test.YtmfmgeapecapiaaDoorDT14
import Derived.Deep.CutRange
namespace Go.Proofs.YtmfmgeapecapiaaDoor
open Go.RowKit SzSha SzTree
set_option linter.unusedVariables false
set_option maxRecDepth 100000
theorem half_step42 {f k n : Nat} (hlt : 2 * k < n) (hn : n ≤ 1000000) (h : 18446744073709551616 ≤ k * 2 ^ f) : ∃ g, halfF f k n = halfF g (2 * k) n ∧ 18446744073709551616 ≤ 2 * k * 2 ^ g := by
  cases f with
  | zero => rw [Nat.pow_zero] at h; omega
  | succ g =>
    refine ⟨g, ?_, ?_⟩
    · conv => lhs; unfold halfF
      rw [if_pos hlt]
    · rw [Nat.pow_succ] at h
      rw [show 2 * k * 2 ^ g = k * (2 ^ g * 2) by rw [Nat.mul_comm (2 ^ g) 2, ← Nat.mul_assoc, Nat.mul_comm k 2]]
      exact h
theorem half_end42 {f k n : Nat} (hlt : ¬ 2 * k < n) : halfF f k n = k := by
  cases f with
  | zero => rfl
  | succ f => unfold halfF; rw [if_neg hlt]
set_option maxHeartbeats 2000000 in
theorem half42_any (n : Nat) (w : World) (hn : n ≤ 1000000) : Calls Tryd.prog 104 #[.int .i64 (n : Nat)] w fun e w' => e = .returned (.int .i64 (half n : Nat)) ∧ w = w' := by
  go_enter Tryd.func104, Tryd.ntmps104
  go_wp2_with fail
  go_loop [3] (fun v => ∃ k : Nat, v = .int .i64 (k : Nat) ∧ 1 ≤ k ∧ k ≤ 1000000 ∧ Hid (∃ f, halfF f k n = half n ∧ 18446744073709551616 ≤ k * 2 ^ f)) (fun v => n - (intOf v).toNat)
  case atStart => exact ⟨1, rfl, by omega, by omega, Lib.hid ⟨64, rfl, by decide⟩⟩
  case round =>
    obtain ⟨k, rfl, hk1, hk2, HF⟩ := hrel
    by_cases hlt : 2 * k < n
    · have d1 : decide (2 * (k : Int) < (n : Int)) = true := decide_eq_true (by omega)
      have HF2 : Hid (∃ f, halfF f (2 * k) n = half n ∧ 18446744073709551616 ≤ 2 * k * 2 ^ f) := Lib.hid (by
        obtain ⟨f, h1, h2⟩ := HF.out
        obtain ⟨g, h3, h4⟩ := half_step42 hlt hn h2
        exact ⟨g, by rw [← h3]; exact h1, h4⟩)
      go_wp2_with fail
      go_round
      case rel => exact ⟨2 * k, by go_num, by omega, by omega, HF2⟩
      case measure => simp [intOf]; omega
    · have d1 : decide (2 * (k : Int) < (n : Int)) = false := decide_eq_false (by omega)
      have HE : Hid (half n = k) := Lib.hid (by
        obtain ⟨f, h1, _⟩ := HF.out
        rw [← h1]; exact half_end42 hlt)
      go_wp2_with fail
      go_ret
      exact ⟨by rw [HE.out]; rfl, rfl⟩
theorem number_any (z : Int) (w : World) : Calls Tryd.prog 55 #[.int .i64 z] w fun e w' => e = .returned (.agg #[.int .i64 1, .int .i64 z, .string ⟨#[]⟩, .slice none 0 0]) ∧ Below w.heap.size w w' := by
  have HI : Hid ((Tryd.prog.info? 124).map (·.size) = some (#[.int .i64 1, .int .i64 z, .string ⟨#[]⟩, .slice none 0 0] : Array Value).size) := Lib.hid (by show _ = some 4; kernel_rfl)
  go_enter Tryd.func55, Tryd.ntmps55
  go_wp2_with fail
  refine bodyPost_ret (results_cell_row rfl _ _ w.heap.size 124 _ (0, 0) _ rfl (heap_alloc_new w (.cells #[.int .i64 1, .int .i64 z, .string ⟨#[]⟩, .slice none 0 0] 124)) Tryd.underlying124 rfl HI.out) rfl ⟨rfl, ?_⟩
  exact (Below.refl _ w).alloc (Nat.le_refl _) _
def rightN (i n : Nat) : List Bool := (dirsD i n).reverse.map (!·)
theorem rightN_one (i : Nat) {n : Nat} (h : n ≤ 1) : rightN i n = [] := by unfold rightN; rw [dirsD_one i h]; rfl
theorem rightN_left {i n : Nat} (h : 2 ≤ n) (hi : i < half n) : rightN i n = rightN i (half n) ++ [false] := by unfold rightN; rw [dirsD_left h hi, List.reverse_cons, List.map_append]; rfl
theorem rightN_right {i n : Nat} (h : 2 ≤ n) (hi : ¬ i < half n) : rightN i n = rightN (i - half n) (n - half n) ++ [true] := by unfold rightN; rw [dirsD_right h hi, List.reverse_cons, List.map_append]; rfl
theorem rightN_length (i n : Nat) : (rightN i n).length = (dirsD i n).length := by unfold rightN; rw [List.length_map, List.length_reverse]
abbrev RightP (i n : Nat) : Prop := ∀ w : World, Calls Tryd.prog 59 #[.int .i64 (i : Nat), .int .i64 (n : Nat)] w fun e w' => ∃ A m c, e = .returned (.slice A m c) ∧ OwnL w' w.heap.size (.slice A m c) (rightN i n) ∧ Below w.heap.size w w'
set_option maxHeartbeats 4000000 in
theorem right_left (i n : Nat) (h2 : 2 ≤ n) (hn : n ≤ 1000) (hin : i < n) (hi : i < half n) (ih : RightP i (half n)) : RightP i n := by
  intro w
  obtain ⟨k, HK⟩ : ∃ k, Hid (half n = k) := ⟨_, Lib.hid rfl⟩
  have hbd := half_bd h2
  have hr := rightN_left h2 hi
  rw [HK.out] at hi ih hbd hr
  obtain ⟨ls, HLS⟩ : ∃ l, Hid (rightN i k = l) := ⟨_, Lib.hid rfl⟩
  rw [HLS.out] at hr
  have HR := Lib.hid hr
  have HNL : Hid (ls.length ≤ 100000) := Lib.hid (by rw [← HLS.out, rightN_length]; have := dirsF_length (k) (i) (k); unfold dirsD; omega)
  have d0 : decide ((n : Int) ≤ 1) = false := decide_eq_false (by omega)
  have d0n : decide (n ≤ 1) = false := decide_eq_false (by omega)
  have d1 : decide ((i : Int) < (k : Int)) = true := decide_eq_true (by omega)
  have d1n : decide (i < k) = true := decide_eq_true hi
  clear hr
  go_enter Tryd.func59, Tryd.ntmps59
  go_wp2_with fail
  refine (half42_any n w (by omega)).mono ?_
  rintro e w1 ⟨rfl, rfl⟩
  rw [HK.out]
  go_wp2_with fail
  refine (ih w).mono ?_
  rintro e w2 ⟨A, m, c, rfl, ho, hq⟩
  rw [HLS.out] at ho
  have HB1 := Lib.hid hq
  have hba := (Below.refl _ w2).alloc (Nat.le_refl _) (.cells #[.bool false] 4)
  have HOA := Lib.hid (ho.below hba)
  have HRF := Lib.hid (heap_alloc_new w2 (.cells #[.bool false] 4))
  have HBA := Lib.hid (hq.trans (hba.mono hq.size))
  clear hq ho hba
  have HSW := Lib.hid HBA.out.size
  go_wp2_with (refine wpList_append_bool rfl (.tmp 15) (.tmp 16) rfl w.heap.size _ ls false ?ha HOA w2.heap.size ?hb HRF HNL.out HSW.out ?_)
  all_goals first | rfl | skip
  intro v3 w3 HO3 HG3
  have HB3 : Hid (Below w.heap.size w w3) := Lib.hid (HBA.out.grown HG3.out HSW.out (fun g hg => (HOA.out.block g hg).1))
  obtain ⟨A3, n3, c3, rfl⟩ := HO3.out.form
  go_wp2_with fail
  go_ret
  exact ⟨_, _, _, rfl, by rw [HR.out]; exact HO3.out, HB3.out⟩
set_option maxHeartbeats 4000000 in
theorem right_right (i n : Nat) (h2 : 2 ≤ n) (hn : n ≤ 1000) (hin : i < n) (hi : ¬ i < half n) (ih : RightP (i - half n) (n - half n)) : RightP i n := by
  intro w
  obtain ⟨k, HK⟩ : ∃ k, Hid (half n = k) := ⟨_, Lib.hid rfl⟩
  have hbd := half_bd h2
  have hr := rightN_right h2 hi
  rw [HK.out] at hi ih hbd hr
  obtain ⟨ls, HLS⟩ : ∃ l, Hid (rightN (i - k) (n - k) = l) := ⟨_, Lib.hid rfl⟩
  rw [HLS.out] at hr
  have HR := Lib.hid hr
  have HNL : Hid (ls.length ≤ 100000) := Lib.hid (by rw [← HLS.out, rightN_length]; have := dirsF_length ((n - k)) ((i - k)) ((n - k)); unfold dirsD; omega)
  have d0 : decide ((n : Int) ≤ 1) = false := decide_eq_false (by omega)
  have d0n : decide (n ≤ 1) = false := decide_eq_false (by omega)
  have d1 : decide ((i : Int) < (k : Int)) = false := decide_eq_false (by omega)
  have d1n : decide (i < k) = false := decide_eq_false hi
  have w1 : IntKind.i64.wrap ((i : Int) - (k : Int)) = ((i - k : Nat) : Int) := by rw [IntWalk.i64_in _ (by omega)]; omega
  have w2 : IntKind.i64.wrap ((n : Int) - (k : Int)) = ((n - k : Nat) : Int) := by rw [IntWalk.i64_in _ (by omega)]; omega
  clear hr
  go_enter Tryd.func59, Tryd.ntmps59
  go_wp2_with fail
  refine (half42_any n w (by omega)).mono ?_
  rintro e w1 ⟨rfl, rfl⟩
  rw [HK.out]
  go_wp2_with fail
  refine (ih w).mono ?_
  rintro e w2 ⟨A, m, c, rfl, ho, hq⟩
  rw [HLS.out] at ho
  have HB1 := Lib.hid hq
  have hba := (Below.refl _ w2).alloc (Nat.le_refl _) (.cells #[.bool true] 4)
  have HOA := Lib.hid (ho.below hba)
  have HRF := Lib.hid (heap_alloc_new w2 (.cells #[.bool true] 4))
  have HBA := Lib.hid (hq.trans (hba.mono hq.size))
  clear hq ho hba
  have HSW := Lib.hid HBA.out.size
  go_wp2_with (refine wpList_append_bool rfl (.tmp 24) (.tmp 25) rfl w.heap.size _ ls true ?ha HOA w2.heap.size ?hb HRF HNL.out HSW.out ?_)
  all_goals first | rfl | skip
  intro v3 w3 HO3 HG3
  have HB3 : Hid (Below w.heap.size w w3) := Lib.hid (HBA.out.grown HG3.out HSW.out (fun g hg => (HOA.out.block g hg).1))
  obtain ⟨A3, n3, c3, rfl⟩ := HO3.out.form
  go_wp2_with fail
  go_ret
  exact ⟨_, _, _, rfl, by rw [HR.out]; exact HO3.out, HB3.out⟩
theorem right_any : ∀ (f i n : Nat), n ≤ f → n ≤ 1000 → i < n → RightP i n
  | f, i, n, hf, hn, hin => by
    by_cases h1 : n ≤ 1
    · intro w
      have d0 : decide ((n : Int) ≤ 1) = true := decide_eq_true (by omega)
      have d0n : decide (n ≤ 1) = true := decide_eq_true h1
      go_enter Tryd.func59, Tryd.ntmps59
      go_wp2_with fail
      go_ret
      exact ⟨_, _, _, rfl, by rw [rightN_one i h1]; exact OwnL.nil _ _, Below.refl _ _⟩
    · have hb := half_bd (n := n) (by omega)
      match f, hf with
      | 0, hf => omega
      | f + 1, hf =>
        by_cases hi : i < half n
        · exact right_left i n (by omega) hn hin hi (right_any f i (half n) (by omega) (by omega) hi)
        · exact right_right i n (by omega) hn hin hi (right_any f (i - half n) (n - half n) (by omega) (by omega) (by omega))
end Go.Proofs.YtmfmgeapecapiaaDoor
namespace Go.Proofs.YtmfmgeapecapiaaDoor
open Go.ChangeShapes Go.WideShapes Go.ChangeAt Go.RowKit SzSha SzTree
set_option linter.unusedVariables false
/-- to be used under 'with_reducible' ahead of an arm's law: the goal is a list of operations -/
theorem wpList_here {P : Program} {ops : Array Oper} {rest : List Oper} {o : Oper} {a : Act} {w : World} {Q : Exit → Act → World → Prop} (h : wpList P ops Q (o :: rest) a w) : wpList P ops Q (o :: rest) a w := h
theorem wpList_load_row_g {P : Program} {ops : Array Oper} {rest : List Oper} {o : Oper} {a : Act} {w : World} {Q : Exit → Act → World → Prop} (ty : TypeId) (x : Operand) (ho : o.op = .load ty x)
    (hw : Region.wanted o (yielded ops a.tmps) = true)
    (g : Nat) (hx : a.eval x = .pointer (some ⟨g, 0, none⟩)) (t : TypeId) (cs : Array Value) (fr : Nat × Nat) (d : TypeDesc) (hg : w.heap[g]? = some (.cells cs t fr))
    (hu : P.underlying ty = some d) (hd : (match d with | .struct _ | .array _ _ => true | _ => false) = true) (hi : (P.info? ty).map (·.size) = some cs.size)
    (h : wpList P ops Q rest (a.put o.dst (.agg cs)) w) : wpList P ops Q (o :: rest) a w :=
  wpList_unguard hw (wpList_load_row rfl ty x ho g hx t cs fr d hg hu hd hi h)
theorem wpList_eql_dg_g {w : World} {ops : Array Oper} {rest : List Oper} {o : Oper} {a : Act} {Q : Exit → Act → World → Prop} (x y : Operand) (t : TypeId)
    (ho : o.op = .binOp .eql 25 x y t) (hw : Region.wanted o (yielded ops a.tmps) = true) (l m : List Nat) (hx : a.eval x = dgV l) (hy : a.eval y = dgV m) (hl : l.length = 32) (hm : m.length = 32) (bl : Bytes l) (bm : Bytes m)
    (h : wpList Tryd.prog ops Q rest (a.put o.dst (.bool (l == m))) w) : wpList Tryd.prog ops Q (o :: rest) a w :=
  wpList_unguard hw (wpList_eql_dg rfl x y t ho l m hx hy hl hm bl bm h)
end Go.Proofs.YtmfmgeapecapiaaDoor
namespace Go.Proofs.YtmfmgeapecapiaaDoor
open Go.RowKit SzSha SzTree
set_option linter.unusedVariables false
set_option maxRecDepth 100000
def wHs (b : Nat) (A3 : Option Addr) (n3 : Nat) (c3 : Nat) (z : Int) (zs : List Int) : Nat → Value → World → Prop
  | 0, fv, _ => fv = Value.pointer (some { block := b, off := 3 })
  | 1, fv, _ => fv = Value.slice A3 n3 c3
  | 2, fv, _ => fv = Value.int .i64 z
  | 3, fv, _ => fv = Value.agg #[.int .i64 1, .int .i64 z, .string ⟨#[]⟩, .slice none 0 0]
  | 4, fv, fw => ∃ q, fv = .slice (some ⟨q, 0, none⟩) 1 1 ∧ fw.heap[q]? = some (.cells #[.int .i64 1, .int .i64 z, .string ⟨#[]⟩, .slice none 0 0] 124 (0, 0))
  | 5, fv, fw => OwnV fw (b + 1) fv zs
  | 6, fv, _ => fv = Value.pointer (some { block := b, off := 3 })
  | 7, fv, fw => ∃ v, fw.heap[b]? = some (.cells #[.int .i64 3, .int .i64 0, .string ⟨#[]⟩, v] 124 (0, 0)) ∧ OwnV fw (b + 1) v zs
  | _, _, _ => True
theorem wHs_below {b : Nat} {A3 : Option Addr} {n3 : Nat} {c3 : Nat} {z : Int} {zs : List Int} {w w' : World} (hb : Below w.heap.size w w') : ∀ j v, wHs b A3 n3 c3 z zs j v w → wHs b A3 n3 c3 z zs j v w'
  | 0, v, h => h
  | 1, v, h => h
  | 2, v, h => h
  | 3, v, h => h
  | 4, v, ⟨q, h1, h2⟩ => ⟨q, h1, row_kept h2 hb⟩
  | 5, v, h => h.kept fun g _ hg => hb.block g hg
  | 6, v, h => h
  | 7, v, ⟨u, h1, h2⟩ => ⟨u, row_kept h1 hb, h2.kept fun g _ hg => hb.block g hg⟩
  | n + 8, v, h => trivial
theorem wHs_pure {b : Nat} {A3 : Option Addr} {n3 : Nat} {c3 : Nat} {z : Int} {zs : List Int} {w w' : World} : ∀ j v, j ≠ 4 → j ≠ 5 → j ≠ 7 → wHs b A3 n3 c3 z zs j v w → wHs b A3 n3 c3 z zs j v w'
  | 0, v, _, _, _, h => h
  | 1, v, _, _, _, h => h
  | 2, v, _, _, _, h => h
  | 3, v, _, _, _, h => h
  | 4, v, hh, _, _, _ => absurd rfl hh
  | 5, v, _, hh, _, _ => absurd rfl hh
  | 6, v, _, _, _, h => h
  | 7, v, _, _, hh, _ => absurd rfl hh
  | n + 8, v, _, _, _, h => trivial
theorem ownB_mt (w : World) (base : Nat) (hb : base ≤ w.heap.size) : OwnB (w.alloc (.cells #[] 5)) base (.slice (some ⟨w.heap.size, 0, none⟩) 0 0) [] :=
  ⟨rfl, .inr ⟨w.heap.size, 0, #[], rfl, hb, heap_alloc_new w _, Nat.le_refl _, Nat.zero_le _, rfl, rfl⟩⟩
set_option maxHeartbeats 8000000 in
theorem hashed_any (l : List Nat) (zs : List Int) (g m gc : Nat) (w : World) (hl : Hid (DgOk l)) (hz : Hid (∀ z ∈ zs, -9223372036854775808 ≤ z ∧ z ≤ 9223372036854775807)) (hm : zs.length = m) (hzn : m ≤ 1000) (hzc : Hid (∀ i, i < m → w.cell? ⟨g, i, none⟩ = some (.int .i64 (zs.getD i 0)))) (hg : g < w.heap.size) :
    Calls Tryd.prog 22 #[dgV l, .slice (some ⟨g, 0, none⟩) m gc] w fun e w' => ∃ A n c, e = .returned (.slice A n c) ∧ In w' A n c (l ++ encI zs) ∧ Below w.heap.size w w' := by
  have HM := Lib.hid hm
  clear hm
  have HB0 := Lib.hid (((Below.refl _ w).alloc (Nat.le_refl _) (.cells (dgC l).toArray 25)).alloc (by simp) (.cells #[.int .i64 3, .int .i64 0, .string ⟨#[]⟩, .slice none 0 0] 124))
  have h1 := heap_alloc_new (w.alloc (.cells (dgC l).toArray 25)) (.cells #[.int .i64 3, .int .i64 0, .string ⟨#[]⟩, .slice none 0 0] 124)
  have h2 := (Below.heap_alloc (w.alloc (.cells (dgC l).toArray 25)) (.cells #[.int .i64 3, .int .i64 0, .string ⟨#[]⟩, .slice none 0 0] 124) w.heap.size (by simp)).trans (heap_alloc_new w _)
  rw [World.size_alloc] at h1
  have HV0 := Lib.hid h1
  have HD0 := Lib.hid h2
  clear h1 h2
  rw [dgV_agg l]
  go_enter Tryd.func22, Tryd.ntmps22
  go_wp2_with fail
  go_loopw [13] (fun i wr => ∃ j : Nat, j ≤ m ∧ i = .int .i64 j ∧ ∃ vl, Hid (wr.heap[w.heap.size]? = some (.cells (dgC l).toArray 25 (0, 0))) ∧ Hid (wr.heap[w.heap.size + 1]? = some (.cells #[.int .i64 3, .int .i64 0, .string ⟨#[]⟩, vl] 124 (0, 0))) ∧ Hid (OwnV wr (w.heap.size + 1 + 1) vl (zs.take j)) ∧ Hid (Below w.heap.size w wr)) (fun i _ => m - (intOf i).toNat)
  case atStart => exact ⟨0, by omega, rfl, _, HD0, HV0, Lib.hid (OwnV.nil _ _), HB0⟩
  case round =>
    clear HD0 HV0 HB0
    obtain ⟨j, hj, rfl, vl, HD, HV, HO, HB⟩ := hrel
    by_cases hlt : j < m
    · have d1 : decide ((j : Int) < (m : Int)) = true := decide_eq_true (by omega)
      have d1n : decide (j < m) = true := decide_eq_true hlt
      obtain ⟨z, HZ⟩ : ∃ z, Hid (zs.getD j 0 = z) := ⟨_, Lib.hid rfl⟩
      have hcell : wr.cell? ⟨g, j, none⟩ = some (.int .i64 z) := by rw [← HZ.out]; exact (HB.out.cell (p := ⟨g, j, none⟩) hg).trans (hzc.out j hlt)
      obtain ⟨A3, n3, c3, rfl⟩ := ownV_form HO.out
      have HSZ : Hid (w.heap.size + 1 + 1 ≤ wr.heap.size) := Lib.hid (Array.getElem?_eq_some_iff.1 HV.out).1
      have HLN : Hid ((zs.take j).length ≤ 100000) := Lib.hid (by rw [List.length_take]; omega)
      have HNX : Hid (zs.take j ++ [z] = zs.take (j + 1)) := Lib.hid (by
        have h1 : j < zs.length := by rw [HM.out]; exact hlt
        rw [List.take_succ_eq_append_getElem h1, ← HZ.out]; simp [List.getD_eq_getElem?_getD, h1])
      go_wp2_with fail
      refine region_flow3 (by kernel_rfl) (by kernel_rfl) (fun i => Nat.beq i 7) (fun i => i) (by kernel_rfl) (fun fx => #[Value.agg (dgC l).toArray, Value.slice (some { block := g, off := 0 }) m gc, Value.pointer (some { block := w.heap.size, off := 0 }), undef, Value.slice none 0 0, Value.pointer (some { block := w.heap.size + 1, off := 0 }), undef, Value.int IntKind.i64 z, undef, undef, Value.agg #[Value.int IntKind.i64 3, Value.int IntKind.i64 0, Value.string { data := #[] }, Value.slice none 0 0], Value.slice (some { block := g, off := 0 }) m gc, Value.int IntKind.i64 ↑m, Value.int IntKind.i64 ↑j, Value.bool true, Value.pointer (some { block := g, off := j }), Value.int IntKind.i64 z, fx 0, fx 1, fx 2, fx 3, fx 4, fx 5, fx 6, u24, undef, undef, undef, undef, undef, undef, undef, undef, undef, undef]) (fun i => bif Nat.beq i 0 then u17 else bif Nat.beq i 1 then u18 else bif Nat.beq i 2 then u19 else bif Nat.beq i 3 then u20 else bif Nat.beq i 4 then u21 else bif Nat.beq i 5 then u22 else bif Nat.beq i 6 then u23 else undef) (fun L _ w' => Below (w.heap.size + 1) wr w' ∧ (L 7 = false → Below (w.heap.size + 1 + 1) wr w') ∧ (L 5 = false → Below wr.heap.size wr w')) (fun fi fv _ fw => wHs (w.heap.size + 1) A3 n3 c3 z (zs.take (j + 1)) fi fv fw) ⟨(Below.refl _ _).drew, fun _ => (Below.refl _ _).drew, fun _ => (Below.refl _ _).drew⟩ ?_ ?_
      · refine ⟨?_, ?_, ?_, ?_, ?_, ?_, ?_, ?_, trivial⟩
        all_goals intro L fx w' hC hi hcl hdn hd
        · go_wp2_with fail
          exact ⟨_, rfl, ⟨hC.1, hC.2.1, hC.2.2⟩, rfl, fun _ _ _ _ _ h => h⟩
        · have h0 : fx 0 = Value.pointer (some { block := w.heap.size + 1, off := 3 }) := hd.1 rfl
          have hnd : L 5 = false := Bool.eq_false_iff.2 (fun h => by have := hcl 5 1 h (by kernel_rfl); rw [hi] at this; cases this)
          have hcc : w'.cell? ⟨w.heap.size + 1, 3, none⟩ = some (Value.slice A3 n3 c3) := by rw [cell_of_row _ _ _ _ _ _ (row_kept HV.out (hC.2.2 hnd))]; rfl
          go_wp2_with fail
          exact ⟨_, by simp only [upd, h0]; rfl, ⟨hC.1, hC.2.1, hC.2.2⟩, rfl, fun _ _ _ _ _ h => h⟩
        · go_wp2_with fail
          exact ⟨_, rfl, ⟨hC.1, hC.2.1, hC.2.2⟩, rfl, fun _ _ _ _ _ h => h⟩
        · have h2 : fx 2 = Value.int .i64 z := hd.1 rfl
          go_wp2_with fail
          refine (number_any z w').mono ?_
          rintro e w2 ⟨rfl, hq⟩
          go_wp2_with fail
          exact ⟨_, by simp only [upd, h2]; rfl, ⟨hC.1.trans (hq.mono (Nat.le_trans (by have := HSZ.out; omega) hC.1.size)), fun h => (hC.2.1 h).trans (hq.mono (Nat.le_trans HSZ.out (hC.2.1 h).size)), fun h => (hC.2.2 h).trans (hq.mono (hC.2.2 h).size)⟩, rfl, fun j v t _ _ h => wHs_below hq j v h⟩
        · have h3 : fx 3 = Value.agg #[.int .i64 1, .int .i64 z, .string ⟨#[]⟩, .slice none 0 0] := hd.1 rfl
          have hbb : Below w'.heap.size w' (w'.alloc (.cells #[.int .i64 1, .int .i64 z, .string ⟨#[]⟩, .slice none 0 0] 124)) := (Below.refl _ _).alloc (Nat.le_refl _) _
          clear hd
          go_wp2_with fail
          exact ⟨_, by simp only [upd, h3]; rfl, ⟨hC.1.trans (hbb.mono (Nat.le_trans (by have := HSZ.out; omega) hC.1.size)), fun h => (hC.2.1 h).trans (hbb.mono (Nat.le_trans HSZ.out (hC.2.1 h).size)), fun h => (hC.2.2 h).trans (hbb.mono (hC.2.2 h).size)⟩, ⟨_, rfl, heap_alloc_new _ _⟩, fun j v t _ _ h => wHs_below hbb j v h⟩
        · have h1 : fx 1 = Value.slice A3 n3 c3 := hd.1 rfl
          have H4 := Lib.hid (hd.2.1 rfl)
          obtain ⟨q, hx, hrow⟩ := H4.out
          have HQR := Lib.hid hrow
          have hn7 : L 7 = false := Bool.eq_false_iff.2 (fun h => by have := hcl 7 5 h (by kernel_rfl); rw [hi] at this; cases this)
          have HOV := Lib.hid (HO.out.kept (fun k _ hk => (hC.2.2 hi).block k hk))
          have HS5 := Lib.hid (Nat.le_trans HSZ.out hC.1.size)
          refine wpList_append_val rfl (.tmp 18) (.tmp 21) rfl (w.heap.size + 1 + 1) (Value.slice A3 n3 c3) (zs.take j) z h1 HOV q hx HQR HLN.out HS5.out ?_
          intro v2 w2 HO2 HB2
          clear hd hrow
          go_wp2_with fail
          refine ⟨v2, by simp only [upd, h1, hx]; rfl, ⟨hC.1.trans (HB2.out.mono (by omega)), fun h => (hC.2.1 h).trans HB2.out, fun h => (updB_self h).elim⟩, by rw [← HNX.out]; exact HO2.out, fun j v t hj hu h => ?_⟩
          refine wHs_pure j v ?_ ?_ ?_ h <;> intro e <;> subst e
          · refine absurd hu (not_needed (E := fun i => Nat.beq i 7) (j := 4) [5] (by kernel_rfl) (by kernel_rfl) ?_)
            intro m hm hne; simp at hm; omega
          · rw [hi] at hj; cases hj
          · rw [hn7] at hj; cases hj
        · go_wp2_with fail
          exact ⟨_, rfl, ⟨hC.1, hC.2.1, hC.2.2⟩, rfl, fun _ _ _ _ _ h => h⟩
        · have h6 : fx 6 = Value.pointer (some { block := w.heap.size + 1, off := 3 }) := hd.1 rfl
          have H5 := Lib.hid (hd.2.1 rfl)
          obtain ⟨A5, n5, c5, e5⟩ := ownV_form H5.out
          have HRW := Lib.hid (row_keptM HV.out (hC.2.1 hi) (Nat.lt_succ_self _))
          obtain ⟨k3, f3⟩ := row3 HRW.out
          have h5 : fx 5 = .slice A5 n5 c5 := e5
          have HO5 : Hid (OwnV w' (w.heap.size + 1 + 1) (.slice A5 n5 c5) (zs.take (j + 1))) := Lib.hid (by rw [← e5]; exact H5.out)
          clear hd e5 H5
          go_wp2_with fail
          refine ⟨undef, by simp only [upd, h6, h5]; rfl, ⟨hC.1.setCell (p := ⟨w.heap.size + 1, 3, none⟩) (Nat.le_refl _) _, fun h => (updB_self h).elim, fun h => ?_⟩, ⟨_, set3 HRW.out, HO5.out.kept (fun k hk hk2 => Below.heap_setCell w' ⟨w.heap.size + 1, 3, none⟩ (.slice A5 n5 c5) k (by intro e; simp at e; omega))⟩, fun j v t hj hu h => ?_⟩
          · exfalso; have h6 : L 5 = false := h; rw [hdn 5 (by kernel_rfl)] at h6; cases h6
          · refine wHs_pure j v ?_ ?_ ?_ h <;> intro e <;> subst e
            · refine absurd hu (not_needed (E := fun i => Nat.beq i 7) (j := 4) [5] (by kernel_rfl) (by kernel_rfl) ?_)
              intro m hm hne; simp at hm; subst hm; exact hdn 5 (by kernel_rfl)
            · refine absurd hu (not_needed (E := fun i => Nat.beq i 7) (j := 5) [7] (by kernel_rfl) (by kernel_rfl) ?_)
              intro m hm hne; simp at hm; omega
            · rw [hi] at hj; cases hj
      · intro L fo w' hC hS
        have H7 := Lib.hid (hS 7 (by decide) rfl)
        obtain ⟨v7, hr7, ho7⟩ := H7.out
        have HV7 := Lib.hid hr7
        have HO7 := Lib.hid ho7
        have HB7 := Lib.hid (HB.out.trans (hC.1.mono (by omega)))
        have HD7 := Lib.hid (row_keptM HD.out hC.1 (Nat.lt_succ_self _))
        clear hS hC H7 hr7 ho7 hcell
        go_wp2_with fail
        go_roundw
        case rel => exact ⟨j + 1, by omega, by go_num, _, HD7, HV7, HO7, HB7⟩
        case measure => simp [intOf]; omega
    · have d1 : decide ((j : Int) < (m : Int)) = false := decide_eq_false (by omega)
      have d1n : decide (j < m) = false := decide_eq_false hlt
      have HOm : Hid (OwnV wr (w.heap.size + 1 + 1) vl zs) := Lib.hid (by have := HO.out; rwa [List.take_of_length_le (by rw [HM.out]; omega)] at this)
      obtain ⟨Av, cv, rfl, hvr⟩ := HOm.out.slice
      have HVR := Lib.hid hvr
      have c0 : wr.cell? ⟨w.heap.size + 1, 0, none⟩ = some (.int .i64 3) := by rw [cell_of_row _ _ _ _ _ _ HV.out]; rfl
      have c1 : wr.cell? ⟨w.heap.size + 1, 1, none⟩ = some (.int .i64 0) := by rw [cell_of_row _ _ _ _ _ _ HV.out]; rfl
      have c2 : wr.cell? ⟨w.heap.size + 1, 2, none⟩ = some (.string ⟨#[]⟩) := by rw [cell_of_row _ _ _ _ _ _ HV.out]; rfl
      have c3 : wr.cell? ⟨w.heap.size + 1, 3, none⟩ = some (.slice Av zs.length cv) := by rw [cell_of_row _ _ _ _ _ _ HV.out]; rfl
      clear hvr
      go_wp2_with fail
      refine (encode_list zs Av cv _ hz (by rw [HM.out]; omega) HVR).mono ?_
      rintro e w2 ⟨v2, rfl, ho2, hb2⟩
      obtain ⟨A2, n2, cc2, rfl, hn2, hc2, hA2, HR2⟩ := ho2.slice
      have HB2 := Lib.hid (HB.out.trans (hb2.mono HB.out.size))
      have HD2 := Lib.hid (row_kept HD.out hb2)
      have HEL : Hid (n2 ≤ 20000) := Lib.hid (by rw [← hn2.out]; have := encI_length zs; rw [HM.out] at this; omega)
      clear hb2 c0 c1 c2 c3
      have HSW : Hid (w.heap.size ≤ w2.heap.size) := Lib.hid HB2.out.size
      have HOE := Lib.hid (ownB_mt w2 w2.heap.size (Nat.le_refl _))
      obtain ⟨W3, HW3⟩ : ∃ V, Hid (w2.alloc (.cells #[] 5) = V) := ⟨_, Lib.hid rfl⟩
      have hbe := (Below.refl _ w2).alloc (Nat.le_refl _) (.cells #[] 5)
      rw [HW3.out] at HOE hbe
      have HB3 := Lib.hid (HB2.out.trans (hbe.mono HB2.out.size))
      have HD3 := Lib.hid (row_kept HD2.out hbe)
      have HBE3 := Lib.hid hbe
      have HS3 := Lib.hid hbe.size
      clear hbe
      have HLN : Hid (l.length = 32) := Lib.hid hl.out.len
      have HRD : Hid (Rd W3 W3.heap.size (some ⟨w.heap.size, 0, none⟩) l) := Lib.hid (fun _ => ⟨_, 0, rfl, (Array.getElem?_eq_some_iff.1 HD3.out).1, bytesAt_arr HD3.out⟩)
      have HL0 : Hid (([] : List Nat).length + 32 ≤ 1099511627776) := Lib.hid (by simp)
      go_wp2_with (first | (rw [HW3.out]) | (refine wpList_append_bytes rfl (.tmp 30) (.tmp 31) rfl w2.heap.size _ [] l rfl HOE (some ⟨w.heap.size, 0, none⟩) 32 32 rfl HLN (fun h => by cases h) HRD HL0.out HS3.out ?_))
      intro v4 W4 HO4 HB4
      have hb4 := HBE3.out.trans HB4.out
      have HR4 := Lib.hid ((HR2.out.below hb4 (Nat.le_refl _)).mono hb4.size)
      have HS4 := Lib.hid hb4.size
      have HB5 := Lib.hid (HB2.out.trans (hb4.mono HSW.out))
      have HL4 : Hid (([] ++ l : List Nat).length + n2 ≤ 1099511627776) := Lib.hid (by rw [List.nil_append, HLN.out]; have := HEL.out; omega)
      clear hb4
      go_wp2_with (refine wpList_append_bytes rfl (.tmp 32) (.tmp 33) rfl w2.heap.size v4 ([] ++ l) (encI zs) rfl HO4 A2 n2 cc2 rfl hn2 hA2.out HR4 HL4.out HS4.out ?_)
      intro v5 W5 HO5 HB6
      obtain ⟨A6, n6, c6, rfl, hn6, hc6, hA6, HR6⟩ := HO5.out.slice
      have HB7 := Lib.hid (HB5.out.trans (HB6.out.mono HSW.out))
      go_wp2_with fail
      go_ret
      exact ⟨_, _, _, rfl, ⟨hn6.out, hc6, hA6.out, bytes_app2 hl.out.bytes (encI_bytes zs), HR6.out⟩, HB7.out⟩
end Go.Proofs.YtmfmgeapecapiaaDoor
namespace Go.Proofs.YtmfmgeapecapiaaDoor
open Go.RowKit SzSha SzTree
set_option linter.unusedVariables false
set_option maxRecDepth 100000
theorem insD_snoc : ∀ (rs : List Bool) (ps : List Dg) (r : Bool) (p v : Dg), rs.length = ps.length → insD (rs ++ [r]) (ps ++ [p]) v = insD rs ps v ++ [if r then climbD rs ps v ++ p else p ++ climbD rs ps v]
  | [], [], _, _, _, _ => rfl
  | [], _ :: _, _, _, _, h => by simp at h
  | _ :: _, [], _, _, _, h => by simp at h
  | r' :: rs, p' :: ps, r, p, v, h => by
    simp only [List.cons_append, insD, climbD]
    rw [insD_snoc rs ps r p _ (by simpa using h)]
theorem insD_take {rs : List Bool} {ps : List Dg} (v : Dg) {j : Nat} (h1 : j < rs.length) (h2 : j < ps.length) : insD (rs.take (j + 1)) (ps.take (j + 1)) v = insD (rs.take j) (ps.take j) v ++ [if rs[j] then climbD (rs.take j) (ps.take j) v ++ ps[j] else ps[j] ++ climbD (rs.take j) (ps.take j) v] := by
  rw [List.take_succ_eq_append_getElem h1, List.take_succ_eq_append_getElem h2]
  exact insD_snoc _ _ _ _ _ (by rw [List.length_take, List.length_take]; omega)
theorem insD_length : ∀ (rs : List Bool) (ps : List Dg) (v : Dg), rs.length = ps.length → (insD rs ps v).length = ps.length
  | [], [], _, _ => rfl
  | [], _ :: _, _, h => by simp at h
  | _ :: _, [], _, h => by simp at h
  | r :: rs, p :: ps, v, h => by simp only [insD, List.length_cons]; rw [insD_length rs ps _ (by simpa using h)]
theorem insD_ok : ∀ (rs : List Bool) (ps : List Dg) (v : Dg), (∀ p ∈ ps, DgOk p) → DgOk v → ∀ x ∈ insD rs ps v, x.length = 64 ∧ Bytes x
  | [], _, _, _, _, x, hx => by simp [insD] at hx
  | _ :: _, [], _, _, _, x, hx => by simp [insD] at hx
  | r :: rs, p :: ps, v, hp, hv, x, hx => by
    have hp0 := hp p (List.mem_cons_self ..)
    simp only [insD, List.mem_cons] at hx
    rcases hx with rfl | hx
    · split
      · exact ⟨by rw [List.length_append, hv.len, hp0.len], bytes_app2 hv.bytes hp0.bytes⟩
      · exact ⟨by rw [List.length_append, hv.len, hp0.len], bytes_app2 hp0.bytes hv.bytes⟩
    · refine insD_ok rs ps _ (fun q hq => hp q (List.mem_cons_of_mem _ hq)) ?_ x hx
      rw [stepD_in]; exact ⟨tagged_length _ _, tagged_bytes _ _⟩
/-- cells that are slices of bytes; none lies in a block of X -/
structure SlsAt (w : World) (X : Nat → Prop) (cells : List Value) (xs : List (List Nat)) : Prop where
  len : cells.length = xs.length
  at_ : ∀ (i : Nat) (x : List Nat), xs[i]? = some x → ∃ g n c, cells[i]? = some (.slice (some ⟨g, 0, none⟩) n c) ∧ x.length = n ∧ n ≤ c ∧ Bytes x ∧ g < w.heap.size ∧ ¬ X g ∧ BytesAt w g 0 x
theorem bytesAt_kept {w w' : World} {g off : Nat} {x : List Nat} (h : BytesAt w g off x) (hk : w'.heap[g]? = w.heap[g]?) : BytesAt w' g off x := fun i hi => (World.cell?_of_block hk).trans (h i hi)
theorem SlsAt.kept {w w' : World} {X X' : Nat → Prop} {cells : List Value} {xs : List (List Nat)} (h : SlsAt w X cells xs) (hk : ∀ g, g < w.heap.size → ¬ X g → w'.heap[g]? = w.heap[g]?) (hs : w.heap.size ≤ w'.heap.size) (hx : ∀ g, g < w.heap.size → ¬ X g → ¬ X' g) : SlsAt w' X' cells xs :=
  ⟨h.len, fun i x hi => by
    obtain ⟨g, n, c, e, h1, h2, h3, h4, h5, h6⟩ := h.at_ i x hi
    exact ⟨g, n, c, e, h1, h2, h3, Nat.lt_of_lt_of_le h4 hs, hx g h4 h5, bytesAt_kept h6 (hk g h4 h5)⟩⟩
theorem SlsAt.below {w w' : World} {X : Nat → Prop} {cells : List Value} {xs : List (List Nat)} (h : SlsAt w X cells xs) (hb : Below w.heap.size w w') : SlsAt w' X cells xs := h.kept (fun g hg _ => hb.block g hg) hb.size (fun g _ hg => hg)
theorem SlsAt.nil (w : World) (X : Nat → Prop) : SlsAt w X [] [] := ⟨rfl, fun i x h => by simp at h⟩
theorem SlsAt.snoc {w : World} {X : Nat → Prop} {cells : List Value} {xs : List (List Nat)} (h : SlsAt w X cells xs) {g n c : Nat} {x : List Nat} (h1 : x.length = n) (h2 : n ≤ c) (h3 : Bytes x) (h4 : g < w.heap.size) (h5 : ¬ X g) (h6 : BytesAt w g 0 x) : SlsAt w X (cells ++ [.slice (some ⟨g, 0, none⟩) n c]) (xs ++ [x]) :=
  ⟨by rw [List.length_append, List.length_append, h.len]; rfl, fun i y hi => by
    by_cases hl : i < xs.length
    · rw [List.getElem?_append_left hl] at hi
      rw [List.getElem?_append_left (by rw [h.len]; exact hl)]
      exact h.at_ i y hi
    · rw [List.getElem?_append_right (by omega)] at hi
      have h0 : i - xs.length = 0 := by have := (List.getElem?_eq_some_iff.1 hi).1; simp at this; omega
      rw [h0] at hi
      have e : x = y := by simpa using hi
      subst e
      refine ⟨g, n, c, ?_, h1, h2, h3, h4, h5, h6⟩
      rw [List.getElem?_append_right (by rw [h.len]; omega), h.len, h0]; rfl⟩
/-- a slice of such cells that the call made -/
def OwnY (w : World) (base : Nat) (v : Value) (cells : List Value) : Prop := w.ownsRow base 55 1 v cells.length cells
theorem OwnY.kept {w w' : World} {base : Nat} {v : Value} {cells : List Value} (h : OwnY w base v cells) (hk : ∀ g, v.ownBlock = some g → w'.heap[g]? = w.heap[g]?) : OwnY w' base v cells := by
  refine ⟨h.1, ?_⟩
  rcases h.2 with h0 | ⟨g, cap, cur, rfl, hb, hh, r⟩
  · exact .inl h0
  · exact .inr ⟨g, cap, cur, rfl, hb, (hk g rfl).trans hh, r⟩
theorem OwnY.block {w : World} {base : Nat} {v : Value} {cells : List Value} (h : OwnY w base v cells) (g : Nat) (hg : v.ownBlock = some g) : base ≤ g ∧ g < w.heap.size ∧ ∃ cur, w.heap[g]? = some (.cells cur 55 (0, 0)) := by
  rcases h.2 with ⟨rfl, h0⟩ | ⟨g', cap, cur, rfl, hb, hh, r⟩
  · cases hg
  · have : g' = g := by simpa [Value.ownBlock] using hg
    subst this
    exact ⟨hb, (Array.getElem?_eq_some_iff.1 hh).1, cur, hh⟩
theorem OwnY.below {w w' : World} {base : Nat} {v : Value} {cells : List Value} (h : OwnY w base v cells) (hb : Below w.heap.size w w') : OwnY w' base v cells := h.kept fun g hg => hb.block g (h.block g hg).2.1
theorem OwnY.form {w : World} {base : Nat} {v : Value} {cells : List Value} (h : OwnY w base v cells) : ∃ A c, v = .slice A cells.length c := by
  rcases h.2 with ⟨rfl, h0⟩ | ⟨g, cap, cur, rfl, r⟩
  · exact ⟨none, 0, by rw [h0]⟩
  · exact ⟨_, _, rfl⟩
theorem OwnY.low {w : World} {base b2 : Nat} {v : Value} {cells : List Value} (h : OwnY w base v cells) (hb : b2 ≤ base) : OwnY w b2 v cells := by
  refine ⟨h.1, ?_⟩
  rcases h.2 with h0 | ⟨g, cap, cur, rfl, hb', r⟩
  · exact .inl h0
  · exact .inr ⟨g, cap, cur, rfl, Nat.le_trans hb hb', r⟩
theorem OwnY.one {w : World} {g M : Nat} {u : Value} (h : w.heap[g]? = some (.cells #[u] 55 (0, 0))) (hM : M ≤ g) : OwnY w M (.slice (some ⟨g, 0, none⟩) 1 1) [u] :=
  ⟨rfl, .inr ⟨g, 1, _, rfl, hM, h, Nat.le_refl _, by unfold maxLen; omega, rfl, rfl⟩⟩
theorem OwnY.cell {w : World} {base : Nat} {A : Option Addr} {n c : Nat} {cells : List Value} (h : OwnY w base (.slice A n c) cells) {i : Nat} (hi : i < cells.length) : ∃ g, A = some ⟨g, 0, none⟩ ∧ base ≤ g ∧ g < w.heap.size ∧ n = cells.length ∧ n ≤ c ∧ w.cell? ⟨g, i, none⟩ = cells[i]? := by
  rcases h.2 with ⟨e, h0⟩ | ⟨g, cap, cur, e, hb, hh, hc, hm, hs, ht⟩
  · omega
  · cases e
    refine ⟨g, rfl, hb, (Array.getElem?_eq_some_iff.1 hh).1, rfl, hc, ?_⟩
    rw [cell_of_row w g i cur _ _ hh, ← ht, List.getElem?_take_of_lt (by omega)]; simp
theorem info_sl : ∃ i, Tryd.prog.info? 55 = some i ∧ i.zero = some (.slice none 0 0) ∧ i.size = 1 ∧ i.bytes = 24 := by
  refine ⟨_, rfl, ?_, ?_, ?_⟩ <;> kernel_rfl
theorem wpList_append_sl {w : World} {ops : Array Oper} {rest : List Oper} {o : Oper} {a : Act} {Q : Exit → Act → World → Prop} (hgd : o.guard = none) (s x : Operand)
    (ho : o.op = .call { callee := .builtin .append, args := #[s, x], argTypes := #[132, 132] })
    (base : Nat) (v : Value) (cells : List Value) (u : Value) (hu1 : u.oneCell' = true) (hs : a.eval s = v) (hown : Hid (OwnY w base v cells)) (g : Nat) (hx : a.eval x = .slice (some ⟨g, 0, none⟩) 1 1)
    (hr : Hid (w.heap[g]? = some (.cells #[u] 55 (0, 0)))) (hlen : cells.length ≤ 100000) (hbase : base ≤ w.heap.size)
    (h : ∀ v' w', Hid (OwnY w' base v' (cells ++ [u])) → Hid (w.grownBy w' v.ownBlock) → Hid (v'.ownBlock = v.ownBlock ∨ v'.ownBlock = some w.heap.size) → wpList Tryd.prog ops Q rest (a.put o.dst v') w') : wpList Tryd.prog ops Q (o :: rest) a w := by
  obtain ⟨i0, hi, hz, hz1, hz2⟩ := info_sl
  refine wpList_append_own_at _ hgd s x _ ho base _ i0 _ 1 24 Tryd.underlying132 hi hz hz1 hz2 rfl (by omega) v _ _ hs hown.out ⟨g, 0, none⟩ 1 1 [u] hx rfl (fun j y hy => by rw [add_row, Nat.zero_add, cell_of_row w g j _ _ _ hr.out]; simpa using hy) (fun y hy => by simp at hy; subst hy; exact hu1) (by unfold maxLen; omega) (by omega) hbase ?_
  intro v' w' h1 h2 h3 h4
  refine h v' w' (Lib.hid ?_) (Lib.hid h2) (Lib.hid h4)
  unfold OwnY
  rw [List.length_append]; exact h1
theorem OwnL.cell {w : World} {base : Nat} {A : Option Addr} {n c : Nat} {ls : List Bool} (h : OwnL w base (.slice A n c) ls) {i : Nat} (hi : i < ls.length) : ∃ g, A = some ⟨g, 0, none⟩ ∧ n = ls.length ∧ n ≤ c ∧ w.cell? ⟨g, i, none⟩ = some (.bool (ls.getD i false)) := by
  rcases h.2 with ⟨e, h0⟩ | ⟨g, cap, cur, e, hb, hh, hc, hm, hs, ht⟩
  · omega
  · cases e
    refine ⟨g, rfl, rfl, hc, ?_⟩
    have e2 : (cur.toList.take (ls.length * 1))[i]? = cur[i]? := by rw [List.getElem?_take_of_lt (by omega)]; simp
    rw [cell_of_row w g i cur _ _ hh, ← e2, ht]
    unfold bCs
    rw [List.getElem?_map, List.getElem?_eq_getElem hi, List.getD_eq_getElem?_getD, List.getElem?_eq_getElem hi]; rfl
theorem ownB_one {w : World} {base : Nat} {v : Value} {l : List Nat} (h : OwnB w base v l) (h0 : 0 < l.length) : ∃ g c, v = .slice (some ⟨g, 0, none⟩) l.length c ∧ l.length ≤ c ∧ base ≤ g ∧ g < w.heap.size ∧ BytesAt w g 0 l := by
  rcases h.2 with ⟨rfl, h1⟩ | ⟨g, cap, cur, rfl, hb, hh, hc, hm, hs, ht⟩
  · omega
  · refine ⟨g, cap, rfl, hc, hb, (Array.getElem?_eq_some_iff.1 hh).1, fun i hi => ?_⟩
    rw [Nat.zero_add, cell_of_row w g i cur _ _ hh]
    have h1 : (cur.toList.take (l.length * 1))[i]? = cur[i]? := by rw [List.getElem?_take_of_lt (by omega)]; simp
    rw [← h1, ht, List.getElem?_map, List.getElem?_eq_getElem hi, List.getD_eq_getElem?_getD, List.getElem?_eq_getElem hi]
    rfl
end Go.Proofs.YtmfmgeapecapiaaDoor
namespace Go.Proofs.YtmfmgeapecapiaaDoor
open Go.RowKit SzSha SzTree
set_option linter.unusedVariables false
set_option maxRecDepth 100000
def XB (b : Nat) (lv : Value) : Nat → Prop := fun g => g = b ∨ lv.ownBlock = some g
def wIn (M : Nat) (p1 : Value) (p2 : Value) (x : List Nat) (y : List Nat) : Nat → Value → World → Prop
  | 0, fv, fw => OwnB fw M fv [] ∧ ∃ A, fv = .slice A 0 0
  | 1, fv, _ => fv = p1
  | 2, fv, fw => OwnB fw M fv ([] ++ x)
  | 3, fv, _ => fv = p2
  | 4, fv, fw => OwnB fw M fv (([] ++ x) ++ y)
  | 5, fv, fw => OwnB fw M fv (([] ++ x) ++ y)
  | _, _, _ => True
theorem wIn_below {M : Nat} {p1 : Value} {p2 : Value} {x : List Nat} {y : List Nat} {w w' : World} (hb : Below w.heap.size w w') : ∀ j v, wIn M p1 p2 x y j v w → wIn M p1 p2 x y j v w'
  | 0, v, h => ⟨h.1.below hb, h.2⟩
  | 1, v, h => h
  | 2, v, h => h.below hb
  | 3, v, h => h
  | 4, v, h => h.below hb
  | 5, v, h => h.below hb
  | n + 6, v, h => trivial
theorem wIn_pure {M : Nat} {p1 : Value} {p2 : Value} {x : List Nat} {y : List Nat} {w w' : World} : ∀ j v, j ≠ 0 → j ≠ 2 → j ≠ 4 → j ≠ 5 → wIn M p1 p2 x y j v w → wIn M p1 p2 x y j v w'
  | 0, v, hh, _, _, _, _ => absurd rfl hh
  | 1, v, _, _, _, _, h => h
  | 2, v, _, hh, _, _, _ => absurd rfl hh
  | 3, v, _, _, _, _, h => h
  | 4, v, _, _, hh, _, _ => absurd rfl hh
  | 5, v, _, _, _, hh, _ => absurd rfl hh
  | n + 6, v, _, _, _, _, h => trivial
theorem block_ltD {w : World} {g : Nat} {o : Obj} (h : w.heap[g]? = some o) : g < w.heap.size := (Array.getElem?_eq_some_iff.1 h).1
set_option maxHeartbeats 16000000 in
theorem inputs_any (d : List Nat) (rs : List Bool) (ps : List Dg) (As : Option Addr) (cs base0 : Nat) (A : Option Addr) (n c : Nat) (w : World) (hd : Hid (DgOk d)) (hs : Hid (OwnL w base0 (.slice As n cs) (rs.map (!·)))) (hlen : Hid (rs.length = n)) (hp : Hid (InD w A n c ps)) (hn : n ≤ 1000) (hT : Hid (Tabs w)) :
    Calls Tryd.prog 60 #[dgV d, .slice As n cs, .slice A n c] w fun e w' => ∃ A' n' c' cells, e = .returned (.slice A' n' c') ∧ OwnY w' w.heap.size (.slice A' n' c') cells ∧ SlsAt w' (fun _ => False) cells (d :: insD rs ps (leafD d)) ∧ Below w.heap.size w w' := by
  have HIB := Lib.hid (dgC_info hd.out)
  have HPL := Lib.hid (show ps.length = n from hp.out.len)
  obtain ⟨v0, HV0⟩ : ∃ v, Hid (leafD d = v) := ⟨_, Lib.hid rfl⟩
  have HVO : Hid (DgOk v0) := Lib.hid (by rw [← HV0.out]; exact leafD_ok d)
  rw [HV0.out]
  have hb0 := (Below.refl _ w).alloc (Nat.le_refl _) (.cells (dgC d).toArray 25)
  have hr0 := heap_alloc_new w (.cells (dgC d).toArray 25)
  have hs0 : (w.alloc (.cells (dgC d).toArray 25)).heap.size = w.heap.size + 1 := by simp
  obtain ⟨W1, HW1⟩ : ∃ V, Hid (w.alloc (.cells (dgC d).toArray 25) = V) := ⟨_, Lib.hid rfl⟩
  rw [HW1.out] at hb0 hr0 hs0
  have hb1 := (Below.refl _ W1).alloc (Nat.le_refl _) (.cells #[.slice (some ⟨w.heap.size, 0, none⟩) 32 32] 55)
  have hr1 := heap_alloc_new W1 (.cells #[.slice (some ⟨w.heap.size, 0, none⟩) 32 32] 55)
  obtain ⟨W2, HW2⟩ : ∃ V, Hid (W1.alloc (.cells #[.slice (some ⟨w.heap.size, 0, none⟩) 32 32] 55) = V) := ⟨_, Lib.hid rfl⟩
  rw [HW2.out] at hb1 hr1
  have HB0 := Lib.hid (hb0.trans (hb1.mono hb0.size))
  have RB0 := Lib.hid (row_kept hr0 hb1)
  have RL0 := Lib.hid hr1
  have HS1 := Lib.hid hs0
  have KT0 := Lib.hid (hT.out.below HB0.out)
  clear hb0 hr0 hb1 hr1 hs0
  have HLD : Hid (d.length = 32) := Lib.hid hd.out.len
  have HRD : Hid (Rd W2 W2.heap.size (some ⟨w.heap.size, 0, none⟩) d) := Lib.hid (fun _ => ⟨_, 0, rfl, (Array.getElem?_eq_some_iff.1 RB0.out).1, bytesAt_arr RB0.out⟩)
  rw [dgV_agg d]
  go_enter Tryd.func60, Tryd.ntmps60
  go_wp2_with (first | (rw [HW1.out]) | (rw [HW2.out]))
  refine (tagged_any leafTag (some ⟨w.heap.size, 0, none⟩) 32 32 d _ (by decide) HLD (Nat.le_refl _) (fun h => by cases h) (by omega) (Lib.hid hd.out.bytes) KT0 HRD).mono ?_
  rintro e U1 ⟨rfl, hq⟩
  rw [leafTag_d, HV0.out, dgV_agg v0]
  clear HRD
  have HB2 := Lib.hid (HB0.out.trans (hq.mono HB0.out.size))
  have RB2 := Lib.hid (row_kept RB0.out hq)
  have RL2 := Lib.hid (row_kept RL0.out hq)
  have KT2 := Lib.hid (KT0.out.below hq)
  clear hq HB0 RB0 RL0 KT0
  have HIV := Lib.hid (dgC_info HVO.out)
  have HZV : Hid ((#[.int .u8 0, .int .u8 0, .int .u8 0, .int .u8 0, .int .u8 0, .int .u8 0, .int .u8 0, .int .u8 0, .int .u8 0, .int .u8 0, .int .u8 0, .int .u8 0, .int .u8 0, .int .u8 0, .int .u8 0, .int .u8 0, .int .u8 0, .int .u8 0, .int .u8 0, .int .u8 0, .int .u8 0, .int .u8 0, .int .u8 0, .int .u8 0, .int .u8 0, .int .u8 0, .int .u8 0, .int .u8 0, .int .u8 0, .int .u8 0, .int .u8 0, .int .u8 0] : Array Value).size = (dgC v0).toArray.size) := Lib.hid (by rw [← dgC_size HVO.out]; rfl)
  have HU1 := Lib.hid (block_ltD RL2.out)
  obtain ⟨V3, HV3⟩ : ∃ W, Hid ((U1.alloc (.cells #[.int .u8 0, .int .u8 0, .int .u8 0, .int .u8 0, .int .u8 0, .int .u8 0, .int .u8 0, .int .u8 0, .int .u8 0, .int .u8 0, .int .u8 0, .int .u8 0, .int .u8 0, .int .u8 0, .int .u8 0, .int .u8 0, .int .u8 0, .int .u8 0, .int .u8 0, .int .u8 0, .int .u8 0, .int .u8 0, .int .u8 0, .int .u8 0, .int .u8 0, .int .u8 0, .int .u8 0, .int .u8 0, .int .u8 0, .int .u8 0, .int .u8 0, .int .u8 0] 25)).setRow U1.heap.size (dgC v0).toArray = W) := ⟨_, Lib.hid rfl⟩
  have hw := setRow_heap (U1.alloc (.cells #[.int .u8 0, .int .u8 0, .int .u8 0, .int .u8 0, .int .u8 0, .int .u8 0, .int .u8 0, .int .u8 0, .int .u8 0, .int .u8 0, .int .u8 0, .int .u8 0, .int .u8 0, .int .u8 0, .int .u8 0, .int .u8 0, .int .u8 0, .int .u8 0, .int .u8 0, .int .u8 0, .int .u8 0, .int .u8 0, .int .u8 0, .int .u8 0, .int .u8 0, .int .u8 0, .int .u8 0, .int .u8 0, .int .u8 0, .int .u8 0, .int .u8 0, .int .u8 0] 25)) U1.heap.size _ (dgC v0).toArray _ _ (heap_alloc_new U1 _)
  have hb := below_setRow ((Below.refl _ U1).alloc (Nat.le_refl _) (.cells #[.int .u8 0, .int .u8 0, .int .u8 0, .int .u8 0, .int .u8 0, .int .u8 0, .int .u8 0, .int .u8 0, .int .u8 0, .int .u8 0, .int .u8 0, .int .u8 0, .int .u8 0, .int .u8 0, .int .u8 0, .int .u8 0, .int .u8 0, .int .u8 0, .int .u8 0, .int .u8 0, .int .u8 0, .int .u8 0, .int .u8 0, .int .u8 0, .int .u8 0, .int .u8 0, .int .u8 0, .int .u8 0, .int .u8 0, .int .u8 0, .int .u8 0, .int .u8 0] 25)) (Nat.le_refl _) (dgC v0).toArray
  rw [HV3.out] at hw hb
  have HB4 := Lib.hid (HB2.out.trans (hb.mono HB2.out.size))
  have RB4 := Lib.hid (row_kept RB2.out hb)
  have RL4 := Lib.hid (row_kept RL2.out hb)
  have KT4 := Lib.hid (KT2.out.below hb)
  have RV3 := Lib.hid hw
  clear hw hb HB2 RB2 RL2 KT2
  go_wp2_with (refine wpList_store_row rfl 25 (.tmp 7) (.tmp 14) rfl U1.heap.size (dgC v0).toArray rfl rfl 25 _ (heap_alloc_new U1 _) HIV.out HZV.out (dgC_one _) ?_; rw [HV3.out])
  have HU : Hid (w.heap.size < U1.heap.size ∧ W1.heap.size < U1.heap.size) := Lib.hid (by have h1 := HU1.out; have := HS1.out; omega)
  have HO0 : Hid (OwnY V3 (w.heap.size + 1) (.slice (some ⟨W1.heap.size, 0, none⟩) 1 1) [.slice (some ⟨w.heap.size, 0, none⟩) 32 32]) := Lib.hid (OwnY.one RL4.out (by rw [HS1.out]; exact Nat.le_refl _))
  have HNX : Hid (¬ XB (U1.heap.size) (.slice (some ⟨W1.heap.size, 0, none⟩) 1 1) w.heap.size) := Lib.hid (by
    rintro (e | e)
    · have := HU.out; omega
    · simp [Value.ownBlock] at e; have := HS1.out; omega)
  have HQ0 : Hid (SlsAt V3 (XB (U1.heap.size) (.slice (some ⟨W1.heap.size, 0, none⟩) 1 1)) [.slice (some ⟨w.heap.size, 0, none⟩) 32 32] (d :: insD (rs.take 0) (ps.take 0) v0)) := Lib.hid (by
    have h := (SlsAt.nil V3 (XB (U1.heap.size) (.slice (some ⟨W1.heap.size, 0, none⟩) 1 1))).snoc (g := w.heap.size) (n := 32) (c := 32) (x := d) hd.out.len (Nat.le_refl _) hd.out.bytes (block_ltD RB4.out) HNX.out (bytesAt_arr RB4.out)
    exact h)
  go_loopw [17, 6] (fun i lv wr => ∃ (j : Nat) (cells : List Value), j ≤ n ∧ i = .int .i64 (j : Nat) ∧ Hid (OwnY wr (w.heap.size + 1) lv cells) ∧ Hid (SlsAt wr (XB (U1.heap.size) lv) cells (d :: insD (rs.take j) (ps.take j) v0)) ∧ Hid (wr.heap[U1.heap.size]? = some (.cells (dgC (climbD (rs.take j) (ps.take j) v0)).toArray 25 (0, 0))) ∧ Hid (Below w.heap.size w wr) ∧ ∃ A3 c3, lv = .slice A3 cells.length c3) (fun i _ _ => n - (intOf i).toNat)
  case atStart => exact ⟨0, _, by omega, rfl, HO0, HQ0, RV3, HB4, _, _, rfl⟩
  case round =>
    clear HO0 HQ0 RB4 RL4 RV3 HB4 KT4
    obtain ⟨j, cells, hj, rfl, HO, HQ, RVa, HBa, A3, c3, rfl⟩ := hrel
    obtain ⟨vj, HVJ⟩ : ∃ v, Hid (climbD (rs.take j) (ps.take j) v0 = v) := ⟨_, Lib.hid rfl⟩
    rw [HVJ.out] at RVa
    obtain ⟨xs, HXS⟩ : ∃ x, Hid (d :: insD (rs.take j) (ps.take j) v0 = x) := ⟨_, Lib.hid rfl⟩
    rw [HXS.out] at HQ
    by_cases hlt : j < n
    · have d1 : decide ((j : Int) < (n : Int)) = true := decide_eq_true (by omega)
      have d1n : decide (j < n) = true := decide_eq_true hlt
      have hjp : j < ps.length := by rw [HPL.out]; exact hlt
      have hjr : j < rs.length := by rw [hlen.out]; exact hlt
      obtain ⟨p, HPJ⟩ : ∃ p, Hid (ps[j] = p) := ⟨_, Lib.hid rfl⟩
      obtain ⟨r, HRJ⟩ : ∃ r, Hid (rs[j] = r) := ⟨_, Lib.hid rfl⟩
      have HPO : Hid (DgOk p) := Lib.hid (by rw [← HPJ.out]; exact hp.out.ok _ (List.getElem_mem hjp))
      have HVJO : Hid (DgOk vj) := Lib.hid (by rw [← HVJ.out]; exact climbD_dg HVO.out)
      obtain ⟨gp, op, rfl, hgp, hrp⟩ := hp.out.rd (by omega)
      have HRP : Hid (wr.rangeAt gp (op + j * 32) (dgC p)) := Lib.hid (by
        rw [← HPJ.out]
        exact rangeAt_below (rangeD_one hrp hp.out.ok j hjp) hgp HBa.out)
      have HIP := Lib.hid (dgC_infoL HPO.out)
      have HIP2 := Lib.hid (dgC_info HPO.out)
      have HIVJ := Lib.hid (dgC_info HVJO.out)
      have HZP : Hid ((#[.int .u8 0, .int .u8 0, .int .u8 0, .int .u8 0, .int .u8 0, .int .u8 0, .int .u8 0, .int .u8 0, .int .u8 0, .int .u8 0, .int .u8 0, .int .u8 0, .int .u8 0, .int .u8 0, .int .u8 0, .int .u8 0, .int .u8 0, .int .u8 0, .int .u8 0, .int .u8 0, .int .u8 0, .int .u8 0, .int .u8 0, .int .u8 0, .int .u8 0, .int .u8 0, .int .u8 0, .int .u8 0, .int .u8 0, .int .u8 0, .int .u8 0, .int .u8 0] : Array Value).size = (dgC p).toArray.size) := Lib.hid (by rw [← dgC_size HPO.out]; rfl)
      have HCL : Hid (cells.length = j + 1) := Lib.hid (by
        rw [HQ.out.len, ← HXS.out, List.length_cons, insD_length _ _ _ (by rw [List.length_take, List.length_take]; omega), List.length_take]; omega)
      have HTa := Lib.hid (hT.out.below HBa.out)
      have HBW := Lib.hid (Below.refl wr.heap.size wr)
      have HVW : Hid (U1.heap.size < wr.heap.size) := Lib.hid (block_ltD RVa.out)
      obtain ⟨gs, rfl, hnn, hcs, hsc⟩ := OwnL.cell hs.out (i := j) (by rw [List.length_map]; exact hjr)
      have HSC : Hid (w.cell? ⟨gs, j, none⟩ = some (.bool (!r))) := Lib.hid (by rw [hsc, ← HRJ.out]; simp [List.getD_eq_getElem?_getD, hjr])
      have HGS : Hid (gs < w.heap.size) := Lib.hid (block_lt_of_cell (a := ⟨gs, j, none⟩) hsc)
      clear hrp hgp hsc hcs hnn
      obtain ⟨V1, HV1⟩ : ∃ W, Hid ((wr.alloc (.cells #[.int .u8 0, .int .u8 0, .int .u8 0, .int .u8 0, .int .u8 0, .int .u8 0, .int .u8 0, .int .u8 0, .int .u8 0, .int .u8 0, .int .u8 0, .int .u8 0, .int .u8 0, .int .u8 0, .int .u8 0, .int .u8 0, .int .u8 0, .int .u8 0, .int .u8 0, .int .u8 0, .int .u8 0, .int .u8 0, .int .u8 0, .int .u8 0, .int .u8 0, .int .u8 0, .int .u8 0, .int .u8 0, .int .u8 0, .int .u8 0, .int .u8 0, .int .u8 0] 25)).setRow wr.heap.size (dgC p).toArray = W) := ⟨_, Lib.hid rfl⟩
      have hw := setRow_heap (wr.alloc (.cells #[.int .u8 0, .int .u8 0, .int .u8 0, .int .u8 0, .int .u8 0, .int .u8 0, .int .u8 0, .int .u8 0, .int .u8 0, .int .u8 0, .int .u8 0, .int .u8 0, .int .u8 0, .int .u8 0, .int .u8 0, .int .u8 0, .int .u8 0, .int .u8 0, .int .u8 0, .int .u8 0, .int .u8 0, .int .u8 0, .int .u8 0, .int .u8 0, .int .u8 0, .int .u8 0, .int .u8 0, .int .u8 0, .int .u8 0, .int .u8 0, .int .u8 0, .int .u8 0] 25)) wr.heap.size _ (dgC p).toArray _ _ (heap_alloc_new wr _)
      have hb := below_setRow ((Below.refl _ wr).alloc (Nat.le_refl _) (.cells #[.int .u8 0, .int .u8 0, .int .u8 0, .int .u8 0, .int .u8 0, .int .u8 0, .int .u8 0, .int .u8 0, .int .u8 0, .int .u8 0, .int .u8 0, .int .u8 0, .int .u8 0, .int .u8 0, .int .u8 0, .int .u8 0, .int .u8 0, .int .u8 0, .int .u8 0, .int .u8 0, .int .u8 0, .int .u8 0, .int .u8 0, .int .u8 0, .int .u8 0, .int .u8 0, .int .u8 0, .int .u8 0, .int .u8 0, .int .u8 0, .int .u8 0, .int .u8 0] 25)) (Nat.le_refl _) (dgC p).toArray
      rw [HV1.out] at hw hb
      have HB2 := Lib.hid (HBa.out.trans (hb.mono HBa.out.size))
      have RV2 := Lib.hid (row_kept RVa.out hb)
      have KW2 := Lib.hid (HBW.out.trans (hb.mono HBW.out.size))
      have RP1 := Lib.hid hw
      clear hw hb HBa RVa HBW
      go_wp2_with (first | (with_reducible refine wpList_here ?_; refine wpList_load_mid rfl 25 (.tmp 20) rfl gp (op + j * 32) rfl (dgC p) _ HRP.out Tryd.underlying25 rfl HIP.out ?_) | (refine wpList_store_row rfl 25 (.tmp 9) (.tmp 21) rfl wr.heap.size (dgC p).toArray rfl rfl 25 _ (heap_alloc_new wr _) HIP2.out HZP.out (dgC_one _) ?_; rw [HV1.out]))
      dsimp only [Act.put]
      have HPN : Hid (p.length = 32) := Lib.hid HPO.out.len
      have HVN : Hid (vj.length = 32) := Lib.hid HVJO.out.len
      have HL1 : Hid (([] : List Nat).length + 32 ≤ 1099511627776) := Lib.hid (by simp)
      have HL2 : Hid (([] ++ vj : List Nat).length + 32 ≤ 1099511627776) := Lib.hid (by rw [List.nil_append, HVN.out]; omega)
      have HL3 : Hid (([] ++ p : List Nat).length + 32 ≤ 1099511627776) := Lib.hid (by rw [List.nil_append, HPN.out]; omega)
      have HC0 := Lib.hid (Below.refl V1.heap.size V1).drew
      refine region_flow3 (by kernel_rfl) (by kernel_rfl) (fun i => Nat.beq i 5) (fun i => i) (by kernel_rfl) (fun fx => #[Value.agg (dgC d).toArray, Value.slice (some { block := gs, off := 0 }) n cs, Value.slice (some { block := gp, off := op }) n c, Value.pointer (some { block := w.heap.size, off := 0 }), undef, undef, Value.slice A3 cells.length c3, Value.pointer (some { block := U1.heap.size, off := 0 }), Value.int IntKind.i64 ↑j, Value.pointer (some { block := wr.heap.size, off := 0 }), fx 5, Value.slice (some { block := w.heap.size, off := 0 }) 32 32, Value.slice (some { block := W1.heap.size, off := 0 }) 1 1, Value.slice (some { block := w.heap.size, off := 0 }) 32 32, Value.agg (dgC v0).toArray, Value.slice (some { block := gp, off := op }) n c, Value.int IntKind.i64 ↑n, Value.int IntKind.i64 ↑j, Value.bool true, Value.int IntKind.i64 ↑j, Value.pointer (some { block := gp, off := op + j * 32 }), Value.agg (dgC p).toArray, fx 0, fx 1, fx 2, fx 3, fx 4, u27, u28, u29, u30, u31, u32, u33, u34, u35, u36, u37, u38, u39, u40, u41, u42, u43, u44, u45, u46, u47, u48, undef]) (fun i => bif Nat.beq i 0 then u22 else bif Nat.beq i 1 then u23 else bif Nat.beq i 2 then u24 else bif Nat.beq i 3 then u25 else bif Nat.beq i 4 then u26 else bif Nat.beq i 5 then u10 else undef) (fun _ _ w' => Below V1.heap.size V1 w') (fun fi fv _ fw => wIn V1.heap.size (Value.slice (some { block := U1.heap.size, off := 0 }) 32 32) (Value.slice (some { block := wr.heap.size, off := 0 }) 32 32) vj p fi fv fw) HC0.out ?_ ?_
      · refine ⟨?_, ?_, ?_, ?_, ?_, ?_, trivial⟩
        all_goals intro L fx w' hC hi hcl hdn hd
        · have hbb : Below w'.heap.size w' (w'.alloc (.cells #[] 5)) := (Below.refl _ _).alloc (Nat.le_refl _) _
          clear hd
          go_wp2_with fail
          exact ⟨_, rfl, hC.trans (hbb.mono hC.size), ⟨ownB_mt w' _ hC.size, _, rfl⟩, fun j v t _ _ h => wIn_below hbb j v h⟩
        · clear hd
          go_wp2_with fail
          exact ⟨_, rfl, hC, rfl, fun _ _ _ _ _ h => h⟩
        · have H0 := Lib.hid (hd.1 rfl)
          have h1 : fx 1 = Value.slice (some { block := U1.heap.size, off := 0 }) 32 32 := hd.2.1 rfl
          obtain ⟨A0, e0⟩ := H0.out.2
          have hrow := row_kept RV2.out hC
          have HRR : Hid (Rd w' w'.heap.size (some ⟨U1.heap.size, 0, none⟩) vj) := Lib.hid (fun _ => ⟨_, 0, rfl, (Array.getElem?_eq_some_iff.1 hrow).1, bytesAt_arr hrow⟩)
          have HOV : Hid (OwnB w' V1.heap.size (fx 0) []) := Lib.hid H0.out.1
          have HSZ := Lib.hid hC.size
          refine wpList_append_bytes rfl (.tmp 22) (.tmp 23) ?ha62 V1.heap.size (fx 0) [] vj ?hx62 HOV (some ⟨U1.heap.size, 0, none⟩) 32 32 ?hy62 HVN (fun h => by cases h) HRR HL1.out HSZ.out ?_
          all_goals first | rfl | exact h1 | skip
          intro v2 w2 HO2 HB2
          clear hd hrow
          go_wp2_with fail
          refine ⟨v2, by first | rfl | (simp only [upd, h1, e0]; rfl), hC.trans HB2.out, HO2.out, fun j v t hj hu h => ?_⟩
          refine wIn_pure j v ?_ ?_ ?_ ?_ h <;> intro e <;> subst e
          · refine absurd hu (not_needed (E := fun i => Nat.beq i 5) (j := 0) [2] (by kernel_rfl) (by kernel_rfl) ?_)
            intro m hm hne; simp at hm; omega
          · rw [hi] at hj; cases hj
          · have := hcl 4 2 hj (by kernel_rfl); rw [hi] at this; cases this
          · have := hcl 4 2 (hcl 5 4 hj (by kernel_rfl)) (by kernel_rfl); rw [hi] at this; cases this
        · clear hd
          go_wp2_with fail
          exact ⟨_, rfl, hC, rfl, fun _ _ _ _ _ h => h⟩
        · have H2 := Lib.hid (hd.1 rfl)
          have h3 : fx 3 = Value.slice (some { block := wr.heap.size, off := 0 }) 32 32 := hd.2.1 rfl
          obtain ⟨A0, n0, c0, e0, _, _, _, _⟩ := H2.out.slice
          have hrow := row_kept RP1.out hC
          have HRR : Hid (Rd w' w'.heap.size (some ⟨wr.heap.size, 0, none⟩) p) := Lib.hid (fun _ => ⟨_, 0, rfl, (Array.getElem?_eq_some_iff.1 hrow).1, bytesAt_arr hrow⟩)
          have HOV : Hid (OwnB w' V1.heap.size (fx 2) ([] ++ vj)) := Lib.hid H2.out
          have HSZ := Lib.hid hC.size
          refine wpList_append_bytes rfl (.tmp 24) (.tmp 25) ?ha64 V1.heap.size (fx 2) ([] ++ vj) p ?hx64 HOV (some ⟨wr.heap.size, 0, none⟩) 32 32 ?hy64 HPN (fun h => by cases h) HRR HL2.out HSZ.out ?_
          all_goals first | rfl | exact h3 | skip
          intro v2 w2 HO2 HB2
          clear hd hrow
          go_wp2_with fail
          refine ⟨v2, by first | rfl | (simp only [upd, h3, e0]; rfl), hC.trans HB2.out, HO2.out, fun j v t hj hu h => ?_⟩
          refine wIn_pure j v ?_ ?_ ?_ ?_ h <;> intro e <;> subst e
          · refine absurd hu (not_needed (E := fun i => Nat.beq i 5) (j := 0) [2] (by kernel_rfl) (by kernel_rfl) ?_)
            intro m hm hne; simp at hm; subst hm; exact hdn 2 (by kernel_rfl)
          · refine absurd hu (not_needed (E := fun i => Nat.beq i 5) (j := 2) [4] (by kernel_rfl) (by kernel_rfl) ?_)
            intro m hm hne; simp at hm; omega
          · rw [hi] at hj; cases hj
          · have := hcl 5 4 hj (by kernel_rfl); rw [hi] at this; cases this
        · have H4 := Lib.hid (hd.1 rfl)
          clear hd
          go_wp2_with fail
          exact ⟨fx 4, rfl, hC, H4.out, fun _ _ _ _ _ h => h⟩
      · intro L fo w' hC hS
        have H5 := Lib.hid (hS 5 (by decide) rfl)
        rename World => W6
        have HBZ := Lib.hid (HB2.out.trans (hC.mono HB2.out.size))
        have HWZ := Lib.hid (KW2.out.trans (hC.mono KW2.out.size))
        have RVZ := Lib.hid (row_kept RV2.out hC)
        have RPZ := Lib.hid (row_kept RP1.out hC)
        have scell : W6.cell? ⟨gs, j, none⟩ = some (.bool (!r)) := (HBZ.out.cell (p := ⟨gs, j, none⟩) HGS.out).trans HSC.out
        have HMZ := Lib.hid hC.size
        have HW9 : Hid (wr.heap.size < V1.heap.size) := Lib.hid (block_ltD RP1.out)
        cases r with
        | true =>
          rw [show (!true) = false from rfl] at scell
          obtain ⟨gb, cb, e5, hcb, hgb, hgl, hbb⟩ := ownB_one H5.out (by simp [HPN.out, HVN.out])
          rw [List.nil_append] at e5 hcb hbb
          have hl64 : (vj ++ p).length = 64 := by rw [List.length_append, HPN.out, HVN.out]
          rw [hl64] at e5 hcb
          rw [e5]
          have HLB := Lib.hid hl64
          have HBY : Hid (Bytes (vj ++ p)) := Lib.hid (bytes_app2 HVJO.out.bytes HPO.out.bytes)
          have HCB := Lib.hid hcb
          obtain ⟨u, HUE⟩ : ∃ u, Hid (Value.slice (some ⟨gb, 0, none⟩) 64 cb = u) := ⟨_, Lib.hid rfl⟩
          have HOr := Lib.hid (HO.out.below HWZ.out)
          have hnx : ¬ XB (U1.heap.size) (.slice A3 cells.length c3) gb := by
            rintro (e | e)
            · have := HVW.out; have := HW9.out; have := hgb; omega
            · have := (HO.out.block gb e).2.1; have := HW9.out; have := hgb; omega
          have HQr := Lib.hid ((HQ.out.below HWZ.out).snoc (x := (vj ++ p)) hl64 hcb HBY.out hgl hnx hbb)
          have hba := (Below.refl _ W6).alloc (Nat.le_refl _) (.cells #[.slice (some ⟨gb, 0, none⟩) 64 cb] 55)
          have hra := heap_alloc_new W6 (.cells #[.slice (some ⟨gb, 0, none⟩) 64 cb] 55)
          obtain ⟨Wa, HWa⟩ : ∃ V, Hid (W6.alloc (.cells #[.slice (some ⟨gb, 0, none⟩) 64 cb] 55) = V) := ⟨_, Lib.hid rfl⟩
          rw [HWa.out] at hba hra
          have HRa := Lib.hid hra
          have HOa := Lib.hid (HOr.out.below hba)
          have HQa := Lib.hid (HQr.out.below hba)
          have RVA := Lib.hid (row_kept RVZ.out hba)
          have HBA := Lib.hid (HBZ.out.trans (hba.mono HBZ.out.size))
          have HLC : Hid (cells.length ≤ 100000) := Lib.hid (by rw [HCL.out]; omega)
          have HSA : Hid (w.heap.size + 1 ≤ Wa.heap.size) := Lib.hid (by have := block_ltD HRa.out; have := HBZ.out.size; omega)
          have HBYa := Lib.hid (bytesAt_kept hbb (hba.block gb hgl))
          have HGB : Hid (gb < Wa.heap.size) := Lib.hid (Nat.lt_of_lt_of_le hgl hba.size)
          have HNX := Lib.hid hnx
          clear hba hra hgl hbb hcb hl64 hnx hgb hC hS
          go_wp2_with (first | (rw [HWa.out]) | (refine wpList_append_sl rfl (.tmp 42) (.tmp 44) rfl (w.heap.size + 1) _ cells (.slice (some ⟨gb, 0, none⟩) 64 cb) rfl rfl HOa W6.heap.size rfl HRa HLC.out HSA.out ?_))
          intro v2 Wb HO2 HG2 HOB
          clear scell
          obtain ⟨A4, c4, e4⟩ := HO2.out.form
          have e4b : v2 = .slice A4 (cells.length + 1) c4 := by rw [e4, List.length_append]; rfl
          clear e4
          subst e4b
          have HBb := Lib.hid (HBA.out.grown HG2.out (by have := HSA.out; omega) (fun g hg => by have := (HOa.out.block g hg).1; omega))
          have RVb : Hid (Wb.heap[U1.heap.size]? = some (.cells (dgC vj).toArray 25 (0, 0))) := Lib.hid ((HG2.out.block _ (block_ltD RVA.out) (fun e => by
            obtain ⟨_, _, cur, hc⟩ := HOa.out.block _ e.symm
            rw [RVA.out] at hc
            simp at hc)).trans RVA.out)
          have HQb : Hid (SlsAt Wb (XB (U1.heap.size) (.slice A4 (cells.length + 1) c4)) (cells ++ [.slice (some ⟨gb, 0, none⟩) 64 cb]) (xs ++ [(vj ++ p)])) := Lib.hid (HQa.out.kept (fun g hg hx => HG2.out.block g hg (fun e => hx (.inr e.symm))) HG2.out.size (fun g hg hx => by
            rintro (e | e)
            · exact hx (.inl e)
            · rcases HOB.out with h | h
              · exact hx (.inr (h.symm.trans e))
              · have h2 := h.symm.trans e
                have h3 : Wa.heap.size = g := Option.some.inj h2
                omega))
          have HBYb : Hid (BytesAt Wb gb 0 (vj ++ p)) := Lib.hid (bytesAt_kept HBYa.out (HG2.out.block gb HGB.out (fun e => HNX.out (.inr e.symm))))
          have HRb : Hid (Rd Wb Wb.heap.size (some ⟨gb, 0, none⟩) (vj ++ p)) := Lib.hid (fun _ => ⟨gb, 0, rfl, Nat.lt_of_lt_of_le HGB.out HG2.out.size, HBYb.out⟩)
          go_wp2_with fail
          refine (tagged_any nodeTag (some ⟨gb, 0, none⟩) 64 cb (vj ++ p) _ (by decide) HLB HCB.out (fun h => by cases h) (by omega) HBY (Lib.hid (hT.out.below HBb.out)) HRb).mono ?_
          rintro e Wc ⟨rfl, hqc⟩
          have HVN2 : Hid (tagged (strL nodeTag) (vj ++ p) = climbD (rs.take (j + 1)) (ps.take (j + 1)) v0) := Lib.hid (by
            rw [climbD_take v0 hjr hjp, HVJ.out, HPJ.out, HRJ.out, stepD_in]; rfl)
          obtain ⟨vn, HVNE⟩ : ∃ v, Hid (climbD (rs.take (j + 1)) (ps.take (j + 1)) v0 = v) := ⟨_, Lib.hid rfl⟩
          have HVNO : Hid (DgOk vn) := Lib.hid (by rw [← HVNE.out]; exact climbD_dg HVO.out)
          rw [HVN2.out, HVNE.out, dgV_agg vn]
          have HIN2 := Lib.hid (dgC_info HVNO.out)
          have HZN : Hid ((dgC vj).toArray.size = (dgC vn).toArray.size) := Lib.hid (by rw [← dgC_size HVNO.out, ← dgC_size HVJO.out])
          have RVc := Lib.hid (row_kept RVb.out hqc)
          have HBc := Lib.hid (HBb.out.trans (hqc.mono HBb.out.size))
          have HQc := Lib.hid (HQb.out.below hqc)
          have HOc := Lib.hid (HO2.out.below hqc)
          have HXN : Hid (d :: insD (rs.take (j + 1)) (ps.take (j + 1)) v0 = xs ++ [(vj ++ p)]) := Lib.hid (by
            rw [insD_take v0 hjr hjp, HVJ.out, HPJ.out, HRJ.out, ← HXS.out]; rfl)
          have HBW2 : Hid (w.heap.size ≤ U1.heap.size) := Lib.hid (by have := HU.out; omega)
          clear hqc
          go_wp2_with (with_reducible refine wpList_here ?_; refine wpList_store_row rfl 25 (.tmp 7) (.tmp 47) rfl (U1.heap.size) (dgC vn).toArray rfl rfl 25 _ RVc.out HIN2.out HZN.out (dgC_one _) ?_)
          go_roundw
          case rel =>
            refine ⟨j + 1, cells ++ [.slice (some ⟨gb, 0, none⟩) 64 cb], by omega, by go_num, Lib.hid (HOc.out.kept (fun g hg => setRow_other _ _ _ _ (fun e => ?_))), ?_, Lib.hid ?_, Lib.hid (below_setRow HBc.out HBW2.out _), _, _, by rw [List.length_append]; rfl⟩
            · subst e
              obtain ⟨_, _, cur, hc⟩ := HOc.out.block _ hg
              rw [RVc.out] at hc
              simp at hc
            · rw [HXN.out]
              exact Lib.hid (HQc.out.kept (fun g hg hx => setRow_other _ _ _ _ (fun e => hx (.inl e))) (by rw [setRow_size]; exact Nat.le_refl _) (fun g hg hx => hx))
            · rw [HVNE.out]; exact setRow_heap _ _ _ _ _ _ RVc.out
          case measure => simp [intOf]; omega
        | false =>
          obtain ⟨gq, cq, eq5, _, _, _, _⟩ := ownB_one H5.out (by simp [HPN.out, HVN.out])
          rw [eq5]
          rw [show (!false) = true from rfl] at scell
          clear hS hC
          go_wp2_with fail
          have HC0 := Lib.hid (Below.refl W6.heap.size W6).drew
          refine region_flow3 (by kernel_rfl) (by kernel_rfl) (fun i => Nat.beq i 5) (fun i => i) (by kernel_rfl) (fun fx => #[Value.agg (dgC d).toArray, Value.slice (some { block := gs, off := 0 }) n cs, Value.slice (some { block := gp, off := op }) n c, Value.pointer (some { block := w.heap.size, off := 0 }), undef, undef, Value.slice A3 cells.length c3, Value.pointer (some { block := U1.heap.size, off := 0 }), Value.int IntKind.i64 ↑j, Value.pointer (some { block := wr.heap.size, off := 0 }), fx 5, Value.slice (some { block := w.heap.size, off := 0 }) 32 32, Value.slice (some { block := W1.heap.size, off := 0 }) 1 1, Value.slice (some { block := w.heap.size, off := 0 }) 32 32, Value.agg (dgC v0).toArray, Value.slice (some { block := gp, off := op }) n c, Value.int IntKind.i64 ↑n, Value.int IntKind.i64 ↑j, Value.bool true, Value.int IntKind.i64 ↑j, Value.pointer (some { block := gp, off := op + j * 32 }), Value.agg (dgC p).toArray, fo 0, fo 1, fo 2, fo 3, fo 4, Value.int IntKind.i64 ↑j, Value.slice (some { block := gs, off := 0 }) n cs, Value.int IntKind.i64 ↑n, Value.bool true, Value.bool true, Value.slice (some { block := gs, off := 0 }) n cs, Value.int IntKind.i64 ↑j, Value.pointer (some { block := gs, off := j }), Value.bool true, Value.bool true, fx 0, fx 1, fx 2, fx 3, fx 4, u42, u43, u44, u45, u46, u47, u48, undef]) (fun i => bif Nat.beq i 0 then u37 else bif Nat.beq i 1 then u38 else bif Nat.beq i 2 then u39 else bif Nat.beq i 3 then u40 else bif Nat.beq i 4 then u41 else bif Nat.beq i 5 then Value.slice (some { block := gq, off := 0 }) ([] ++ vj ++ p).length cq else undef) (fun _ _ w' => Below W6.heap.size W6 w') (fun fi fv _ fw => wIn W6.heap.size (Value.slice (some { block := wr.heap.size, off := 0 }) 32 32) (Value.slice (some { block := U1.heap.size, off := 0 }) 32 32) p vj fi fv fw) HC0.out ?_ ?_
          · refine ⟨?_, ?_, ?_, ?_, ?_, ?_, trivial⟩
            all_goals intro L fx w' hC hi hcl hdn hd
            · have hbb : Below w'.heap.size w' (w'.alloc (.cells #[] 5)) := (Below.refl _ _).alloc (Nat.le_refl _) _
              clear hd
              go_wp2_with fail
              exact ⟨_, rfl, hC.trans (hbb.mono hC.size), ⟨ownB_mt w' _ hC.size, _, rfl⟩, fun j v t _ _ h => wIn_below hbb j v h⟩
            · clear hd
              go_wp2_with fail
              exact ⟨_, rfl, hC, rfl, fun _ _ _ _ _ h => h⟩
            · have H0 := Lib.hid (hd.1 rfl)
              have h1 : fx 1 = Value.slice (some { block := wr.heap.size, off := 0 }) 32 32 := hd.2.1 rfl
              obtain ⟨A0, e0⟩ := H0.out.2
              have hrow := row_kept RPZ.out hC
              have HRR : Hid (Rd w' w'.heap.size (some ⟨wr.heap.size, 0, none⟩) p) := Lib.hid (fun _ => ⟨_, 0, rfl, (Array.getElem?_eq_some_iff.1 hrow).1, bytesAt_arr hrow⟩)
              have HOV : Hid (OwnB w' W6.heap.size (fx 0) []) := Lib.hid H0.out.1
              have HSZ := Lib.hid hC.size
              refine wpList_append_bytes rfl (.tmp 37) (.tmp 38) ?ha82 W6.heap.size (fx 0) [] p ?hx82 HOV (some ⟨wr.heap.size, 0, none⟩) 32 32 ?hy82 HPN (fun h => by cases h) HRR HL1.out HSZ.out ?_
              all_goals first | rfl | exact h1 | skip
              intro v2 w2 HO2 HB2
              clear hd hrow
              go_wp2_with fail
              refine ⟨v2, by first | rfl | (simp only [upd, h1, e0]; rfl), hC.trans HB2.out, HO2.out, fun j v t hj hu h => ?_⟩
              refine wIn_pure j v ?_ ?_ ?_ ?_ h <;> intro e <;> subst e
              · refine absurd hu (not_needed (E := fun i => Nat.beq i 5) (j := 0) [2] (by kernel_rfl) (by kernel_rfl) ?_)
                intro m hm hne; simp at hm; omega
              · rw [hi] at hj; cases hj
              · have := hcl 4 2 hj (by kernel_rfl); rw [hi] at this; cases this
              · have := hcl 4 2 (hcl 5 4 hj (by kernel_rfl)) (by kernel_rfl); rw [hi] at this; cases this
            · clear hd
              go_wp2_with fail
              exact ⟨_, rfl, hC, rfl, fun _ _ _ _ _ h => h⟩
            · have H2 := Lib.hid (hd.1 rfl)
              have h3 : fx 3 = Value.slice (some { block := U1.heap.size, off := 0 }) 32 32 := hd.2.1 rfl
              obtain ⟨A0, n0, c0, e0, _, _, _, _⟩ := H2.out.slice
              have hrow := row_kept RVZ.out hC
              have HRR : Hid (Rd w' w'.heap.size (some ⟨U1.heap.size, 0, none⟩) vj) := Lib.hid (fun _ => ⟨_, 0, rfl, (Array.getElem?_eq_some_iff.1 hrow).1, bytesAt_arr hrow⟩)
              have HOV : Hid (OwnB w' W6.heap.size (fx 2) ([] ++ p)) := Lib.hid H2.out
              have HSZ := Lib.hid hC.size
              refine wpList_append_bytes rfl (.tmp 39) (.tmp 40) ?ha84 W6.heap.size (fx 2) ([] ++ p) vj ?hx84 HOV (some ⟨U1.heap.size, 0, none⟩) 32 32 ?hy84 HVN (fun h => by cases h) HRR HL3.out HSZ.out ?_
              all_goals first | rfl | exact h3 | skip
              intro v2 w2 HO2 HB2
              clear hd hrow
              go_wp2_with fail
              refine ⟨v2, by first | rfl | (simp only [upd, h3, e0]; rfl), hC.trans HB2.out, HO2.out, fun j v t hj hu h => ?_⟩
              refine wIn_pure j v ?_ ?_ ?_ ?_ h <;> intro e <;> subst e
              · refine absurd hu (not_needed (E := fun i => Nat.beq i 5) (j := 0) [2] (by kernel_rfl) (by kernel_rfl) ?_)
                intro m hm hne; simp at hm; subst hm; exact hdn 2 (by kernel_rfl)
              · refine absurd hu (not_needed (E := fun i => Nat.beq i 5) (j := 2) [4] (by kernel_rfl) (by kernel_rfl) ?_)
                intro m hm hne; simp at hm; omega
              · rw [hi] at hj; cases hj
              · have := hcl 5 4 hj (by kernel_rfl); rw [hi] at this; cases this
            · have H4 := Lib.hid (hd.1 rfl)
              clear hd
              go_wp2_with fail
              exact ⟨fx 4, rfl, hC, H4.out, fun _ _ _ _ _ h => h⟩
          · intro L fp w' hC hS
            have H5 := Lib.hid (hS 5 (by decide) rfl)
            rename World => W8
            have HBY8 := Lib.hid (HBZ.out.trans (hC.mono HBZ.out.size))
            have HWY8 := Lib.hid (HWZ.out.trans (hC.mono HWZ.out.size))
            have RVY8 := Lib.hid (row_kept RVZ.out hC)
            obtain ⟨gb, cb, e5, hcb, hgb, hgl, hbb⟩ := ownB_one H5.out (by simp [HPN.out, HVN.out])
            rw [List.nil_append] at e5 hcb hbb
            have hl64 : (p ++ vj).length = 64 := by rw [List.length_append, HPN.out, HVN.out]
            rw [hl64] at e5 hcb
            rw [e5]
            have HLB := Lib.hid hl64
            have HBY : Hid (Bytes (p ++ vj)) := Lib.hid (bytes_app2 HPO.out.bytes HVJO.out.bytes)
            have HCB := Lib.hid hcb
            obtain ⟨u, HUE⟩ : ∃ u, Hid (Value.slice (some ⟨gb, 0, none⟩) 64 cb = u) := ⟨_, Lib.hid rfl⟩
            have HOr := Lib.hid (HO.out.below HWY8.out)
            have hnx : ¬ XB (U1.heap.size) (.slice A3 cells.length c3) gb := by
              rintro (e | e)
              · have := HVW.out; have := HW9.out; have := (Nat.le_trans HMZ.out hgb); omega
              · have := (HO.out.block gb e).2.1; have := HW9.out; have := (Nat.le_trans HMZ.out hgb); omega
            have HQr := Lib.hid ((HQ.out.below HWY8.out).snoc (x := (p ++ vj)) hl64 hcb HBY.out hgl hnx hbb)
            have hba := (Below.refl _ W8).alloc (Nat.le_refl _) (.cells #[.slice (some ⟨gb, 0, none⟩) 64 cb] 55)
            have hra := heap_alloc_new W8 (.cells #[.slice (some ⟨gb, 0, none⟩) 64 cb] 55)
            obtain ⟨Wa, HWa⟩ : ∃ V, Hid (W8.alloc (.cells #[.slice (some ⟨gb, 0, none⟩) 64 cb] 55) = V) := ⟨_, Lib.hid rfl⟩
            rw [HWa.out] at hba hra
            have HRa := Lib.hid hra
            have HOa := Lib.hid (HOr.out.below hba)
            have HQa := Lib.hid (HQr.out.below hba)
            have RVA := Lib.hid (row_kept RVY8.out hba)
            have HBA := Lib.hid (HBY8.out.trans (hba.mono HBY8.out.size))
            have HLC : Hid (cells.length ≤ 100000) := Lib.hid (by rw [HCL.out]; omega)
            have HSA : Hid (w.heap.size + 1 ≤ Wa.heap.size) := Lib.hid (by have := block_ltD HRa.out; have := HBY8.out.size; omega)
            have HBYa := Lib.hid (bytesAt_kept hbb (hba.block gb hgl))
            have HGB : Hid (gb < Wa.heap.size) := Lib.hid (Nat.lt_of_lt_of_le hgl hba.size)
            have HNX := Lib.hid hnx
            clear hba hra hgl hbb hcb hl64 hnx hgb hC hS
            go_wp2_with (first | (rw [HWa.out]) | (refine wpList_append_sl rfl (.tmp 42) (.tmp 44) rfl (w.heap.size + 1) _ cells (.slice (some ⟨gb, 0, none⟩) 64 cb) rfl rfl HOa W8.heap.size rfl HRa HLC.out HSA.out ?_))
            intro v2 Wb HO2 HG2 HOB
            clear scell
            obtain ⟨A4, c4, e4⟩ := HO2.out.form
            have e4b : v2 = .slice A4 (cells.length + 1) c4 := by rw [e4, List.length_append]; rfl
            clear e4
            subst e4b
            have HBb := Lib.hid (HBA.out.grown HG2.out (by have := HSA.out; omega) (fun g hg => by have := (HOa.out.block g hg).1; omega))
            have RVb : Hid (Wb.heap[U1.heap.size]? = some (.cells (dgC vj).toArray 25 (0, 0))) := Lib.hid ((HG2.out.block _ (block_ltD RVA.out) (fun e => by
              obtain ⟨_, _, cur, hc⟩ := HOa.out.block _ e.symm
              rw [RVA.out] at hc
              simp at hc)).trans RVA.out)
            have HQb : Hid (SlsAt Wb (XB (U1.heap.size) (.slice A4 (cells.length + 1) c4)) (cells ++ [.slice (some ⟨gb, 0, none⟩) 64 cb]) (xs ++ [(p ++ vj)])) := Lib.hid (HQa.out.kept (fun g hg hx => HG2.out.block g hg (fun e => hx (.inr e.symm))) HG2.out.size (fun g hg hx => by
              rintro (e | e)
              · exact hx (.inl e)
              · rcases HOB.out with h | h
                · exact hx (.inr (h.symm.trans e))
                · have h2 := h.symm.trans e
                  have h3 : Wa.heap.size = g := Option.some.inj h2
                  omega))
            have HBYb : Hid (BytesAt Wb gb 0 (p ++ vj)) := Lib.hid (bytesAt_kept HBYa.out (HG2.out.block gb HGB.out (fun e => HNX.out (.inr e.symm))))
            have HRb : Hid (Rd Wb Wb.heap.size (some ⟨gb, 0, none⟩) (p ++ vj)) := Lib.hid (fun _ => ⟨gb, 0, rfl, Nat.lt_of_lt_of_le HGB.out HG2.out.size, HBYb.out⟩)
            go_wp2_with fail
            refine (tagged_any nodeTag (some ⟨gb, 0, none⟩) 64 cb (p ++ vj) _ (by decide) HLB HCB.out (fun h => by cases h) (by omega) HBY (Lib.hid (hT.out.below HBb.out)) HRb).mono ?_
            rintro e Wc ⟨rfl, hqc⟩
            have HVN2 : Hid (tagged (strL nodeTag) (p ++ vj) = climbD (rs.take (j + 1)) (ps.take (j + 1)) v0) := Lib.hid (by
              rw [climbD_take v0 hjr hjp, HVJ.out, HPJ.out, HRJ.out, stepD_in]; rfl)
            obtain ⟨vn, HVNE⟩ : ∃ v, Hid (climbD (rs.take (j + 1)) (ps.take (j + 1)) v0 = v) := ⟨_, Lib.hid rfl⟩
            have HVNO : Hid (DgOk vn) := Lib.hid (by rw [← HVNE.out]; exact climbD_dg HVO.out)
            rw [HVN2.out, HVNE.out, dgV_agg vn]
            have HIN2 := Lib.hid (dgC_info HVNO.out)
            have HZN : Hid ((dgC vj).toArray.size = (dgC vn).toArray.size) := Lib.hid (by rw [← dgC_size HVNO.out, ← dgC_size HVJO.out])
            have RVc := Lib.hid (row_kept RVb.out hqc)
            have HBc := Lib.hid (HBb.out.trans (hqc.mono HBb.out.size))
            have HQc := Lib.hid (HQb.out.below hqc)
            have HOc := Lib.hid (HO2.out.below hqc)
            have HXN : Hid (d :: insD (rs.take (j + 1)) (ps.take (j + 1)) v0 = xs ++ [(p ++ vj)]) := Lib.hid (by
              rw [insD_take v0 hjr hjp, HVJ.out, HPJ.out, HRJ.out, ← HXS.out]; rfl)
            have HBW2 : Hid (w.heap.size ≤ U1.heap.size) := Lib.hid (by have := HU.out; omega)
            clear hqc
            go_wp2_with (with_reducible refine wpList_here ?_; refine wpList_store_row rfl 25 (.tmp 7) (.tmp 47) rfl (U1.heap.size) (dgC vn).toArray rfl rfl 25 _ RVc.out HIN2.out HZN.out (dgC_one _) ?_)
            go_roundw
            case rel =>
              refine ⟨j + 1, cells ++ [.slice (some ⟨gb, 0, none⟩) 64 cb], by omega, by go_num, Lib.hid (HOc.out.kept (fun g hg => setRow_other _ _ _ _ (fun e => ?_))), ?_, Lib.hid ?_, Lib.hid (below_setRow HBc.out HBW2.out _), _, _, by rw [List.length_append]; rfl⟩
              · subst e
                obtain ⟨_, _, cur, hc⟩ := HOc.out.block _ hg
                rw [RVc.out] at hc
                simp at hc
              · rw [HXN.out]
                exact Lib.hid (HQc.out.kept (fun g hg hx => setRow_other _ _ _ _ (fun e => hx (.inl e))) (by rw [setRow_size]; exact Nat.le_refl _) (fun g hg hx => hx))
              · rw [HVNE.out]; exact setRow_heap _ _ _ _ _ _ RVc.out
            case measure => simp [intOf]; omega
    · have d1 : decide ((j : Int) < (n : Int)) = false := decide_eq_false (by omega)
      have d1n : decide (j < n) = false := decide_eq_false hlt
      have HXF : Hid (d :: insD rs ps v0 = xs) := Lib.hid (by
        rw [← HXS.out, List.take_of_length_le (by rw [hlen.out]; omega), List.take_of_length_le (by rw [HPL.out]; omega)])
      go_wp2_with fail
      go_ret
      exact ⟨_, _, _, cells, rfl, HO.out.low (Nat.le_succ _), by rw [HXF.out]; exact HQ.out.kept (fun _ _ _ => rfl) (Nat.le_refl _) (fun _ _ _ h => h), HBa.out⟩
end Go.Proofs.YtmfmgeapecapiaaDoor
