/- slices.Clone of bytes; sizar/tree.hash. sizar/tree: valid, half. Nodes laid in memory: struct literals and slice literals of nodes. sizar/tree.Join. -/
import Derived.Test.YtmfmgeapecapiaaGreatDoorVS2
import Derived.WalkSpells
import Derived.Lib.SliceRun
import Derived.Test.YtmfmgeapecapiaaGreatDoorVS0
import Derived.Deep.MidRow
import Derived.IntWalk
import Derived.Great.BuildSlice
import Derived.Lib.AppendZeros
set_option maxHeartbeats 64000001
open Go.Lib (hid)
namespace Go.Proofs.YtmfmgeapecapiaaGreatDoor
open Go.RowKit SzSha SzTree
set_option linter.unusedVariables false
set_option maxRecDepth 100000
theorem clone_any (A : Option Addr) (n c : Nat) (l : List Nat) (w : World) (hn : n ≤ 1000000000) (h : Hid (In w A n c l)) :
  Calls Tryz.prog 135 #[.slice A n c] w fun e w' => ∃ v, e = .returned v ∧ OwnB w' w.heap.size v l ∧ Below w.heap.size w w' := by
 have kn0 := fun W => Lib.run_eql_slice_nil (P := Tryz.prog) W 143 5 A n c 0 0 Tryz.underlying143
 rcases A with _ | a
 ·have h0 : n = 0 := by have := h.out.none_ rfl; have := h.out.cap; omega
  have hl : l = [] := List.eq_nil_of_length_eq_zero (by rw [h.out.len]; exact h0)
  have hc0 : c = 0 := h.out.none_ rfl
  subst hl
  subst h0
  subst hc0
  clear h hn
  go_enter Tryz.func135, Tryz.ntmps135
  go_wp2_with fail
  go_ret
  exact ⟨_, rfl, OwnB.nil _ _, Below.refl _ _⟩
 ·have HO := hid (⟨rfl, .inr ⟨w.heap.size, 0, #[], rfl, Nat.le_refl _, heap_alloc_new w _, Nat.le_refl _, by simp [maxLen], rfl, rfl⟩⟩ : OwnB (w.alloc (.cells #[] 5)) w.heap.size (.slice (some ⟨w.heap.size, 0, none⟩) 0 0) [])
  have HB := hid ((Below.refl _ w).alloc (Nat.le_refl _) (.cells #[] 5))
  have HR := hid ((h.out.rd.below HB.out (Nat.le_refl _)).mono HB.out.size)
  have HLN := hid h.out.len
  have hlen : ([] : List Nat).length + n ≤ 1099511627776 := by simp; omega
  go_enter Tryz.func135, Tryz.ntmps135
  go_wp2_with (at_builtin; refine wpList_append_bytes rfl (.tmp 5) (.tmp 6) rfl w.heap.size _ [] l rfl HO (some a) n c rfl HLN (fun h => by cases h) HR hlen HB.out.size ?_; intro v2 w2 HO2 HB2)
  rw [List.nil_append] at HO2
  go_ret
  exact ⟨_, rfl, HO2.out, HB.out.trans HB2.out⟩
/-- the cells of integers of the codec -/
def vcells : List Int → List Value
 | [] => []
 | z :: zs => .int .i64 1 :: .int .i64 z :: .string ⟨#[]⟩ :: .slice none 0 0 :: vcells zs
theorem vcells_append : ∀ (a b : List Int), vcells (a ++ b) = vcells a ++ vcells b
 | [], b => rfl
 | z :: a, b => by simp only [List.cons_append, vcells, vcells_append a b]
theorem vcells_get : ∀ (zs : List Int) (i : Nat) (hi : i < zs.length), (vcells zs)[i * 4]? = some (.int .i64 1) ∧ (vcells zs)[i * 4 + 1]? = some (.int .i64 zs[i]) ∧ (vcells zs)[i * 4 + 2]? = some (.string ⟨#[]⟩) ∧ (vcells zs)[i * 4 + 3]? = some (.slice none 0 0)
 | [], i, hi => by simp at hi
 | z :: zs, 0, _ => by simp [vcells]
 | z :: zs, i + 1, hi => by
  have h := vcells_get zs i (by simpa using hi)
  rw [show (i + 1) * 4 = i * 4 + 4 by omega]
  simpa [vcells] using h
/-- a slice of values that the call made -/
def OwnV (w : World) (base : Nat) (v : Value) (zs : List Int) : Prop := w.ownsRow base 148 4 v zs.length (vcells zs)
theorem OwnV.nil (w : World) (base : Nat) : OwnV w base (.slice none 0 0) [] := ⟨rfl, .inl ⟨rfl, rfl⟩⟩
theorem OwnV.slice {w : World} {base : Nat} {v : Value} {zs : List Int} (h : OwnV w base v zs) : ∃ A c, v = .slice A zs.length c ∧ VRd w w.heap.size A zs := by
 rcases h.2 with ⟨rfl, h0⟩ | ⟨g, cap, cur, rfl, hb, hh, hc, hm, hs, ht⟩
 ·exact ⟨none, 0, by rw [h0], fun h => by omega⟩
 ·refine ⟨_, cap, rfl, fun _ => ⟨g, rfl, (Array.getElem?_eq_some_iff.1 hh).1, fun i hi => ?_⟩⟩
  have key : ∀ k, k < zs.length * 4 → w.cell? ⟨g, 0 + k, none⟩ = (vcells zs)[k]? := fun k hk => by
   rw [Nat.zero_add, cell_of_row w g k cur _ _ hh, ← ht, List.getElem?_take_of_lt hk]; simp
  have hv := vcells_get zs i hi
  refine ⟨?_, ?_, ?_, ?_⟩
  ·rw [key _ (by omega)]; exact hv.1
  ·rw [show 0 + i * 4 + 1 = 0 + (i * 4 + 1) by omega, key _ (by omega)]; exact hv.2.1
  ·rw [show 0 + i * 4 + 2 = 0 + (i * 4 + 2) by omega, key _ (by omega)]; exact hv.2.2.1
  ·rw [show 0 + i * 4 + 3 = 0 + (i * 4 + 3) by omega, key _ (by omega)]; exact hv.2.2.2
theorem OwnV.kept {w w' : World} {base : Nat} {v : Value} {zs : List Int} (h : OwnV w base v zs) (hk : ∀ g, base ≤ g → g < w.heap.size → w'.heap[g]? = w.heap[g]?) : OwnV w' base v zs := by
 refine ⟨h.1, ?_⟩
 rcases h.2 with h0 | ⟨g, cap, cur, rfl, hb, hh, r⟩
 ·exact .inl h0
 ·exact .inr ⟨g, cap, cur, rfl, hb, (hk g hb (Array.getElem?_eq_some_iff.1 hh).1).trans hh, r⟩
theorem info_val : ∃ i, Tryz.prog.info? 148 = some i ∧ i.zero = some (.agg #[.int .i64 0, .int .i64 0, .string ⟨#[]⟩, .slice none 0 0]) ∧ i.size = 4 ∧ i.bytes = 56 := by
 refine ⟨_, rfl, ?_, ?_, ?_⟩ <;> kernel_rfl
theorem wpList_append_val {w : World} {ops : Array Oper} {rest : List Oper} {o : Oper} {a : Act} {Q : Exit → Act → World → Prop} (hgd : o.guard = none) (s x : Operand)
  (ho : o.op = .call { callee := .builtin .append, args := #[s, x], argTypes := #[146, 146] })
  (base : Nat) (v : Value) (zs : List Int) (z : Int) (hs : a.eval s = v) (hown : Hid (OwnV w base v zs)) (g : Nat) (hx : a.eval x = .slice (some ⟨g, 0, none⟩) 1 1)
  (hr : Hid (w.heap[g]? = some (.cells #[.int .i64 1, .int .i64 z, .string ⟨#[]⟩, .slice none 0 0] 148 (0, 0)))) (hlen : zs.length ≤ 100000) (hbase : base ≤ w.heap.size)
  (h : ∀ v' w', Hid (OwnV w' base v' (zs ++ [z])) → Hid (Below base w w') → wpList Tryz.prog ops Q rest (a.put o.dst v') w') : wpList Tryz.prog ops Q (o :: rest) a w := by
 obtain ⟨i0, hi, hz0, hz1, hz2⟩ := info_val
 refine wpList_append_own_at _ hgd s x _ ho base _ i0 _ 4 56 Tryz.underlying146 hi hz0 hz1 hz2 (by simp [Value.cells]) (by omega) v _ _ hs hown.out ⟨g, 0, none⟩ 1 1 [.int .i64 1, .int .i64 z, .string ⟨#[]⟩, .slice none 0 0] hx rfl (fun j u hu => ?_) (fun u hu => ?_) (by unfold maxLen; omega) (by omega) hbase ?_
 ·rw [add_row, cell_of_row _ _ _ _ _ _ hr.out, ← hu]; simp
 ·simp only [List.mem_cons, List.not_mem_nil, or_false] at hu
  rcases hu with rfl | rfl | rfl | rfl <;> rfl
 ·intro v' w' h1 h2 h3 h4
  refine h v' w' (hid ?_) (hid ((Below.refl base w).grown h2 hbase (fun k hk => ?_)))
  ·unfold OwnV
   rw [vcells_append, List.length_append]; exact h1
  ·rcases hown.out.2 with ⟨rfl, h0⟩ | ⟨g', cap, cur, rfl, hb, hh, r⟩
   ·cases hk
   ·have : g' = k := by simpa [Value.ownBlock] using hk
    omega
theorem ownV_form {w : World} {base : Nat} {v : Value} {zs : List Int} (h : OwnV w base v zs) : ∃ A n c, v = .slice A n c := by
 obtain ⟨A, c, e, _⟩ := h.slice
 exact ⟨A, _, c, e⟩
theorem row3 {w : World} {b : Nat} {v : Value} (h : w.heap[b]? = some (.cells #[.int .i64 3, .int .i64 0, .string ⟨#[]⟩, v] 148 (0, 0))) : w.cell? ⟨b, 3, none⟩ = some v ∧ w.frozen? ⟨b, 3, none⟩ = false :=
 ⟨by rw [cell_of_row _ _ _ _ _ _ h]; rfl, by simp [World.frozen?, h]⟩
theorem set3 {w : World} {b : Nat} {v v' : Value} (h : w.heap[b]? = some (.cells #[.int .i64 3, .int .i64 0, .string ⟨#[]⟩, v] 148 (0, 0))) : (w.setCell ⟨b, 3, none⟩ v').heap[b]? = some (.cells #[.int .i64 3, .int .i64 0, .string ⟨#[]⟩, v'] 148 (0, 0)) := by
 simp only [World.setCell, Array.getElem?_modify, if_true, h]; rfl
theorem thash_any (tag : ByteArray) (zs : List Int) (g m gc : Nat) (A : Option Addr) (n c : Nat) (l : List Nat) (w : World) (htag : tag.size ≤ 4294967296) (hz : Hid (∀ z ∈ zs, -9223372036854775808 ≤ z ∧ z ≤ 9223372036854775807)) (hm : zs.length = m) (hzn : m ≤ 1000) (hzc : Hid (∀ i, i < m → w.cell? ⟨g, i, none⟩ = some (.int .i64 (zs.getD i 0)))) (hg : g < w.heap.size) (hn : n ≤ 1000000) (hT : Hid (Tabs w)) (h : Hid (In w A n c l)) :
  Calls Tryz.prog 93 #[.string tag, .slice A n c, .slice (some ⟨g, 0, none⟩) m gc] w fun e w' => e = .returned (dgV (hashT (strL tag) l zs)) ∧ Below w.heap.size w w' := by
 have HM := hid hm
 clear hm
 have HB0 := hid (((Below.refl _ w).alloc (Nat.le_refl _) (.cells #[.int .u8 0, .int .u8 0, .int .u8 0, .int .u8 0, .int .u8 0, .int .u8 0, .int .u8 0, .int .u8 0, .int .u8 0, .int .u8 0, .int .u8 0, .int .u8 0, .int .u8 0, .int .u8 0, .int .u8 0, .int .u8 0, .int .u8 0, .int .u8 0, .int .u8 0, .int .u8 0, .int .u8 0, .int .u8 0, .int .u8 0, .int .u8 0, .int .u8 0, .int .u8 0, .int .u8 0, .int .u8 0, .int .u8 0, .int .u8 0, .int .u8 0, .int .u8 0] 25)).alloc (by simp) (.cells #[.int .i64 3, .int .i64 0, .string ⟨#[]⟩, .slice none 0 0] 148))
 have h1 := heap_alloc_new (w.alloc (.cells #[.int .u8 0, .int .u8 0, .int .u8 0, .int .u8 0, .int .u8 0, .int .u8 0, .int .u8 0, .int .u8 0, .int .u8 0, .int .u8 0, .int .u8 0, .int .u8 0, .int .u8 0, .int .u8 0, .int .u8 0, .int .u8 0, .int .u8 0, .int .u8 0, .int .u8 0, .int .u8 0, .int .u8 0, .int .u8 0, .int .u8 0, .int .u8 0, .int .u8 0, .int .u8 0, .int .u8 0, .int .u8 0, .int .u8 0, .int .u8 0, .int .u8 0, .int .u8 0] 25)) (.cells #[.int .i64 3, .int .i64 0, .string ⟨#[]⟩, .slice none 0 0] 148)
 have h2 := (Below.heap_alloc (w.alloc (.cells #[.int .u8 0, .int .u8 0, .int .u8 0, .int .u8 0, .int .u8 0, .int .u8 0, .int .u8 0, .int .u8 0, .int .u8 0, .int .u8 0, .int .u8 0, .int .u8 0, .int .u8 0, .int .u8 0, .int .u8 0, .int .u8 0, .int .u8 0, .int .u8 0, .int .u8 0, .int .u8 0, .int .u8 0, .int .u8 0, .int .u8 0, .int .u8 0, .int .u8 0, .int .u8 0, .int .u8 0, .int .u8 0, .int .u8 0, .int .u8 0, .int .u8 0, .int .u8 0] 25)) (.cells #[.int .i64 3, .int .i64 0, .string ⟨#[]⟩, .slice none 0 0] 148) w.heap.size (by simp)).trans (heap_alloc_new w _)
 rw [World.size_alloc] at h1
 have HV0 := hid h1
 have HD0 := hid h2
 clear h1 h2
 go_enter Tryz.func93, Tryz.ntmps93
 go_wp2_with fail
 go_loopw [15] (fun i wr => ∃ j : Nat, j ≤ m ∧ i = .int .i64 j ∧ ∃ vl, Hid (wr.heap[w.heap.size]? = some (.cells #[.int .u8 0, .int .u8 0, .int .u8 0, .int .u8 0, .int .u8 0, .int .u8 0, .int .u8 0, .int .u8 0, .int .u8 0, .int .u8 0, .int .u8 0, .int .u8 0, .int .u8 0, .int .u8 0, .int .u8 0, .int .u8 0, .int .u8 0, .int .u8 0, .int .u8 0, .int .u8 0, .int .u8 0, .int .u8 0, .int .u8 0, .int .u8 0, .int .u8 0, .int .u8 0, .int .u8 0, .int .u8 0, .int .u8 0, .int .u8 0, .int .u8 0, .int .u8 0] 25 (0, 0))) ∧ Hid (wr.heap[w.heap.size + 1]? = some (.cells #[.int .i64 3, .int .i64 0, .string ⟨#[]⟩, vl] 148 (0, 0))) ∧ Hid (OwnV wr (w.heap.size + 1 + 1) vl (zs.take j)) ∧ Hid (Below w.heap.size w wr)) (fun i _ => m - (intOf i).toNat)
 case atStart => exact ⟨0, by omega, rfl, _, HD0, HV0, hid (OwnV.nil _ _), HB0⟩
 case round =>
  clear HD0 HV0 HB0
  obtain ⟨j, hj, rfl, vl, HD, HV, HO, HB⟩ := hrel
  by_cases hlt : j < m
  ·have d1 : decide ((j : Int) < (m : Int)) = true := eQ (by omega)
   obtain ⟨z, HZ⟩ : ∃ z, Hid (zs.getD j 0 = z) := ⟨_, hid rfl⟩
   have hcell : wr.cell? ⟨g, j, none⟩ = some (.int .i64 z) := by rw [← HZ.out]; exact (HB.out.cell (p := ⟨g, j, none⟩) hg).trans (hzc.out j hlt)
   have k3 : wr.cell? ⟨w.heap.size + 1, 3, none⟩ = some vl := by rw [cell_of_row _ _ _ _ _ _ HV.out]; rfl
   have HSZ : Hid (w.heap.size + 1 + 1 ≤ wr.heap.size) := hid (Array.getElem?_eq_some_iff.1 HV.out).1
   have HBA := hid ((Below.refl _ wr).alloc (Nat.le_refl _) (.cells #[.int .i64 1, .int .i64 z, .string ⟨#[]⟩, .slice none 0 0] 148))
   have HOA := hid (HO.out.kept (fun k _ hk => HBA.out.block k hk))
   have HVA := hid ((HBA.out.block _ HSZ.out).trans HV.out)
   have HRA := hid (heap_alloc_new wr (.cells #[.int .i64 1, .int .i64 z, .string ⟨#[]⟩, .slice none 0 0] 148))
   have HLN : Hid ((zs.take j).length ≤ 100000) := hid (by rw [List.length_take]; omega)
   have HSA := hid (Nat.le_trans HSZ.out HBA.out.size)
   have HNX : Hid (zs.take j ++ [z] = zs.take (j + 1)) := hid (by
    have h1 : j < zs.length := by rw [HM.out]; exact hlt
    rw [List.take_succ_eq_append_getElem h1, ← HZ.out]; simp [List.getD_eq_getElem?_getD, h1])
   go_wp2_with (at_builtin; refine wpList_append_val rfl (.tmp 20) (.tmp 23) rfl (w.heap.size + 1 + 1) vl (zs.take j) z ?ha HOA wr.heap.size ?hb ?hc HLN.out HSA.out ?_)
   case ha => rfl
   case hb => rfl
   case hc => exact HRA
   intro v2 w2 HO2 HB2
   obtain ⟨A', n', c', rfl⟩ := ownV_form HO2.out
   have HV2 := hid ((HB2.out.block (w.heap.size + 1) (Nat.lt_succ_self _)).trans HVA.out)
   obtain ⟨k3', f3'⟩ := row3 HV2.out
   go_wp2_with fail
   have HBB := hid (((HB.out.trans (HBA.out.mono HB.out.size)).trans (HB2.out.mono (by omega))).setCell (p := ⟨w.heap.size + 1, 3, none⟩) (Nat.le_succ _) (.slice A' n' c'))
   have HV3 := hid (set3 (v' := .slice A' n' c') HV2.out)
   have HD3 := hid ((Below.heap_setCell w2 ⟨w.heap.size + 1, 3, none⟩ (.slice A' n' c') w.heap.size (by simp)).trans ((HB2.out.block w.heap.size (by omega)).trans ((HBA.out.block _ (by have := HSZ.out; omega)).trans HD.out)))
   have HO3 := hid (HO2.out.kept (fun k hk hk2 => Below.heap_setCell w2 ⟨w.heap.size + 1, 3, none⟩ (.slice A' n' c') k (by intro e; simp at e; omega)))
   rw [HNX.out] at HO3
   clear k3' f3' k3 hcell
   go_roundw
   case rel => exact ⟨j + 1, by omega, by go_num, _, HD3, HV3, HO3, HBB⟩
   case measure => simp [intOf]; omega
  ·have d1 : decide ((j : Int) < (m : Int)) = false := dQ (by omega)
   have HOm : Hid (OwnV wr (w.heap.size + 1 + 1) vl zs) := hid (by have := HO.out; rwa [List.take_of_length_le (by rw [HM.out]; omega)] at this)
   obtain ⟨Av, cv, rfl, hvr⟩ := HOm.out.slice
   have HVR := hid hvr
   have c0 : wr.cell? ⟨w.heap.size + 1, 0, none⟩ = some (.int .i64 3) := by rw [cell_of_row _ _ _ _ _ _ HV.out]; rfl
   have c1 : wr.cell? ⟨w.heap.size + 1, 1, none⟩ = some (.int .i64 0) := by rw [cell_of_row _ _ _ _ _ _ HV.out]; rfl
   have c2 : wr.cell? ⟨w.heap.size + 1, 2, none⟩ = some (.string ⟨#[]⟩) := by rw [cell_of_row _ _ _ _ _ _ HV.out]; rfl
   have c3 : wr.cell? ⟨w.heap.size + 1, 3, none⟩ = some (.slice Av zs.length cv) := by rw [cell_of_row _ _ _ _ _ _ HV.out]; rfl
   clear hvr
   go_wp2_with fail
   refine (encode_list zs Av cv _ hz (by rw [HM.out]; omega) HVR).mono ?_
   rintro e w2 ⟨v2, rfl, ho2, hb2⟩
   have HO2 := hid ho2
   have HB2 := hid (HB.out.trans (hb2.mono HB.out.size))
   have HD2 := hid ((hb2.block w.heap.size (Array.getElem?_eq_some_iff.1 HD.out).1).trans HD.out)
   clear ho2 hb2 c0 c1 c2 c3
   go_wp2_with fail
   refine (clone_any A n c l _ (by omega) (hid (h.out.below HB2.out))).mono ?_
   rintro e w3 ⟨v3, rfl, ho3, hb3⟩
   obtain ⟨A2, n2, cc2, rfl, hn2, hc2, hA2, HR2⟩ := (HO2.out.below hb3).slice
   have HO3 := hid ho3
   have HB3 := hid (HB2.out.trans (hb3.mono HB2.out.size))
   have HD3 := hid ((hb3.block w.heap.size (Array.getElem?_eq_some_iff.1 HD2.out).1).trans HD2.out)
   have HS3 : Hid (w2.heap.size ≤ w3.heap.size) := hid hb3.size
   have HEL : Hid (n2 ≤ 20000) := hid (by rw [← hn2.out]; have := encI_length zs; rw [HM.out] at this; omega)
   have HL3 : Hid (l.length + n2 ≤ 1099511627776) := hid (by have := h.out.len; have := HEL.out; omega)
   clear ho3 hb3
   go_wp2_with (at_builtin; refine wpList_append_bytes rfl (.tmp 34) (.tmp 35) rfl w2.heap.size _ l (encI zs) rfl HO3 A2 n2 cc2 rfl hn2 hA2.out HR2 HL3.out HS3.out ?_; intro v4 w4 HO4 HB4)
   obtain ⟨A6, n6, c6, rfl, hn6, hc6, hA6, HR6⟩ := HO4.out.slice
   have HB5 := hid (HB3.out.trans (HB4.out.mono HB2.out.size))
   have HD4 := hid ((HB4.out.block w.heap.size (Nat.lt_of_lt_of_le (Array.getElem?_eq_some_iff.1 HD2.out).1 (Nat.le_refl _))).trans HD3.out)
   refine (tagged_any tag A6 n6 c6 (l ++ encI zs) _ htag hn6 hc6 hA6.out (by rw [← hn6.out, List.length_append, h.out.len, hn2.out]; have := HEL.out; omega) (hid (fun x hx => by
    rcases List.mem_append.1 hx with h' | h'
    ·exact h.out.bytes x h'
    ·exact encI_bytes zs x h')) (hid (hT.out.below HB5.out)) HR6).mono ?_
   rintro e w5 ⟨rfl, hb5⟩
   have HB6 := hid (HB5.out.trans (hb5.mono HB5.out.size))
   have HD5 := hid ((hb5.block w.heap.size (Array.getElem?_eq_some_iff.1 HD4.out).1).trans HD4.out)
   have HE : Hid (dgV (tagged (strL tag) (l ++ encI zs)) = dgV (hashT (strL tag) l zs)) := hid rfl
   have HLH : Hid ((hashT (strL tag) l zs).length = 32) := hid (tagged_length _ _)
   rw [HE.out]
   obtain ⟨X, HX⟩ : ∃ X, Hid (((hashT (strL tag) l zs).map fun x => Value.int .u8 (x : Nat)).toArray = X) := ⟨_, hid rfl⟩
   have HEX : Hid (dgV (hashT (strL tag) l zs) = .agg X) := hid (by unfold dgV; rw [HX.out])
   have hXs : Hid (32 = X.size) := hid (by rw [← HX.out]; simp [HLH.out])
   have hsz : Hid ((Tryz.prog.info? 25).map (·.size) = some X.size) := hid (by rw [← HX.out]; exact size32 _ HLH.out)
   have hone : Hid (X.all (·.oneCell') = true) := hid (by rw [← HX.out]; exact oneCells _)
   rw [HEX.out]
   clear hb5
   go_wp2_with (refine wpList_store_row rfl 25 (.tmp 6) (.tmp 37) rfl w.heap.size X rfl rfl 25 _ HD5.out hsz.out hXs.out hone.out ?_)
   refine bodyPost_ret (results_cell_row rfl _ _ w.heap.size 25 _ (0, 0) _ rfl (setRow_heap w5 w.heap.size _ _ _ _ HD5.out) Tryz.underlying25 rfl hsz.out) rfl ?_
   exact ⟨by rw [HEX.out], below_setRow HB6.out (Nat.le_refl _) _⟩
/-- a node's cells -/
def ndC (n : Nd) : List Value := (n.d.map fun x => Value.int .u8 (x : Nat)) ++ [.int .i64 n.c, .int .i64 n.p]
def ndV (n : Nd) : Value := .agg (ndC n).toArray
/-- a node as it comes -/
structure NdOk (n : Nd) : Prop where
 len : n.d.length = 32
 bytes : Bytes n.d
 c : -9223372036854775808 ≤ n.c ∧ n.c ≤ 9223372036854775807
 p : -9223372036854775808 ≤ n.p ∧ n.p ≤ 9223372036854775807
theorem ndC_length {n : Nd} (h : NdOk n) : (ndC n).length = 34 := by simp [ndC, h.len]
theorem ndC_c {n : Nd} (h : NdOk n) : (ndC n)[32]? = some (.int .i64 n.c) := by
 unfold ndC; rw [List.getElem?_append_right (by simp [h.len])]; simp [h.len]
theorem ndC_p {n : Nd} (h : NdOk n) : (ndC n)[33]? = some (.int .i64 n.p) := by
 unfold ndC; rw [List.getElem?_append_right (by simp [h.len])]; simp [h.len]
theorem ndC_one (n : Nd) : (ndC n).toArray.all (·.oneCell') = true := by
 rw [Array.all_eq_true_iff_forall_mem]
 intro v hv
 simp only [ndC, List.mem_toArray, List.mem_append, List.mem_map, List.mem_cons, List.not_mem_nil, or_false] at hv
 rcases hv with ⟨x, _, rfl⟩ | rfl | rfl <;> rfl
theorem size34 {n : Nd} (h : NdOk n) : (Tryz.prog.info? 39).map (·.size) = some (ndC n).length := by
 rw [ndC_length h]; show _ = _; kernel_rfl
def flatN (ls : List Nd) : List Value := ls.flatMap ndC
theorem flatN_get : ∀ (ls : List Nd), (∀ n ∈ ls, NdOk n) → ∀ (i : Nat) (hi : i < ls.length) (j : Nat) (v : Value), (ndC ls[i])[j]? = some v → (flatN ls)[i * 34 + j]? = some v
 | [], _, i, hi, _, _, _ => by simp at hi
 | n :: ls, ho, 0, _, j, v, h => by
  have hj : j < (ndC n).length := (List.getElem?_eq_some_iff.1 h).1
  show ((n :: ls).flatMap ndC)[0 * 34 + j]? = _
  rw [List.flatMap_cons, Nat.zero_mul, Nat.zero_add, List.getElem?_append_left hj]
  exact h
 | n :: ls, ho, i + 1, hi, j, v, h => by
  have ih := flatN_get ls (fun m hm => ho m (List.mem_cons_of_mem _ hm)) i (by simpa using hi) j v h
  have hl := ndC_length (ho n (by simp))
  show ((n :: ls).flatMap ndC)[(i + 1) * 34 + j]? = _
  rw [List.flatMap_cons, List.getElem?_append_right (by omega), hl, show (i + 1) * 34 + j - 34 = i * 34 + j by omega]
  exact ih
/-- a slice of nodes that came in -/
structure InN (w : World) (A : Option Addr) (n c : Nat) (ls : List Nd) : Prop where
 len : ls.length = n
 cap : n ≤ c
 none_ : A = none → c = 0
 ok : ∀ x ∈ ls, NdOk x
 rd : 0 < ls.length → ∃ g off, A = some ⟨g, off, none⟩ ∧ g < w.heap.size ∧ w.rangeAt g off (flatN ls)
theorem rangeAt_below {w w' : World} {g off : Nat} {cs : List Value} (h : w.rangeAt g off cs) (hg : g < w.heap.size) (hb : Below w.heap.size w w') : w'.rangeAt g off cs := fun j v hj => (hb.cell (p := ⟨g, _, none⟩) hg).trans (h j v hj)
theorem InN.below {w w' : World} {A : Option Addr} {n c : Nat} {ls : List Nd} (h : InN w A n c ls) (hb : Below w.heap.size w w') : InN w' A n c ls :=
 ⟨h.len, h.cap, h.none_, h.ok, fun h0 => by
  obtain ⟨g, off, e, hg, hr⟩ := h.rd h0
  exact ⟨g, off, e, Nat.lt_of_lt_of_le hg hb.size, rangeAt_below hr hg hb⟩⟩
theorem range_one {w : World} {g off : Nat} {ls : List Nd} (h : w.rangeAt g off (flatN ls)) (ho : ∀ n ∈ ls, NdOk n) (i : Nat) (hi : i < ls.length) : w.rangeAt g (off + i * 34) (ndC ls[i]) := fun j v hj => by
 have := h (i * 34 + j) v (flatN_get ls ho i hi j v hj)
 rwa [← Nat.add_assoc] at this
theorem d2_not {c : Int} (h : c < 0) : decide (0 ≤ c) = false := dQ (by omega)
theorem vL_bad {ls : List Nd} {j : Nat} (hj : j < ls.length) (h : vN ls[j] = false) : vL ls = false := by
 have : ls.all vN = false := by
  rw [List.all_eq_false]
  exact ⟨ls[j], List.getElem_mem _, by rw [h]; simp⟩
 unfold vL; rw [this]; rfl
theorem valid_any (ls : List Nd) (A : Option Addr) (n c : Nat) (w : World) (hn : n ≤ 1000000) (h : Hid (InN w A n c ls)) :
  Calls Tryz.prog 121 #[.slice A n c] w fun e w' => e = .returned (.bool (vL ls)) ∧ Below w.heap.size w w' := by
 go_enter Tryz.func121, Tryz.ntmps121
 go_wp2_with fail
 go_loopw [3, 8] (fun s i wr => ∃ j : Nat, j ≤ n ∧ i = .int .i64 j ∧ s = .int .i64 (sumC (ls.take j)) ∧ Hid ((ls.take j).all vN = true) ∧ Hid (Below w.heap.size w wr)) (fun _ i _ => n - (intOf i).toNat)
 case atStart => exact ⟨0, by omega, rfl, rfl, hid rfl, hid (Below.refl _ _)⟩
 case round =>
  obtain ⟨j, hj, rfl, rfl, HV, HB⟩ := hrel
  have hsm : 0 ≤ sumC (ls.take j) ∧ sumC (ls.take j) ≤ 1073741824 * (j : Int) := ⟨(sums_bd HV.out).1, by
   have := sumC_le (ls.take j) HV.out
   have h2 : ((ls.take j).length : Int) ≤ (j : Int) := by rw [List.length_take]; omega
   omega⟩
  by_cases hlt : j < n
  ·have d1 : decide ((j : Int) < (n : Int)) = true := eQ (by omega)
   have hjl : j < ls.length := by rw [h.out.len]; exact hlt
   obtain ⟨g, off, rfl, hg, hr⟩ := h.out.rd (by omega)
   obtain ⟨x, HX⟩ : ∃ x, Hid (ls[j] = x) := ⟨_, hid rfl⟩
   have HOK : Hid (NdOk x) := hid (by rw [← HX.out]; exact h.out.ok _ (List.getElem_mem _))
   have HR : Hid (wr.rangeAt g (off + j * 34) (ndC x)) := hid (by rw [← HX.out]; exact rangeAt_below (range_one hr h.out.ok j hjl) hg HB.out)
   have HNX : Hid (ls.take (j + 1) = ls.take j ++ [x]) := hid (by rw [List.take_succ_eq_append_getElem hjl, HX.out])
   clear hr
   obtain ⟨W2, HW2⟩ : ∃ W2, Hid ((wr.alloc (.cells #[.int .u8 0, .int .u8 0, .int .u8 0, .int .u8 0, .int .u8 0, .int .u8 0, .int .u8 0, .int .u8 0, .int .u8 0, .int .u8 0, .int .u8 0, .int .u8 0, .int .u8 0, .int .u8 0, .int .u8 0, .int .u8 0, .int .u8 0, .int .u8 0, .int .u8 0, .int .u8 0, .int .u8 0, .int .u8 0, .int .u8 0, .int .u8 0, .int .u8 0, .int .u8 0, .int .u8 0, .int .u8 0, .int .u8 0, .int .u8 0, .int .u8 0, .int .u8 0, .int .i64 0, .int .i64 0] 39)).setRow wr.heap.size (ndC x).toArray = W2) := ⟨_, hid rfl⟩
   have hlr := laid_row wr #[.int .u8 0, .int .u8 0, .int .u8 0, .int .u8 0, .int .u8 0, .int .u8 0, .int .u8 0, .int .u8 0, .int .u8 0, .int .u8 0, .int .u8 0, .int .u8 0, .int .u8 0, .int .u8 0, .int .u8 0, .int .u8 0, .int .u8 0, .int .u8 0, .int .u8 0, .int .u8 0, .int .u8 0, .int .u8 0, .int .u8 0, .int .u8 0, .int .u8 0, .int .u8 0, .int .u8 0, .int .u8 0, .int .u8 0, .int .u8 0, .int .u8 0, .int .u8 0, .int .i64 0, .int .i64 0] (ndC x).toArray 39
   rw [HW2.out] at hlr
   have HBB := hid (HB.out.trans (hlr.1.mono HB.out.size))
   have kc : W2.cell? ⟨wr.heap.size, 32, none⟩ = some (.int .i64 x.c) := by rw [cell_of_row _ _ _ _ _ _ hlr.2.2]; simpa using ndC_c HOK.out
   have kp : W2.cell? ⟨wr.heap.size, 33, none⟩ = some (.int .i64 x.p) := by rw [cell_of_row _ _ _ _ _ _ hlr.2.2]; simpa using ndC_p HOK.out
   have HS1 : Hid ((Tryz.prog.info? 39).map (·.size) = some (ndC x).toArray.size) := hid (by rw [size34 HOK.out]; simp)
   have HS2 : Hid (34 = (ndC x).toArray.size) := hid (by simp [ndC_length HOK.out])
   clear hlr
   by_cases b1 : x.c < 0
   ·have d2 : decide (x.c < 0) = true := eQ b1
    have HE : Hid (vL ls = false) := hid (vL_bad hjl (by rw [HX.out]; unfold vN; rw [d2_not b1]; rfl))
    go_wp2_with (first | (with_reducible refine wpList_load_mid rfl 39 (.tmp 10) rfl g (off + j * 34) rfl (ndC x) _ HR.out Tryz.underlying39 rfl (size34 HOK.out) ?_) | (refine wpList_store_row rfl 39 (.tmp 5) (.tmp 11) rfl wr.heap.size (ndC x).toArray rfl rfl 39 _ (heap_alloc_new wr _) HS1.out HS2.out (ndC_one x) ?_; rw [HW2.out]))
    go_ret
    exact ⟨by rw [HE.out]; rfl, HBB.out⟩
   ·by_cases b2 : 1073741824 < x.c
    ·have d2 : decide (x.c < 0) = false := dQ b1
     have d3 : decide (1073741824 < x.c) = true := eQ b2
     have HE : Hid (vL ls = false) := hid (vL_bad hjl (by rw [HX.out]; unfold vN; rw [dQ (show ¬ x.c ≤ 1073741824 by omega)]; simp))
     go_wp2_with (first | (with_reducible refine wpList_load_mid rfl 39 (.tmp 10) rfl g (off + j * 34) rfl (ndC x) _ HR.out Tryz.underlying39 rfl (size34 HOK.out) ?_) | (refine wpList_store_row rfl 39 (.tmp 5) (.tmp 11) rfl wr.heap.size (ndC x).toArray rfl rfl 39 _ (heap_alloc_new wr _) HS1.out HS2.out (ndC_one x) ?_; rw [HW2.out]))
     go_ret
     exact ⟨by rw [HE.out]; rfl, HBB.out⟩
    ·by_cases b3 : x.p < 0
     ·have d2 : decide (x.c < 0) = false := dQ b1
      have d3 : decide (1073741824 < x.c) = false := dQ b2
      have d4 : decide (x.p < 0) = true := eQ b3
      have HE : Hid (vL ls = false) := hid (vL_bad hjl (by rw [HX.out]; unfold vN; rw [dQ (show ¬ 0 ≤ x.p by omega)]; simp))
      go_wp2_with (first | (with_reducible refine wpList_load_mid rfl 39 (.tmp 10) rfl g (off + j * 34) rfl (ndC x) _ HR.out Tryz.underlying39 rfl (size34 HOK.out) ?_) | (refine wpList_store_row rfl 39 (.tmp 5) (.tmp 11) rfl wr.heap.size (ndC x).toArray rfl rfl 39 _ (heap_alloc_new wr _) HS1.out HS2.out (ndC_one x) ?_; rw [HW2.out]))
      go_ret
      exact ⟨by rw [HE.out]; rfl, HBB.out⟩
     ·have hw : IntKind.i64.wrap (12 * x.c) = 12 * x.c := IntWalk.i64_in _ (by omega)
      by_cases b4 : 12 * x.c < x.p
      ·have d2 : decide (x.c < 0) = false := dQ b1
       have d3 : decide (1073741824 < x.c) = false := dQ b2
       have d4 : decide (x.p < 0) = false := dQ b3
       have d5 : decide (12 * x.c < x.p) = true := eQ b4
       have HE : Hid (vL ls = false) := hid (vL_bad hjl (by rw [HX.out]; unfold vN; rw [dQ (show ¬ x.p ≤ 12 * x.c by omega)]; simp))
       go_wp2_with (first | (with_reducible refine wpList_load_mid rfl 39 (.tmp 10) rfl g (off + j * 34) rfl (ndC x) _ HR.out Tryz.underlying39 rfl (size34 HOK.out) ?_) | (refine wpList_store_row rfl 39 (.tmp 5) (.tmp 11) rfl wr.heap.size (ndC x).toArray rfl rfl 39 _ (heap_alloc_new wr _) HS1.out HS2.out (ndC_one x) ?_; rw [HW2.out]))
       go_ret
       exact ⟨by rw [HE.out]; rfl, HBB.out⟩
      ·have d2 : decide (x.c < 0) = false := dQ b1
       have d3 : decide (1073741824 < x.c) = false := dQ b2
       have d4 : decide (x.p < 0) = false := dQ b3
       have d5 : decide (12 * x.c < x.p) = false := dQ b4
       have hw2 : IntKind.i64.wrap (sumC (ls.take j) + x.c) = sumC (ls.take j) + x.c := IntWalk.i64_in _ (by omega)
       have HSUM : Hid (sumC (ls.take j) + x.c = sumC (ls.take (j + 1))) := hid (by rw [HNX.out, sumC_append]; simp [sumC])
       have HALL : Hid ((ls.take (j + 1)).all vN = true) := hid (by
        rw [HNX.out, List.all_append, HV.out]
        simp only [List.all_cons, List.all_nil, vN, Bool.and_true, Bool.true_and, Bool.and_eq_true, decide_eq_true_eq]; omega)
       clear b1 b2 b3 b4
       go_wp2_with (first | (with_reducible refine wpList_load_mid rfl 39 (.tmp 10) rfl g (off + j * 34) rfl (ndC x) _ HR.out Tryz.underlying39 rfl (size34 HOK.out) ?_) | (refine wpList_store_row rfl 39 (.tmp 5) (.tmp 11) rfl wr.heap.size (ndC x).toArray rfl rfl 39 _ (heap_alloc_new wr _) HS1.out HS2.out (ndC_one x) ?_; rw [HW2.out]))
       go_roundw
       case rel => exact ⟨j + 1, by omega, by go_num, by rw [← HSUM.out], HALL, HBB⟩
       case measure => first | (simp [intOf]; done) | (simp [intOf]; omega)
  ·have d1 : decide ((j : Int) < (n : Int)) = false := dQ (by omega)
   have HE : Hid (vL ls = decide (sumC (ls.take j) ≤ 1073741824)) := hid (by
    have e : ls.take j = ls := List.take_of_length_le (by rw [h.out.len]; omega)
    have hv := HV.out
    rw [e] at hv ⊢
    unfold vL; rw [hv]; rfl)
   go_wp2_with fail
   go_ret
   exact ⟨by rw [HE.out]; rfl, HB.out⟩
theorem built_node (d : List Nat) (h : d.length = 32) (c p : Int) : Tryz.prog.built 39 [(0, dgV d), (1, .int .i64 c), (2, .int .i64 p)] = some (ndC ⟨d, c, p⟩).toArray := by
 rcases d with _ | ⟨x0, d⟩
 ·simp at h
 rcases d with _ | ⟨x1, d⟩
 ·simp at h
 rcases d with _ | ⟨x2, d⟩
 ·simp at h
 rcases d with _ | ⟨x3, d⟩
 ·simp at h
 rcases d with _ | ⟨x4, d⟩
 ·simp at h
 rcases d with _ | ⟨x5, d⟩
 ·simp at h
 rcases d with _ | ⟨x6, d⟩
 ·simp at h
 rcases d with _ | ⟨x7, d⟩
 ·simp at h
 rcases d with _ | ⟨x8, d⟩
 ·simp at h
 rcases d with _ | ⟨x9, d⟩
 ·simp at h
 rcases d with _ | ⟨x10, d⟩
 ·simp at h
 rcases d with _ | ⟨x11, d⟩
 ·simp at h
 rcases d with _ | ⟨x12, d⟩
 ·simp at h
 rcases d with _ | ⟨x13, d⟩
 ·simp at h
 rcases d with _ | ⟨x14, d⟩
 ·simp at h
 rcases d with _ | ⟨x15, d⟩
 ·simp at h
 rcases d with _ | ⟨x16, d⟩
 ·simp at h
 rcases d with _ | ⟨x17, d⟩
 ·simp at h
 rcases d with _ | ⟨x18, d⟩
 ·simp at h
 rcases d with _ | ⟨x19, d⟩
 ·simp at h
 rcases d with _ | ⟨x20, d⟩
 ·simp at h
 rcases d with _ | ⟨x21, d⟩
 ·simp at h
 rcases d with _ | ⟨x22, d⟩
 ·simp at h
 rcases d with _ | ⟨x23, d⟩
 ·simp at h
 rcases d with _ | ⟨x24, d⟩
 ·simp at h
 rcases d with _ | ⟨x25, d⟩
 ·simp at h
 rcases d with _ | ⟨x26, d⟩
 ·simp at h
 rcases d with _ | ⟨x27, d⟩
 ·simp at h
 rcases d with _ | ⟨x28, d⟩
 ·simp at h
 rcases d with _ | ⟨x29, d⟩
 ·simp at h
 rcases d with _ | ⟨x30, d⟩
 ·simp at h
 rcases d with _ | ⟨x31, d⟩
 ·simp at h
 rcases d with _ | ⟨y, d⟩
 ·clear h
  kernel_rfl
 ·simp at h
theorem nd_cells (n : Nd) : (ndV n).cells = (ndC n).toArray := rfl
theorem wpList_build_nodes2 {w : World} {ops : Array Oper} {rest : List Oper} {o : Oper} {a : Act} {Q : Exit → Act → World → Prop} (hg : o.guard = none) (x y : Operand)
  (ho : o.op = .buildSlice 30 2 #[(0, x), (1, y)]) (n m : Nd) (hx : a.eval x = ndV n) (hy : a.eval y = ndV m) (hn : NdOk n) (hm : NdOk m)
  (h : wpList Tryz.prog ops Q rest (a.put o.dst (.slice (some ⟨w.heap.size, 0, none⟩) 2 2)) (w.alloc (.cells (flatN [n, m]).toArray 39))) : wpList Tryz.prog ops Q (o :: rest) a w := by
 obtain ⟨i0, hi, hz, hs⟩ : ∃ i, Tryz.prog.info? 39 = some i ∧ i.zero = some (.agg (Array.replicate 32 (.int .u8 0) ++ #[.int .i64 0, .int .i64 0])) ∧ i.size = 34 := by
  refine ⟨_, rfl, ?_, ?_⟩ <;> kernel_rfl
 refine wpList_buildSlice hg 30 39 2 _ ho _ i0 _ Tryz.underlying30 hi hz (by rw [hs]; omega) (by rw [hs]; omega) ?_ h
 rw [hs]
 have e1 : (#[(0, x), (1, y)].map fun (i, x) => (i, a.eval x)).toList = (([ndV n, ndV m] : List Value).zipIdx 0).map fun x => (x.2, x.1) := by simp [hx, hy]
 rw [e1, Great.fill_whole (by omega) [ndV n, ndV m] _ (fun v hv => by
  simp only [List.mem_cons, List.not_mem_nil, or_false] at hv
  rcases hv with rfl | rfl
  ·rw [nd_cells]; simpa using ndC_length hn
  ·rw [nd_cells]; simpa using ndC_length hm) (by simp)]
 rfl
/-- append of bytes behind a slice without room -/
theorem wpList_append_full {w : World} {ops : Array Oper} {rest : List Oper} {o : Oper} {a : Act} {Q : Exit → Act → World → Prop} (hgd : o.guard = none) (s x : Operand)
  (ho : o.op = .call { callee := .builtin .append, args := #[s, x], argTypes := #[143, 143] })
  (g n gx m c : Nat) (l r : List Nat) (hs : a.eval s = .slice (some ⟨g, 0, none⟩) n n) (hx : a.eval x = .slice (some ⟨gx, 0, none⟩) m c) (hl : l.length = n) (hr : r.length = m)
  (hbl : Hid (BytesAt w g 0 l)) (hbr : Hid (BytesAt w gx 0 r)) (hm : 0 < m) (hlen : n + m ≤ 1000000)
  (h : ∀ v' w', Hid (OwnB w' w.heap.size v' (l ++ r)) → Hid (Below w.heap.size w w') → wpList Tryz.prog ops Q rest (a.put o.dst v') w') : wpList Tryz.prog ops Q (o :: rest) a w := by
 obtain ⟨i0, hi, hz0, hz1, hz2⟩ := info_parts info_u8
 have cells : ∀ (q : Nat) (z : List Nat), BytesAt w q 0 z → ∀ j v, (z.map fun x => Value.int .u8 (x : Nat))[j]? = some v → w.cell? ((⟨q, 0, none⟩ : Addr).add j) = some v := fun q z hz j v hv => by
  have hj : j < z.length := by have := (List.getElem?_eq_some_iff.1 hv).1; simpa using this
  have h1 := hz j hj
  rw [Nat.zero_add] at h1
  rw [add_row, Nat.zero_add, h1, ← hv, List.getElem?_map, List.getD_eq_getElem?_getD, List.getElem?_eq_getElem hj]; rfl
 have hrun := run_append_grow (P := Tryz.prog) w 143 o.type 5 i0 (.int .u8 0) Tryz.underlying143 hi hz0 ⟨g, 0, none⟩ n n (l.map fun x => Value.int .u8 (x : Nat)) (by rw [hz1]; simp [hl]) (cells g l hbl.out) ⟨gx, 0, none⟩ m c (r.map fun x => Value.int .u8 (x : Nat)) (by rw [hz1]; simp [hr]) (cells gx r hbr.out) (by omega) (by omega) (growslice_fits (by omega) (by rw [hz2]; omega))
 have hge := grownCap_ge w (n + m) n 5
 have hcm := grownCap_le_maxLen w (n + m) n 5 (by unfold maxLen; omega)
 refine Lib.wpList_append_run w hgd s x _ _ ho _ _ hs hx _ _ hrun ?_
 refine h _ _ (hid ⟨by simp, .inr ⟨w.heap.size, grownCap w (n + m) n 5, _, by rw [List.length_append, hl, hr], Nat.le_refl _, heap_alloc_new w.drew _, by rw [List.length_append, hl, hr]; exact hge, hcm, ?_, ?_⟩⟩) (hid ((Below.refl _ w).drew.alloc (Nat.le_refl _) _))
 ·simp only [Array.size_append, List.size_toArray, List.length_map, size_zeroCells, hl, hr]
  simp [Value.cells]
  omega
 ·rw [List.length_append, hl, hr, Nat.mul_one, List.map_append]
  simp only [Array.toList_append, List.append_assoc]
  rw [← List.append_assoc, List.take_left' (by simp [hl, hr])]
/-- a struct literal of a node -/
theorem wpList_build_node {w : World} {ops : Array Oper} {rest : List Oper} {o : Oper} {a : Act} {Q : Exit → Act → World → Prop} (hg : o.guard = none) (x y z : Operand)
  (ho : o.op = .build 39 #[(0, x), (1, y), (2, z)]) (d : List Nat) (c p : Int) (hd : d.length = 32) (hx : a.eval x = dgV d) (hy : a.eval y = .int .i64 c) (hz : a.eval z = .int .i64 p)
  (h : wpList Tryz.prog ops Q rest (a.put o.dst (ndV ⟨d, c, p⟩)) w) : wpList Tryz.prog ops Q (o :: rest) a w := by
 have e1 : (#[(0, x), (1, y), (2, z)].map fun (i, x) => (i, a.eval x)).toList = [(0, dgV d), (1, .int .i64 c), (2, .int .i64 p)] := by simp [hx, hy, hz]
 refine wpList_build hg 39 _ ho (by rw [e1, built_node d hd c p]; rfl) ?_
 rw [e1, built_node d hd c p]
 exact h
def sumTag : ByteArray := ⟨#[115, 117, 109]⟩
theorem sumTag_eq : strL sumTag = sumT := rfl
theorem join_d (a b : Nd) : dgV (hashT (strL sumTag) (a.d ++ b.d) [a.c, a.p, b.c, b.p]) = dgV (joinN a b).d := by rw [sumTag_eq]; simp only [joinN]
theorem bytes_node {w : World} {g : Nat} {n : Nd} {t : Nat} (h : w.heap[g]? = some (.cells (ndC n).toArray t (0, 0))) : BytesAt w g 0 n.d := fun i hi => by
 rw [Nat.zero_add, cell_of_row w g i _ _ _ h]
 simp [ndC, List.getElem?_append_left, hi, List.getD_eq_getElem?_getD]
theorem cell_c {w : World} {g : Nat} {n : Nd} {t : Nat} (hn : NdOk n) (h : w.heap[g]? = some (.cells (ndC n).toArray t (0, 0))) : w.cell? ⟨g, 32, none⟩ = some (.int .i64 n.c) := by
 rw [cell_of_row w g _ _ _ _ h]; simpa using ndC_c hn
theorem cell_p {w : World} {g : Nat} {n : Nd} {t : Nat} (hn : NdOk n) (h : w.heap[g]? = some (.cells (ndC n).toArray t (0, 0))) : w.cell? ⟨g, 33, none⟩ = some (.int .i64 n.p) := by
 rw [cell_of_row w g _ _ _ _ h]; simpa using ndC_p hn
theorem join_ok {a b : Nd} (ha : NdOk a) (hb : NdOk b) (h : vL [a, b] = true) : NdOk (joinN a b) := by
 simp only [vL, List.all_cons, List.all_nil, Bool.and_true, Bool.and_eq_true, sumC] at h
 have h1 := vN_bd h.1.1
 have h2 := vN_bd h.1.2
 exact ⟨tagged_length _ _, tagged_bytes _ _, by simp only [joinN]; omega, by simp only [joinN]; omega⟩
def wJ (W0 : World) (M : Nat) (ba : Nat) (bb : Nat) (br : Nat) (a : Nd) (b : Nd) : Nat → Value → World → Prop
 | 0, fv, _ => fv = .pointer (some ⟨ba, 0, none⟩)
 | 1, fv, _ => fv = .slice (some ⟨ba, 0, none⟩) 32 32
 | 2, fv, _ => fv = .pointer (some ⟨bb, 0, none⟩)
 | 3, fv, _ => fv = .slice (some ⟨bb, 0, none⟩) 32 32
 | 4, fv, fw => OwnB fw M fv (a.d ++ b.d)
 | 5, fv, _ => fv = .pointer (some ⟨ba, 32, none⟩)
 | 6, fv, _ => fv = .int .i64 (a.c)
 | 7, fv, _ => fv = .pointer (some ⟨ba, 33, none⟩)
 | 8, fv, _ => fv = .int .i64 (a.p)
 | 9, fv, _ => fv = .pointer (some ⟨bb, 32, none⟩)
 | 10, fv, _ => fv = .int .i64 (b.c)
 | 11, fv, _ => fv = .pointer (some ⟨bb, 33, none⟩)
 | 12, fv, _ => fv = .int .i64 (b.p)
 | 13, fv, fw => ∃ g, fv = .slice (some ⟨g, 0, none⟩) 4 4 ∧ g < fw.heap.size ∧ ∀ i, i < 4 → fw.cell? ⟨g, i, none⟩ = some (.int .i64 (([a.c, a.p, b.c, b.p] : List Int).getD i 0))
 | 14, fv, _ => fv = dgV (joinN a b).d
 | 15, fv, _ => fv = .pointer (some ⟨ba, 32, none⟩)
 | 16, fv, _ => fv = .int .i64 (a.c)
 | 17, fv, _ => fv = .pointer (some ⟨bb, 32, none⟩)
 | 18, fv, _ => fv = .int .i64 (b.c)
 | 19, fv, _ => fv = .int .i64 (a.c + b.c)
 | 20, fv, _ => fv = .pointer (some ⟨ba, 33, none⟩)
 | 21, fv, _ => fv = .int .i64 (a.p)
 | 22, fv, _ => fv = .pointer (some ⟨bb, 33, none⟩)
 | 23, fv, _ => fv = .int .i64 (b.p)
 | 24, fv, _ => fv = .int .i64 (a.p + b.p)
 | 25, fv, _ => fv = ndV (joinN a b)
 | 26, fv, fw => fw.heap[br]? = some (.cells (ndC (joinN a b)).toArray 39 (0, 0)) ∧ Below W0.heap.size W0 fw
 | 27, fv, _ => fv = .int .i64 (0)
 | _, _, _ => True
theorem wJ_below {W0 : World} {M : Nat} {ba : Nat} {bb : Nat} {br : Nat} {a : Nd} {b : Nd} {w w' : World} (hb : Below w.heap.size w w') : ∀ j v, wJ W0 M ba bb br a b j v w → wJ W0 M ba bb br a b j v w'
 | 0, v, h => h
 | 1, v, h => h
 | 2, v, h => h
 | 3, v, h => h
 | 4, v, h => h.below hb
 | 5, v, h => h
 | 6, v, h => h
 | 7, v, h => h
 | 8, v, h => h
 | 9, v, h => h
 | 10, v, h => h
 | 11, v, h => h
 | 12, v, h => h
 | 13, v, ⟨g, h1, h2, h3⟩ => ⟨g, h1, Nat.lt_of_lt_of_le h2 hb.size, fun i hi => (hb.cell (p := ⟨g, i, none⟩) h2).trans (h3 i hi)⟩
 | 14, v, h => h
 | 15, v, h => h
 | 16, v, h => h
 | 17, v, h => h
 | 18, v, h => h
 | 19, v, h => h
 | 20, v, h => h
 | 21, v, h => h
 | 22, v, h => h
 | 23, v, h => h
 | 24, v, h => h
 | 25, v, h => h
 | 26, v, h => ⟨(hb.block br (Array.getElem?_eq_some_iff.1 h.1).1).trans h.1, h.2.trans (hb.mono h.2.size)⟩
 | 27, v, h => h
 | n + 28, v, h => trivial
theorem wJ_pure {W0 : World} {M : Nat} {ba : Nat} {bb : Nat} {br : Nat} {a : Nd} {b : Nd} {w w' : World} : ∀ j v, j ≠ 4 → j ≠ 13 → j ≠ 26 → wJ W0 M ba bb br a b j v w → wJ W0 M ba bb br a b j v w'
 | 0, v, _, _, _, h => h
 | 1, v, _, _, _, h => h
 | 2, v, _, _, _, h => h
 | 3, v, _, _, _, h => h
 | 4, v, hh, _, _, _ => absurd rfl hh
 | 5, v, _, _, _, h => h
 | 6, v, _, _, _, h => h
 | 7, v, _, _, _, h => h
 | 8, v, _, _, _, h => h
 | 9, v, _, _, _, h => h
 | 10, v, _, _, _, h => h
 | 11, v, _, _, _, h => h
 | 12, v, _, _, _, h => h
 | 13, v, _, hh, _, _ => absurd rfl hh
 | 14, v, _, _, _, h => h
 | 15, v, _, _, _, h => h
 | 16, v, _, _, _, h => h
 | 17, v, _, _, _, h => h
 | 18, v, _, _, _, h => h
 | 19, v, _, _, _, h => h
 | 20, v, _, _, _, h => h
 | 21, v, _, _, _, h => h
 | 22, v, _, _, _, h => h
 | 23, v, _, _, _, h => h
 | 24, v, _, _, _, h => h
 | 25, v, _, _, _, h => h
 | 26, v, _, _, hh, _ => absurd rfl hh
 | 27, v, _, _, _, h => h
 | n + 28, v, _, _, _, h => trivial
theorem four_cells {w : World} {g t : Nat} {a b c d : Int} (h : w.heap[g]? = some (.cells #[.int .i64 a, .int .i64 b, .int .i64 c, .int .i64 d] t (0, 0))) (i : Nat) (hi : i < 4) : w.cell? ⟨g, i, none⟩ = some (.int .i64 (([a, b, c, d] : List Int).getD i 0)) := by
 have : i = 0 ∨ i = 1 ∨ i = 2 ∨ i = 3 := by omega
 rcases this with rfl | rfl | rfl | rfl <;> (rw [cell_of_row _ _ _ _ _ _ h]; rfl)
theorem range_row {w : World} {g t : Nat} {cs : List Value} (h : w.heap[g]? = some (.cells cs.toArray t (0, 0))) : w.rangeAt g 0 cs := fun j v hj => by
 rw [Nat.zero_add, cell_of_row w g j _ _ _ h]; simpa using hj
theorem ownB_mono {w : World} {B B' : Nat} {v : Value} {l : List Nat} (h : OwnB w B v l) (hB : B' ≤ B) : OwnB w B' v l := by
 refine ⟨h.1, ?_⟩
 rcases h.2 with h0 | ⟨g, cap, cur, e, hb, r⟩
 ·exact .inl h0
 ·exact .inr ⟨g, cap, cur, e, Nat.le_trans hB hb, r⟩
theorem three_rows (w : World) (X Y Z : Array Value) (t : Nat) : Below w.heap.size w (((w.alloc (.cells X t)).alloc (.cells Y t)).alloc (.cells Z t)) ∧ (((w.alloc (.cells X t)).alloc (.cells Y t)).alloc (.cells Z t)).heap[w.heap.size]? = some (.cells X t (0, 0)) ∧ (((w.alloc (.cells X t)).alloc (.cells Y t)).alloc (.cells Z t)).heap[w.heap.size + 1]? = some (.cells Y t (0, 0)) ∧ (((w.alloc (.cells X t)).alloc (.cells Y t)).alloc (.cells Z t)).heap[w.heap.size + 1 + 1]? = some (.cells Z t (0, 0)) ∧ (((w.alloc (.cells X t)).alloc (.cells Y t)).alloc (.cells Z t)).heap.size = w.heap.size + 1 + 1 + 1 := by
 have h1 := heap_alloc_new (w.alloc (.cells X t)) (.cells Y t)
 have h2 := heap_alloc_new ((w.alloc (.cells X t)).alloc (.cells Y t)) (.cells Z t)
 simp only [World.size_alloc] at h1 h2
 exact ⟨(((Below.refl _ w).alloc (Nat.le_refl _) _).alloc (by simp) _).alloc (by simp; omega) _, by rw [Below.heap_alloc _ _ _ (by simp; omega), Below.heap_alloc _ _ _ (by simp)]; exact heap_alloc_new w _, by rw [Below.heap_alloc _ _ _ (by simp)]; exact h1, h2, by simp⟩
theorem join_yes (a b : Nd) (w : World) (ha : NdOk a) (hb : NdOk b) (hv : vL [a, b] = true) (hT : Hid (Tabs w)) :
  Calls Tryz.prog 85 #[ndV a, ndV b] w fun e w' => e = .returned (.tuple #[ndV (joinN a b), .int .i64 0]) ∧ Below w.heap.size w w' := by
 have HOA := hid ha
 have HOB := hid hb
 have HV := hid hv
 have HJ := hid (join_ok ha hb hv)
 have hsum : 0 ≤ a.c ∧ a.c ≤ 1073741824 ∧ 0 ≤ a.p ∧ a.p ≤ 12 * a.c ∧ 0 ≤ b.c ∧ b.c ≤ 1073741824 ∧ 0 ≤ b.p ∧ b.p ≤ 12 * b.c := by
  simp only [vL, List.all_cons, List.all_nil, Bool.and_true, Bool.and_eq_true, sumC] at hv
  have h1 := vN_bd hv.1.1
  have h2 := vN_bd hv.1.2
  omega
 have HW1 : Hid (IntKind.i64.wrap (a.c + b.c) = a.c + b.c) := hid (IntWalk.i64_in _ (by omega))
 have HW2 : Hid (IntKind.i64.wrap (a.p + b.p) = a.p + b.p) := hid (IntWalk.i64_in _ (by omega))
 have HZS : Hid (∀ z ∈ ([a.c, a.p, b.c, b.p] : List Int), -9223372036854775808 ≤ z ∧ z ≤ 9223372036854775807) := hid (fun z hz => by
  simp only [List.mem_cons, List.not_mem_nil, or_false] at hz
  rcases hz with rfl | rfl | rfl | rfl <;> omega)
 have HS1 : Hid ((Tryz.prog.info? 39).map (·.size) = some (ndC (joinN a b)).toArray.size) := hid (by rw [size34 HJ.out]; simp)
 have HS2 : Hid (34 = (ndC (joinN a b)).toArray.size) := hid (by simp [ndC_length HJ.out])
 have HSA : Hid ((Tryz.prog.info? 39).map (·.size) = some (ndC a).toArray.size) := hid (by rw [size34 HOA.out]; simp)
 have HSB : Hid ((Tryz.prog.info? 39).map (·.size) = some (ndC b).toArray.size) := hid (by rw [size34 HOB.out]; simp)
 obtain ⟨t1, t2, t3, t4, t5⟩ := three_rows w (ndC a).toArray (ndC b).toArray #[.int .u8 0, .int .u8 0, .int .u8 0, .int .u8 0, .int .u8 0, .int .u8 0, .int .u8 0, .int .u8 0, .int .u8 0, .int .u8 0, .int .u8 0, .int .u8 0, .int .u8 0, .int .u8 0, .int .u8 0, .int .u8 0, .int .u8 0, .int .u8 0, .int .u8 0, .int .u8 0, .int .u8 0, .int .u8 0, .int .u8 0, .int .u8 0, .int .u8 0, .int .u8 0, .int .u8 0, .int .u8 0, .int .u8 0, .int .u8 0, .int .u8 0, .int .u8 0, .int .i64 0, .int .i64 0] 39
 have T1 := hid t1
 have T2 := hid t2
 have T3 := hid t3
 have T4 := hid t4
 have T5 := hid t5
 clear ha hb hv hsum t1 t2 t3 t4 t5
 go_enter Tryz.func85, Tryz.ntmps85
 unfold ndV
 go_wp2_with (first | (refine wpList_load_row rfl 39 (.tmp 2) rfl w.heap.size rfl 39 _ (0, 0) _ T2.out Tryz.underlying39 rfl HSA.out ?_) | (refine wpList_load_row rfl 39 (.tmp 3) rfl (w.heap.size + 1) rfl 39 _ (0, 0) _ T3.out Tryz.underlying39 rfl HSB.out ?_) | (refine wpList_build_nodes2 rfl (.tmp 6) (.tmp 7) rfl a b rfl rfl HOA.out HOB.out ?_))
 have hq := heap_alloc_new (((w.alloc (.cells (ndC a).toArray 39)).alloc (.cells (ndC b).toArray 39)).alloc (.cells #[.int .u8 0, .int .u8 0, .int .u8 0, .int .u8 0, .int .u8 0, .int .u8 0, .int .u8 0, .int .u8 0, .int .u8 0, .int .u8 0, .int .u8 0, .int .u8 0, .int .u8 0, .int .u8 0, .int .u8 0, .int .u8 0, .int .u8 0, .int .u8 0, .int .u8 0, .int .u8 0, .int .u8 0, .int .u8 0, .int .u8 0, .int .u8 0, .int .u8 0, .int .u8 0, .int .u8 0, .int .u8 0, .int .u8 0, .int .u8 0, .int .u8 0, .int .u8 0, .int .i64 0, .int .i64 0] 39)) (.cells (flatN [a, b]).toArray 39)
 rw [T5.out] at hq
 have hb4 := (Below.refl _ (((w.alloc (.cells (ndC a).toArray 39)).alloc (.cells (ndC b).toArray 39)).alloc (.cells #[.int .u8 0, .int .u8 0, .int .u8 0, .int .u8 0, .int .u8 0, .int .u8 0, .int .u8 0, .int .u8 0, .int .u8 0, .int .u8 0, .int .u8 0, .int .u8 0, .int .u8 0, .int .u8 0, .int .u8 0, .int .u8 0, .int .u8 0, .int .u8 0, .int .u8 0, .int .u8 0, .int .u8 0, .int .u8 0, .int .u8 0, .int .u8 0, .int .u8 0, .int .u8 0, .int .u8 0, .int .u8 0, .int .u8 0, .int .u8 0, .int .u8 0, .int .u8 0, .int .i64 0, .int .i64 0] 39))).alloc (Nat.le_refl _) (.cells (flatN [a, b]).toArray 39)
 have HIN : Hid (InN ((((w.alloc (.cells (ndC a).toArray 39)).alloc (.cells (ndC b).toArray 39)).alloc (.cells #[.int .u8 0, .int .u8 0, .int .u8 0, .int .u8 0, .int .u8 0, .int .u8 0, .int .u8 0, .int .u8 0, .int .u8 0, .int .u8 0, .int .u8 0, .int .u8 0, .int .u8 0, .int .u8 0, .int .u8 0, .int .u8 0, .int .u8 0, .int .u8 0, .int .u8 0, .int .u8 0, .int .u8 0, .int .u8 0, .int .u8 0, .int .u8 0, .int .u8 0, .int .u8 0, .int .u8 0, .int .u8 0, .int .u8 0, .int .u8 0, .int .u8 0, .int .u8 0, .int .i64 0, .int .i64 0] 39)).alloc (.cells (flatN [a, b]).toArray 39)) (some ⟨w.heap.size + 1 + 1 + 1, 0, none⟩) 2 2 [a, b]) := hid ⟨rfl, Nat.le_refl _, (fun h => by cases h), (fun x hx => by
  simp only [List.mem_cons, List.not_mem_nil, or_false] at hx
  rcases hx with rfl | rfl
  ·exact HOA.out
  ·exact HOB.out), fun _ => ⟨_, 0, rfl, (Array.getElem?_eq_some_iff.1 hq).1, range_row hq⟩⟩
 refine (valid_any [a, b] _ 2 2 _ (by omega) HIN).mono ?_
 rintro e W1 ⟨rfl, hq1⟩
 rw [HV.out]
 have hb4' := hb4.trans (hq1.mono hb4.size)
 have HB1 := hid (T1.out.trans (hb4'.mono T1.out.size))
 have HRA := hid ((hb4'.block w.heap.size (by rw [T5.out]; omega)).trans T2.out)
 have HRB := hid ((hb4'.block (w.heap.size + 1) (by rw [T5.out]; omega)).trans T3.out)
 have HRR := hid ((hb4'.block (w.heap.size + 1 + 1) (by rw [T5.out]; omega)).trans T4.out)
 have hT1 := hid (hT.out.below HB1.out)
 clear hq hb4 hb4' hq1 HIN T1 T2 T3 T4 T5 HSA HSB HV
 go_wp2_with fail
 refine region_flow3 (by kernel_rfl) (by kernel_rfl) (fun i => Nat.beq i 26 || Nat.beq i 27) (fun i => i) (by kernel_rfl) (fun fx => #[.agg (ndC a).toArray, .agg (ndC b).toArray, .pointer (some ⟨w.heap.size, 0, none⟩), .pointer (some ⟨w.heap.size + 1, 0, none⟩), .pointer (some ⟨w.heap.size + 1 + 1, 0, none⟩), fx 27, .agg (ndC a).toArray, .agg (ndC b).toArray, .slice (some ⟨w.heap.size + 1 + 1 + 1, 0, none⟩) 2 2, .bool true, .bool false, undef, fx 0, fx 1, fx 2, fx 3, fx 4, fx 5, fx 6, fx 7, fx 8, fx 9, fx 10, fx 11, fx 12, fx 13, fx 14, fx 15, fx 16, fx 17, fx 18, fx 19, fx 20, fx 21, fx 22, fx 23, fx 24, fx 25]) (fun i => bif Nat.beq i 27 then Value.int .i64 (0) else undef) (fun L fx w' => (L 26 = false → Below W1.heap.size W1 w')) (fun fi fv _ fw => wJ w W1.heap.size w.heap.size (w.heap.size + 1) (w.heap.size + 1 + 1) a b fi fv fw) (fun _ => (Below.refl _ _).drew) ?_ ?_
 ·refine ⟨?_, ?_, ?_, ?_, ?_, ?_, ?_, ?_, ?_, ?_, ?_, ?_, ?_, ?_, ?_, ?_, ?_, ?_, ?_, ?_, ?_, ?_, ?_, ?_, ?_, ?_, ?_, ?_, trivial⟩
  all_goals intro L fx w' hC hi hcl hdn hd
  ·have hnd : L 26 = false := nQ hi (fun h => (hcl 1 0 (hcl 4 1 (hcl 14 4 (hcl 25 14 (hcl 26 25 h (by kernel_rfl)) (by kernel_rfl)) (by kernel_rfl)) (by kernel_rfl)) (by kernel_rfl)))
   go_wp2_with fail
   exact ⟨_, rfl, (fun _ => hC hnd), rfl, kP⟩
  ·have h0 : fx 0 = .pointer (some ⟨w.heap.size, 0, none⟩) := hd.1 rfl
   have hnd : L 26 = false := nQ hi (fun h => (hcl 4 1 (hcl 14 4 (hcl 25 14 (hcl 26 25 h (by kernel_rfl)) (by kernel_rfl)) (by kernel_rfl)) (by kernel_rfl)))
   go_wp2_with fail
   exact ⟨_, by rw [← h0]; rfl, (fun _ => hC hnd), rfl, kP⟩
  ·have hnd : L 26 = false := nQ hi (fun h => (hcl 3 2 (hcl 4 3 (hcl 14 4 (hcl 25 14 (hcl 26 25 h (by kernel_rfl)) (by kernel_rfl)) (by kernel_rfl)) (by kernel_rfl)) (by kernel_rfl)))
   go_wp2_with fail
   exact ⟨_, rfl, (fun _ => hC hnd), rfl, kP⟩
  ·have h2 : fx 2 = .pointer (some ⟨w.heap.size + 1, 0, none⟩) := hd.1 rfl
   have hnd : L 26 = false := nQ hi (fun h => (hcl 4 3 (hcl 14 4 (hcl 25 14 (hcl 26 25 h (by kernel_rfl)) (by kernel_rfl)) (by kernel_rfl)) (by kernel_rfl)))
   go_wp2_with fail
   exact ⟨_, by rw [← h2]; rfl, (fun _ => hC hnd), rfl, kP⟩
  ·have h1 : fx 1 = .slice (some ⟨w.heap.size, 0, none⟩) 32 32 := hd.1 rfl
   have h3 : fx 3 = .slice (some ⟨w.heap.size + 1, 0, none⟩) 32 32 := hd.2.1 rfl
   have hnd : L 26 = false := nQ hi (fun h => (hcl 14 4 (hcl 25 14 (hcl 26 25 h (by kernel_rfl)) (by kernel_rfl)) (by kernel_rfl)))
   have HBL := hid (bytes_node (((hC hnd).block _ (Array.getElem?_eq_some_iff.1 HRA.out).1).trans HRA.out))
   have HBR := hid (bytes_node (((hC hnd).block _ (Array.getElem?_eq_some_iff.1 HRB.out).1).trans HRB.out))
   have hs := (hC hnd).size
   refine wpList_append_full rfl (.tmp 13) (.tmp 15) rfl w.heap.size 32 (w.heap.size + 1) 32 32 a.d b.d h1 h3 HOA.out.len HOB.out.len HBL HBR (by omega) (by omega) ?_
   intro v2 w2 HO2 HB2
   clear hd
   go_wp2_with fail
   exact ⟨v2, by rw [← h1, ← h3]; rfl, fun _ => (hC hnd).trans (HB2.out.mono hs), (ownB_mono HO2.out hs), fun j v t _ _ h => wJ_below HB2.out j v h⟩
  ·have hnd : L 26 = false := nQ hi (fun h => (hcl 6 5 (hcl 13 6 (hcl 14 13 (hcl 25 14 (hcl 26 25 h (by kernel_rfl)) (by kernel_rfl)) (by kernel_rfl)) (by kernel_rfl)) (by kernel_rfl)))
   go_wp2_with fail
   exact ⟨_, rfl, (fun _ => hC hnd), rfl, kP⟩
  ·have h5 : fx 5 = .pointer (some ⟨w.heap.size, 32, none⟩) := hd.1 rfl
   have hnd : L 26 = false := nQ hi (fun h => (hcl 13 6 (hcl 14 13 (hcl 25 14 (hcl 26 25 h (by kernel_rfl)) (by kernel_rfl)) (by kernel_rfl)) (by kernel_rfl)))
   have hc := cell_c HOA.out (((hC hnd).block _ (Array.getElem?_eq_some_iff.1 HRA.out).1).trans HRA.out)
   go_wp2_with fail
   exact ⟨_, by rw [← h5]; rfl, (fun _ => hC hnd), rfl, kP⟩
  ·have hnd : L 26 = false := nQ hi (fun h => (hcl 8 7 (hcl 13 8 (hcl 14 13 (hcl 25 14 (hcl 26 25 h (by kernel_rfl)) (by kernel_rfl)) (by kernel_rfl)) (by kernel_rfl)) (by kernel_rfl)))
   go_wp2_with fail
   exact ⟨_, rfl, (fun _ => hC hnd), rfl, kP⟩
  ·have h7 : fx 7 = .pointer (some ⟨w.heap.size, 33, none⟩) := hd.1 rfl
   have hnd : L 26 = false := nQ hi (fun h => (hcl 13 8 (hcl 14 13 (hcl 25 14 (hcl 26 25 h (by kernel_rfl)) (by kernel_rfl)) (by kernel_rfl)) (by kernel_rfl)))
   have hc := cell_p HOA.out (((hC hnd).block _ (Array.getElem?_eq_some_iff.1 HRA.out).1).trans HRA.out)
   go_wp2_with fail
   exact ⟨_, by rw [← h7]; rfl, (fun _ => hC hnd), rfl, kP⟩
  ·have hnd : L 26 = false := nQ hi (fun h => (hcl 10 9 (hcl 13 10 (hcl 14 13 (hcl 25 14 (hcl 26 25 h (by kernel_rfl)) (by kernel_rfl)) (by kernel_rfl)) (by kernel_rfl)) (by kernel_rfl)))
   go_wp2_with fail
   exact ⟨_, rfl, (fun _ => hC hnd), rfl, kP⟩
  ·have h9 : fx 9 = .pointer (some ⟨w.heap.size + 1, 32, none⟩) := hd.1 rfl
   have hnd : L 26 = false := nQ hi (fun h => (hcl 13 10 (hcl 14 13 (hcl 25 14 (hcl 26 25 h (by kernel_rfl)) (by kernel_rfl)) (by kernel_rfl)) (by kernel_rfl)))
   have hc := cell_c HOB.out (((hC hnd).block _ (Array.getElem?_eq_some_iff.1 HRB.out).1).trans HRB.out)
   go_wp2_with fail
   exact ⟨_, by rw [← h9]; rfl, (fun _ => hC hnd), rfl, kP⟩
  ·have hnd : L 26 = false := nQ hi (fun h => (hcl 12 11 (hcl 13 12 (hcl 14 13 (hcl 25 14 (hcl 26 25 h (by kernel_rfl)) (by kernel_rfl)) (by kernel_rfl)) (by kernel_rfl)) (by kernel_rfl)))
   go_wp2_with fail
   exact ⟨_, rfl, (fun _ => hC hnd), rfl, kP⟩
  ·have h11 : fx 11 = .pointer (some ⟨w.heap.size + 1, 33, none⟩) := hd.1 rfl
   have hnd : L 26 = false := nQ hi (fun h => (hcl 13 12 (hcl 14 13 (hcl 25 14 (hcl 26 25 h (by kernel_rfl)) (by kernel_rfl)) (by kernel_rfl)) (by kernel_rfl)))
   have hc := cell_p HOB.out (((hC hnd).block _ (Array.getElem?_eq_some_iff.1 HRB.out).1).trans HRB.out)
   go_wp2_with fail
   exact ⟨_, by rw [← h11]; rfl, (fun _ => hC hnd), rfl, kP⟩
  ·have h6 : fx 6 = .int .i64 (a.c) := hd.1 rfl
   have h8 : fx 8 = .int .i64 (a.p) := hd.2.1 rfl
   have h10 : fx 10 = .int .i64 (b.c) := hd.2.2.1 rfl
   have h12 : fx 12 = .int .i64 (b.p) := hd.2.2.2.1 rfl
   have hnd : L 26 = false := nQ hi (fun h => (hcl 14 13 (hcl 25 14 (hcl 26 25 h (by kernel_rfl)) (by kernel_rfl)) (by kernel_rfl)))
   go_wp2_with fail
   have hbb : Below w'.heap.size w' (w'.alloc (.cells #[.int .i64 a.c, .int .i64 a.p, .int .i64 b.c, .int .i64 b.p] 3)) := (Below.refl _ _).alloc (Nat.le_refl _) _
   have hq := heap_alloc_new w' (.cells #[.int .i64 a.c, .int .i64 a.p, .int .i64 b.c, .int .i64 b.p] 3)
   exact ⟨_, by rw [← h6, ← h8, ← h10, ← h12]; rfl, fun _ => (hC hnd).trans (hbb.mono (hC hnd).size), ⟨_, rfl, by simp, fun i hi4 => four_cells hq i hi4⟩, fun j v t _ _ h => wJ_below hbb j v h⟩
  ·have H4 := hid (hd.1 rfl)
   have H13 := hid (hd.2.1 rfl)
   have hnd : L 26 = false := nQ hi (fun h => (hcl 25 14 (hcl 26 25 h (by kernel_rfl)) (by kernel_rfl)))
   obtain ⟨A4, n4, c4, h4, hn4, hc4, hA4, HR4⟩ := H4.out.slice
   obtain ⟨g, h13, hg, hcs⟩ := H13.out
   have hb14 := hC hnd
   have HCS := hid hcs
   clear hcs
   have hn64 : n4 ≤ 1000000 := by rw [← hn4.out, List.length_append, HOA.out.len, HOB.out.len]; omega
   have HIN : Hid (In w' A4 n4 c4 (a.d ++ b.d)) := hid ⟨hn4.out, hc4, hA4.out, (fun x hx => by rcases List.mem_append.1 hx with h' | h'; exact HOA.out.bytes x h'; exact HOB.out.bytes x h'), HR4.out⟩
   go_wp2_with fail
   refine (thash_any sumTag [a.c, a.p, b.c, b.p] g 4 4 A4 n4 c4 (a.d ++ b.d) w' (by decide) HZS rfl (by omega) HCS hg hn64 (hid (hT1.out.below hb14)) HIN).mono ?_
   rintro e w2 ⟨rfl, hq⟩
   have HQ := hid hq
   clear hq
   rw [join_d a b]
   go_wp2_with fail
   exact ⟨_, by rw [← h4, ← h13]; rfl, fun _ => hb14.trans (HQ.out.mono hb14.size), rfl, fun j v t _ _ h => wJ_below HQ.out j v h⟩
  ·have hnd : L 26 = false := nQ hi (fun h => (hcl 16 15 (hcl 19 16 (hcl 25 19 (hcl 26 25 h (by kernel_rfl)) (by kernel_rfl)) (by kernel_rfl)) (by kernel_rfl)))
   go_wp2_with fail
   exact ⟨_, rfl, (fun _ => hC hnd), rfl, kP⟩
  ·have h15 : fx 15 = .pointer (some ⟨w.heap.size, 32, none⟩) := hd.1 rfl
   have hnd : L 26 = false := nQ hi (fun h => (hcl 19 16 (hcl 25 19 (hcl 26 25 h (by kernel_rfl)) (by kernel_rfl)) (by kernel_rfl)))
   have hc := cell_c HOA.out (((hC hnd).block _ (Array.getElem?_eq_some_iff.1 HRA.out).1).trans HRA.out)
   go_wp2_with fail
   exact ⟨_, by rw [← h15]; rfl, (fun _ => hC hnd), rfl, kP⟩
  ·have hnd : L 26 = false := nQ hi (fun h => (hcl 18 17 (hcl 19 18 (hcl 25 19 (hcl 26 25 h (by kernel_rfl)) (by kernel_rfl)) (by kernel_rfl)) (by kernel_rfl)))
   go_wp2_with fail
   exact ⟨_, rfl, (fun _ => hC hnd), rfl, kP⟩
  ·have h17 : fx 17 = .pointer (some ⟨w.heap.size + 1, 32, none⟩) := hd.1 rfl
   have hnd : L 26 = false := nQ hi (fun h => (hcl 19 18 (hcl 25 19 (hcl 26 25 h (by kernel_rfl)) (by kernel_rfl)) (by kernel_rfl)))
   have hc := cell_c HOB.out (((hC hnd).block _ (Array.getElem?_eq_some_iff.1 HRB.out).1).trans HRB.out)
   go_wp2_with fail
   exact ⟨_, by rw [← h17]; rfl, (fun _ => hC hnd), rfl, kP⟩
  ·have h16 : fx 16 = .int .i64 (a.c) := hd.1 rfl
   have h18 : fx 18 = .int .i64 (b.c) := hd.2.1 rfl
   have hnd : L 26 = false := nQ hi (fun h => (hcl 25 19 (hcl 26 25 h (by kernel_rfl)) (by kernel_rfl)))
   have hw : IntKind.i64.wrap (a.c + b.c) = a.c + b.c := HW1.out
   go_wp2_with fail
   exact ⟨_, by rw [← h16, ← h18]; rfl, (fun _ => hC hnd), rfl, kP⟩
  ·have hnd : L 26 = false := nQ hi (fun h => (hcl 21 20 (hcl 24 21 (hcl 25 24 (hcl 26 25 h (by kernel_rfl)) (by kernel_rfl)) (by kernel_rfl)) (by kernel_rfl)))
   go_wp2_with fail
   exact ⟨_, rfl, (fun _ => hC hnd), rfl, kP⟩
  ·have h20 : fx 20 = .pointer (some ⟨w.heap.size, 33, none⟩) := hd.1 rfl
   have hnd : L 26 = false := nQ hi (fun h => (hcl 24 21 (hcl 25 24 (hcl 26 25 h (by kernel_rfl)) (by kernel_rfl)) (by kernel_rfl)))
   have hc := cell_p HOA.out (((hC hnd).block _ (Array.getElem?_eq_some_iff.1 HRA.out).1).trans HRA.out)
   go_wp2_with fail
   exact ⟨_, by rw [← h20]; rfl, (fun _ => hC hnd), rfl, kP⟩
  ·have hnd : L 26 = false := nQ hi (fun h => (hcl 23 22 (hcl 24 23 (hcl 25 24 (hcl 26 25 h (by kernel_rfl)) (by kernel_rfl)) (by kernel_rfl)) (by kernel_rfl)))
   go_wp2_with fail
   exact ⟨_, rfl, (fun _ => hC hnd), rfl, kP⟩
  ·have h22 : fx 22 = .pointer (some ⟨w.heap.size + 1, 33, none⟩) := hd.1 rfl
   have hnd : L 26 = false := nQ hi (fun h => (hcl 24 23 (hcl 25 24 (hcl 26 25 h (by kernel_rfl)) (by kernel_rfl)) (by kernel_rfl)))
   have hc := cell_p HOB.out (((hC hnd).block _ (Array.getElem?_eq_some_iff.1 HRB.out).1).trans HRB.out)
   go_wp2_with fail
   exact ⟨_, by rw [← h22]; rfl, (fun _ => hC hnd), rfl, kP⟩
  ·have h21 : fx 21 = .int .i64 (a.p) := hd.1 rfl
   have h23 : fx 23 = .int .i64 (b.p) := hd.2.1 rfl
   have hnd : L 26 = false := nQ hi (fun h => (hcl 25 24 (hcl 26 25 h (by kernel_rfl)) (by kernel_rfl)))
   have hw : IntKind.i64.wrap (a.p + b.p) = a.p + b.p := HW2.out
   go_wp2_with fail
   exact ⟨_, by rw [← h21, ← h23]; rfl, (fun _ => hC hnd), rfl, kP⟩
  ·have h14 : fx 14 = dgV (joinN a b).d := hd.1 rfl
   have h19 : fx 19 = .int .i64 (a.c + b.c) := hd.2.1 rfl
   have h24 : fx 24 = .int .i64 (a.p + b.p) := hd.2.2.1 rfl
   have hnd : L 26 = false := nQ hi (fun h => (hcl 26 25 h (by kernel_rfl)))
   refine wpList_build_node rfl (.tmp 26) (.tmp 31) (.tmp 36) rfl (joinN a b).d (a.c + b.c) (a.p + b.p) HJ.out.len h14 h19 h24 ?_
   clear hd
   go_wp2_with fail
   exact ⟨_, by rw [← h14, ← h19, ← h24]; rfl, fun _ => hC hnd, rfl, kP⟩
  ·have h25 : fx 25 = ndV (joinN a b) := hd.1 rfl
   have hb26 := hC hi
   have hrow := (hb26.block _ (Array.getElem?_eq_some_iff.1 HRR.out).1).trans HRR.out
   refine wpList_store_row rfl 39 (.tmp 4) (.tmp 37) rfl (w.heap.size + 1 + 1) (ndC (joinN a b)).toArray rfl h25 39 _ hrow HS1.out HS2.out (ndC_one _) ?_
   clear hd
   go_wp2_with fail
   refine ⟨undef, by rw [← h25]; rfl, fun h => (updB_self h).elim, ⟨setRow_heap _ _ _ _ _ _ hrow, below_setRow (HB1.out.trans (hb26.mono HB1.out.size)) (by omega) _⟩, fun j v t hj hu h => ?_⟩
   refine wJ_pure j v ?_ ?_ ?_ h <;> intro e <;> subst e
   ·refine absurd hu (not_needed (E := fun i => Nat.beq i 26 || Nat.beq i 27) (j := 4) [14] ?_ ?_ ?_)
    ·kernel_rfl
    ·kernel_rfl
    ·intro m hm hne; simp at hm; subst hm; exact hcl 25 14 (hdn 25 (by kernel_rfl)) (by kernel_rfl)
   ·refine absurd hu (not_needed (E := fun i => Nat.beq i 26 || Nat.beq i 27) (j := 13) [14] ?_ ?_ ?_)
    ·kernel_rfl
    ·kernel_rfl
    ·intro m hm hne; simp at hm; subst hm; exact hcl 25 14 (hdn 25 (by kernel_rfl)) (by kernel_rfl)
   ·rw [hi] at hj; cases hj
  ·go_wp2_with fail
   exact ⟨_, rfl, fun h => hC h, rfl, kP⟩
 ·intro L fx w' hC hS
  have H26 := hid (hS 26 (by decide) rfl)
  have H27 := hid (hS 27 (by decide) rfl)
  have h27 : fx 27 = .int .i64 0 := H27.out
  rw [h27]
  clear hS h27 H27
  go_wp2_with fail
  have hl := run_loadVar_row (P := Tryz.prog) w' (w.heap.size + 1 + 1) 39 39 (ndC (joinN a b)).toArray (0, 0) _ H26.out.1 Tryz.underlying39 rfl HS1.out
  refine bodyPost_ret (v := .tuple #[ndV (joinN a b), .int .i64 0]) ?_ rfl ⟨rfl, H26.out.2⟩
  unfold ndV
  simp [results, Tryz.results85, asAddr, hl]
end Go.Proofs.YtmfmgeapecapiaaGreatDoor
