/- slices.Clone of bytes; sizar/tree.hash. -/
import Derived.Test.YtgcmbiegbclhmaaDoorCodec6
import Derived.Test.YtgcmbiegbclhmaaDoorLawKit
import Derived.WalkSpells
import Derived.Lib.SliceRun
namespace Go.Proofs.YtgcmbiegbclhmaaDoor
open Go.RowKit SzSha SzTree
set_option linter.unusedVariables false
set_option maxRecDepth 100000
set_option maxHeartbeats 2000000 in
theorem clone_any (A : Option Addr) (n c : Nat) (l : List Nat) (w : World) (hn : n ≤ 1000000000) (h : Hid (In w A n c l)) :
    Calls Tryd.prog 50 #[.slice A n c] w fun e w' => ∃ v, e = .returned v ∧ OwnB w' w.heap.size v l ∧ Below w.heap.size w w' := by
  have kn0 := fun W => Lib.run_eql_slice_nil (P := Tryd.prog) W 43 5 A n c 0 0 Tryd.underlying43
  rcases A with _ | a
  · have h0 : n = 0 := by have := h.out.none_ rfl; have := h.out.cap; omega
    have hl : l = [] := List.eq_nil_of_length_eq_zero (by rw [h.out.len]; exact h0)
    have hc0 : c = 0 := h.out.none_ rfl
    subst hl
    subst h0
    subst hc0
    clear h hn
    go_enter Tryd.func50, Tryd.ntmps50
    go_wp2_with fail
    go_ret
    exact ⟨_, rfl, OwnB.nil _ _, Below.refl _ _⟩
  · have HO := Lib.hid (⟨rfl, .inr ⟨w.heap.size, 0, #[], rfl, Nat.le_refl _, heap_alloc_new w _, Nat.le_refl _, by simp [maxLen], rfl, rfl⟩⟩ : OwnB (w.alloc (.cells #[] 5)) w.heap.size (.slice (some ⟨w.heap.size, 0, none⟩) 0 0) [])
    have HB := Lib.hid ((Below.refl _ w).alloc (Nat.le_refl _) (.cells #[] 5))
    have HR := Lib.hid ((h.out.rd.below HB.out (Nat.le_refl _)).mono HB.out.size)
    have HLN := Lib.hid h.out.len
    have hlen : ([] : List Nat).length + n ≤ 1099511627776 := by simp; omega
    go_enter Tryd.func50, Tryd.ntmps50
    go_wp2_with (at_builtin; refine wpList_append_bytes rfl (.tmp 5) (.tmp 6) rfl w.heap.size _ [] l rfl HO (some a) n c rfl HLN (fun h => by cases h) HR hlen HB.out.size ?_; intro v2 w2 HO2 HB2)
    rw [List.nil_append] at HO2
    go_ret
    exact ⟨_, rfl, HO2.out, HB.out.trans HB2.out⟩
/-- the cells of integers of the codec -/
def vcells : List Int → List Value
  | [] => []
  | z :: zs => .int .i64 1 :: .int .i64 z :: .string ⟨#[]⟩ :: .slice none 0 0 :: vcells zs
theorem vcells_append : ∀ (a b : List Int), vcells (a ++ b) = vcells a ++ vcells b
  | [], b => rfl
  | z :: a, b => by simp only [List.cons_append, vcells, vcells_append a b]
theorem vcells_length : ∀ zs : List Int, (vcells zs).length = zs.length * 4
  | [] => rfl
  | z :: zs => by simp only [vcells, List.length_cons, vcells_length zs]; omega
theorem vcells_get : ∀ (zs : List Int) (i : Nat) (hi : i < zs.length), (vcells zs)[i * 4]? = some (.int .i64 1) ∧ (vcells zs)[i * 4 + 1]? = some (.int .i64 zs[i]) ∧ (vcells zs)[i * 4 + 2]? = some (.string ⟨#[]⟩) ∧ (vcells zs)[i * 4 + 3]? = some (.slice none 0 0)
  | [], i, hi => by simp at hi
  | z :: zs, 0, _ => by simp [vcells]
  | z :: zs, i + 1, hi => by
    have h := vcells_get zs i (by simpa using hi)
    rw [show (i + 1) * 4 = i * 4 + 4 by omega]
    simpa [vcells] using h
/-- a slice of values that the call made -/
def OwnV (w : World) (base : Nat) (v : Value) (zs : List Int) : Prop := w.ownsRow base 76 4 v zs.length (vcells zs)
theorem OwnV.nil (w : World) (base : Nat) : OwnV w base (.slice none 0 0) [] := ⟨rfl, .inl ⟨rfl, rfl⟩⟩
theorem OwnV.slice {w : World} {base : Nat} {v : Value} {zs : List Int} (h : OwnV w base v zs) : ∃ A c, v = .slice A zs.length c ∧ VRd w w.heap.size A zs := by
  rcases h.2 with ⟨rfl, h0⟩ | ⟨g, cap, cur, rfl, hb, hh, hc, hm, hs, ht⟩
  · exact ⟨none, 0, by rw [h0], fun h => by omega⟩
  · refine ⟨_, cap, rfl, fun _ => ⟨g, rfl, (Array.getElem?_eq_some_iff.1 hh).1, fun i hi => ?_⟩⟩
    have key : ∀ k, k < zs.length * 4 → w.cell? ⟨g, 0 + k, none⟩ = (vcells zs)[k]? := fun k hk => by
      rw [Nat.zero_add, cell_of_row w g k cur _ _ hh, ← ht, List.getElem?_take_of_lt hk]; simp
    have hv := vcells_get zs i hi
    refine ⟨?_, ?_, ?_, ?_⟩
    · rw [key _ (by omega)]; exact hv.1
    · rw [show 0 + i * 4 + 1 = 0 + (i * 4 + 1) by omega, key _ (by omega)]; exact hv.2.1
    · rw [show 0 + i * 4 + 2 = 0 + (i * 4 + 2) by omega, key _ (by omega)]; exact hv.2.2.1
    · rw [show 0 + i * 4 + 3 = 0 + (i * 4 + 3) by omega, key _ (by omega)]; exact hv.2.2.2
theorem OwnV.kept {w w' : World} {base : Nat} {v : Value} {zs : List Int} (h : OwnV w base v zs) (hk : ∀ g, base ≤ g → g < w.heap.size → w'.heap[g]? = w.heap[g]?) : OwnV w' base v zs := by
  refine ⟨h.1, ?_⟩
  rcases h.2 with h0 | ⟨g, cap, cur, rfl, hb, hh, r⟩
  · exact .inl h0
  · exact .inr ⟨g, cap, cur, rfl, hb, (hk g hb (Array.getElem?_eq_some_iff.1 hh).1).trans hh, r⟩
theorem info_val : ∃ i, Tryd.prog.info? 76 = some i ∧ i.zero = some (.agg #[.int .i64 0, .int .i64 0, .string ⟨#[]⟩, .slice none 0 0]) ∧ i.size = 4 ∧ i.bytes = 56 := by
  refine ⟨_, rfl, ?_, ?_, ?_⟩ <;> kernel_rfl
theorem wpList_append_val {w : World} {ops : Array Oper} {rest : List Oper} {o : Oper} {a : Act} {Q : Exit → Act → World → Prop} (hgd : o.guard = none) (s x : Operand)
    (ho : o.op = .call { callee := .builtin .append, args := #[s, x], argTypes := #[74, 74] })
    (base : Nat) (v : Value) (zs : List Int) (z : Int) (hs : a.eval s = v) (hown : Hid (OwnV w base v zs)) (g : Nat) (hx : a.eval x = .slice (some ⟨g, 0, none⟩) 1 1)
    (hr : Hid (w.heap[g]? = some (.cells #[.int .i64 1, .int .i64 z, .string ⟨#[]⟩, .slice none 0 0] 76 (0, 0)))) (hlen : zs.length ≤ 100000) (hbase : base ≤ w.heap.size)
    (h : ∀ v' w', Hid (OwnV w' base v' (zs ++ [z])) → Hid (Below base w w') → wpList Tryd.prog ops Q rest (a.put o.dst v') w') : wpList Tryd.prog ops Q (o :: rest) a w := by
  obtain ⟨i0, hi, hz0, hz1, hz2⟩ := info_val
  refine wpList_append_own_at _ hgd s x _ ho base _ i0 _ 4 56 Tryd.underlying74 hi hz0 hz1 hz2 (by simp [Value.cells]) (by omega) v _ _ hs hown.out ⟨g, 0, none⟩ 1 1 [.int .i64 1, .int .i64 z, .string ⟨#[]⟩, .slice none 0 0] hx rfl (fun j u hu => ?_) (fun u hu => ?_) (by unfold maxLen; omega) (by omega) hbase ?_
  · rw [add_row, cell_of_row _ _ _ _ _ _ hr.out, ← hu]; simp
  · simp only [List.mem_cons, List.not_mem_nil, or_false] at hu
    rcases hu with rfl | rfl | rfl | rfl <;> rfl
  · intro v' w' h1 h2 h3 h4
    refine h v' w' (Lib.hid ?_) (Lib.hid ((Below.refl base w).grown h2 hbase (fun k hk => ?_)))
    · unfold OwnV
      rw [vcells_append, List.length_append]; exact h1
    · rcases hown.out.2 with ⟨rfl, h0⟩ | ⟨g', cap, cur, rfl, hb, hh, r⟩
      · cases hk
      · have : g' = k := by simpa [Value.ownBlock] using hk
        omega
theorem ownV_form {w : World} {base : Nat} {v : Value} {zs : List Int} (h : OwnV w base v zs) : ∃ A n c, v = .slice A n c := by
  obtain ⟨A, c, e, _⟩ := h.slice
  exact ⟨A, _, c, e⟩
theorem row3 {w : World} {b : Nat} {v : Value} (h : w.heap[b]? = some (.cells #[.int .i64 3, .int .i64 0, .string ⟨#[]⟩, v] 76 (0, 0))) : w.cell? ⟨b, 3, none⟩ = some v ∧ w.frozen? ⟨b, 3, none⟩ = false :=
  ⟨by rw [cell_of_row _ _ _ _ _ _ h]; rfl, by simp [World.frozen?, h]⟩
theorem set3 {w : World} {b : Nat} {v v' : Value} (h : w.heap[b]? = some (.cells #[.int .i64 3, .int .i64 0, .string ⟨#[]⟩, v] 76 (0, 0))) : (w.setCell ⟨b, 3, none⟩ v').heap[b]? = some (.cells #[.int .i64 3, .int .i64 0, .string ⟨#[]⟩, v'] 76 (0, 0)) := by
  simp only [World.setCell, Array.getElem?_modify, if_true, h]; rfl
set_option maxHeartbeats 4000000 in
theorem thash_any (tag : ByteArray) (zs : List Int) (g m gc : Nat) (A : Option Addr) (n c : Nat) (l : List Nat) (w : World) (htag : tag.size ≤ 4294967296) (hz : Hid (∀ z ∈ zs, -9223372036854775808 ≤ z ∧ z ≤ 9223372036854775807)) (hm : zs.length = m) (hzn : m ≤ 1000) (hzc : Hid (∀ i, i < m → w.cell? ⟨g, i, none⟩ = some (.int .i64 (zs.getD i 0)))) (hg : g < w.heap.size) (hn : n ≤ 1000000) (hT : Hid (Tabs w)) (h : Hid (In w A n c l)) :
    Calls Tryd.prog 35 #[.string tag, .slice A n c, .slice (some ⟨g, 0, none⟩) m gc] w fun e w' => e = .returned (dgV (hashT (strL tag) l zs)) ∧ Below w.heap.size w w' := by
  have HM := Lib.hid hm
  clear hm
  have HB0 := Lib.hid (((Below.refl _ w).alloc (Nat.le_refl _) (.cells #[.int .u8 0, .int .u8 0, .int .u8 0, .int .u8 0, .int .u8 0, .int .u8 0, .int .u8 0, .int .u8 0, .int .u8 0, .int .u8 0, .int .u8 0, .int .u8 0, .int .u8 0, .int .u8 0, .int .u8 0, .int .u8 0, .int .u8 0, .int .u8 0, .int .u8 0, .int .u8 0, .int .u8 0, .int .u8 0, .int .u8 0, .int .u8 0, .int .u8 0, .int .u8 0, .int .u8 0, .int .u8 0, .int .u8 0, .int .u8 0, .int .u8 0, .int .u8 0] 24)).alloc (by simp) (.cells #[.int .i64 3, .int .i64 0, .string ⟨#[]⟩, .slice none 0 0] 76))
  have h1 := heap_alloc_new (w.alloc (.cells #[.int .u8 0, .int .u8 0, .int .u8 0, .int .u8 0, .int .u8 0, .int .u8 0, .int .u8 0, .int .u8 0, .int .u8 0, .int .u8 0, .int .u8 0, .int .u8 0, .int .u8 0, .int .u8 0, .int .u8 0, .int .u8 0, .int .u8 0, .int .u8 0, .int .u8 0, .int .u8 0, .int .u8 0, .int .u8 0, .int .u8 0, .int .u8 0, .int .u8 0, .int .u8 0, .int .u8 0, .int .u8 0, .int .u8 0, .int .u8 0, .int .u8 0, .int .u8 0] 24)) (.cells #[.int .i64 3, .int .i64 0, .string ⟨#[]⟩, .slice none 0 0] 76)
  have h2 := (Below.heap_alloc (w.alloc (.cells #[.int .u8 0, .int .u8 0, .int .u8 0, .int .u8 0, .int .u8 0, .int .u8 0, .int .u8 0, .int .u8 0, .int .u8 0, .int .u8 0, .int .u8 0, .int .u8 0, .int .u8 0, .int .u8 0, .int .u8 0, .int .u8 0, .int .u8 0, .int .u8 0, .int .u8 0, .int .u8 0, .int .u8 0, .int .u8 0, .int .u8 0, .int .u8 0, .int .u8 0, .int .u8 0, .int .u8 0, .int .u8 0, .int .u8 0, .int .u8 0, .int .u8 0, .int .u8 0] 24)) (.cells #[.int .i64 3, .int .i64 0, .string ⟨#[]⟩, .slice none 0 0] 76) w.heap.size (by simp)).trans (heap_alloc_new w _)
  rw [World.size_alloc] at h1
  have HV0 := Lib.hid h1
  have HD0 := Lib.hid h2
  clear h1 h2
  go_enter Tryd.func35, Tryd.ntmps35
  go_wp2_with fail
  go_loopw [15] (fun i wr => ∃ j : Nat, j ≤ m ∧ i = .int .i64 j ∧ ∃ vl, Hid (wr.heap[w.heap.size]? = some (.cells #[.int .u8 0, .int .u8 0, .int .u8 0, .int .u8 0, .int .u8 0, .int .u8 0, .int .u8 0, .int .u8 0, .int .u8 0, .int .u8 0, .int .u8 0, .int .u8 0, .int .u8 0, .int .u8 0, .int .u8 0, .int .u8 0, .int .u8 0, .int .u8 0, .int .u8 0, .int .u8 0, .int .u8 0, .int .u8 0, .int .u8 0, .int .u8 0, .int .u8 0, .int .u8 0, .int .u8 0, .int .u8 0, .int .u8 0, .int .u8 0, .int .u8 0, .int .u8 0] 24 (0, 0))) ∧ Hid (wr.heap[w.heap.size + 1]? = some (.cells #[.int .i64 3, .int .i64 0, .string ⟨#[]⟩, vl] 76 (0, 0))) ∧ Hid (OwnV wr (w.heap.size + 1 + 1) vl (zs.take j)) ∧ Hid (Below w.heap.size w wr)) (fun i _ => m - (intOf i).toNat)
  case atStart => exact ⟨0, by omega, rfl, _, HD0, HV0, Lib.hid (OwnV.nil _ _), HB0⟩
  case round =>
    clear HD0 HV0 HB0
    obtain ⟨j, hj, rfl, vl, HD, HV, HO, HB⟩ := hrel
    by_cases hlt : j < m
    · have d1 : decide ((j : Int) < (m : Int)) = true := decide_eq_true (by omega)
      obtain ⟨z, HZ⟩ : ∃ z, Hid (zs.getD j 0 = z) := ⟨_, Lib.hid rfl⟩
      have hcell : wr.cell? ⟨g, j, none⟩ = some (.int .i64 z) := by rw [← HZ.out]; exact (HB.out.cell (p := ⟨g, j, none⟩) hg).trans (hzc.out j hlt)
      have k3 : wr.cell? ⟨w.heap.size + 1, 3, none⟩ = some vl := by rw [cell_of_row _ _ _ _ _ _ HV.out]; rfl
      have HSZ : Hid (w.heap.size + 1 + 1 ≤ wr.heap.size) := Lib.hid (Array.getElem?_eq_some_iff.1 HV.out).1
      have HBA := Lib.hid ((Below.refl _ wr).alloc (Nat.le_refl _) (.cells #[.int .i64 1, .int .i64 z, .string ⟨#[]⟩, .slice none 0 0] 76))
      have HOA := Lib.hid (HO.out.kept (fun k _ hk => HBA.out.block k hk))
      have HVA := Lib.hid ((HBA.out.block _ HSZ.out).trans HV.out)
      have HRA := Lib.hid (heap_alloc_new wr (.cells #[.int .i64 1, .int .i64 z, .string ⟨#[]⟩, .slice none 0 0] 76))
      have HLN : Hid ((zs.take j).length ≤ 100000) := Lib.hid (by rw [List.length_take]; omega)
      have HSA := Lib.hid (Nat.le_trans HSZ.out HBA.out.size)
      have HNX : Hid (zs.take j ++ [z] = zs.take (j + 1)) := Lib.hid (by
        have h1 : j < zs.length := by rw [HM.out]; exact hlt
        rw [List.take_succ_eq_append_getElem h1, ← HZ.out]; simp [List.getD_eq_getElem?_getD, h1])
      go_wp2_with (at_builtin; refine wpList_append_val rfl (.tmp 20) (.tmp 23) rfl (w.heap.size + 1 + 1) vl (zs.take j) z ?ha HOA wr.heap.size ?hb ?hc HLN.out HSA.out ?_)
      case ha => rfl
      case hb => rfl
      case hc => exact HRA
      intro v2 w2 HO2 HB2
      obtain ⟨A', n', c', rfl⟩ := ownV_form HO2.out
      have HV2 := Lib.hid ((HB2.out.block (w.heap.size + 1) (Nat.lt_succ_self _)).trans HVA.out)
      obtain ⟨k3', f3'⟩ := row3 HV2.out
      go_wp2_with fail
      have HBB := Lib.hid (((HB.out.trans (HBA.out.mono HB.out.size)).trans (HB2.out.mono (by omega))).setCell (p := ⟨w.heap.size + 1, 3, none⟩) (Nat.le_succ _) (.slice A' n' c'))
      have HV3 := Lib.hid (set3 (v' := .slice A' n' c') HV2.out)
      have HD3 := Lib.hid ((Below.heap_setCell w2 ⟨w.heap.size + 1, 3, none⟩ (.slice A' n' c') w.heap.size (by simp)).trans ((HB2.out.block w.heap.size (by omega)).trans ((HBA.out.block _ (by have := HSZ.out; omega)).trans HD.out)))
      have HO3 := Lib.hid (HO2.out.kept (fun k hk hk2 => Below.heap_setCell w2 ⟨w.heap.size + 1, 3, none⟩ (.slice A' n' c') k (by intro e; simp at e; omega)))
      rw [HNX.out] at HO3
      clear k3' f3' k3 hcell
      go_roundw
      case rel => exact ⟨j + 1, by omega, by go_num, _, HD3, HV3, HO3, HBB⟩
      case measure => simp [intOf]; omega
    · have d1 : decide ((j : Int) < (m : Int)) = false := decide_eq_false (by omega)
      have HOm : Hid (OwnV wr (w.heap.size + 1 + 1) vl zs) := Lib.hid (by have := HO.out; rwa [List.take_of_length_le (by rw [HM.out]; omega)] at this)
      obtain ⟨Av, cv, rfl, hvr⟩ := HOm.out.slice
      have HVR := Lib.hid hvr
      have c0 : wr.cell? ⟨w.heap.size + 1, 0, none⟩ = some (.int .i64 3) := by rw [cell_of_row _ _ _ _ _ _ HV.out]; rfl
      have c1 : wr.cell? ⟨w.heap.size + 1, 1, none⟩ = some (.int .i64 0) := by rw [cell_of_row _ _ _ _ _ _ HV.out]; rfl
      have c2 : wr.cell? ⟨w.heap.size + 1, 2, none⟩ = some (.string ⟨#[]⟩) := by rw [cell_of_row _ _ _ _ _ _ HV.out]; rfl
      have c3 : wr.cell? ⟨w.heap.size + 1, 3, none⟩ = some (.slice Av zs.length cv) := by rw [cell_of_row _ _ _ _ _ _ HV.out]; rfl
      clear hvr
      go_wp2_with fail
      refine (encode_list zs Av cv _ hz (by rw [HM.out]; omega) HVR).mono ?_
      rintro e w2 ⟨v2, rfl, ho2, hb2⟩
      have HO2 := Lib.hid ho2
      have HB2 := Lib.hid (HB.out.trans (hb2.mono HB.out.size))
      have HD2 := Lib.hid ((hb2.block w.heap.size (Array.getElem?_eq_some_iff.1 HD.out).1).trans HD.out)
      clear ho2 hb2 c0 c1 c2 c3
      go_wp2_with fail
      refine (clone_any A n c l _ (by omega) (Lib.hid (h.out.below HB2.out))).mono ?_
      rintro e w3 ⟨v3, rfl, ho3, hb3⟩
      obtain ⟨A2, n2, cc2, rfl, hn2, hc2, hA2, HR2⟩ := (HO2.out.below hb3).slice
      have HO3 := Lib.hid ho3
      have HB3 := Lib.hid (HB2.out.trans (hb3.mono HB2.out.size))
      have HD3 := Lib.hid ((hb3.block w.heap.size (Array.getElem?_eq_some_iff.1 HD2.out).1).trans HD2.out)
      have HS3 : Hid (w2.heap.size ≤ w3.heap.size) := Lib.hid hb3.size
      have HEL : Hid (n2 ≤ 20000) := Lib.hid (by rw [← hn2.out]; have := encI_length zs; rw [HM.out] at this; omega)
      have HL3 : Hid (l.length + n2 ≤ 1099511627776) := Lib.hid (by have := h.out.len; have := HEL.out; omega)
      clear ho3 hb3
      go_wp2_with (at_builtin; refine wpList_append_bytes rfl (.tmp 34) (.tmp 35) rfl w2.heap.size _ l (encI zs) rfl HO3 A2 n2 cc2 rfl hn2 hA2.out HR2 HL3.out HS3.out ?_; intro v4 w4 HO4 HB4)
      obtain ⟨A6, n6, c6, rfl, hn6, hc6, hA6, HR6⟩ := HO4.out.slice
      have HB5 := Lib.hid (HB3.out.trans (HB4.out.mono HB2.out.size))
      have HD4 := Lib.hid ((HB4.out.block w.heap.size (Nat.lt_of_lt_of_le (Array.getElem?_eq_some_iff.1 HD2.out).1 (Nat.le_refl _))).trans HD3.out)
      refine (tagged_any tag A6 n6 c6 (l ++ encI zs) _ htag hn6 hc6 hA6.out (by rw [← hn6.out, List.length_append, h.out.len, hn2.out]; have := HEL.out; omega) (Lib.hid (fun x hx => by
        rcases List.mem_append.1 hx with h' | h'
        · exact h.out.bytes x h'
        · exact encI_bytes zs x h')) (Lib.hid (hT.out.below HB5.out)) HR6).mono ?_
      rintro e w5 ⟨rfl, hb5⟩
      have HB6 := Lib.hid (HB5.out.trans (hb5.mono HB5.out.size))
      have HD5 := Lib.hid ((hb5.block w.heap.size (Array.getElem?_eq_some_iff.1 HD4.out).1).trans HD4.out)
      have HE : Hid (dgV (tagged (strL tag) (l ++ encI zs)) = dgV (hashT (strL tag) l zs)) := Lib.hid rfl
      have HLH : Hid ((hashT (strL tag) l zs).length = 32) := Lib.hid (tagged_length _ _)
      rw [HE.out]
      obtain ⟨X, HX⟩ : ∃ X, Hid (((hashT (strL tag) l zs).map fun x => Value.int .u8 (x : Nat)).toArray = X) := ⟨_, Lib.hid rfl⟩
      have HEX : Hid (dgV (hashT (strL tag) l zs) = .agg X) := Lib.hid (by unfold dgV; rw [HX.out])
      have hXs : Hid (32 = X.size) := Lib.hid (by rw [← HX.out]; simp [HLH.out])
      have hsz : Hid ((Tryd.prog.info? 24).map (·.size) = some X.size) := Lib.hid (by rw [← HX.out]; exact size32 _ HLH.out)
      have hone : Hid (X.all (·.oneCell') = true) := Lib.hid (by rw [← HX.out]; exact oneCells _)
      rw [HEX.out]
      clear hb5
      go_wp2_with (refine wpList_store_row rfl 24 (.tmp 6) (.tmp 37) rfl w.heap.size X rfl rfl 24 _ HD5.out hsz.out hXs.out hone.out ?_)
      refine bodyPost_ret (results_cell_row rfl _ _ w.heap.size 24 _ (0, 0) _ rfl (setRow_heap w5 w.heap.size _ _ _ _ HD5.out) Tryd.underlying24 rfl hsz.out) rfl ?_
      exact ⟨by rw [HEX.out], below_setRow HB6.out (Nat.le_refl _) _⟩
end Go.Proofs.YtgcmbiegbclhmaaDoor
