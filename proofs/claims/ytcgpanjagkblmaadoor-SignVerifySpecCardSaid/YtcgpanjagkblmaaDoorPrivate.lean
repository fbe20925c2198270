/- sizar/sign.Private. -/
import Derived.Test.YtcgpanjagkblmaaDoorSignSmall
import Derived.Test.YtcgpanjagkblmaaDoorRefPad
import Derived.Lib.AppendStr
namespace Go.Proofs.YtcgpanjagkblmaaDoor
open Go.RowKit SzSha SzGrp
set_option linter.unusedVariables false
def privT : ByteArray := ⟨#[112, 114, 105, 118, 97, 116, 101]⟩
/-- the private key of a seed, a number and a label -/
def privV (l : List Nat) (z : Int) (label : ByteArray) : Int := (scalN (strL privT) (l ++ nb z ++ strL label) : Nat)
theorem privV_bd (l : List Nat) (z : Int) (label : ByteArray) : 1 ≤ privV l z label ∧ privV l z label < 2305843009213688669 := by have := scalN_bd (strL privT) (l ++ nb z ++ strL label); unfold privV; omega
/-- append of a string's bytes to a slice that the call made -/
theorem wpList_append_str {w : World} {ops : Array Oper} {rest : List Oper} {o : Oper} {a : Act} {Q : Exit → Act → World → Prop} (hgd : o.guard = none) (s x : Operand)
    (ho : o.op = .call { callee := .builtin .append, args := #[s, x], argTypes := #[22, 9] })
    (base : Nat) (v : Value) (l : List Nat) (hs : a.eval s = v) (hown : Hid (OwnB w base v l)) (t : ByteArray) (hx : a.eval x = .string t)
    (hlen : l.length + t.size ≤ 1099511627776) (hbase : base ≤ w.heap.size)
    (h : ∀ v' w', Hid (OwnB w' base v' (l ++ strL t)) → Hid (Below base w w') → wpList Tryd.prog ops Q rest (a.put o.dst v') w') : wpList Tryd.prog ops Q (o :: rest) a w := by
  obtain ⟨i0, hi, hz0, hz1, hz2⟩ := info_parts info_u8
  refine Lib.wpList_append_own_string w hgd s x _ _ ho base _ i0 Tryd.underlying22 Tryd.underlying9 hi hz0 hz1 hz2 v _ _ hs hown.out t hx (by unfold maxLen; omega) (by omega) hbase ?_
  intro v' w' h1 h2 h3
  refine h v' w' (Lib.hid ?_) (Lib.hid ?_)
  · have e1 : (l ++ strL t).length = l.length + t.size := by rw [List.length_append, strL_length]
    have e2 : ((l ++ strL t).map fun x => Value.int .u8 (x : Nat)) = (l.map fun x => Value.int .u8 (x : Nat)) ++ Lib.strCells t := by
      rw [List.map_append]; congr 1
      unfold strL Lib.strCells
      rw [List.map_map]; rfl
    show w'.ownsRow base _ 1 v' (l ++ strL t).length _
    rw [e1, e2]; exact h1
  · exact (Below.refl base w).grown h2 hbase (fun k hk => (hown.out.block k hk).1)
set_option maxHeartbeats 4000000 in
set_option maxRecDepth 100000 in
theorem private_any (l : List Nat) (label : ByteArray) (z : Int) (w : World) (hl : Hid (l.length = 32)) (hb : Hid (Bytes l)) (hlab : label.size ≤ 2147000000) (hT : Hid (Tabs w)) :
    Calls Tryd.prog 17 #[dgV l, .string label, .int .i64 z] w fun e w' => e = .returned (.int .i64 (privV l z label)) ∧ Below w.heap.size w w' := by
  obtain ⟨X, HX⟩ : ∃ X, Hid ((l.map fun x => Value.int .u8 (x : Nat)).toArray = X) := ⟨_, Lib.hid rfl⟩
  have e0 : dgV l = .agg X := by unfold dgV; rw [HX.out]
  rw [e0]
  clear e0
  have hB0 : Below w.heap.size w (w.alloc (.cells X 35)) := (Below.refl _ w).alloc (Nat.le_refl _) _
  have hc0 : BytesAt (w.alloc (.cells X 35)) w.heap.size 0 l := bytesAt_arr (by rw [HX.out]; exact heap_alloc_new w _)
  have hO1 := OwnB.empty (w.alloc (.cells X 35)) w.heap.size (by simp)
  simp only [World.size_alloc] at hO1
  have HO1 := Lib.hid hO1
  have HB1 := Lib.hid (hB0.alloc hB0.size (.cells #[] 5))
  have HR1 : Hid (Rd ((w.alloc (.cells X 35)).alloc (.cells #[] 5)) ((w.alloc (.cells X 35)).alloc (.cells #[] 5)).heap.size (some ⟨w.heap.size, 0, none⟩) l) := Lib.hid (fun _ => ⟨_, _, rfl, by simp; omega, fun i hi => (World.cell?_of_block (Below.heap_alloc _ _ _ (by simp))).trans (hc0 i hi)⟩)
  have hlen1 : ([] : List Nat).length + 32 ≤ 1099511627776 := by simp
  clear hB0 hc0 hO1
  go_enter Tryd.func17, Tryd.ntmps17
  go_wp2_with (at_builtin; refine wpList_append_bytes rfl (.tmp 9) (.tmp 10) rfl w.heap.size _ [] l rfl HO1 (some ⟨w.heap.size, 0, none⟩) 32 32 rfl hl (fun h => by cases h) HR1 hlen1 HB1.out.size ?_; intro v1 W2 HO2 HB2)
  rw [List.nil_append] at HO2
  have HB3 := Lib.hid (HB1.out.trans HB2.out)
  clear HO1 HB1 HR1 HB2
  go_loopw [7, 8] (fun v i wr => ∃ j : Nat, j ≤ 8 ∧ i = .int .i64 (56 - 8 * (j : Int)) ∧ Hid (OwnB wr w.heap.size v (l ++ (nb z).take j)) ∧ Hid (Below w.heap.size w wr)) (fun _ i _ => (intOf i + 8).toNat)
  case atStart => exact ⟨0, by omega, rfl, Lib.hid (by rw [List.take_zero, List.append_nil]; exact HO2.out), HB3⟩
  case round =>
    clear HO2 HB3
    obtain ⟨j, hj, rfl, hO, hB⟩ := hrel
    by_cases hl8 : j < 8
    · obtain ⟨sh, hsh⟩ : ∃ sh : Nat, (56 : Int) - 8 * (j : Int) = (sh : Int) := ⟨56 - 8 * j, by omega⟩
      have HSH := Lib.hid hsh
      rw [hsh]
      have hs56 : sh ≤ 56 := by omega
      have hsn : sh = 56 - 8 * j := by omega
      have uw := u64_wrap z
      have ul := u64_lt z
      obtain ⟨u, HU⟩ : ∃ u, Hid (u64 z = u) := ⟨_, Lib.hid rfl⟩
      rw [HU.out] at uw ul
      obtain ⟨x, HX⟩ : ∃ x : Nat, Hid (u / 256 ^ (7 - j) % 256 = x) := ⟨_, Lib.hid rfl⟩
      have hx : (u : Int) / 2 ^ sh % 256 = (x : Int) := by rw [hsn, byte_of u j hl8, HX.out]
      have HSN := Lib.hid hsn
      have hlen : (l ++ (nb z).take j).length + 1 ≤ 1099511627776 := by rw [List.length_append, hl.out, List.length_take]; omega
      have HB1 := Lib.hid (hB.out.alloc hB.out.size (.cells #[.int .u8 (x : Nat)] 5))
      have HO1 : Hid (OwnB (wr.alloc (.cells #[.int .u8 (x : Nat)] 5)) w.heap.size _ (l ++ (nb z).take j)) := Lib.hid (hO.out.below ((Below.refl _ _).alloc (Nat.le_refl _) _))
      clear hsh hsn
      go_wp2_with (at_builtin; refine wpList_append_bytes rfl (.tmp 16) (.tmp 22) rfl w.heap.size _ _ [x] rfl HO1 (some ⟨wr.heap.size, 0, none⟩) 1 1 rfl (Lib.hid rfl) (fun h => by cases h) (Lib.hid (one_row wr x)) hlen HB1.out.size ?_; intro v2 w2 HO2 HB2)
      go_roundw
      case rel =>
        refine ⟨j + 1, by omega, by have := HSH.out; go_num, Lib.hid ?_, Lib.hid (HB1.out.trans HB2.out)⟩
        rw [nb_take z j hl8, HU.out, HX.out, ← List.append_assoc]; exact HO2.out
      case measure => have := HSH.out; simp [intOf]; omega
    · have hO8 : Hid (OwnB wr w.heap.size _ (l ++ nb z)) := Lib.hid (by
        have := hO.out
        rw [List.take_of_length_le (by rw [nb_length]; omega)] at this
        exact this)
      have hj8 : (56 : Int) - 8 * (j : Int) = -8 := by omega
      rw [hj8]
      have hlen : (l ++ nb z).length + label.size ≤ 1099511627776 := by rw [List.length_append, hl.out, nb_length]; omega
      go_wp2_with (at_builtin; refine wpList_append_str rfl (.tmp 24) (.tmp 25) rfl w.heap.size _ (l ++ nb z) rfl hO8 label rfl hlen hB.out.size ?_; intro v2 w2 HO2 HB2)
      obtain ⟨A6, n6, c6, rfl, hn6, hc6, hA6, HR6⟩ := HO2.out.slice
      refine (scalar_any privT A6 n6 c6 (l ++ nb z ++ strL label) _ (by decide) hn6 hc6 hA6.out (by rw [← hn6.out, List.length_append, List.length_append, hl.out, nb_length, strL_length]; omega) (Lib.hid (fun x hx => by
        rcases List.mem_append.1 hx with h' | h'
        · rcases List.mem_append.1 h' with h' | h'
          · exact hb.out x h'
          · exact nb_bytes z x h'
        · exact strL_bytes label x h')) (Lib.hid (hT.out.below (hB.out.trans HB2.out))) HR6).mono ?_
      rintro e w3 ⟨rfl, hb3⟩
      have HB3 := Lib.hid ((hB.out.trans HB2.out).trans (hb3.mono (hB.out.trans HB2.out).size))
      have HE : Hid (((scalN (strL privT) (l ++ nb z ++ strL label) : Nat) : Int) = privV l z label) := Lib.hid rfl
      rw [HE.out]
      clear hb3
      go_wp2_with fail
      go_ret
      exact ⟨rfl, HB3.out⟩
end Go.Proofs.YtcgpanjagkblmaaDoor
