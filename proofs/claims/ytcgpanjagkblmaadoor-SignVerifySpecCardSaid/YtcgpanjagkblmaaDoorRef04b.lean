/- The reference of layer 4: Sign, Verify, Private. -/
import Derived.Test.YtcgpanjagkblmaaDoorRef04
import Derived.Test.YtcgpanjagkblmaaDoorSane04
namespace Go.Proofs.YtcgpanjagkblmaaDoor
open Go.RowKit SzSha SzGrp SzPow SzRef
set_option linter.unusedVariables false
set_option maxHeartbeats 4000000 in
set_option maxRecDepth 100000 in
theorem rPrivate_any (l : List Nat) (label : ByteArray) (z : Int) (w : World) (hl : Hid (l.length = 32)) (hb : Hid (Bytes l)) (hlab : label.size ≤ 2147000000) :
    Calls Tryd.prog 18 #[dgV l, .string label, .int .i64 z] w fun e w' => e = .returned (.int .i64 (privV l z label)) ∧ Below w.heap.size w w' := by
  obtain ⟨X, HX⟩ : ∃ X, Hid ((l.map fun x => Value.int .u8 (x : Nat)).toArray = X) := ⟨_, Lib.hid rfl⟩
  have e0 : dgV l = .agg X := by unfold dgV; rw [HX.out]
  rw [e0]
  clear e0
  have hB0 : Below w.heap.size w (w.alloc (.cells X 35)) := (Below.refl _ w).alloc (Nat.le_refl _) _
  have hc0 : BytesAt (w.alloc (.cells X 35)) w.heap.size 0 l := bytesAt_arr (by rw [HX.out]; exact heap_alloc_new w _)
  have hO1 := OwnB.empty (w.alloc (.cells X 35)) w.heap.size (by simp)
  simp only [World.size_alloc] at hO1
  have HO1 := Lib.hid hO1
  have HB1 := Lib.hid (hB0.alloc hB0.size (.cells #[] 5))
  have HR1 : Hid (Rd ((w.alloc (.cells X 35)).alloc (.cells #[] 5)) ((w.alloc (.cells X 35)).alloc (.cells #[] 5)).heap.size (some ⟨w.heap.size, 0, none⟩) l) := Lib.hid (fun _ => ⟨_, _, rfl, by simp; omega, fun i hi => (World.cell?_of_block (Below.heap_alloc _ _ _ (by simp))).trans (hc0 i hi)⟩)
  have hlen1 : ([] : List Nat).length + 32 ≤ 1099511627776 := by simp
  clear hB0 hc0 hO1
  go_enter Tryd.func18, Tryd.ntmps18
  go_wp2_with (at_builtin; refine wpList_append_bytes rfl (.tmp 8) (.tmp 9) rfl w.heap.size _ [] l rfl HO1 (some ⟨w.heap.size, 0, none⟩) 32 32 rfl hl (fun h => by cases h) HR1 hlen1 HB1.out.size ?_; intro v1 W2 HO2 HB2)
  rw [List.nil_append] at HO2
  have HB3 := Lib.hid (HB1.out.trans HB2.out)
  clear HO1 HB1 HR1 HB2
  refine (rbytes_any z _).mono ?_
  rintro e W3 ⟨v2, rfl, ho2, hb2⟩
  obtain ⟨A2, n2, c2, rfl, hn2, hc2, hA2, HR2⟩ := ho2.slice
  have HO3 := Lib.hid (HO2.out.below hb2)
  have HB4 := Lib.hid (HB3.out.trans (hb2.mono HB3.out.size))
  have hn28 : n2 = 8 := by rw [← hn2.out, nb_length]
  have HL1 : Hid (l.length + n2 ≤ 1099511627776) := Lib.hid (by rw [hl.out]; omega)
  clear ho2 hb2 hn28 HO2 HB3
  have HL2 : Hid ((l ++ nb z).length + label.size ≤ 1099511627776) := Lib.hid (by rw [List.length_append, hl.out, nb_length]; omega)
  have HSL := Lib.hid (strL_length label)
  go_wp2_with (first
    | (at_builtin; refine wpList_append_bytes rfl (.tmp 11) (.tmp 13) rfl w.heap.size _ l (nb z) rfl HO3 A2 n2 c2 rfl hn2 hA2.out HR2 HL1.out HB4.out.size ?_; intro v3 W4 HO4 HB5; obtain ⟨c5, W5, hconv, hc5, hbc, hlt5, hby⟩ := conv_bytes label W4; have HO6 := Lib.hid (HO4.out.below hbc); have HB7 := Lib.hid ((HB4.out.trans HB5.out).trans (hbc.mono (HB4.out.trans HB5.out).size)); have HR5 : Hid (Rd W5 W5.heap.size (some ⟨W4.heap.size, 0, none⟩) (strL label)) := Lib.hid (fun _ => ⟨_, _, rfl, hlt5, hby⟩); clear hby hbc hlt5)
    | (at_builtin; refine wpList_append_bytes rfl (.tmp 15) (.tmp 17) rfl w.heap.size _ (l ++ nb z) (strL label) rfl HO6 (some ⟨W4.heap.size, 0, none⟩) label.size c5 rfl HSL (fun h => by cases h) HR5 HL2.out HB7.out.size ?_; intro v4 W6 HO7 HB8))
  obtain ⟨A6, n6, c6, rfl, hn6, hc6, hA6, HR6⟩ := HO7.out.slice
  refine (rscal_any privT A6 n6 c6 (l ++ nb z ++ strL label) _ (by decide) hn6 hc6 hA6.out (by rw [← hn6.out, List.length_append, List.length_append, hl.out, nb_length, strL_length]; omega) (Lib.hid (fun x hx => by
        rcases List.mem_append.1 hx with h' | h'
        · rcases List.mem_append.1 h' with h' | h'
          · exact hb.out x h'
          · exact nb_bytes z x h'
        · exact strL_bytes label x h')) HR6).mono ?_
  rintro e w3 ⟨rfl, hb3⟩
  have HB9 := Lib.hid ((HB7.out.trans HB8.out).trans (hb3.mono (HB7.out.trans HB8.out).size))
  have HE : Hid (((scalN (strL privT) (l ++ nb z ++ strL label) : Nat) : Int) = privV l z label) := Lib.hid rfl
  rw [HE.out]
  clear hb3 hconv
  go_wp2_with fail
  go_ret
  exact ⟨rfl, HB9.out⟩
theorem two1 (a b : Int) : (#[Value.int .i64 a, .int .i64 b] : Array Value).all (·.oneCell') = true := by simp [Value.oneCell']
set_option maxHeartbeats 4000000 in
set_option maxRecDepth 100000 in
theorem rSign_ok (x : Int) (A : Option Addr) (n c : Nat) (l : List Nat) (w : World) (hx : isKey x = true) (hn : n ≤ 2147000000) (h : Hid (In w A n c l)) :
    Calls Tryd.prog 16 #[.int .i64 x, .slice A n c] w fun e w' => e = .returned (.tuple #[.agg #[.int .i64 (sgR x l), .int .i64 (sgS x l)], .int .i64 0]) ∧ Below w.heap.size w w' := by
  have HKEY := Lib.hid hx
  have HKS := Lib.hid (isKey_sc hx)
  clear hx
  obtain ⟨y, HY⟩ : ∃ y, Hid (expV 4 x = y) := ⟨_, Lib.hid rfl⟩
  have HPUB : Hid (pubV x = y ∧ pubE x = 0) := Lib.hid (by rw [pubV, pubE, if_pos HKEY.out, if_pos HKEY.out]; exact ⟨HY.out, rfl⟩)
  obtain ⟨R, HR⟩ : ∃ R, Hid (sgR x l = R) := ⟨_, Lib.hid rfl⟩
  obtain ⟨S, HS⟩ : ∃ S, Hid (sgS x l = S) := ⟨_, Lib.hid rfl⟩
  obtain ⟨q, HQ⟩ : ∃ q, Hid (chal y R l = q) := ⟨_, Lib.hid rfl⟩
  obtain ⟨m, HM⟩ : ∃ m, Hid (prodV q x = m) := ⟨_, Lib.hid rfl⟩
  obtain ⟨K, HK⟩ : ∃ K, Hid (sgK x l = K) := ⟨_, Lib.hid rfl⟩
  have HBE : Hid (expV 4 K = R) := Lib.hid (by rw [← HK.out, ← HR.out]; rfl)
  have HSV : Hid (sumV K m = S) := Lib.hid (by rw [← HS.out, ← HM.out, ← HQ.out, ← HY.out, ← HR.out, ← HK.out]; rfl)
  have HN : Hid ((((scalN (strL nonceT) (nb x ++ l) : Nat) : Int)) = K) := Lib.hid (by rw [← HK.out]; unfold sgK; simp [nbs])
  have HB1 : Hid (Below w.heap.size w (w.alloc (.cells #[.int .i64 0, .int .i64 0] 30))) := Lib.hid ((Below.refl _ _).alloc (Nat.le_refl _) _)
  have HS1 : Hid ((w.alloc (.cells #[.int .i64 0, .int .i64 0] 30)).heap[w.heap.size]? = some (.cells #[.int .i64 0, .int .i64 0] 30 (0, 0))) := Lib.hid (heap_alloc_new w _)
  go_enter Tryd.func16, Tryd.ntmps16
  go_wp2_with fail
  refine (rPublic_any x _).mono ?_
  rintro e w1 ⟨rfl, rfl⟩
  rw [HPUB.out.1, HPUB.out.2]
  go_wp2_with fail
  refine (rbytes_any x _).mono ?_
  rintro e w2 ⟨v2, rfl, ho2, hb2⟩
  have HO2 := Lib.hid ho2
  have HS2 := Lib.hid ((hb2.block w.heap.size (by simp)).trans HS1.out)
  have HB2 := Lib.hid (HB1.out.trans (hb2.mono (by simp)))
  have hbs : w.heap.size + 1 ≤ w2.heap.size := by have := hb2.size; simpa using this
  have HBS := Lib.hid hbs
  have HLN := Lib.hid h.out.len
  have HNN := Lib.hid h.out.none_
  have HRD := Lib.hid (h.out.below HB2.out).rd
  have HL8 : (nb x).length + n ≤ 1099511627776 := by rw [nb_length]; omega
  simp only [World.size_alloc] at HO2
  clear ho2 hb2 hbs HS1 HB1
  go_wp2_with (at_builtin; refine wpList_append_bytes rfl (.tmp 25) (.tmp 26) rfl (w.heap.size + 1) _ (nb x) l rfl HO2 A n c rfl HLN HNN.out HRD HL8 HBS.out ?_; intro v3 w3 HO3 HB3)
  obtain ⟨A9, n9, c9, rfl, hn9, hc9, hA9, HR9⟩ := HO3.out.slice
  have HB4 := Lib.hid (HB2.out.trans (HB3.out.mono (Nat.le_succ _)))
  have HS4 := Lib.hid ((HB3.out.block w.heap.size (Nat.lt_succ_self _)).trans HS2.out)
  refine (rscal_any nonceT A9 n9 c9 (nb x ++ l) _ (by decide) hn9 hc9 hA9.out (by rw [← hn9.out, List.length_append, nb_length, HLN.out]; omega) (Lib.hid (fun z hz => by
        rcases List.mem_append.1 hz with h' | h'
        · exact nb_bytes _ z h'
        · exact h.out.bytes z h')) HR9).mono ?_
  rintro e w5 ⟨rfl, hq⟩
  rw [HN.out]
  have HB5 := Lib.hid (HB4.out.trans (hq.mono HB4.out.size))
  have HS5 := Lib.hid ((hq.block w.heap.size (Array.getElem?_eq_some_iff.1 HS4.out).1).trans HS4.out)
  clear hq HB4 HS4 HB3 HO3 HB2 HS2 HO2 HBS HRD HR9 HL8
  go_wp2_with fail
  refine (rbase4_any K _).mono ?_
  rintro e w6 ⟨rfl, rfl⟩
  rw [HBE.out]
  go_wp2_with fail
  refine (rchal_any y R A n c l _ hn (Lib.hid (h.out.below HB5.out))).mono ?_
  rintro e w7 ⟨rfl, hq⟩
  rw [HQ.out]
  have HB7 := Lib.hid (HB5.out.trans (hq.mono HB5.out.size))
  have HS7 := Lib.hid ((hq.block w.heap.size (Array.getElem?_eq_some_iff.1 HS5.out).1).trans HS5.out)
  clear hq HB5 HS5
  go_wp2_with fail
  refine (rProduct_any q x _).mono ?_
  rintro e w8 ⟨rfl, rfl⟩
  rw [HM.out]
  go_wp2_with fail
  refine (rSum_any K m _).mono ?_
  rintro e w8 ⟨rfl, rfl⟩
  rw [HSV.out]
  go_wp2_with (refine wpList_store_row rfl 30 (.tmp 4) (.tmp 51) rfl w.heap.size #[.int .i64 R, .int .i64 S] rfl rfl 30 _ HS7.out (by kernel_rfl) rfl (two1 _ _) ?_)
  have HS9 := Lib.hid (setRow_heap _ _ _ #[.int .i64 R, .int .i64 S] _ _ HS7.out)
  have HB9 := Lib.hid (below_setRow HB7.out (Nat.le_refl _) #[.int .i64 R, .int .i64 S])
  generalize World.setRow _ _ _ = w9 at *
  refine bodyPost_ret (v := .tuple #[.agg #[.int .i64 R, .int .i64 S], .int .i64 0]) ?_ rfl ⟨by rw [HR.out, HS.out], HB9.out⟩
  have d0 : w9.cell? ⟨w.heap.size, 0, none⟩ = some (.int .i64 R) := by rw [cell_of_row _ _ _ _ _ _ HS9.out]; rfl
  have d1 : w9.cell? ⟨w.heap.size, 1, none⟩ = some (.int .i64 S) := by rw [cell_of_row _ _ _ _ _ _ HS9.out]; rfl
  simp [results, Tryd.results16, go_sem, d0, d1]
set_option maxHeartbeats 4000000 in
set_option maxRecDepth 100000 in
theorem rSign_bad (x : Int) (v : Value) (w : World) (hx : isKey x = false) :
    Calls Tryd.prog 16 #[.int .i64 x, v] w fun e w' => e = .returned (.tuple #[.agg #[.int .i64 0, .int .i64 0], .int .i64 40]) ∧ Below w.heap.size w w' := by
  have HPUB : Hid (pubV x = 0 ∧ pubE x = 40) := Lib.hid (by rw [pubV, pubE, hx]; exact ⟨rfl, rfl⟩)
  clear hx
  have HB1 : Hid (Below w.heap.size w (w.alloc (.cells #[.int .i64 0, .int .i64 0] 30))) := Lib.hid ((Below.refl _ _).alloc (Nat.le_refl _) _)
  have HS1 : Hid ((w.alloc (.cells #[.int .i64 0, .int .i64 0] 30)).heap[w.heap.size]? = some (.cells #[.int .i64 0, .int .i64 0] 30 (0, 0))) := Lib.hid (heap_alloc_new w _)
  go_enter Tryd.func16, Tryd.ntmps16
  go_wp2_with fail
  refine (rPublic_any x _).mono ?_
  rintro e w1 ⟨rfl, rfl⟩
  rw [HPUB.out.1, HPUB.out.2]
  go_wp2_with (refine wpList_store_row rfl 30 (.tmp 4) (.tmp 22) rfl w.heap.size #[.int .i64 0, .int .i64 0] rfl rfl 30 _ HS1.out (by kernel_rfl) rfl (two1 _ _) ?_)
  have HS9 := Lib.hid (setRow_heap _ _ _ #[.int .i64 0, .int .i64 0] _ _ HS1.out)
  have HB9 := Lib.hid (below_setRow HB1.out (Nat.le_refl _) #[.int .i64 0, .int .i64 0])
  generalize World.setRow _ _ _ = w9 at *
  refine bodyPost_ret (v := .tuple #[.agg #[.int .i64 0, .int .i64 0], .int .i64 40]) ?_ rfl ⟨rfl, HB9.out⟩
  have d0 : w9.cell? ⟨w.heap.size, 0, none⟩ = some (.int .i64 0) := by rw [cell_of_row _ _ _ _ _ _ HS9.out]; rfl
  have d1 : w9.cell? ⟨w.heap.size, 1, none⟩ = some (.int .i64 0) := by rw [cell_of_row _ _ _ _ _ _ HS9.out]; rfl
  simp [results, Tryd.results16, go_sem, d0, d1]
end Go.Proofs.YtcgpanjagkblmaaDoor
