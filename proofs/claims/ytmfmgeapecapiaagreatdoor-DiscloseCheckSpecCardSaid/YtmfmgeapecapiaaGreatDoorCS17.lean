/- sizarref42: ClaimInput, ClaimLeaf. sizarref02.Tree. sizarref02: path, Path. sizarref42: Digests, ClaimLeaves. sizarref02.Climb. sizarref42: Listed, Claimed. sizarref42: SameNodes, SameDigests of equal lists. -/
import Derived.Test.YtmfmgeapecapiaaGreatDoorCS15
import Derived.Test.YtmfmgeapecapiaaGreatDoorCS16
import Derived.Test.YtmfmgeapecapiaaGreatDoorCS8
import Derived.Test.YtmfmgeapecapiaaGreatDoorCS5
import Derived.Test.YtmfmgeapecapiaaGreatDoorCS6
import Derived.Test.YtmfmgeapecapiaaGreatDoorCS9
import Derived.Test.YtmfmgeapecapiaaGreatDoorCS10
import Derived.Test.YtmfmgeapecapiaaGreatDoorCS4
import Derived.Test.YtmfmgeapecapiaaGreatDoorCS2
import Derived.Test.YtmfmgeapecapiaaGreatDoorCS1
set_option maxHeartbeats 16000001
namespace Go.Proofs.YtmfmgeapecapiaaGreatDoor
open Go.RowKit SzSha SzTree
set_option linter.unusedVariables false
set_option maxRecDepth 100000
theorem rinp_y (x : Cl) (s : Dg) (w : World) (hm : Hid (x.m = true)) (hx : Hid (ClOk x)) (hs : Hid (DgOk s)) :
  Calls Tryz.prog 118 #[clV x, dgV s] w fun e w' => ∃ A n c, e = .returned (.slice A n c) ∧ In w' A n c (s ++ encI [x.p, x.r, 1]) ∧ Below w.heap.size w w' := by
 obtain ⟨zs, HZS⟩ : ∃ zs : List Int, Hid ([x.p, x.r, 1] = zs) := ⟨_, Lib.hid rfl⟩
 have HM : Hid (zs.length = 3) := Lib.hid (by rw [← HZS.out]; rfl)
 have HZ : Hid (∀ z ∈ zs, -9223372036854775808 ≤ z ∧ z ≤ 9223372036854775807) := Lib.hid (fun z hz => by
  have h0 := hx.out.b0; have h1 := hx.out.b1
  unfold I64 at h0 h1
  rw [← HZS.out] at hz
  simp only [List.mem_cons, List.not_mem_nil, or_false] at hz
  rcases hz with rfl | rfl | rfl <;> omega)
 have hb0 := ((Below.refl _ w).alloc (Nat.le_refl _) (.cells (clC x).toArray 56)).alloc (by simp) (.cells (dgC s).toArray 25)
 have hr0 := (Below.heap_alloc (w.alloc (.cells (clC x).toArray 56)) (.cells (dgC s).toArray 25) w.heap.size (by simp)).trans (heap_alloc_new w (.cells (clC x).toArray 56))
 have hr1 := heap_alloc_new (w.alloc (.cells (clC x).toArray 56)) (.cells (dgC s).toArray 25)
 rw [World.size_alloc] at hr1
 obtain ⟨W2, HW2⟩ : ∃ V, Hid ((w.alloc (.cells (clC x).toArray 56)).alloc (.cells (dgC s).toArray 25) = V) := ⟨_, Lib.hid rfl⟩
 rw [HW2.out] at hb0 hr0 hr1
 have k0 : W2.cell? ⟨w.heap.size, 0, none⟩ = some (.int .i64 x.p) := by rw [cell_of_row _ _ _ _ _ _ hr0]; rfl
 have k1 : W2.cell? ⟨w.heap.size, 1, none⟩ = some (.int .i64 x.r) := by rw [cell_of_row _ _ _ _ _ _ hr0]; rfl
 have k2 : W2.cell? ⟨w.heap.size, 2, none⟩ = some (.bool true) := by rw [cell_of_row _ _ _ _ _ _ hr0, ← hm.out]; rfl
 have hb2 := (Below.refl _ W2).alloc (Nat.le_refl _) (.cells #[.int .i64 x.p, .int .i64 x.r, .int .i64 1] 3)
 have hr2 := heap_alloc_new W2 (.cells #[.int .i64 x.p, .int .i64 x.r, .int .i64 1] 3)
 obtain ⟨W3, HW3⟩ : ∃ V, Hid (W2.alloc (.cells #[.int .i64 x.p, .int .i64 x.r, .int .i64 1] 3) = V) := ⟨_, Lib.hid rfl⟩
 rw [HW3.out] at hb2 hr2
 have HB3 := Lib.hid (hb0.trans (hb2.mono hb0.size))
 have RD3 := Lib.hid (row_kept hr1 hb2)
 have HZC : Hid (∀ i, i < 3 → W3.cell? ⟨W2.heap.size, i, none⟩ = some (.int .i64 (zs.getD i 0))) := Lib.hid (fun i hi => by
  rw [cell_of_row _ _ _ _ _ _ hr2, ← HZS.out]
  match i, hi with
  | 0, _ => rfl
  | 1, _ => rfl
  | 2, _ => rfl)
 have HGZ : Hid (W2.heap.size < W3.heap.size) := Lib.hid (Array.getElem?_eq_some_iff.1 hr2).1
 have HSD := Lib.hid (show s.length = 32 from hs.out.len)
 clear hb0 hr0 hr1 hb2 hr2
 rw [HZS.out, show clV x = .agg (clC x).toArray from rfl, dgV_agg s]
 go_enter Tryz.func118, Tryz.ntmps118
 go_wp2_with (first | (rw [HW2.out]) | (rw [HW3.out]))
 clear k0 k1 k2
 refine (rInts_any zs W2.heap.size 3 3 W3 HZ HM.out (by omega) HZC HGZ.out).mono ?_
 rintro e W4 ⟨A1, c1, rfl, hv, hq⟩
 have HV1 := Lib.hid hv
 have HB4 := Lib.hid (HB3.out.trans (hq.mono HB3.out.size))
 have RD4 := Lib.hid (row_kept RD3.out hq)
 clear hv hq
 go_wp2_with fail
 refine (rEncode_list zs A1 c1 _ HZ (by rw [HM.out]; omega) HV1).mono ?_
 rintro e W5 ⟨v5, rfl, ho5, hq5⟩
 obtain ⟨A2, n2, c2, rfl, hn2, hc2, hA2, HR2⟩ := ho5.slice
 have HB5 := Lib.hid (HB4.out.trans (hq5.mono HB4.out.size))
 have RD5 := Lib.hid (row_kept RD4.out hq5)
 have HEL : Hid (n2 ≤ 20000) := Lib.hid (by rw [← hn2.out]; have := encI_length zs; rw [HM.out] at this; omega)
 clear hq5 ho5
 have HOE := Lib.hid (ownB_mt2 W5 W5.heap.size (Nat.le_refl _))
 have hbe := (Below.refl _ W5).alloc (Nat.le_refl _) (.cells #[] 5)
 obtain ⟨W6, HW6⟩ : ∃ V, Hid (W5.alloc (.cells #[] 5) = V) := ⟨_, Lib.hid rfl⟩
 rw [HW6.out] at HOE hbe
 have HSW : Hid (w.heap.size ≤ W5.heap.size) := Lib.hid HB5.out.size
 have HBE := Lib.hid hbe
 have HS6 := Lib.hid hbe.size
 have RD6 := Lib.hid (row_kept RD5.out hbe)
 have HRD : Hid (Rd W6 W6.heap.size (some ⟨w.heap.size + 1, 0, none⟩) s) := Lib.hid (rd_row RD6.out)
 have HL0 : Hid (([] : List Nat).length + 32 ≤ 1099511627776) := Lib.hid (by simp)
 clear hbe
 go_wp2_with (first | (rw [HW6.out]) | (refine wpList_append_bytes rfl (.tmp 21) (.tmp 22) rfl W5.heap.size _ [] s rfl HOE (some ⟨w.heap.size + 1, 0, none⟩) 32 32 rfl HSD (fun h => by cases h) HRD HL0.out HS6.out ?_))
 intro v7 W7 HO7 HB7
 have hb7 := HBE.out.trans HB7.out
 have HR7 := Lib.hid ((HR2.out.below hb7 (Nat.le_refl _)).mono hb7.size)
 have HS7 := Lib.hid hb7.size
 have HBX := Lib.hid (HB5.out.trans (hb7.mono HSW.out))
 have HL7 : Hid (([] ++ s : List Nat).length + n2 ≤ 1099511627776) := Lib.hid (by rw [List.nil_append, HSD.out]; have := HEL.out; omega)
 clear hb7
 go_wp2_with (refine wpList_append_bytes rfl (.tmp 23) (.tmp 24) rfl W5.heap.size v7 ([] ++ s) (encI zs) rfl HO7 A2 n2 c2 rfl hn2 hA2.out HR7 HL7.out HS7.out ?_)
 intro v8 W8 HO8 HB8
 obtain ⟨A6, n6, c6, rfl, hn6, hc6, hA6, HR6⟩ := HO8.out.slice
 have HBY := Lib.hid (HBX.out.trans (HB8.out.mono HSW.out))
 go_wp2_with fail
 go_ret
 exact ⟨_, _, _, rfl, ⟨hn6.out, hc6, hA6.out, bytes_app2 hs.out.bytes (encI_bytes zs), HR6.out⟩, HBY.out⟩
theorem rinp_n (x : Cl) (s : Dg) (w : World) (hm : Hid (x.m = false)) (hx : Hid (ClOk x)) (hs : Hid (DgOk s)) :
  Calls Tryz.prog 118 #[clV x, dgV s] w fun e w' => ∃ A n c, e = .returned (.slice A n c) ∧ In w' A n c (s ++ encI [x.p, x.r, 0]) ∧ Below w.heap.size w w' := by
 obtain ⟨zs, HZS⟩ : ∃ zs : List Int, Hid ([x.p, x.r, 0] = zs) := ⟨_, Lib.hid rfl⟩
 have HM : Hid (zs.length = 3) := Lib.hid (by rw [← HZS.out]; rfl)
 have HZ : Hid (∀ z ∈ zs, -9223372036854775808 ≤ z ∧ z ≤ 9223372036854775807) := Lib.hid (fun z hz => by
  have h0 := hx.out.b0; have h1 := hx.out.b1
  unfold I64 at h0 h1
  rw [← HZS.out] at hz
  simp only [List.mem_cons, List.not_mem_nil, or_false] at hz
  rcases hz with rfl | rfl | rfl <;> omega)
 have hb0 := ((Below.refl _ w).alloc (Nat.le_refl _) (.cells (clC x).toArray 56)).alloc (by simp) (.cells (dgC s).toArray 25)
 have hr0 := (Below.heap_alloc (w.alloc (.cells (clC x).toArray 56)) (.cells (dgC s).toArray 25) w.heap.size (by simp)).trans (heap_alloc_new w (.cells (clC x).toArray 56))
 have hr1 := heap_alloc_new (w.alloc (.cells (clC x).toArray 56)) (.cells (dgC s).toArray 25)
 rw [World.size_alloc] at hr1
 obtain ⟨W2, HW2⟩ : ∃ V, Hid ((w.alloc (.cells (clC x).toArray 56)).alloc (.cells (dgC s).toArray 25) = V) := ⟨_, Lib.hid rfl⟩
 rw [HW2.out] at hb0 hr0 hr1
 have k0 : W2.cell? ⟨w.heap.size, 0, none⟩ = some (.int .i64 x.p) := by rw [cell_of_row _ _ _ _ _ _ hr0]; rfl
 have k1 : W2.cell? ⟨w.heap.size, 1, none⟩ = some (.int .i64 x.r) := by rw [cell_of_row _ _ _ _ _ _ hr0]; rfl
 have k2 : W2.cell? ⟨w.heap.size, 2, none⟩ = some (.bool false) := by rw [cell_of_row _ _ _ _ _ _ hr0, ← hm.out]; rfl
 have hb2 := (Below.refl _ W2).alloc (Nat.le_refl _) (.cells #[.int .i64 x.p, .int .i64 x.r, .int .i64 0] 3)
 have hr2 := heap_alloc_new W2 (.cells #[.int .i64 x.p, .int .i64 x.r, .int .i64 0] 3)
 obtain ⟨W3, HW3⟩ : ∃ V, Hid (W2.alloc (.cells #[.int .i64 x.p, .int .i64 x.r, .int .i64 0] 3) = V) := ⟨_, Lib.hid rfl⟩
 rw [HW3.out] at hb2 hr2
 have HB3 := Lib.hid (hb0.trans (hb2.mono hb0.size))
 have RD3 := Lib.hid (row_kept hr1 hb2)
 have HZC : Hid (∀ i, i < 3 → W3.cell? ⟨W2.heap.size, i, none⟩ = some (.int .i64 (zs.getD i 0))) := Lib.hid (fun i hi => by
  rw [cell_of_row _ _ _ _ _ _ hr2, ← HZS.out]
  match i, hi with
  | 0, _ => rfl
  | 1, _ => rfl
  | 2, _ => rfl)
 have HGZ : Hid (W2.heap.size < W3.heap.size) := Lib.hid (Array.getElem?_eq_some_iff.1 hr2).1
 have HSD := Lib.hid (show s.length = 32 from hs.out.len)
 clear hb0 hr0 hr1 hb2 hr2
 rw [HZS.out, show clV x = .agg (clC x).toArray from rfl, dgV_agg s]
 go_enter Tryz.func118, Tryz.ntmps118
 go_wp2_with (first | (rw [HW2.out]) | (rw [HW3.out]))
 clear k0 k1 k2
 refine (rInts_any zs W2.heap.size 3 3 W3 HZ HM.out (by omega) HZC HGZ.out).mono ?_
 rintro e W4 ⟨A1, c1, rfl, hv, hq⟩
 have HV1 := Lib.hid hv
 have HB4 := Lib.hid (HB3.out.trans (hq.mono HB3.out.size))
 have RD4 := Lib.hid (row_kept RD3.out hq)
 clear hv hq
 go_wp2_with fail
 refine (rEncode_list zs A1 c1 _ HZ (by rw [HM.out]; omega) HV1).mono ?_
 rintro e W5 ⟨v5, rfl, ho5, hq5⟩
 obtain ⟨A2, n2, c2, rfl, hn2, hc2, hA2, HR2⟩ := ho5.slice
 have HB5 := Lib.hid (HB4.out.trans (hq5.mono HB4.out.size))
 have RD5 := Lib.hid (row_kept RD4.out hq5)
 have HEL : Hid (n2 ≤ 20000) := Lib.hid (by rw [← hn2.out]; have := encI_length zs; rw [HM.out] at this; omega)
 clear hq5 ho5
 have HOE := Lib.hid (ownB_mt2 W5 W5.heap.size (Nat.le_refl _))
 have hbe := (Below.refl _ W5).alloc (Nat.le_refl _) (.cells #[] 5)
 obtain ⟨W6, HW6⟩ : ∃ V, Hid (W5.alloc (.cells #[] 5) = V) := ⟨_, Lib.hid rfl⟩
 rw [HW6.out] at HOE hbe
 have HSW : Hid (w.heap.size ≤ W5.heap.size) := Lib.hid HB5.out.size
 have HBE := Lib.hid hbe
 have HS6 := Lib.hid hbe.size
 have RD6 := Lib.hid (row_kept RD5.out hbe)
 have HRD : Hid (Rd W6 W6.heap.size (some ⟨w.heap.size + 1, 0, none⟩) s) := Lib.hid (rd_row RD6.out)
 have HL0 : Hid (([] : List Nat).length + 32 ≤ 1099511627776) := Lib.hid (by simp)
 clear hbe
 go_wp2_with (first | (rw [HW6.out]) | (refine wpList_append_bytes rfl (.tmp 21) (.tmp 22) rfl W5.heap.size _ [] s rfl HOE (some ⟨w.heap.size + 1, 0, none⟩) 32 32 rfl HSD (fun h => by cases h) HRD HL0.out HS6.out ?_))
 intro v7 W7 HO7 HB7
 have hb7 := HBE.out.trans HB7.out
 have HR7 := Lib.hid ((HR2.out.below hb7 (Nat.le_refl _)).mono hb7.size)
 have HS7 := Lib.hid hb7.size
 have HBX := Lib.hid (HB5.out.trans (hb7.mono HSW.out))
 have HL7 : Hid (([] ++ s : List Nat).length + n2 ≤ 1099511627776) := Lib.hid (by rw [List.nil_append, HSD.out]; have := HEL.out; omega)
 clear hb7
 go_wp2_with (refine wpList_append_bytes rfl (.tmp 23) (.tmp 24) rfl W5.heap.size v7 ([] ++ s) (encI zs) rfl HO7 A2 n2 c2 rfl hn2 hA2.out HR7 HL7.out HS7.out ?_)
 intro v8 W8 HO8 HB8
 obtain ⟨A6, n6, c6, rfl, hn6, hc6, hA6, HR6⟩ := HO8.out.slice
 have HBY := Lib.hid (HBX.out.trans (HB8.out.mono HSW.out))
 go_wp2_with fail
 go_ret
 exact ⟨_, _, _, rfl, ⟨hn6.out, hc6, hA6.out, bytes_app2 hs.out.bytes (encI_bytes zs), HR6.out⟩, HBY.out⟩
theorem rinp_any (x : Cl) (s : Dg) (w : World) (hx : Hid (ClOk x)) (hs : Hid (DgOk s)) :
  Calls Tryz.prog 118 #[clV x, dgV s] w fun e w' => ∃ A n c, e = .returned (.slice A n c) ∧ In w' A n c (s ++ encI [x.p, x.r, if x.m then 1 else 0]) ∧ Below w.heap.size w w' := by
 cases h : x.m with
 | true => exact rinp_y x s w (Lib.hid h) hx hs
 | false => exact rinp_n x s w (Lib.hid h) hx hs
theorem rleafK_any (x : Cl) (s : Dg) (w : World) (hx : Hid (ClOk x)) (hs : Hid (DgOk s)) :
  Calls Tryz.prog 68 #[clV x, dgV s] w fun e w' => e = .returned (dgV (lfK x s)) ∧ Below w.heap.size w w' := by
 obtain ⟨t1, t2, t3, t4⟩ := three_rows3 w (clC x).toArray (dgC s).toArray #[.int .u8 0, .int .u8 0, .int .u8 0, .int .u8 0, .int .u8 0, .int .u8 0, .int .u8 0, .int .u8 0, .int .u8 0, .int .u8 0, .int .u8 0, .int .u8 0, .int .u8 0, .int .u8 0, .int .u8 0, .int .u8 0, .int .u8 0, .int .u8 0, .int .u8 0, .int .u8 0, .int .u8 0, .int .u8 0, .int .u8 0, .int .u8 0, .int .u8 0, .int .u8 0, .int .u8 0, .int .u8 0, .int .u8 0, .int .u8 0, .int .u8 0, .int .u8 0] 56 25 25
 have HB0 := Lib.hid t1
 have HRA := Lib.hid t2
 have HRB := Lib.hid t3
 have HR0 := Lib.hid t4
 clear t1 t2 t3 t4
 obtain ⟨zs, HZS⟩ : ∃ zs : List Int, Hid ([x.p, x.r, if x.m then 1 else 0] = zs) := ⟨_, Lib.hid rfl⟩
 have HM : Hid (zs.length = 3) := Lib.hid (by rw [← HZS.out]; rfl)
 obtain ⟨r, HR⟩ : ∃ r, Hid (lfK x s = r) := ⟨_, Lib.hid rfl⟩
 have HRT : Hid (dgV (tagged (strL claimT) (s ++ encI zs)) = dgV r) := Lib.hid (by rw [← HR.out, ← HZS.out]; rfl)
 have HRO : Hid (DgOk r) := Lib.hid (by rw [← HR.out]; exact lfK_ok x s)
 have HS0 := Lib.hid (dgC_info hs.out)
 have HSX := Lib.hid (clC_infoS x)
 have HS1 := Lib.hid (dgC_info HRO.out)
 have HS2 := Lib.hid (dgC_size HRO.out)
 rw [HR.out, dgV_agg s, show clV x = .agg (clC x).toArray from rfl]
 go_enter Tryz.func68, Tryz.ntmps68
 go_wp2_with (first | (refine wpList_load_row rfl 56 (.tmp 2) rfl w.heap.size rfl 56 _ (0, 0) _ HRA.out Tryz.underlying56 rfl HSX.out ?_) | (refine wpList_load_row rfl 25 (.tmp 3) rfl (w.heap.size + 1) rfl 25 _ (0, 0) _ HRB.out Tryz.underlying25 rfl HS0.out ?_))
 generalize ((w.alloc (.cells (clC x).toArray 56)).alloc (.cells (dgC s).toArray 25)).alloc (.cells #[.int .u8 0, .int .u8 0, .int .u8 0, .int .u8 0, .int .u8 0, .int .u8 0, .int .u8 0, .int .u8 0, .int .u8 0, .int .u8 0, .int .u8 0, .int .u8 0, .int .u8 0, .int .u8 0, .int .u8 0, .int .u8 0, .int .u8 0, .int .u8 0, .int .u8 0, .int .u8 0, .int .u8 0, .int .u8 0, .int .u8 0, .int .u8 0, .int .u8 0, .int .u8 0, .int .u8 0, .int .u8 0, .int .u8 0, .int .u8 0, .int .u8 0, .int .u8 0] 25) = W1 at *
 rw [← dgV_agg s, show Value.agg (clC x).toArray = clV x from rfl]
 refine (rinp_any x s W1 hx hs).mono ?_
 rintro e W2 ⟨A2, n2, c2, rfl, hin, hq⟩
 rw [HZS.out] at hin
 have HIN := Lib.hid hin
 have HB2 := Lib.hid (HB0.out.trans (hq.mono HB0.out.size))
 have HR2 := Lib.hid (row_kept HR0.out hq)
 have HN2 : Hid (n2 ≤ 20000) := Lib.hid (by rw [← hin.len, List.length_append, hs.out.len]; have := encI_length zs; rw [HM.out] at this; omega)
 clear hin hq
 go_wp2_with fail
 refine (rtagged_any claimT A2 n2 c2 (s ++ encI zs) W2 (by decide) (Lib.hid HIN.out.len) HIN.out.cap HIN.out.none_ (by have := HN2.out; omega) (Lib.hid HIN.out.bytes) (Lib.hid HIN.out.rd)).mono ?_
 rintro e W3 ⟨rfl, hq⟩
 have HB3 := Lib.hid (HB2.out.trans (hq.mono HB2.out.size))
 have HR3 := Lib.hid (row_kept HR2.out hq)
 clear hq
 rw [HRT.out, dgV_agg r]
 go_wp2_with (refine wpList_store_row rfl 25 (.tmp 4) (.tmp 8) rfl (w.heap.size + 1 + 1) (dgC r).toArray rfl rfl 25 _ HR3.out HS1.out HS2.out (dgC_one _) ?_)
 refine bodyPost_ret (results_cell_row rfl _ _ (w.heap.size + 1 + 1) 25 _ (0, 0) _ rfl (setRow_heap W3 (w.heap.size + 1 + 1) _ _ _ _ HR3.out) Tryz.underlying25 rfl HS1.out) rfl ?_
 exact ⟨rfl, below_setRow HB3.out (by omega) _⟩
def wRt (W0 : World) (br : Nat) (g : Nat) (off : Nat) (n : Nat) (c : Nat) (k : Nat) (a : List Nat) (b : List Nat) (r : List Nat) : Nat → Value → World → Prop
 | 0, fv, _ => fv = .slice (some ⟨g, off, none⟩) n c
 | 1, fv, _ => fv = .int .i64 ((k : Nat))
 | 2, fv, _ => fv = .slice (some ⟨g, off, none⟩) k c
 | 3, fv, _ => fv = dgV a
 | 4, fv, _ => fv = .slice (some ⟨g, off, none⟩) n c
 | 5, fv, _ => fv = .int .i64 ((k : Nat))
 | 6, fv, _ => fv = .slice (some ⟨g, off + k * 32, none⟩) (n - k) (c - k)
 | 7, fv, _ => fv = dgV b
 | 8, fv, _ => fv = dgV r
 | 9, fv, fw => fw.heap[br]? = some (.cells (dgC r).toArray 25 (0, 0)) ∧ Below W0.heap.size W0 fw
 | _, _, _ => True
theorem wRt_below {W0 : World} {br : Nat} {g : Nat} {off : Nat} {n : Nat} {c : Nat} {k : Nat} {a : List Nat} {b : List Nat} {r : List Nat} {w w' : World} (hb : Below w.heap.size w w') : ∀ j v, wRt W0 br g off n c k a b r j v w → wRt W0 br g off n c k a b r j v w'
 | 0, v, h => h
 | 1, v, h => h
 | 2, v, h => h
 | 3, v, h => h
 | 4, v, h => h
 | 5, v, h => h
 | 6, v, h => h
 | 7, v, h => h
 | 8, v, h => h
 | 9, v, h => ⟨row_kept h.1 hb, h.2.trans (hb.mono h.2.size)⟩
 | n + 10, v, h => trivial
theorem wRt_pure {W0 : World} {br : Nat} {g : Nat} {off : Nat} {n : Nat} {c : Nat} {k : Nat} {a : List Nat} {b : List Nat} {r : List Nat} {w w' : World} : ∀ j v, j ≠ 9 → wRt W0 br g off n c k a b r j v w → wRt W0 br g off n c k a b r j v w'
 | 0, v, _, h => h
 | 1, v, _, h => h
 | 2, v, _, h => h
 | 3, v, _, h => h
 | 4, v, _, h => h
 | 5, v, _, h => h
 | 6, v, _, h => h
 | 7, v, _, h => h
 | 8, v, _, h => h
 | 9, v, hh, _ => absurd rfl hh
 | n + 10, v, _, h => trivial
theorem rtree_nil (A : Option Addr) (c : Nat) (w : World) :
  Calls Tryz.prog 47 #[.slice A 0 c] w fun e w' => e = .returned (dgV (treeD [])) ∧ Below w.heap.size w w' := by
 have HB0 := Lib.hid ((Below.refl _ w).alloc (Nat.le_refl _) (.cells (dgC zeroD).toArray 25))
 have HR0 := Lib.hid (heap_alloc_new w (.cells (dgC zeroD).toArray 25))
 rw [zeroD_cells] at HB0 HR0
 have HS1 := Lib.hid (dgC_info (treeD_okD []))
 have HS2 := Lib.hid (dgC_size (treeD_okD []))
 rw [treeD_nil] at HS1 HS2 ⊢
 go_enter Tryz.func47, Tryz.ntmps47
 go_wp2_with fail
 generalize w.alloc (.cells #[.int .u8 0, .int .u8 0, .int .u8 0, .int .u8 0, .int .u8 0, .int .u8 0, .int .u8 0, .int .u8 0, .int .u8 0, .int .u8 0, .int .u8 0, .int .u8 0, .int .u8 0, .int .u8 0, .int .u8 0, .int .u8 0, .int .u8 0, .int .u8 0, .int .u8 0, .int .u8 0, .int .u8 0, .int .u8 0, .int .u8 0, .int .u8 0, .int .u8 0, .int .u8 0, .int .u8 0, .int .u8 0, .int .u8 0, .int .u8 0, .int .u8 0, .int .u8 0] 25) = W1 at *
 refine (rtagged_any emptyTag none 0 0 [] W1 (by decide) (Lib.hid rfl) (Nat.le_refl _) (fun _ => rfl) (by omega) (Lib.hid (fun x hx => by cases hx)) (Lib.hid (fun h => by simp at h))).mono ?_
 rintro e w2 ⟨rfl, hq⟩
 rw [emptyTag_d]
 have HB2 := Lib.hid (HB0.out.trans (hq.mono HB0.out.size))
 have HR2 := Lib.hid (row_kept HR0.out hq)
 clear hq
 rw [dgV_agg]
 go_wp2_with (refine wpList_store_row rfl 25 (.tmp 2) (.tmp 7) rfl w.heap.size (dgC emptyD).toArray rfl rfl 25 _ HR2.out HS1.out HS2.out (dgC_one _) ?_)
 refine bodyPost_ret (results_cell_row rfl _ _ w.heap.size 25 _ (0, 0) _ rfl (setRow_heap w2 w.heap.size _ _ _ _ HR2.out) Tryz.underlying25 rfl HS1.out) rfl ?_
 exact ⟨rfl, below_setRow HB2.out (Nat.le_refl _) _⟩
theorem rtree_any : ∀ (m : Nat) (ls : List Dg) (A : Option Addr) (n c : Nat) (w : World), n ≤ m → n ≤ 1099511627776 → Hid (InD w A n c ls) →
  Calls Tryz.prog 47 #[.slice A n c] w fun e w' => e = .returned (dgV (treeD ls)) ∧ Below w.heap.size w w' := by
 intro m
 induction m with
 | zero =>
  intro ls A n c w h1 h2 h
  have h0 : n = 0 := by omega
  have hl : ls = [] := List.eq_nil_of_length_eq_zero (by rw [h.out.len]; exact h0)
  subst hl
  subst h0
  exact rtree_nil A c w
 | succ m ih =>
  intro ls A n c w hm hn h
  have HNE := Lib.hid (show ls.length = n from h.out.len)
  by_cases hz : n = 0
  ·have hl : ls = [] := List.eq_nil_of_length_eq_zero (by rw [HNE.out]; exact hz)
   subst hl
   subst hz
   exact rtree_nil A c w
  obtain ⟨g, off, rfl, hg, hr⟩ := h.out.rd (by rw [h.out.len]; omega)
  have hcap := h.out.cap
  clear hr
  have HB0 := Lib.hid ((Below.refl _ w).alloc (Nat.le_refl _) (.cells (dgC zeroD).toArray 25))
  have HR0 := Lib.hid (heap_alloc_new w (.cells (dgC zeroD).toArray 25))
  have HIN := Lib.hid (h.out.below HB0.out)
  rw [zeroD_cells] at HB0 HR0 HIN
  have d0 : ((n : Int) == 0) = false := beq_false_of_ne (by omega)
  have d00 : decide ((n : Int) = 0) = false := decide_eq_false (by omega)
  by_cases h2 : 2 ≤ n
  ·have d1 : decide ((n : Int) = 1) = false := decide_eq_false (by omega)
   have d11 : ((n : Int) == 1) = false := beq_false_of_ne (by omega)
   go_enter Tryz.func47, Tryz.ntmps47
   go_wp2_with fail
   generalize w.alloc (.cells #[.int .u8 0, .int .u8 0, .int .u8 0, .int .u8 0, .int .u8 0, .int .u8 0, .int .u8 0, .int .u8 0, .int .u8 0, .int .u8 0, .int .u8 0, .int .u8 0, .int .u8 0, .int .u8 0, .int .u8 0, .int .u8 0, .int .u8 0, .int .u8 0, .int .u8 0, .int .u8 0, .int .u8 0, .int .u8 0, .int .u8 0, .int .u8 0, .int .u8 0, .int .u8 0, .int .u8 0, .int .u8 0, .int .u8 0, .int .u8 0, .int .u8 0, .int .u8 0] 25) = W1 at *
   refine (half02_any n _ (by omega)).mono ?_
   rintro e w2 ⟨rfl, hw1⟩
   subst hw1
   obtain ⟨k, HK⟩ : ∃ k, Hid (half n = k) := ⟨_, Lib.hid rfl⟩
   have hkb := half_bd h2
   rw [HK.out] at hkb
   rw [HK.out]
   have HT2 := Lib.hid (HIN.out.take k (by omega))
   have HT3 := Lib.hid (HIN.out.drop k (by omega))
   have HRT : Hid (nodeD (treeD (ls.take k)) (treeD (ls.drop k)) = treeD ls) := Lib.hid (by rw [treeD_two (l := ls) (by rw [HNE.out]; exact h2), HNE.out, HK.out])
   have HOA := Lib.hid (treeD_okD (ls.take k))
   have HOB := Lib.hid (treeD_okD (ls.drop k))
   have HRO := Lib.hid (treeD_okD ls)
   obtain ⟨a, HA⟩ : ∃ a, Hid (treeD (ls.take k) = a) := ⟨_, Lib.hid rfl⟩
   obtain ⟨b, HB⟩ : ∃ b, Hid (treeD (ls.drop k) = b) := ⟨_, Lib.hid rfl⟩
   obtain ⟨r, HR⟩ : ∃ r, Hid (treeD ls = r) := ⟨_, Lib.hid rfl⟩
   rw [HA.out, HB.out, HR.out] at HRT
   rw [HA.out] at HOA
   rw [HB.out] at HOB
   rw [HR.out] at HRO
   have HS1 := Lib.hid (dgC_info HRO.out)
   have HS2 := Lib.hid (dgC_size HRO.out)
   go_wp2_with fail
   refine region_flow3 (by kernel_rfl) (by kernel_rfl) (fun i => Nat.beq i 9) (fun i => i) (by kernel_rfl) (fun fx => #[.slice (some { block := g, off := off }) n c, undef, .pointer (some { block := w.heap.size, off := 0 }), .int IntKind.i64 ↑k, .slice (some { block := g, off := off }) n c, .int IntKind.i64 ↑n, .bool false, undef, .slice (some { block := g, off := off }) n c, .int IntKind.i64 ↑n, .bool false, undef, undef, undef, undef, .slice (some { block := g, off := off }) n c, .int IntKind.i64 ↑n, .int IntKind.i64 ↑k, fx 0, fx 1, fx 2, fx 3, fx 4, fx 5, fx 6, fx 7, fx 8]) (fun _ => undef) (fun L fx w' => (L 9 = false → Below W1.heap.size W1 w')) (fun fi fv _ fw => wRt w w.heap.size g off n c k a b r fi fv fw) (fun _ => (Below.refl _ _).drew) ?_ ?_
   ·refine ⟨?_, ?_, ?_, ?_, ?_, ?_, ?_, ?_, ?_, ?_, trivial⟩
    all_goals intro L fx w' hC hi hcl hdn hd
    ·have hnd : L 9 = false := Bool.eq_false_iff.2 (fun h => by have := (hcl 2 0 (hcl 3 2 (hcl 8 3 (hcl 9 8 h (by kernel_rfl)) (by kernel_rfl)) (by kernel_rfl)) (by kernel_rfl)); rw [hi] at this; cases this)
     go_wp2_with fail
     exact ⟨_, rfl, (fun _ => hC hnd), rfl, kP⟩
    ·have hnd : L 9 = false := Bool.eq_false_iff.2 (fun h => by have := (hcl 2 1 (hcl 3 2 (hcl 8 3 (hcl 9 8 h (by kernel_rfl)) (by kernel_rfl)) (by kernel_rfl)) (by kernel_rfl)); rw [hi] at this; cases this)
     go_wp2_with fail
     exact ⟨_, rfl, (fun _ => hC hnd), rfl, kP⟩
    ·have h0 : fx 0 = .slice (some ⟨g, off, none⟩) n c := hd.1 rfl
     have h1 : fx 1 = .int .i64 ((k : Nat)) := hd.2.1 rfl
     have hnd : L 9 = false := Bool.eq_false_iff.2 (fun h => by have := (hcl 3 2 (hcl 8 3 (hcl 9 8 h (by kernel_rfl)) (by kernel_rfl)) (by kernel_rfl)); rw [hi] at this; cases this)
     go_wp2_with fail
     exact ⟨_, by simp only [upd, h0, h1]; rfl, (fun _ => hC hnd), rfl, kP⟩
    ·have h2 : fx 2 = .slice (some ⟨g, off, none⟩) k c := hd.1 rfl
     have hnd : L 9 = false := Bool.eq_false_iff.2 (fun h => by have := (hcl 8 3 (hcl 9 8 h (by kernel_rfl)) (by kernel_rfl)); rw [hi] at this; cases this)
     have hb12 := hC hnd
     have HIk := Lib.hid (HT2.out.below hb12)
     go_wp2_with fail
     refine (ih (ls.take k) _ k c w' (by omega) (by omega) HIk).mono ?_
     rintro e w2 ⟨rfl, hq⟩
     rw [HA.out]
     go_wp2_with fail
     exact ⟨_, by simp only [upd, h2]; rfl, fun _ => hb12.trans (hq.mono hb12.size), rfl, fun j v t _ _ h => wRt_below hq j v h⟩
    ·have hnd : L 9 = false := Bool.eq_false_iff.2 (fun h => by have := (hcl 6 4 (hcl 7 6 (hcl 8 7 (hcl 9 8 h (by kernel_rfl)) (by kernel_rfl)) (by kernel_rfl)) (by kernel_rfl)); rw [hi] at this; cases this)
     go_wp2_with fail
     exact ⟨_, rfl, (fun _ => hC hnd), rfl, kP⟩
    ·have hnd : L 9 = false := Bool.eq_false_iff.2 (fun h => by have := (hcl 6 5 (hcl 7 6 (hcl 8 7 (hcl 9 8 h (by kernel_rfl)) (by kernel_rfl)) (by kernel_rfl)) (by kernel_rfl)); rw [hi] at this; cases this)
     go_wp2_with fail
     exact ⟨_, rfl, (fun _ => hC hnd), rfl, kP⟩
    ·have h4 : fx 4 = .slice (some ⟨g, off, none⟩) n c := hd.1 rfl
     have h5 : fx 5 = .int .i64 ((k : Nat)) := hd.2.1 rfl
     have hnd : L 9 = false := Bool.eq_false_iff.2 (fun h => by have := (hcl 7 6 (hcl 8 7 (hcl 9 8 h (by kernel_rfl)) (by kernel_rfl)) (by kernel_rfl)); rw [hi] at this; cases this)
     go_wp2_with fail
     exact ⟨_, by simp only [upd, h4, h5]; rfl, (fun _ => hC hnd), rfl, kP⟩
    ·have h6 : fx 6 = .slice (some ⟨g, off + k * 32, none⟩) (n - k) (c - k) := hd.1 rfl
     have hnd : L 9 = false := Bool.eq_false_iff.2 (fun h => by have := (hcl 8 7 (hcl 9 8 h (by kernel_rfl)) (by kernel_rfl)); rw [hi] at this; cases this)
     have hb12 := hC hnd
     have HIk := Lib.hid (HT3.out.below hb12)
     go_wp2_with fail
     refine (ih (ls.drop k) _ (n - k) (c - k) w' (by omega) (by omega) HIk).mono ?_
     rintro e w2 ⟨rfl, hq⟩
     rw [HB.out]
     go_wp2_with fail
     exact ⟨_, by simp only [upd, h6]; rfl, fun _ => hb12.trans (hq.mono hb12.size), rfl, fun j v t _ _ h => wRt_below hq j v h⟩
    ·have h3 : fx 3 = dgV a := hd.1 rfl
     have h7 : fx 7 = dgV b := hd.2.1 rfl
     have hnd : L 9 = false := Bool.eq_false_iff.2 (fun h => by have := (hcl 9 8 h (by kernel_rfl)); rw [hi] at this; cases this)
     have hb12 := hC hnd
     go_wp2_with fail
     refine (rnode_any a b w' HOA HOB).mono ?_
     rintro e w2 ⟨rfl, hq⟩
     rw [HRT.out]
     go_wp2_with fail
     exact ⟨_, by simp only [upd, h3, h7]; rfl, fun _ => hb12.trans (hq.mono hb12.size), rfl, fun j v t _ _ h => wRt_below hq j v h⟩
    ·have h8 : fx 8 = dgV r := hd.1 rfl
     have hb21 := hC hi
     have hrow := row_kept HR0.out hb21
     refine wpList_store_row rfl 25 (.tmp 2) (.tmp 26) rfl w.heap.size (dgC r).toArray rfl h8 25 _ hrow HS1.out HS2.out (dgC_one _) ?_
     clear hd
     go_wp2_with fail
     refine ⟨undef, by rw [← h8]; rfl, fun h => (updB_self h).elim, ⟨setRow_heap _ _ _ _ _ _ hrow, below_setRow (HB0.out.trans (hb21.mono HB0.out.size)) (Nat.le_refl _) _⟩, fun j v t hj hu h => ?_⟩
     refine wRt_pure j v ?_ h
     intro e
     subst e
     rw [hi] at hj; cases hj
   ·intro L fx w' hC hS
    have H9 := Lib.hid (hS 9 (by decide) rfl)
    clear hS hC
    go_wp2_with fail
    refine bodyPost_ret (results_cell_row rfl _ _ w.heap.size 25 _ (0, 0) _ rfl H9.out.1 Tryz.underlying25 rfl HS1.out) rfl ?_
    exact ⟨by rw [HR.out]; rfl, H9.out.2⟩
  ·have hn1 : n = 1 := by omega
   subst hn1
   obtain ⟨x, HX⟩ : ∃ x, Hid (ls = [x]) := (List.length_eq_one_iff.1 HNE.out).imp fun _ h => Lib.hid h
   have HXO : Hid (DgOk x) := Lib.hid (h.out.ok x (by rw [HX.out]; simp))
   obtain ⟨g', off', e, hg', hr⟩ := HIN.out.rd (by rw [HNE.out]; omega)
   cases e
   have HXL : Hid (x.length = 32) := Lib.hid HXO.out.len
   have HRX : Hid (Rd (w.alloc (.cells #[.int .u8 0, .int .u8 0, .int .u8 0, .int .u8 0, .int .u8 0, .int .u8 0, .int .u8 0, .int .u8 0, .int .u8 0, .int .u8 0, .int .u8 0, .int .u8 0, .int .u8 0, .int .u8 0, .int .u8 0, .int .u8 0, .int .u8 0, .int .u8 0, .int .u8 0, .int .u8 0, .int .u8 0, .int .u8 0, .int .u8 0, .int .u8 0, .int .u8 0, .int .u8 0, .int .u8 0, .int .u8 0, .int .u8 0, .int .u8 0, .int .u8 0, .int .u8 0] 25)) (w.alloc (.cells #[.int .u8 0, .int .u8 0, .int .u8 0, .int .u8 0, .int .u8 0, .int .u8 0, .int .u8 0, .int .u8 0, .int .u8 0, .int .u8 0, .int .u8 0, .int .u8 0, .int .u8 0, .int .u8 0, .int .u8 0, .int .u8 0, .int .u8 0, .int .u8 0, .int .u8 0, .int .u8 0, .int .u8 0, .int .u8 0, .int .u8 0, .int .u8 0, .int .u8 0, .int .u8 0, .int .u8 0, .int .u8 0, .int .u8 0, .int .u8 0, .int .u8 0, .int .u8 0] 25)).heap.size (some ⟨g, off, none⟩) x) := Lib.hid (fun _ => ⟨g, off, rfl, hg', bytesAt_rg (by
    have := rangeD_one hr h.out.ok 0 (by rw [HNE.out]; omega)
    simpa [HX.out] using this)⟩)
   have HS1 := Lib.hid (dgC_info (leafD_ok x))
   have HS2 := Lib.hid (dgC_size (leafD_ok x))
   clear hr
   go_enter Tryz.func47, Tryz.ntmps47
   go_wp2_with fail
   refine (rtagged_any leafTag (some ⟨g, off, none⟩) 32 32 x _ (by decide) HXL (Nat.le_refl _) (fun h => by cases h) (by omega) (Lib.hid HXO.out.bytes) HRX).mono ?_
   rintro e w2 ⟨rfl, hq⟩
   have HB2 := Lib.hid (HB0.out.trans (hq.mono HB0.out.size))
   have HR2 := Lib.hid (row_kept HR0.out hq)
   clear hq
   rw [leafTag_d, dgV_agg]
   go_wp2_with (refine wpList_store_row rfl 25 (.tmp 2) (.tmp 14) rfl w.heap.size (dgC (leafD x)).toArray rfl rfl 25 _ HR2.out HS1.out HS2.out (dgC_one _) ?_)
   refine bodyPost_ret (results_cell_row rfl _ _ w.heap.size 25 _ (0, 0) _ rfl (setRow_heap w2 w.heap.size _ _ _ _ HR2.out) Tryz.underlying25 rfl HS1.out) rfl ?_
   exact ⟨by rw [HX.out, treeD_one]; rfl, below_setRow HB2.out (Nat.le_refl _) _⟩
theorem own_emptyD2 {w : World} {g M : Nat} (h : w.heap[g]? = some (.cells #[] 25 (0, 0))) (hM : M ≤ g) : OwnD w M (.slice (some ⟨g, 0, none⟩) 0 0) [] :=
 ⟨rfl, .inr ⟨g, 0, #[], rfl, hM, h, Nat.le_refl _, Nat.zero_le _, rfl, rfl⟩⟩
theorem range_dg {w : World} {g off : Nat} {n : Nd} (h : w.rangeAt g off (ndC n)) : w.rangeAt g off (dgC n.d) := fun j v hj => h j v (by
 unfold ndC
 have e : dgC n.d = n.d.map fun x => Value.int .u8 (x : Nat) := rfl
 rw [← e, List.getElem?_append_left (List.getElem?_eq_some_iff.1 hj).1]; exact hj)
theorem ndOk_dg {n : Nd} (h : NdOk n) : DgOk n.d := ⟨h.len, h.bytes⟩
theorem rdigests_any (ls : List Nd) (A : Option Addr) (n c : Nat) (w : World) (hn : n ≤ 100000) (h : Hid (InN w A n c ls)) :
  Calls Tryz.prog 48 #[.slice A n c] w fun e w' => ∃ A' n' c', e = .returned (.slice A' n' c') ∧ InD w' A' n' c' (ls.map (·.d)) ∧ Below w.heap.size w w' := by
 have HN := Lib.hid (show ls.length = n from h.out.len)
 have HBE := Lib.hid ((Below.refl w.heap.size w).alloc (Nat.le_refl _) (.cells #[] 25))
 have HOE := Lib.hid (own_emptyD2 (heap_alloc_new w (.cells #[] 25)) (Nat.le_refl w.heap.size))
 go_enter Tryz.func48, Tryz.ntmps48
 go_wp2_with fail
 go_loopw [4, 3] (fun i dd wr => ∃ (j : Nat) (P : List Dg), j ≤ n ∧ i = .int .i64 j ∧ Hid (P = (ls.take j).map (·.d)) ∧ Hid (OwnD wr w.heap.size dd P) ∧ Hid (Below w.heap.size w wr) ∧ ∃ A3 n3 c3, dd = .slice A3 n3 c3) (fun i _ _ => n - (intOf i).toNat)
 case atStart => exact ⟨0, [], by omega, rfl, Lib.hid rfl, HOE, HBE, _, _, _, rfl⟩
 case round =>
  clear HOE HBE
  obtain ⟨j, P, hj, rfl, HP, HOW, HB, A3, n3, c3, rfl⟩ := hrel
  by_cases hlt : j < n
  ·have d1 : decide ((j : Int) < (n : Int)) = true := decide_eq_true (by omega)
   have d2 : decide (j < n) = true := decide_eq_true hlt
   have hjl : j < ls.length := by rw [HN.out]; exact hlt
   obtain ⟨g, off, eA, hgl, hr⟩ := h.out.rd (by omega)
   obtain ⟨x, HX⟩ : ∃ x, Hid (ls[j] = x) := ⟨_, Lib.hid rfl⟩
   have HXO : Hid (NdOk x) := Lib.hid (by rw [← HX.out]; exact h.out.ok _ (List.getElem_mem hjl))
   have HDO := Lib.hid (ndOk_dg HXO.out)
   have HR : Hid (wr.rangeAt g (off + j * 34) (dgC x.d)) := Lib.hid (by
    have := range_dg (rangeAt_below (range_one hr h.out.ok j hjl) hgl HB.out)
    rw [HX.out] at this
    exact this)
   have HII := Lib.hid (dgC_infoL HDO.out)
   have HPL : Hid (P.length ≤ 100000) := Lib.hid (by rw [HP.out, List.length_map, List.length_take]; omega)
   have HPN : Hid (P ++ [x.d] = (ls.take (j + 1)).map (·.d)) := Lib.hid (by rw [List.take_succ_eq_append_getElem hjl, List.map_append, ← HP.out, HX.out]; rfl)
   have hba := (Below.refl _ wr).alloc (Nat.le_refl _) (.cells (flatD [x.d]).toArray 25)
   have HA6 := Lib.hid (HOW.out.below hba)
   have HRF := Lib.hid (heap_alloc_new wr (.cells (flatD [x.d]).toArray 25))
   have HB4 := Lib.hid (HB.out.trans (hba.mono HB.out.size))
   have HSZ := Lib.hid HB4.out.size
   clear hr hba
   rw [eA]
   go_wp2_with (first | (with_reducible refine wpList_load_mid rfl 25 (.tmp 16) rfl g (off + j * 34) rfl (dgC x.d) _ HR.out Tryz.underlying25 rfl HII.out ?_) | (refine wpList_build_digs1 rfl (.tmp 17) rfl x.d rfl HDO.out ?_) | (refine wpList_append_dig rfl (.tmp 12) (.tmp 18) rfl w.heap.size _ P x.d rfl HA6 HDO.out wr.heap.size rfl HRF HPL.out HSZ.out ?_; intro v2 w2 HO2 HG2; obtain ⟨A2, n2, c2, rfl⟩ := HO2.out.form))
   have HB5 := Lib.hid (HB4.out.grown HG2.out HSZ.out (fun k hk => (HA6.out.block k hk).1))
   rw [HPN.out] at HO2
   go_roundw
   case rel => exact ⟨j + 1, _, by omega, by go_num, Lib.hid rfl, HO2, HB5, _, _, _, rfl⟩
   case measure => simp [intOf]; omega
  ·have d1 : decide ((j : Int) < (n : Int)) = false := decide_eq_false (by omega)
   have d1n : decide (j < n) = false := decide_eq_false hlt
   have HPF : Hid (P = ls.map (·.d)) := Lib.hid (by rw [HP.out, List.take_of_length_le (by rw [HN.out]; omega)])
   have HPO : Hid (∀ y ∈ P, DgOk y) := Lib.hid (fun y hy => by
    rw [HPF.out] at hy
    obtain ⟨x, hx, rfl⟩ := List.mem_map.1 hy
    exact ndOk_dg (h.out.ok x hx))
   obtain ⟨A4, n4, c4, e4, hin4, ht4⟩ := HOW.out.slice HPO.out
   cases e4
   have HI4 := Lib.hid hin4
   clear hin4 ht4
   go_wp2_with fail
   go_ret
   exact ⟨_, _, _, rfl, by rw [← HPF.out]; exact HI4.out, HB.out⟩
def wR42c (M : Nat) (bt : Nat) (g : Nat) (off : Nat) (n : Nat) (c : Nat) (jn : Nat) (t : Tr) (x : Cl) (s : Dg) (r : Dg) (A3 : Option Addr) (n3 : Nat) (c3 : Nat) (P : List Dg) : Nat → Value → World → Prop
 | 0, fv, _ => fv = .slice A3 n3 c3
 | 1, fv, _ => fv = .pointer (some { block := bt, off := 5 })
 | 2, fv, _ => fv = .slice (some ⟨g, off, none⟩) n c
 | 3, fv, _ => fv = .int .i64 ((jn : Nat))
 | 4, fv, _ => fv = .pointer (some ⟨g, off + jn * 3, none⟩)
 | 5, fv, _ => fv = clV x
 | 6, fv, _ => fv = .pointer (some { block := bt, off := 6 })
 | 7, fv, _ => fv = dgV t.salt
 | 8, fv, _ => fv = .pointer (some { block := bt, off := 5 })
 | 9, fv, _ => fv = .slice (some ⟨g, off, none⟩) n c
 | 10, fv, _ => fv = .int .i64 ((jn : Nat))
 | 11, fv, _ => fv = .pointer (some ⟨g, off + jn * 3, none⟩)
 | 12, fv, _ => fv = clV x
 | 13, fv, _ => fv = dgV s
 | 14, fv, _ => fv = dgV r
 | 15, fv, fw => ∃ q, fv = .slice (some ⟨q, 0, none⟩) 1 1 ∧ fw.heap[q]? = some (.cells (flatD [r]).toArray 25 (0, 0))
 | 16, fv, fw => OwnD fw M fv (P ++ [r])
 | 17, fv, fw => OwnD fw M fv (P ++ [r])
 | _, _, _ => True
theorem wR42c_below {M : Nat} {bt : Nat} {g : Nat} {off : Nat} {n : Nat} {c : Nat} {jn : Nat} {t : Tr} {x : Cl} {s : Dg} {r : Dg} {A3 : Option Addr} {n3 : Nat} {c3 : Nat} {P : List Dg} {w w' : World} (hb : Below w.heap.size w w') : ∀ j v, wR42c M bt g off n c jn t x s r A3 n3 c3 P j v w → wR42c M bt g off n c jn t x s r A3 n3 c3 P j v w'
 | 0, v, h => h
 | 1, v, h => h
 | 2, v, h => h
 | 3, v, h => h
 | 4, v, h => h
 | 5, v, h => h
 | 6, v, h => h
 | 7, v, h => h
 | 8, v, h => h
 | 9, v, h => h
 | 10, v, h => h
 | 11, v, h => h
 | 12, v, h => h
 | 13, v, h => h
 | 14, v, h => h
 | 15, v, ⟨q, h1, h2⟩ => ⟨q, h1, row_kept h2 hb⟩
 | 16, v, h => h.below hb
 | 17, v, h => h.below hb
 | n + 18, v, h => trivial
theorem wR42c_pure {M : Nat} {bt : Nat} {g : Nat} {off : Nat} {n : Nat} {c : Nat} {jn : Nat} {t : Tr} {x : Cl} {s : Dg} {r : Dg} {A3 : Option Addr} {n3 : Nat} {c3 : Nat} {P : List Dg} {w w' : World} : ∀ j v, j ≠ 15 → j ≠ 16 → j ≠ 17 → wR42c M bt g off n c jn t x s r A3 n3 c3 P j v w → wR42c M bt g off n c jn t x s r A3 n3 c3 P j v w'
 | 0, v, _, _, _, h => h
 | 1, v, _, _, _, h => h
 | 2, v, _, _, _, h => h
 | 3, v, _, _, _, h => h
 | 4, v, _, _, _, h => h
 | 5, v, _, _, _, h => h
 | 6, v, _, _, _, h => h
 | 7, v, _, _, _, h => h
 | 8, v, _, _, _, h => h
 | 9, v, _, _, _, h => h
 | 10, v, _, _, _, h => h
 | 11, v, _, _, _, h => h
 | 12, v, _, _, _, h => h
 | 13, v, _, _, _, h => h
 | 14, v, _, _, _, h => h
 | 15, v, hh, _, _, _ => absurd rfl hh
 | 16, v, _, hh, _, _ => absurd rfl hh
 | 17, v, _, _, hh, _ => absurd rfl hh
 | n + 18, v, _, _, _, h => trivial
theorem rangeAt_belowM {w w' : World} {M g off : Nat} {cs : List Value} (h : w.rangeAt g off cs) (hg : g < M) (hb : Below M w w') : w'.rangeAt g off cs := fun j v hj => (hb.cell (p := ⟨g, off + j, none⟩) hg).trans (h j v hj)
theorem rcleaves_any (t : Tr) (p : TrP) (w : World) (h : Hid (TrOk w t p)) (hn : p.n2 ≤ 100000) :
  Calls Tryz.prog 51 #[trV t p] w fun e w' => ∃ A' n' c', e = .returned (.slice A' n' c') ∧ InD w' A' n' c' (t.cl.map (lvK t.salt)) ∧ Below w.heap.size w w' := by
 have HN := Lib.hid (show t.cl.length = p.n2 from h.out.cl.len)
 have HSA : Hid (DgOk t.salt) := Lib.hid ⟨h.out.len, h.out.bytes⟩
 have HSK := Lib.hid (dgC_infoK HSA.out)
 have hb0 := (Below.refl _ w).alloc (Nat.le_refl _) (.cells (trC t p).toArray 27)
 have hr0 := heap_alloc_new w (.cells (trC t p).toArray 27)
 have hs0 : (w.alloc (.cells (trC t p).toArray 27)).heap.size = w.heap.size + 1 := by simp
 obtain ⟨W2, HW2⟩ : ∃ V, Hid (w.alloc (.cells (trC t p).toArray 27) = V) := ⟨_, Lib.hid rfl⟩
 rw [HW2.out] at hb0 hr0 hs0
 have HB2 := Lib.hid hb0
 have HR2 := Lib.hid hr0
 have HS2 := Lib.hid hs0
 have HI2 := Lib.hid (h.out.below hb0).cl
 have HBE := Lib.hid ((Below.refl W2.heap.size W2).alloc (Nat.le_refl _) (.cells #[] 25))
 have HOE := Lib.hid (own_emptyD2 (heap_alloc_new W2 (.cells #[] 25)) (Nat.le_refl W2.heap.size))
 clear hb0 hr0 hs0
 rw [show trV t p = .agg (trC t p).toArray from rfl]
 go_enter Tryz.func51, Tryz.ntmps51
 go_wp2_with (rw [HW2.out])
 go_loopw [4, 3] (fun i dd wr => ∃ (j : Nat) (P : List Dg), j ≤ p.n2 ∧ i = .int .i64 j ∧ Hid (P = (t.cl.take j).map (lvK t.salt)) ∧ Hid (OwnD wr W2.heap.size dd P) ∧ Hid (Below W2.heap.size W2 wr) ∧ ∃ A3 n3 c3, dd = .slice A3 n3 c3) (fun i _ _ => p.n2 - (intOf i).toNat)
 case atStart => exact ⟨0, [], by omega, rfl, Lib.hid rfl, HOE, HBE, _, _, _, rfl⟩
 case round =>
  clear HOE HBE
  obtain ⟨j, P, hj, rfl, HP, HOW, HB, A3, n3, c3, rfl⟩ := hrel
  have kl : wr.cell? ⟨w.heap.size, 5, none⟩ = some (.slice p.A2 p.n2 p.c2) := by rw [cell_of_row _ _ _ _ _ _ (row_kept HR2.out HB.out)]; rfl
  by_cases hlt : j < p.n2
  ·have d1 : decide ((j : Int) < (p.n2 : Int)) = true := decide_eq_true (by omega)
   have d2 : decide (j < p.n2) = true := decide_eq_true hlt
   have HLT := Lib.hid hlt
   have hjl : j < t.cl.length := by rw [HN.out]; exact hlt
   obtain ⟨g, off, eA, hgl, hr⟩ := HI2.out.rd (by omega)
   obtain ⟨x, HX⟩ : ∃ x, Hid (t.cl[j] = x) := ⟨_, Lib.hid rfl⟩
   have HXO : Hid (ClOk x) := Lib.hid (by rw [← HX.out]; exact HI2.out.ok _ (List.getElem_mem hjl))
   have HR : Hid (wr.rangeAt g (off + j * 3) (clC x)) := Lib.hid (by
    rw [← HX.out]
    exact rangeAt_below (range_elem clC_len4 hr j hjl) hgl HB.out)
   have HGL : Hid (g < W2.heap.size) := Lib.hid hgl
   have HII := Lib.hid (clC_infoL4 x)
   have HPL : Hid (P.length ≤ 100000) := Lib.hid (by rw [HP.out, List.length_map, List.length_take]; omega)
   obtain ⟨s, HS⟩ : ∃ s, Hid (saltN t.salt 2 (nCl x) = s) := ⟨_, Lib.hid rfl⟩
   have HSO : Hid (DgOk s) := Lib.hid (by rw [← HS.out]; exact saltN_ok _ _ _)
   obtain ⟨r, HD⟩ : ∃ r, Hid (lfK x s = r) := ⟨_, Lib.hid rfl⟩
   have HRO : Hid (DgOk r) := Lib.hid (by rw [← HD.out]; exact lfK_ok x s)
   have HPN : Hid (P ++ [r] = (t.cl.take (j + 1)).map (lvK t.salt)) := Lib.hid (by rw [List.take_succ_eq_append_getElem hjl, List.map_append, ← HP.out, HX.out, ← HD.out, ← HS.out]; rfl)
   rw [eA] at kl
   have HTC := Lib.hid kl
   have HTB : Hid (w.heap.size < W2.heap.size) := Lib.hid (by rw [HS2.out]; exact Nat.lt_succ_self _)
   have HTR := Lib.hid (row_kept HR2.out HB.out)
   have HMS := Lib.hid HB.out.size
   clear hr eA
   go_wp2_with fail
   clear kl
   have HBL := Lib.hid (fun (a1 a2 : World) (hb : Below a1.heap.size a1 a2) => wR42c_below (M := W2.heap.size) (bt := w.heap.size) (g := g) (off := off) (n := p.n2) (c := p.c2) (jn := j) (t := t) (x := x) (s := s) (r := r) (A3 := A3) (n3 := n3) (c3 := c3) (P := P) hb)
   refine region_flow3 (by kernel_rfl) (by kernel_rfl) (fun i => Nat.beq i 17) (fun i => i) (by kernel_rfl) (fun fx => #[.agg (trC t p).toArray, .pointer (some { block := w.heap.size, off := 0 }), .slice none 0 0, fx 17, .int IntKind.i64 ↑j, .slice (some { block := W2.heap.size, off := 0 }) 0 0, .int IntKind.i64 ↑j, .pointer (some { block := w.heap.size, off := 5 }), .slice (some { block := g, off := off }) p.n2 p.c2, .int IntKind.i64 ↑p.n2, .bool true, u11, u12, fx 0, fx 1, fx 2, fx 3, fx 4, fx 5, fx 6, fx 7, fx 8, fx 9, fx 10, fx 11, fx 12, fx 13, fx 14, fx 15, fx 16, undef]) (fun i => bif Nat.beq i 0 then u13 else bif Nat.beq i 1 then u14 else bif Nat.beq i 2 then u15 else bif Nat.beq i 3 then u16 else bif Nat.beq i 4 then u17 else bif Nat.beq i 5 then u18 else bif Nat.beq i 6 then u19 else bif Nat.beq i 7 then u20 else bif Nat.beq i 8 then u21 else bif Nat.beq i 9 then u22 else bif Nat.beq i 10 then u23 else bif Nat.beq i 11 then u24 else bif Nat.beq i 12 then u25 else bif Nat.beq i 13 then u26 else bif Nat.beq i 14 then u27 else bif Nat.beq i 15 then u28 else bif Nat.beq i 16 then u29 else bif Nat.beq i 17 then Value.slice A3 n3 c3 else undef) (fun L fx w' => Below W2.heap.size wr w' ∧ (L 16 = false → OwnD w' W2.heap.size (.slice A3 n3 c3) P) ∧ (L 17 = false → fx 17 = .slice A3 n3 c3)) (fun fi fv _ fw => wR42c W2.heap.size w.heap.size g off p.n2 p.c2 j t x s r A3 n3 c3 P fi fv fw) ⟨(Below.refl _ _).drew, fun _ => HOW.out, fun _ => rfl⟩ ?_ ?_
   ·refine ⟨?_, ?_, ?_, ?_, ?_, ?_, ?_, ?_, ?_, ?_, ?_, ?_, ?_, ?_, ?_, ?_, ?_, ?_, trivial⟩
    all_goals intro L fx w' hC hi hcl hdn hd
    ·have hn17 : L 17 = false := Bool.eq_false_iff.2 (fun h => by have := (hcl 16 0 (hcl 17 16 h (by kernel_rfl)) (by kernel_rfl)); rw [hi] at this; cases this)
     have h17 : fx 17 = .slice A3 n3 c3 := hC.2.2 hn17
     clear hd
     go_wp2_with fail
     exact ⟨Value.slice A3 n3 c3, by simp only [upd, h17]; rfl, ⟨hC.1, fun h => hC.2.1 h, fun h => hC.2.2 h⟩, rfl, kP⟩
    ·clear hd
     go_wp2_with fail
     exact ⟨_, rfl, ⟨hC.1, fun h => hC.2.1 h, fun h => hC.2.2 h⟩, rfl, kP⟩
    ·have h1 : fx 1 = .pointer (some { block := w.heap.size, off := 5 }) := hd.1 rfl
     have hcc := (hC.1.cell (p := ⟨w.heap.size, 5, none⟩) HTB.out).trans HTC.out
     clear hd
     go_wp2_with fail
     exact ⟨_, by simp only [upd, h1]; rfl, ⟨hC.1, fun h => hC.2.1 h, fun h => hC.2.2 h⟩, rfl, kP⟩
    ·clear hd
     go_wp2_with fail
     exact ⟨_, rfl, ⟨hC.1, fun h => hC.2.1 h, fun h => hC.2.2 h⟩, rfl, kP⟩
    ·have h2 : fx 2 = .slice (some ⟨g, off, none⟩) p.n2 p.c2 := hd.1 rfl
     have h3 : fx 3 = .int .i64 ((j : Nat)) := hd.2.1 rfl
     have hlt := HLT.out
     have hltn : decide (j < p.n2) = true := decide_eq_true hlt
     clear hd
     go_wp2_with fail
     exact ⟨_, by simp only [upd, h2, h3]; rfl, ⟨hC.1, fun h => hC.2.1 h, fun h => hC.2.2 h⟩, rfl, kP⟩
    ·have h4 : fx 4 = .pointer (some ⟨g, off + j * 3, none⟩) := hd.1 rfl
     have hrow := rangeAt_belowM HR.out HGL.out hC.1
     refine wpList_load_mid rfl 56 (.tmp 17) rfl g (off + j * 3) h4 (clC x) _ hrow Tryz.underlying56 rfl HII.out ?_
     rw [show Value.agg (clC x).toArray = clV x from rfl]
     clear hd
     go_wp2_with fail
     exact ⟨_, by simp only [upd, h4]; rfl, ⟨hC.1, fun h => hC.2.1 h, fun h => hC.2.2 h⟩, rfl, kP⟩
    ·clear hd
     go_wp2_with fail
     exact ⟨_, rfl, ⟨hC.1, fun h => hC.2.1 h, fun h => hC.2.2 h⟩, rfl, kP⟩
    ·have h6 : fx 6 = .pointer (some { block := w.heap.size, off := 6 }) := hd.1 rfl
     have hrow := tr_salt (row_keptM HTR.out hC.1 HTB.out)
     refine wpList_load_mid rfl 25 (.tmp 19) rfl w.heap.size 6 h6 (dgC t.salt) _ hrow Tryz.underlying25 rfl HSK.out ?_
     clear hd
     go_wp2_with fail
     exact ⟨_, by simp only [upd, h6]; rfl, ⟨hC.1, fun h => hC.2.1 h, fun h => hC.2.2 h⟩, rfl, kP⟩
    ·clear hd
     go_wp2_with fail
     exact ⟨_, rfl, ⟨hC.1, fun h => hC.2.1 h, fun h => hC.2.2 h⟩, rfl, kP⟩
    ·have h8 : fx 8 = .pointer (some { block := w.heap.size, off := 5 }) := hd.1 rfl
     have hcc := (hC.1.cell (p := ⟨w.heap.size, 5, none⟩) HTB.out).trans HTC.out
     clear hd
     go_wp2_with fail
     exact ⟨_, by simp only [upd, h8]; rfl, ⟨hC.1, fun h => hC.2.1 h, fun h => hC.2.2 h⟩, rfl, kP⟩
    ·clear hd
     go_wp2_with fail
     exact ⟨_, rfl, ⟨hC.1, fun h => hC.2.1 h, fun h => hC.2.2 h⟩, rfl, kP⟩
    ·have h9 : fx 9 = .slice (some ⟨g, off, none⟩) p.n2 p.c2 := hd.1 rfl
     have h10 : fx 10 = .int .i64 ((j : Nat)) := hd.2.1 rfl
     have hlt := HLT.out
     have hltn : decide (j < p.n2) = true := decide_eq_true hlt
     clear hd
     go_wp2_with fail
     exact ⟨_, by simp only [upd, h9, h10]; rfl, ⟨hC.1, fun h => hC.2.1 h, fun h => hC.2.2 h⟩, rfl, kP⟩
    ·have h11 : fx 11 = .pointer (some ⟨g, off + j * 3, none⟩) := hd.1 rfl
     have hrow := rangeAt_belowM HR.out HGL.out hC.1
     refine wpList_load_mid rfl 56 (.tmp 24) rfl g (off + j * 3) h11 (clC x) _ hrow Tryz.underlying56 rfl HII.out ?_
     rw [show Value.agg (clC x).toArray = clV x from rfl]
     clear hd
     go_wp2_with fail
     exact ⟨_, by simp only [upd, h11]; rfl, ⟨hC.1, fun h => hC.2.1 h, fun h => hC.2.2 h⟩, rfl, kP⟩
    ·have h7 : fx 7 = dgV t.salt := hd.1 rfl
     have h12 : fx 12 = clV x := hd.2.1 rfl
     clear hd
     go_wp2_with fail
     refine (rsaltK t.salt x w' HSA).mono ?_
     rintro e w2 ⟨rfl, hq⟩
     rw [HS.out]
     go_wp2_with fail
     exact ⟨_, by simp only [upd, h7, h12]; rfl, ⟨hC.1.trans (hq.mono (Nat.le_trans HMS.out hC.1.size)), fun h => (hC.2.1 h).below hq, fun h => hC.2.2 h⟩, rfl, fun i v u _ _ h => HBL.out _ _ hq i v h⟩
    ·have h5 : fx 5 = clV x := hd.1 rfl
     have h13 : fx 13 = dgV s := hd.2.1 rfl
     clear hd
     go_wp2_with fail
     refine (rleafK_any x s w' HXO HSO).mono ?_
     rintro e w2 ⟨rfl, hq⟩
     rw [HD.out]
     go_wp2_with fail
     exact ⟨_, by simp only [upd, h5, h13]; rfl, ⟨hC.1.trans (hq.mono (Nat.le_trans HMS.out hC.1.size)), fun h => (hC.2.1 h).below hq, fun h => hC.2.2 h⟩, rfl, fun i v u _ _ h => HBL.out _ _ hq i v h⟩
    ·have h14 : fx 14 = dgV r := hd.1 rfl
     refine wpList_build_digs1 rfl (.tmp 27) rfl r h14 HRO.out ?_
     clear hd
     go_wp2_with fail
     have hq : Below w'.heap.size w' (w'.alloc (.cells (flatD [r]).toArray 25)) := (Below.refl _ _).alloc (Nat.le_refl _) _
     exact ⟨_, by simp only [upd, h14]; rfl, ⟨hC.1.trans (hq.mono (Nat.le_trans HMS.out hC.1.size)), fun h => (hC.2.1 h).below hq, fun h => hC.2.2 h⟩, ⟨_, rfl, heap_alloc_new _ _⟩, fun i v u _ _ h => HBL.out _ _ hq i v h⟩
    ·have h0 : fx 0 = .slice A3 n3 c3 := hd.1 rfl
     have H15 := Lib.hid (hd.2.1 rfl)
     obtain ⟨q, hx, hrow⟩ := H15.out
     have HQR := Lib.hid hrow
     have HOV := Lib.hid (hC.2.1 hi)
     have HSZ := Lib.hid (Nat.le_trans HMS.out hC.1.size)
     refine wpList_append_dig rfl (.tmp 13) (.tmp 28) rfl W2.heap.size (.slice A3 n3 c3) P r h0 HOV HRO.out q hx HQR HPL.out HSZ.out ?_
     intro v2 w2 HO2 HG2
     have HB2' := Lib.hid ((Below.refl W2.heap.size w').grown HG2.out HSZ.out (fun g hg => (HOV.out.block g hg).1))
     clear hd hrow
     go_wp2_with fail
     refine ⟨v2, by simp only [upd, h0, hx]; rfl, ⟨hC.1.trans HB2'.out, fun h => (updB_self h).elim, fun h => hC.2.2 h⟩, HO2.out, fun j v t hj hu h => ?_⟩
     refine wR42c_pure j v ?_ ?_ ?_ h <;> intro e <;> subst e
     ·refine absurd hu (not_needed (E := (fun i => Nat.beq i 17)) (j := 15) [16] (by kernel_rfl) (by kernel_rfl) ?_)
      intro m hm hne; simp at hm; omega
     ·rw [hi] at hj; cases hj
     ·have := hcl 17 16 hj (by kernel_rfl); rw [hi] at this; cases this
    ·have H16 := Lib.hid (hd.1 rfl)
     clear hd
     go_wp2_with fail
     exact ⟨fx 16, rfl, ⟨hC.1, fun h => hC.2.1 h, fun h => (updB_self h).elim⟩, H16.out, kP⟩
   ·intro L fo w' hC hS
    have H17 := Lib.hid (hS 17 (by decide) rfl)
    obtain ⟨A2, n2, c2, e17⟩ := H17.out.form
    have HO2 : Hid (OwnD w' W2.heap.size (.slice A2 n2 c2) ((t.cl.take (j + 1)).map (lvK t.salt))) := Lib.hid (by rw [← HPN.out, ← e17]; exact H17.out)
    have e17' : fo 17 = .slice A2 n2 c2 := e17
    rw [e17']
    have HB5 := Lib.hid (HB.out.trans hC.1)
    clear hS hC e17 e17' H17
    go_wp2_with fail
    go_roundw
    case rel => exact ⟨j + 1, _, by omega, by go_num, Lib.hid rfl, HO2, HB5, _, _, _, rfl⟩
    case measure => simp [intOf]; omega
  ·have d1 : decide ((j : Int) < (p.n2 : Int)) = false := decide_eq_false (by omega)
   have d1n : decide (j < p.n2) = false := decide_eq_false hlt
   have HPF : Hid (P = t.cl.map (lvK t.salt)) := Lib.hid (by rw [HP.out, List.take_of_length_le (by rw [HN.out]; omega)])
   have HPO : Hid (∀ y ∈ P, DgOk y) := Lib.hid (fun y hy => by
    rw [HPF.out] at hy
    obtain ⟨x, hx, rfl⟩ := List.mem_map.1 hy
    exact lfK_ok _ _)
   obtain ⟨A4, n4, c4, e4, hin4, ht4⟩ := HOW.out.slice HPO.out
   cases e4
   have HI4 := Lib.hid hin4
   have HB4 := Lib.hid (HB2.out.trans (HB.out.mono HB2.out.size))
   clear hin4 ht4
   go_wp2_with fail
   go_ret
   exact ⟨_, _, _, rfl, by rw [← HPF.out]; exact HI4.out, HB4.out⟩
theorem built_zD2 : Tryz.prog.built 25 [] = some (dgC zeroD).toArray := by kernel_rfl
theorem rlisted_no (t : Tr) (p : TrP) (w : World) (h : Hid (TrOk w t p)) (hg : Hid (trG t = false)) :
  Calls Tryz.prog 13 #[trV t p] w fun e w' => e = .returned (.tuple #[dgV (lstL t), .int .i64 (trE t)]) ∧ Below w.heap.size w w' := by
 have HE : Hid (lstL t = zeroD ∧ trE t = 420) := Lib.hid ⟨by unfold lstL; rw [hg.out]; rfl, trE_no hg.out⟩
 have HIT := Lib.hid (trV_info t p h.out.len)
 have HSZ := Lib.hid (dgC_info zeroD_ok)
 have hb0 := ((Below.refl _ w).alloc (Nat.le_refl _) (.cells (trC t p).toArray 27)).alloc (by simp) (.cells #[.int .u8 0, .int .u8 0, .int .u8 0, .int .u8 0, .int .u8 0, .int .u8 0, .int .u8 0, .int .u8 0, .int .u8 0, .int .u8 0, .int .u8 0, .int .u8 0, .int .u8 0, .int .u8 0, .int .u8 0, .int .u8 0, .int .u8 0, .int .u8 0, .int .u8 0, .int .u8 0, .int .u8 0, .int .u8 0, .int .u8 0, .int .u8 0, .int .u8 0, .int .u8 0, .int .u8 0, .int .u8 0, .int .u8 0, .int .u8 0, .int .u8 0, .int .u8 0] 25)
 have hr0 := (Below.heap_alloc (w.alloc (.cells (trC t p).toArray 27)) (.cells #[.int .u8 0, .int .u8 0, .int .u8 0, .int .u8 0, .int .u8 0, .int .u8 0, .int .u8 0, .int .u8 0, .int .u8 0, .int .u8 0, .int .u8 0, .int .u8 0, .int .u8 0, .int .u8 0, .int .u8 0, .int .u8 0, .int .u8 0, .int .u8 0, .int .u8 0, .int .u8 0, .int .u8 0, .int .u8 0, .int .u8 0, .int .u8 0, .int .u8 0, .int .u8 0, .int .u8 0, .int .u8 0, .int .u8 0, .int .u8 0, .int .u8 0, .int .u8 0] 25) w.heap.size (by simp)).trans (heap_alloc_new w (.cells (trC t p).toArray 27))
 have hr1 := heap_alloc_new (w.alloc (.cells (trC t p).toArray 27)) (.cells #[.int .u8 0, .int .u8 0, .int .u8 0, .int .u8 0, .int .u8 0, .int .u8 0, .int .u8 0, .int .u8 0, .int .u8 0, .int .u8 0, .int .u8 0, .int .u8 0, .int .u8 0, .int .u8 0, .int .u8 0, .int .u8 0, .int .u8 0, .int .u8 0, .int .u8 0, .int .u8 0, .int .u8 0, .int .u8 0, .int .u8 0, .int .u8 0, .int .u8 0, .int .u8 0, .int .u8 0, .int .u8 0, .int .u8 0, .int .u8 0, .int .u8 0, .int .u8 0] 25)
 rw [World.size_alloc] at hr1
 obtain ⟨W1, HW1⟩ : ∃ V, Hid ((w.alloc (.cells (trC t p).toArray 27)).alloc (.cells #[.int .u8 0, .int .u8 0, .int .u8 0, .int .u8 0, .int .u8 0, .int .u8 0, .int .u8 0, .int .u8 0, .int .u8 0, .int .u8 0, .int .u8 0, .int .u8 0, .int .u8 0, .int .u8 0, .int .u8 0, .int .u8 0, .int .u8 0, .int .u8 0, .int .u8 0, .int .u8 0, .int .u8 0, .int .u8 0, .int .u8 0, .int .u8 0, .int .u8 0, .int .u8 0, .int .u8 0, .int .u8 0, .int .u8 0, .int .u8 0, .int .u8 0, .int .u8 0] 25) = V) := ⟨_, Lib.hid rfl⟩
 rw [HW1.out] at hb0 hr0 hr1
 have HB1 := Lib.hid hb0
 have RT := Lib.hid hr0
 have RZ := Lib.hid hr1
 have HO1 := Lib.hid (h.out.below hb0)
 clear hb0 hr0 hr1
 rw [show trV t p = .agg (trC t p).toArray from rfl]
 go_enter Tryz.func13, Tryz.ntmps13
 go_wp2_with (first | (rw [HW1.out]) | (refine wpList_load_row rfl 27 (.tmp 1) rfl w.heap.size rfl 27 _ (0, 0) _ RT.out Tryz.underlying27 rfl HIT.out ?_))
 rw [show Value.agg (trC t p).toArray = trV t p from rfl]
 refine (rnodes_no t p W1 HO1 hg).mono ?_
 rintro e W2 ⟨rfl, hq⟩
 have HB2 := Lib.hid (HB1.out.trans (hq.mono HB1.out.size))
 have RZ2 := Lib.hid (row_kept RZ.out hq)
 clear hq
 go_wp2_with (first | (refine wpList_build rfl _ _ rfl built_zD2 ?_) | (refine wpList_store_row rfl 25 (.tmp 2) (.tmp 13) rfl (w.heap.size + 1) (dgC zeroD).toArray rfl rfl 25 _ RZ2.out HSZ.out rfl (dgC_one _) ?_))
 have hl := run_loadVar_row (P := Tryz.prog) (World.setRow W2 (w.heap.size + 1) (dgC zeroD).toArray) (w.heap.size + 1) 25 25 (dgC zeroD).toArray (0, 0) _ (setRow_heap W2 (w.heap.size + 1) _ (dgC zeroD).toArray _ _ RZ2.out) Tryz.underlying25 rfl HSZ.out
 refine bodyPost_ret (v := .tuple #[dgV zeroD, .int .i64 420]) ?_ rfl ⟨by rw [HE.out.1, HE.out.2], below_setRow HB2.out (Nat.le_succ _) _⟩
 rw [dgV_agg]
 simp [results, Tryz.results13, asAddr, hl]
theorem rlisted_yes (t : Tr) (p : TrP) (w : World) (h : Hid (TrOk w t p)) (hg : Hid (trG t = true)) :
  Calls Tryz.prog 13 #[trV t p] w fun e w' => e = .returned (.tuple #[dgV (lstL t), .int .i64 (trE t)]) ∧ Below w.heap.size w w' := by
 have HNL : Hid (p.n ≤ 100000) := Lib.hid (by have := trG_lns hg.out; rw [h.out.ln.len] at this; exact this)
 obtain ⟨r, HR⟩ : ∃ r, Hid (treeD (t.ln.map (lvL t.salt)) = r) := ⟨_, Lib.hid rfl⟩
 have HRO : Hid (DgOk r) := Lib.hid (by rw [← HR.out]; exact treeD_okD _)
 have HE : Hid (lstL t = r ∧ trE t = 0) := Lib.hid ⟨by unfold lstL; rw [hg.out, ← HR.out]; rfl, trE_yes hg.out⟩
 have HS1 := Lib.hid (dgC_info HRO.out)
 have HS2 := Lib.hid (dgC_size HRO.out)
 have HIT := Lib.hid (trV_info t p h.out.len)
 have HSZ := Lib.hid (dgC_info zeroD_ok)
 have hb0 := ((Below.refl _ w).alloc (Nat.le_refl _) (.cells (trC t p).toArray 27)).alloc (by simp) (.cells #[.int .u8 0, .int .u8 0, .int .u8 0, .int .u8 0, .int .u8 0, .int .u8 0, .int .u8 0, .int .u8 0, .int .u8 0, .int .u8 0, .int .u8 0, .int .u8 0, .int .u8 0, .int .u8 0, .int .u8 0, .int .u8 0, .int .u8 0, .int .u8 0, .int .u8 0, .int .u8 0, .int .u8 0, .int .u8 0, .int .u8 0, .int .u8 0, .int .u8 0, .int .u8 0, .int .u8 0, .int .u8 0, .int .u8 0, .int .u8 0, .int .u8 0, .int .u8 0] 25)
 have hr0 := (Below.heap_alloc (w.alloc (.cells (trC t p).toArray 27)) (.cells #[.int .u8 0, .int .u8 0, .int .u8 0, .int .u8 0, .int .u8 0, .int .u8 0, .int .u8 0, .int .u8 0, .int .u8 0, .int .u8 0, .int .u8 0, .int .u8 0, .int .u8 0, .int .u8 0, .int .u8 0, .int .u8 0, .int .u8 0, .int .u8 0, .int .u8 0, .int .u8 0, .int .u8 0, .int .u8 0, .int .u8 0, .int .u8 0, .int .u8 0, .int .u8 0, .int .u8 0, .int .u8 0, .int .u8 0, .int .u8 0, .int .u8 0, .int .u8 0] 25) w.heap.size (by simp)).trans (heap_alloc_new w (.cells (trC t p).toArray 27))
 have hr1 := heap_alloc_new (w.alloc (.cells (trC t p).toArray 27)) (.cells #[.int .u8 0, .int .u8 0, .int .u8 0, .int .u8 0, .int .u8 0, .int .u8 0, .int .u8 0, .int .u8 0, .int .u8 0, .int .u8 0, .int .u8 0, .int .u8 0, .int .u8 0, .int .u8 0, .int .u8 0, .int .u8 0, .int .u8 0, .int .u8 0, .int .u8 0, .int .u8 0, .int .u8 0, .int .u8 0, .int .u8 0, .int .u8 0, .int .u8 0, .int .u8 0, .int .u8 0, .int .u8 0, .int .u8 0, .int .u8 0, .int .u8 0, .int .u8 0] 25)
 rw [World.size_alloc] at hr1
 obtain ⟨W1, HW1⟩ : ∃ V, Hid ((w.alloc (.cells (trC t p).toArray 27)).alloc (.cells #[.int .u8 0, .int .u8 0, .int .u8 0, .int .u8 0, .int .u8 0, .int .u8 0, .int .u8 0, .int .u8 0, .int .u8 0, .int .u8 0, .int .u8 0, .int .u8 0, .int .u8 0, .int .u8 0, .int .u8 0, .int .u8 0, .int .u8 0, .int .u8 0, .int .u8 0, .int .u8 0, .int .u8 0, .int .u8 0, .int .u8 0, .int .u8 0, .int .u8 0, .int .u8 0, .int .u8 0, .int .u8 0, .int .u8 0, .int .u8 0, .int .u8 0, .int .u8 0] 25) = V) := ⟨_, Lib.hid rfl⟩
 rw [HW1.out] at hb0 hr0 hr1
 have HB1 := Lib.hid hb0
 have RT := Lib.hid hr0
 have RZ := Lib.hid hr1
 have HO1 := Lib.hid (h.out.below hb0)
 clear hb0 hr0 hr1
 rw [show trV t p = .agg (trC t p).toArray from rfl]
 go_enter Tryz.func13, Tryz.ntmps13
 go_wp2_with (first | (rw [HW1.out]) | (refine wpList_load_row rfl 27 (.tmp 1) rfl w.heap.size rfl 27 _ (0, 0) _ RT.out Tryz.underlying27 rfl HIT.out ?_))
 rw [show Value.agg (trC t p).toArray = trV t p from rfl]
 refine (rnodes_yes t p W1 HO1 hg).mono ?_
 rintro e W2 ⟨A2, n2, c2, rfl, hin, hq⟩
 have HB2 := Lib.hid (HB1.out.trans (hq.mono HB1.out.size))
 have RZ2 := Lib.hid (row_kept RZ.out hq)
 have HI2 := Lib.hid hin
 have HN2 : Hid (n2 ≤ 100000) := Lib.hid (by rw [← hin.len, List.length_map]; exact trG_lns hg.out)
 clear hq hin
 go_wp2_with fail
 refine (rdigests_any _ A2 n2 c2 W2 HN2.out HI2).mono ?_
 rintro e W3 ⟨A3, n3, c3, rfl, hin, hq⟩
 have HB3 := Lib.hid (HB2.out.trans (hq.mono HB2.out.size))
 have RZ3 := Lib.hid (row_kept RZ2.out hq)
 rw [List.map_map, show ((fun x : Nd => x.d) ∘ ndL t.salt) = lvL t.salt from funext (fun x => ndL_d t.salt x)] at hin
 have HI3 := Lib.hid hin
 have HN3 : Hid (n3 ≤ 100000) := Lib.hid (by rw [← hin.len, List.length_map]; exact trG_lns hg.out)
 clear hq hin
 go_wp2_with fail
 refine (rtree_any n3 _ A3 n3 c3 W3 (Nat.le_refl _) (by have := HN3.out; omega) HI3).mono ?_
 rintro e W4 ⟨rfl, hq⟩
 rw [HR.out]
 have HB4 := Lib.hid (HB3.out.trans (hq.mono HB3.out.size))
 have RZ4 := Lib.hid (row_kept RZ3.out hq)
 clear hq
 rw [dgV_agg]
 go_wp2_with (refine wpList_store_row rfl 25 (.tmp 2) (.tmp 17) rfl (w.heap.size + 1) (dgC r).toArray rfl rfl 25 _ RZ4.out HS1.out HS2.out (dgC_one _) ?_)
 have hl := run_loadVar_row (P := Tryz.prog) (World.setRow W4 (w.heap.size + 1) (dgC r).toArray) (w.heap.size + 1) 25 25 (dgC r).toArray (0, 0) _ (setRow_heap W4 (w.heap.size + 1) _ (dgC r).toArray _ _ RZ4.out) Tryz.underlying25 rfl HS1.out
 refine bodyPost_ret (v := .tuple #[dgV r, .int .i64 0]) ?_ rfl ⟨by rw [HE.out.1, HE.out.2], below_setRow HB4.out (Nat.le_succ _) _⟩
 simp [results, Tryz.results13, asAddr, hl, dgV_agg]
theorem rclaimed_no (t : Tr) (p : TrP) (w : World) (h : Hid (TrOk w t p)) (hg : Hid (trG t = false)) :
  Calls Tryz.prog 15 #[trV t p] w fun e w' => e = .returned (.tuple #[dgV (lstK t), .int .i64 (trE t)]) ∧ Below w.heap.size w w' := by
 have HE : Hid (lstK t = zeroD ∧ trE t = 420) := Lib.hid ⟨by unfold lstK; rw [hg.out]; rfl, trE_no hg.out⟩
 have HIT := Lib.hid (trV_info t p h.out.len)
 have HSZ := Lib.hid (dgC_info zeroD_ok)
 have hb0 := ((Below.refl _ w).alloc (Nat.le_refl _) (.cells (trC t p).toArray 27)).alloc (by simp) (.cells #[.int .u8 0, .int .u8 0, .int .u8 0, .int .u8 0, .int .u8 0, .int .u8 0, .int .u8 0, .int .u8 0, .int .u8 0, .int .u8 0, .int .u8 0, .int .u8 0, .int .u8 0, .int .u8 0, .int .u8 0, .int .u8 0, .int .u8 0, .int .u8 0, .int .u8 0, .int .u8 0, .int .u8 0, .int .u8 0, .int .u8 0, .int .u8 0, .int .u8 0, .int .u8 0, .int .u8 0, .int .u8 0, .int .u8 0, .int .u8 0, .int .u8 0, .int .u8 0] 25)
 have hr0 := (Below.heap_alloc (w.alloc (.cells (trC t p).toArray 27)) (.cells #[.int .u8 0, .int .u8 0, .int .u8 0, .int .u8 0, .int .u8 0, .int .u8 0, .int .u8 0, .int .u8 0, .int .u8 0, .int .u8 0, .int .u8 0, .int .u8 0, .int .u8 0, .int .u8 0, .int .u8 0, .int .u8 0, .int .u8 0, .int .u8 0, .int .u8 0, .int .u8 0, .int .u8 0, .int .u8 0, .int .u8 0, .int .u8 0, .int .u8 0, .int .u8 0, .int .u8 0, .int .u8 0, .int .u8 0, .int .u8 0, .int .u8 0, .int .u8 0] 25) w.heap.size (by simp)).trans (heap_alloc_new w (.cells (trC t p).toArray 27))
 have hr1 := heap_alloc_new (w.alloc (.cells (trC t p).toArray 27)) (.cells #[.int .u8 0, .int .u8 0, .int .u8 0, .int .u8 0, .int .u8 0, .int .u8 0, .int .u8 0, .int .u8 0, .int .u8 0, .int .u8 0, .int .u8 0, .int .u8 0, .int .u8 0, .int .u8 0, .int .u8 0, .int .u8 0, .int .u8 0, .int .u8 0, .int .u8 0, .int .u8 0, .int .u8 0, .int .u8 0, .int .u8 0, .int .u8 0, .int .u8 0, .int .u8 0, .int .u8 0, .int .u8 0, .int .u8 0, .int .u8 0, .int .u8 0, .int .u8 0] 25)
 rw [World.size_alloc] at hr1
 obtain ⟨W1, HW1⟩ : ∃ V, Hid ((w.alloc (.cells (trC t p).toArray 27)).alloc (.cells #[.int .u8 0, .int .u8 0, .int .u8 0, .int .u8 0, .int .u8 0, .int .u8 0, .int .u8 0, .int .u8 0, .int .u8 0, .int .u8 0, .int .u8 0, .int .u8 0, .int .u8 0, .int .u8 0, .int .u8 0, .int .u8 0, .int .u8 0, .int .u8 0, .int .u8 0, .int .u8 0, .int .u8 0, .int .u8 0, .int .u8 0, .int .u8 0, .int .u8 0, .int .u8 0, .int .u8 0, .int .u8 0, .int .u8 0, .int .u8 0, .int .u8 0, .int .u8 0] 25) = V) := ⟨_, Lib.hid rfl⟩
 rw [HW1.out] at hb0 hr0 hr1
 have HB1 := Lib.hid hb0
 have RT := Lib.hid hr0
 have RZ := Lib.hid hr1
 have HO1 := Lib.hid (h.out.below hb0)
 clear hb0 hr0 hr1
 rw [show trV t p = .agg (trC t p).toArray from rfl]
 go_enter Tryz.func15, Tryz.ntmps15
 go_wp2_with (first | (rw [HW1.out]) | (refine wpList_load_row rfl 27 (.tmp 1) rfl w.heap.size rfl 27 _ (0, 0) _ RT.out Tryz.underlying27 rfl HIT.out ?_))
 rw [show Value.agg (trC t p).toArray = trV t p from rfl]
 refine (rcheck42_any t p W1 HO1).mono ?_
 rintro e W2 ⟨rfl, hq⟩
 rw [HE.out.2]
 have HB2 := Lib.hid (HB1.out.trans (hq.mono HB1.out.size))
 have RZ2 := Lib.hid (row_kept RZ.out hq)
 clear hq
 go_wp2_with (first | (refine wpList_build rfl _ _ rfl built_zD2 ?_) | (refine wpList_store_row rfl 25 (.tmp 2) (.tmp 7) rfl (w.heap.size + 1) (dgC zeroD).toArray rfl rfl 25 _ RZ2.out HSZ.out rfl (dgC_one _) ?_))
 have hl := run_loadVar_row (P := Tryz.prog) (World.setRow W2 (w.heap.size + 1) (dgC zeroD).toArray) (w.heap.size + 1) 25 25 (dgC zeroD).toArray (0, 0) _ (setRow_heap W2 (w.heap.size + 1) _ (dgC zeroD).toArray _ _ RZ2.out) Tryz.underlying25 rfl HSZ.out
 refine bodyPost_ret (v := .tuple #[dgV zeroD, .int .i64 420]) ?_ rfl ⟨by rw [HE.out.1, HE.out.2], below_setRow HB2.out (Nat.le_succ _) _⟩
 rw [dgV_agg]
 simp [results, Tryz.results15, asAddr, hl]
theorem rclaimed_yes (t : Tr) (p : TrP) (w : World) (h : Hid (TrOk w t p)) (hg : Hid (trG t = true)) :
  Calls Tryz.prog 15 #[trV t p] w fun e w' => e = .returned (.tuple #[dgV (lstK t), .int .i64 (trE t)]) ∧ Below w.heap.size w w' := by
 have HNL : Hid (p.n2 ≤ 100000) := Lib.hid (by have := trG_cls hg.out; rw [h.out.cl.len] at this; exact this)
 obtain ⟨r, HR⟩ : ∃ r, Hid (treeD (t.cl.map (lvK t.salt)) = r) := ⟨_, Lib.hid rfl⟩
 have HRO : Hid (DgOk r) := Lib.hid (by rw [← HR.out]; exact treeD_okD _)
 have HE : Hid (lstK t = r ∧ trE t = 0) := Lib.hid ⟨by unfold lstK; rw [hg.out, ← HR.out]; rfl, trE_yes hg.out⟩
 have HS1 := Lib.hid (dgC_info HRO.out)
 have HS2 := Lib.hid (dgC_size HRO.out)
 have HIT := Lib.hid (trV_info t p h.out.len)
 have HSZ := Lib.hid (dgC_info zeroD_ok)
 have hb0 := ((Below.refl _ w).alloc (Nat.le_refl _) (.cells (trC t p).toArray 27)).alloc (by simp) (.cells #[.int .u8 0, .int .u8 0, .int .u8 0, .int .u8 0, .int .u8 0, .int .u8 0, .int .u8 0, .int .u8 0, .int .u8 0, .int .u8 0, .int .u8 0, .int .u8 0, .int .u8 0, .int .u8 0, .int .u8 0, .int .u8 0, .int .u8 0, .int .u8 0, .int .u8 0, .int .u8 0, .int .u8 0, .int .u8 0, .int .u8 0, .int .u8 0, .int .u8 0, .int .u8 0, .int .u8 0, .int .u8 0, .int .u8 0, .int .u8 0, .int .u8 0, .int .u8 0] 25)
 have hr0 := (Below.heap_alloc (w.alloc (.cells (trC t p).toArray 27)) (.cells #[.int .u8 0, .int .u8 0, .int .u8 0, .int .u8 0, .int .u8 0, .int .u8 0, .int .u8 0, .int .u8 0, .int .u8 0, .int .u8 0, .int .u8 0, .int .u8 0, .int .u8 0, .int .u8 0, .int .u8 0, .int .u8 0, .int .u8 0, .int .u8 0, .int .u8 0, .int .u8 0, .int .u8 0, .int .u8 0, .int .u8 0, .int .u8 0, .int .u8 0, .int .u8 0, .int .u8 0, .int .u8 0, .int .u8 0, .int .u8 0, .int .u8 0, .int .u8 0] 25) w.heap.size (by simp)).trans (heap_alloc_new w (.cells (trC t p).toArray 27))
 have hr1 := heap_alloc_new (w.alloc (.cells (trC t p).toArray 27)) (.cells #[.int .u8 0, .int .u8 0, .int .u8 0, .int .u8 0, .int .u8 0, .int .u8 0, .int .u8 0, .int .u8 0, .int .u8 0, .int .u8 0, .int .u8 0, .int .u8 0, .int .u8 0, .int .u8 0, .int .u8 0, .int .u8 0, .int .u8 0, .int .u8 0, .int .u8 0, .int .u8 0, .int .u8 0, .int .u8 0, .int .u8 0, .int .u8 0, .int .u8 0, .int .u8 0, .int .u8 0, .int .u8 0, .int .u8 0, .int .u8 0, .int .u8 0, .int .u8 0] 25)
 rw [World.size_alloc] at hr1
 obtain ⟨W1, HW1⟩ : ∃ V, Hid ((w.alloc (.cells (trC t p).toArray 27)).alloc (.cells #[.int .u8 0, .int .u8 0, .int .u8 0, .int .u8 0, .int .u8 0, .int .u8 0, .int .u8 0, .int .u8 0, .int .u8 0, .int .u8 0, .int .u8 0, .int .u8 0, .int .u8 0, .int .u8 0, .int .u8 0, .int .u8 0, .int .u8 0, .int .u8 0, .int .u8 0, .int .u8 0, .int .u8 0, .int .u8 0, .int .u8 0, .int .u8 0, .int .u8 0, .int .u8 0, .int .u8 0, .int .u8 0, .int .u8 0, .int .u8 0, .int .u8 0, .int .u8 0] 25) = V) := ⟨_, Lib.hid rfl⟩
 rw [HW1.out] at hb0 hr0 hr1
 have HB1 := Lib.hid hb0
 have RT := Lib.hid hr0
 have RZ := Lib.hid hr1
 have HO1 := Lib.hid (h.out.below hb0)
 clear hb0 hr0 hr1
 rw [show trV t p = .agg (trC t p).toArray from rfl]
 go_enter Tryz.func15, Tryz.ntmps15
 go_wp2_with (first | (rw [HW1.out]) | (refine wpList_load_row rfl 27 (.tmp 1) rfl w.heap.size rfl 27 _ (0, 0) _ RT.out Tryz.underlying27 rfl HIT.out ?_))
 rw [show Value.agg (trC t p).toArray = trV t p from rfl]
 refine (rcheck42_any t p W1 HO1).mono ?_
 rintro e W2 ⟨rfl, hq⟩
 rw [HE.out.2]
 have HB2 := Lib.hid (HB1.out.trans (hq.mono HB1.out.size))
 have RZ2 := Lib.hid (row_kept RZ.out hq)
 have RT2 := Lib.hid (row_kept RT.out hq)
 have HO2 := Lib.hid (HO1.out.below hq)
 clear hq
 go_wp2_with (refine wpList_load_row rfl 27 (.tmp 1) rfl w.heap.size rfl 27 _ (0, 0) _ RT2.out Tryz.underlying27 rfl HIT.out ?_)
 rw [show Value.agg (trC t p).toArray = trV t p from rfl]
 refine (rcleaves_any t p W2 HO2 HNL.out).mono ?_
 rintro e W3 ⟨A3, n3, c3, rfl, hin, hq⟩
 have HB3 := Lib.hid (HB2.out.trans (hq.mono HB2.out.size))
 have RZ3 := Lib.hid (row_kept RZ2.out hq)
 have HI3 := Lib.hid hin
 have HN3 : Hid (n3 ≤ 100000) := Lib.hid (by rw [← hin.len, List.length_map]; exact trG_cls hg.out)
 clear hq hin
 go_wp2_with fail
 refine (rtree_any n3 _ A3 n3 c3 W3 (Nat.le_refl _) (by have := HN3.out; omega) HI3).mono ?_
 rintro e W4 ⟨rfl, hq⟩
 rw [HR.out]
 have HB4 := Lib.hid (HB3.out.trans (hq.mono HB3.out.size))
 have RZ4 := Lib.hid (row_kept RZ3.out hq)
 clear hq
 rw [dgV_agg]
 go_wp2_with (refine wpList_store_row rfl 25 (.tmp 2) (.tmp 10) rfl (w.heap.size + 1) (dgC r).toArray rfl rfl 25 _ RZ4.out HS1.out HS2.out (dgC_one _) ?_)
 have hl := run_loadVar_row (P := Tryz.prog) (World.setRow W4 (w.heap.size + 1) (dgC r).toArray) (w.heap.size + 1) 25 25 (dgC r).toArray (0, 0) _ (setRow_heap W4 (w.heap.size + 1) _ (dgC r).toArray _ _ RZ4.out) Tryz.underlying25 rfl HS1.out
 refine bodyPost_ret (v := .tuple #[dgV r, .int .i64 0]) ?_ rfl ⟨by rw [HE.out.1, HE.out.2], below_setRow HB4.out (Nat.le_succ _) _⟩
 simp [results, Tryz.results15, asAddr, hl, dgV_agg]
theorem rlisted_any (t : Tr) (p : TrP) (w : World) (h : Hid (TrOk w t p)) :
  Calls Tryz.prog 13 #[trV t p] w fun e w' => e = .returned (.tuple #[dgV (lstL t), .int .i64 (trE t)]) ∧ Below w.heap.size w w' := by
 cases hg : trG t with
 | true => exact rlisted_yes t p w h (Lib.hid hg)
 | false => exact rlisted_no t p w h (Lib.hid hg)
theorem rclaimed_any (t : Tr) (p : TrP) (w : World) (h : Hid (TrOk w t p)) :
  Calls Tryz.prog 15 #[trV t p] w fun e w' => e = .returned (.tuple #[dgV (lstK t), .int .i64 (trE t)]) ∧ Below w.heap.size w w' := by
 cases hg : trG t with
 | true => exact rclaimed_yes t p w h (Lib.hid hg)
 | false => exact rclaimed_no t p w h (Lib.hid hg)
def wR42n (g : Nat) (off : Nat) (n : Nat) (c : Nat) (g2 : Nat) (off2 : Nat) (c2 : Nat) (jn : Nat) (x : Nd) : Nat → Value → World → Prop
 | 0, fv, _ => fv = .slice (some ⟨g, off, none⟩) n c
 | 1, fv, _ => fv = .int .i64 ((jn : Nat))
 | 2, fv, _ => fv = .pointer (some ⟨g, off + jn * 34, none⟩)
 | 3, fv, _ => fv = ndV x
 | 4, fv, _ => fv = .slice (some ⟨g2, off2, none⟩) n c2
 | 5, fv, _ => fv = .int .i64 ((jn : Nat))
 | 6, fv, _ => fv = .pointer (some ⟨g2, off2 + jn * 34, none⟩)
 | 7, fv, _ => fv = ndV x
 | 8, fv, _ => fv = .bool false
 | _, _, _ => True
theorem rsameN (ls : List Nd) (A A2 : Option Addr) (n c c2 : Nat) (w : World) (hn : n ≤ 100000) (h : Hid (InN w A n c ls)) (h2 : Hid (InN w A2 n c2 ls)) :
  Calls Tryz.prog 16 #[.slice A n c, .slice A2 n c2] w fun e w' => e = .returned (.bool true) ∧ Below w.heap.size w w' := by
 have HN := Lib.hid (show ls.length = n from h.out.len)
 have HB0 := Lib.hid (Below.refl w.heap.size w)
 have dn : ((n : Int) == (n : Int)) = true := beq_self_eq_true _
 have dn2 : ((n : Int) != (n : Int)) = false := by simp
 go_enter Tryz.func16, Tryz.ntmps16
 go_wp2_with fail
 go_loopw [5] (fun i wr => ∃ (j : Nat), j ≤ n ∧ i = .int .i64 j ∧ Hid (Below w.heap.size w wr)) (fun i _ => n - (intOf i).toNat)
 case atStart => exact ⟨0, by omega, rfl, HB0⟩
 case round =>
  clear HB0
  obtain ⟨j, hj, rfl, HB⟩ := hrel
  by_cases hlt : j < n
  ·have d1 : decide ((j : Int) < (n : Int)) = true := decide_eq_true (by omega)
   have d2 : decide (j < n) = true := decide_eq_true hlt
   have HLT := Lib.hid hlt
   have hjl : j < ls.length := by rw [HN.out]; exact hlt
   obtain ⟨g, off, rfl, hg1, hr1⟩ := h.out.rd (by omega)
   obtain ⟨g2, off2, rfl, hg2, hr2⟩ := h2.out.rd (by omega)
   obtain ⟨x, hx⟩ : ∃ x, ls[j] = x := ⟨_, rfl⟩
   have HXO : Hid (NdOk x) := Lib.hid (by rw [← hx]; exact h.out.ok _ (List.getElem_mem hjl))
   have HR1 : Hid (wr.rangeAt g (off + j * 34) (ndC x)) := Lib.hid (by rw [← hx]; exact rangeAt_below (range_one hr1 h.out.ok j hjl) hg1 HB.out)
   have HR2 : Hid (wr.rangeAt g2 (off2 + j * 34) (ndC x)) := Lib.hid (by rw [← hx]; exact rangeAt_below (range_one hr2 h2.out.ok j hjl) hg2 HB.out)
   have HG1 : Hid (g < wr.heap.size) := Lib.hid (Nat.lt_of_lt_of_le hg1 HB.out.size)
   have HG2 : Hid (g2 < wr.heap.size) := Lib.hid (Nat.lt_of_lt_of_le hg2 HB.out.size)
   have HII := Lib.hid (size34 HXO.out)
   clear hr1 hr2 hx hg1 hg2 hjl
   go_wp2_with fail
   refine region_flow3 (by kernel_rfl) (by kernel_rfl) (fun i => Nat.beq i 8) (fun i => i) (by kernel_rfl) (fun fx => #[.slice (some { block := g, off := off }) n c, .slice (some { block := g2, off := off2 }) n c2, undef, undef, u4, .int IntKind.i64 ↑j, .slice (some { block := g, off := off }) n c, .int IntKind.i64 ↑n, .slice (some { block := g2, off := off2 }) n c2, .int IntKind.i64 ↑n, .bool false, .int IntKind.i64 ↑j, .slice (some { block := g, off := off }) n c, .int IntKind.i64 ↑n, .bool true, u15, u16, fx 0, fx 1, fx 2, fx 3, fx 4, fx 5, fx 6, fx 7, fx 8]) (fun i => bif Nat.beq i 0 then u17 else bif Nat.beq i 1 then u18 else bif Nat.beq i 2 then u19 else bif Nat.beq i 3 then u20 else bif Nat.beq i 4 then u21 else bif Nat.beq i 5 then u22 else bif Nat.beq i 6 then u23 else bif Nat.beq i 7 then u24 else bif Nat.beq i 8 then u25 else undef) (fun L fx w' => Below wr.heap.size wr w') (fun fi fv _ fw => wR42n g off n c g2 off2 c2 j x fi fv fw) (Below.refl _ _).drew ?_ ?_
   ·refine ⟨?_, ?_, ?_, ?_, ?_, ?_, ?_, ?_, ?_, trivial⟩
    all_goals intro L fx w' hC hi hcl hdn hd
    ·clear hd
     go_wp2_with fail
     exact ⟨_, rfl, hC, rfl, kP⟩
    ·clear hd
     go_wp2_with fail
     exact ⟨_, rfl, hC, rfl, kP⟩
    ·have h0 : fx 0 = .slice (some ⟨g, off, none⟩) n c := hd.1 rfl
     have h1 : fx 1 = .int .i64 ((j : Nat)) := hd.2.1 rfl
     have hlt := HLT.out
     have hltn : decide (j < n) = true := decide_eq_true hlt
     clear hd
     go_wp2_with fail
     exact ⟨_, by simp only [upd, h0, h1]; rfl, hC, rfl, kP⟩
    ·have h2 : fx 2 = .pointer (some ⟨g, off + j * 34, none⟩) := hd.1 rfl
     have hrow := rangeAt_below HR1.out HG1.out hC
     refine wpList_load_mid rfl 39 (.tmp 19) rfl g (off + j * 34) h2 (ndC x) _ hrow Tryz.underlying39 rfl HII.out ?_
     rw [show Value.agg (ndC x).toArray = ndV x from rfl]
     clear hd
     go_wp2_with fail
     exact ⟨_, by simp only [upd, h2]; rfl, hC, rfl, kP⟩
    ·clear hd
     go_wp2_with fail
     exact ⟨_, rfl, hC, rfl, kP⟩
    ·clear hd
     go_wp2_with fail
     exact ⟨_, rfl, hC, rfl, kP⟩
    ·have h4 : fx 4 = .slice (some ⟨g2, off2, none⟩) n c2 := hd.1 rfl
     have h5 : fx 5 = .int .i64 ((j : Nat)) := hd.2.1 rfl
     have hlt := HLT.out
     have hltn : decide (j < n) = true := decide_eq_true hlt
     clear hd
     go_wp2_with fail
     exact ⟨_, by simp only [upd, h4, h5]; rfl, hC, rfl, kP⟩
    ·have h6 : fx 6 = .pointer (some ⟨g2, off2 + j * 34, none⟩) := hd.1 rfl
     have hrow := rangeAt_below HR2.out HG2.out hC
     refine wpList_load_mid rfl 39 (.tmp 23) rfl g2 (off2 + j * 34) h6 (ndC x) _ hrow Tryz.underlying39 rfl HII.out ?_
     rw [show Value.agg (ndC x).toArray = ndV x from rfl]
     clear hd
     go_wp2_with fail
     exact ⟨_, by simp only [upd, h6]; rfl, hC, rfl, kP⟩
    ·have h3 : fx 3 = ndV x := hd.1 rfl
     have h7 : fx 7 = ndV x := hd.2.1 rfl
     refine wpList_neq_nd rfl (.tmp 20) (.tmp 24) _ rfl x x h3 h7 HXO.out HXO.out ?_
     rw [show (!(ndEq x x)) = false by rw [ndEq_refl]; rfl]
     clear hd
     go_wp2_with fail
     exact ⟨_, by simp only [upd, h3, h7]; rfl, hC, rfl, kP⟩
   ·intro L fo w' hC hS
    have H8 := Lib.hid (hS 8 (by decide) rfl)
    have h8 : fo 8 = .bool false := H8.out
    rw [h8]
    have HB5 := Lib.hid (HB.out.trans (hC.mono HB.out.size))
    clear hS hC h8 H8
    go_wp2_with fail
    go_roundw
    case rel => exact ⟨j + 1, by omega, by go_num, HB5⟩
    case measure => simp [intOf]; omega
  ·have d1 : decide ((j : Int) < (n : Int)) = false := decide_eq_false (by omega)
   have d1n : decide (j < n) = false := decide_eq_false hlt
   go_wp2_with fail
   go_ret
   exact ⟨rfl, HB.out⟩
end Go.Proofs.YtmfmgeapecapiaaGreatDoor
