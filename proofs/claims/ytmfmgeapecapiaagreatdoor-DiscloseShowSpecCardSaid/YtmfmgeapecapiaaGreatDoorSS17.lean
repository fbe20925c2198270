/- sizarref42: ClaimInput, ClaimLeaf. sizarref02.Tree. sizarref02: path, Path. sizarref42: Digests, ClaimLeaves. -/
import Derived.Test.YtmfmgeapecapiaaGreatDoorSS15
import Derived.Test.YtmfmgeapecapiaaGreatDoorSS16
import Derived.Test.YtmfmgeapecapiaaGreatDoorSS7
import Derived.Test.YtmfmgeapecapiaaGreatDoorSS5
set_option maxHeartbeats 64000001
open Go.Lib (hid)
namespace Go.Proofs.YtmfmgeapecapiaaGreatDoor
open Go.RowKit SzSha SzTree
set_option linter.unusedVariables false
set_option maxRecDepth 100000
theorem rinp_y (x : Cl) (s : Dg) (w : World) (hm : Hid (x.m = true)) (hx : Hid (ClOk x)) (hs : Hid (DgOk s)) :
  Calls Tryz.prog 118 #[clV x, dgV s] w fun e w' => ∃ A n c, e = .returned (.slice A n c) ∧ In w' A n c (s ++ encI [x.p, x.r, 1]) ∧ Below w.heap.size w w' := by
 obtain ⟨zs, HZS⟩ : ∃ zs : List Int, Hid ([x.p, x.r, 1] = zs) := ⟨_, hid rfl⟩
 have HM : Hid (zs.length = 3) := hid (by rw [← HZS.out]; rfl)
 have HZ : Hid (∀ z ∈ zs, -9223372036854775808 ≤ z ∧ z ≤ 9223372036854775807) := hid (fun z hz => by
  have h0 := hx.out.b0; have h1 := hx.out.b1
  unfold I64 at h0 h1
  rw [← HZS.out] at hz
  simp only [List.mem_cons, List.not_mem_nil, or_false] at hz
  rcases hz with rfl | rfl | rfl <;> omega)
 have hb0 := ((Below.refl _ w).alloc (Nat.le_refl _) (.cells (clC x).toArray 56)).alloc (by simp) (.cells (dgC s).toArray 25)
 have hr0 := (Below.heap_alloc (w.alloc (.cells (clC x).toArray 56)) (.cells (dgC s).toArray 25) w.heap.size (by simp)).trans (heap_alloc_new w (.cells (clC x).toArray 56))
 have hr1 := heap_alloc_new (w.alloc (.cells (clC x).toArray 56)) (.cells (dgC s).toArray 25)
 rw [World.size_alloc] at hr1
 obtain ⟨W2, HW2⟩ : ∃ V, Hid ((w.alloc (.cells (clC x).toArray 56)).alloc (.cells (dgC s).toArray 25) = V) := ⟨_, hid rfl⟩
 rw [HW2.out] at hb0 hr0 hr1
 have k0 : W2.cell? ⟨w.heap.size, 0, none⟩ = some (.int .i64 x.p) := by rw [cell_of_row _ _ _ _ _ _ hr0]; rfl
 have k1 : W2.cell? ⟨w.heap.size, 1, none⟩ = some (.int .i64 x.r) := by rw [cell_of_row _ _ _ _ _ _ hr0]; rfl
 have k2 : W2.cell? ⟨w.heap.size, 2, none⟩ = some (.bool true) := by rw [cell_of_row _ _ _ _ _ _ hr0, ← hm.out]; rfl
 have hb2 := (Below.refl _ W2).alloc (Nat.le_refl _) (.cells #[.int .i64 x.p, .int .i64 x.r, .int .i64 1] 3)
 have hr2 := heap_alloc_new W2 (.cells #[.int .i64 x.p, .int .i64 x.r, .int .i64 1] 3)
 obtain ⟨W3, HW3⟩ : ∃ V, Hid (W2.alloc (.cells #[.int .i64 x.p, .int .i64 x.r, .int .i64 1] 3) = V) := ⟨_, hid rfl⟩
 rw [HW3.out] at hb2 hr2
 have HB3 := hid (hb0.trans (hb2.mono hb0.size))
 have RD3 := hid (row_kept hr1 hb2)
 have HZC : Hid (∀ i, i < 3 → W3.cell? ⟨W2.heap.size, i, none⟩ = some (.int .i64 (zs.getD i 0))) := hid (fun i hi => by
  rw [cell_of_row _ _ _ _ _ _ hr2, ← HZS.out]
  match i, hi with
  | 0, _ => rfl
  | 1, _ => rfl
  | 2, _ => rfl)
 have HGZ : Hid (W2.heap.size < W3.heap.size) := hid (Array.getElem?_eq_some_iff.1 hr2).1
 have HSD := hid (show s.length = 32 from hs.out.len)
 clear hb0 hr0 hr1 hb2 hr2
 rw [HZS.out, show clV x = .agg (clC x).toArray from rfl, dgV_agg s]
 go_enter Tryz.func118, Tryz.ntmps118
 go_wp2_with (first | (rw [HW2.out]) | (rw [HW3.out]))
 clear k0 k1 k2
 refine (rInts_any zs W2.heap.size 3 3 W3 HZ HM.out (by omega) HZC HGZ.out).mono ?_
 rintro e W4 ⟨A1, c1, rfl, hv, hq⟩
 have HV1 := hid hv
 have HB4 := hid (HB3.out.trans (hq.mono HB3.out.size))
 have RD4 := hid (row_kept RD3.out hq)
 clear hv hq
 go_wp2_with fail
 refine (rEncode_list zs A1 c1 _ HZ (by rw [HM.out]; omega) HV1).mono ?_
 rintro e W5 ⟨v5, rfl, ho5, hq5⟩
 obtain ⟨A2, n2, c2, rfl, hn2, hc2, hA2, HR2⟩ := ho5.slice
 have HB5 := hid (HB4.out.trans (hq5.mono HB4.out.size))
 have RD5 := hid (row_kept RD4.out hq5)
 have HEL : Hid (n2 ≤ 20000) := hid (by rw [← hn2.out]; have := encI_length zs; rw [HM.out] at this; omega)
 clear hq5 ho5
 have HOE := hid (ownB_mt2 W5 W5.heap.size (Nat.le_refl _))
 have hbe := (Below.refl _ W5).alloc (Nat.le_refl _) (.cells #[] 5)
 obtain ⟨W6, HW6⟩ : ∃ V, Hid (W5.alloc (.cells #[] 5) = V) := ⟨_, hid rfl⟩
 rw [HW6.out] at HOE hbe
 have HSW : Hid (w.heap.size ≤ W5.heap.size) := hid HB5.out.size
 have HBE := hid hbe
 have HS6 := hid hbe.size
 have RD6 := hid (row_kept RD5.out hbe)
 have HRD : Hid (Rd W6 W6.heap.size (some ⟨w.heap.size + 1, 0, none⟩) s) := hid (rd_row RD6.out)
 have HL0 : Hid (([] : List Nat).length + 32 ≤ 1099511627776) := hid (by simp)
 clear hbe
 go_wp2_with (first | (rw [HW6.out]) | (refine wpList_append_bytes rfl (.tmp 21) (.tmp 22) rfl W5.heap.size _ [] s rfl HOE (some ⟨w.heap.size + 1, 0, none⟩) 32 32 rfl HSD (fun h => by cases h) HRD HL0.out HS6.out ?_))
 intro v7 W7 HO7 HB7
 have hb7 := HBE.out.trans HB7.out
 have HR7 := hid ((HR2.out.below hb7 (Nat.le_refl _)).mono hb7.size)
 have HS7 := hid hb7.size
 have HBX := hid (HB5.out.trans (hb7.mono HSW.out))
 have HL7 : Hid (([] ++ s : List Nat).length + n2 ≤ 1099511627776) := hid (by rw [List.nil_append, HSD.out]; have := HEL.out; omega)
 clear hb7
 go_wp2_with (refine wpList_append_bytes rfl (.tmp 23) (.tmp 24) rfl W5.heap.size v7 ([] ++ s) (encI zs) rfl HO7 A2 n2 c2 rfl hn2 hA2.out HR7 HL7.out HS7.out ?_)
 intro v8 W8 HO8 HB8
 obtain ⟨A6, n6, c6, rfl, hn6, hc6, hA6, HR6⟩ := HO8.out.slice
 have HBY := hid (HBX.out.trans (HB8.out.mono HSW.out))
 go_wp2_with fail
 go_ret
 exact ⟨_, _, _, rfl, ⟨hn6.out, hc6, hA6.out, bytes_app2 hs.out.bytes (encI_bytes zs), HR6.out⟩, HBY.out⟩
theorem rinp_n (x : Cl) (s : Dg) (w : World) (hm : Hid (x.m = false)) (hx : Hid (ClOk x)) (hs : Hid (DgOk s)) :
  Calls Tryz.prog 118 #[clV x, dgV s] w fun e w' => ∃ A n c, e = .returned (.slice A n c) ∧ In w' A n c (s ++ encI [x.p, x.r, 0]) ∧ Below w.heap.size w w' := by
 obtain ⟨zs, HZS⟩ : ∃ zs : List Int, Hid ([x.p, x.r, 0] = zs) := ⟨_, hid rfl⟩
 have HM : Hid (zs.length = 3) := hid (by rw [← HZS.out]; rfl)
 have HZ : Hid (∀ z ∈ zs, -9223372036854775808 ≤ z ∧ z ≤ 9223372036854775807) := hid (fun z hz => by
  have h0 := hx.out.b0; have h1 := hx.out.b1
  unfold I64 at h0 h1
  rw [← HZS.out] at hz
  simp only [List.mem_cons, List.not_mem_nil, or_false] at hz
  rcases hz with rfl | rfl | rfl <;> omega)
 have hb0 := ((Below.refl _ w).alloc (Nat.le_refl _) (.cells (clC x).toArray 56)).alloc (by simp) (.cells (dgC s).toArray 25)
 have hr0 := (Below.heap_alloc (w.alloc (.cells (clC x).toArray 56)) (.cells (dgC s).toArray 25) w.heap.size (by simp)).trans (heap_alloc_new w (.cells (clC x).toArray 56))
 have hr1 := heap_alloc_new (w.alloc (.cells (clC x).toArray 56)) (.cells (dgC s).toArray 25)
 rw [World.size_alloc] at hr1
 obtain ⟨W2, HW2⟩ : ∃ V, Hid ((w.alloc (.cells (clC x).toArray 56)).alloc (.cells (dgC s).toArray 25) = V) := ⟨_, hid rfl⟩
 rw [HW2.out] at hb0 hr0 hr1
 have k0 : W2.cell? ⟨w.heap.size, 0, none⟩ = some (.int .i64 x.p) := by rw [cell_of_row _ _ _ _ _ _ hr0]; rfl
 have k1 : W2.cell? ⟨w.heap.size, 1, none⟩ = some (.int .i64 x.r) := by rw [cell_of_row _ _ _ _ _ _ hr0]; rfl
 have k2 : W2.cell? ⟨w.heap.size, 2, none⟩ = some (.bool false) := by rw [cell_of_row _ _ _ _ _ _ hr0, ← hm.out]; rfl
 have hb2 := (Below.refl _ W2).alloc (Nat.le_refl _) (.cells #[.int .i64 x.p, .int .i64 x.r, .int .i64 0] 3)
 have hr2 := heap_alloc_new W2 (.cells #[.int .i64 x.p, .int .i64 x.r, .int .i64 0] 3)
 obtain ⟨W3, HW3⟩ : ∃ V, Hid (W2.alloc (.cells #[.int .i64 x.p, .int .i64 x.r, .int .i64 0] 3) = V) := ⟨_, hid rfl⟩
 rw [HW3.out] at hb2 hr2
 have HB3 := hid (hb0.trans (hb2.mono hb0.size))
 have RD3 := hid (row_kept hr1 hb2)
 have HZC : Hid (∀ i, i < 3 → W3.cell? ⟨W2.heap.size, i, none⟩ = some (.int .i64 (zs.getD i 0))) := hid (fun i hi => by
  rw [cell_of_row _ _ _ _ _ _ hr2, ← HZS.out]
  match i, hi with
  | 0, _ => rfl
  | 1, _ => rfl
  | 2, _ => rfl)
 have HGZ : Hid (W2.heap.size < W3.heap.size) := hid (Array.getElem?_eq_some_iff.1 hr2).1
 have HSD := hid (show s.length = 32 from hs.out.len)
 clear hb0 hr0 hr1 hb2 hr2
 rw [HZS.out, show clV x = .agg (clC x).toArray from rfl, dgV_agg s]
 go_enter Tryz.func118, Tryz.ntmps118
 go_wp2_with (first | (rw [HW2.out]) | (rw [HW3.out]))
 clear k0 k1 k2
 refine (rInts_any zs W2.heap.size 3 3 W3 HZ HM.out (by omega) HZC HGZ.out).mono ?_
 rintro e W4 ⟨A1, c1, rfl, hv, hq⟩
 have HV1 := hid hv
 have HB4 := hid (HB3.out.trans (hq.mono HB3.out.size))
 have RD4 := hid (row_kept RD3.out hq)
 clear hv hq
 go_wp2_with fail
 refine (rEncode_list zs A1 c1 _ HZ (by rw [HM.out]; omega) HV1).mono ?_
 rintro e W5 ⟨v5, rfl, ho5, hq5⟩
 obtain ⟨A2, n2, c2, rfl, hn2, hc2, hA2, HR2⟩ := ho5.slice
 have HB5 := hid (HB4.out.trans (hq5.mono HB4.out.size))
 have RD5 := hid (row_kept RD4.out hq5)
 have HEL : Hid (n2 ≤ 20000) := hid (by rw [← hn2.out]; have := encI_length zs; rw [HM.out] at this; omega)
 clear hq5 ho5
 have HOE := hid (ownB_mt2 W5 W5.heap.size (Nat.le_refl _))
 have hbe := (Below.refl _ W5).alloc (Nat.le_refl _) (.cells #[] 5)
 obtain ⟨W6, HW6⟩ : ∃ V, Hid (W5.alloc (.cells #[] 5) = V) := ⟨_, hid rfl⟩
 rw [HW6.out] at HOE hbe
 have HSW : Hid (w.heap.size ≤ W5.heap.size) := hid HB5.out.size
 have HBE := hid hbe
 have HS6 := hid hbe.size
 have RD6 := hid (row_kept RD5.out hbe)
 have HRD : Hid (Rd W6 W6.heap.size (some ⟨w.heap.size + 1, 0, none⟩) s) := hid (rd_row RD6.out)
 have HL0 : Hid (([] : List Nat).length + 32 ≤ 1099511627776) := hid (by simp)
 clear hbe
 go_wp2_with (first | (rw [HW6.out]) | (refine wpList_append_bytes rfl (.tmp 21) (.tmp 22) rfl W5.heap.size _ [] s rfl HOE (some ⟨w.heap.size + 1, 0, none⟩) 32 32 rfl HSD (fun h => by cases h) HRD HL0.out HS6.out ?_))
 intro v7 W7 HO7 HB7
 have hb7 := HBE.out.trans HB7.out
 have HR7 := hid ((HR2.out.below hb7 (Nat.le_refl _)).mono hb7.size)
 have HS7 := hid hb7.size
 have HBX := hid (HB5.out.trans (hb7.mono HSW.out))
 have HL7 : Hid (([] ++ s : List Nat).length + n2 ≤ 1099511627776) := hid (by rw [List.nil_append, HSD.out]; have := HEL.out; omega)
 clear hb7
 go_wp2_with (refine wpList_append_bytes rfl (.tmp 23) (.tmp 24) rfl W5.heap.size v7 ([] ++ s) (encI zs) rfl HO7 A2 n2 c2 rfl hn2 hA2.out HR7 HL7.out HS7.out ?_)
 intro v8 W8 HO8 HB8
 obtain ⟨A6, n6, c6, rfl, hn6, hc6, hA6, HR6⟩ := HO8.out.slice
 have HBY := hid (HBX.out.trans (HB8.out.mono HSW.out))
 go_wp2_with fail
 go_ret
 exact ⟨_, _, _, rfl, ⟨hn6.out, hc6, hA6.out, bytes_app2 hs.out.bytes (encI_bytes zs), HR6.out⟩, HBY.out⟩
theorem rinp_any (x : Cl) (s : Dg) (w : World) (hx : Hid (ClOk x)) (hs : Hid (DgOk s)) :
  Calls Tryz.prog 118 #[clV x, dgV s] w fun e w' => ∃ A n c, e = .returned (.slice A n c) ∧ In w' A n c (s ++ encI [x.p, x.r, if x.m then 1 else 0]) ∧ Below w.heap.size w w' := by
 cases h : x.m with
 | true => exact rinp_y x s w (hid h) hx hs
 | false => exact rinp_n x s w (hid h) hx hs
theorem rleafK_any (x : Cl) (s : Dg) (w : World) (hx : Hid (ClOk x)) (hs : Hid (DgOk s)) :
  Calls Tryz.prog 68 #[clV x, dgV s] w fun e w' => e = .returned (dgV (lfK x s)) ∧ Below w.heap.size w w' := by
 obtain ⟨t1, t2, t3, t4⟩ := three_rows3 w (clC x).toArray (dgC s).toArray #[.int .u8 0, .int .u8 0, .int .u8 0, .int .u8 0, .int .u8 0, .int .u8 0, .int .u8 0, .int .u8 0, .int .u8 0, .int .u8 0, .int .u8 0, .int .u8 0, .int .u8 0, .int .u8 0, .int .u8 0, .int .u8 0, .int .u8 0, .int .u8 0, .int .u8 0, .int .u8 0, .int .u8 0, .int .u8 0, .int .u8 0, .int .u8 0, .int .u8 0, .int .u8 0, .int .u8 0, .int .u8 0, .int .u8 0, .int .u8 0, .int .u8 0, .int .u8 0] 56 25 25
 have HB0 := hid t1
 have HRA := hid t2
 have HRB := hid t3
 have HR0 := hid t4
 clear t1 t2 t3 t4
 obtain ⟨zs, HZS⟩ : ∃ zs : List Int, Hid ([x.p, x.r, if x.m then 1 else 0] = zs) := ⟨_, hid rfl⟩
 have HM : Hid (zs.length = 3) := hid (by rw [← HZS.out]; rfl)
 obtain ⟨r, HR⟩ : ∃ r, Hid (lfK x s = r) := ⟨_, hid rfl⟩
 have HRT : Hid (dgV (tagged (strL claimT) (s ++ encI zs)) = dgV r) := hid (by rw [← HR.out, ← HZS.out]; rfl)
 have HRO : Hid (DgOk r) := hid (by rw [← HR.out]; exact lfK_ok x s)
 have HS0 := hid (dgC_info hs.out)
 have HSX := hid (clC_infoS x)
 have HS1 := hid (dgC_info HRO.out)
 have HS2 := hid (dgC_size HRO.out)
 rw [HR.out, dgV_agg s, show clV x = .agg (clC x).toArray from rfl]
 go_enter Tryz.func68, Tryz.ntmps68
 go_wp2_with (first | (refine wpList_load_row rfl 56 (.tmp 2) rfl w.heap.size rfl 56 _ (0, 0) _ HRA.out Tryz.underlying56 rfl HSX.out ?_) | (refine wpList_load_row rfl 25 (.tmp 3) rfl (w.heap.size + 1) rfl 25 _ (0, 0) _ HRB.out Tryz.underlying25 rfl HS0.out ?_))
 generalize ((w.alloc (.cells (clC x).toArray 56)).alloc (.cells (dgC s).toArray 25)).alloc (.cells #[.int .u8 0, .int .u8 0, .int .u8 0, .int .u8 0, .int .u8 0, .int .u8 0, .int .u8 0, .int .u8 0, .int .u8 0, .int .u8 0, .int .u8 0, .int .u8 0, .int .u8 0, .int .u8 0, .int .u8 0, .int .u8 0, .int .u8 0, .int .u8 0, .int .u8 0, .int .u8 0, .int .u8 0, .int .u8 0, .int .u8 0, .int .u8 0, .int .u8 0, .int .u8 0, .int .u8 0, .int .u8 0, .int .u8 0, .int .u8 0, .int .u8 0, .int .u8 0] 25) = W1 at *
 rw [← dgV_agg s, show Value.agg (clC x).toArray = clV x from rfl]
 refine (rinp_any x s W1 hx hs).mono ?_
 rintro e W2 ⟨A2, n2, c2, rfl, hin, hq⟩
 rw [HZS.out] at hin
 have HIN := hid hin
 have HB2 := hid (HB0.out.trans (hq.mono HB0.out.size))
 have HR2 := hid (row_kept HR0.out hq)
 have HN2 : Hid (n2 ≤ 20000) := hid (by rw [← hin.len, List.length_append, hs.out.len]; have := encI_length zs; rw [HM.out] at this; omega)
 clear hin hq
 go_wp2_with fail
 refine (rtagged_any claimT A2 n2 c2 (s ++ encI zs) W2 (by decide) (hid HIN.out.len) HIN.out.cap HIN.out.none_ (by have := HN2.out; omega) (hid HIN.out.bytes) (hid HIN.out.rd)).mono ?_
 rintro e W3 ⟨rfl, hq⟩
 have HB3 := hid (HB2.out.trans (hq.mono HB2.out.size))
 have HR3 := hid (row_kept HR2.out hq)
 clear hq
 rw [HRT.out, dgV_agg r]
 go_wp2_with (refine wpList_store_row rfl 25 (.tmp 4) (.tmp 8) rfl (w.heap.size + 1 + 1) (dgC r).toArray rfl rfl 25 _ HR3.out HS1.out HS2.out (dgC_one _) ?_)
 refine bodyPost_ret (results_cell_row rfl _ _ (w.heap.size + 1 + 1) 25 _ (0, 0) _ rfl (setRow_heap W3 (w.heap.size + 1 + 1) _ _ _ _ HR3.out) Tryz.underlying25 rfl HS1.out) rfl ?_
 exact ⟨rfl, below_setRow HB3.out (by omega) _⟩
def wRt (W0 : World) (br : Nat) (g : Nat) (off : Nat) (n : Nat) (c : Nat) (k : Nat) (a : List Nat) (b : List Nat) (r : List Nat) : Nat → Value → World → Prop
 | 0, fv, _ => fv = .slice (some ⟨g, off, none⟩) n c
 | 1, fv, _ => fv = .int .i64 ((k : Nat))
 | 2, fv, _ => fv = .slice (some ⟨g, off, none⟩) k c
 | 3, fv, _ => fv = dgV a
 | 4, fv, _ => fv = .slice (some ⟨g, off, none⟩) n c
 | 5, fv, _ => fv = .int .i64 ((k : Nat))
 | 6, fv, _ => fv = .slice (some ⟨g, off + k * 32, none⟩) (n - k) (c - k)
 | 7, fv, _ => fv = dgV b
 | 8, fv, _ => fv = dgV r
 | 9, fv, fw => fw.heap[br]? = some (.cells (dgC r).toArray 25 (0, 0)) ∧ Below W0.heap.size W0 fw
 | _, _, _ => True
theorem wRt_below {W0 : World} {br : Nat} {g : Nat} {off : Nat} {n : Nat} {c : Nat} {k : Nat} {a : List Nat} {b : List Nat} {r : List Nat} {w w' : World} (hb : Below w.heap.size w w') : ∀ j v, wRt W0 br g off n c k a b r j v w → wRt W0 br g off n c k a b r j v w'
 | 0, v, h => h
 | 1, v, h => h
 | 2, v, h => h
 | 3, v, h => h
 | 4, v, h => h
 | 5, v, h => h
 | 6, v, h => h
 | 7, v, h => h
 | 8, v, h => h
 | 9, v, h => ⟨row_kept h.1 hb, h.2.trans (hb.mono h.2.size)⟩
 | n + 10, v, h => trivial
theorem wRt_pure {W0 : World} {br : Nat} {g : Nat} {off : Nat} {n : Nat} {c : Nat} {k : Nat} {a : List Nat} {b : List Nat} {r : List Nat} {w w' : World} : ∀ j v, j ≠ 9 → wRt W0 br g off n c k a b r j v w → wRt W0 br g off n c k a b r j v w'
 | 0, v, _, h => h
 | 1, v, _, h => h
 | 2, v, _, h => h
 | 3, v, _, h => h
 | 4, v, _, h => h
 | 5, v, _, h => h
 | 6, v, _, h => h
 | 7, v, _, h => h
 | 8, v, _, h => h
 | 9, v, hh, _ => absurd rfl hh
 | n + 10, v, _, h => trivial
theorem rtree_nil (A : Option Addr) (c : Nat) (w : World) :
  Calls Tryz.prog 47 #[.slice A 0 c] w fun e w' => e = .returned (dgV (treeD [])) ∧ Below w.heap.size w w' := by
 have HB0 := hid ((Below.refl _ w).alloc (Nat.le_refl _) (.cells (dgC zeroD).toArray 25))
 have HR0 := hid (heap_alloc_new w (.cells (dgC zeroD).toArray 25))
 rw [zeroD_cells] at HB0 HR0
 have HS1 := hid (dgC_info (treeD_okD []))
 have HS2 := hid (dgC_size (treeD_okD []))
 rw [treeD_nil] at HS1 HS2 ⊢
 go_enter Tryz.func47, Tryz.ntmps47
 go_wp2_with fail
 generalize w.alloc (.cells #[.int .u8 0, .int .u8 0, .int .u8 0, .int .u8 0, .int .u8 0, .int .u8 0, .int .u8 0, .int .u8 0, .int .u8 0, .int .u8 0, .int .u8 0, .int .u8 0, .int .u8 0, .int .u8 0, .int .u8 0, .int .u8 0, .int .u8 0, .int .u8 0, .int .u8 0, .int .u8 0, .int .u8 0, .int .u8 0, .int .u8 0, .int .u8 0, .int .u8 0, .int .u8 0, .int .u8 0, .int .u8 0, .int .u8 0, .int .u8 0, .int .u8 0, .int .u8 0] 25) = W1 at *
 refine (rtagged_any emptyTag none 0 0 [] W1 (by decide) (hid rfl) (Nat.le_refl _) (fun _ => rfl) (by omega) (hid (fun x hx => by cases hx)) (hid (fun h => by simp at h))).mono ?_
 rintro e w2 ⟨rfl, hq⟩
 rw [emptyTag_d]
 have HB2 := hid (HB0.out.trans (hq.mono HB0.out.size))
 have HR2 := hid (row_kept HR0.out hq)
 clear hq
 rw [dgV_agg]
 go_wp2_with (refine wpList_store_row rfl 25 (.tmp 2) (.tmp 7) rfl w.heap.size (dgC emptyD).toArray rfl rfl 25 _ HR2.out HS1.out HS2.out (dgC_one _) ?_)
 refine bodyPost_ret (results_cell_row rfl _ _ w.heap.size 25 _ (0, 0) _ rfl (setRow_heap w2 w.heap.size _ _ _ _ HR2.out) Tryz.underlying25 rfl HS1.out) rfl ?_
 exact ⟨rfl, below_setRow HB2.out (Nat.le_refl _) _⟩
theorem rtree_any : ∀ (m : Nat) (ls : List Dg) (A : Option Addr) (n c : Nat) (w : World), n ≤ m → n ≤ 1099511627776 → Hid (InD w A n c ls) →
  Calls Tryz.prog 47 #[.slice A n c] w fun e w' => e = .returned (dgV (treeD ls)) ∧ Below w.heap.size w w' := by
 intro m
 induction m with
 | zero =>
  intro ls A n c w h1 h2 h
  have h0 : n = 0 := by omega
  have hl : ls = [] := List.eq_nil_of_length_eq_zero (by rw [h.out.len]; exact h0)
  subst hl
  subst h0
  exact rtree_nil A c w
 | succ m ih =>
  intro ls A n c w hm hn h
  have HNE := hid (show ls.length = n from h.out.len)
  by_cases hz : n = 0
  ·have hl : ls = [] := List.eq_nil_of_length_eq_zero (by rw [HNE.out]; exact hz)
   subst hl
   subst hz
   exact rtree_nil A c w
  obtain ⟨g, off, rfl, hg, hr⟩ := h.out.rd (by rw [h.out.len]; omega)
  have hcap := h.out.cap
  clear hr
  have HB0 := hid ((Below.refl _ w).alloc (Nat.le_refl _) (.cells (dgC zeroD).toArray 25))
  have HR0 := hid (heap_alloc_new w (.cells (dgC zeroD).toArray 25))
  have HIN := hid (h.out.below HB0.out)
  rw [zeroD_cells] at HB0 HR0 HIN
  have d0 : ((n : Int) == 0) = false := beq_false_of_ne (by omega)
  have d00 : decide ((n : Int) = 0) = false := dQ (by omega)
  by_cases h2 : 2 ≤ n
  ·have d1 : decide ((n : Int) = 1) = false := dQ (by omega)
   have d11 : ((n : Int) == 1) = false := beq_false_of_ne (by omega)
   go_enter Tryz.func47, Tryz.ntmps47
   go_wp2_with fail
   generalize w.alloc (.cells #[.int .u8 0, .int .u8 0, .int .u8 0, .int .u8 0, .int .u8 0, .int .u8 0, .int .u8 0, .int .u8 0, .int .u8 0, .int .u8 0, .int .u8 0, .int .u8 0, .int .u8 0, .int .u8 0, .int .u8 0, .int .u8 0, .int .u8 0, .int .u8 0, .int .u8 0, .int .u8 0, .int .u8 0, .int .u8 0, .int .u8 0, .int .u8 0, .int .u8 0, .int .u8 0, .int .u8 0, .int .u8 0, .int .u8 0, .int .u8 0, .int .u8 0, .int .u8 0] 25) = W1 at *
   refine (half02_any n _ (by omega)).mono ?_
   rintro e w2 ⟨rfl, hw1⟩
   subst hw1
   obtain ⟨k, HK⟩ : ∃ k, Hid (half n = k) := ⟨_, hid rfl⟩
   have hkb := half_bd h2
   rw [HK.out] at hkb
   rw [HK.out]
   have HT2 := hid (HIN.out.take k (by omega))
   have HT3 := hid (HIN.out.drop k (by omega))
   have HRT : Hid (nodeD (treeD (ls.take k)) (treeD (ls.drop k)) = treeD ls) := hid (by rw [treeD_two (l := ls) (by rw [HNE.out]; exact h2), HNE.out, HK.out])
   have HOA := hid (treeD_okD (ls.take k))
   have HOB := hid (treeD_okD (ls.drop k))
   have HRO := hid (treeD_okD ls)
   obtain ⟨a, HA⟩ : ∃ a, Hid (treeD (ls.take k) = a) := ⟨_, hid rfl⟩
   obtain ⟨b, HB⟩ : ∃ b, Hid (treeD (ls.drop k) = b) := ⟨_, hid rfl⟩
   obtain ⟨r, HR⟩ : ∃ r, Hid (treeD ls = r) := ⟨_, hid rfl⟩
   rw [HA.out, HB.out, HR.out] at HRT
   rw [HA.out] at HOA
   rw [HB.out] at HOB
   rw [HR.out] at HRO
   have HS1 := hid (dgC_info HRO.out)
   have HS2 := hid (dgC_size HRO.out)
   go_wp2_with fail
   refine region_flow3 (by kernel_rfl) (by kernel_rfl) (fun i => Nat.beq i 9) (fun i => i) (by kernel_rfl) (fun fx => #[.slice (some { block := g, off := off }) n c, undef, .pointer (some { block := w.heap.size, off := 0 }), .int IntKind.i64 ↑k, .slice (some { block := g, off := off }) n c, .int IntKind.i64 ↑n, .bool false, undef, .slice (some { block := g, off := off }) n c, .int IntKind.i64 ↑n, .bool false, undef, undef, undef, undef, .slice (some { block := g, off := off }) n c, .int IntKind.i64 ↑n, .int IntKind.i64 ↑k, fx 0, fx 1, fx 2, fx 3, fx 4, fx 5, fx 6, fx 7, fx 8]) (fun _ => undef) (fun L fx w' => (L 9 = false → Below W1.heap.size W1 w')) (fun fi fv _ fw => wRt w w.heap.size g off n c k a b r fi fv fw) (fun _ => (Below.refl _ _).drew) ?_ ?_
   ·refine ⟨?_, ?_, ?_, ?_, ?_, ?_, ?_, ?_, ?_, ?_, trivial⟩
    all_goals intro L fx w' hC hi hcl hdn hd
    ·have hnd : L 9 = false := nQ hi (fun h => (hcl 2 0 (hcl 3 2 (hcl 8 3 (hcl 9 8 h (by kernel_rfl)) (by kernel_rfl)) (by kernel_rfl)) (by kernel_rfl)))
     go_wp2_with fail
     exact ⟨_, rfl, (fun _ => hC hnd), rfl, kP⟩
    ·have hnd : L 9 = false := nQ hi (fun h => (hcl 2 1 (hcl 3 2 (hcl 8 3 (hcl 9 8 h (by kernel_rfl)) (by kernel_rfl)) (by kernel_rfl)) (by kernel_rfl)))
     go_wp2_with fail
     exact ⟨_, rfl, (fun _ => hC hnd), rfl, kP⟩
    ·have h0 : fx 0 = .slice (some ⟨g, off, none⟩) n c := hd.1 rfl
     have h1 : fx 1 = .int .i64 ((k : Nat)) := hd.2.1 rfl
     have hnd : L 9 = false := nQ hi (fun h => (hcl 3 2 (hcl 8 3 (hcl 9 8 h (by kernel_rfl)) (by kernel_rfl)) (by kernel_rfl)))
     go_wp2_with fail
     exact ⟨_, by simp only [upd, h0, h1]; rfl, (fun _ => hC hnd), rfl, kP⟩
    ·have h2 : fx 2 = .slice (some ⟨g, off, none⟩) k c := hd.1 rfl
     have hnd : L 9 = false := nQ hi (fun h => (hcl 8 3 (hcl 9 8 h (by kernel_rfl)) (by kernel_rfl)))
     have hb12 := hC hnd
     have HIk := hid (HT2.out.below hb12)
     go_wp2_with fail
     refine (ih (ls.take k) _ k c w' (by omega) (by omega) HIk).mono ?_
     rintro e w2 ⟨rfl, hq⟩
     rw [HA.out]
     go_wp2_with fail
     exact ⟨_, by simp only [upd, h2]; rfl, fun _ => hb12.trans (hq.mono hb12.size), rfl, fun j v t _ _ h => wRt_below hq j v h⟩
    ·have hnd : L 9 = false := nQ hi (fun h => (hcl 6 4 (hcl 7 6 (hcl 8 7 (hcl 9 8 h (by kernel_rfl)) (by kernel_rfl)) (by kernel_rfl)) (by kernel_rfl)))
     go_wp2_with fail
     exact ⟨_, rfl, (fun _ => hC hnd), rfl, kP⟩
    ·have hnd : L 9 = false := nQ hi (fun h => (hcl 6 5 (hcl 7 6 (hcl 8 7 (hcl 9 8 h (by kernel_rfl)) (by kernel_rfl)) (by kernel_rfl)) (by kernel_rfl)))
     go_wp2_with fail
     exact ⟨_, rfl, (fun _ => hC hnd), rfl, kP⟩
    ·have h4 : fx 4 = .slice (some ⟨g, off, none⟩) n c := hd.1 rfl
     have h5 : fx 5 = .int .i64 ((k : Nat)) := hd.2.1 rfl
     have hnd : L 9 = false := nQ hi (fun h => (hcl 7 6 (hcl 8 7 (hcl 9 8 h (by kernel_rfl)) (by kernel_rfl)) (by kernel_rfl)))
     go_wp2_with fail
     exact ⟨_, by simp only [upd, h4, h5]; rfl, (fun _ => hC hnd), rfl, kP⟩
    ·have h6 : fx 6 = .slice (some ⟨g, off + k * 32, none⟩) (n - k) (c - k) := hd.1 rfl
     have hnd : L 9 = false := nQ hi (fun h => (hcl 8 7 (hcl 9 8 h (by kernel_rfl)) (by kernel_rfl)))
     have hb12 := hC hnd
     have HIk := hid (HT3.out.below hb12)
     go_wp2_with fail
     refine (ih (ls.drop k) _ (n - k) (c - k) w' (by omega) (by omega) HIk).mono ?_
     rintro e w2 ⟨rfl, hq⟩
     rw [HB.out]
     go_wp2_with fail
     exact ⟨_, by simp only [upd, h6]; rfl, fun _ => hb12.trans (hq.mono hb12.size), rfl, fun j v t _ _ h => wRt_below hq j v h⟩
    ·have h3 : fx 3 = dgV a := hd.1 rfl
     have h7 : fx 7 = dgV b := hd.2.1 rfl
     have hnd : L 9 = false := nQ hi (fun h => (hcl 9 8 h (by kernel_rfl)))
     have hb12 := hC hnd
     go_wp2_with fail
     refine (rnode_any a b w' HOA HOB).mono ?_
     rintro e w2 ⟨rfl, hq⟩
     rw [HRT.out]
     go_wp2_with fail
     exact ⟨_, by simp only [upd, h3, h7]; rfl, fun _ => hb12.trans (hq.mono hb12.size), rfl, fun j v t _ _ h => wRt_below hq j v h⟩
    ·have h8 : fx 8 = dgV r := hd.1 rfl
     have hb21 := hC hi
     have hrow := row_kept HR0.out hb21
     refine wpList_store_row rfl 25 (.tmp 2) (.tmp 26) rfl w.heap.size (dgC r).toArray rfl h8 25 _ hrow HS1.out HS2.out (dgC_one _) ?_
     clear hd
     go_wp2_with fail
     refine ⟨undef, by rw [← h8]; rfl, fun h => (updB_self h).elim, ⟨setRow_heap _ _ _ _ _ _ hrow, below_setRow (HB0.out.trans (hb21.mono HB0.out.size)) (Nat.le_refl _) _⟩, fun j v t hj hu h => ?_⟩
     refine wRt_pure j v ?_ h
     intro e
     subst e
     rw [hi] at hj; cases hj
   ·intro L fx w' hC hS
    have H9 := hid (hS 9 (by decide) rfl)
    clear hS hC
    go_wp2_with fail
    refine bodyPost_ret (results_cell_row rfl _ _ w.heap.size 25 _ (0, 0) _ rfl H9.out.1 Tryz.underlying25 rfl HS1.out) rfl ?_
    exact ⟨by rw [HR.out]; rfl, H9.out.2⟩
  ·have hn1 : n = 1 := by omega
   subst hn1
   obtain ⟨x, HX⟩ : ∃ x, Hid (ls = [x]) := (List.length_eq_one_iff.1 HNE.out).imp fun _ h => hid h
   have HXO : Hid (DgOk x) := hid (h.out.ok x (by rw [HX.out]; simp))
   obtain ⟨g', off', e, hg', hr⟩ := HIN.out.rd (by rw [HNE.out]; omega)
   cases e
   have HXL : Hid (x.length = 32) := hid HXO.out.len
   have HRX : Hid (Rd (w.alloc (.cells #[.int .u8 0, .int .u8 0, .int .u8 0, .int .u8 0, .int .u8 0, .int .u8 0, .int .u8 0, .int .u8 0, .int .u8 0, .int .u8 0, .int .u8 0, .int .u8 0, .int .u8 0, .int .u8 0, .int .u8 0, .int .u8 0, .int .u8 0, .int .u8 0, .int .u8 0, .int .u8 0, .int .u8 0, .int .u8 0, .int .u8 0, .int .u8 0, .int .u8 0, .int .u8 0, .int .u8 0, .int .u8 0, .int .u8 0, .int .u8 0, .int .u8 0, .int .u8 0] 25)) (w.alloc (.cells #[.int .u8 0, .int .u8 0, .int .u8 0, .int .u8 0, .int .u8 0, .int .u8 0, .int .u8 0, .int .u8 0, .int .u8 0, .int .u8 0, .int .u8 0, .int .u8 0, .int .u8 0, .int .u8 0, .int .u8 0, .int .u8 0, .int .u8 0, .int .u8 0, .int .u8 0, .int .u8 0, .int .u8 0, .int .u8 0, .int .u8 0, .int .u8 0, .int .u8 0, .int .u8 0, .int .u8 0, .int .u8 0, .int .u8 0, .int .u8 0, .int .u8 0, .int .u8 0] 25)).heap.size (some ⟨g, off, none⟩) x) := hid (fun _ => ⟨g, off, rfl, hg', bytesAt_rg (by
    have := rangeD_one hr h.out.ok 0 (by rw [HNE.out]; omega)
    simpa [HX.out] using this)⟩)
   have HS1 := hid (dgC_info (leafD_ok x))
   have HS2 := hid (dgC_size (leafD_ok x))
   clear hr
   go_enter Tryz.func47, Tryz.ntmps47
   go_wp2_with fail
   refine (rtagged_any leafTag (some ⟨g, off, none⟩) 32 32 x _ (by decide) HXL (Nat.le_refl _) (fun h => by cases h) (by omega) (hid HXO.out.bytes) HRX).mono ?_
   rintro e w2 ⟨rfl, hq⟩
   have HB2 := hid (HB0.out.trans (hq.mono HB0.out.size))
   have HR2 := hid (row_kept HR0.out hq)
   clear hq
   rw [leafTag_d, dgV_agg]
   go_wp2_with (refine wpList_store_row rfl 25 (.tmp 2) (.tmp 14) rfl w.heap.size (dgC (leafD x)).toArray rfl rfl 25 _ HR2.out HS1.out HS2.out (dgC_one _) ?_)
   refine bodyPost_ret (results_cell_row rfl _ _ w.heap.size 25 _ (0, 0) _ rfl (setRow_heap w2 w.heap.size _ _ _ _ HR2.out) Tryz.underlying25 rfl HS1.out) rfl ?_
   exact ⟨by rw [HX.out, treeD_one]; rfl, below_setRow HB2.out (Nat.le_refl _) _⟩
theorem OwnD.down {w : World} {b b' : Nat} {v : Value} {ls : List Dg} (h : OwnD w b v ls) (hb : b' ≤ b) : OwnD w b' v ls :=
 ⟨h.1, h.2.imp id fun ⟨g, cap, cur, e, h1, r⟩ => ⟨g, cap, cur, e, Nat.le_trans hb h1, r⟩⟩
theorem own_emptyD2 {w : World} {g M : Nat} (h : w.heap[g]? = some (.cells #[] 25 (0, 0))) (hM : M ≤ g) : OwnD w M (.slice (some ⟨g, 0, none⟩) 0 0) [] :=
 ⟨rfl, .inr ⟨g, 0, #[], rfl, hM, h, Nat.le_refl _, Nat.zero_le _, rfl, rfl⟩⟩
def wRpl (M : Nat) (g : Nat) (off : Nat) (n : Nat) (c : Nat) (k : Nat) (i : Nat) (d : Nat) (b : Dg) (pp : List Dg) : Nat → Value → World → Prop
 | 0, fv, _ => fv = .slice (some ⟨g, off, none⟩) n c
 | 1, fv, _ => fv = .int .i64 ((k : Nat))
 | 2, fv, _ => fv = .slice (some ⟨g, off, none⟩) k c
 | 3, fv, _ => fv = .int .i64 ((i : Nat))
 | 4, fv, fw => OwnD fw M fv pp
 | 5, fv, _ => fv = .slice (some ⟨g, off, none⟩) n c
 | 6, fv, _ => fv = .int .i64 ((k : Nat))
 | 7, fv, _ => fv = .slice (some ⟨g, off + k * 32, none⟩) (n - k) (c - k)
 | 8, fv, _ => fv = dgV b
 | 9, fv, fw => ∃ q, fv = .slice (some ⟨q, 0, none⟩) 1 1 ∧ fw.heap[q]? = some (.cells (flatD [b]).toArray 25 (0, 0))
 | 10, fv, fw => OwnD fw M fv (pp ++ [b])
 | 11, fv, fw => OwnD fw M fv (pp ++ [b])
 | _, _, _ => True
theorem wRpl_below {M : Nat} {g : Nat} {off : Nat} {n : Nat} {c : Nat} {k : Nat} {i : Nat} {d : Nat} {b : Dg} {pp : List Dg} {w w' : World} (hb : Below w.heap.size w w') : ∀ j v, wRpl M g off n c k i d b pp j v w → wRpl M g off n c k i d b pp j v w'
 | 0, v, h => h
 | 1, v, h => h
 | 2, v, h => h
 | 3, v, h => h
 | 4, v, h => h.below hb
 | 5, v, h => h
 | 6, v, h => h
 | 7, v, h => h
 | 8, v, h => h
 | 9, v, ⟨q, h1, h2⟩ => ⟨q, h1, row_kept h2 hb⟩
 | 10, v, h => h.below hb
 | 11, v, h => h.below hb
 | n + 12, v, h => trivial
theorem wRpl_pure {M : Nat} {g : Nat} {off : Nat} {n : Nat} {c : Nat} {k : Nat} {i : Nat} {d : Nat} {b : Dg} {pp : List Dg} {w w' : World} : ∀ j v, j ≠ 4 → j ≠ 9 → j ≠ 10 → j ≠ 11 → wRpl M g off n c k i d b pp j v w → wRpl M g off n c k i d b pp j v w'
 | 0, v, _, _, _, _, h => h
 | 1, v, _, _, _, _, h => h
 | 2, v, _, _, _, _, h => h
 | 3, v, _, _, _, _, h => h
 | 4, v, hh, _, _, _, _ => absurd rfl hh
 | 5, v, _, _, _, _, h => h
 | 6, v, _, _, _, _, h => h
 | 7, v, _, _, _, _, h => h
 | 8, v, _, _, _, _, h => h
 | 9, v, _, hh, _, _, _ => absurd rfl hh
 | 10, v, _, _, hh, _, _ => absurd rfl hh
 | 11, v, _, _, _, hh, _ => absurd rfl hh
 | n + 12, v, _, _, _, _, h => trivial
def wRpr (M : Nat) (g : Nat) (off : Nat) (n : Nat) (c : Nat) (k : Nat) (i : Nat) (d : Nat) (b : Dg) (pp : List Dg) : Nat → Value → World → Prop
 | 0, fv, _ => fv = .slice (some ⟨g, off, none⟩) n c
 | 1, fv, _ => fv = .int .i64 ((k : Nat))
 | 2, fv, _ => fv = .slice (some ⟨g, off + k * 32, none⟩) (n - k) (c - k)
 | 3, fv, _ => fv = .int .i64 ((i : Nat))
 | 4, fv, _ => fv = .int .i64 ((k : Nat))
 | 5, fv, _ => fv = .int .i64 ((d : Nat))
 | 6, fv, fw => OwnD fw M fv pp
 | 7, fv, _ => fv = .slice (some ⟨g, off, none⟩) n c
 | 8, fv, _ => fv = .int .i64 ((k : Nat))
 | 9, fv, _ => fv = .slice (some ⟨g, off, none⟩) k c
 | 10, fv, _ => fv = dgV b
 | 11, fv, fw => ∃ q, fv = .slice (some ⟨q, 0, none⟩) 1 1 ∧ fw.heap[q]? = some (.cells (flatD [b]).toArray 25 (0, 0))
 | 12, fv, fw => OwnD fw M fv (pp ++ [b])
 | 13, fv, fw => OwnD fw M fv (pp ++ [b])
 | _, _, _ => True
theorem wRpr_below {M : Nat} {g : Nat} {off : Nat} {n : Nat} {c : Nat} {k : Nat} {i : Nat} {d : Nat} {b : Dg} {pp : List Dg} {w w' : World} (hb : Below w.heap.size w w') : ∀ j v, wRpr M g off n c k i d b pp j v w → wRpr M g off n c k i d b pp j v w'
 | 0, v, h => h
 | 1, v, h => h
 | 2, v, h => h
 | 3, v, h => h
 | 4, v, h => h
 | 5, v, h => h
 | 6, v, h => h.below hb
 | 7, v, h => h
 | 8, v, h => h
 | 9, v, h => h
 | 10, v, h => h
 | 11, v, ⟨q, h1, h2⟩ => ⟨q, h1, row_kept h2 hb⟩
 | 12, v, h => h.below hb
 | 13, v, h => h.below hb
 | n + 14, v, h => trivial
theorem wRpr_pure {M : Nat} {g : Nat} {off : Nat} {n : Nat} {c : Nat} {k : Nat} {i : Nat} {d : Nat} {b : Dg} {pp : List Dg} {w w' : World} : ∀ j v, j ≠ 6 → j ≠ 11 → j ≠ 12 → j ≠ 13 → wRpr M g off n c k i d b pp j v w → wRpr M g off n c k i d b pp j v w'
 | 0, v, _, _, _, _, h => h
 | 1, v, _, _, _, _, h => h
 | 2, v, _, _, _, _, h => h
 | 3, v, _, _, _, _, h => h
 | 4, v, _, _, _, _, h => h
 | 5, v, _, _, _, _, h => h
 | 6, v, hh, _, _, _, _ => absurd rfl hh
 | 7, v, _, _, _, _, h => h
 | 8, v, _, _, _, _, h => h
 | 9, v, _, _, _, _, h => h
 | 10, v, _, _, _, _, h => h
 | 11, v, _, hh, _, _, _ => absurd rfl hh
 | 12, v, _, _, hh, _, _ => absurd rfl hh
 | 13, v, _, _, _, hh, _ => absurd rfl hh
 | n + 14, v, _, _, _, _, h => trivial
theorem rpath02_any : ∀ (m : Nat) (ls : List Dg) (A : Option Addr) (n c i : Nat) (w : World), n ≤ m → 1 ≤ n → n ≤ 100000 → Hid (InD w A n c ls) → i < n →
  Calls Tryz.prog 114 #[.slice A n c, .int .i64 (i : Nat)] w fun e w' => ∃ v, e = .returned v ∧ OwnD w' w.heap.size v (pathD ls i) ∧ Below w.heap.size w w' := by
 intro m
 induction m with
 | zero => intro ls A n c i w h1 h2; omega
 | succ m ih =>
  intro ls A n c i w hm h1 hn h hin
  obtain ⟨g, off, rfl, hg, hr⟩ := h.out.rd (by rw [h.out.len]; omega)
  have HNE := hid (show ls.length = n from h.out.len)
  have hcap := h.out.cap
  clear hr
  by_cases h2 : 2 ≤ n
  ·have d1 : decide ((n : Int) = 1) = false := dQ (by omega)
   have d11 : ((n : Int) == 1) = false := beq_false_of_ne (by omega)
   obtain ⟨k, HK⟩ : ∃ k, Hid (half n = k) := ⟨_, hid rfl⟩
   have hkb := half_bd h2
   rw [HK.out] at hkb
   have HT2 := hid (h.out.take k (by omega))
   have HT3 := hid (h.out.drop k (by omega))
   have HLT : Hid ((ls.take k).length = k ∧ (ls.drop k).length = n - k) := hid ⟨by rw [List.length_take, HNE.out]; omega, by rw [List.length_drop, HNE.out]⟩
   go_enter Tryz.func114, Tryz.ntmps114
   go_wp2_with fail
   refine (half02_any n _ (by omega)).mono ?_
   rintro e W1 ⟨rfl, hw1⟩
   rw [HK.out]
   subst hw1
   by_cases hik : i < k
   ·have d2 : decide ((i : Int) < (k : Int)) = true := eQ (by omega)
    have d3 : decide (i < k) = true := eQ hik
    obtain ⟨d, HDD⟩ : ∃ d : Nat, Hid (d = 0) := ⟨0, hid rfl⟩
    obtain ⟨pp, HPP⟩ : ∃ p, Hid (pathD (ls.take k) i = p) := ⟨_, hid rfl⟩
    obtain ⟨b, HBB⟩ : ∃ b, Hid (treeD (ls.drop k) = b) := ⟨_, hid rfl⟩
    have HBO : Hid (DgOk b) := hid (by rw [← HBB.out]; exact treeD_okD _)
    have HPE : Hid (pathD ls i = pp ++ [b]) := hid (by rw [pathD_left (l := ls) (by rw [HNE.out]; exact h2) (by rw [HNE.out, HK.out]; exact hik), HNE.out, HK.out, HPP.out, HBB.out])
    have HPL : Hid (pp.length ≤ 100000) := hid (by rw [← HPP.out, pathD_length, HLT.out.1]; have := dirsF_length k i k; unfold dirsD; omega)
    obtain ⟨W1, HW1⟩ : ∃ W1, W1 = w := ⟨_, rfl⟩
    subst HW1
    go_wp2_with fail
    refine region_flow3 (by kernel_rfl) (by kernel_rfl) (fun i => Nat.beq i 11) (fun i => i) (by kernel_rfl) (fun fx => #[.slice (some { block := g, off := off }) n c, .int IntKind.i64 ↑i, undef, undef, fx 11, .int IntKind.i64 ↑k, .slice (some { block := g, off := off }) n c, .int IntKind.i64 ↑n, .bool false, undef, .slice (some { block := g, off := off }) n c, .int IntKind.i64 ↑n, .int IntKind.i64 ↑k, .int IntKind.i64 ↑i, .int IntKind.i64 ↑k, .bool true, fx 0, fx 1, fx 2, fx 3, fx 4, fx 5, fx 6, fx 7, fx 8, fx 9, fx 10, undef, undef, undef, undef, undef, undef, undef, undef, undef, undef, undef, undef, undef]) (fun i => bif Nat.beq i 11 then Value.slice none 0 0 else undef) (fun L fx w' => Below W1.heap.size W1 w') (fun fi fv _ fw => wRpl W1.heap.size g off n c k i d b pp fi fv fw) (Below.refl _ _).drew ?_ ?_
    ·refine ⟨?_, ?_, ?_, ?_, ?_, ?_, ?_, ?_, ?_, ?_, ?_, ?_, trivial⟩
     all_goals intro L fx w' hC hi hcl hdn hd
     ·go_wp2_with fail
      exact ⟨_, rfl, hC, rfl, kP⟩
     ·go_wp2_with fail
      exact ⟨_, rfl, hC, rfl, kP⟩
     ·have h0 : fx 0 = .slice (some ⟨g, off, none⟩) n c := hd.1 rfl
      have h1 : fx 1 = .int .i64 ((k : Nat)) := hd.2.1 rfl
      go_wp2_with fail
      exact ⟨_, by simp only [upd, h0, h1]; rfl, hC, rfl, kP⟩
     ·go_wp2_with fail
      exact ⟨_, rfl, hC, rfl, kP⟩
     ·have h2 : fx 2 = .slice (some ⟨g, off, none⟩) k c := hd.1 rfl
      have h3 : fx 3 = .int .i64 ((i : Nat)) := hd.2.1 rfl
      have HIk := hid (HT2.out.below hC)
      go_wp2_with fail
      refine (ih (ls.take k) _ k c i w' (by omega) (by omega) (by omega) HIk (by omega)).mono ?_
      rintro e w2 ⟨v2, rfl, ho, hq⟩
      rw [HPP.out] at ho
      have HO := hid (ho.down hC.size)
      go_wp2_with fail
      exact ⟨v2, by simp only [upd, h2, h3]; rfl, hC.trans (hq.mono hC.size), HO.out, fun j v t _ _ h => wRpl_below hq j v h⟩
     ·go_wp2_with fail
      exact ⟨_, rfl, hC, rfl, kP⟩
     ·go_wp2_with fail
      exact ⟨_, rfl, hC, rfl, kP⟩
     ·have h5 : fx 5 = .slice (some ⟨g, off, none⟩) n c := hd.1 rfl
      have h6 : fx 6 = .int .i64 ((k : Nat)) := hd.2.1 rfl
      go_wp2_with fail
      exact ⟨_, by simp only [upd, h5, h6]; rfl, hC, rfl, kP⟩
     ·have h7 : fx 7 = .slice (some ⟨g, off + k * 32, none⟩) (n - k) (c - k) := hd.1 rfl
      have HIk := hid (HT3.out.below hC)
      go_wp2_with fail
      refine (rtree_any (n - k) (ls.drop k) _ (n - k) (c - k) w' (Nat.le_refl _) (by omega) HIk).mono ?_
      rintro e w2 ⟨rfl, hq⟩
      rw [HBB.out]
      go_wp2_with fail
      exact ⟨_, by simp only [upd, h7]; rfl, hC.trans (hq.mono hC.size), rfl, fun j v t _ _ h => wRpl_below hq j v h⟩
     ·have h8 : fx 8 = dgV b := hd.1 rfl
      refine wpList_build_digs1 rfl (.tmp 24) rfl b h8 HBO.out ?_
      clear hd
      go_wp2_with fail
      have hbb : Below w'.heap.size w' (w'.alloc (.cells (flatD [b]).toArray 25)) := (Below.refl _ _).alloc (Nat.le_refl _) _
      exact ⟨_, by simp only [upd, h8]; rfl, hC.trans (hbb.mono hC.size), ⟨_, rfl, heap_alloc_new _ _⟩, fun j v t _ _ h => wRpl_below hbb j v h⟩
     ·have H4 := hid (hd.1 rfl)
      have H9 := hid (hd.2.1 rfl)
      obtain ⟨q, hx, hrow⟩ := H9.out
      have HQR := hid hrow
      refine wpList_append_dig rfl (.tmp 20) (.tmp 25) rfl W1.heap.size (fx 4) pp b rfl H4 HBO.out q hx HQR HPL.out hC.size ?_
      intro v2 w2 HO2 HG2
      have HB2 := hid ((Below.refl W1.heap.size w').grown HG2.out hC.size (fun g hg => (H4.out.block g hg).1))
      clear hd hrow
      go_wp2_with fail
      refine ⟨v2, by rw [← hx]; rfl, hC.trans HB2.out, HO2.out, fun j v t hj hu h => ?_⟩
      refine wRpl_pure j v ?_ ?_ ?_ ?_ h <;> intro e <;> subst e
      ·refine absurd hu (not_needed (E := (fun i => Nat.beq i 11)) (j := 4) [10] (by kernel_rfl) (by kernel_rfl) ?_)
       intro m hm hne; simp at hm; omega
      ·refine absurd hu (not_needed (E := (fun i => Nat.beq i 11)) (j := 9) [10] (by kernel_rfl) (by kernel_rfl) ?_)
       intro m hm hne; simp at hm; omega
      ·rw [hi] at hj; cases hj
      ·have := hcl 11 10 hj (by kernel_rfl); rw [hi] at this; cases this
     ·have H10 := hid (hd.1 rfl)
      go_wp2_with fail
      exact ⟨fx 10, rfl, hC, H10.out, kP⟩
    ·intro L fo w' hC hS
     have H11 := hid (hS 11 (by decide) rfl)
     have HBE := hid hC
     clear hS hC
     go_wp2_with fail
     go_ret
     exact ⟨_, rfl, by rw [HPE.out]; exact H11.out, HBE.out⟩
   ·have d2 : decide ((i : Int) < (k : Int)) = false := dQ (by omega)
    have d3 : decide (i < k) = false := dQ hik
    obtain ⟨d, HD⟩ : ∃ d : Nat, Hid (i - k = d) := ⟨_, hid rfl⟩
    have HWD : Hid (IntKind.i64.wrap ((i : Int) - (k : Int)) = (d : Int)) := hid (by rw [IntWalk.i64_in _ (by omega), ← HD.out]; omega)
    obtain ⟨pp, HPP⟩ : ∃ p, Hid (pathD (ls.drop k) d = p) := ⟨_, hid rfl⟩
    obtain ⟨b, HBB⟩ : ∃ b, Hid (treeD (ls.take k) = b) := ⟨_, hid rfl⟩
    have HBO : Hid (DgOk b) := hid (by rw [← HBB.out]; exact treeD_okD _)
    have HPE : Hid (pathD ls i = pp ++ [b]) := hid (by rw [pathD_right (l := ls) (by rw [HNE.out]; exact h2) (by rw [HNE.out, HK.out]; exact hik), HNE.out, HK.out, HD.out, HPP.out, HBB.out])
    have HPL : Hid (pp.length ≤ 100000) := hid (by rw [← HPP.out, pathD_length, HLT.out.2]; have := dirsF_length (n - k) d (n - k); unfold dirsD; omega)
    obtain ⟨W1, HW1⟩ : ∃ W1, W1 = w := ⟨_, rfl⟩
    subst HW1
    go_wp2_with fail
    refine region_flow3 (by kernel_rfl) (by kernel_rfl) (fun i => Nat.beq i 13) (fun i => i) (by kernel_rfl) (fun fx => #[.slice (some { block := g, off := off }) n c, .int IntKind.i64 ↑i, undef, undef, fx 13, .int IntKind.i64 ↑k, .slice (some { block := g, off := off }) n c, .int IntKind.i64 ↑n, .bool false, undef, .slice (some { block := g, off := off }) n c, .int IntKind.i64 ↑n, .int IntKind.i64 ↑k, .int IntKind.i64 ↑i, .int IntKind.i64 ↑k, .bool false, undef, undef, undef, undef, undef, undef, undef, undef, undef, undef, undef, fx 0, fx 1, fx 2, fx 3, fx 4, fx 5, fx 6, fx 7, fx 8, fx 9, fx 10, fx 11, fx 12]) (fun i => bif Nat.beq i 13 then Value.slice none 0 0 else undef) (fun L fx w' => Below W1.heap.size W1 w') (fun fi fv _ fw => wRpr W1.heap.size g off n c k i d b pp fi fv fw) (Below.refl _ _).drew ?_ ?_
    ·refine ⟨?_, ?_, ?_, ?_, ?_, ?_, ?_, ?_, ?_, ?_, ?_, ?_, ?_, ?_, trivial⟩
     all_goals intro L fx w' hC hi hcl hdn hd
     ·go_wp2_with fail
      exact ⟨_, rfl, hC, rfl, kP⟩
     ·go_wp2_with fail
      exact ⟨_, rfl, hC, rfl, kP⟩
     ·have h0 : fx 0 = .slice (some ⟨g, off, none⟩) n c := hd.1 rfl
      have h1 : fx 1 = .int .i64 ((k : Nat)) := hd.2.1 rfl
      go_wp2_with fail
      exact ⟨_, by simp only [upd, h0, h1]; rfl, hC, rfl, kP⟩
     ·go_wp2_with fail
      exact ⟨_, rfl, hC, rfl, kP⟩
     ·go_wp2_with fail
      exact ⟨_, rfl, hC, rfl, kP⟩
     ·have h3 : fx 3 = .int .i64 ((i : Nat)) := hd.1 rfl
      have h4 : fx 4 = .int .i64 ((k : Nat)) := hd.2.1 rfl
      have hw := HWD.out
      go_wp2_with fail
      exact ⟨_, by simp only [upd, h3, h4]; rfl, hC, rfl, kP⟩
     ·have h2 : fx 2 = .slice (some ⟨g, off + k * 32, none⟩) (n - k) (c - k) := hd.1 rfl
      have h5 : fx 5 = .int .i64 ((d : Nat)) := hd.2.1 rfl
      have HIk := hid (HT3.out.below hC)
      go_wp2_with fail
      refine (ih (ls.drop k) _ (n - k) (c - k) d w' (by omega) (by omega) (by omega) HIk (by have := HD.out; omega)).mono ?_
      rintro e w2 ⟨v2, rfl, ho, hq⟩
      rw [HPP.out] at ho
      have HO := hid (ho.down hC.size)
      go_wp2_with fail
      exact ⟨v2, by simp only [upd, h2, h5]; rfl, hC.trans (hq.mono hC.size), HO.out, fun j v t _ _ h => wRpr_below hq j v h⟩
     ·go_wp2_with fail
      exact ⟨_, rfl, hC, rfl, kP⟩
     ·go_wp2_with fail
      exact ⟨_, rfl, hC, rfl, kP⟩
     ·have h7 : fx 7 = .slice (some ⟨g, off, none⟩) n c := hd.1 rfl
      have h8 : fx 8 = .int .i64 ((k : Nat)) := hd.2.1 rfl
      go_wp2_with fail
      exact ⟨_, by simp only [upd, h7, h8]; rfl, hC, rfl, kP⟩
     ·have h9 : fx 9 = .slice (some ⟨g, off, none⟩) k c := hd.1 rfl
      have HIk := hid (HT2.out.below hC)
      go_wp2_with fail
      refine (rtree_any k (ls.take k) _ k c w' (Nat.le_refl _) (by omega) HIk).mono ?_
      rintro e w2 ⟨rfl, hq⟩
      rw [HBB.out]
      go_wp2_with fail
      exact ⟨_, by simp only [upd, h9]; rfl, hC.trans (hq.mono hC.size), rfl, fun j v t _ _ h => wRpr_below hq j v h⟩
     ·have h10 : fx 10 = dgV b := hd.1 rfl
      refine wpList_build_digs1 rfl (.tmp 37) rfl b h10 HBO.out ?_
      clear hd
      go_wp2_with fail
      have hbb : Below w'.heap.size w' (w'.alloc (.cells (flatD [b]).toArray 25)) := (Below.refl _ _).alloc (Nat.le_refl _) _
      exact ⟨_, by simp only [upd, h10]; rfl, hC.trans (hbb.mono hC.size), ⟨_, rfl, heap_alloc_new _ _⟩, fun j v t _ _ h => wRpr_below hbb j v h⟩
     ·have H6 := hid (hd.1 rfl)
      have H11 := hid (hd.2.1 rfl)
      obtain ⟨q, hx, hrow⟩ := H11.out
      have HQR := hid hrow
      refine wpList_append_dig rfl (.tmp 33) (.tmp 38) rfl W1.heap.size (fx 6) pp b rfl H6 HBO.out q hx HQR HPL.out hC.size ?_
      intro v2 w2 HO2 HG2
      have HB2 := hid ((Below.refl W1.heap.size w').grown HG2.out hC.size (fun g hg => (H6.out.block g hg).1))
      clear hd hrow
      go_wp2_with fail
      refine ⟨v2, by rw [← hx]; rfl, hC.trans HB2.out, HO2.out, fun j v t hj hu h => ?_⟩
      refine wRpr_pure j v ?_ ?_ ?_ ?_ h <;> intro e <;> subst e
      ·refine absurd hu (not_needed (E := (fun i => Nat.beq i 13)) (j := 6) [12] (by kernel_rfl) (by kernel_rfl) ?_)
       intro m hm hne; simp at hm; omega
      ·refine absurd hu (not_needed (E := (fun i => Nat.beq i 13)) (j := 11) [12] (by kernel_rfl) (by kernel_rfl) ?_)
       intro m hm hne; simp at hm; omega
      ·rw [hi] at hj; cases hj
      ·have := hcl 13 12 hj (by kernel_rfl); rw [hi] at this; cases this
     ·have H12 := hid (hd.1 rfl)
      go_wp2_with fail
      exact ⟨fx 12, rfl, hC, H12.out, kP⟩
    ·intro L fo w' hC hS
     have H13 := hid (hS 13 (by decide) rfl)
     have HBE := hid hC
     clear hS hC
     go_wp2_with fail
     go_ret
     exact ⟨_, rfl, by rw [HPE.out]; exact H13.out, HBE.out⟩
  ·have hn1 : n = 1 := by omega
   have d1 : decide ((n : Int) = 1) = true := eQ (by omega)
   have d11 : ((n : Int) == 1) = true := by rw [hn1]; rfl
   have HE : Hid (pathD ls i = []) := hid (pathD_one (by rw [HNE.out]; omega))
   have HBa := hid ((Below.refl _ w).alloc (Nat.le_refl _) (.cells #[] 25))
   have HRa := hid (heap_alloc_new w (.cells #[] 25))
   clear hn1
   go_enter Tryz.func114, Tryz.ntmps114
   go_wp2_with fail
   go_ret
   exact ⟨_, rfl, by rw [HE.out]; exact own_emptyD2 HRa.out (Nat.le_refl _), HBa.out⟩
theorem range_dg {w : World} {g off : Nat} {n : Nd} (h : w.rangeAt g off (ndC n)) : w.rangeAt g off (dgC n.d) := fun j v hj => h j v (by
 unfold ndC
 have e : dgC n.d = n.d.map fun x => Value.int .u8 (x : Nat) := rfl
 rw [← e, List.getElem?_append_left (List.getElem?_eq_some_iff.1 hj).1]; exact hj)
theorem ndOk_dg {n : Nd} (h : NdOk n) : DgOk n.d := ⟨h.len, h.bytes⟩
theorem rdigests_any (ls : List Nd) (A : Option Addr) (n c : Nat) (w : World) (hn : n ≤ 100000) (h : Hid (InN w A n c ls)) :
  Calls Tryz.prog 48 #[.slice A n c] w fun e w' => ∃ A' n' c', e = .returned (.slice A' n' c') ∧ InD w' A' n' c' (ls.map (·.d)) ∧ Below w.heap.size w w' := by
 have HN := hid (show ls.length = n from h.out.len)
 have HBE := hid ((Below.refl w.heap.size w).alloc (Nat.le_refl _) (.cells #[] 25))
 have HOE := hid (own_emptyD2 (heap_alloc_new w (.cells #[] 25)) (Nat.le_refl w.heap.size))
 go_enter Tryz.func48, Tryz.ntmps48
 go_wp2_with fail
 go_loopw [4, 3] (fun i dd wr => ∃ (j : Nat) (P : List Dg), j ≤ n ∧ i = .int .i64 j ∧ Hid (P = (ls.take j).map (·.d)) ∧ Hid (OwnD wr w.heap.size dd P) ∧ Hid (Below w.heap.size w wr) ∧ ∃ A3 n3 c3, dd = .slice A3 n3 c3) (fun i _ _ => n - (intOf i).toNat)
 case atStart => exact ⟨0, [], by omega, rfl, hid rfl, HOE, HBE, _, _, _, rfl⟩
 case round =>
  clear HOE HBE
  obtain ⟨j, P, hj, rfl, HP, HOW, HB, A3, n3, c3, rfl⟩ := hrel
  by_cases hlt : j < n
  ·have d1 : decide ((j : Int) < (n : Int)) = true := eQ (by omega)
   have d2 : decide (j < n) = true := eQ hlt
   have hjl : j < ls.length := by rw [HN.out]; exact hlt
   obtain ⟨g, off, eA, hgl, hr⟩ := h.out.rd (by omega)
   obtain ⟨x, HX⟩ : ∃ x, Hid (ls[j] = x) := ⟨_, hid rfl⟩
   have HXO : Hid (NdOk x) := hid (by rw [← HX.out]; exact h.out.ok _ (List.getElem_mem hjl))
   have HDO := hid (ndOk_dg HXO.out)
   have HR : Hid (wr.rangeAt g (off + j * 34) (dgC x.d)) := hid (by
    have := range_dg (rangeAt_below (range_one hr h.out.ok j hjl) hgl HB.out)
    rw [HX.out] at this
    exact this)
   have HII := hid (dgC_infoL HDO.out)
   have HPL : Hid (P.length ≤ 100000) := hid (by rw [HP.out, List.length_map, List.length_take]; omega)
   have HPN : Hid (P ++ [x.d] = (ls.take (j + 1)).map (·.d)) := hid (by rw [List.take_succ_eq_append_getElem hjl, List.map_append, ← HP.out, HX.out]; rfl)
   have hba := (Below.refl _ wr).alloc (Nat.le_refl _) (.cells (flatD [x.d]).toArray 25)
   have HA6 := hid (HOW.out.below hba)
   have HRF := hid (heap_alloc_new wr (.cells (flatD [x.d]).toArray 25))
   have HB4 := hid (HB.out.trans (hba.mono HB.out.size))
   have HSZ := hid HB4.out.size
   clear hr hba
   rw [eA]
   go_wp2_with (first | (with_reducible refine wpList_load_mid rfl 25 (.tmp 16) rfl g (off + j * 34) rfl (dgC x.d) _ HR.out Tryz.underlying25 rfl HII.out ?_) | (refine wpList_build_digs1 rfl (.tmp 17) rfl x.d rfl HDO.out ?_) | (refine wpList_append_dig rfl (.tmp 12) (.tmp 18) rfl w.heap.size _ P x.d rfl HA6 HDO.out wr.heap.size rfl HRF HPL.out HSZ.out ?_; intro v2 w2 HO2 HG2; obtain ⟨A2, n2, c2, rfl⟩ := HO2.out.form))
   have HB5 := hid (HB4.out.grown HG2.out HSZ.out (fun k hk => (HA6.out.block k hk).1))
   rw [HPN.out] at HO2
   go_roundw
   case rel => exact ⟨j + 1, _, by omega, by go_num, hid rfl, HO2, HB5, _, _, _, rfl⟩
   case measure => simp [intOf]; omega
  ·have d1 : decide ((j : Int) < (n : Int)) = false := dQ (by omega)
   have d1n : decide (j < n) = false := dQ hlt
   have HPF : Hid (P = ls.map (·.d)) := hid (by rw [HP.out, List.take_of_length_le (by rw [HN.out]; omega)])
   have HPO : Hid (∀ y ∈ P, DgOk y) := hid (fun y hy => by
    rw [HPF.out] at hy
    obtain ⟨x, hx, rfl⟩ := List.mem_map.1 hy
    exact ndOk_dg (h.out.ok x hx))
   obtain ⟨A4, n4, c4, e4, hin4, ht4⟩ := HOW.out.slice HPO.out
   cases e4
   have HI4 := hid hin4
   clear hin4 ht4
   go_wp2_with fail
   go_ret
   exact ⟨_, _, _, rfl, by rw [← HPF.out]; exact HI4.out, HB.out⟩
def wR42c (M : Nat) (bt : Nat) (g : Nat) (off : Nat) (n : Nat) (c : Nat) (jn : Nat) (t : Tr) (x : Cl) (s : Dg) (r : Dg) (A3 : Option Addr) (n3 : Nat) (c3 : Nat) (P : List Dg) : Nat → Value → World → Prop
 | 0, fv, _ => fv = .slice A3 n3 c3
 | 1, fv, _ => fv = .pointer (some { block := bt, off := 5 })
 | 2, fv, _ => fv = .slice (some ⟨g, off, none⟩) n c
 | 3, fv, _ => fv = .int .i64 ((jn : Nat))
 | 4, fv, _ => fv = .pointer (some ⟨g, off + jn * 3, none⟩)
 | 5, fv, _ => fv = clV x
 | 6, fv, _ => fv = .pointer (some { block := bt, off := 6 })
 | 7, fv, _ => fv = dgV t.salt
 | 8, fv, _ => fv = .pointer (some { block := bt, off := 5 })
 | 9, fv, _ => fv = .slice (some ⟨g, off, none⟩) n c
 | 10, fv, _ => fv = .int .i64 ((jn : Nat))
 | 11, fv, _ => fv = .pointer (some ⟨g, off + jn * 3, none⟩)
 | 12, fv, _ => fv = clV x
 | 13, fv, _ => fv = dgV s
 | 14, fv, _ => fv = dgV r
 | 15, fv, fw => ∃ q, fv = .slice (some ⟨q, 0, none⟩) 1 1 ∧ fw.heap[q]? = some (.cells (flatD [r]).toArray 25 (0, 0))
 | 16, fv, fw => OwnD fw M fv (P ++ [r])
 | 17, fv, fw => OwnD fw M fv (P ++ [r])
 | _, _, _ => True
theorem wR42c_below {M : Nat} {bt : Nat} {g : Nat} {off : Nat} {n : Nat} {c : Nat} {jn : Nat} {t : Tr} {x : Cl} {s : Dg} {r : Dg} {A3 : Option Addr} {n3 : Nat} {c3 : Nat} {P : List Dg} {w w' : World} (hb : Below w.heap.size w w') : ∀ j v, wR42c M bt g off n c jn t x s r A3 n3 c3 P j v w → wR42c M bt g off n c jn t x s r A3 n3 c3 P j v w'
 | 0, v, h => h
 | 1, v, h => h
 | 2, v, h => h
 | 3, v, h => h
 | 4, v, h => h
 | 5, v, h => h
 | 6, v, h => h
 | 7, v, h => h
 | 8, v, h => h
 | 9, v, h => h
 | 10, v, h => h
 | 11, v, h => h
 | 12, v, h => h
 | 13, v, h => h
 | 14, v, h => h
 | 15, v, ⟨q, h1, h2⟩ => ⟨q, h1, row_kept h2 hb⟩
 | 16, v, h => h.below hb
 | 17, v, h => h.below hb
 | n + 18, v, h => trivial
theorem wR42c_pure {M : Nat} {bt : Nat} {g : Nat} {off : Nat} {n : Nat} {c : Nat} {jn : Nat} {t : Tr} {x : Cl} {s : Dg} {r : Dg} {A3 : Option Addr} {n3 : Nat} {c3 : Nat} {P : List Dg} {w w' : World} : ∀ j v, j ≠ 15 → j ≠ 16 → j ≠ 17 → wR42c M bt g off n c jn t x s r A3 n3 c3 P j v w → wR42c M bt g off n c jn t x s r A3 n3 c3 P j v w'
 | 0, v, _, _, _, h => h
 | 1, v, _, _, _, h => h
 | 2, v, _, _, _, h => h
 | 3, v, _, _, _, h => h
 | 4, v, _, _, _, h => h
 | 5, v, _, _, _, h => h
 | 6, v, _, _, _, h => h
 | 7, v, _, _, _, h => h
 | 8, v, _, _, _, h => h
 | 9, v, _, _, _, h => h
 | 10, v, _, _, _, h => h
 | 11, v, _, _, _, h => h
 | 12, v, _, _, _, h => h
 | 13, v, _, _, _, h => h
 | 14, v, _, _, _, h => h
 | 15, v, hh, _, _, _ => absurd rfl hh
 | 16, v, _, hh, _, _ => absurd rfl hh
 | 17, v, _, _, hh, _ => absurd rfl hh
 | n + 18, v, _, _, _, h => trivial
theorem rangeAt_belowM {w w' : World} {M g off : Nat} {cs : List Value} (h : w.rangeAt g off cs) (hg : g < M) (hb : Below M w w') : w'.rangeAt g off cs := fun j v hj => (hb.cell (p := ⟨g, off + j, none⟩) hg).trans (h j v hj)
theorem rcleaves_any (t : Tr) (p : TrP) (w : World) (h : Hid (TrOk w t p)) (hn : p.n2 ≤ 100000) :
  Calls Tryz.prog 51 #[trV t p] w fun e w' => ∃ A' n' c', e = .returned (.slice A' n' c') ∧ InD w' A' n' c' (t.cl.map (lvK t.salt)) ∧ Below w.heap.size w w' := by
 have HN := hid (show t.cl.length = p.n2 from h.out.cl.len)
 have HSA : Hid (DgOk t.salt) := hid ⟨h.out.len, h.out.bytes⟩
 have HSK := hid (dgC_infoK HSA.out)
 have hb0 := (Below.refl _ w).alloc (Nat.le_refl _) (.cells (trC t p).toArray 27)
 have hr0 := heap_alloc_new w (.cells (trC t p).toArray 27)
 have hs0 : (w.alloc (.cells (trC t p).toArray 27)).heap.size = w.heap.size + 1 := by simp
 obtain ⟨W2, HW2⟩ : ∃ V, Hid (w.alloc (.cells (trC t p).toArray 27) = V) := ⟨_, hid rfl⟩
 rw [HW2.out] at hb0 hr0 hs0
 have HB2 := hid hb0
 have HR2 := hid hr0
 have HS2 := hid hs0
 have HI2 := hid (h.out.below hb0).cl
 have HBE := hid ((Below.refl W2.heap.size W2).alloc (Nat.le_refl _) (.cells #[] 25))
 have HOE := hid (own_emptyD2 (heap_alloc_new W2 (.cells #[] 25)) (Nat.le_refl W2.heap.size))
 clear hb0 hr0 hs0
 rw [show trV t p = .agg (trC t p).toArray from rfl]
 go_enter Tryz.func51, Tryz.ntmps51
 go_wp2_with (rw [HW2.out])
 go_loopw [4, 3] (fun i dd wr => ∃ (j : Nat) (P : List Dg), j ≤ p.n2 ∧ i = .int .i64 j ∧ Hid (P = (t.cl.take j).map (lvK t.salt)) ∧ Hid (OwnD wr W2.heap.size dd P) ∧ Hid (Below W2.heap.size W2 wr) ∧ ∃ A3 n3 c3, dd = .slice A3 n3 c3) (fun i _ _ => p.n2 - (intOf i).toNat)
 case atStart => exact ⟨0, [], by omega, rfl, hid rfl, HOE, HBE, _, _, _, rfl⟩
 case round =>
  clear HOE HBE
  obtain ⟨j, P, hj, rfl, HP, HOW, HB, A3, n3, c3, rfl⟩ := hrel
  have kl : wr.cell? ⟨w.heap.size, 5, none⟩ = some (.slice p.A2 p.n2 p.c2) := by rw [cell_of_row _ _ _ _ _ _ (row_kept HR2.out HB.out)]; rfl
  by_cases hlt : j < p.n2
  ·have d1 : decide ((j : Int) < (p.n2 : Int)) = true := eQ (by omega)
   have d2 : decide (j < p.n2) = true := eQ hlt
   have HLT := hid hlt
   have hjl : j < t.cl.length := by rw [HN.out]; exact hlt
   obtain ⟨g, off, eA, hgl, hr⟩ := HI2.out.rd (by omega)
   obtain ⟨x, HX⟩ : ∃ x, Hid (t.cl[j] = x) := ⟨_, hid rfl⟩
   have HXO : Hid (ClOk x) := hid (by rw [← HX.out]; exact HI2.out.ok _ (List.getElem_mem hjl))
   have HR : Hid (wr.rangeAt g (off + j * 3) (clC x)) := hid (by
    rw [← HX.out]
    exact rangeAt_below (range_elem clC_len4 hr j hjl) hgl HB.out)
   have HGL : Hid (g < W2.heap.size) := hid hgl
   have HII := hid (clC_infoL4 x)
   have HPL : Hid (P.length ≤ 100000) := hid (by rw [HP.out, List.length_map, List.length_take]; omega)
   obtain ⟨s, HS⟩ : ∃ s, Hid (saltN t.salt 2 (nCl x) = s) := ⟨_, hid rfl⟩
   have HSO : Hid (DgOk s) := hid (by rw [← HS.out]; exact saltN_ok _ _ _)
   obtain ⟨r, HD⟩ : ∃ r, Hid (lfK x s = r) := ⟨_, hid rfl⟩
   have HRO : Hid (DgOk r) := hid (by rw [← HD.out]; exact lfK_ok x s)
   have HPN : Hid (P ++ [r] = (t.cl.take (j + 1)).map (lvK t.salt)) := hid (by rw [List.take_succ_eq_append_getElem hjl, List.map_append, ← HP.out, HX.out, ← HD.out, ← HS.out]; rfl)
   rw [eA] at kl
   have HTC := hid kl
   have HTB : Hid (w.heap.size < W2.heap.size) := hid (by rw [HS2.out]; exact Nat.lt_succ_self _)
   have HTR := hid (row_kept HR2.out HB.out)
   have HMS := hid HB.out.size
   clear hr eA
   go_wp2_with fail
   clear kl
   have HBL := hid (fun (a1 a2 : World) (hb : Below a1.heap.size a1 a2) => wR42c_below (M := W2.heap.size) (bt := w.heap.size) (g := g) (off := off) (n := p.n2) (c := p.c2) (jn := j) (t := t) (x := x) (s := s) (r := r) (A3 := A3) (n3 := n3) (c3 := c3) (P := P) hb)
   refine region_flow3 (by kernel_rfl) (by kernel_rfl) (fun i => Nat.beq i 17) (fun i => i) (by kernel_rfl) (fun fx => #[.agg (trC t p).toArray, .pointer (some { block := w.heap.size, off := 0 }), .slice none 0 0, fx 17, .int IntKind.i64 ↑j, .slice (some { block := W2.heap.size, off := 0 }) 0 0, .int IntKind.i64 ↑j, .pointer (some { block := w.heap.size, off := 5 }), .slice (some { block := g, off := off }) p.n2 p.c2, .int IntKind.i64 ↑p.n2, .bool true, u11, u12, fx 0, fx 1, fx 2, fx 3, fx 4, fx 5, fx 6, fx 7, fx 8, fx 9, fx 10, fx 11, fx 12, fx 13, fx 14, fx 15, fx 16, undef]) (fun i => bif Nat.beq i 0 then u13 else bif Nat.beq i 1 then u14 else bif Nat.beq i 2 then u15 else bif Nat.beq i 3 then u16 else bif Nat.beq i 4 then u17 else bif Nat.beq i 5 then u18 else bif Nat.beq i 6 then u19 else bif Nat.beq i 7 then u20 else bif Nat.beq i 8 then u21 else bif Nat.beq i 9 then u22 else bif Nat.beq i 10 then u23 else bif Nat.beq i 11 then u24 else bif Nat.beq i 12 then u25 else bif Nat.beq i 13 then u26 else bif Nat.beq i 14 then u27 else bif Nat.beq i 15 then u28 else bif Nat.beq i 16 then u29 else bif Nat.beq i 17 then Value.slice A3 n3 c3 else undef) (fun L fx w' => Below W2.heap.size wr w' ∧ (L 16 = false → OwnD w' W2.heap.size (.slice A3 n3 c3) P) ∧ (L 17 = false → fx 17 = .slice A3 n3 c3)) (fun fi fv _ fw => wR42c W2.heap.size w.heap.size g off p.n2 p.c2 j t x s r A3 n3 c3 P fi fv fw) ⟨(Below.refl _ _).drew, fun _ => HOW.out, fun _ => rfl⟩ ?_ ?_
   ·refine ⟨?_, ?_, ?_, ?_, ?_, ?_, ?_, ?_, ?_, ?_, ?_, ?_, ?_, ?_, ?_, ?_, ?_, ?_, trivial⟩
    all_goals intro L fx w' hC hi hcl hdn hd
    ·have hn17 : L 17 = false := nQ hi (fun h => (hcl 16 0 (hcl 17 16 h (by kernel_rfl)) (by kernel_rfl)))
     have h17 : fx 17 = .slice A3 n3 c3 := hC.2.2 hn17
     clear hd
     go_wp2_with fail
     exact ⟨Value.slice A3 n3 c3, by simp only [upd, h17]; rfl, ⟨hC.1, fun h => hC.2.1 h, fun h => hC.2.2 h⟩, rfl, kP⟩
    ·clear hd
     go_wp2_with fail
     exact ⟨_, rfl, ⟨hC.1, fun h => hC.2.1 h, fun h => hC.2.2 h⟩, rfl, kP⟩
    ·have h1 : fx 1 = .pointer (some { block := w.heap.size, off := 5 }) := hd.1 rfl
     have hcc := (hC.1.cell (p := ⟨w.heap.size, 5, none⟩) HTB.out).trans HTC.out
     clear hd
     go_wp2_with fail
     exact ⟨_, by simp only [upd, h1]; rfl, ⟨hC.1, fun h => hC.2.1 h, fun h => hC.2.2 h⟩, rfl, kP⟩
    ·clear hd
     go_wp2_with fail
     exact ⟨_, rfl, ⟨hC.1, fun h => hC.2.1 h, fun h => hC.2.2 h⟩, rfl, kP⟩
    ·have h2 : fx 2 = .slice (some ⟨g, off, none⟩) p.n2 p.c2 := hd.1 rfl
     have h3 : fx 3 = .int .i64 ((j : Nat)) := hd.2.1 rfl
     have hlt := HLT.out
     have hltn : decide (j < p.n2) = true := eQ hlt
     clear hd
     go_wp2_with fail
     exact ⟨_, by simp only [upd, h2, h3]; rfl, ⟨hC.1, fun h => hC.2.1 h, fun h => hC.2.2 h⟩, rfl, kP⟩
    ·have h4 : fx 4 = .pointer (some ⟨g, off + j * 3, none⟩) := hd.1 rfl
     have hrow := rangeAt_belowM HR.out HGL.out hC.1
     refine wpList_load_mid rfl 56 (.tmp 17) rfl g (off + j * 3) h4 (clC x) _ hrow Tryz.underlying56 rfl HII.out ?_
     rw [show Value.agg (clC x).toArray = clV x from rfl]
     clear hd
     go_wp2_with fail
     exact ⟨_, by simp only [upd, h4]; rfl, ⟨hC.1, fun h => hC.2.1 h, fun h => hC.2.2 h⟩, rfl, kP⟩
    ·clear hd
     go_wp2_with fail
     exact ⟨_, rfl, ⟨hC.1, fun h => hC.2.1 h, fun h => hC.2.2 h⟩, rfl, kP⟩
    ·have h6 : fx 6 = .pointer (some { block := w.heap.size, off := 6 }) := hd.1 rfl
     have hrow := tr_salt (row_keptM HTR.out hC.1 HTB.out)
     refine wpList_load_mid rfl 25 (.tmp 19) rfl w.heap.size 6 h6 (dgC t.salt) _ hrow Tryz.underlying25 rfl HSK.out ?_
     clear hd
     go_wp2_with fail
     exact ⟨_, by simp only [upd, h6]; rfl, ⟨hC.1, fun h => hC.2.1 h, fun h => hC.2.2 h⟩, rfl, kP⟩
    ·clear hd
     go_wp2_with fail
     exact ⟨_, rfl, ⟨hC.1, fun h => hC.2.1 h, fun h => hC.2.2 h⟩, rfl, kP⟩
    ·have h8 : fx 8 = .pointer (some { block := w.heap.size, off := 5 }) := hd.1 rfl
     have hcc := (hC.1.cell (p := ⟨w.heap.size, 5, none⟩) HTB.out).trans HTC.out
     clear hd
     go_wp2_with fail
     exact ⟨_, by simp only [upd, h8]; rfl, ⟨hC.1, fun h => hC.2.1 h, fun h => hC.2.2 h⟩, rfl, kP⟩
    ·clear hd
     go_wp2_with fail
     exact ⟨_, rfl, ⟨hC.1, fun h => hC.2.1 h, fun h => hC.2.2 h⟩, rfl, kP⟩
    ·have h9 : fx 9 = .slice (some ⟨g, off, none⟩) p.n2 p.c2 := hd.1 rfl
     have h10 : fx 10 = .int .i64 ((j : Nat)) := hd.2.1 rfl
     have hlt := HLT.out
     have hltn : decide (j < p.n2) = true := eQ hlt
     clear hd
     go_wp2_with fail
     exact ⟨_, by simp only [upd, h9, h10]; rfl, ⟨hC.1, fun h => hC.2.1 h, fun h => hC.2.2 h⟩, rfl, kP⟩
    ·have h11 : fx 11 = .pointer (some ⟨g, off + j * 3, none⟩) := hd.1 rfl
     have hrow := rangeAt_belowM HR.out HGL.out hC.1
     refine wpList_load_mid rfl 56 (.tmp 24) rfl g (off + j * 3) h11 (clC x) _ hrow Tryz.underlying56 rfl HII.out ?_
     rw [show Value.agg (clC x).toArray = clV x from rfl]
     clear hd
     go_wp2_with fail
     exact ⟨_, by simp only [upd, h11]; rfl, ⟨hC.1, fun h => hC.2.1 h, fun h => hC.2.2 h⟩, rfl, kP⟩
    ·have h7 : fx 7 = dgV t.salt := hd.1 rfl
     have h12 : fx 12 = clV x := hd.2.1 rfl
     clear hd
     go_wp2_with fail
     refine (rsaltK t.salt x w' HSA).mono ?_
     rintro e w2 ⟨rfl, hq⟩
     rw [HS.out]
     go_wp2_with fail
     exact ⟨_, by simp only [upd, h7, h12]; rfl, ⟨hC.1.trans (hq.mono (Nat.le_trans HMS.out hC.1.size)), fun h => (hC.2.1 h).below hq, fun h => hC.2.2 h⟩, rfl, fun i v u _ _ h => HBL.out _ _ hq i v h⟩
    ·have h5 : fx 5 = clV x := hd.1 rfl
     have h13 : fx 13 = dgV s := hd.2.1 rfl
     clear hd
     go_wp2_with fail
     refine (rleafK_any x s w' HXO HSO).mono ?_
     rintro e w2 ⟨rfl, hq⟩
     rw [HD.out]
     go_wp2_with fail
     exact ⟨_, by simp only [upd, h5, h13]; rfl, ⟨hC.1.trans (hq.mono (Nat.le_trans HMS.out hC.1.size)), fun h => (hC.2.1 h).below hq, fun h => hC.2.2 h⟩, rfl, fun i v u _ _ h => HBL.out _ _ hq i v h⟩
    ·have h14 : fx 14 = dgV r := hd.1 rfl
     refine wpList_build_digs1 rfl (.tmp 27) rfl r h14 HRO.out ?_
     clear hd
     go_wp2_with fail
     have hq : Below w'.heap.size w' (w'.alloc (.cells (flatD [r]).toArray 25)) := (Below.refl _ _).alloc (Nat.le_refl _) _
     exact ⟨_, by simp only [upd, h14]; rfl, ⟨hC.1.trans (hq.mono (Nat.le_trans HMS.out hC.1.size)), fun h => (hC.2.1 h).below hq, fun h => hC.2.2 h⟩, ⟨_, rfl, heap_alloc_new _ _⟩, fun i v u _ _ h => HBL.out _ _ hq i v h⟩
    ·have h0 : fx 0 = .slice A3 n3 c3 := hd.1 rfl
     have H15 := hid (hd.2.1 rfl)
     obtain ⟨q, hx, hrow⟩ := H15.out
     have HQR := hid hrow
     have HOV := hid (hC.2.1 hi)
     have HSZ := hid (Nat.le_trans HMS.out hC.1.size)
     refine wpList_append_dig rfl (.tmp 13) (.tmp 28) rfl W2.heap.size (.slice A3 n3 c3) P r h0 HOV HRO.out q hx HQR HPL.out HSZ.out ?_
     intro v2 w2 HO2 HG2
     have HB2' := hid ((Below.refl W2.heap.size w').grown HG2.out HSZ.out (fun g hg => (HOV.out.block g hg).1))
     clear hd hrow
     go_wp2_with fail
     refine ⟨v2, by simp only [upd, h0, hx]; rfl, ⟨hC.1.trans HB2'.out, fun h => (updB_self h).elim, fun h => hC.2.2 h⟩, HO2.out, fun j v t hj hu h => ?_⟩
     refine wR42c_pure j v ?_ ?_ ?_ h <;> intro e <;> subst e
     ·refine absurd hu (not_needed (E := (fun i => Nat.beq i 17)) (j := 15) [16] (by kernel_rfl) (by kernel_rfl) ?_)
      intro m hm hne; simp at hm; omega
     ·rw [hi] at hj; cases hj
     ·have := hcl 17 16 hj (by kernel_rfl); rw [hi] at this; cases this
    ·have H16 := hid (hd.1 rfl)
     clear hd
     go_wp2_with fail
     exact ⟨fx 16, rfl, ⟨hC.1, fun h => hC.2.1 h, fun h => (updB_self h).elim⟩, H16.out, kP⟩
   ·intro L fo w' hC hS
    have H17 := hid (hS 17 (by decide) rfl)
    obtain ⟨A2, n2, c2, e17⟩ := H17.out.form
    have HO2 : Hid (OwnD w' W2.heap.size (.slice A2 n2 c2) ((t.cl.take (j + 1)).map (lvK t.salt))) := hid (by rw [← HPN.out, ← e17]; exact H17.out)
    have e17' : fo 17 = .slice A2 n2 c2 := e17
    rw [e17']
    have HB5 := hid (HB.out.trans hC.1)
    clear hS hC e17 e17' H17
    go_wp2_with fail
    go_roundw
    case rel => exact ⟨j + 1, _, by omega, by go_num, hid rfl, HO2, HB5, _, _, _, rfl⟩
    case measure => simp [intOf]; omega
  ·have d1 : decide ((j : Int) < (p.n2 : Int)) = false := dQ (by omega)
   have d1n : decide (j < p.n2) = false := dQ hlt
   have HPF : Hid (P = t.cl.map (lvK t.salt)) := hid (by rw [HP.out, List.take_of_length_le (by rw [HN.out]; omega)])
   have HPO : Hid (∀ y ∈ P, DgOk y) := hid (fun y hy => by
    rw [HPF.out] at hy
    obtain ⟨x, hx, rfl⟩ := List.mem_map.1 hy
    exact lfK_ok _ _)
   obtain ⟨A4, n4, c4, e4, hin4, ht4⟩ := HOW.out.slice HPO.out
   cases e4
   have HI4 := hid hin4
   have HB4 := hid (HB2.out.trans (HB.out.mono HB2.out.size))
   clear hin4 ht4
   go_wp2_with fail
   go_ret
   exact ⟨_, _, _, rfl, by rw [← HPF.out]; exact HI4.out, HB4.out⟩
end Go.Proofs.YtmfmgeapecapiaaGreatDoor
