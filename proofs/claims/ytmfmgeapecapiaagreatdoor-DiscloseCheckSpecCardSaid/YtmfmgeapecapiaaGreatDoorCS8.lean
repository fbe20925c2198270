/- sizar/disclose: the leaf of a claim. sizar/disclose: leaves (lines). sizar/disclose: leaves (claims). Transcripts: the salt within; how many claims there are. sizar/disclose.Nodes. -/
import Derived.Test.YtmfmgeapecapiaaGreatDoorCS7
set_option maxHeartbeats 16000001
namespace Go.Proofs.YtmfmgeapecapiaaGreatDoor
open Go.RowKit SzSha SzTree
set_option linter.unusedVariables false
set_option maxRecDepth 100000
def claimT : ByteArray := ⟨#[99, 108, 97, 105, 109]⟩
/-- the leaf of a claim -/
def lfK (x : Cl) (l : List Nat) : List Nat := hashT (strL claimT) l [x.p, x.r, if x.m then 1 else 0]
theorem lfK_ok (x : Cl) (l : List Nat) : DgOk (lfK x l) := ⟨tagged_length _ _, tagged_bytes _ _⟩
theorem encI_pos (zs : List Int) : 0 < (encI zs).length := by unfold encI; simp
theorem leafK_y (x : Cl) (l : List Nat) (w : World) (hm : Hid (x.m = true)) (hx : Hid (ClOk x)) (hd : Hid (DgOk l)) (hT : Hid (Tabs w)) :
  Calls Tryz.prog 105 #[clV x, dgV l] w fun e w' => e = .returned (dgV (lfK x l)) ∧ Below w.heap.size w w' := by
 obtain ⟨zs, HZS⟩ : ∃ zs : List Int, Hid ([x.p, x.r, 1] = zs) := ⟨_, Lib.hid rfl⟩
 have HLF : Hid (dgV (hashT (strL claimT) l zs) = dgV (lfK x l)) := Lib.hid (by unfold lfK; rw [hm.out, ← HZS.out]; rfl)
 have HM : Hid (zs.length = 3) := Lib.hid (by rw [← HZS.out]; rfl)
 have hz : Hid (∀ z ∈ zs, -9223372036854775808 ≤ z ∧ z ≤ 9223372036854775807) := Lib.hid (fun z hz => by
  have h0 := hx.out.b0; have h1 := hx.out.b1
  unfold I64 at h0 h1
  rw [← HZS.out] at hz
  simp only [List.mem_cons, List.not_mem_nil, or_false] at hz
  rcases hz with rfl | rfl | rfl <;> omega)
 obtain ⟨s1, s2, s3, s4⟩ := rows_three w (clC x).toArray (dgC l).toArray 56 25 (.cells #[.int .u8 0, .int .u8 0, .int .u8 0, .int .u8 0, .int .u8 0, .int .u8 0, .int .u8 0, .int .u8 0, .int .u8 0, .int .u8 0, .int .u8 0, .int .u8 0, .int .u8 0, .int .u8 0, .int .u8 0, .int .u8 0, .int .u8 0, .int .u8 0, .int .u8 0, .int .u8 0, .int .u8 0, .int .u8 0, .int .u8 0, .int .u8 0, .int .u8 0, .int .u8 0, .int .u8 0, .int .u8 0, .int .u8 0, .int .u8 0, .int .u8 0, .int .u8 0] 25)
 obtain ⟨t1, t2, t3, t4, t5⟩ := rows_four w (clC x).toArray (dgC l).toArray #[.int .u8 0, .int .u8 0, .int .u8 0, .int .u8 0, .int .u8 0, .int .u8 0, .int .u8 0, .int .u8 0, .int .u8 0, .int .u8 0, .int .u8 0, .int .u8 0, .int .u8 0, .int .u8 0, .int .u8 0, .int .u8 0, .int .u8 0, .int .u8 0, .int .u8 0, .int .u8 0, .int .u8 0, .int .u8 0, .int .u8 0, .int .u8 0, .int .u8 0, .int .u8 0, .int .u8 0, .int .u8 0, .int .u8 0, .int .u8 0, .int .u8 0, .int .u8 0] 56 25 25 (.cells #[.int .i64 3, .int .i64 0, .string ⟨#[]⟩, .slice none 0 0] 148)
 have hb5 := (Below.refl _ ((((w.alloc (.cells (clC x).toArray 56)).alloc (.cells (dgC l).toArray 25)).alloc (.cells #[.int .u8 0, .int .u8 0, .int .u8 0, .int .u8 0, .int .u8 0, .int .u8 0, .int .u8 0, .int .u8 0, .int .u8 0, .int .u8 0, .int .u8 0, .int .u8 0, .int .u8 0, .int .u8 0, .int .u8 0, .int .u8 0, .int .u8 0, .int .u8 0, .int .u8 0, .int .u8 0, .int .u8 0, .int .u8 0, .int .u8 0, .int .u8 0, .int .u8 0, .int .u8 0, .int .u8 0, .int .u8 0, .int .u8 0, .int .u8 0, .int .u8 0, .int .u8 0] 25)).alloc (.cells #[.int .i64 3, .int .i64 0, .string ⟨#[]⟩, .slice none 0 0] 148))).alloc (Nat.le_refl _) (.cells #[.int .i64 x.p, .int .i64 x.r, .int .i64 1] 3)
 have hn5 := heap_alloc_new ((((w.alloc (.cells (clC x).toArray 56)).alloc (.cells (dgC l).toArray 25)).alloc (.cells #[.int .u8 0, .int .u8 0, .int .u8 0, .int .u8 0, .int .u8 0, .int .u8 0, .int .u8 0, .int .u8 0, .int .u8 0, .int .u8 0, .int .u8 0, .int .u8 0, .int .u8 0, .int .u8 0, .int .u8 0, .int .u8 0, .int .u8 0, .int .u8 0, .int .u8 0, .int .u8 0, .int .u8 0, .int .u8 0, .int .u8 0, .int .u8 0, .int .u8 0, .int .u8 0, .int .u8 0, .int .u8 0, .int .u8 0, .int .u8 0, .int .u8 0, .int .u8 0] 25)).alloc (.cells #[.int .i64 3, .int .i64 0, .string ⟨#[]⟩, .slice none 0 0] 148)) (.cells #[.int .i64 x.p, .int .i64 x.r, .int .i64 1] 3)
 rw [show ((((w.alloc (.cells (clC x).toArray 56)).alloc (.cells (dgC l).toArray 25)).alloc (.cells #[.int .u8 0, .int .u8 0, .int .u8 0, .int .u8 0, .int .u8 0, .int .u8 0, .int .u8 0, .int .u8 0, .int .u8 0, .int .u8 0, .int .u8 0, .int .u8 0, .int .u8 0, .int .u8 0, .int .u8 0, .int .u8 0, .int .u8 0, .int .u8 0, .int .u8 0, .int .u8 0, .int .u8 0, .int .u8 0, .int .u8 0, .int .u8 0, .int .u8 0, .int .u8 0, .int .u8 0, .int .u8 0, .int .u8 0, .int .u8 0, .int .u8 0, .int .u8 0] 25)).alloc (.cells #[.int .i64 3, .int .i64 0, .string ⟨#[]⟩, .slice none 0 0] 148)).heap.size = w.heap.size + 1 + 1 + 1 + 1 by simp] at hn5
 have k2 : (((w.alloc (.cells (clC x).toArray 56)).alloc (.cells (dgC l).toArray 25)).alloc (.cells #[.int .u8 0, .int .u8 0, .int .u8 0, .int .u8 0, .int .u8 0, .int .u8 0, .int .u8 0, .int .u8 0, .int .u8 0, .int .u8 0, .int .u8 0, .int .u8 0, .int .u8 0, .int .u8 0, .int .u8 0, .int .u8 0, .int .u8 0, .int .u8 0, .int .u8 0, .int .u8 0, .int .u8 0, .int .u8 0, .int .u8 0, .int .u8 0, .int .u8 0, .int .u8 0, .int .u8 0, .int .u8 0, .int .u8 0, .int .u8 0, .int .u8 0, .int .u8 0] 25)).cell? ⟨w.heap.size, 2, none⟩ = some (.bool true) := by rw [cell_of_row _ _ _ _ _ _ s2, ← hm.out]; rfl
 have k0 : ((((w.alloc (.cells (clC x).toArray 56)).alloc (.cells (dgC l).toArray 25)).alloc (.cells #[.int .u8 0, .int .u8 0, .int .u8 0, .int .u8 0, .int .u8 0, .int .u8 0, .int .u8 0, .int .u8 0, .int .u8 0, .int .u8 0, .int .u8 0, .int .u8 0, .int .u8 0, .int .u8 0, .int .u8 0, .int .u8 0, .int .u8 0, .int .u8 0, .int .u8 0, .int .u8 0, .int .u8 0, .int .u8 0, .int .u8 0, .int .u8 0, .int .u8 0, .int .u8 0, .int .u8 0, .int .u8 0, .int .u8 0, .int .u8 0, .int .u8 0, .int .u8 0] 25)).alloc (.cells #[.int .i64 3, .int .i64 0, .string ⟨#[]⟩, .slice none 0 0] 148)).cell? ⟨w.heap.size, 0, none⟩ = some (.int .i64 x.p) := by rw [cell_of_row _ _ _ _ _ _ t2]; rfl
 have k1 : ((((w.alloc (.cells (clC x).toArray 56)).alloc (.cells (dgC l).toArray 25)).alloc (.cells #[.int .u8 0, .int .u8 0, .int .u8 0, .int .u8 0, .int .u8 0, .int .u8 0, .int .u8 0, .int .u8 0, .int .u8 0, .int .u8 0, .int .u8 0, .int .u8 0, .int .u8 0, .int .u8 0, .int .u8 0, .int .u8 0, .int .u8 0, .int .u8 0, .int .u8 0, .int .u8 0, .int .u8 0, .int .u8 0, .int .u8 0, .int .u8 0, .int .u8 0, .int .u8 0, .int .u8 0, .int .u8 0, .int .u8 0, .int .u8 0, .int .u8 0, .int .u8 0] 25)).alloc (.cells #[.int .i64 3, .int .i64 0, .string ⟨#[]⟩, .slice none 0 0] 148)).cell? ⟨w.heap.size, 1, none⟩ = some (.int .i64 x.r) := by rw [cell_of_row _ _ _ _ _ _ t2]; rfl
 have HSA0 := Lib.hid (row_kept t3 hb5)
 have HD0 := Lib.hid (row_kept t4 hb5)
 have HV0 := Lib.hid (row_kept t5 hb5)
 have HI0 := Lib.hid hn5
 have HB0 := Lib.hid (t1.trans (hb5.mono t1.size))
 clear s1 s2 s3 s4 t1 t2 t3 t4 t5 hb5 hn5
 rw [show clV x = .agg (clC x).toArray from rfl, dgV_agg l]
 go_enter Tryz.func105, Tryz.ntmps105
 go_wp2_with fail
 go_loopw [21] (fun i wr => ∃ j : Nat, j ≤ 3 ∧ i = .int .i64 j ∧ ∃ vl, Hid (wr.heap[w.heap.size + 1]? = some (.cells (dgC l).toArray 25 (0, 0))) ∧ Hid (wr.heap[w.heap.size + 1 + 1]? = some (.cells #[.int .u8 0, .int .u8 0, .int .u8 0, .int .u8 0, .int .u8 0, .int .u8 0, .int .u8 0, .int .u8 0, .int .u8 0, .int .u8 0, .int .u8 0, .int .u8 0, .int .u8 0, .int .u8 0, .int .u8 0, .int .u8 0, .int .u8 0, .int .u8 0, .int .u8 0, .int .u8 0, .int .u8 0, .int .u8 0, .int .u8 0, .int .u8 0, .int .u8 0, .int .u8 0, .int .u8 0, .int .u8 0, .int .u8 0, .int .u8 0, .int .u8 0, .int .u8 0] 25 (0, 0))) ∧ Hid (wr.heap[w.heap.size + 1 + 1 + 1]? = some (.cells #[.int .i64 3, .int .i64 0, .string ⟨#[]⟩, vl] 148 (0, 0))) ∧ Hid (wr.heap[w.heap.size + 1 + 1 + 1 + 1]? = some (.cells #[.int .i64 x.p, .int .i64 x.r, .int .i64 1] 3 (0, 0))) ∧ Hid (OwnV wr (w.heap.size + 1 + 1 + 1 + 1 + 1) vl (zs.take j)) ∧ Hid (Below w.heap.size w wr)) (fun i _ => 3 - (intOf i).toNat)
 case atStart => exact ⟨0, by omega, rfl, _, HSA0, HD0, HV0, HI0, Lib.hid (OwnV.nil _ _), HB0⟩
 case round =>
  clear HSA0 HD0 HV0 HI0 HB0 k0 k1 k2
  obtain ⟨j, hj, rfl, vl, HSA, HD, HV, HI, HO, HB⟩ := hrel
  by_cases hlt : j < 3
  ·have d1 : decide ((j : Int) < 3) = true := decide_eq_true (by omega)
   have d2 : decide (j < 3) = true := decide_eq_true hlt
   obtain ⟨z, HZ⟩ : ∃ z, Hid (zs.getD j 0 = z) := ⟨_, Lib.hid rfl⟩
   have hcell : wr.cell? ⟨w.heap.size + 1 + 1 + 1 + 1, j, none⟩ = some (.int .i64 z) := by
    rw [cell_of_row _ _ _ _ _ _ HI.out, ← HZ.out, ← HZS.out]
    rcases j with _ | _ | _ | j
    ·rfl
    ·rfl
    ·rfl
    ·omega
   have k3 : wr.cell? ⟨w.heap.size + 1 + 1 + 1, 3, none⟩ = some vl := by rw [cell_of_row _ _ _ _ _ _ HV.out]; rfl
   have HSZ : Hid (w.heap.size + 1 + 1 + 1 + 1 + 1 ≤ wr.heap.size) := Lib.hid (Array.getElem?_eq_some_iff.1 HI.out).1
   have HBA := Lib.hid ((Below.refl _ wr).alloc (Nat.le_refl _) (.cells #[.int .i64 1, .int .i64 z, .string ⟨#[]⟩, .slice none 0 0] 148))
   have HOA := Lib.hid (HO.out.kept (fun k _ hk => HBA.out.block k hk))
   have HVA := Lib.hid (row_kept HV.out HBA.out)
   have HRA := Lib.hid (heap_alloc_new wr (.cells #[.int .i64 1, .int .i64 z, .string ⟨#[]⟩, .slice none 0 0] 148))
   have HLN : Hid ((zs.take j).length ≤ 100000) := Lib.hid (by rw [List.length_take]; omega)
   have HSA2 := Lib.hid (Nat.le_trans HSZ.out HBA.out.size)
   have HNX : Hid (zs.take j ++ [z] = zs.take (j + 1)) := Lib.hid (by
    have h1 : j < zs.length := by rw [HM.out]; exact hlt
    rw [List.take_succ_eq_append_getElem h1, ← HZ.out]; simp [List.getD_eq_getElem?_getD, h1])
   go_wp2_with (at_builtin; refine wpList_append_val rfl (.tmp 26) (.tmp 29) rfl (w.heap.size + 1 + 1 + 1 + 1 + 1) vl (zs.take j) z ?ha HOA wr.heap.size ?hb ?hc HLN.out HSA2.out ?_)
   case ha => rfl
   case hb => rfl
   case hc => exact HRA
   intro v2 w2 HO2 HB2
   obtain ⟨A', n', c', rfl⟩ := ownV_form HO2.out
   have keepr : ∀ {b : Nat} {cs : Array Value} {t : TypeId}, b < w.heap.size + 1 + 1 + 1 + 1 + 1 → wr.heap[b]? = some (.cells cs t (0, 0)) → w2.heap[b]? = some (.cells cs t (0, 0)) := fun {b cs t} hb h => (HB2.out.block b hb).trans (row_kept h HBA.out)
   have HV2 := Lib.hid (keepr (by omega) HV.out)
   obtain ⟨k3', f3'⟩ := row3 HV2.out
   go_wp2_with fail
   have HBB := Lib.hid (((HB.out.trans (HBA.out.mono HB.out.size)).trans (HB2.out.mono (by omega))).setCell (p := ⟨w.heap.size + 1 + 1 + 1, 3, none⟩) (by show w.heap.size ≤ w.heap.size + 1 + 1 + 1; omega) (.slice A' n' c'))
   have HV3 := Lib.hid (set3 (v' := .slice A' n' c') HV2.out)
   have hoth : ∀ b, b ≠ w.heap.size + 1 + 1 + 1 → (w2.setCell ⟨w.heap.size + 1 + 1 + 1, 3, none⟩ (.slice A' n' c')).heap[b]? = w2.heap[b]? := fun b hb => Below.heap_setCell w2 ⟨w.heap.size + 1 + 1 + 1, 3, none⟩ (.slice A' n' c') b (by intro e; exact hb e)
   have HD3 := Lib.hid ((hoth (w.heap.size + 1 + 1) (by omega)).trans (keepr (by omega) HD.out))
   have HSA3 := Lib.hid ((hoth (w.heap.size + 1) (by omega)).trans (keepr (by omega) HSA.out))
   have HI3 := Lib.hid ((hoth (w.heap.size + 1 + 1 + 1 + 1) (by omega)).trans (keepr (by omega) HI.out))
   have HO3 := Lib.hid (HO2.out.kept (fun k hk hk2 => hoth k (by omega)))
   rw [HNX.out] at HO3
   clear k3' f3' k3 hcell keepr hoth
   go_roundw
   case rel => exact ⟨j + 1, by omega, by go_num, _, HSA3, HD3, HV3, HI3, HO3, HBB⟩
   case measure => simp [intOf]; omega
  ·have d1 : decide ((j : Int) < 3) = false := decide_eq_false (by omega)
   have HOm : Hid (OwnV wr (w.heap.size + 1 + 1 + 1 + 1 + 1) vl zs) := Lib.hid (by have := HO.out; rwa [List.take_of_length_le (by rw [HM.out]; omega)] at this)
   obtain ⟨Av, cv, rfl, hvr⟩ := HOm.out.slice
   have HVR := Lib.hid hvr
   have c0 : wr.cell? ⟨w.heap.size + 1 + 1 + 1, 0, none⟩ = some (.int .i64 3) := by rw [cell_of_row _ _ _ _ _ _ HV.out]; rfl
   have c1 : wr.cell? ⟨w.heap.size + 1 + 1 + 1, 1, none⟩ = some (.int .i64 0) := by rw [cell_of_row _ _ _ _ _ _ HV.out]; rfl
   have c2 : wr.cell? ⟨w.heap.size + 1 + 1 + 1, 2, none⟩ = some (.string ⟨#[]⟩) := by rw [cell_of_row _ _ _ _ _ _ HV.out]; rfl
   have c3 : wr.cell? ⟨w.heap.size + 1 + 1 + 1, 3, none⟩ = some (.slice Av zs.length cv) := by rw [cell_of_row _ _ _ _ _ _ HV.out]; rfl
   clear hvr
   go_wp2_with fail
   refine (encode_list zs Av cv _ hz (by rw [HM.out]; omega) HVR).mono ?_
   rintro e w2 ⟨v2, rfl, ho2, hb2⟩
   obtain ⟨A2, n2, cc2, rfl, hn2, hc2, hA2, HR2⟩ := ho2.slice
   obtain ⟨g2, o2, rfl, hg2, HBY0⟩ := HR2.out (encI_pos zs)
   obtain rfl : o2 = 0 := by
    rcases ho2.2 with ⟨e, _⟩ | ⟨g, cap, cur, e, _⟩
    ·cases e
    ·injection e with e; injection e with e; injection e
   have HBY := Lib.hid HBY0
   have HB2 := Lib.hid (HB.out.trans (hb2.mono HB.out.size))
   have HD2 := Lib.hid (row_kept HD.out hb2)
   have HSA2 := Lib.hid (bytesAt_arr (row_kept HSA.out hb2))
   have HNP : Hid (0 < n2) := Lib.hid (by rw [← hn2.out]; exact encI_pos zs)
   have HEL : Hid (n2 ≤ 20000) := Lib.hid (by rw [← hn2.out]; have := encI_length zs; rw [HM.out] at this; omega)
   have HL3 : Hid (32 + n2 ≤ 1000000) := Lib.hid (by have := HEL.out; omega)
   clear ho2 hb2 c0 c1 c2 c3 HR2 HBY0
   go_wp2_with (at_builtin; refine wpList_append_full rfl (.tmp 38) (.tmp 39) rfl (w.heap.size + 1) 32 g2 n2 cc2 l (encI zs) rfl rfl hd.out.len hn2.out HSA2 HBY HNP.out HL3.out ?_)
   intro v4 w4 HO4 HB4
   obtain ⟨A6, n6, c6, rfl, hn6, hc6, hA6, HR6⟩ := HO4.out.slice
   have HB5 := Lib.hid (HB2.out.trans (HB4.out.mono HB2.out.size))
   have HD4 := Lib.hid (row_kept HD2.out HB4.out)
   go_wp2_with fail
   refine (tagged_any claimT A6 n6 c6 (l ++ encI zs) _ (by decide) hn6 hc6 hA6.out (by rw [← hn6.out, List.length_append, hd.out.len, hn2.out]; have := HEL.out; omega) (Lib.hid (bytes_app2 hd.out.bytes (encI_bytes zs))) (Lib.hid (hT.out.below HB5.out)) HR6).mono ?_
   rintro e w5 ⟨rfl, hb5⟩
   have HB6 := Lib.hid (HB5.out.trans (hb5.mono HB5.out.size))
   have HD5 := Lib.hid (row_kept HD4.out hb5)
   have HE : Hid (dgV (tagged (strL claimT) (l ++ encI zs)) = dgV (lfK x l)) := Lib.hid (by rw [← HLF.out]; rfl)
   have HS1 := Lib.hid (dgC_info (lfK_ok x l))
   have HS2 := Lib.hid (dgC_size (lfK_ok x l))
   rw [HE.out, dgV_agg]
   clear hb5
   go_wp2_with (refine wpList_store_row rfl 25 (.tmp 4) (.tmp 41) rfl (w.heap.size + 1 + 1) (dgC (lfK x l)).toArray rfl rfl 25 _ HD5.out HS1.out HS2.out (dgC_one _) ?_)
   refine bodyPost_ret (results_cell_row rfl _ _ (w.heap.size + 1 + 1) 25 _ (0, 0) _ rfl (setRow_heap w5 (w.heap.size + 1 + 1) _ _ _ _ HD5.out) Tryz.underlying25 rfl HS1.out) rfl ?_
   exact ⟨rfl, below_setRow HB6.out (by omega) _⟩
theorem leafK_n (x : Cl) (l : List Nat) (w : World) (hm : Hid (x.m = false)) (hx : Hid (ClOk x)) (hd : Hid (DgOk l)) (hT : Hid (Tabs w)) :
  Calls Tryz.prog 105 #[clV x, dgV l] w fun e w' => e = .returned (dgV (lfK x l)) ∧ Below w.heap.size w w' := by
 obtain ⟨zs, HZS⟩ : ∃ zs : List Int, Hid ([x.p, x.r, 0] = zs) := ⟨_, Lib.hid rfl⟩
 have HLF : Hid (dgV (hashT (strL claimT) l zs) = dgV (lfK x l)) := Lib.hid (by unfold lfK; rw [hm.out, ← HZS.out]; rfl)
 have HM : Hid (zs.length = 3) := Lib.hid (by rw [← HZS.out]; rfl)
 have hz : Hid (∀ z ∈ zs, -9223372036854775808 ≤ z ∧ z ≤ 9223372036854775807) := Lib.hid (fun z hz => by
  have h0 := hx.out.b0; have h1 := hx.out.b1
  unfold I64 at h0 h1
  rw [← HZS.out] at hz
  simp only [List.mem_cons, List.not_mem_nil, or_false] at hz
  rcases hz with rfl | rfl | rfl <;> omega)
 obtain ⟨s1, s2, s3, s4⟩ := rows_three w (clC x).toArray (dgC l).toArray 56 25 (.cells #[.int .u8 0, .int .u8 0, .int .u8 0, .int .u8 0, .int .u8 0, .int .u8 0, .int .u8 0, .int .u8 0, .int .u8 0, .int .u8 0, .int .u8 0, .int .u8 0, .int .u8 0, .int .u8 0, .int .u8 0, .int .u8 0, .int .u8 0, .int .u8 0, .int .u8 0, .int .u8 0, .int .u8 0, .int .u8 0, .int .u8 0, .int .u8 0, .int .u8 0, .int .u8 0, .int .u8 0, .int .u8 0, .int .u8 0, .int .u8 0, .int .u8 0, .int .u8 0] 25)
 obtain ⟨t1, t2, t3, t4, t5⟩ := rows_four w (clC x).toArray (dgC l).toArray #[.int .u8 0, .int .u8 0, .int .u8 0, .int .u8 0, .int .u8 0, .int .u8 0, .int .u8 0, .int .u8 0, .int .u8 0, .int .u8 0, .int .u8 0, .int .u8 0, .int .u8 0, .int .u8 0, .int .u8 0, .int .u8 0, .int .u8 0, .int .u8 0, .int .u8 0, .int .u8 0, .int .u8 0, .int .u8 0, .int .u8 0, .int .u8 0, .int .u8 0, .int .u8 0, .int .u8 0, .int .u8 0, .int .u8 0, .int .u8 0, .int .u8 0, .int .u8 0] 56 25 25 (.cells #[.int .i64 3, .int .i64 0, .string ⟨#[]⟩, .slice none 0 0] 148)
 have hb5 := (Below.refl _ ((((w.alloc (.cells (clC x).toArray 56)).alloc (.cells (dgC l).toArray 25)).alloc (.cells #[.int .u8 0, .int .u8 0, .int .u8 0, .int .u8 0, .int .u8 0, .int .u8 0, .int .u8 0, .int .u8 0, .int .u8 0, .int .u8 0, .int .u8 0, .int .u8 0, .int .u8 0, .int .u8 0, .int .u8 0, .int .u8 0, .int .u8 0, .int .u8 0, .int .u8 0, .int .u8 0, .int .u8 0, .int .u8 0, .int .u8 0, .int .u8 0, .int .u8 0, .int .u8 0, .int .u8 0, .int .u8 0, .int .u8 0, .int .u8 0, .int .u8 0, .int .u8 0] 25)).alloc (.cells #[.int .i64 3, .int .i64 0, .string ⟨#[]⟩, .slice none 0 0] 148))).alloc (Nat.le_refl _) (.cells #[.int .i64 x.p, .int .i64 x.r, .int .i64 0] 3)
 have hn5 := heap_alloc_new ((((w.alloc (.cells (clC x).toArray 56)).alloc (.cells (dgC l).toArray 25)).alloc (.cells #[.int .u8 0, .int .u8 0, .int .u8 0, .int .u8 0, .int .u8 0, .int .u8 0, .int .u8 0, .int .u8 0, .int .u8 0, .int .u8 0, .int .u8 0, .int .u8 0, .int .u8 0, .int .u8 0, .int .u8 0, .int .u8 0, .int .u8 0, .int .u8 0, .int .u8 0, .int .u8 0, .int .u8 0, .int .u8 0, .int .u8 0, .int .u8 0, .int .u8 0, .int .u8 0, .int .u8 0, .int .u8 0, .int .u8 0, .int .u8 0, .int .u8 0, .int .u8 0] 25)).alloc (.cells #[.int .i64 3, .int .i64 0, .string ⟨#[]⟩, .slice none 0 0] 148)) (.cells #[.int .i64 x.p, .int .i64 x.r, .int .i64 0] 3)
 rw [show ((((w.alloc (.cells (clC x).toArray 56)).alloc (.cells (dgC l).toArray 25)).alloc (.cells #[.int .u8 0, .int .u8 0, .int .u8 0, .int .u8 0, .int .u8 0, .int .u8 0, .int .u8 0, .int .u8 0, .int .u8 0, .int .u8 0, .int .u8 0, .int .u8 0, .int .u8 0, .int .u8 0, .int .u8 0, .int .u8 0, .int .u8 0, .int .u8 0, .int .u8 0, .int .u8 0, .int .u8 0, .int .u8 0, .int .u8 0, .int .u8 0, .int .u8 0, .int .u8 0, .int .u8 0, .int .u8 0, .int .u8 0, .int .u8 0, .int .u8 0, .int .u8 0] 25)).alloc (.cells #[.int .i64 3, .int .i64 0, .string ⟨#[]⟩, .slice none 0 0] 148)).heap.size = w.heap.size + 1 + 1 + 1 + 1 by simp] at hn5
 have k2 : (((w.alloc (.cells (clC x).toArray 56)).alloc (.cells (dgC l).toArray 25)).alloc (.cells #[.int .u8 0, .int .u8 0, .int .u8 0, .int .u8 0, .int .u8 0, .int .u8 0, .int .u8 0, .int .u8 0, .int .u8 0, .int .u8 0, .int .u8 0, .int .u8 0, .int .u8 0, .int .u8 0, .int .u8 0, .int .u8 0, .int .u8 0, .int .u8 0, .int .u8 0, .int .u8 0, .int .u8 0, .int .u8 0, .int .u8 0, .int .u8 0, .int .u8 0, .int .u8 0, .int .u8 0, .int .u8 0, .int .u8 0, .int .u8 0, .int .u8 0, .int .u8 0] 25)).cell? ⟨w.heap.size, 2, none⟩ = some (.bool false) := by rw [cell_of_row _ _ _ _ _ _ s2, ← hm.out]; rfl
 have k0 : ((((w.alloc (.cells (clC x).toArray 56)).alloc (.cells (dgC l).toArray 25)).alloc (.cells #[.int .u8 0, .int .u8 0, .int .u8 0, .int .u8 0, .int .u8 0, .int .u8 0, .int .u8 0, .int .u8 0, .int .u8 0, .int .u8 0, .int .u8 0, .int .u8 0, .int .u8 0, .int .u8 0, .int .u8 0, .int .u8 0, .int .u8 0, .int .u8 0, .int .u8 0, .int .u8 0, .int .u8 0, .int .u8 0, .int .u8 0, .int .u8 0, .int .u8 0, .int .u8 0, .int .u8 0, .int .u8 0, .int .u8 0, .int .u8 0, .int .u8 0, .int .u8 0] 25)).alloc (.cells #[.int .i64 3, .int .i64 0, .string ⟨#[]⟩, .slice none 0 0] 148)).cell? ⟨w.heap.size, 0, none⟩ = some (.int .i64 x.p) := by rw [cell_of_row _ _ _ _ _ _ t2]; rfl
 have k1 : ((((w.alloc (.cells (clC x).toArray 56)).alloc (.cells (dgC l).toArray 25)).alloc (.cells #[.int .u8 0, .int .u8 0, .int .u8 0, .int .u8 0, .int .u8 0, .int .u8 0, .int .u8 0, .int .u8 0, .int .u8 0, .int .u8 0, .int .u8 0, .int .u8 0, .int .u8 0, .int .u8 0, .int .u8 0, .int .u8 0, .int .u8 0, .int .u8 0, .int .u8 0, .int .u8 0, .int .u8 0, .int .u8 0, .int .u8 0, .int .u8 0, .int .u8 0, .int .u8 0, .int .u8 0, .int .u8 0, .int .u8 0, .int .u8 0, .int .u8 0, .int .u8 0] 25)).alloc (.cells #[.int .i64 3, .int .i64 0, .string ⟨#[]⟩, .slice none 0 0] 148)).cell? ⟨w.heap.size, 1, none⟩ = some (.int .i64 x.r) := by rw [cell_of_row _ _ _ _ _ _ t2]; rfl
 have HSA0 := Lib.hid (row_kept t3 hb5)
 have HD0 := Lib.hid (row_kept t4 hb5)
 have HV0 := Lib.hid (row_kept t5 hb5)
 have HI0 := Lib.hid hn5
 have HB0 := Lib.hid (t1.trans (hb5.mono t1.size))
 clear s1 s2 s3 s4 t1 t2 t3 t4 t5 hb5 hn5
 rw [show clV x = .agg (clC x).toArray from rfl, dgV_agg l]
 go_enter Tryz.func105, Tryz.ntmps105
 go_wp2_with fail
 go_loopw [21] (fun i wr => ∃ j : Nat, j ≤ 3 ∧ i = .int .i64 j ∧ ∃ vl, Hid (wr.heap[w.heap.size + 1]? = some (.cells (dgC l).toArray 25 (0, 0))) ∧ Hid (wr.heap[w.heap.size + 1 + 1]? = some (.cells #[.int .u8 0, .int .u8 0, .int .u8 0, .int .u8 0, .int .u8 0, .int .u8 0, .int .u8 0, .int .u8 0, .int .u8 0, .int .u8 0, .int .u8 0, .int .u8 0, .int .u8 0, .int .u8 0, .int .u8 0, .int .u8 0, .int .u8 0, .int .u8 0, .int .u8 0, .int .u8 0, .int .u8 0, .int .u8 0, .int .u8 0, .int .u8 0, .int .u8 0, .int .u8 0, .int .u8 0, .int .u8 0, .int .u8 0, .int .u8 0, .int .u8 0, .int .u8 0] 25 (0, 0))) ∧ Hid (wr.heap[w.heap.size + 1 + 1 + 1]? = some (.cells #[.int .i64 3, .int .i64 0, .string ⟨#[]⟩, vl] 148 (0, 0))) ∧ Hid (wr.heap[w.heap.size + 1 + 1 + 1 + 1]? = some (.cells #[.int .i64 x.p, .int .i64 x.r, .int .i64 0] 3 (0, 0))) ∧ Hid (OwnV wr (w.heap.size + 1 + 1 + 1 + 1 + 1) vl (zs.take j)) ∧ Hid (Below w.heap.size w wr)) (fun i _ => 3 - (intOf i).toNat)
 case atStart => exact ⟨0, by omega, rfl, _, HSA0, HD0, HV0, HI0, Lib.hid (OwnV.nil _ _), HB0⟩
 case round =>
  clear HSA0 HD0 HV0 HI0 HB0 k0 k1 k2
  obtain ⟨j, hj, rfl, vl, HSA, HD, HV, HI, HO, HB⟩ := hrel
  by_cases hlt : j < 3
  ·have d1 : decide ((j : Int) < 3) = true := decide_eq_true (by omega)
   have d2 : decide (j < 3) = true := decide_eq_true hlt
   obtain ⟨z, HZ⟩ : ∃ z, Hid (zs.getD j 0 = z) := ⟨_, Lib.hid rfl⟩
   have hcell : wr.cell? ⟨w.heap.size + 1 + 1 + 1 + 1, j, none⟩ = some (.int .i64 z) := by
    rw [cell_of_row _ _ _ _ _ _ HI.out, ← HZ.out, ← HZS.out]
    rcases j with _ | _ | _ | j
    ·rfl
    ·rfl
    ·rfl
    ·omega
   have k3 : wr.cell? ⟨w.heap.size + 1 + 1 + 1, 3, none⟩ = some vl := by rw [cell_of_row _ _ _ _ _ _ HV.out]; rfl
   have HSZ : Hid (w.heap.size + 1 + 1 + 1 + 1 + 1 ≤ wr.heap.size) := Lib.hid (Array.getElem?_eq_some_iff.1 HI.out).1
   have HBA := Lib.hid ((Below.refl _ wr).alloc (Nat.le_refl _) (.cells #[.int .i64 1, .int .i64 z, .string ⟨#[]⟩, .slice none 0 0] 148))
   have HOA := Lib.hid (HO.out.kept (fun k _ hk => HBA.out.block k hk))
   have HVA := Lib.hid (row_kept HV.out HBA.out)
   have HRA := Lib.hid (heap_alloc_new wr (.cells #[.int .i64 1, .int .i64 z, .string ⟨#[]⟩, .slice none 0 0] 148))
   have HLN : Hid ((zs.take j).length ≤ 100000) := Lib.hid (by rw [List.length_take]; omega)
   have HSA2 := Lib.hid (Nat.le_trans HSZ.out HBA.out.size)
   have HNX : Hid (zs.take j ++ [z] = zs.take (j + 1)) := Lib.hid (by
    have h1 : j < zs.length := by rw [HM.out]; exact hlt
    rw [List.take_succ_eq_append_getElem h1, ← HZ.out]; simp [List.getD_eq_getElem?_getD, h1])
   go_wp2_with (at_builtin; refine wpList_append_val rfl (.tmp 26) (.tmp 29) rfl (w.heap.size + 1 + 1 + 1 + 1 + 1) vl (zs.take j) z ?ha HOA wr.heap.size ?hb ?hc HLN.out HSA2.out ?_)
   case ha => rfl
   case hb => rfl
   case hc => exact HRA
   intro v2 w2 HO2 HB2
   obtain ⟨A', n', c', rfl⟩ := ownV_form HO2.out
   have keepr : ∀ {b : Nat} {cs : Array Value} {t : TypeId}, b < w.heap.size + 1 + 1 + 1 + 1 + 1 → wr.heap[b]? = some (.cells cs t (0, 0)) → w2.heap[b]? = some (.cells cs t (0, 0)) := fun {b cs t} hb h => (HB2.out.block b hb).trans (row_kept h HBA.out)
   have HV2 := Lib.hid (keepr (by omega) HV.out)
   obtain ⟨k3', f3'⟩ := row3 HV2.out
   go_wp2_with fail
   have HBB := Lib.hid (((HB.out.trans (HBA.out.mono HB.out.size)).trans (HB2.out.mono (by omega))).setCell (p := ⟨w.heap.size + 1 + 1 + 1, 3, none⟩) (by show w.heap.size ≤ w.heap.size + 1 + 1 + 1; omega) (.slice A' n' c'))
   have HV3 := Lib.hid (set3 (v' := .slice A' n' c') HV2.out)
   have hoth : ∀ b, b ≠ w.heap.size + 1 + 1 + 1 → (w2.setCell ⟨w.heap.size + 1 + 1 + 1, 3, none⟩ (.slice A' n' c')).heap[b]? = w2.heap[b]? := fun b hb => Below.heap_setCell w2 ⟨w.heap.size + 1 + 1 + 1, 3, none⟩ (.slice A' n' c') b (by intro e; exact hb e)
   have HD3 := Lib.hid ((hoth (w.heap.size + 1 + 1) (by omega)).trans (keepr (by omega) HD.out))
   have HSA3 := Lib.hid ((hoth (w.heap.size + 1) (by omega)).trans (keepr (by omega) HSA.out))
   have HI3 := Lib.hid ((hoth (w.heap.size + 1 + 1 + 1 + 1) (by omega)).trans (keepr (by omega) HI.out))
   have HO3 := Lib.hid (HO2.out.kept (fun k hk hk2 => hoth k (by omega)))
   rw [HNX.out] at HO3
   clear k3' f3' k3 hcell keepr hoth
   go_roundw
   case rel => exact ⟨j + 1, by omega, by go_num, _, HSA3, HD3, HV3, HI3, HO3, HBB⟩
   case measure => simp [intOf]; omega
  ·have d1 : decide ((j : Int) < 3) = false := decide_eq_false (by omega)
   have HOm : Hid (OwnV wr (w.heap.size + 1 + 1 + 1 + 1 + 1) vl zs) := Lib.hid (by have := HO.out; rwa [List.take_of_length_le (by rw [HM.out]; omega)] at this)
   obtain ⟨Av, cv, rfl, hvr⟩ := HOm.out.slice
   have HVR := Lib.hid hvr
   have c0 : wr.cell? ⟨w.heap.size + 1 + 1 + 1, 0, none⟩ = some (.int .i64 3) := by rw [cell_of_row _ _ _ _ _ _ HV.out]; rfl
   have c1 : wr.cell? ⟨w.heap.size + 1 + 1 + 1, 1, none⟩ = some (.int .i64 0) := by rw [cell_of_row _ _ _ _ _ _ HV.out]; rfl
   have c2 : wr.cell? ⟨w.heap.size + 1 + 1 + 1, 2, none⟩ = some (.string ⟨#[]⟩) := by rw [cell_of_row _ _ _ _ _ _ HV.out]; rfl
   have c3 : wr.cell? ⟨w.heap.size + 1 + 1 + 1, 3, none⟩ = some (.slice Av zs.length cv) := by rw [cell_of_row _ _ _ _ _ _ HV.out]; rfl
   clear hvr
   go_wp2_with fail
   refine (encode_list zs Av cv _ hz (by rw [HM.out]; omega) HVR).mono ?_
   rintro e w2 ⟨v2, rfl, ho2, hb2⟩
   obtain ⟨A2, n2, cc2, rfl, hn2, hc2, hA2, HR2⟩ := ho2.slice
   obtain ⟨g2, o2, rfl, hg2, HBY0⟩ := HR2.out (encI_pos zs)
   obtain rfl : o2 = 0 := by
    rcases ho2.2 with ⟨e, _⟩ | ⟨g, cap, cur, e, _⟩
    ·cases e
    ·injection e with e; injection e with e; injection e
   have HBY := Lib.hid HBY0
   have HB2 := Lib.hid (HB.out.trans (hb2.mono HB.out.size))
   have HD2 := Lib.hid (row_kept HD.out hb2)
   have HSA2 := Lib.hid (bytesAt_arr (row_kept HSA.out hb2))
   have HNP : Hid (0 < n2) := Lib.hid (by rw [← hn2.out]; exact encI_pos zs)
   have HEL : Hid (n2 ≤ 20000) := Lib.hid (by rw [← hn2.out]; have := encI_length zs; rw [HM.out] at this; omega)
   have HL3 : Hid (32 + n2 ≤ 1000000) := Lib.hid (by have := HEL.out; omega)
   clear ho2 hb2 c0 c1 c2 c3 HR2 HBY0
   go_wp2_with (at_builtin; refine wpList_append_full rfl (.tmp 38) (.tmp 39) rfl (w.heap.size + 1) 32 g2 n2 cc2 l (encI zs) rfl rfl hd.out.len hn2.out HSA2 HBY HNP.out HL3.out ?_)
   intro v4 w4 HO4 HB4
   obtain ⟨A6, n6, c6, rfl, hn6, hc6, hA6, HR6⟩ := HO4.out.slice
   have HB5 := Lib.hid (HB2.out.trans (HB4.out.mono HB2.out.size))
   have HD4 := Lib.hid (row_kept HD2.out HB4.out)
   go_wp2_with fail
   refine (tagged_any claimT A6 n6 c6 (l ++ encI zs) _ (by decide) hn6 hc6 hA6.out (by rw [← hn6.out, List.length_append, hd.out.len, hn2.out]; have := HEL.out; omega) (Lib.hid (bytes_app2 hd.out.bytes (encI_bytes zs))) (Lib.hid (hT.out.below HB5.out)) HR6).mono ?_
   rintro e w5 ⟨rfl, hb5⟩
   have HB6 := Lib.hid (HB5.out.trans (hb5.mono HB5.out.size))
   have HD5 := Lib.hid (row_kept HD4.out hb5)
   have HE : Hid (dgV (tagged (strL claimT) (l ++ encI zs)) = dgV (lfK x l)) := Lib.hid (by rw [← HLF.out]; rfl)
   have HS1 := Lib.hid (dgC_info (lfK_ok x l))
   have HS2 := Lib.hid (dgC_size (lfK_ok x l))
   rw [HE.out, dgV_agg]
   clear hb5
   go_wp2_with (refine wpList_store_row rfl 25 (.tmp 4) (.tmp 41) rfl (w.heap.size + 1 + 1) (dgC (lfK x l)).toArray rfl rfl 25 _ HD5.out HS1.out HS2.out (dgC_one _) ?_)
   refine bodyPost_ret (results_cell_row rfl _ _ (w.heap.size + 1 + 1) 25 _ (0, 0) _ rfl (setRow_heap w5 (w.heap.size + 1 + 1) _ _ _ _ HD5.out) Tryz.underlying25 rfl HS1.out) rfl ?_
   exact ⟨rfl, below_setRow HB6.out (by omega) _⟩
theorem leafK (x : Cl) (l : List Nat) (w : World) (hx : Hid (ClOk x)) (hd : Hid (DgOk l)) (hT : Hid (Tabs w)) :
  Calls Tryz.prog 105 #[clV x, dgV l] w fun e w' => e = .returned (dgV (lfK x l)) ∧ Below w.heap.size w w' := by
 by_cases h : x.m = true
 ·exact leafK_y x l w (Lib.hid h) hx hd hT
 ·exact leafK_n x l w (Lib.hid (by simpa using h)) hx hd hT
theorem lnC_len4 (x : Ln) : (lnC x).length = 5 := rfl
theorem lnC_infoL4 (x : Ln) : (Tryz.prog.info? 45).map (·.size) = some (lnC x).length := by show _ = some 5; kernel_rfl
theorem lnC_info4 (x : Ln) : (Tryz.prog.info? 45).map (·.size) = some (lnC x).toArray.size := by show _ = some 5; kernel_rfl
theorem tabL_info4 : (Tryz.prog.info? 86).map (·.size) = some tabL.size := by show _ = some 4; kernel_rfl
/-- the leaf of an element under a transcript's salt -/
def lvL (base : List Nat) (x : Ln) : Dg := lfL x (saltN base 1 (nLn x))
def wLsL (M : Nat) (bt : Nat) (A3 : Option Addr) (n3 : Nat) (c3 : Nat) (base : List Nat) (x : Ln) (s : List Nat) (d : List Nat) (P : List Dg) : Nat → Value → World → Prop
 | 0, fv, _ => fv = .slice A3 n3 c3
 | 1, fv, _ => fv = .pointer (some { block := bt, off := 3 })
 | 2, fv, _ => fv = .func (.func 95) #[] #[]
 | 3, fv, _ => fv = lnV x
 | 4, fv, _ => fv = .agg tabL
 | 5, fv, _ => fv = dgV base
 | 6, fv, _ => fv = lnV x
 | 7, fv, _ => fv = dgV s
 | 8, fv, _ => fv = dgV d
 | 9, fv, fw => ∃ q, fv = .slice (some ⟨q, 0, none⟩) 1 1 ∧ fw.heap[q]? = some (.cells (flatD [d]).toArray 25 (0, 0))
 | 10, fv, fw => OwnD fw M fv (P ++ [d])
 | 11, fv, fw => OwnD fw M fv (P ++ [d])
 | _, _, _ => True
theorem wLsL_below {M : Nat} {bt : Nat} {A3 : Option Addr} {n3 : Nat} {c3 : Nat} {base : List Nat} {x : Ln} {s : List Nat} {d : List Nat} {P : List Dg} {w w' : World} (hb : Below w.heap.size w w') : ∀ j v, wLsL M bt A3 n3 c3 base x s d P j v w → wLsL M bt A3 n3 c3 base x s d P j v w'
 | 0, v, h => h
 | 1, v, h => h
 | 2, v, h => h
 | 3, v, h => h
 | 4, v, h => h
 | 5, v, h => h
 | 6, v, h => h
 | 7, v, h => h
 | 8, v, h => h
 | 9, v, ⟨q, h1, h2⟩ => ⟨q, h1, row_kept h2 hb⟩
 | 10, v, h => h.below hb
 | 11, v, h => h.below hb
 | n + 12, v, h => trivial
theorem wLsL_pure {M : Nat} {bt : Nat} {A3 : Option Addr} {n3 : Nat} {c3 : Nat} {base : List Nat} {x : Ln} {s : List Nat} {d : List Nat} {P : List Dg} {w w' : World} : ∀ j v, j ≠ 9 → j ≠ 10 → j ≠ 11 → wLsL M bt A3 n3 c3 base x s d P j v w → wLsL M bt A3 n3 c3 base x s d P j v w'
 | 0, v, _, _, _, h => h
 | 1, v, _, _, _, h => h
 | 2, v, _, _, _, h => h
 | 3, v, _, _, _, h => h
 | 4, v, _, _, _, h => h
 | 5, v, _, _, _, h => h
 | 6, v, _, _, _, h => h
 | 7, v, _, _, _, h => h
 | 8, v, _, _, _, h => h
 | 9, v, hh, _, _, _ => absurd rfl hh
 | 10, v, _, hh, _, _ => absurd rfl hh
 | 11, v, _, _, hh, _ => absurd rfl hh
 | n + 12, v, _, _, _, h => trivial
theorem leavesL (base : List Nat) (ls : List Ln) (A : Option Addr) (n c : Nat) (w : World) (hn : n ≤ 100000) (hba : Hid (DgOk base)) (h : Hid (InLn w A n c ls)) (hT : Hid (Tabs w)) :
  Calls Tryz.prog 46 #[.agg tabL, dgV base, .slice A n c] w fun e w' => ∃ A' n' c', e = .returned (.slice A' n' c') ∧ InD w' A' n' c' (ls.map (lvL base)) ∧ Below w.heap.size w w' := by
 have HN := Lib.hid (show ls.length = n from h.out.len)
 have hb2 := ((Below.refl _ w).alloc (Nat.le_refl _) (.cells tabL 86)).alloc (by simp) (.cells (dgC base).toArray 25)
 have hr0 := (Below.heap_alloc (w.alloc (.cells tabL 86)) (.cells (dgC base).toArray 25) w.heap.size (by simp)).trans (heap_alloc_new w (.cells tabL 86))
 have hr1 := heap_alloc_new (w.alloc (.cells tabL 86)) (.cells (dgC base).toArray 25)
 rw [World.size_alloc] at hr1
 have HB12 := Lib.hid hb2
 have HTB := Lib.hid hr0
 have HBA := Lib.hid hr1
 have HI2 := Lib.hid (h.out.below hb2)
 have hT2 := Lib.hid (hT.out.below hb2)
 have HIB := Lib.hid (dgC_info hba.out)
 have HIT := Lib.hid tabL_info4
 clear hb2 hr0 hr1 h
 rw [dgV_agg base]
 go_enter Tryz.func46, Tryz.ntmps46
 go_wp2_with fail
 generalize ((w.alloc (.cells tabL 86)).alloc (.cells (dgC base).toArray 25)) = W2 at *
 go_loopw [11, 6] (fun i dd wr => ∃ (j : Nat) (P : List Dg), j ≤ n ∧ i = .int .i64 j ∧ Hid (P = (ls.take j).map (lvL base)) ∧ Hid (OwnD wr W2.heap.size dd P) ∧ Hid (Below W2.heap.size W2 wr) ∧ ∃ A3 n3 c3, dd = .slice A3 n3 c3) (fun i _ _ => n - (intOf i).toNat)
 case atStart => exact ⟨0, [], by omega, rfl, Lib.hid rfl, Lib.hid (OwnD.nil _ _), Lib.hid (Below.refl _ _), _, _, _, rfl⟩
 case round =>
  obtain ⟨j, P, hj, rfl, HP, HOW, HB, A3, n3, c3, rfl⟩ := hrel
  by_cases hlt : j < n
  ·have d1 : decide ((j : Int) < (n : Int)) = true := decide_eq_true (by omega)
   have d2 : decide (j < n) = true := decide_eq_true hlt
   have hjl : j < ls.length := by rw [HN.out]; exact hlt
   obtain ⟨g, off, rfl, hg, hr⟩ := HI2.out.rd (by omega)
   obtain ⟨x, HX⟩ : ∃ x, Hid (ls[j] = x) := ⟨_, Lib.hid rfl⟩
   have HXO : Hid (LnOk x) := Lib.hid (by rw [← HX.out]; exact HI2.out.ok _ (List.getElem_mem hjl))
   have HR : Hid (wr.rangeAt g (off + j * 5) (lnC x)) := Lib.hid (by
    rw [← HX.out]
    exact rangeAt_below (range_elem lnC_len4 hr j hjl) hg HB.out)
   have HII := Lib.hid (lnC_infoL4 x)
   have HIX := Lib.hid (lnC_info4 x)
   have HPL : Hid (P.length ≤ 100000) := Lib.hid (by rw [HP.out, List.length_map, List.length_take]; omega)
   obtain ⟨s, HS⟩ : ∃ s, Hid (saltN base 1 (nLn x) = s) := ⟨_, Lib.hid rfl⟩
   have HSO : Hid (DgOk s) := Lib.hid (by rw [← HS.out]; exact saltN_ok _ _ _)
   obtain ⟨d, HD⟩ : ∃ d, Hid (lfL x s = d) := ⟨_, Lib.hid rfl⟩
   have HDO : Hid (DgOk d) := Lib.hid (by rw [← HD.out]; exact lfL_ok _ _)
   have HPN : Hid (P ++ [d] = (ls.take (j + 1)).map (lvL base)) := Lib.hid (by rw [List.take_succ_eq_append_getElem hjl, List.map_append, ← HP.out, HX.out, ← HD.out, ← HS.out]; rfl)
   have HBX := Lib.hid ((Below.refl _ wr).alloc (Nat.le_refl _) (.cells (lnC x).toArray 45))
   have HRX := Lib.hid (heap_alloc_new wr (.cells (lnC x).toArray 45))
   rw [show (lnC x).toArray = #[.int .i64 x.c0, .int .i64 x.c1, .int .i64 x.c2, .int .i64 x.c3, .int .i64 x.c4] from rfl] at HBX HRX
   clear hr
   go_wp2_with (with_reducible refine wpList_load_mid rfl 45 (.tmp 13) rfl g (off + j * 5) rfl (lnC x) _ HR.out Tryz.underlying45 rfl HII.out ?_; rw [show Value.agg (lnC x).toArray = .agg #[.int .i64 x.c0, .int .i64 x.c1, .int .i64 x.c2, .int .i64 x.c3, .int .i64 x.c4] from rfl])
   have HB1W := Lib.hid (HB.out.trans (HBX.out.mono HB.out.size))
   have HOW1 := Lib.hid (HOW.out.below HBX.out)
   have HTB1 := Lib.hid (row_kept HTB.out HB1W.out)
   have HBA1 := Lib.hid (row_kept HBA.out HB1W.out)
   have hT1 := Lib.hid (hT2.out.below HB1W.out)
   have HMS := Lib.hid HB1W.out.size
   generalize (wr.alloc (.cells #[.int .i64 x.c0, .int .i64 x.c1, .int .i64 x.c2, .int .i64 x.c3, .int .i64 x.c4] 45)) = W1 at *
   refine region_flow4 (by kernel_rfl) (by kernel_rfl) (fun i => Nat.beq i 11) (fun i => i) (by kernel_rfl) (fun fx => #[.agg tabL, .agg (dgC base).toArray, .slice (some { block := g, off := off }) n c, .pointer (some { block := w.heap.size, off := 0 }), .pointer (some { block := w.heap.size + 1, off := 0 }), undef, fx 11, undef, .pointer (some { block := wr.heap.size, off := 0 }), .slice (some { block := g, off := off }) n c, .int IntKind.i64 ↑n, .int IntKind.i64 ↑j, .bool true, .pointer (some { block := g, off := off + j * 5 }), .agg #[.int IntKind.i64 x.c0, .int IntKind.i64 x.c1, .int IntKind.i64 x.c2, .int IntKind.i64 x.c3, .int IntKind.i64 x.c4], fx 0, fx 1, fx 2, fx 3, fx 4, fx 5, fx 6, fx 7, fx 8, fx 9, fx 10, u26, undef]) (fun i => bif Nat.beq i 0 then u15 else bif Nat.beq i 1 then u16 else bif Nat.beq i 2 then u17 else bif Nat.beq i 3 then u18 else bif Nat.beq i 4 then u19 else bif Nat.beq i 5 then u20 else bif Nat.beq i 6 then u21 else bif Nat.beq i 7 then u22 else bif Nat.beq i 8 then u23 else bif Nat.beq i 9 then u24 else bif Nat.beq i 10 then u25 else bif Nat.beq i 11 then Value.slice A3 n3 c3 else undef) (fun L fx w' => (L 11 = false → fx 11 = .slice A3 n3 c3) ∧ Below W2.heap.size W1 w' ∧ (L 10 = false → Below (W1).heap.size W1 w')) (fun fi fv _ fw => wLsL W2.heap.size w.heap.size A3 n3 c3 base x s d P fi fv fw) ⟨fun _ => rfl, (Below.refl _ _).drew, fun _ => (Below.refl _ _).drew⟩ ?_ ?_
   ·refine ⟨?_, ?_, ?_, ?_, ?_, ?_, ?_, ?_, ?_, ?_, ?_, ?_, trivial⟩
    all_goals intro L fx w' hC hi hcl hdn hd
    ·have hnd : L 10 = false := Bool.eq_false_iff.2 (fun h => by have := (hcl 10 0 h (by kernel_rfl)); rw [hi] at this; cases this)
     have hN : L 11 = false := Bool.eq_false_iff.2 (fun h => by have := hcl 11 0 h (by kernel_rfl); rw [hi] at this; cases this)
     have he := hC.1 hN
     go_wp2_with fail
     exact ⟨_, by simp only [upd, he]; rfl, ⟨fun h => hC.1 h, hC.2.1, fun h => hC.2.2 h⟩, rfl, kP⟩
    ·have hnd : L 10 = false := Bool.eq_false_iff.2 (fun h => by have := (hcl 2 1 (hcl 8 2 (hcl 9 8 (hcl 10 9 h (by kernel_rfl)) (by kernel_rfl)) (by kernel_rfl)) (by kernel_rfl)); rw [hi] at this; cases this)
     go_wp2_with fail
     exact ⟨_, rfl, ⟨fun h => hC.1 h, hC.2.1, fun h => hC.2.2 h⟩, rfl, kP⟩
    ·have h1 : fx 1 = .pointer (some { block := w.heap.size, off := 3 }) := hd.1 rfl
     have hnd : L 10 = false := Bool.eq_false_iff.2 (fun h => by have := (hcl 8 2 (hcl 9 8 (hcl 10 9 h (by kernel_rfl)) (by kernel_rfl)) (by kernel_rfl)); rw [hi] at this; cases this)
     have hcc : w'.cell? ⟨w.heap.size, 3, none⟩ = some (Value.func (.func 95) #[] #[]) := by rw [cell_of_row _ _ _ _ _ _ (row_kept HTB1.out (hC.2.2 hnd))]; rfl
     go_wp2_with fail
     exact ⟨_, by simp only [upd, h1]; rfl, ⟨fun h => hC.1 h, hC.2.1, fun h => hC.2.2 h⟩, rfl, kP⟩
    ·have hnd : L 10 = false := Bool.eq_false_iff.2 (fun h => by have := (hcl 8 3 (hcl 9 8 (hcl 10 9 h (by kernel_rfl)) (by kernel_rfl)) (by kernel_rfl)); rw [hi] at this; cases this)
     have hrow := row_kept HRX.out (hC.2.2 hnd)
     refine wpList_load_row rfl 45 (.tmp 8) rfl (wr.heap.size) rfl 45 _ (0, 0) _ hrow Tryz.underlying45 rfl HIX.out ?_
     clear hd
     go_wp2_with fail
     exact ⟨_, rfl, ⟨fun h => hC.1 h, hC.2.1, fun h => hC.2.2 h⟩, rfl, kP⟩
    ·have hnd : L 10 = false := Bool.eq_false_iff.2 (fun h => by have := (hcl 7 4 (hcl 8 7 (hcl 9 8 (hcl 10 9 h (by kernel_rfl)) (by kernel_rfl)) (by kernel_rfl)) (by kernel_rfl)); rw [hi] at this; cases this)
     have hrow := row_kept HTB1.out (hC.2.2 hnd)
     refine wpList_load_row rfl 86 (.tmp 3) rfl (w.heap.size) rfl 86 _ (0, 0) _ hrow Tryz.underlying86 rfl HIT.out ?_
     clear hd
     go_wp2_with fail
     exact ⟨_, rfl, ⟨fun h => hC.1 h, hC.2.1, fun h => hC.2.2 h⟩, rfl, kP⟩
    ·have hnd : L 10 = false := Bool.eq_false_iff.2 (fun h => by have := (hcl 7 5 (hcl 8 7 (hcl 9 8 (hcl 10 9 h (by kernel_rfl)) (by kernel_rfl)) (by kernel_rfl)) (by kernel_rfl)); rw [hi] at this; cases this)
     have hrow := row_kept HBA1.out (hC.2.2 hnd)
     refine wpList_load_row rfl 25 (.tmp 4) rfl (w.heap.size + 1) rfl 25 _ (0, 0) _ hrow Tryz.underlying25 rfl HIB.out ?_
     clear hd
     go_wp2_with fail
     exact ⟨_, rfl, ⟨fun h => hC.1 h, hC.2.1, fun h => hC.2.2 h⟩, rfl, kP⟩
    ·have hnd : L 10 = false := Bool.eq_false_iff.2 (fun h => by have := (hcl 7 6 (hcl 8 7 (hcl 9 8 (hcl 10 9 h (by kernel_rfl)) (by kernel_rfl)) (by kernel_rfl)) (by kernel_rfl)); rw [hi] at this; cases this)
     have hrow := row_kept HRX.out (hC.2.2 hnd)
     refine wpList_load_row rfl 45 (.tmp 8) rfl (wr.heap.size) rfl 45 _ (0, 0) _ hrow Tryz.underlying45 rfl HIX.out ?_
     clear hd
     go_wp2_with fail
     exact ⟨_, rfl, ⟨fun h => hC.1 h, hC.2.1, fun h => hC.2.2 h⟩, rfl, kP⟩
    ·have h4 : fx 4 = .agg tabL := hd.1 rfl
     have h5 : fx 5 = dgV base := hd.2.1 rfl
     have h6 : fx 6 = lnV x := hd.2.2.1 rfl
     have hnd : L 10 = false := Bool.eq_false_iff.2 (fun h => by have := (hcl 8 7 (hcl 9 8 (hcl 10 9 h (by kernel_rfl)) (by kernel_rfl)) (by kernel_rfl)); rw [hi] at this; cases this)
     have hTk := Lib.hid (hT1.out.below (hC.2.2 hnd))
     go_wp2_with fail
     refine (saltL base x w' hba hTk).mono ?_
     rintro e w2 ⟨rfl, hq⟩
     rw [HS.out]
     go_wp2_with fail
     exact ⟨_, by simp only [upd, h4, h5, h6]; rfl, ⟨fun h => hC.1 h, hC.2.1.trans (hq.mono (Nat.le_trans HMS.out hC.2.1.size)), fun h => (hC.2.2 h).trans (hq.mono (hC.2.2 h).size)⟩, rfl, fun j v t _ _ h => wLsL_below hq j v h⟩
    ·have h2 : fx 2 = .func (.func 95) #[] #[] := hd.1 rfl
     have h3 : fx 3 = lnV x := hd.2.1 rfl
     have h7 : fx 7 = dgV s := hd.2.2.1 rfl
     have hnd : L 10 = false := Bool.eq_false_iff.2 (fun h => by have := (hcl 9 8 (hcl 10 9 h (by kernel_rfl)) (by kernel_rfl)); rw [hi] at this; cases this)
     have hTk := Lib.hid (hT1.out.below (hC.2.2 hnd))
     go_wp2_with fail
     refine (leafL x s w' HSO hTk).mono ?_
     rintro e w2 ⟨rfl, hq⟩
     rw [HD.out]
     go_wp2_with fail
     exact ⟨_, by simp only [upd, h2, h3, h7]; rfl, ⟨fun h => hC.1 h, hC.2.1.trans (hq.mono (Nat.le_trans HMS.out hC.2.1.size)), fun h => (hC.2.2 h).trans (hq.mono (hC.2.2 h).size)⟩, rfl, fun j v t _ _ h => wLsL_below hq j v h⟩
    ·have h8 : fx 8 = dgV d := hd.1 rfl
     have hnd : L 10 = false := Bool.eq_false_iff.2 (fun h => by have := (hcl 10 9 h (by kernel_rfl)); rw [hi] at this; cases this)
     refine wpList_build_digs1 rfl (.tmp 23) rfl d h8 HDO.out ?_
     clear hd
     go_wp2_with fail
     have hbb : Below w'.heap.size w' (w'.alloc (.cells (flatD [d]).toArray 25)) := (Below.refl _ _).alloc (Nat.le_refl _) _
     exact ⟨_, by simp only [upd, h8]; rfl, ⟨fun h => hC.1 h, hC.2.1.trans (hbb.mono (Nat.le_trans HMS.out hC.2.1.size)), fun h => (hC.2.2 h).trans (hbb.mono (hC.2.2 h).size)⟩, ⟨_, rfl, heap_alloc_new _ _⟩, fun j v t _ _ h => wLsL_below hbb j v h⟩
    ·have h0 : fx 0 = .slice A3 n3 c3 := hd.1 rfl
     have H9 := Lib.hid (hd.2.1 rfl)
     obtain ⟨q, hx, hrow⟩ := H9.out
     have HQR := Lib.hid hrow
     have HOV := Lib.hid (HOW1.out.below (hC.2.2 hi))
     have HSZ := Lib.hid (Nat.le_trans HMS.out hC.2.1.size)
     refine wpList_append_dig rfl (.tmp 15) (.tmp 24) rfl W2.heap.size (Value.slice A3 n3 c3) P d h0 HOV HDO.out q hx HQR HPL.out HSZ.out ?_
     intro v2 w2 HO2 HG2
     have HB2 := Lib.hid ((Below.refl W2.heap.size w').grown HG2.out HSZ.out (fun g hg => (HOV.out.block g hg).1))
     clear hd hrow
     go_wp2_with fail
     refine ⟨v2, by first | rfl | (rw [← hx, ← h0]; rfl) | (rw [← hx]; rfl), ⟨fun h => hC.1 h, hC.2.1.trans HB2.out, fun h => (updB_self h).elim⟩, HO2.out, fun j v t hj hu h => ?_⟩
     refine wLsL_pure j v ?_ ?_ ?_ h <;> intro e <;> subst e
     ·refine absurd hu (not_needed (E := fun i => Nat.beq i 11) (j := 9) [10] (by kernel_rfl) (by kernel_rfl) ?_)
      intro m hm hne; simp at hm; omega
     ·rw [hi] at hj; cases hj
     ·have := hcl 11 10 hj (by kernel_rfl); rw [hi] at this; cases this
    ·have H10 := Lib.hid (hd.1 rfl)
     go_wp2_with fail
     exact ⟨fx 10, rfl, ⟨fun h => (updB_self h).elim, hC.2.1, fun h => hC.2.2 h⟩, H10.out, kP⟩
   ·intro L fo w' hC hS
    have H11 := Lib.hid (hS 11 (by decide) rfl)
    obtain ⟨A4, n4, c4, e4⟩ := H11.out.form
    rw [e4]
    have HBE := Lib.hid (HB1W.out.trans hC.2.1)
    have HO4 : Hid (OwnD w' W2.heap.size (Value.slice A4 n4 c4) (P ++ [d])) := Lib.hid (by rw [← e4]; exact H11.out)
    clear hS hC H11 e4
    go_wp2_with fail
    go_roundw
    case rel => exact ⟨j + 1, P ++ [d], by omega, by go_num, HPN, HO4, HBE, _, _, _, rfl⟩
    case measure => simp [intOf]; omega
  ·have d1 : decide ((j : Int) < (n : Int)) = false := decide_eq_false (by omega)
   have HPF : Hid (P = ls.map (lvL base)) := Lib.hid (by rw [HP.out, List.take_of_length_le (by rw [HN.out]; omega)])
   have HPO : Hid (∀ y ∈ P, DgOk y) := Lib.hid (fun y hy => by
    rw [HPF.out] at hy
    obtain ⟨x, _, rfl⟩ := List.mem_map.1 hy
    exact lfL_ok _ _)
   obtain ⟨A4, n4, c4, e4, hin4, ht4⟩ := HOW.out.slice HPO.out
   cases e4
   have HI4 := Lib.hid hin4
   have HB4 := Lib.hid (HB12.out.trans (HB.out.mono HB12.out.size))
   clear hin4 ht4
   go_wp2_with fail
   go_ret
   exact ⟨_, _, _, rfl, by rw [← HPF.out]; exact HI4.out, HB4.out⟩
theorem clC_len4 (x : Cl) : (clC x).length = 3 := rfl
theorem clC_infoL4 (x : Cl) : (Tryz.prog.info? 56).map (·.size) = some (clC x).length := by show _ = some 3; kernel_rfl
theorem clC_info4 (x : Cl) : (Tryz.prog.info? 56).map (·.size) = some (clC x).toArray.size := by show _ = some 3; kernel_rfl
theorem tabK_info4 : (Tryz.prog.info? 95).map (·.size) = some tabK.size := by show _ = some 4; kernel_rfl
/-- the leaf of an element under a transcript's salt -/
def lvK (base : List Nat) (x : Cl) : Dg := lfK x (saltN base 2 (nCl x))
def wLsK (M : Nat) (bt : Nat) (A3 : Option Addr) (n3 : Nat) (c3 : Nat) (base : List Nat) (x : Cl) (s : List Nat) (d : List Nat) (P : List Dg) : Nat → Value → World → Prop
 | 0, fv, _ => fv = .slice A3 n3 c3
 | 1, fv, _ => fv = .pointer (some { block := bt, off := 3 })
 | 2, fv, _ => fv = .func (.func 105) #[] #[]
 | 3, fv, _ => fv = clV x
 | 4, fv, _ => fv = .agg tabK
 | 5, fv, _ => fv = dgV base
 | 6, fv, _ => fv = clV x
 | 7, fv, _ => fv = dgV s
 | 8, fv, _ => fv = dgV d
 | 9, fv, fw => ∃ q, fv = .slice (some ⟨q, 0, none⟩) 1 1 ∧ fw.heap[q]? = some (.cells (flatD [d]).toArray 25 (0, 0))
 | 10, fv, fw => OwnD fw M fv (P ++ [d])
 | 11, fv, fw => OwnD fw M fv (P ++ [d])
 | _, _, _ => True
theorem wLsK_below {M : Nat} {bt : Nat} {A3 : Option Addr} {n3 : Nat} {c3 : Nat} {base : List Nat} {x : Cl} {s : List Nat} {d : List Nat} {P : List Dg} {w w' : World} (hb : Below w.heap.size w w') : ∀ j v, wLsK M bt A3 n3 c3 base x s d P j v w → wLsK M bt A3 n3 c3 base x s d P j v w'
 | 0, v, h => h
 | 1, v, h => h
 | 2, v, h => h
 | 3, v, h => h
 | 4, v, h => h
 | 5, v, h => h
 | 6, v, h => h
 | 7, v, h => h
 | 8, v, h => h
 | 9, v, ⟨q, h1, h2⟩ => ⟨q, h1, row_kept h2 hb⟩
 | 10, v, h => h.below hb
 | 11, v, h => h.below hb
 | n + 12, v, h => trivial
theorem wLsK_pure {M : Nat} {bt : Nat} {A3 : Option Addr} {n3 : Nat} {c3 : Nat} {base : List Nat} {x : Cl} {s : List Nat} {d : List Nat} {P : List Dg} {w w' : World} : ∀ j v, j ≠ 9 → j ≠ 10 → j ≠ 11 → wLsK M bt A3 n3 c3 base x s d P j v w → wLsK M bt A3 n3 c3 base x s d P j v w'
 | 0, v, _, _, _, h => h
 | 1, v, _, _, _, h => h
 | 2, v, _, _, _, h => h
 | 3, v, _, _, _, h => h
 | 4, v, _, _, _, h => h
 | 5, v, _, _, _, h => h
 | 6, v, _, _, _, h => h
 | 7, v, _, _, _, h => h
 | 8, v, _, _, _, h => h
 | 9, v, hh, _, _, _ => absurd rfl hh
 | 10, v, _, hh, _, _ => absurd rfl hh
 | 11, v, _, _, hh, _ => absurd rfl hh
 | n + 12, v, _, _, _, h => trivial
theorem leavesK (base : List Nat) (ls : List Cl) (A : Option Addr) (n c : Nat) (w : World) (hn : n ≤ 100000) (hba : Hid (DgOk base)) (h : Hid (InCl w A n c ls)) (hT : Hid (Tabs w)) :
  Calls Tryz.prog 50 #[.agg tabK, dgV base, .slice A n c] w fun e w' => ∃ A' n' c', e = .returned (.slice A' n' c') ∧ InD w' A' n' c' (ls.map (lvK base)) ∧ Below w.heap.size w w' := by
 have HN := Lib.hid (show ls.length = n from h.out.len)
 have hb2 := ((Below.refl _ w).alloc (Nat.le_refl _) (.cells tabK 95)).alloc (by simp) (.cells (dgC base).toArray 25)
 have hr0 := (Below.heap_alloc (w.alloc (.cells tabK 95)) (.cells (dgC base).toArray 25) w.heap.size (by simp)).trans (heap_alloc_new w (.cells tabK 95))
 have hr1 := heap_alloc_new (w.alloc (.cells tabK 95)) (.cells (dgC base).toArray 25)
 rw [World.size_alloc] at hr1
 have HB12 := Lib.hid hb2
 have HTB := Lib.hid hr0
 have HBA := Lib.hid hr1
 have HI2 := Lib.hid (h.out.below hb2)
 have hT2 := Lib.hid (hT.out.below hb2)
 have HIB := Lib.hid (dgC_info hba.out)
 have HIT := Lib.hid tabK_info4
 clear hb2 hr0 hr1 h
 rw [dgV_agg base]
 go_enter Tryz.func50, Tryz.ntmps50
 go_wp2_with fail
 generalize ((w.alloc (.cells tabK 95)).alloc (.cells (dgC base).toArray 25)) = W2 at *
 go_loopw [11, 6] (fun i dd wr => ∃ (j : Nat) (P : List Dg), j ≤ n ∧ i = .int .i64 j ∧ Hid (P = (ls.take j).map (lvK base)) ∧ Hid (OwnD wr W2.heap.size dd P) ∧ Hid (Below W2.heap.size W2 wr) ∧ ∃ A3 n3 c3, dd = .slice A3 n3 c3) (fun i _ _ => n - (intOf i).toNat)
 case atStart => exact ⟨0, [], by omega, rfl, Lib.hid rfl, Lib.hid (OwnD.nil _ _), Lib.hid (Below.refl _ _), _, _, _, rfl⟩
 case round =>
  obtain ⟨j, P, hj, rfl, HP, HOW, HB, A3, n3, c3, rfl⟩ := hrel
  by_cases hlt : j < n
  ·have d1 : decide ((j : Int) < (n : Int)) = true := decide_eq_true (by omega)
   have d2 : decide (j < n) = true := decide_eq_true hlt
   have hjl : j < ls.length := by rw [HN.out]; exact hlt
   obtain ⟨g, off, rfl, hg, hr⟩ := HI2.out.rd (by omega)
   obtain ⟨x, HX⟩ : ∃ x, Hid (ls[j] = x) := ⟨_, Lib.hid rfl⟩
   have HXO : Hid (ClOk x) := Lib.hid (by rw [← HX.out]; exact HI2.out.ok _ (List.getElem_mem hjl))
   have HR : Hid (wr.rangeAt g (off + j * 3) (clC x)) := Lib.hid (by
    rw [← HX.out]
    exact rangeAt_below (range_elem clC_len4 hr j hjl) hg HB.out)
   have HII := Lib.hid (clC_infoL4 x)
   have HIX := Lib.hid (clC_info4 x)
   have HPL : Hid (P.length ≤ 100000) := Lib.hid (by rw [HP.out, List.length_map, List.length_take]; omega)
   obtain ⟨s, HS⟩ : ∃ s, Hid (saltN base 2 (nCl x) = s) := ⟨_, Lib.hid rfl⟩
   have HSO : Hid (DgOk s) := Lib.hid (by rw [← HS.out]; exact saltN_ok _ _ _)
   obtain ⟨d, HD⟩ : ∃ d, Hid (lfK x s = d) := ⟨_, Lib.hid rfl⟩
   have HDO : Hid (DgOk d) := Lib.hid (by rw [← HD.out]; exact lfK_ok _ _)
   have HPN : Hid (P ++ [d] = (ls.take (j + 1)).map (lvK base)) := Lib.hid (by rw [List.take_succ_eq_append_getElem hjl, List.map_append, ← HP.out, HX.out, ← HD.out, ← HS.out]; rfl)
   have HBX := Lib.hid ((Below.refl _ wr).alloc (Nat.le_refl _) (.cells (clC x).toArray 56))
   have HRX := Lib.hid (heap_alloc_new wr (.cells (clC x).toArray 56))
   rw [show (clC x).toArray = #[.int .i64 x.p, .int .i64 x.r, .bool x.m] from rfl] at HBX HRX
   clear hr
   go_wp2_with (with_reducible refine wpList_load_mid rfl 56 (.tmp 13) rfl g (off + j * 3) rfl (clC x) _ HR.out Tryz.underlying56 rfl HII.out ?_; rw [show Value.agg (clC x).toArray = .agg #[.int .i64 x.p, .int .i64 x.r, .bool x.m] from rfl])
   have HB1W := Lib.hid (HB.out.trans (HBX.out.mono HB.out.size))
   have HOW1 := Lib.hid (HOW.out.below HBX.out)
   have HTB1 := Lib.hid (row_kept HTB.out HB1W.out)
   have HBA1 := Lib.hid (row_kept HBA.out HB1W.out)
   have hT1 := Lib.hid (hT2.out.below HB1W.out)
   have HMS := Lib.hid HB1W.out.size
   generalize (wr.alloc (.cells #[.int .i64 x.p, .int .i64 x.r, .bool x.m] 56)) = W1 at *
   refine region_flow4 (by kernel_rfl) (by kernel_rfl) (fun i => Nat.beq i 11) (fun i => i) (by kernel_rfl) (fun fx => #[.agg tabK, .agg (dgC base).toArray, .slice (some { block := g, off := off }) n c, .pointer (some { block := w.heap.size, off := 0 }), .pointer (some { block := w.heap.size + 1, off := 0 }), undef, fx 11, undef, .pointer (some { block := wr.heap.size, off := 0 }), .slice (some { block := g, off := off }) n c, .int IntKind.i64 ↑n, .int IntKind.i64 ↑j, .bool true, .pointer (some { block := g, off := off + j * 3 }), .agg #[.int IntKind.i64 x.p, .int IntKind.i64 x.r, .bool x.m], fx 0, fx 1, fx 2, fx 3, fx 4, fx 5, fx 6, fx 7, fx 8, fx 9, fx 10, u26, undef]) (fun i => bif Nat.beq i 0 then u15 else bif Nat.beq i 1 then u16 else bif Nat.beq i 2 then u17 else bif Nat.beq i 3 then u18 else bif Nat.beq i 4 then u19 else bif Nat.beq i 5 then u20 else bif Nat.beq i 6 then u21 else bif Nat.beq i 7 then u22 else bif Nat.beq i 8 then u23 else bif Nat.beq i 9 then u24 else bif Nat.beq i 10 then u25 else bif Nat.beq i 11 then Value.slice A3 n3 c3 else undef) (fun L fx w' => (L 11 = false → fx 11 = .slice A3 n3 c3) ∧ Below W2.heap.size W1 w' ∧ (L 10 = false → Below (W1).heap.size W1 w')) (fun fi fv _ fw => wLsK W2.heap.size w.heap.size A3 n3 c3 base x s d P fi fv fw) ⟨fun _ => rfl, (Below.refl _ _).drew, fun _ => (Below.refl _ _).drew⟩ ?_ ?_
   ·refine ⟨?_, ?_, ?_, ?_, ?_, ?_, ?_, ?_, ?_, ?_, ?_, ?_, trivial⟩
    all_goals intro L fx w' hC hi hcl hdn hd
    ·have hnd : L 10 = false := Bool.eq_false_iff.2 (fun h => by have := (hcl 10 0 h (by kernel_rfl)); rw [hi] at this; cases this)
     have hN : L 11 = false := Bool.eq_false_iff.2 (fun h => by have := hcl 11 0 h (by kernel_rfl); rw [hi] at this; cases this)
     have he := hC.1 hN
     go_wp2_with fail
     exact ⟨_, by simp only [upd, he]; rfl, ⟨fun h => hC.1 h, hC.2.1, fun h => hC.2.2 h⟩, rfl, kP⟩
    ·have hnd : L 10 = false := Bool.eq_false_iff.2 (fun h => by have := (hcl 2 1 (hcl 8 2 (hcl 9 8 (hcl 10 9 h (by kernel_rfl)) (by kernel_rfl)) (by kernel_rfl)) (by kernel_rfl)); rw [hi] at this; cases this)
     go_wp2_with fail
     exact ⟨_, rfl, ⟨fun h => hC.1 h, hC.2.1, fun h => hC.2.2 h⟩, rfl, kP⟩
    ·have h1 : fx 1 = .pointer (some { block := w.heap.size, off := 3 }) := hd.1 rfl
     have hnd : L 10 = false := Bool.eq_false_iff.2 (fun h => by have := (hcl 8 2 (hcl 9 8 (hcl 10 9 h (by kernel_rfl)) (by kernel_rfl)) (by kernel_rfl)); rw [hi] at this; cases this)
     have hcc : w'.cell? ⟨w.heap.size, 3, none⟩ = some (Value.func (.func 105) #[] #[]) := by rw [cell_of_row _ _ _ _ _ _ (row_kept HTB1.out (hC.2.2 hnd))]; rfl
     go_wp2_with fail
     exact ⟨_, by simp only [upd, h1]; rfl, ⟨fun h => hC.1 h, hC.2.1, fun h => hC.2.2 h⟩, rfl, kP⟩
    ·have hnd : L 10 = false := Bool.eq_false_iff.2 (fun h => by have := (hcl 8 3 (hcl 9 8 (hcl 10 9 h (by kernel_rfl)) (by kernel_rfl)) (by kernel_rfl)); rw [hi] at this; cases this)
     have hrow := row_kept HRX.out (hC.2.2 hnd)
     refine wpList_load_row rfl 56 (.tmp 8) rfl (wr.heap.size) rfl 56 _ (0, 0) _ hrow Tryz.underlying56 rfl HIX.out ?_
     clear hd
     go_wp2_with fail
     exact ⟨_, rfl, ⟨fun h => hC.1 h, hC.2.1, fun h => hC.2.2 h⟩, rfl, kP⟩
    ·have hnd : L 10 = false := Bool.eq_false_iff.2 (fun h => by have := (hcl 7 4 (hcl 8 7 (hcl 9 8 (hcl 10 9 h (by kernel_rfl)) (by kernel_rfl)) (by kernel_rfl)) (by kernel_rfl)); rw [hi] at this; cases this)
     have hrow := row_kept HTB1.out (hC.2.2 hnd)
     refine wpList_load_row rfl 95 (.tmp 3) rfl (w.heap.size) rfl 95 _ (0, 0) _ hrow Tryz.underlying95 rfl HIT.out ?_
     clear hd
     go_wp2_with fail
     exact ⟨_, rfl, ⟨fun h => hC.1 h, hC.2.1, fun h => hC.2.2 h⟩, rfl, kP⟩
    ·have hnd : L 10 = false := Bool.eq_false_iff.2 (fun h => by have := (hcl 7 5 (hcl 8 7 (hcl 9 8 (hcl 10 9 h (by kernel_rfl)) (by kernel_rfl)) (by kernel_rfl)) (by kernel_rfl)); rw [hi] at this; cases this)
     have hrow := row_kept HBA1.out (hC.2.2 hnd)
     refine wpList_load_row rfl 25 (.tmp 4) rfl (w.heap.size + 1) rfl 25 _ (0, 0) _ hrow Tryz.underlying25 rfl HIB.out ?_
     clear hd
     go_wp2_with fail
     exact ⟨_, rfl, ⟨fun h => hC.1 h, hC.2.1, fun h => hC.2.2 h⟩, rfl, kP⟩
    ·have hnd : L 10 = false := Bool.eq_false_iff.2 (fun h => by have := (hcl 7 6 (hcl 8 7 (hcl 9 8 (hcl 10 9 h (by kernel_rfl)) (by kernel_rfl)) (by kernel_rfl)) (by kernel_rfl)); rw [hi] at this; cases this)
     have hrow := row_kept HRX.out (hC.2.2 hnd)
     refine wpList_load_row rfl 56 (.tmp 8) rfl (wr.heap.size) rfl 56 _ (0, 0) _ hrow Tryz.underlying56 rfl HIX.out ?_
     clear hd
     go_wp2_with fail
     exact ⟨_, rfl, ⟨fun h => hC.1 h, hC.2.1, fun h => hC.2.2 h⟩, rfl, kP⟩
    ·have h4 : fx 4 = .agg tabK := hd.1 rfl
     have h5 : fx 5 = dgV base := hd.2.1 rfl
     have h6 : fx 6 = clV x := hd.2.2.1 rfl
     have hnd : L 10 = false := Bool.eq_false_iff.2 (fun h => by have := (hcl 8 7 (hcl 9 8 (hcl 10 9 h (by kernel_rfl)) (by kernel_rfl)) (by kernel_rfl)); rw [hi] at this; cases this)
     have hTk := Lib.hid (hT1.out.below (hC.2.2 hnd))
     go_wp2_with fail
     refine (saltK base x w' hba hTk).mono ?_
     rintro e w2 ⟨rfl, hq⟩
     rw [HS.out]
     go_wp2_with fail
     exact ⟨_, by simp only [upd, h4, h5, h6]; rfl, ⟨fun h => hC.1 h, hC.2.1.trans (hq.mono (Nat.le_trans HMS.out hC.2.1.size)), fun h => (hC.2.2 h).trans (hq.mono (hC.2.2 h).size)⟩, rfl, fun j v t _ _ h => wLsK_below hq j v h⟩
    ·have h2 : fx 2 = .func (.func 105) #[] #[] := hd.1 rfl
     have h3 : fx 3 = clV x := hd.2.1 rfl
     have h7 : fx 7 = dgV s := hd.2.2.1 rfl
     have hnd : L 10 = false := Bool.eq_false_iff.2 (fun h => by have := (hcl 9 8 (hcl 10 9 h (by kernel_rfl)) (by kernel_rfl)); rw [hi] at this; cases this)
     have hTk := Lib.hid (hT1.out.below (hC.2.2 hnd))
     go_wp2_with fail
     refine (leafK x s w' HXO HSO hTk).mono ?_
     rintro e w2 ⟨rfl, hq⟩
     rw [HD.out]
     go_wp2_with fail
     exact ⟨_, by simp only [upd, h2, h3, h7]; rfl, ⟨fun h => hC.1 h, hC.2.1.trans (hq.mono (Nat.le_trans HMS.out hC.2.1.size)), fun h => (hC.2.2 h).trans (hq.mono (hC.2.2 h).size)⟩, rfl, fun j v t _ _ h => wLsK_below hq j v h⟩
    ·have h8 : fx 8 = dgV d := hd.1 rfl
     have hnd : L 10 = false := Bool.eq_false_iff.2 (fun h => by have := (hcl 10 9 h (by kernel_rfl)); rw [hi] at this; cases this)
     refine wpList_build_digs1 rfl (.tmp 23) rfl d h8 HDO.out ?_
     clear hd
     go_wp2_with fail
     have hbb : Below w'.heap.size w' (w'.alloc (.cells (flatD [d]).toArray 25)) := (Below.refl _ _).alloc (Nat.le_refl _) _
     exact ⟨_, by simp only [upd, h8]; rfl, ⟨fun h => hC.1 h, hC.2.1.trans (hbb.mono (Nat.le_trans HMS.out hC.2.1.size)), fun h => (hC.2.2 h).trans (hbb.mono (hC.2.2 h).size)⟩, ⟨_, rfl, heap_alloc_new _ _⟩, fun j v t _ _ h => wLsK_below hbb j v h⟩
    ·have h0 : fx 0 = .slice A3 n3 c3 := hd.1 rfl
     have H9 := Lib.hid (hd.2.1 rfl)
     obtain ⟨q, hx, hrow⟩ := H9.out
     have HQR := Lib.hid hrow
     have HOV := Lib.hid (HOW1.out.below (hC.2.2 hi))
     have HSZ := Lib.hid (Nat.le_trans HMS.out hC.2.1.size)
     refine wpList_append_dig rfl (.tmp 15) (.tmp 24) rfl W2.heap.size (Value.slice A3 n3 c3) P d h0 HOV HDO.out q hx HQR HPL.out HSZ.out ?_
     intro v2 w2 HO2 HG2
     have HB2 := Lib.hid ((Below.refl W2.heap.size w').grown HG2.out HSZ.out (fun g hg => (HOV.out.block g hg).1))
     clear hd hrow
     go_wp2_with fail
     refine ⟨v2, by first | rfl | (rw [← hx, ← h0]; rfl) | (rw [← hx]; rfl), ⟨fun h => hC.1 h, hC.2.1.trans HB2.out, fun h => (updB_self h).elim⟩, HO2.out, fun j v t hj hu h => ?_⟩
     refine wLsK_pure j v ?_ ?_ ?_ h <;> intro e <;> subst e
     ·refine absurd hu (not_needed (E := fun i => Nat.beq i 11) (j := 9) [10] (by kernel_rfl) (by kernel_rfl) ?_)
      intro m hm hne; simp at hm; omega
     ·rw [hi] at hj; cases hj
     ·have := hcl 11 10 hj (by kernel_rfl); rw [hi] at this; cases this
    ·have H10 := Lib.hid (hd.1 rfl)
     go_wp2_with fail
     exact ⟨fx 10, rfl, ⟨fun h => (updB_self h).elim, hC.2.1, fun h => hC.2.2 h⟩, H10.out, kP⟩
   ·intro L fo w' hC hS
    have H11 := Lib.hid (hS 11 (by decide) rfl)
    obtain ⟨A4, n4, c4, e4⟩ := H11.out.form
    rw [e4]
    have HBE := Lib.hid (HB1W.out.trans hC.2.1)
    have HO4 : Hid (OwnD w' W2.heap.size (Value.slice A4 n4 c4) (P ++ [d])) := Lib.hid (by rw [← e4]; exact H11.out)
    clear hS hC H11 e4
    go_wp2_with fail
    go_roundw
    case rel => exact ⟨j + 1, P ++ [d], by omega, by go_num, HPN, HO4, HBE, _, _, _, rfl⟩
    case measure => simp [intOf]; omega
  ·have d1 : decide ((j : Int) < (n : Int)) = false := decide_eq_false (by omega)
   have HPF : Hid (P = ls.map (lvK base)) := Lib.hid (by rw [HP.out, List.take_of_length_le (by rw [HN.out]; omega)])
   have HPO : Hid (∀ y ∈ P, DgOk y) := Lib.hid (fun y hy => by
    rw [HPF.out] at hy
    obtain ⟨x, _, rfl⟩ := List.mem_map.1 hy
    exact lfK_ok _ _)
   obtain ⟨A4, n4, c4, e4, hin4, ht4⟩ := HOW.out.slice HPO.out
   cases e4
   have HI4 := Lib.hid hin4
   have HB4 := Lib.hid (HB12.out.trans (HB.out.mono HB12.out.size))
   clear hin4 ht4
   go_wp2_with fail
   go_ret
   exact ⟨_, _, _, rfl, by rw [← HPF.out]; exact HI4.out, HB4.out⟩
theorem tr_salt {w : World} {g ty : Nat} {t : Tr} {p : TrP} (h : w.heap[g]? = some (.cells (trC t p).toArray ty (0, 0))) : w.rangeAt g 6 (dgC t.salt) := fun j v hj => by
 rw [cell_of_row w g (6 + j) _ _ _ h]
 have e : (trC t p).toArray[6 + j]? = (dgC t.salt)[j]? := by
  rw [List.getElem?_toArray, trC, List.getElem?_append_right (by simp)]
  congr 1
  simp
 rw [e]; exact hj
theorem chkE_len {α : Type} {v : α → Bool} {no : α → Int} {B : Int} (hb : ∀ x, v x = true → no x ≤ B) : ∀ (xs : List α) (z : Int), chkE v no z xs = true → xs.length = 0 ∨ z + xs.length ≤ B
 | [], z, _ => .inl rfl
 | x :: xs, z, h => by
  rw [chkE, Bool.and_eq_true, Bool.and_eq_true, decide_eq_true_eq] at h
  have h1 := hb x h.1.1
  have h2 := chkE_len hb xs (no x) h.2
  right
  rw [List.length_cons]
  rcases h2 with h2 | h2 <;> omega
theorem nCl_bd (x : Cl) (h : vCl x = true) : nCl x ≤ 16383 := by
 unfold vCl at h
 have hk := of_decide_eq_true h
 unfold nCl
 rw [noK_val hk]
 unfold kOk at hk
 omega
theorem trG_parts {t : Tr} (h : trG t = true) : t.ln.length ≤ 4096 ∧ chkE vLn nLn (-1) t.ln = true ∧ chkE vCl nCl (-1) t.cl = true := by
 unfold trG at h
 simp only [Bool.and_eq_true, decide_eq_true_eq] at h
 exact ⟨h.2.2.2.2.1, h.2.2.2.2.2.1, h.2.2.2.2.2.2⟩
theorem trG_lns {t : Tr} (h : trG t = true) : t.ln.length ≤ 100000 := by have := (trG_parts h).1; omega
theorem trG_cls {t : Tr} (h : trG t = true) : t.cl.length ≤ 100000 := by
 have := chkE_len nCl_bd _ _ (trG_parts h).2.2
 omega
theorem trE_yes {t : Tr} (h : trG t = true) : trE t = 0 := by unfold trE; rw [if_pos h]
theorem trE_no {t : Tr} (h : trG t = false) : trE t = 420 := by unfold trE; rw [h]; rfl
theorem trV_info (t : Tr) (p : TrP) (h : t.salt.length = 32) : (Tryz.prog.info? 27).map (·.size) = some (trC t p).toArray.size := by
 have e : (trC t p).toArray.size = 38 := by simp [trC, h]
 rw [e]; show _ = some 38; kernel_rfl
theorem dgC_infoK {l : List Nat} (h : DgOk l) : (Tryz.prog.info? 25).map (·.size) = some (dgC l).length := by rw [dgC_info h]; simp
def wNd (W1 : World) (bt : Nat) (t : Tr) (x : Ln) (s : List Nat) (r : Nd) : Nat → Value → Value → World → Prop
 | 0, fv, _, _ => fv = lnV x
 | 1, fv, _, _ => fv = .agg tabL
 | 2, fv, _, _ => fv = .pointer (some { block := bt, off := 6 })
 | 3, fv, _, _ => fv = dgV t.salt
 | 4, fv, _, _ => fv = lnV x
 | 5, fv, _, _ => fv = dgV s
 | 6, fv, _, _ => fv = .tuple #[ndV r, .int .i64 0]
 | 7, fv, _, _ => fv = .tuple #[ndV r, .int .i64 0]
 | 8, fv, _, _ => fv = ndV r
 | 9, fv, _, _ => fv = .int .i64 0
 | 10, fv, _, _ => fv = fv
 | 11, fv, _, _ => fv = fv
 | 12, fv, fu, fw => fv = .int .i64 0 ∧ ∃ q, fu = .pointer (some ⟨q, 0, none⟩) ∧ fw.heap[q]? = some (.cells (ndC r).toArray 39 (0, 0)) ∧ Below W1.heap.size W1 fw
 | _, _, _, _ => True
theorem wNd_below {W1 : World} {bt : Nat} {t : Tr} {x : Ln} {s : List Nat} {r : Nd} {w w' : World} (hb : Below w.heap.size w w') : ∀ j v u, wNd W1 bt t x s r j v u w → wNd W1 bt t x s r j v u w'
 | 0, v, u, h => h
 | 1, v, u, h => h
 | 2, v, u, h => h
 | 3, v, u, h => h
 | 4, v, u, h => h
 | 5, v, u, h => h
 | 6, v, u, h => h
 | 7, v, u, h => h
 | 8, v, u, h => h
 | 9, v, u, h => h
 | 10, v, u, h => h
 | 11, v, u, h => h
 | 12, v, u, ⟨h0, q, h1, h2, h3⟩ => ⟨h0, q, h1, row_kept h2 hb, h3.trans (hb.mono h3.size)⟩
 | n + 13, v, u, h => trivial
theorem wNd_pure {W1 : World} {bt : Nat} {t : Tr} {x : Ln} {s : List Nat} {r : Nd} {w w' : World} : ∀ j v u, j ≠ 12 → wNd W1 bt t x s r j v u w → wNd W1 bt t x s r j v u w'
 | 0, v, u, _, h => h
 | 1, v, u, _, h => h
 | 2, v, u, _, h => h
 | 3, v, u, _, h => h
 | 4, v, u, _, h => h
 | 5, v, u, _, h => h
 | 6, v, u, _, h => h
 | 7, v, u, _, h => h
 | 8, v, u, _, h => h
 | 9, v, u, _, h => h
 | 10, v, u, _, h => h
 | 11, v, u, _, h => h
 | 12, v, u, hh, _ => absurd rfl hh
 | n + 13, v, u, _, h => trivial
/-- the leaf of a line under a transcript's salt -/
def ndL (base : List Nat) (x : Ln) : Nd := leafR x.c0 x.c1 x.c2 x.c3 x.c4 (saltN base 1 (nLn x))
theorem ndL_d (base : List Nat) (x : Ln) : (ndL base x).d = lvL base x := rfl
theorem leaf_x (x : Ln) (l : List Nat) (w : World) (hl : Hid (DgOk l)) (hT : Hid (Tabs w)) (hv : vLn x = true) : Calls Tryz.prog 41 #[lnV x, dgV l] w fun e w' => e = .returned (.tuple #[ndV (leafR x.c0 x.c1 x.c2 x.c3 x.c4 l), .int .i64 0]) ∧ Below w.heap.size w w' := by
 have h := leaf_any x.c0 x.c1 x.c2 x.c3 x.c4 l w (Lib.hid hl.out.len) (Lib.hid hl.out.bytes) hT
 rw [show leafE x.c0 x.c1 x.c2 x.c3 x.c4 = 0 from by unfold leafE; exact if_pos (of_decide_eq_true hv)] at h
 exact h
theorem chkE_all {α : Type} {v : α → Bool} {no : α → Int} : ∀ (xs : List α) (z : Int), chkE v no z xs = true → ∀ x ∈ xs, v x = true
 | [], z, _, x, hx => by cases hx
 | y :: ys, z, h, x, hx => by
  rw [chkE, Bool.and_eq_true, Bool.and_eq_true] at h
  rcases List.mem_cons.1 hx with e | hx
  ·rw [e]; exact h.1.1
  ·exact chkE_all ys (no y) h.2 x hx
def cNd (W1 : World) (r : Nd) (L : Nat → Bool) (fx : Nat → Value) (w' : World) : Prop := Below W1.heap.size W1 w' ∧ (L 10 = true → ∃ q, fx 10 = .pointer (some ⟨q, 0, none⟩) ∧ W1.heap.size ≤ q ∧ q < w'.heap.size ∧ w'.heap[q]? = some (.cells (ndC (bif L 11 then r else zeroN)).toArray 39 (0, 0)))
theorem cNd.below {W1 : World} {r : Nd} {L : Nat → Bool} {fx : Nat → Value} {w' w2 : World} (h : cNd W1 r L fx w') (hb : Below w'.heap.size w' w2) : cNd W1 r L fx w2 := by
 refine ⟨h.1.trans (hb.mono h.1.size), fun h10 => ?_⟩
 obtain ⟨q, e, h1, h2, h3⟩ := h.2 h10
 exact ⟨q, e, h1, Nat.lt_of_lt_of_le h2 hb.size, row_kept h3 hb⟩
theorem size34e {n : Nd} (h : NdOk n) : (Tryz.prog.info? 39).map (·.size) = some (ndC n).toArray.size := by rw [size34 h]; simp
theorem nodes_no (t : Tr) (p : TrP) (w : World) (h : Hid (TrOk w t p)) (hT : Hid (Tabs w)) (hg : Hid (trG t = false)) :
  Calls Tryz.prog 10 #[trV t p] w fun e w' => e = .returned (.tuple #[.slice none 0 0, .int .i64 420]) ∧ Below w.heap.size w w' := by
 have HE : Hid (trE t = 420) := Lib.hid (trE_no hg.out)
 have HB0 := Lib.hid ((Below.refl _ w).alloc (Nat.le_refl _) (.cells (trC t p).toArray 27))
 have HR0 := Lib.hid (heap_alloc_new w (.cells (trC t p).toArray 27))
 have HO1 := Lib.hid (h.out.below HB0.out)
 have hT1 := Lib.hid (hT.out.below HB0.out)
 have HIT := Lib.hid (trV_info t p h.out.len)
 rw [show trV t p = .agg (trC t p).toArray from rfl]
 go_enter Tryz.func10, Tryz.ntmps10
 go_wp2_with (refine wpList_load_row rfl 27 (.tmp 1) rfl w.heap.size rfl 27 _ (0, 0) _ HR0.out Tryz.underlying27 rfl HIT.out ?_)
 rw [show Value.agg (trC t p).toArray = trV t p from rfl]
 refine (check_any t p _ HO1).mono ?_
 rintro e W2 ⟨rfl, hq1⟩
 have HB2 := Lib.hid (HB0.out.trans (hq1.mono HB0.out.size))
 have HR2 := Lib.hid (row_kept HR0.out hq1)
 have HO2 := Lib.hid (HO1.out.below hq1)
 have hT2 := Lib.hid (hT1.out.below hq1)
 clear hq1 HR0 HO1 hT1 HB0
 rw [HE.out]
 go_wp2_with fail
 go_ret2
 exact ⟨rfl, HB2.out⟩
theorem nodes_yes (t : Tr) (p : TrP) (w : World) (h : Hid (TrOk w t p)) (hT : Hid (Tabs w)) (hg : Hid (trG t = true)) :
  Calls Tryz.prog 10 #[trV t p] w fun e w' => ∃ A' n' c', e = .returned (.tuple #[.slice A' n' c', .int .i64 0]) ∧ InN w' A' n' c' (t.ln.map (ndL t.salt)) ∧ Below w.heap.size w w' := by
 have HE : Hid (trE t = 0) := Lib.hid (trE_yes hg.out)
 have HN := Lib.hid (show t.ln.length = p.n from h.out.ln.len)
 have HNL : Hid (p.n ≤ 100000) := Lib.hid (by have := trG_lns hg.out; rw [HN.out] at this; exact this)
 have HSA : Hid (DgOk t.salt) := Lib.hid ⟨h.out.len, h.out.bytes⟩
 have HSK := Lib.hid (dgC_infoK HSA.out)
 have HVA : Hid (∀ x ∈ t.ln, vLn x = true) := Lib.hid (chkE_all _ _ (trG_parts hg.out).2.1)
 have HB0 := Lib.hid ((Below.refl _ w).alloc (Nat.le_refl _) (.cells (trC t p).toArray 27))
 have HR0 := Lib.hid (heap_alloc_new w (.cells (trC t p).toArray 27))
 have HO1 := Lib.hid (h.out.below HB0.out)
 have hT1 := Lib.hid (hT.out.below HB0.out)
 have HIT := Lib.hid (trV_info t p h.out.len)
 rw [show trV t p = .agg (trC t p).toArray from rfl]
 go_enter Tryz.func10, Tryz.ntmps10
 go_wp2_with (refine wpList_load_row rfl 27 (.tmp 1) rfl w.heap.size rfl 27 _ (0, 0) _ HR0.out Tryz.underlying27 rfl HIT.out ?_)
 rw [show Value.agg (trC t p).toArray = trV t p from rfl]
 refine (check_any t p _ HO1).mono ?_
 rintro e W2 ⟨rfl, hq1⟩
 have HB2 := Lib.hid (HB0.out.trans (hq1.mono HB0.out.size))
 have HR2 := Lib.hid (row_kept HR0.out hq1)
 have HO2 := Lib.hid (HO1.out.below hq1)
 have hT2 := Lib.hid (hT1.out.below hq1)
 clear hq1 HR0 HO1 hT1 HB0
 rw [HE.out]
 have HI2 := Lib.hid HO2.out.ln
 have kl : W2.cell? ⟨w.heap.size, 4, none⟩ = some (.slice p.A p.n p.c) := by rw [cell_of_row _ _ _ _ _ _ HR2.out]; rfl
 go_wp2_with fail
 go_loopw [17, 2] (fun i dd wr => ∃ (j : Nat) (P : List Nd), j ≤ p.n ∧ i = .int .i64 j ∧ Hid (P = (t.ln.take j).map (ndL t.salt)) ∧ Hid (OwnN wr W2.heap.size dd P) ∧ Hid (Below W2.heap.size W2 wr) ∧ ∃ A3 n3 c3, dd = .slice A3 n3 c3) (fun i _ _ => p.n - (intOf i).toNat)
 case atStart => exact ⟨0, [], by omega, rfl, Lib.hid rfl, Lib.hid (OwnN.nil _ _), Lib.hid (Below.refl _ _), _, _, _, rfl⟩
 case round =>
  clear kl
  obtain ⟨j, P, hj, rfl, HP, HOW, HB, A3, n3, c3, rfl⟩ := hrel
  by_cases hlt : j < p.n
  ·have d1 : decide ((j : Int) < (p.n : Int)) = true := decide_eq_true (by omega)
   have d2 : decide (j < p.n) = true := decide_eq_true hlt
   have hjl : j < t.ln.length := by rw [HN.out]; exact hlt
   obtain ⟨g, off, eA, hgl, hr⟩ := HI2.out.rd (by omega)
   obtain ⟨x, HX⟩ : ∃ x, Hid (t.ln[j] = x) := ⟨_, Lib.hid rfl⟩
   have HVX : Hid (vLn x = true) := Lib.hid (by rw [← HX.out]; exact HVA.out _ (List.getElem_mem hjl))
   have HR : Hid (wr.rangeAt g (off + j * 5) (lnC x)) := Lib.hid (by
    rw [← HX.out]
    exact rangeAt_below (range_elem lnC_len4 hr j hjl) hgl HB.out)
   have HII := Lib.hid (lnC_infoL4 x)
   have HIX := Lib.hid (lnC_info4 x)
   have HPL : Hid (P.length ≤ 100000) := Lib.hid (by have := HNL.out; rw [HP.out, List.length_map, List.length_take]; omega)
   obtain ⟨s, HS⟩ : ∃ s, Hid (saltN t.salt 1 (nLn x) = s) := ⟨_, Lib.hid rfl⟩
   have HSO : Hid (DgOk s) := Lib.hid (by rw [← HS.out]; exact saltN_ok _ _ _)
   obtain ⟨r, HD⟩ : ∃ r, Hid (leafR x.c0 x.c1 x.c2 x.c3 x.c4 s = r) := ⟨_, Lib.hid rfl⟩
   have HRO : Hid (NdOk r) := Lib.hid (by rw [← HD.out]; exact leafR_okL x s)
   have HS34 := Lib.hid (size34e HRO.out)
   have HT34 : Hid ((ndC zeroN).toArray.size = (ndC r).toArray.size) := Lib.hid (by simp [ndC_length HRO.out, ndC_length zeroN_ok])
   have HPN : Hid (P ++ [r] = (t.ln.take (j + 1)).map (ndL t.salt)) := Lib.hid (by rw [List.take_succ_eq_append_getElem hjl, List.map_append, ← HP.out, HX.out, ← HD.out, ← HS.out]; rfl)
   have HBX := Lib.hid ((Below.refl _ wr).alloc (Nat.le_refl _) (.cells (lnC x).toArray 45))
   have HRX := Lib.hid (heap_alloc_new wr (.cells (lnC x).toArray 45))
   rw [show (lnC x).toArray = #[.int .i64 x.c0, .int .i64 x.c1, .int .i64 x.c2, .int .i64 x.c3, .int .i64 x.c4] from rfl] at HBX HRX
   clear hr
   rw [eA]
   go_wp2_with (with_reducible refine wpList_load_mid rfl 45 (.tmp 19) rfl g (off + j * 5) rfl (lnC x) _ HR.out Tryz.underlying45 rfl HII.out ?_; rw [show Value.agg (lnC x).toArray = .agg #[.int .i64 x.c0, .int .i64 x.c1, .int .i64 x.c2, .int .i64 x.c3, .int .i64 x.c4] from rfl])
   have HB1W := Lib.hid (HB.out.trans (HBX.out.mono HB.out.size))
   have HOW1 := Lib.hid (HOW.out.below HBX.out)
   have HTB1 := Lib.hid (row_kept HR2.out HB1W.out)
   have hT3 := Lib.hid (hT2.out.below HB1W.out)
   have HMS := Lib.hid HB1W.out.size
   generalize (wr.alloc (.cells #[.int .i64 x.c0, .int .i64 x.c1, .int .i64 x.c2, .int .i64 x.c3, .int .i64 x.c4] 45)) = W1 at *
   refine region_flow4 (by kernel_rfl) (by kernel_rfl) (fun i => Nat.beq i 12) (fun i => bif Nat.beq i 12 then 10 else i) (by kernel_rfl) (fun fx => #[trV t p, .pointer (some { block := w.heap.size, off := 0 }), .slice A3 n3 c3, u3, .int IntKind.i64 0, undef, .pointer (some { block := wr.heap.size, off := 0 }), fx 10, fx 12, trV t p, .int IntKind.i64 0, .int IntKind.i64 0, .bool false, undef, .pointer (some { block := w.heap.size, off := 4 }), .slice (some { block := g, off := off }) p.n p.c, .int IntKind.i64 ↑p.n, .int IntKind.i64 ↑j, .bool true, .pointer (some { block := g, off := off + j * 5 }), .agg #[.int IntKind.i64 x.c0, .int IntKind.i64 x.c1, .int IntKind.i64 x.c2, .int IntKind.i64 x.c3, .int IntKind.i64 x.c4], fx 7, fx 0, fx 1, fx 2, fx 3, fx 4, fx 5, fx 6, fx 8, fx 9, u31, u32, u33, u34, u35, u36, u37, u38, undef]) (fun i => bif Nat.beq i 0 then u22 else bif Nat.beq i 1 then u23 else bif Nat.beq i 2 then u24 else bif Nat.beq i 3 then u25 else bif Nat.beq i 4 then u26 else bif Nat.beq i 5 then u27 else bif Nat.beq i 6 then u28 else bif Nat.beq i 7 then u21 else bif Nat.beq i 8 then u29 else bif Nat.beq i 9 then u30 else bif Nat.beq i 10 then u7 else bif Nat.beq i 12 then u8 else undef) (fun L fx w' => cNd W1 r L fx w') (fun fi fv fu fw => wNd W1 w.heap.size t x s r fi fv fu fw) ⟨(Below.refl _ _).drew, (fun h => by cases h)⟩ ?_ ?_
   ·refine ⟨?_, ?_, ?_, ?_, ?_, ?_, ?_, ?_, ?_, ?_, ?_, ?_, ?_, trivial⟩
    all_goals intro L fx w' hC hi hcl hdn hd
    ·have hrow := row_kept HRX.out hC.1
     refine wpList_load_row rfl 45 (.tmp 6) rfl wr.heap.size rfl 45 _ (0, 0) _ hrow Tryz.underlying45 rfl HIX.out ?_
     clear hd
     go_wp2_with fail
     exact ⟨_, rfl, hC, rfl, kP⟩
    ·have HTK := Lib.hid (hT3.out.below hC.1)
     go_wp2_with fail
     refine (lines_any w').mono ?_
     rintro e w2 ⟨rfl, hq⟩
     go_wp2_with fail
     exact ⟨_, rfl, hC.below hq, rfl, fun j v t _ _ h => wNd_below hq j v t h⟩
    ·go_wp2_with fail
     exact ⟨_, rfl, hC, rfl, kP⟩
    ·have h2 : fx 2 = .pointer (some { block := w.heap.size, off := 6 }) := hd.1 rfl
     have hrow := tr_salt (row_kept HTB1.out hC.1)
     refine wpList_load_mid rfl 25 (.tmp 24) rfl w.heap.size 6 h2 (dgC t.salt) _ hrow Tryz.underlying25 rfl HSK.out ?_
     clear hd
     go_wp2_with fail
     exact ⟨_, by simp only [upd, h2]; rfl, hC, rfl, kP⟩
    ·have hrow := row_kept HRX.out hC.1
     refine wpList_load_row rfl 45 (.tmp 6) rfl wr.heap.size rfl 45 _ (0, 0) _ hrow Tryz.underlying45 rfl HIX.out ?_
     clear hd
     go_wp2_with fail
     exact ⟨_, rfl, hC, rfl, kP⟩
    ·have h1 : fx 1 = .agg tabL := hd.1 rfl
     have h3 : fx 3 = dgV t.salt := hd.2.1 rfl
     have h4 : fx 4 = lnV x := hd.2.2.1 rfl
     have HTK := Lib.hid (hT3.out.below hC.1)
     go_wp2_with fail
     refine (saltL t.salt x w' HSA HTK).mono ?_
     rintro e w2 ⟨rfl, hq⟩
     rw [HS.out]
     go_wp2_with fail
     exact ⟨_, by simp only [upd, h1, h3, h4]; rfl, hC.below hq, rfl, fun j v t _ _ h => wNd_below hq j v t h⟩
    ·have h0 : fx 0 = lnV x := hd.1 rfl
     have h5 : fx 5 = dgV s := hd.2.1 rfl
     have HTK := Lib.hid (hT3.out.below hC.1)
     go_wp2_with fail
     refine (leaf_x x s w' HSO HTK HVX.out).mono ?_
     rintro e w2 ⟨rfl, hq⟩
     rw [HD.out]
     go_wp2_with fail
     exact ⟨_, by simp only [upd, h0, h5]; rfl, hC.below hq, rfl, fun j v t _ _ h => wNd_below hq j v t h⟩
    ·have h6 : fx 6 = .tuple #[ndV r, .int .i64 0] := hd.1 rfl
     go_wp2_with fail
     exact ⟨_, by simp only [upd, h6]; rfl, hC, rfl, kP⟩
    ·have h7 : fx 7 = .tuple #[ndV r, .int .i64 0] := hd.1 rfl
     go_wp2_with fail
     exact ⟨_, by simp only [upd, h7]; rfl, hC, rfl, kP⟩
    ·have h7 : fx 7 = .tuple #[ndV r, .int .i64 0] := hd.1 rfl
     go_wp2_with fail
     exact ⟨_, by simp only [upd, h7]; rfl, hC, rfl, kP⟩
    ·have h11 : L 11 = false := Bool.eq_false_iff.2 (fun h => by have := hcl 11 10 h (by kernel_rfl); rw [hi] at this; cases this)
     go_wp2_with fail
     rw [← zeroN_cells]
     have hq : Below w'.heap.size w' (w'.alloc (.cells (ndC zeroN).toArray 39)) := (Below.refl _ _).alloc (Nat.le_refl _) _
     refine ⟨Value.pointer (some ⟨w'.heap.size, 0, none⟩), rfl, ⟨(hC.below hq).1, fun _ => ⟨w'.heap.size, rfl, hC.1.size, by simp, ?_⟩⟩, rfl, fun j v t _ _ h => wNd_below hq j v t h⟩
     show _ = some (Obj.cells (ndC (bif L 11 then r else zeroN)).toArray 39 (0, 0))
     rw [h11]
     exact heap_alloc_new w' _
    ·have H10 := Lib.hid (hd.1 rfl)
     have h8 : fx 8 = ndV r := hd.2.1 rfl
     obtain ⟨q, e10, hq1, hq2, hrow0⟩ := hC.2 (hdn 10 (by kernel_rfl))
     have hrow : w'.heap[q]? = some (.cells (ndC zeroN).toArray 39 (0, 0)) := by have := hrow0; rw [hi] at this; exact this
     refine wpList_store_row rfl 39 (.tmp 7) (.tmp 29) rfl q (ndC r).toArray e10 h8 39 _ hrow HS34.out HT34.out (ndC_one _) ?_
     clear hd
     go_wp2_with fail
     refine ⟨undef, by simp only [upd, h8, e10]; rfl, ⟨below_setRow hC.1 hq1 _, fun _ => ⟨q, e10, hq1, by rw [setRow_size]; exact hq2, setRow_heap _ _ _ _ _ _ hrow⟩⟩, rfl, fun j v t hj hu h => ?_⟩
     by_cases e : j = 12
     ·subst e; exact absurd (hcl 12 11 hj (by kernel_rfl)) (by rw [hi]; exact Bool.false_ne_true)
     ·exact wNd_pure j v t e h
    ·have h9 : fx 9 = .int .i64 0 := hd.1 rfl
     obtain ⟨q, e10, hq1, hq2, hrow0⟩ := hC.2 (hdn 10 (by kernel_rfl))
     rw [hdn 11 (by kernel_rfl)] at hrow0
     go_wp2_with fail
     exact ⟨Value.int .i64 0, by simp only [upd, h9, e10]; rfl, hC, ⟨rfl, q, e10, hrow0, hC.1⟩, kP⟩
   ·intro L fo w' hC hS
    have H12 := Lib.hid (hS 12 (by decide) rfl)
    obtain ⟨e12, q, e10, hrow, hbw⟩ := H12.out
    have e10' : fo 10 = .pointer (some ⟨q, 0, none⟩) := e10
    rw [e12, e10']
    have HQR := Lib.hid hrow
    have HOW2 := Lib.hid (HOW1.out.below hbw)
    have HB3 := Lib.hid (HB1W.out.trans (hbw.mono HB1W.out.size))
    have hba := (Below.refl _ w').alloc (Nat.le_refl _) (.cells (flatN [r]).toArray 39)
    have HA6 := Lib.hid (HOW2.out.below hba)
    have HRF := Lib.hid (heap_alloc_new w' (.cells (flatN [r]).toArray 39))
    have HB4 := Lib.hid (HB3.out.trans (hba.mono HB3.out.size))
    have HSZ := Lib.hid HB4.out.size
    have hnn := HNL.out
    clear hS hC e12 e10 e10' H12 hrow hbw hba
    go_wp2_with (first | (refine wpList_load_row rfl 39 (.tmp 7) rfl q rfl 39 _ (0, 0) _ HQR.out Tryz.underlying39 rfl HS34.out ?_) | (refine wpList_build_nodes1 rfl (.tmp 35) rfl r rfl HRO.out ?_) | (refine wpList_append_node rfl (.tmp 34) (.tmp 36) rfl W2.heap.size _ P r rfl HA6 HRO.out w'.heap.size rfl HRF HPL.out HSZ.out ?_; intro v2 w2 HO2 HG2; obtain ⟨A2, n2, c2, rfl⟩ := HO2.out.form))
    have HB5 := Lib.hid (HB4.out.grown HG2.out HSZ.out (fun k hk => (HA6.out.block k hk).1))
    rw [HPN.out] at HO2
    go_roundw
    case rel => exact ⟨j + 1, _, by omega, by go_num, Lib.hid rfl, HO2, HB5, _, _, _, rfl⟩
    case measure => simp [intOf]; omega
  ·have d1 : decide ((j : Int) < (p.n : Int)) = false := decide_eq_false (by omega)
   have HPF : Hid (P = t.ln.map (ndL t.salt)) := Lib.hid (by rw [HP.out, List.take_of_length_le (by rw [HN.out]; omega)])
   have HPO : Hid (∀ y ∈ P, NdOk y) := Lib.hid (fun y hy => by
    rw [HPF.out] at hy
    obtain ⟨x, _, rfl⟩ := List.mem_map.1 hy
    exact leafR_okL x _)
   obtain ⟨A4, n4, c4, e4, hin4, ht4⟩ := HOW.out.slice HPO.out
   cases e4
   have HI4 := Lib.hid hin4
   have HB4 := Lib.hid (HB2.out.trans (HB.out.mono HB2.out.size))
   clear hin4 ht4
   go_wp2_with fail
   go_ret2
   exact ⟨_, _, _, rfl, by rw [← HPF.out]; exact HI4.out, HB4.out⟩
end Go.Proofs.YtmfmgeapecapiaaGreatDoor
