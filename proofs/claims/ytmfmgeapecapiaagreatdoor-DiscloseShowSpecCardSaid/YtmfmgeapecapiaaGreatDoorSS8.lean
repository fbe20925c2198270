/- sizar/disclose: leaves (claims). Transcripts: the salt within; how many claims there are. sizar/disclose.Nodes. Unequal digests. sizar/disclose: verify. sizar/disclose: verify. Roots; lines and claims that are shown. Lines and claims compared. sizarlaw42.example. -/
import Derived.Test.YtmfmgeapecapiaaGreatDoorSS7
import Derived.Test.YtmfmgeapecapiaaGreatDoorSS6
import Derived.Test.YtmfmgeapecapiaaGreatDoorSS3
set_option maxHeartbeats 64000001
open Go.Lib (hid)
namespace Go.Proofs.YtmfmgeapecapiaaGreatDoor
open Go.RowKit SzSha SzTree
set_option linter.unusedVariables false
set_option maxRecDepth 100000
theorem clC_len4 (x : Cl) : (clC x).length = 3 := rfl
theorem clC_infoL4 (x : Cl) : (Tryz.prog.info? 56).map (·.size) = some (clC x).length := by show _ = some 3; kernel_rfl
theorem clC_info4 (x : Cl) : (Tryz.prog.info? 56).map (·.size) = some (clC x).toArray.size := by show _ = some 3; kernel_rfl
theorem tabK_info4 : (Tryz.prog.info? 95).map (·.size) = some tabK.size := by show _ = some 4; kernel_rfl
/-- the leaf of an element under a transcript's salt -/
def lvK (base : List Nat) (x : Cl) : Dg := lfK x (saltN base 2 (nCl x))
def wLsK (M : Nat) (bt : Nat) (A3 : Option Addr) (n3 : Nat) (c3 : Nat) (base : List Nat) (x : Cl) (s : List Nat) (d : List Nat) (P : List Dg) : Nat → Value → World → Prop
 | 0, fv, _ => fv = .slice A3 n3 c3
 | 1, fv, _ => fv = .pointer (some { block := bt, off := 3 })
 | 2, fv, _ => fv = .func (.func 105) #[] #[]
 | 3, fv, _ => fv = clV x
 | 4, fv, _ => fv = .agg tabK
 | 5, fv, _ => fv = dgV base
 | 6, fv, _ => fv = clV x
 | 7, fv, _ => fv = dgV s
 | 8, fv, _ => fv = dgV d
 | 9, fv, fw => ∃ q, fv = .slice (some ⟨q, 0, none⟩) 1 1 ∧ fw.heap[q]? = some (.cells (flatD [d]).toArray 25 (0, 0))
 | 10, fv, fw => OwnD fw M fv (P ++ [d])
 | 11, fv, fw => OwnD fw M fv (P ++ [d])
 | _, _, _ => True
theorem wLsK_below {M : Nat} {bt : Nat} {A3 : Option Addr} {n3 : Nat} {c3 : Nat} {base : List Nat} {x : Cl} {s : List Nat} {d : List Nat} {P : List Dg} {w w' : World} (hb : Below w.heap.size w w') : ∀ j v, wLsK M bt A3 n3 c3 base x s d P j v w → wLsK M bt A3 n3 c3 base x s d P j v w'
 | 0, v, h => h
 | 1, v, h => h
 | 2, v, h => h
 | 3, v, h => h
 | 4, v, h => h
 | 5, v, h => h
 | 6, v, h => h
 | 7, v, h => h
 | 8, v, h => h
 | 9, v, ⟨q, h1, h2⟩ => ⟨q, h1, row_kept h2 hb⟩
 | 10, v, h => h.below hb
 | 11, v, h => h.below hb
 | n + 12, v, h => trivial
theorem wLsK_pure {M : Nat} {bt : Nat} {A3 : Option Addr} {n3 : Nat} {c3 : Nat} {base : List Nat} {x : Cl} {s : List Nat} {d : List Nat} {P : List Dg} {w w' : World} : ∀ j v, j ≠ 9 → j ≠ 10 → j ≠ 11 → wLsK M bt A3 n3 c3 base x s d P j v w → wLsK M bt A3 n3 c3 base x s d P j v w'
 | 0, v, _, _, _, h => h
 | 1, v, _, _, _, h => h
 | 2, v, _, _, _, h => h
 | 3, v, _, _, _, h => h
 | 4, v, _, _, _, h => h
 | 5, v, _, _, _, h => h
 | 6, v, _, _, _, h => h
 | 7, v, _, _, _, h => h
 | 8, v, _, _, _, h => h
 | 9, v, hh, _, _, _ => absurd rfl hh
 | 10, v, _, hh, _, _ => absurd rfl hh
 | 11, v, _, _, hh, _ => absurd rfl hh
 | n + 12, v, _, _, _, h => trivial
theorem leavesK (base : List Nat) (ls : List Cl) (A : Option Addr) (n c : Nat) (w : World) (hn : n ≤ 100000) (hba : Hid (DgOk base)) (h : Hid (InCl w A n c ls)) (hT : Hid (Tabs w)) :
  Calls Tryz.prog 50 #[.agg tabK, dgV base, .slice A n c] w fun e w' => ∃ A' n' c', e = .returned (.slice A' n' c') ∧ InD w' A' n' c' (ls.map (lvK base)) ∧ Below w.heap.size w w' := by
 have HN := hid (show ls.length = n from h.out.len)
 have hb2 := ((Below.refl _ w).alloc (Nat.le_refl _) (.cells tabK 95)).alloc (by simp) (.cells (dgC base).toArray 25)
 have hr0 := (Below.heap_alloc (w.alloc (.cells tabK 95)) (.cells (dgC base).toArray 25) w.heap.size (by simp)).trans (heap_alloc_new w (.cells tabK 95))
 have hr1 := heap_alloc_new (w.alloc (.cells tabK 95)) (.cells (dgC base).toArray 25)
 rw [World.size_alloc] at hr1
 have HB12 := hid hb2
 have HTB := hid hr0
 have HBA := hid hr1
 have HI2 := hid (h.out.below hb2)
 have hT2 := hid (hT.out.below hb2)
 have HIB := hid (dgC_info hba.out)
 have HIT := hid tabK_info4
 clear hb2 hr0 hr1 h
 rw [dgV_agg base]
 go_enter Tryz.func50, Tryz.ntmps50
 go_wp2_with fail
 generalize ((w.alloc (.cells tabK 95)).alloc (.cells (dgC base).toArray 25)) = W2 at *
 go_loopw [11, 6] (fun i dd wr => ∃ (j : Nat) (P : List Dg), j ≤ n ∧ i = .int .i64 j ∧ Hid (P = (ls.take j).map (lvK base)) ∧ Hid (OwnD wr W2.heap.size dd P) ∧ Hid (Below W2.heap.size W2 wr) ∧ ∃ A3 n3 c3, dd = .slice A3 n3 c3) (fun i _ _ => n - (intOf i).toNat)
 case atStart => exact ⟨0, [], by omega, rfl, hid rfl, hid (OwnD.nil _ _), hid (Below.refl _ _), _, _, _, rfl⟩
 case round =>
  obtain ⟨j, P, hj, rfl, HP, HOW, HB, A3, n3, c3, rfl⟩ := hrel
  by_cases hlt : j < n
  ·have d1 : decide ((j : Int) < (n : Int)) = true := eQ (by omega)
   have d2 : decide (j < n) = true := eQ hlt
   have hjl : j < ls.length := by rw [HN.out]; exact hlt
   obtain ⟨g, off, rfl, hg, hr⟩ := HI2.out.rd (by omega)
   obtain ⟨x, HX⟩ : ∃ x, Hid (ls[j] = x) := ⟨_, hid rfl⟩
   have HXO : Hid (ClOk x) := hid (by rw [← HX.out]; exact HI2.out.ok _ (List.getElem_mem hjl))
   have HR : Hid (wr.rangeAt g (off + j * 3) (clC x)) := hid (by
    rw [← HX.out]
    exact rangeAt_below (range_elem clC_len4 hr j hjl) hg HB.out)
   have HII := hid (clC_infoL4 x)
   have HIX := hid (clC_info4 x)
   have HPL : Hid (P.length ≤ 100000) := hid (by rw [HP.out, List.length_map, List.length_take]; omega)
   obtain ⟨s, HS⟩ : ∃ s, Hid (saltN base 2 (nCl x) = s) := ⟨_, hid rfl⟩
   have HSO : Hid (DgOk s) := hid (by rw [← HS.out]; exact saltN_ok _ _ _)
   obtain ⟨d, HD⟩ : ∃ d, Hid (lfK x s = d) := ⟨_, hid rfl⟩
   have HDO : Hid (DgOk d) := hid (by rw [← HD.out]; exact lfK_ok _ _)
   have HPN : Hid (P ++ [d] = (ls.take (j + 1)).map (lvK base)) := hid (by rw [List.take_succ_eq_append_getElem hjl, List.map_append, ← HP.out, HX.out, ← HD.out, ← HS.out]; rfl)
   have HBX := hid ((Below.refl _ wr).alloc (Nat.le_refl _) (.cells (clC x).toArray 56))
   have HRX := hid (heap_alloc_new wr (.cells (clC x).toArray 56))
   rw [show (clC x).toArray = #[.int .i64 x.p, .int .i64 x.r, .bool x.m] from rfl] at HBX HRX
   clear hr
   go_wp2_with (with_reducible refine wpList_load_mid rfl 56 (.tmp 13) rfl g (off + j * 3) rfl (clC x) _ HR.out Tryz.underlying56 rfl HII.out ?_; rw [show Value.agg (clC x).toArray = .agg #[.int .i64 x.p, .int .i64 x.r, .bool x.m] from rfl])
   have HB1W := hid (HB.out.trans (HBX.out.mono HB.out.size))
   have HOW1 := hid (HOW.out.below HBX.out)
   have HTB1 := hid (row_kept HTB.out HB1W.out)
   have HBA1 := hid (row_kept HBA.out HB1W.out)
   have hT1 := hid (hT2.out.below HB1W.out)
   have HMS := hid HB1W.out.size
   generalize (wr.alloc (.cells #[.int .i64 x.p, .int .i64 x.r, .bool x.m] 56)) = W1 at *
   refine region_flow4 (by kernel_rfl) (by kernel_rfl) (fun i => Nat.beq i 11) (fun i => i) (by kernel_rfl) (fun fx => #[.agg tabK, .agg (dgC base).toArray, .slice (some { block := g, off := off }) n c, .pointer (some { block := w.heap.size, off := 0 }), .pointer (some { block := w.heap.size + 1, off := 0 }), undef, fx 11, undef, .pointer (some { block := wr.heap.size, off := 0 }), .slice (some { block := g, off := off }) n c, .int IntKind.i64 ↑n, .int IntKind.i64 ↑j, .bool true, .pointer (some { block := g, off := off + j * 3 }), .agg #[.int IntKind.i64 x.p, .int IntKind.i64 x.r, .bool x.m], fx 0, fx 1, fx 2, fx 3, fx 4, fx 5, fx 6, fx 7, fx 8, fx 9, fx 10, u26, undef]) (fun i => bif Nat.beq i 0 then u15 else bif Nat.beq i 1 then u16 else bif Nat.beq i 2 then u17 else bif Nat.beq i 3 then u18 else bif Nat.beq i 4 then u19 else bif Nat.beq i 5 then u20 else bif Nat.beq i 6 then u21 else bif Nat.beq i 7 then u22 else bif Nat.beq i 8 then u23 else bif Nat.beq i 9 then u24 else bif Nat.beq i 10 then u25 else bif Nat.beq i 11 then Value.slice A3 n3 c3 else undef) (fun L fx w' => (L 11 = false → fx 11 = .slice A3 n3 c3) ∧ Below W2.heap.size W1 w' ∧ (L 10 = false → Below (W1).heap.size W1 w')) (fun fi fv _ fw => wLsK W2.heap.size w.heap.size A3 n3 c3 base x s d P fi fv fw) ⟨fun _ => rfl, (Below.refl _ _).drew, fun _ => (Below.refl _ _).drew⟩ ?_ ?_
   ·refine ⟨?_, ?_, ?_, ?_, ?_, ?_, ?_, ?_, ?_, ?_, ?_, ?_, trivial⟩
    all_goals intro L fx w' hC hi hcl hdn hd
    ·have hnd : L 10 = false := nQ hi (fun h => (hcl 10 0 h (by kernel_rfl)))
     have hN : L 11 = false := nQ hi (fun h => hcl 11 0 h (by kernel_rfl))
     have he := hC.1 hN
     go_wp2_with fail
     exact ⟨_, by simp only [upd, he]; rfl, ⟨fun h => hC.1 h, hC.2.1, fun h => hC.2.2 h⟩, rfl, kP⟩
    ·have hnd : L 10 = false := nQ hi (fun h => (hcl 2 1 (hcl 8 2 (hcl 9 8 (hcl 10 9 h (by kernel_rfl)) (by kernel_rfl)) (by kernel_rfl)) (by kernel_rfl)))
     go_wp2_with fail
     exact ⟨_, rfl, ⟨fun h => hC.1 h, hC.2.1, fun h => hC.2.2 h⟩, rfl, kP⟩
    ·have h1 : fx 1 = .pointer (some { block := w.heap.size, off := 3 }) := hd.1 rfl
     have hnd : L 10 = false := nQ hi (fun h => (hcl 8 2 (hcl 9 8 (hcl 10 9 h (by kernel_rfl)) (by kernel_rfl)) (by kernel_rfl)))
     have hcc : w'.cell? ⟨w.heap.size, 3, none⟩ = some (Value.func (.func 105) #[] #[]) := by rw [cell_of_row _ _ _ _ _ _ (row_kept HTB1.out (hC.2.2 hnd))]; rfl
     go_wp2_with fail
     exact ⟨_, by simp only [upd, h1]; rfl, ⟨fun h => hC.1 h, hC.2.1, fun h => hC.2.2 h⟩, rfl, kP⟩
    ·have hnd : L 10 = false := nQ hi (fun h => (hcl 8 3 (hcl 9 8 (hcl 10 9 h (by kernel_rfl)) (by kernel_rfl)) (by kernel_rfl)))
     have hrow := row_kept HRX.out (hC.2.2 hnd)
     refine wpList_load_row rfl 56 (.tmp 8) rfl (wr.heap.size) rfl 56 _ (0, 0) _ hrow Tryz.underlying56 rfl HIX.out ?_
     clear hd
     go_wp2_with fail
     exact ⟨_, rfl, ⟨fun h => hC.1 h, hC.2.1, fun h => hC.2.2 h⟩, rfl, kP⟩
    ·have hnd : L 10 = false := nQ hi (fun h => (hcl 7 4 (hcl 8 7 (hcl 9 8 (hcl 10 9 h (by kernel_rfl)) (by kernel_rfl)) (by kernel_rfl)) (by kernel_rfl)))
     have hrow := row_kept HTB1.out (hC.2.2 hnd)
     refine wpList_load_row rfl 95 (.tmp 3) rfl (w.heap.size) rfl 95 _ (0, 0) _ hrow Tryz.underlying95 rfl HIT.out ?_
     clear hd
     go_wp2_with fail
     exact ⟨_, rfl, ⟨fun h => hC.1 h, hC.2.1, fun h => hC.2.2 h⟩, rfl, kP⟩
    ·have hnd : L 10 = false := nQ hi (fun h => (hcl 7 5 (hcl 8 7 (hcl 9 8 (hcl 10 9 h (by kernel_rfl)) (by kernel_rfl)) (by kernel_rfl)) (by kernel_rfl)))
     have hrow := row_kept HBA1.out (hC.2.2 hnd)
     refine wpList_load_row rfl 25 (.tmp 4) rfl (w.heap.size + 1) rfl 25 _ (0, 0) _ hrow Tryz.underlying25 rfl HIB.out ?_
     clear hd
     go_wp2_with fail
     exact ⟨_, rfl, ⟨fun h => hC.1 h, hC.2.1, fun h => hC.2.2 h⟩, rfl, kP⟩
    ·have hnd : L 10 = false := nQ hi (fun h => (hcl 7 6 (hcl 8 7 (hcl 9 8 (hcl 10 9 h (by kernel_rfl)) (by kernel_rfl)) (by kernel_rfl)) (by kernel_rfl)))
     have hrow := row_kept HRX.out (hC.2.2 hnd)
     refine wpList_load_row rfl 56 (.tmp 8) rfl (wr.heap.size) rfl 56 _ (0, 0) _ hrow Tryz.underlying56 rfl HIX.out ?_
     clear hd
     go_wp2_with fail
     exact ⟨_, rfl, ⟨fun h => hC.1 h, hC.2.1, fun h => hC.2.2 h⟩, rfl, kP⟩
    ·have h4 : fx 4 = .agg tabK := hd.1 rfl
     have h5 : fx 5 = dgV base := hd.2.1 rfl
     have h6 : fx 6 = clV x := hd.2.2.1 rfl
     have hnd : L 10 = false := nQ hi (fun h => (hcl 8 7 (hcl 9 8 (hcl 10 9 h (by kernel_rfl)) (by kernel_rfl)) (by kernel_rfl)))
     have hTk := hid (hT1.out.below (hC.2.2 hnd))
     go_wp2_with fail
     refine (saltK base x w' hba hTk).mono ?_
     rintro e w2 ⟨rfl, hq⟩
     rw [HS.out]
     go_wp2_with fail
     exact ⟨_, by simp only [upd, h4, h5, h6]; rfl, ⟨fun h => hC.1 h, hC.2.1.trans (hq.mono (Nat.le_trans HMS.out hC.2.1.size)), fun h => (hC.2.2 h).trans (hq.mono (hC.2.2 h).size)⟩, rfl, fun j v t _ _ h => wLsK_below hq j v h⟩
    ·have h2 : fx 2 = .func (.func 105) #[] #[] := hd.1 rfl
     have h3 : fx 3 = clV x := hd.2.1 rfl
     have h7 : fx 7 = dgV s := hd.2.2.1 rfl
     have hnd : L 10 = false := nQ hi (fun h => (hcl 9 8 (hcl 10 9 h (by kernel_rfl)) (by kernel_rfl)))
     have hTk := hid (hT1.out.below (hC.2.2 hnd))
     go_wp2_with fail
     refine (leafK x s w' HXO HSO hTk).mono ?_
     rintro e w2 ⟨rfl, hq⟩
     rw [HD.out]
     go_wp2_with fail
     exact ⟨_, by simp only [upd, h2, h3, h7]; rfl, ⟨fun h => hC.1 h, hC.2.1.trans (hq.mono (Nat.le_trans HMS.out hC.2.1.size)), fun h => (hC.2.2 h).trans (hq.mono (hC.2.2 h).size)⟩, rfl, fun j v t _ _ h => wLsK_below hq j v h⟩
    ·have h8 : fx 8 = dgV d := hd.1 rfl
     have hnd : L 10 = false := nQ hi (fun h => (hcl 10 9 h (by kernel_rfl)))
     refine wpList_build_digs1 rfl (.tmp 23) rfl d h8 HDO.out ?_
     clear hd
     go_wp2_with fail
     have hbb : Below w'.heap.size w' (w'.alloc (.cells (flatD [d]).toArray 25)) := (Below.refl _ _).alloc (Nat.le_refl _) _
     exact ⟨_, by simp only [upd, h8]; rfl, ⟨fun h => hC.1 h, hC.2.1.trans (hbb.mono (Nat.le_trans HMS.out hC.2.1.size)), fun h => (hC.2.2 h).trans (hbb.mono (hC.2.2 h).size)⟩, ⟨_, rfl, heap_alloc_new _ _⟩, fun j v t _ _ h => wLsK_below hbb j v h⟩
    ·have h0 : fx 0 = .slice A3 n3 c3 := hd.1 rfl
     have H9 := hid (hd.2.1 rfl)
     obtain ⟨q, hx, hrow⟩ := H9.out
     have HQR := hid hrow
     have HOV := hid (HOW1.out.below (hC.2.2 hi))
     have HSZ := hid (Nat.le_trans HMS.out hC.2.1.size)
     refine wpList_append_dig rfl (.tmp 15) (.tmp 24) rfl W2.heap.size (Value.slice A3 n3 c3) P d h0 HOV HDO.out q hx HQR HPL.out HSZ.out ?_
     intro v2 w2 HO2 HG2
     have HB2 := hid ((Below.refl W2.heap.size w').grown HG2.out HSZ.out (fun g hg => (HOV.out.block g hg).1))
     clear hd hrow
     go_wp2_with fail
     refine ⟨v2, by first | rfl | (rw [← hx, ← h0]; rfl) | (rw [← hx]; rfl), ⟨fun h => hC.1 h, hC.2.1.trans HB2.out, fun h => (updB_self h).elim⟩, HO2.out, fun j v t hj hu h => ?_⟩
     refine wLsK_pure j v ?_ ?_ ?_ h <;> intro e <;> subst e
     ·refine absurd hu (not_needed (E := fun i => Nat.beq i 11) (j := 9) [10] (by kernel_rfl) (by kernel_rfl) ?_)
      intro m hm hne; simp at hm; omega
     ·rw [hi] at hj; cases hj
     ·have := hcl 11 10 hj (by kernel_rfl); rw [hi] at this; cases this
    ·have H10 := hid (hd.1 rfl)
     go_wp2_with fail
     exact ⟨fx 10, rfl, ⟨fun h => (updB_self h).elim, hC.2.1, fun h => hC.2.2 h⟩, H10.out, kP⟩
   ·intro L fo w' hC hS
    have H11 := hid (hS 11 (by decide) rfl)
    obtain ⟨A4, n4, c4, e4⟩ := H11.out.form
    rw [e4]
    have HBE := hid (HB1W.out.trans hC.2.1)
    have HO4 : Hid (OwnD w' W2.heap.size (Value.slice A4 n4 c4) (P ++ [d])) := hid (by rw [← e4]; exact H11.out)
    clear hS hC H11 e4
    go_wp2_with fail
    go_roundw
    case rel => exact ⟨j + 1, P ++ [d], by omega, by go_num, HPN, HO4, HBE, _, _, _, rfl⟩
    case measure => simp [intOf]; omega
  ·have d1 : decide ((j : Int) < (n : Int)) = false := dQ (by omega)
   have HPF : Hid (P = ls.map (lvK base)) := hid (by rw [HP.out, List.take_of_length_le (by rw [HN.out]; omega)])
   have HPO : Hid (∀ y ∈ P, DgOk y) := hid (fun y hy => by
    rw [HPF.out] at hy
    obtain ⟨x, _, rfl⟩ := List.mem_map.1 hy
    exact lfK_ok _ _)
   obtain ⟨A4, n4, c4, e4, hin4, ht4⟩ := HOW.out.slice HPO.out
   cases e4
   have HI4 := hid hin4
   have HB4 := hid (HB12.out.trans (HB.out.mono HB12.out.size))
   clear hin4 ht4
   go_wp2_with fail
   go_ret
   exact ⟨_, _, _, rfl, by rw [← HPF.out]; exact HI4.out, HB4.out⟩
theorem tr_salt {w : World} {g ty : Nat} {t : Tr} {p : TrP} (h : w.heap[g]? = some (.cells (trC t p).toArray ty (0, 0))) : w.rangeAt g 6 (dgC t.salt) := fun j v hj => by
 rw [cell_of_row w g (6 + j) _ _ _ h]
 have e : (trC t p).toArray[6 + j]? = (dgC t.salt)[j]? := by
  rw [List.getElem?_toArray, trC, List.getElem?_append_right (by simp)]
  congr 1
  simp
 rw [e]; exact hj
theorem chkE_len {α : Type} {v : α → Bool} {no : α → Int} {B : Int} (hb : ∀ x, v x = true → no x ≤ B) : ∀ (xs : List α) (z : Int), chkE v no z xs = true → xs.length = 0 ∨ z + xs.length ≤ B
 | [], z, _ => .inl rfl
 | x :: xs, z, h => by
  rw [chkE, Bool.and_eq_true, Bool.and_eq_true, decide_eq_true_eq] at h
  have h1 := hb x h.1.1
  have h2 := chkE_len hb xs (no x) h.2
  right
  rw [List.length_cons]
  rcases h2 with h2 | h2 <;> omega
theorem nCl_bd (x : Cl) (h : vCl x = true) : nCl x ≤ 16383 := by
 unfold vCl at h
 have hk := of_decide_eq_true h
 unfold nCl
 rw [noK_val hk]
 unfold kOk at hk
 omega
theorem trG_parts {t : Tr} (h : trG t = true) : t.ln.length ≤ 4096 ∧ chkE vLn nLn (-1) t.ln = true ∧ chkE vCl nCl (-1) t.cl = true := by
 unfold trG at h
 simp only [Bool.and_eq_true, decide_eq_true_eq] at h
 exact ⟨h.2.2.2.2.1, h.2.2.2.2.2.1, h.2.2.2.2.2.2⟩
theorem trG_lns {t : Tr} (h : trG t = true) : t.ln.length ≤ 100000 := by have := (trG_parts h).1; omega
theorem trG_cls {t : Tr} (h : trG t = true) : t.cl.length ≤ 100000 := by
 have := chkE_len nCl_bd _ _ (trG_parts h).2.2
 omega
theorem trE_yes {t : Tr} (h : trG t = true) : trE t = 0 := by unfold trE; rw [if_pos h]
theorem trE_no {t : Tr} (h : trG t = false) : trE t = 420 := by unfold trE; rw [h]; rfl
theorem trV_info (t : Tr) (p : TrP) (h : t.salt.length = 32) : (Tryz.prog.info? 27).map (·.size) = some (trC t p).toArray.size := by
 have e : (trC t p).toArray.size = 38 := by simp [trC, h]
 rw [e]; show _ = some 38; kernel_rfl
theorem dgC_infoK {l : List Nat} (h : DgOk l) : (Tryz.prog.info? 25).map (·.size) = some (dgC l).length := by rw [dgC_info h]; simp
def wNd (W1 : World) (bt : Nat) (t : Tr) (x : Ln) (s : List Nat) (r : Nd) : Nat → Value → Value → World → Prop
 | 0, fv, _, _ => fv = lnV x
 | 1, fv, _, _ => fv = .agg tabL
 | 2, fv, _, _ => fv = .pointer (some { block := bt, off := 6 })
 | 3, fv, _, _ => fv = dgV t.salt
 | 4, fv, _, _ => fv = lnV x
 | 5, fv, _, _ => fv = dgV s
 | 6, fv, _, _ => fv = .tuple #[ndV r, .int .i64 0]
 | 7, fv, _, _ => fv = .tuple #[ndV r, .int .i64 0]
 | 8, fv, _, _ => fv = ndV r
 | 9, fv, _, _ => fv = .int .i64 0
 | 10, fv, _, _ => fv = fv
 | 11, fv, _, _ => fv = fv
 | 12, fv, fu, fw => fv = .int .i64 0 ∧ ∃ q, fu = .pointer (some ⟨q, 0, none⟩) ∧ fw.heap[q]? = some (.cells (ndC r).toArray 39 (0, 0)) ∧ Below W1.heap.size W1 fw
 | _, _, _, _ => True
theorem wNd_below {W1 : World} {bt : Nat} {t : Tr} {x : Ln} {s : List Nat} {r : Nd} {w w' : World} (hb : Below w.heap.size w w') : ∀ j v u, wNd W1 bt t x s r j v u w → wNd W1 bt t x s r j v u w'
 | 0, v, u, h => h
 | 1, v, u, h => h
 | 2, v, u, h => h
 | 3, v, u, h => h
 | 4, v, u, h => h
 | 5, v, u, h => h
 | 6, v, u, h => h
 | 7, v, u, h => h
 | 8, v, u, h => h
 | 9, v, u, h => h
 | 10, v, u, h => h
 | 11, v, u, h => h
 | 12, v, u, ⟨h0, q, h1, h2, h3⟩ => ⟨h0, q, h1, row_kept h2 hb, h3.trans (hb.mono h3.size)⟩
 | n + 13, v, u, h => trivial
theorem wNd_pure {W1 : World} {bt : Nat} {t : Tr} {x : Ln} {s : List Nat} {r : Nd} {w w' : World} : ∀ j v u, j ≠ 12 → wNd W1 bt t x s r j v u w → wNd W1 bt t x s r j v u w'
 | 0, v, u, _, h => h
 | 1, v, u, _, h => h
 | 2, v, u, _, h => h
 | 3, v, u, _, h => h
 | 4, v, u, _, h => h
 | 5, v, u, _, h => h
 | 6, v, u, _, h => h
 | 7, v, u, _, h => h
 | 8, v, u, _, h => h
 | 9, v, u, _, h => h
 | 10, v, u, _, h => h
 | 11, v, u, _, h => h
 | 12, v, u, hh, _ => absurd rfl hh
 | n + 13, v, u, _, h => trivial
/-- the leaf of a line under a transcript's salt -/
def ndL (base : List Nat) (x : Ln) : Nd := leafR x.c0 x.c1 x.c2 x.c3 x.c4 (saltN base 1 (nLn x))
theorem ndL_d (base : List Nat) (x : Ln) : (ndL base x).d = lvL base x := rfl
theorem leaf_x (x : Ln) (l : List Nat) (w : World) (hl : Hid (DgOk l)) (hT : Hid (Tabs w)) (hv : vLn x = true) : Calls Tryz.prog 41 #[lnV x, dgV l] w fun e w' => e = .returned (.tuple #[ndV (leafR x.c0 x.c1 x.c2 x.c3 x.c4 l), .int .i64 0]) ∧ Below w.heap.size w w' := by
 have h := leaf_any x.c0 x.c1 x.c2 x.c3 x.c4 l w (hid hl.out.len) (hid hl.out.bytes) hT
 rw [show leafE x.c0 x.c1 x.c2 x.c3 x.c4 = 0 from by unfold leafE; exact if_pos (of_decide_eq_true hv)] at h
 exact h
theorem chkE_all {α : Type} {v : α → Bool} {no : α → Int} : ∀ (xs : List α) (z : Int), chkE v no z xs = true → ∀ x ∈ xs, v x = true
 | [], z, _, x, hx => by cases hx
 | y :: ys, z, h, x, hx => by
  rw [chkE, Bool.and_eq_true, Bool.and_eq_true] at h
  rcases List.mem_cons.1 hx with e | hx
  ·rw [e]; exact h.1.1
  ·exact chkE_all ys (no y) h.2 x hx
def cNd (W1 : World) (r : Nd) (L : Nat → Bool) (fx : Nat → Value) (w' : World) : Prop := Below W1.heap.size W1 w' ∧ (L 10 = true → ∃ q, fx 10 = .pointer (some ⟨q, 0, none⟩) ∧ W1.heap.size ≤ q ∧ q < w'.heap.size ∧ w'.heap[q]? = some (.cells (ndC (bif L 11 then r else zeroN)).toArray 39 (0, 0)))
theorem cNd.below {W1 : World} {r : Nd} {L : Nat → Bool} {fx : Nat → Value} {w' w2 : World} (h : cNd W1 r L fx w') (hb : Below w'.heap.size w' w2) : cNd W1 r L fx w2 := by
 refine ⟨h.1.trans (hb.mono h.1.size), fun h10 => ?_⟩
 obtain ⟨q, e, h1, h2, h3⟩ := h.2 h10
 exact ⟨q, e, h1, Nat.lt_of_lt_of_le h2 hb.size, row_kept h3 hb⟩
theorem size34e {n : Nd} (h : NdOk n) : (Tryz.prog.info? 39).map (·.size) = some (ndC n).toArray.size := by rw [size34 h]; simp
theorem nodes_yes (t : Tr) (p : TrP) (w : World) (h : Hid (TrOk w t p)) (hT : Hid (Tabs w)) (hg : Hid (trG t = true)) :
  Calls Tryz.prog 10 #[trV t p] w fun e w' => ∃ A' n' c', e = .returned (.tuple #[.slice A' n' c', .int .i64 0]) ∧ InN w' A' n' c' (t.ln.map (ndL t.salt)) ∧ Below w.heap.size w w' := by
 have HE : Hid (trE t = 0) := hid (trE_yes hg.out)
 have HN := hid (show t.ln.length = p.n from h.out.ln.len)
 have HNL : Hid (p.n ≤ 100000) := hid (by have := trG_lns hg.out; rw [HN.out] at this; exact this)
 have HSA : Hid (DgOk t.salt) := hid ⟨h.out.len, h.out.bytes⟩
 have HSK := hid (dgC_infoK HSA.out)
 have HVA : Hid (∀ x ∈ t.ln, vLn x = true) := hid (chkE_all _ _ (trG_parts hg.out).2.1)
 have HB0 := hid ((Below.refl _ w).alloc (Nat.le_refl _) (.cells (trC t p).toArray 27))
 have HR0 := hid (heap_alloc_new w (.cells (trC t p).toArray 27))
 have HO1 := hid (h.out.below HB0.out)
 have hT1 := hid (hT.out.below HB0.out)
 have HIT := hid (trV_info t p h.out.len)
 rw [show trV t p = .agg (trC t p).toArray from rfl]
 go_enter Tryz.func10, Tryz.ntmps10
 go_wp2_with (refine wpList_load_row rfl 27 (.tmp 1) rfl w.heap.size rfl 27 _ (0, 0) _ HR0.out Tryz.underlying27 rfl HIT.out ?_)
 rw [show Value.agg (trC t p).toArray = trV t p from rfl]
 refine (check_any t p _ HO1).mono ?_
 rintro e W2 ⟨rfl, hq1⟩
 have HB2 := hid (HB0.out.trans (hq1.mono HB0.out.size))
 have HR2 := hid (row_kept HR0.out hq1)
 have HO2 := hid (HO1.out.below hq1)
 have hT2 := hid (hT1.out.below hq1)
 clear hq1 HR0 HO1 hT1 HB0
 rw [HE.out]
 have HI2 := hid HO2.out.ln
 have kl : W2.cell? ⟨w.heap.size, 4, none⟩ = some (.slice p.A p.n p.c) := by rw [cell_of_row _ _ _ _ _ _ HR2.out]; rfl
 go_wp2_with fail
 go_loopw [17, 2] (fun i dd wr => ∃ (j : Nat) (P : List Nd), j ≤ p.n ∧ i = .int .i64 j ∧ Hid (P = (t.ln.take j).map (ndL t.salt)) ∧ Hid (OwnN wr W2.heap.size dd P) ∧ Hid (Below W2.heap.size W2 wr) ∧ ∃ A3 n3 c3, dd = .slice A3 n3 c3) (fun i _ _ => p.n - (intOf i).toNat)
 case atStart => exact ⟨0, [], by omega, rfl, hid rfl, hid (OwnN.nil _ _), hid (Below.refl _ _), _, _, _, rfl⟩
 case round =>
  clear kl
  obtain ⟨j, P, hj, rfl, HP, HOW, HB, A3, n3, c3, rfl⟩ := hrel
  by_cases hlt : j < p.n
  ·have d1 : decide ((j : Int) < (p.n : Int)) = true := eQ (by omega)
   have d2 : decide (j < p.n) = true := eQ hlt
   have hjl : j < t.ln.length := by rw [HN.out]; exact hlt
   obtain ⟨g, off, eA, hgl, hr⟩ := HI2.out.rd (by omega)
   obtain ⟨x, HX⟩ : ∃ x, Hid (t.ln[j] = x) := ⟨_, hid rfl⟩
   have HVX : Hid (vLn x = true) := hid (by rw [← HX.out]; exact HVA.out _ (List.getElem_mem hjl))
   have HR : Hid (wr.rangeAt g (off + j * 5) (lnC x)) := hid (by
    rw [← HX.out]
    exact rangeAt_below (range_elem lnC_len4 hr j hjl) hgl HB.out)
   have HII := hid (lnC_infoL4 x)
   have HIX := hid (lnC_info4 x)
   have HPL : Hid (P.length ≤ 100000) := hid (by have := HNL.out; rw [HP.out, List.length_map, List.length_take]; omega)
   obtain ⟨s, HS⟩ : ∃ s, Hid (saltN t.salt 1 (nLn x) = s) := ⟨_, hid rfl⟩
   have HSO : Hid (DgOk s) := hid (by rw [← HS.out]; exact saltN_ok _ _ _)
   obtain ⟨r, HD⟩ : ∃ r, Hid (leafR x.c0 x.c1 x.c2 x.c3 x.c4 s = r) := ⟨_, hid rfl⟩
   have HRO : Hid (NdOk r) := hid (by rw [← HD.out]; exact leafR_okL x s)
   have HS34 := hid (size34e HRO.out)
   have HT34 : Hid ((ndC zeroN).toArray.size = (ndC r).toArray.size) := hid (by simp [ndC_length HRO.out, ndC_length zeroN_ok])
   have HPN : Hid (P ++ [r] = (t.ln.take (j + 1)).map (ndL t.salt)) := hid (by rw [List.take_succ_eq_append_getElem hjl, List.map_append, ← HP.out, HX.out, ← HD.out, ← HS.out]; rfl)
   have HBX := hid ((Below.refl _ wr).alloc (Nat.le_refl _) (.cells (lnC x).toArray 45))
   have HRX := hid (heap_alloc_new wr (.cells (lnC x).toArray 45))
   rw [show (lnC x).toArray = #[.int .i64 x.c0, .int .i64 x.c1, .int .i64 x.c2, .int .i64 x.c3, .int .i64 x.c4] from rfl] at HBX HRX
   clear hr
   rw [eA]
   go_wp2_with (with_reducible refine wpList_load_mid rfl 45 (.tmp 19) rfl g (off + j * 5) rfl (lnC x) _ HR.out Tryz.underlying45 rfl HII.out ?_; rw [show Value.agg (lnC x).toArray = .agg #[.int .i64 x.c0, .int .i64 x.c1, .int .i64 x.c2, .int .i64 x.c3, .int .i64 x.c4] from rfl])
   have HB1W := hid (HB.out.trans (HBX.out.mono HB.out.size))
   have HOW1 := hid (HOW.out.below HBX.out)
   have HTB1 := hid (row_kept HR2.out HB1W.out)
   have hT3 := hid (hT2.out.below HB1W.out)
   have HMS := hid HB1W.out.size
   generalize (wr.alloc (.cells #[.int .i64 x.c0, .int .i64 x.c1, .int .i64 x.c2, .int .i64 x.c3, .int .i64 x.c4] 45)) = W1 at *
   refine region_flow4 (by kernel_rfl) (by kernel_rfl) (fun i => Nat.beq i 12) (fun i => bif Nat.beq i 12 then 10 else i) (by kernel_rfl) (fun fx => #[trV t p, .pointer (some { block := w.heap.size, off := 0 }), .slice A3 n3 c3, u3, .int IntKind.i64 0, undef, .pointer (some { block := wr.heap.size, off := 0 }), fx 10, fx 12, trV t p, .int IntKind.i64 0, .int IntKind.i64 0, .bool false, undef, .pointer (some { block := w.heap.size, off := 4 }), .slice (some { block := g, off := off }) p.n p.c, .int IntKind.i64 ↑p.n, .int IntKind.i64 ↑j, .bool true, .pointer (some { block := g, off := off + j * 5 }), .agg #[.int IntKind.i64 x.c0, .int IntKind.i64 x.c1, .int IntKind.i64 x.c2, .int IntKind.i64 x.c3, .int IntKind.i64 x.c4], fx 7, fx 0, fx 1, fx 2, fx 3, fx 4, fx 5, fx 6, fx 8, fx 9, u31, u32, u33, u34, u35, u36, u37, u38, undef]) (fun i => bif Nat.beq i 0 then u22 else bif Nat.beq i 1 then u23 else bif Nat.beq i 2 then u24 else bif Nat.beq i 3 then u25 else bif Nat.beq i 4 then u26 else bif Nat.beq i 5 then u27 else bif Nat.beq i 6 then u28 else bif Nat.beq i 7 then u21 else bif Nat.beq i 8 then u29 else bif Nat.beq i 9 then u30 else bif Nat.beq i 10 then u7 else bif Nat.beq i 12 then u8 else undef) (fun L fx w' => cNd W1 r L fx w') (fun fi fv fu fw => wNd W1 w.heap.size t x s r fi fv fu fw) ⟨(Below.refl _ _).drew, (fun h => by cases h)⟩ ?_ ?_
   ·refine ⟨?_, ?_, ?_, ?_, ?_, ?_, ?_, ?_, ?_, ?_, ?_, ?_, ?_, trivial⟩
    all_goals intro L fx w' hC hi hcl hdn hd
    ·have hrow := row_kept HRX.out hC.1
     refine wpList_load_row rfl 45 (.tmp 6) rfl wr.heap.size rfl 45 _ (0, 0) _ hrow Tryz.underlying45 rfl HIX.out ?_
     clear hd
     go_wp2_with fail
     exact ⟨_, rfl, hC, rfl, kP⟩
    ·have HTK := hid (hT3.out.below hC.1)
     go_wp2_with fail
     refine (lines_any w').mono ?_
     rintro e w2 ⟨rfl, hq⟩
     go_wp2_with fail
     exact ⟨_, rfl, hC.below hq, rfl, fun j v t _ _ h => wNd_below hq j v t h⟩
    ·go_wp2_with fail
     exact ⟨_, rfl, hC, rfl, kP⟩
    ·have h2 : fx 2 = .pointer (some { block := w.heap.size, off := 6 }) := hd.1 rfl
     have hrow := tr_salt (row_kept HTB1.out hC.1)
     refine wpList_load_mid rfl 25 (.tmp 24) rfl w.heap.size 6 h2 (dgC t.salt) _ hrow Tryz.underlying25 rfl HSK.out ?_
     clear hd
     go_wp2_with fail
     exact ⟨_, by simp only [upd, h2]; rfl, hC, rfl, kP⟩
    ·have hrow := row_kept HRX.out hC.1
     refine wpList_load_row rfl 45 (.tmp 6) rfl wr.heap.size rfl 45 _ (0, 0) _ hrow Tryz.underlying45 rfl HIX.out ?_
     clear hd
     go_wp2_with fail
     exact ⟨_, rfl, hC, rfl, kP⟩
    ·have h1 : fx 1 = .agg tabL := hd.1 rfl
     have h3 : fx 3 = dgV t.salt := hd.2.1 rfl
     have h4 : fx 4 = lnV x := hd.2.2.1 rfl
     have HTK := hid (hT3.out.below hC.1)
     go_wp2_with fail
     refine (saltL t.salt x w' HSA HTK).mono ?_
     rintro e w2 ⟨rfl, hq⟩
     rw [HS.out]
     go_wp2_with fail
     exact ⟨_, by simp only [upd, h1, h3, h4]; rfl, hC.below hq, rfl, fun j v t _ _ h => wNd_below hq j v t h⟩
    ·have h0 : fx 0 = lnV x := hd.1 rfl
     have h5 : fx 5 = dgV s := hd.2.1 rfl
     have HTK := hid (hT3.out.below hC.1)
     go_wp2_with fail
     refine (leaf_x x s w' HSO HTK HVX.out).mono ?_
     rintro e w2 ⟨rfl, hq⟩
     rw [HD.out]
     go_wp2_with fail
     exact ⟨_, by simp only [upd, h0, h5]; rfl, hC.below hq, rfl, fun j v t _ _ h => wNd_below hq j v t h⟩
    ·have h6 : fx 6 = .tuple #[ndV r, .int .i64 0] := hd.1 rfl
     go_wp2_with fail
     exact ⟨_, by simp only [upd, h6]; rfl, hC, rfl, kP⟩
    ·have h7 : fx 7 = .tuple #[ndV r, .int .i64 0] := hd.1 rfl
     go_wp2_with fail
     exact ⟨_, by simp only [upd, h7]; rfl, hC, rfl, kP⟩
    ·have h7 : fx 7 = .tuple #[ndV r, .int .i64 0] := hd.1 rfl
     go_wp2_with fail
     exact ⟨_, by simp only [upd, h7]; rfl, hC, rfl, kP⟩
    ·have h11 : L 11 = false := nQ hi (fun h => hcl 11 10 h (by kernel_rfl))
     go_wp2_with fail
     rw [← zeroN_cells]
     have hq : Below w'.heap.size w' (w'.alloc (.cells (ndC zeroN).toArray 39)) := (Below.refl _ _).alloc (Nat.le_refl _) _
     refine ⟨Value.pointer (some ⟨w'.heap.size, 0, none⟩), rfl, ⟨(hC.below hq).1, fun _ => ⟨w'.heap.size, rfl, hC.1.size, by simp, ?_⟩⟩, rfl, fun j v t _ _ h => wNd_below hq j v t h⟩
     show _ = some (Obj.cells (ndC (bif L 11 then r else zeroN)).toArray 39 (0, 0))
     rw [h11]
     exact heap_alloc_new w' _
    ·have H10 := hid (hd.1 rfl)
     have h8 : fx 8 = ndV r := hd.2.1 rfl
     obtain ⟨q, e10, hq1, hq2, hrow0⟩ := hC.2 (hdn 10 (by kernel_rfl))
     have hrow : w'.heap[q]? = some (.cells (ndC zeroN).toArray 39 (0, 0)) := by have := hrow0; rw [hi] at this; exact this
     refine wpList_store_row rfl 39 (.tmp 7) (.tmp 29) rfl q (ndC r).toArray e10 h8 39 _ hrow HS34.out HT34.out (ndC_one _) ?_
     clear hd
     go_wp2_with fail
     refine ⟨undef, by simp only [upd, h8, e10]; rfl, ⟨below_setRow hC.1 hq1 _, fun _ => ⟨q, e10, hq1, by rw [setRow_size]; exact hq2, setRow_heap _ _ _ _ _ _ hrow⟩⟩, rfl, fun j v t hj hu h => ?_⟩
     by_cases e : j = 12
     ·subst e; exact absurd (hcl 12 11 hj (by kernel_rfl)) (by rw [hi]; exact Bool.false_ne_true)
     ·exact wNd_pure j v t e h
    ·have h9 : fx 9 = .int .i64 0 := hd.1 rfl
     obtain ⟨q, e10, hq1, hq2, hrow0⟩ := hC.2 (hdn 10 (by kernel_rfl))
     rw [hdn 11 (by kernel_rfl)] at hrow0
     go_wp2_with fail
     exact ⟨Value.int .i64 0, by simp only [upd, h9, e10]; rfl, hC, ⟨rfl, q, e10, hrow0, hC.1⟩, kP⟩
   ·intro L fo w' hC hS
    have H12 := hid (hS 12 (by decide) rfl)
    obtain ⟨e12, q, e10, hrow, hbw⟩ := H12.out
    have e10' : fo 10 = .pointer (some ⟨q, 0, none⟩) := e10
    rw [e12, e10']
    have HQR := hid hrow
    have HOW2 := hid (HOW1.out.below hbw)
    have HB3 := hid (HB1W.out.trans (hbw.mono HB1W.out.size))
    have hba := (Below.refl _ w').alloc (Nat.le_refl _) (.cells (flatN [r]).toArray 39)
    have HA6 := hid (HOW2.out.below hba)
    have HRF := hid (heap_alloc_new w' (.cells (flatN [r]).toArray 39))
    have HB4 := hid (HB3.out.trans (hba.mono HB3.out.size))
    have HSZ := hid HB4.out.size
    have hnn := HNL.out
    clear hS hC e12 e10 e10' H12 hrow hbw hba
    go_wp2_with (first | (refine wpList_load_row rfl 39 (.tmp 7) rfl q rfl 39 _ (0, 0) _ HQR.out Tryz.underlying39 rfl HS34.out ?_) | (refine wpList_build_nodes1 rfl (.tmp 35) rfl r rfl HRO.out ?_) | (refine wpList_append_node rfl (.tmp 34) (.tmp 36) rfl W2.heap.size _ P r rfl HA6 HRO.out w'.heap.size rfl HRF HPL.out HSZ.out ?_; intro v2 w2 HO2 HG2; obtain ⟨A2, n2, c2, rfl⟩ := HO2.out.form))
    have HB5 := hid (HB4.out.grown HG2.out HSZ.out (fun k hk => (HA6.out.block k hk).1))
    rw [HPN.out] at HO2
    go_roundw
    case rel => exact ⟨j + 1, _, by omega, by go_num, hid rfl, HO2, HB5, _, _, _, rfl⟩
    case measure => simp [intOf]; omega
  ·have d1 : decide ((j : Int) < (p.n : Int)) = false := dQ (by omega)
   have HPF : Hid (P = t.ln.map (ndL t.salt)) := hid (by rw [HP.out, List.take_of_length_le (by rw [HN.out]; omega)])
   have HPO : Hid (∀ y ∈ P, NdOk y) := hid (fun y hy => by
    rw [HPF.out] at hy
    obtain ⟨x, _, rfl⟩ := List.mem_map.1 hy
    exact leafR_okL x _)
   obtain ⟨A4, n4, c4, e4, hin4, ht4⟩ := HOW.out.slice HPO.out
   cases e4
   have HI4 := hid hin4
   have HB4 := hid (HB2.out.trans (HB.out.mono HB2.out.size))
   clear hin4 ht4
   go_wp2_with fail
   go_ret2
   exact ⟨_, _, _, rfl, by rw [← HPF.out]; exact HI4.out, HB4.out⟩
theorem wpList_neq_dg {w : World} {ops : Array Oper} {rest : List Oper} {o : Oper} {a : Act} {Q : Exit → Act → World → Prop} (hg : o.guard = none) (x y : Operand) (t : TypeId)
  (ho : o.op = .binOp .neq 25 x y t) (l m : List Nat) (hx : a.eval x = dgV l) (hy : a.eval y = dgV m) (hl : DgOk l) (hm : DgOk m)
  (h : wpList Tryz.prog ops Q rest (a.put o.dst (.bool (!(l == m)))) w) : wpList Tryz.prog ops Q (o :: rest) a w :=
 wpList_plain hg fun _ hK => by
  unfold Oper.wp execOp
  simp only [ho, hx, hy, Sem.run_bind, guard_dg, neq_dg l m hl.len hm.len hl.bytes hm.bytes, Result.andThen_ok]
  exact hK _ _ h
/-- what verify answers -/
def vfE (v : Bool) (d : Dg) (i m : Int) (ps : List Dg) (r : Dg) : Int := if v && (decide (dclE i m ps.length = 0) && (dclR d i m ps == r)) then 0 else 420
theorem vfE_0 {v : Bool} (d : Dg) (i m : Int) (ps : List Dg) (r : Dg) (h : v = false) : vfE v d i m ps r = 420 := by unfold vfE; rw [h]; rfl
theorem vfE_1 {v : Bool} (d : Dg) (i m : Int) (ps : List Dg) (r : Dg) (h : dclE i m ps.length = 1) : vfE v d i m ps r = 420 := by unfold vfE; rw [h]; cases v <;> rfl
theorem vfE_2 {v : Bool} (d : Dg) (i m : Int) (ps : List Dg) (r : Dg) (h : (dclR d i m ps == r) = false) : vfE v d i m ps r = 420 := by unfold vfE; rw [h]; cases v <;> simp
theorem vfE_3 {v : Bool} (d : Dg) (i m : Int) (ps : List Dg) (r : Dg) (hv : v = true) (he : dclE i m ps.length = 0) (h : (dclR d i m ps == r) = true) : vfE v d i m ps r = 0 := by unfold vfE; rw [h, hv, he]; rfl
theorem verifyL (x : Ln) (s : List Nat) (i m : Int) (ps : List Dg) (A : Option Addr) (n c : Nat) (r : List Nat) (w : World) (hs : Hid (DgOk s)) (hr : Hid (DgOk r)) (hn : n ≤ 100000) (h : Hid (InD w A n c ps)) (hT : Hid (Tabs w)) :
  Calls Tryz.prog 63 #[.agg tabL, lnV x, dgV s, .int .i64 i, .int .i64 m, .slice A n c, dgV r] w fun e w' => e = .returned (.int .i64 (vfE (vLn x) (lfL x s) i m ps r)) ∧ Below w.heap.size w w' := by
 obtain ⟨v, hv⟩ : ∃ b, Hid (vLn x = b) := ⟨_, hid rfl⟩
 obtain ⟨t1, t2, t3, t4, t5⟩ := rows_four w tabL (lnC x).toArray (dgC s).toArray 86 45 25 (.cells (dgC r).toArray 25)
 have HB0 := hid t1
 have HR1 := hid t3
 have HR2 := hid t4
 have HR3 := hid t5
 have HT0 := hid t2
 have hT1 := hid (hT.out.below t1)
 have HIX := hid (lnC_info4 x)
 have HIS := hid (dgC_info hs.out)
 have HIR := hid (dgC_info hr.out)
 have kf : ((((w.alloc (.cells tabL 86)).alloc (.cells (lnC x).toArray 45)).alloc (.cells (dgC s).toArray 25)).alloc (.cells (dgC r).toArray 25)).cell? ⟨w.heap.size, 1, none⟩ = some (.func (.func 96) #[] #[]) := by rw [cell_of_row _ _ _ _ _ _ HT0.out]; rfl
 clear t1 t2 t3 t4 t5
 rw [dgV_agg s, dgV_agg r, show lnV x = .agg (lnC x).toArray from rfl]
 go_enter Tryz.func63, Tryz.ntmps63
 go_wp2_with (refine wpList_load_row rfl 45 (.tmp 8) rfl (w.heap.size + 1) rfl 45 _ (0, 0) _ HR1.out Tryz.underlying45 rfl HIX.out ?_)
 rw [show Value.agg (lnC x).toArray = lnV x from rfl]
 refine (vline_x x _).mono ?_
 rintro e w1 ⟨rfl, hq1⟩
 rw [hv.out]
 clear kf
 have HB1 := hid (HB0.out.trans (hq1.mono HB0.out.size))
 cases v
 ·clear hq1
  go_wp2_with fail
  go_ret
  exact ⟨by rw [vfE_0 _ _ _ _ _ hv.out]; rfl, HB1.out⟩
 have HX1 := hid (row_kept HR1.out hq1)
 have HS1 := hid (row_kept HR2.out hq1)
 have HRR1 := hid (row_kept HR3.out hq1)
 have hT2 := hid (hT1.out.below hq1)
 have kg : w1.cell? ⟨w.heap.size, 3, none⟩ = some (.func (.func 95) #[] #[]) := by rw [cell_of_row _ _ _ _ _ _ (row_kept HT0.out hq1)]; rfl
 clear hq1
 go_wp2_with (first | (refine wpList_load_row rfl 45 (.tmp 8) rfl (w.heap.size + 1) rfl 45 _ (0, 0) _ HX1.out Tryz.underlying45 rfl HIX.out ?_) | (refine wpList_load_row rfl 25 (.tmp 9) rfl (w.heap.size + 1 + 1) rfl 25 _ (0, 0) _ HS1.out Tryz.underlying25 rfl HIS.out ?_))
 rw [show Value.agg (lnC x).toArray = lnV x from rfl, ← dgV_agg s]
 refine (leafL x s _ hs hT2).mono ?_
 rintro e w2 ⟨rfl, hq2⟩
 have HB2 := hid (HB1.out.trans (hq2.mono HB1.out.size))
 have HRR2 := hid (row_kept HRR1.out hq2)
 have hT3 := hid (hT2.out.below hq2)
 have HIP := hid (h.out.below HB2.out)
 have HLO := hid (lfL_ok x s)
 clear hq2 kg
 go_wp2_with fail
 refine (dclimb_any (lfL x s) i m ps A n c _ HLO (by omega) HIP hT3 hn).mono ?_
 rintro e w3 ⟨rfl, hq3⟩
 obtain ⟨de, HDE⟩ : ∃ d, Hid (dclE i m ps.length = d) := ⟨_, hid rfl⟩
 have HD2 : Hid (de = 1 ∨ de = 0) := hid (by
  rw [← HDE.out]
  by_cases he : dArg i m ps.length
  ·exact .inl (dcl_arg (d := lfL x s) he).2
  ·exact .inr (dcl_yes (d := lfL x s) he).2)
 rw [HDE.out]
 obtain ⟨dr, HDR⟩ : ∃ dr, Hid (dclR (lfL x s) i m ps = dr) := ⟨_, hid rfl⟩
 have HDO : Hid (DgOk dr) := hid (by rw [← HDR.out]; exact dclR_ok _ _ _ _)
 have HN1 := hid (dgC_info HDO.out)
 have HN2 := hid (dgC_size HDO.out)
 rw [HDR.out]
 have HB3 := hid (HB2.out.trans (hq3.mono HB2.out.size))
 have HRR3 := hid (row_kept HRR2.out hq3)
 clear hq3
 obtain ⟨W4, HW4, hw4, hb4⟩ := lay_row w3 25 #[.int .u8 0, .int .u8 0, .int .u8 0, .int .u8 0, .int .u8 0, .int .u8 0, .int .u8 0, .int .u8 0, .int .u8 0, .int .u8 0, .int .u8 0, .int .u8 0, .int .u8 0, .int .u8 0, .int .u8 0, .int .u8 0, .int .u8 0, .int .u8 0, .int .u8 0, .int .u8 0, .int .u8 0, .int .u8 0, .int .u8 0, .int .u8 0, .int .u8 0, .int .u8 0, .int .u8 0, .int .u8 0, .int .u8 0, .int .u8 0, .int .u8 0, .int .u8 0] (dgC dr).toArray
 have HRD := hid hw4
 have HRR4 := hid (row_kept HRR3.out hb4)
 have HB4 := hid (HB3.out.trans (hb4.mono HB3.out.size))
 clear hw4 hb4
 rw [dgV_agg dr]
 rcases HD2.out with e1 | e1 <;> subst e1
 ·go_wp2_with (refine wpList_store_row rfl 25 (.tmp 15) (.tmp 32) rfl w3.heap.size (dgC dr).toArray rfl rfl 25 _ (heap_alloc_new w3 _) HN1.out HN2.out (dgC_one _) ?_; rw [HW4.out])
  go_ret
  exact ⟨by rw [vfE_1 _ _ _ _ _ HDE.out]; rfl, HB4.out⟩
 obtain ⟨q, HQ⟩ : ∃ b, Hid ((!(dr == r)) = b) := ⟨_, hid rfl⟩
 have hqq := HQ.out
 cases q
 all_goals
  go_wp2_with (first | (refine wpList_store_row rfl 25 (.tmp 15) (.tmp 32) rfl w3.heap.size (dgC dr).toArray rfl rfl 25 _ (heap_alloc_new w3 _) HN1.out HN2.out (dgC_one _) ?_; rw [HW4.out]) | (refine wpList_unguard rfl ?_; refine wpList_load_row rfl 25 (.tmp 15) rfl w3.heap.size rfl 25 _ (0, 0) _ HRD.out Tryz.underlying25 rfl HN1.out ?_) | (refine wpList_unguard rfl ?_; refine wpList_load_row rfl 25 (.tmp 13) rfl (w.heap.size + 1 + 1 + 1) rfl 25 _ (0, 0) _ HRR4.out Tryz.underlying25 rfl HIR.out ?_) | (refine wpList_unguard rfl ?_; refine wpList_neq_dg rfl (.tmp 37) (.tmp 38) _ rfl dr r rfl rfl HDO.out hr.out ?_; rw [hqq]))
  go_ret
 ·exact ⟨by rw [vfE_3 _ _ _ _ _ hv.out HDE.out (by rw [HDR.out]; simpa using HQ.out)]; rfl, HB4.out⟩
 ·exact ⟨by rw [vfE_2 _ _ _ _ _ (by rw [HDR.out]; simpa using HQ.out)]; rfl, HB4.out⟩
theorem verifyK (x : Cl) (s : List Nat) (i m : Int) (ps : List Dg) (A : Option Addr) (n c : Nat) (r : List Nat) (w : World) (hx : Hid (ClOk x)) (hs : Hid (DgOk s)) (hr : Hid (DgOk r)) (hn : n ≤ 100000) (h : Hid (InD w A n c ps)) (hT : Hid (Tabs w)) :
  Calls Tryz.prog 67 #[.agg tabK, clV x, dgV s, .int .i64 i, .int .i64 m, .slice A n c, dgV r] w fun e w' => e = .returned (.int .i64 (vfE (vCl x) (lfK x s) i m ps r)) ∧ Below w.heap.size w w' := by
 obtain ⟨v, hv⟩ : ∃ b, Hid (vCl x = b) := ⟨_, hid rfl⟩
 obtain ⟨t1, t2, t3, t4, t5⟩ := rows_four w tabK (clC x).toArray (dgC s).toArray 95 56 25 (.cells (dgC r).toArray 25)
 have HB0 := hid t1
 have HR1 := hid t3
 have HR2 := hid t4
 have HR3 := hid t5
 have HT0 := hid t2
 have hT1 := hid (hT.out.below t1)
 have HIX := hid (clC_info4 x)
 have HIS := hid (dgC_info hs.out)
 have HIR := hid (dgC_info hr.out)
 have kf : ((((w.alloc (.cells tabK 95)).alloc (.cells (clC x).toArray 56)).alloc (.cells (dgC s).toArray 25)).alloc (.cells (dgC r).toArray 25)).cell? ⟨w.heap.size, 1, none⟩ = some (.func (.func 107) #[] #[]) := by rw [cell_of_row _ _ _ _ _ _ HT0.out]; rfl
 clear t1 t2 t3 t4 t5
 rw [dgV_agg s, dgV_agg r, show clV x = .agg (clC x).toArray from rfl]
 go_enter Tryz.func67, Tryz.ntmps67
 go_wp2_with (refine wpList_load_row rfl 56 (.tmp 8) rfl (w.heap.size + 1) rfl 56 _ (0, 0) _ HR1.out Tryz.underlying56 rfl HIX.out ?_)
 rw [show Value.agg (clC x).toArray = clV x from rfl]
 refine (vclaim_x x _).mono ?_
 rintro e w1 ⟨rfl, hq1⟩
 rw [hv.out]
 clear kf
 have HB1 := hid (HB0.out.trans (hq1.mono HB0.out.size))
 cases v
 ·clear hq1
  go_wp2_with fail
  go_ret
  exact ⟨by rw [vfE_0 _ _ _ _ _ hv.out]; rfl, HB1.out⟩
 have HX1 := hid (row_kept HR1.out hq1)
 have HS1 := hid (row_kept HR2.out hq1)
 have HRR1 := hid (row_kept HR3.out hq1)
 have hT2 := hid (hT1.out.below hq1)
 have kg : w1.cell? ⟨w.heap.size, 3, none⟩ = some (.func (.func 105) #[] #[]) := by rw [cell_of_row _ _ _ _ _ _ (row_kept HT0.out hq1)]; rfl
 clear hq1
 go_wp2_with (first | (refine wpList_load_row rfl 56 (.tmp 8) rfl (w.heap.size + 1) rfl 56 _ (0, 0) _ HX1.out Tryz.underlying56 rfl HIX.out ?_) | (refine wpList_load_row rfl 25 (.tmp 9) rfl (w.heap.size + 1 + 1) rfl 25 _ (0, 0) _ HS1.out Tryz.underlying25 rfl HIS.out ?_))
 rw [show Value.agg (clC x).toArray = clV x from rfl, ← dgV_agg s]
 refine (leafK x s _ hx hs hT2).mono ?_
 rintro e w2 ⟨rfl, hq2⟩
 have HB2 := hid (HB1.out.trans (hq2.mono HB1.out.size))
 have HRR2 := hid (row_kept HRR1.out hq2)
 have hT3 := hid (hT2.out.below hq2)
 have HIP := hid (h.out.below HB2.out)
 have HLO := hid (lfK_ok x s)
 clear hq2 kg
 go_wp2_with fail
 refine (dclimb_any (lfK x s) i m ps A n c _ HLO (by omega) HIP hT3 hn).mono ?_
 rintro e w3 ⟨rfl, hq3⟩
 obtain ⟨de, HDE⟩ : ∃ d, Hid (dclE i m ps.length = d) := ⟨_, hid rfl⟩
 have HD2 : Hid (de = 1 ∨ de = 0) := hid (by
  rw [← HDE.out]
  by_cases he : dArg i m ps.length
  ·exact .inl (dcl_arg (d := lfK x s) he).2
  ·exact .inr (dcl_yes (d := lfK x s) he).2)
 rw [HDE.out]
 obtain ⟨dr, HDR⟩ : ∃ dr, Hid (dclR (lfK x s) i m ps = dr) := ⟨_, hid rfl⟩
 have HDO : Hid (DgOk dr) := hid (by rw [← HDR.out]; exact dclR_ok _ _ _ _)
 have HN1 := hid (dgC_info HDO.out)
 have HN2 := hid (dgC_size HDO.out)
 rw [HDR.out]
 have HB3 := hid (HB2.out.trans (hq3.mono HB2.out.size))
 have HRR3 := hid (row_kept HRR2.out hq3)
 clear hq3
 obtain ⟨W4, HW4, hw4, hb4⟩ := lay_row w3 25 #[.int .u8 0, .int .u8 0, .int .u8 0, .int .u8 0, .int .u8 0, .int .u8 0, .int .u8 0, .int .u8 0, .int .u8 0, .int .u8 0, .int .u8 0, .int .u8 0, .int .u8 0, .int .u8 0, .int .u8 0, .int .u8 0, .int .u8 0, .int .u8 0, .int .u8 0, .int .u8 0, .int .u8 0, .int .u8 0, .int .u8 0, .int .u8 0, .int .u8 0, .int .u8 0, .int .u8 0, .int .u8 0, .int .u8 0, .int .u8 0, .int .u8 0, .int .u8 0] (dgC dr).toArray
 have HRD := hid hw4
 have HRR4 := hid (row_kept HRR3.out hb4)
 have HB4 := hid (HB3.out.trans (hb4.mono HB3.out.size))
 clear hw4 hb4
 rw [dgV_agg dr]
 rcases HD2.out with e1 | e1 <;> subst e1
 ·go_wp2_with (refine wpList_store_row rfl 25 (.tmp 15) (.tmp 32) rfl w3.heap.size (dgC dr).toArray rfl rfl 25 _ (heap_alloc_new w3 _) HN1.out HN2.out (dgC_one _) ?_; rw [HW4.out])
  go_ret
  exact ⟨by rw [vfE_1 _ _ _ _ _ HDE.out]; rfl, HB4.out⟩
 obtain ⟨q, HQ⟩ : ∃ b, Hid ((!(dr == r)) = b) := ⟨_, hid rfl⟩
 have hqq := HQ.out
 cases q
 all_goals
  go_wp2_with (first | (refine wpList_store_row rfl 25 (.tmp 15) (.tmp 32) rfl w3.heap.size (dgC dr).toArray rfl rfl 25 _ (heap_alloc_new w3 _) HN1.out HN2.out (dgC_one _) ?_; rw [HW4.out]) | (refine wpList_unguard rfl ?_; refine wpList_load_row rfl 25 (.tmp 15) rfl w3.heap.size rfl 25 _ (0, 0) _ HRD.out Tryz.underlying25 rfl HN1.out ?_) | (refine wpList_unguard rfl ?_; refine wpList_load_row rfl 25 (.tmp 13) rfl (w.heap.size + 1 + 1 + 1) rfl 25 _ (0, 0) _ HRR4.out Tryz.underlying25 rfl HIR.out ?_) | (refine wpList_unguard rfl ?_; refine wpList_neq_dg rfl (.tmp 37) (.tmp 38) _ rfl dr r rfl rfl HDO.out hr.out ?_; rw [hqq]))
  go_ret
 ·exact ⟨by rw [vfE_3 _ _ _ _ _ hv.out HDE.out (by rw [HDR.out]; simpa using HQ.out)]; rfl, HB4.out⟩
 ·exact ⟨by rw [vfE_2 _ _ _ _ _ (by rw [HDR.out]; simpa using HQ.out)]; rfl, HB4.out⟩
/-- a root -/
structure Rt where
 cam : Int
 stu : Int
 ver : Int
 kno : Int
 lin : Int
 cla : Int
 tree : Nd
 listed : List Nat
 claimed : List Nat
 prev : List Nat
 sr : Int
 ss : Int
def rtC (r : Rt) : List Value := [.int .i64 r.cam, .int .i64 r.stu, .int .i64 r.ver, .int .i64 r.kno, .int .i64 r.lin, .int .i64 r.cla] ++ (ndC r.tree ++ (dgC r.listed ++ (dgC r.claimed ++ (dgC r.prev ++ [.int .i64 r.sr, .int .i64 r.ss]))))
structure RtOk (r : Rt) : Prop where
 b0 : I64 r.cam
 b1 : I64 r.stu
 b2 : I64 r.ver
 b3 : I64 r.kno
 b4 : I64 r.lin
 b5 : I64 r.cla
 tree : NdOk r.tree
 listed : DgOk r.listed
 claimed : DgOk r.claimed
 prev : DgOk r.prev
 b6 : I64 r.sr
 b7 : I64 r.ss
theorem app_range {w : World} {g ty : Nat} {a b c : List Value} (h : w.heap[g]? = some (.cells (a ++ (b ++ c)).toArray ty (0, 0))) : w.rangeAt g a.length b := fun j v hj => by
 have hj2 : j < b.length := (List.getElem?_eq_some_iff.1 hj).1
 rw [cell_of_row w g (a.length + j) _ _ _ h, List.getElem?_toArray, List.getElem?_append_right (by omega), Nat.add_sub_cancel_left, List.getElem?_append_left hj2]
 exact hj
theorem dgC_len32 {l : List Nat} (h : DgOk l) : (dgC l).length = 32 := by rw [dgC_length]; exact h.len
theorem rt_listed {w : World} {g ty : Nat} {r : Rt} (hr : RtOk r) (h : w.heap[g]? = some (.cells (rtC r).toArray ty (0, 0))) : w.rangeAt g 40 (dgC r.listed) := by
 unfold rtC at h
 rw [← List.append_assoc] at h
 have := app_range h
 rwa [show ([Value.int .i64 r.cam, .int .i64 r.stu, .int .i64 r.ver, .int .i64 r.kno, .int .i64 r.lin, .int .i64 r.cla] ++ ndC r.tree).length = 40 by rw [List.length_append, ndC_length hr.tree]; rfl] at this
theorem rt_claimed {w : World} {g ty : Nat} {r : Rt} (hr : RtOk r) (h : w.heap[g]? = some (.cells (rtC r).toArray ty (0, 0))) : w.rangeAt g 72 (dgC r.claimed) := by
 unfold rtC at h
 rw [← List.append_assoc, ← List.append_assoc] at h
 have := app_range h
 rwa [show ([Value.int .i64 r.cam, .int .i64 r.stu, .int .i64 r.ver, .int .i64 r.kno, .int .i64 r.lin, .int .i64 r.cla] ++ ndC r.tree ++ dgC r.listed).length = 72 by rw [List.length_append, List.length_append, ndC_length hr.tree, dgC_len32 hr.listed]; rfl] at this
theorem rtC_info {r : Rt} (hr : RtOk r) : (Tryz.prog.info? 43).map (·.size) = some (rtC r).toArray.size := by
 have e : (rtC r).toArray.size = 138 := by simp [rtC, ndC_length hr.tree, dgC_len32 hr.listed, dgC_len32 hr.claimed, dgC_len32 hr.prev]
 rw [e]; show _ = some 138; kernel_rfl
/-- what is shown -/
def shCL (i : Int) (x : Ln) (s : List Nat) (A : Option Addr) (n c : Nat) : List Value := [.int .i64 i] ++ (lnC x ++ (dgC s ++ [.slice A n c]))
theorem shCL_x {w : World} {g ty : Nat} {i : Int} {x : Ln} {s : List Nat} {A : Option Addr} {n c : Nat} (h : w.heap[g]? = some (.cells (shCL i x s A n c).toArray ty (0, 0))) : w.rangeAt g 1 (lnC x) := app_range h
theorem shCL_s {w : World} {g ty : Nat} {i : Int} {x : Ln} {s : List Nat} {A : Option Addr} {n c : Nat} (h : w.heap[g]? = some (.cells (shCL i x s A n c).toArray ty (0, 0))) : w.rangeAt g 6 (dgC s) := by
 unfold shCL at h
 rw [← List.append_assoc] at h
 exact app_range h
theorem shCL_p {w : World} {g ty : Nat} {i : Int} {x : Ln} {s : List Nat} {A : Option Addr} {n c : Nat} (hs : DgOk s) (h : w.heap[g]? = some (.cells (shCL i x s A n c).toArray ty (0, 0))) : w.cell? ⟨g, 38, none⟩ = some (.slice A n c) := by
 unfold shCL at h
 rw [← List.append_assoc, ← List.append_assoc, ← List.append_nil [Value.slice A n c]] at h
 have := app_range h 0 (.slice A n c) rfl
 rwa [show ([Value.int .i64 i] ++ lnC x ++ dgC s).length = 38 by rw [List.length_append, dgC_len32 hs]; rfl] at this
theorem shCL_info {i : Int} {x : Ln} {s : List Nat} {A : Option Addr} {n c : Nat} (hs : DgOk s) : (Tryz.prog.info? 48).map (·.size) = some (shCL i x s A n c).toArray.size := by
 have e : (shCL i x s A n c).toArray.size = 39 := by simp [shCL, dgC_len32 hs, lnC]
 rw [e]; show _ = some 39; kernel_rfl
/-- what is shown -/
def shCK (i : Int) (x : Cl) (s : List Nat) (A : Option Addr) (n c : Nat) : List Value := [.int .i64 i] ++ (clC x ++ (dgC s ++ [.slice A n c]))
theorem shCK_x {w : World} {g ty : Nat} {i : Int} {x : Cl} {s : List Nat} {A : Option Addr} {n c : Nat} (h : w.heap[g]? = some (.cells (shCK i x s A n c).toArray ty (0, 0))) : w.rangeAt g 1 (clC x) := app_range h
theorem shCK_s {w : World} {g ty : Nat} {i : Int} {x : Cl} {s : List Nat} {A : Option Addr} {n c : Nat} (h : w.heap[g]? = some (.cells (shCK i x s A n c).toArray ty (0, 0))) : w.rangeAt g 4 (dgC s) := by
 unfold shCK at h
 rw [← List.append_assoc] at h
 exact app_range h
theorem shCK_p {w : World} {g ty : Nat} {i : Int} {x : Cl} {s : List Nat} {A : Option Addr} {n c : Nat} (hs : DgOk s) (h : w.heap[g]? = some (.cells (shCK i x s A n c).toArray ty (0, 0))) : w.cell? ⟨g, 36, none⟩ = some (.slice A n c) := by
 unfold shCK at h
 rw [← List.append_assoc, ← List.append_assoc, ← List.append_nil [Value.slice A n c]] at h
 have := app_range h 0 (.slice A n c) rfl
 rwa [show ([Value.int .i64 i] ++ clC x ++ dgC s).length = 36 by rw [List.length_append, dgC_len32 hs]; rfl] at this
theorem shCK_info {i : Int} {x : Cl} {s : List Nat} {A : Option Addr} {n c : Nat} (hs : DgOk s) : (Tryz.prog.info? 58).map (·.size) = some (shCK i x s A n c).toArray.size := by
 have e : (shCK i x s A n c).toArray.size = 37 := by simp [shCK, dgC_len32 hs, clC]
 rw [e]; show _ = some 37; kernel_rfl
/-- equality -/
def lnEq (a b : Ln) : Bool := a.c0 == b.c0 && (a.c1 == b.c1 && (a.c2 == b.c2 && (a.c3 == b.c3 && (a.c4 == b.c4))))
theorem lnEq_iff (a b : Ln) : lnEq a b = true ↔ a = b := by
 cases a; cases b
 simp [lnEq]
theorem ln_part0 (x : Ln) (w : World) : (part 3 (lnC x).toArray 0).run Tryz.prog w = .ok (.int .i64 x.c0) w := by
 have hu := Tryz.underlying3
 simp [part, isAgg, run_underlying hu, lnC]
theorem ln_part1 (x : Ln) (w : World) : (part 3 (lnC x).toArray 1).run Tryz.prog w = .ok (.int .i64 x.c1) w := by
 have hu := Tryz.underlying3
 simp [part, isAgg, run_underlying hu, lnC]
theorem ln_part2 (x : Ln) (w : World) : (part 3 (lnC x).toArray 2).run Tryz.prog w = .ok (.int .i64 x.c2) w := by
 have hu := Tryz.underlying3
 simp [part, isAgg, run_underlying hu, lnC]
theorem ln_part3 (x : Ln) (w : World) : (part 3 (lnC x).toArray 3).run Tryz.prog w = .ok (.int .i64 x.c3) w := by
 have hu := Tryz.underlying3
 simp [part, isAgg, run_underlying hu, lnC]
theorem ln_part4 (x : Ln) (w : World) : (part 3 (lnC x).toArray 4).run Tryz.prog w = .ok (.int .i64 x.c4) w := by
 have hu := Tryz.underlying3
 simp [part, isAgg, run_underlying hu, lnC]
theorem equal_ln (a b : Ln) (w : World) : (Op.equalIn 10000 45 (lnV a) (lnV b)).run Tryz.prog w = .ok (lnEq a b) w := by
 have hf : (Tryz.prog.fieldsOf 45).toList.map (fun f => (f.name != "_", f.type, f.offset)) = [(true, 3, 0), (true, 3, 1), (true, 3, 2), (true, 3, 3), (true, 3, 4)] := by kernel_rfl
 have hS : Tryz.prog.underlying 45 = some (.struct (Tryz.prog.fieldsOf 45)) := by kernel_rfl
 have hp : Tryz.prog.stoodInHeld 45 = false := by kernel_rfl
 unfold lnV
 rw [show (10000 : Nat) = 9999 + 1 from rfl, run_equalIn_agg w 9999 _ _ _ hS hp]
 generalize (Tryz.prog.fieldsOf 45).toList = fs at hf
 obtain ⟨f0, f1, f2, f3, f4, rfl⟩ : ∃ f0 f1 f2 f3 f4, fs = [f0, f1, f2, f3, f4] := by
  have hl := congrArg List.length hf
  simp only [List.length_map, List.length_cons, List.length_nil] at hl
  rcases fs with _ | ⟨f0, fs⟩
  ·simp at hl
  rcases fs with _ | ⟨f1, fs⟩
  ·simp at hl
  rcases fs with _ | ⟨f2, fs⟩
  ·simp at hl
  rcases fs with _ | ⟨f3, fs⟩
  ·simp at hl
  rcases fs with _ | ⟨f4, fs⟩
  ·simp at hl
  rcases fs with _ | ⟨f5, fs⟩
  ·exact ⟨f0, f1, f2, f3, f4, rfl⟩
  ·simp at hl
 simp only [List.map_cons, List.map_nil, List.cons.injEq, Prod.mk.injEq, and_true, bne_iff_ne, ne_eq] at hf
 obtain ⟨⟨n0, t0, o0⟩, ⟨n1, t1, o1⟩, ⟨n2, t2, o2⟩, ⟨n3, t3, o3⟩, n4, t4, o4⟩ := hf
 have q0 := run_equalIn_int (P := Tryz.prog) w 9998 3 .i64 _ a.c0 b.c0 Tryz.underlying3
 have q1 := run_equalIn_int (P := Tryz.prog) w 9998 3 .i64 _ a.c1 b.c1 Tryz.underlying3
 have q2 := run_equalIn_int (P := Tryz.prog) w 9998 3 .i64 _ a.c2 b.c2 Tryz.underlying3
 have q3 := run_equalIn_int (P := Tryz.prog) w 9998 3 .i64 _ a.c3 b.c3 Tryz.underlying3
 have q4 := run_equalIn_int (P := Tryz.prog) w 9998 3 .i64 _ a.c4 b.c4 Tryz.underlying3
 simp only [Nat.reduceAdd] at q0 q1 q2 q3 q4
 have e4 : (Op.eqFields 9999 (lnC a).toArray (lnC b).toArray [f4]).run Tryz.prog w = .ok (a.c4 == b.c4) w := by
  simp only [Op.eqFields, n4, t4, o4, not_false_eq_true, ne_eq, if_true, Sem.run_bind, ln_part4, Result.andThen_ok, q4]
  cases a.c4 == b.c4 <;> rfl
 have e3 : (Op.eqFields 9999 (lnC a).toArray (lnC b).toArray [f3, f4]).run Tryz.prog w = .ok (a.c3 == b.c3 && (a.c4 == b.c4)) w := by
  rw [Op.eqFields]
  simp only [n3, t3, o3, not_false_eq_true, ne_eq, if_true, Sem.run_bind, ln_part3, Result.andThen_ok, q3]
  cases a.c3 == b.c3
  ·rfl
  ·exact e4
 have e2 : (Op.eqFields 9999 (lnC a).toArray (lnC b).toArray [f2, f3, f4]).run Tryz.prog w = .ok (a.c2 == b.c2 && (a.c3 == b.c3 && (a.c4 == b.c4))) w := by
  rw [Op.eqFields]
  simp only [n2, t2, o2, not_false_eq_true, ne_eq, if_true, Sem.run_bind, ln_part2, Result.andThen_ok, q2]
  cases a.c2 == b.c2
  ·rfl
  ·exact e3
 have e1 : (Op.eqFields 9999 (lnC a).toArray (lnC b).toArray [f1, f2, f3, f4]).run Tryz.prog w = .ok (a.c1 == b.c1 && (a.c2 == b.c2 && (a.c3 == b.c3 && (a.c4 == b.c4)))) w := by
  rw [Op.eqFields]
  simp only [n1, t1, o1, not_false_eq_true, ne_eq, if_true, Sem.run_bind, ln_part1, Result.andThen_ok, q1]
  cases a.c1 == b.c1
  ·rfl
  ·exact e2
 have e0 : (Op.eqFields 9999 (lnC a).toArray (lnC b).toArray [f0, f1, f2, f3, f4]).run Tryz.prog w = .ok (a.c0 == b.c0 && (a.c1 == b.c1 && (a.c2 == b.c2 && (a.c3 == b.c3 && (a.c4 == b.c4))))) w := by
  rw [Op.eqFields]
  simp only [n0, t0, o0, not_false_eq_true, ne_eq, if_true, Sem.run_bind, ln_part0, Result.andThen_ok, q0]
  cases a.c0 == b.c0
  ·rfl
  ·exact e1
 exact e0
theorem eql_ln (a b : Ln) (w : World) : (binOp .eql 45 (lnV a) (lnV b)).run Tryz.prog w = .ok (.bool ((lnEq a b))) w := by
 have := equal_ln a b w
 unfold lnV at this ⊢
 rw [run_eql_struct, this]; rfl
theorem guard_ln (op : BinOp) (x y : Operand) (a b : Ln) (w : World) : (eqGuard op 45 x y (lnV a) (lnV b)).run Tryz.prog w = .ok () w := by
 unfold lnV
 exact run_eqGuard_agg w op _ x y _ _ (by kernel_rfl)
theorem wpList_eql_ln {w : World} {ops : Array Oper} {rest : List Oper} {o : Oper} {a : Act} {Q : Exit → Act → World → Prop} (hg : o.guard = none) (x y : Operand) (t : TypeId)
  (ho : o.op = .binOp .eql 45 x y t) (m n : Ln) (hx : a.eval x = lnV m) (hy : a.eval y = lnV n)
  (h : wpList Tryz.prog ops Q rest (a.put o.dst (.bool ((lnEq m n)))) w) : wpList Tryz.prog ops Q (o :: rest) a w :=
 wpList_plain hg fun _ hK => by
  unfold Oper.wp execOp
  simp only [ho, hx, hy, Sem.run_bind, guard_ln, eql_ln m n, Result.andThen_ok]
  exact hK _ _ h
/-- equality -/
def clEq (a b : Cl) : Bool := a.p == b.p && (a.r == b.r && (a.m == b.m))
theorem cl_part0 (x : Cl) (w : World) : (part 3 (clC x).toArray 0).run Tryz.prog w = .ok (.int .i64 x.p) w := by
 have hu := Tryz.underlying3
 simp [part, isAgg, run_underlying hu, clC]
theorem cl_part1 (x : Cl) (w : World) : (part 3 (clC x).toArray 1).run Tryz.prog w = .ok (.int .i64 x.r) w := by
 have hu := Tryz.underlying3
 simp [part, isAgg, run_underlying hu, clC]
theorem cl_part2 (x : Cl) (w : World) : (part 4 (clC x).toArray 2).run Tryz.prog w = .ok (.bool x.m) w := by
 have hu := Tryz.underlying4
 simp [part, isAgg, run_underlying hu, clC]
theorem equal_cl (a b : Cl) (w : World) : (Op.equalIn 10000 56 (clV a) (clV b)).run Tryz.prog w = .ok (clEq a b) w := by
 have hf : (Tryz.prog.fieldsOf 56).toList.map (fun f => (f.name != "_", f.type, f.offset)) = [(true, 3, 0), (true, 3, 1), (true, 4, 2)] := by kernel_rfl
 have hS : Tryz.prog.underlying 56 = some (.struct (Tryz.prog.fieldsOf 56)) := by kernel_rfl
 have hp : Tryz.prog.stoodInHeld 56 = false := by kernel_rfl
 unfold clV
 rw [show (10000 : Nat) = 9999 + 1 from rfl, run_equalIn_agg w 9999 _ _ _ hS hp]
 generalize (Tryz.prog.fieldsOf 56).toList = fs at hf
 obtain ⟨f0, f1, f2, rfl⟩ : ∃ f0 f1 f2, fs = [f0, f1, f2] := by
  have hl := congrArg List.length hf
  simp only [List.length_map, List.length_cons, List.length_nil] at hl
  rcases fs with _ | ⟨f0, fs⟩
  ·simp at hl
  rcases fs with _ | ⟨f1, fs⟩
  ·simp at hl
  rcases fs with _ | ⟨f2, fs⟩
  ·simp at hl
  rcases fs with _ | ⟨f3, fs⟩
  ·exact ⟨f0, f1, f2, rfl⟩
  ·simp at hl
 simp only [List.map_cons, List.map_nil, List.cons.injEq, Prod.mk.injEq, and_true, bne_iff_ne, ne_eq] at hf
 obtain ⟨⟨n0, t0, o0⟩, ⟨n1, t1, o1⟩, n2, t2, o2⟩ := hf
 have q0 := run_equalIn_int (P := Tryz.prog) w 9998 3 .i64 _ a.p b.p Tryz.underlying3
 have q1 := run_equalIn_int (P := Tryz.prog) w 9998 3 .i64 _ a.r b.r Tryz.underlying3
 have q2 := run_equalIn_bool' (P := Tryz.prog) w 9998 4 a.m b.m Tryz.underlying4
 simp only [Nat.reduceAdd] at q0 q1 q2
 have e2 : (Op.eqFields 9999 (clC a).toArray (clC b).toArray [f2]).run Tryz.prog w = .ok (a.m == b.m) w := by
  simp only [Op.eqFields, n2, t2, o2, not_false_eq_true, ne_eq, if_true, Sem.run_bind, cl_part2, Result.andThen_ok, q2]
  cases a.m == b.m <;> rfl
 have e1 : (Op.eqFields 9999 (clC a).toArray (clC b).toArray [f1, f2]).run Tryz.prog w = .ok (a.r == b.r && (a.m == b.m)) w := by
  rw [Op.eqFields]
  simp only [n1, t1, o1, not_false_eq_true, ne_eq, if_true, Sem.run_bind, cl_part1, Result.andThen_ok, q1]
  cases a.r == b.r
  ·rfl
  ·exact e2
 have e0 : (Op.eqFields 9999 (clC a).toArray (clC b).toArray [f0, f1, f2]).run Tryz.prog w = .ok (a.p == b.p && (a.r == b.r && (a.m == b.m))) w := by
  rw [Op.eqFields]
  simp only [n0, t0, o0, not_false_eq_true, ne_eq, if_true, Sem.run_bind, cl_part0, Result.andThen_ok, q0]
  cases a.p == b.p
  ·rfl
  ·exact e1
 exact e0
theorem eql_cl (a b : Cl) (w : World) : (binOp .eql 56 (clV a) (clV b)).run Tryz.prog w = .ok (.bool ((clEq a b))) w := by
 have := equal_cl a b w
 unfold clV at this ⊢
 rw [run_eql_struct, this]; rfl
theorem guard_cl (op : BinOp) (x y : Operand) (a b : Cl) (w : World) : (eqGuard op 56 x y (clV a) (clV b)).run Tryz.prog w = .ok () w := by
 unfold clV
 exact run_eqGuard_agg w op _ x y _ _ (by kernel_rfl)
theorem wpList_eql_cl {w : World} {ops : Array Oper} {rest : List Oper} {o : Oper} {a : Act} {Q : Exit → Act → World → Prop} (hg : o.guard = none) (x y : Operand) (t : TypeId)
  (ho : o.op = .binOp .eql 56 x y t) (m n : Cl) (hx : a.eval x = clV m) (hy : a.eval y = clV n)
  (h : wpList Tryz.prog ops Q rest (a.put o.dst (.bool ((clEq m n)))) w) : wpList Tryz.prog ops Q (o :: rest) a w :=
 wpList_plain hg fun _ hK => by
  unfold Oper.wp execOp
  simp only [ho, hx, hy, Sem.run_bind, guard_cl, eql_cl m n, Result.andThen_ok]
  exact hK _ _ h
def exS : List Nat := 7 :: List.replicate 31 0
def exT : Tr := ⟨0, 5, 1, 8, [⟨3, 1, 6, 4, 0⟩, ⟨2, 2, 9, 10, 0⟩], [⟨4, 1, true⟩], exS⟩
theorem exS_ok : DgOk exS := ⟨rfl, fun x hx => by
 rcases List.mem_cons.1 hx with e | hx
 ·omega
 ·have := List.eq_of_mem_replicate hx; omega⟩
theorem built_exS : Tryz.prog.built 25 [(0, .int .u8 7)] = some (dgC exS).toArray := by kernel_rfl
theorem built_exT (p : TrP) : Tryz.prog.built 27 [(1, .int .i64 5), (2, .int .i64 1), (3, .int .i64 8), (4, .slice p.A p.n p.c), (5, .slice p.A2 p.n2 p.c2), (6, dgV exS)] = some (trC exT p).toArray := by kernel_rfl
theorem wpList_build_exS {w : World} {ops : Array Oper} {rest : List Oper} {o : Oper} {a : Act} {Q : Exit → Act → World → Prop} (hg : o.guard = none)
  (ho : o.op = .build 25 #[(0, .const (.int .u8 7))])
  (h : wpList Tryz.prog ops Q rest (a.put o.dst (dgV exS)) w) : wpList Tryz.prog ops Q (o :: rest) a w := by
 have e1 : (#[(0, Operand.const (.int .u8 7))].map fun (i, x) => (i, a.eval x)).toList = [(0, .int .u8 7)] := by
  have hc : ∀ v, a.eval (.const v) = v := fun _ => rfl
  simp [hc]
 refine wpList_build hg 25 _ ho (by rw [e1, built_exS]; rfl) ?_
 rw [e1, built_exS]
 exact h
theorem wpList_build_exT {w : World} {ops : Array Oper} {rest : List Oper} {o : Oper} {a : Act} {Q : Exit → Act → World → Prop} (hg : o.guard = none) (u4 u5 u6 : Operand)
  (ho : o.op = .build 27 #[(1, .const (.int .i64 5)), (2, .const (.int .i64 1)), (3, .const (.int .i64 8)), (4, u4), (5, u5), (6, u6)]) (p : TrP)
  (h4 : a.eval u4 = .slice p.A p.n p.c) (h5 : a.eval u5 = .slice p.A2 p.n2 p.c2) (h6 : a.eval u6 = dgV exS)
  (h : wpList Tryz.prog ops Q rest (a.put o.dst (.agg (trC exT p).toArray)) w) : wpList Tryz.prog ops Q (o :: rest) a w := by
 have e1 : (#[(1, Operand.const (.int .i64 5)), (2, Operand.const (.int .i64 1)), (3, Operand.const (.int .i64 8)), (4, u4), (5, u5), (6, u6)].map fun (i, x) => (i, a.eval x)).toList = [(1, .int .i64 5), (2, .int .i64 1), (3, .int .i64 8), (4, .slice p.A p.n p.c), (5, .slice p.A2 p.n2 p.c2), (6, dgV exS)] := by
  have hc : ∀ v, a.eval (.const v) = v := fun _ => rfl
  simp [h4, h5, h6, hc]
 refine wpList_build hg 27 _ ho (by rw [e1, built_exT]; rfl) ?_
 rw [e1, built_exT]
 exact h
theorem trC_one (t : Tr) (p : TrP) : (trC t p).toArray.all (·.oneCell') = true := by
 rw [Array.all_eq_true_iff_forall_mem]
 intro v hv
 have hv' : v ∈ trC t p := by simpa using hv
 unfold trC at hv'
 rcases List.mem_append.1 hv' with h | h
 ·simp only [List.mem_cons, List.not_mem_nil, or_false] at h
  rcases h with rfl | rfl | rfl | rfl | rfl | rfl <;> rfl
 ·obtain ⟨x, _, rfl⟩ := List.mem_map.1 h
  rfl
theorem example_any (w : World) :
  Calls Tryz.prog 39 #[] w fun e w' => ∃ p : TrP, e = .returned (trV exT p) ∧ TrOk w' exT p ∧ Below w.heap.size w w' := by
 obtain ⟨p, HP⟩ : ∃ p : TrP, Hid (p = ⟨some ⟨w.heap.size + 1, 0, none⟩, 2, 2, some ⟨w.heap.size + 1 + 1, 0, none⟩, 1, 1⟩) := ⟨_, hid rfl⟩
 have h1 := heap_alloc_new (w.alloc (.cells #[.int .i64 0, .int .i64 0, .int .i64 0, .int .i64 0, .slice none 0 0, .slice none 0 0, .int .u8 0, .int .u8 0, .int .u8 0, .int .u8 0, .int .u8 0, .int .u8 0, .int .u8 0, .int .u8 0, .int .u8 0, .int .u8 0, .int .u8 0, .int .u8 0, .int .u8 0, .int .u8 0, .int .u8 0, .int .u8 0, .int .u8 0, .int .u8 0, .int .u8 0, .int .u8 0, .int .u8 0, .int .u8 0, .int .u8 0, .int .u8 0, .int .u8 0, .int .u8 0, .int .u8 0, .int .u8 0, .int .u8 0, .int .u8 0, .int .u8 0, .int .u8 0] 27)) (.cells #[.int .i64 3, .int .i64 1, .int .i64 6, .int .i64 4, .int .i64 0, .int .i64 2, .int .i64 2, .int .i64 9, .int .i64 10, .int .i64 0] 45)
 have h2 := heap_alloc_new ((w.alloc (.cells #[.int .i64 0, .int .i64 0, .int .i64 0, .int .i64 0, .slice none 0 0, .slice none 0 0, .int .u8 0, .int .u8 0, .int .u8 0, .int .u8 0, .int .u8 0, .int .u8 0, .int .u8 0, .int .u8 0, .int .u8 0, .int .u8 0, .int .u8 0, .int .u8 0, .int .u8 0, .int .u8 0, .int .u8 0, .int .u8 0, .int .u8 0, .int .u8 0, .int .u8 0, .int .u8 0, .int .u8 0, .int .u8 0, .int .u8 0, .int .u8 0, .int .u8 0, .int .u8 0, .int .u8 0, .int .u8 0, .int .u8 0, .int .u8 0, .int .u8 0, .int .u8 0] 27)).alloc (.cells #[.int .i64 3, .int .i64 1, .int .i64 6, .int .i64 4, .int .i64 0, .int .i64 2, .int .i64 2, .int .i64 9, .int .i64 10, .int .i64 0] 45)) (.cells #[.int .i64 4, .int .i64 1, .bool true] 56)
 have h0 := heap_alloc_new w (.cells #[.int .i64 0, .int .i64 0, .int .i64 0, .int .i64 0, .slice none 0 0, .slice none 0 0, .int .u8 0, .int .u8 0, .int .u8 0, .int .u8 0, .int .u8 0, .int .u8 0, .int .u8 0, .int .u8 0, .int .u8 0, .int .u8 0, .int .u8 0, .int .u8 0, .int .u8 0, .int .u8 0, .int .u8 0, .int .u8 0, .int .u8 0, .int .u8 0, .int .u8 0, .int .u8 0, .int .u8 0, .int .u8 0, .int .u8 0, .int .u8 0, .int .u8 0, .int .u8 0, .int .u8 0, .int .u8 0, .int .u8 0, .int .u8 0, .int .u8 0, .int .u8 0] 27)
 rw [World.size_alloc] at h1
 rw [World.size_alloc, World.size_alloc] at h2
 have b2 := (Below.refl _ ((w.alloc (.cells #[.int .i64 0, .int .i64 0, .int .i64 0, .int .i64 0, .slice none 0 0, .slice none 0 0, .int .u8 0, .int .u8 0, .int .u8 0, .int .u8 0, .int .u8 0, .int .u8 0, .int .u8 0, .int .u8 0, .int .u8 0, .int .u8 0, .int .u8 0, .int .u8 0, .int .u8 0, .int .u8 0, .int .u8 0, .int .u8 0, .int .u8 0, .int .u8 0, .int .u8 0, .int .u8 0, .int .u8 0, .int .u8 0, .int .u8 0, .int .u8 0, .int .u8 0, .int .u8 0, .int .u8 0, .int .u8 0, .int .u8 0, .int .u8 0, .int .u8 0, .int .u8 0] 27)).alloc (.cells #[.int .i64 3, .int .i64 1, .int .i64 6, .int .i64 4, .int .i64 0, .int .i64 2, .int .i64 2, .int .i64 9, .int .i64 10, .int .i64 0] 45))).alloc (Nat.le_refl _) (.cells #[.int .i64 4, .int .i64 1, .bool true] 56)
 have b1 := (Below.refl _ (w.alloc (.cells #[.int .i64 0, .int .i64 0, .int .i64 0, .int .i64 0, .slice none 0 0, .slice none 0 0, .int .u8 0, .int .u8 0, .int .u8 0, .int .u8 0, .int .u8 0, .int .u8 0, .int .u8 0, .int .u8 0, .int .u8 0, .int .u8 0, .int .u8 0, .int .u8 0, .int .u8 0, .int .u8 0, .int .u8 0, .int .u8 0, .int .u8 0, .int .u8 0, .int .u8 0, .int .u8 0, .int .u8 0, .int .u8 0, .int .u8 0, .int .u8 0, .int .u8 0, .int .u8 0, .int .u8 0, .int .u8 0, .int .u8 0, .int .u8 0, .int .u8 0, .int .u8 0] 27))).alloc (Nat.le_refl _) (.cells #[.int .i64 3, .int .i64 1, .int .i64 6, .int .i64 4, .int .i64 0, .int .i64 2, .int .i64 2, .int .i64 9, .int .i64 10, .int .i64 0] 45)
 have b0 := (Below.refl _ w).alloc (Nat.le_refl _) (.cells #[.int .i64 0, .int .i64 0, .int .i64 0, .int .i64 0, .slice none 0 0, .slice none 0 0, .int .u8 0, .int .u8 0, .int .u8 0, .int .u8 0, .int .u8 0, .int .u8 0, .int .u8 0, .int .u8 0, .int .u8 0, .int .u8 0, .int .u8 0, .int .u8 0, .int .u8 0, .int .u8 0, .int .u8 0, .int .u8 0, .int .u8 0, .int .u8 0, .int .u8 0, .int .u8 0, .int .u8 0, .int .u8 0, .int .u8 0, .int .u8 0, .int .u8 0, .int .u8 0, .int .u8 0, .int .u8 0, .int .u8 0, .int .u8 0, .int .u8 0, .int .u8 0] 27)
 have HR0 := hid (row_kept (row_kept h0 b1) b2)
 have HR1 := hid (row_kept h1 b2)
 have HR2 := hid h2
 have HB := hid ((b0.trans (b1.mono b0.size)).trans (b2.mono (Nat.le_trans b0.size b1.size)))
 clear h0 h1 h2 b0 b1 b2
 have HN1 : Hid ((Tryz.prog.info? 27).map (·.size) = some (trC exT p).toArray.size) := hid (trV_info exT p rfl)
 have hN2 : (trC exT p).toArray.size = 38 := by simp [trC, exT, exS]
 have HN2 := hid hN2
 clear hN2
 go_enter Tryz.func39, Tryz.ntmps39
 go_wp2_with (first | (refine wpList_build_exS rfl rfl ?_) | (refine wpList_build_exT rfl (.tmp 3) (.tmp 5) (.tmp 6) rfl p (by rw [HP.out]; rfl) (by rw [HP.out]; rfl) rfl ?_) | (refine wpList_store_row rfl 27 (.tmp 0) (.tmp 7) rfl w.heap.size (trC exT p).toArray rfl rfl 27 _ HR0.out HN1.out HN2.out.symm (trC_one _ _) ?_))
 refine bodyPost_ret (results_cell_row rfl _ _ w.heap.size 27 _ (0, 0) _ rfl (setRow_heap _ w.heap.size _ _ _ _ HR0.out) Tryz.underlying27 rfl HN1.out) rfl ?_
 refine ⟨p, rfl, ?_, below_setRow HB.out (Nat.le_refl _) _⟩
 have hr1 := (setRow_other _ w.heap.size (w.heap.size + 1) (trC exT p).toArray (by omega)).trans HR1.out
 have hr2 := (setRow_other _ w.heap.size (w.heap.size + 1 + 1) (trC exT p).toArray (by omega)).trans HR2.out
 have hm : (2 : Nat) ≤ maxLen := by unfold maxLen; omega
 have g1 := (Array.getElem?_eq_some_iff.1 hr1).1
 have g2 := (Array.getElem?_eq_some_iff.1 hr2).1
 have q1 := range_row (cs := exT.ln.flatMap lnC) hr1
 have q2 := range_row (cs := exT.cl.flatMap clC) hr2
 generalize World.setRow _ _ _ = W4 at *
 have iI : ∀ z : Int, -100 ≤ z → z ≤ 100 → I64 z := fun z h1 h2 => by unfold I64; omega
 obtain rfl := HP.out
 exact ⟨iI _ (by decide) (by decide), iI _ (by decide) (by decide), iI _ (by decide) (by decide), iI _ (by decide) (by decide), ⟨rfl, Nat.le_refl _, (fun e => by cases e), (fun x hx => by
  simp only [exT, List.mem_cons, List.not_mem_nil, or_false] at hx
  rcases hx with rfl | rfl <;> exact ⟨iI _ (by decide) (by decide), iI _ (by decide) (by decide), iI _ (by decide) (by decide), iI _ (by decide) (by decide), iI _ (by decide) (by decide)⟩), fun _ => ⟨_, 0, rfl, g1, q1⟩⟩, ⟨rfl, Nat.le_refl _, (fun e => by cases e), (fun x hx => by
  simp only [exT, List.mem_cons, List.not_mem_nil, or_false] at hx
  subst hx
  exact ⟨iI _ (by decide) (by decide), iI _ (by decide) (by decide)⟩), fun _ => ⟨_, 0, rfl, g2, q2⟩⟩, exS_ok.len, exS_ok.bytes, hm, Nat.le_trans (show (1 : Nat) ≤ 2 by decide) hm⟩
end Go.Proofs.YtmfmgeapecapiaaGreatDoor
