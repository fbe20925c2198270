/- sizar/disclose: leaves (claims). Transcripts: the salt within; how many claims there are. sizar/disclose.Nodes. Unequal digests. sizar/disclose: verify. sizar/disclose: verify. -/
import Derived.Test.YtmfmgeapecapiaaDoorDT9
import Derived.Test.YtmfmgeapecapiaaDoorDT8
import Derived.Test.YtmfmgeapecapiaaDoorDT4
namespace Go.Proofs.YtmfmgeapecapiaaDoor
open Go.RowKit SzSha SzTree
set_option linter.unusedVariables false
set_option maxRecDepth 100000
theorem clC_len4 (x : Cl) : (clC x).length = 3 := rfl
theorem clC_infoL4 (x : Cl) : (Tryd.prog.info? 49).map (·.size) = some (clC x).length := by show _ = some 3; kernel_rfl
theorem clC_info4 (x : Cl) : (Tryd.prog.info? 49).map (·.size) = some (clC x).toArray.size := by show _ = some 3; kernel_rfl
theorem tabK_info4 : (Tryd.prog.info? 113).map (·.size) = some tabK.size := by show _ = some 4; kernel_rfl
/-- the leaf of an element under a transcript's salt -/
def lvK (base : List Nat) (x : Cl) : Dg := lfK x (saltN base 2 (nCl x))
def wLsK (M : Nat) (bt : Nat) (A3 : Option Addr) (n3 : Nat) (c3 : Nat) (base : List Nat) (x : Cl) (s : List Nat) (d : List Nat) (P : List Dg) : Nat → Value → World → Prop
  | 0, fv, _ => fv = Value.slice A3 n3 c3
  | 1, fv, _ => fv = Value.pointer (some { block := bt, off := 3 })
  | 2, fv, _ => fv = Value.func (.func 92) #[] #[]
  | 3, fv, _ => fv = clV x
  | 4, fv, _ => fv = Value.agg tabK
  | 5, fv, _ => fv = dgV base
  | 6, fv, _ => fv = clV x
  | 7, fv, _ => fv = dgV s
  | 8, fv, _ => fv = dgV d
  | 9, fv, fw => ∃ q, fv = .slice (some ⟨q, 0, none⟩) 1 1 ∧ fw.heap[q]? = some (.cells (flatD [d]).toArray 25 (0, 0))
  | 10, fv, fw => OwnD fw M fv (P ++ [d])
  | 11, fv, fw => OwnD fw M fv (P ++ [d])
  | _, _, _ => True
theorem wLsK_below {M : Nat} {bt : Nat} {A3 : Option Addr} {n3 : Nat} {c3 : Nat} {base : List Nat} {x : Cl} {s : List Nat} {d : List Nat} {P : List Dg} {w w' : World} (hb : Below w.heap.size w w') : ∀ j v, wLsK M bt A3 n3 c3 base x s d P j v w → wLsK M bt A3 n3 c3 base x s d P j v w'
  | 0, v, h => h
  | 1, v, h => h
  | 2, v, h => h
  | 3, v, h => h
  | 4, v, h => h
  | 5, v, h => h
  | 6, v, h => h
  | 7, v, h => h
  | 8, v, h => h
  | 9, v, ⟨q, h1, h2⟩ => ⟨q, h1, row_kept h2 hb⟩
  | 10, v, h => h.below hb
  | 11, v, h => h.below hb
  | n + 12, v, h => trivial
theorem wLsK_pure {M : Nat} {bt : Nat} {A3 : Option Addr} {n3 : Nat} {c3 : Nat} {base : List Nat} {x : Cl} {s : List Nat} {d : List Nat} {P : List Dg} {w w' : World} : ∀ j v, j ≠ 9 → j ≠ 10 → j ≠ 11 → wLsK M bt A3 n3 c3 base x s d P j v w → wLsK M bt A3 n3 c3 base x s d P j v w'
  | 0, v, _, _, _, h => h
  | 1, v, _, _, _, h => h
  | 2, v, _, _, _, h => h
  | 3, v, _, _, _, h => h
  | 4, v, _, _, _, h => h
  | 5, v, _, _, _, h => h
  | 6, v, _, _, _, h => h
  | 7, v, _, _, _, h => h
  | 8, v, _, _, _, h => h
  | 9, v, hh, _, _, _ => absurd rfl hh
  | 10, v, _, hh, _, _ => absurd rfl hh
  | 11, v, _, _, hh, _ => absurd rfl hh
  | n + 12, v, _, _, _, h => trivial
set_option maxHeartbeats 8000000 in
theorem leavesK (base : List Nat) (ls : List Cl) (A : Option Addr) (n c : Nat) (w : World) (hn : n ≤ 100000) (hba : Hid (DgOk base)) (h : Hid (InCl w A n c ls)) (hT : Hid (Tabs w)) :
    Calls Tryd.prog 82 #[.agg tabK, dgV base, .slice A n c] w fun e w' => ∃ A' n' c', e = .returned (.slice A' n' c') ∧ InD w' A' n' c' (ls.map (lvK base)) ∧ Below w.heap.size w w' := by
  have HN := Lib.hid (show ls.length = n from h.out.len)
  have hb2 := ((Below.refl _ w).alloc (Nat.le_refl _) (.cells tabK 113)).alloc (by simp) (.cells (dgC base).toArray 25)
  have hr0 := (Below.heap_alloc (w.alloc (.cells tabK 113)) (.cells (dgC base).toArray 25) w.heap.size (by simp)).trans (heap_alloc_new w (.cells tabK 113))
  have hr1 := heap_alloc_new (w.alloc (.cells tabK 113)) (.cells (dgC base).toArray 25)
  rw [World.size_alloc] at hr1
  have HB12 := Lib.hid hb2
  have HTB := Lib.hid hr0
  have HBA := Lib.hid hr1
  have HI2 := Lib.hid (h.out.below hb2)
  have hT2 := Lib.hid (hT.out.below hb2)
  have HIB := Lib.hid (dgC_info hba.out)
  have HIT := Lib.hid tabK_info4
  clear hb2 hr0 hr1 h
  rw [dgV_agg base]
  go_enter Tryd.func82, Tryd.ntmps82
  go_wp2_with fail
  generalize ((w.alloc (.cells tabK 113)).alloc (.cells (dgC base).toArray 25)) = W2 at *
  go_loopw [11, 6] (fun i dd wr => ∃ (j : Nat) (P : List Dg), j ≤ n ∧ i = .int .i64 j ∧ Hid (P = (ls.take j).map (lvK base)) ∧ Hid (OwnD wr W2.heap.size dd P) ∧ Hid (Below W2.heap.size W2 wr) ∧ ∃ A3 n3 c3, dd = .slice A3 n3 c3) (fun i _ _ => n - (intOf i).toNat)
  case atStart => exact ⟨0, [], by omega, rfl, Lib.hid rfl, Lib.hid (OwnD.nil _ _), Lib.hid (Below.refl _ _), _, _, _, rfl⟩
  case round =>
    obtain ⟨j, P, hj, rfl, HP, HOW, HB, A3, n3, c3, rfl⟩ := hrel
    by_cases hlt : j < n
    · have d1 : decide ((j : Int) < (n : Int)) = true := decide_eq_true (by omega)
      have d2 : decide (j < n) = true := decide_eq_true hlt
      have hjl : j < ls.length := by rw [HN.out]; exact hlt
      obtain ⟨g, off, rfl, hg, hr⟩ := HI2.out.rd (by omega)
      obtain ⟨x, HX⟩ : ∃ x, Hid (ls[j] = x) := ⟨_, Lib.hid rfl⟩
      have HXO : Hid (ClOk x) := Lib.hid (by rw [← HX.out]; exact HI2.out.ok _ (List.getElem_mem hjl))
      have HR : Hid (wr.rangeAt g (off + j * 3) (clC x)) := Lib.hid (by
        rw [← HX.out]
        exact rangeAt_below (range_elem clC_len4 hr j hjl) hg HB.out)
      have HII := Lib.hid (clC_infoL4 x)
      have HIX := Lib.hid (clC_info4 x)
      have HPL : Hid (P.length ≤ 100000) := Lib.hid (by rw [HP.out, List.length_map, List.length_take]; omega)
      obtain ⟨s, HS⟩ : ∃ s, Hid (saltN base 2 (nCl x) = s) := ⟨_, Lib.hid rfl⟩
      have HSO : Hid (DgOk s) := Lib.hid (by rw [← HS.out]; exact saltN_ok _ _ _)
      obtain ⟨d, HD⟩ : ∃ d, Hid (lfK x s = d) := ⟨_, Lib.hid rfl⟩
      have HDO : Hid (DgOk d) := Lib.hid (by rw [← HD.out]; exact lfK_ok _ _)
      have HPN : Hid (P ++ [d] = (ls.take (j + 1)).map (lvK base)) := Lib.hid (by rw [List.take_succ_eq_append_getElem hjl, List.map_append, ← HP.out, HX.out, ← HD.out, ← HS.out]; rfl)
      have HBX := Lib.hid ((Below.refl _ wr).alloc (Nat.le_refl _) (.cells (clC x).toArray 49))
      have HRX := Lib.hid (heap_alloc_new wr (.cells (clC x).toArray 49))
      rw [show (clC x).toArray = #[.int .i64 x.p, .int .i64 x.r, .bool x.m] from rfl] at HBX HRX
      clear hr
      go_wp2_with (with_reducible refine wpList_load_mid rfl 49 (.tmp 13) rfl g (off + j * 3) rfl (clC x) _ HR.out Tryd.underlying49 rfl HII.out ?_; rw [show Value.agg (clC x).toArray = .agg #[.int .i64 x.p, .int .i64 x.r, .bool x.m] from rfl])
      have HB1W := Lib.hid (HB.out.trans (HBX.out.mono HB.out.size))
      have HOW1 := Lib.hid (HOW.out.below HBX.out)
      have HTB1 := Lib.hid (row_kept HTB.out HB1W.out)
      have HBA1 := Lib.hid (row_kept HBA.out HB1W.out)
      have hT1 := Lib.hid (hT2.out.below HB1W.out)
      have HMS := Lib.hid HB1W.out.size
      generalize (wr.alloc (.cells #[.int .i64 x.p, .int .i64 x.r, .bool x.m] 49)) = W1 at *
      refine region_flow4 (by kernel_rfl) (by kernel_rfl) (fun i => Nat.beq i 11) (fun i => i) (by kernel_rfl) (fun fx => #[Value.agg tabK, Value.agg (dgC base).toArray, Value.slice (some { block := g, off := off }) n c, Value.pointer (some { block := w.heap.size, off := 0 }), Value.pointer (some { block := w.heap.size + 1, off := 0 }), undef, fx 11, undef, Value.pointer (some { block := wr.heap.size, off := 0 }), Value.slice (some { block := g, off := off }) n c, Value.int IntKind.i64 ↑n, Value.int IntKind.i64 ↑j, Value.bool true, Value.pointer (some { block := g, off := off + j * 3 }), Value.agg #[Value.int IntKind.i64 x.p, Value.int IntKind.i64 x.r, Value.bool x.m], fx 0, fx 1, fx 2, fx 3, fx 4, fx 5, fx 6, fx 7, fx 8, fx 9, fx 10, u26, undef]) (fun i => bif Nat.beq i 0 then u15 else bif Nat.beq i 1 then u16 else bif Nat.beq i 2 then u17 else bif Nat.beq i 3 then u18 else bif Nat.beq i 4 then u19 else bif Nat.beq i 5 then u20 else bif Nat.beq i 6 then u21 else bif Nat.beq i 7 then u22 else bif Nat.beq i 8 then u23 else bif Nat.beq i 9 then u24 else bif Nat.beq i 10 then u25 else bif Nat.beq i 11 then Value.slice A3 n3 c3 else undef) (fun L fx w' => (L 11 = false → fx 11 = Value.slice A3 n3 c3) ∧ Below W2.heap.size W1 w' ∧ (L 10 = false → Below (W1).heap.size W1 w')) (fun fi fv _ fw => wLsK W2.heap.size w.heap.size A3 n3 c3 base x s d P fi fv fw) ⟨fun _ => rfl, (Below.refl _ _).drew, fun _ => (Below.refl _ _).drew⟩ ?_ ?_
      · refine ⟨?_, ?_, ?_, ?_, ?_, ?_, ?_, ?_, ?_, ?_, ?_, ?_, trivial⟩
        all_goals intro L fx w' hC hi hcl hdn hd
        · have hnd : L 10 = false := Bool.eq_false_iff.2 (fun h => by have := (hcl 10 0 h (by kernel_rfl)); rw [hi] at this; cases this)
          have hN : L 11 = false := Bool.eq_false_iff.2 (fun h => by have := hcl 11 0 h (by kernel_rfl); rw [hi] at this; cases this)
          have he := hC.1 hN
          go_wp2_with fail
          exact ⟨_, by simp only [upd, he]; rfl, ⟨fun h => hC.1 h, hC.2.1, fun h => hC.2.2 h⟩, rfl, fun _ _ _ _ _ h => h⟩
        · have hnd : L 10 = false := Bool.eq_false_iff.2 (fun h => by have := (hcl 2 1 (hcl 8 2 (hcl 9 8 (hcl 10 9 h (by kernel_rfl)) (by kernel_rfl)) (by kernel_rfl)) (by kernel_rfl)); rw [hi] at this; cases this)
          go_wp2_with fail
          exact ⟨_, rfl, ⟨fun h => hC.1 h, hC.2.1, fun h => hC.2.2 h⟩, rfl, fun _ _ _ _ _ h => h⟩
        · have h1 : fx 1 = Value.pointer (some { block := w.heap.size, off := 3 }) := hd.1 rfl
          have hnd : L 10 = false := Bool.eq_false_iff.2 (fun h => by have := (hcl 8 2 (hcl 9 8 (hcl 10 9 h (by kernel_rfl)) (by kernel_rfl)) (by kernel_rfl)); rw [hi] at this; cases this)
          have hcc : w'.cell? ⟨w.heap.size, 3, none⟩ = some (Value.func (.func 92) #[] #[]) := by rw [cell_of_row _ _ _ _ _ _ (row_kept HTB1.out (hC.2.2 hnd))]; rfl
          go_wp2_with fail
          exact ⟨_, by simp only [upd, h1]; rfl, ⟨fun h => hC.1 h, hC.2.1, fun h => hC.2.2 h⟩, rfl, fun _ _ _ _ _ h => h⟩
        · have hnd : L 10 = false := Bool.eq_false_iff.2 (fun h => by have := (hcl 8 3 (hcl 9 8 (hcl 10 9 h (by kernel_rfl)) (by kernel_rfl)) (by kernel_rfl)); rw [hi] at this; cases this)
          have hrow := row_kept HRX.out (hC.2.2 hnd)
          refine wpList_load_row rfl 49 (.tmp 8) rfl (wr.heap.size) rfl 49 _ (0, 0) _ hrow Tryd.underlying49 rfl HIX.out ?_
          clear hd
          go_wp2_with fail
          exact ⟨_, rfl, ⟨fun h => hC.1 h, hC.2.1, fun h => hC.2.2 h⟩, rfl, fun _ _ _ _ _ h => h⟩
        · have hnd : L 10 = false := Bool.eq_false_iff.2 (fun h => by have := (hcl 7 4 (hcl 8 7 (hcl 9 8 (hcl 10 9 h (by kernel_rfl)) (by kernel_rfl)) (by kernel_rfl)) (by kernel_rfl)); rw [hi] at this; cases this)
          have hrow := row_kept HTB1.out (hC.2.2 hnd)
          refine wpList_load_row rfl 113 (.tmp 3) rfl (w.heap.size) rfl 113 _ (0, 0) _ hrow Tryd.underlying113 rfl HIT.out ?_
          clear hd
          go_wp2_with fail
          exact ⟨_, rfl, ⟨fun h => hC.1 h, hC.2.1, fun h => hC.2.2 h⟩, rfl, fun _ _ _ _ _ h => h⟩
        · have hnd : L 10 = false := Bool.eq_false_iff.2 (fun h => by have := (hcl 7 5 (hcl 8 7 (hcl 9 8 (hcl 10 9 h (by kernel_rfl)) (by kernel_rfl)) (by kernel_rfl)) (by kernel_rfl)); rw [hi] at this; cases this)
          have hrow := row_kept HBA1.out (hC.2.2 hnd)
          refine wpList_load_row rfl 25 (.tmp 4) rfl (w.heap.size + 1) rfl 25 _ (0, 0) _ hrow Tryd.underlying25 rfl HIB.out ?_
          clear hd
          go_wp2_with fail
          exact ⟨_, rfl, ⟨fun h => hC.1 h, hC.2.1, fun h => hC.2.2 h⟩, rfl, fun _ _ _ _ _ h => h⟩
        · have hnd : L 10 = false := Bool.eq_false_iff.2 (fun h => by have := (hcl 7 6 (hcl 8 7 (hcl 9 8 (hcl 10 9 h (by kernel_rfl)) (by kernel_rfl)) (by kernel_rfl)) (by kernel_rfl)); rw [hi] at this; cases this)
          have hrow := row_kept HRX.out (hC.2.2 hnd)
          refine wpList_load_row rfl 49 (.tmp 8) rfl (wr.heap.size) rfl 49 _ (0, 0) _ hrow Tryd.underlying49 rfl HIX.out ?_
          clear hd
          go_wp2_with fail
          exact ⟨_, rfl, ⟨fun h => hC.1 h, hC.2.1, fun h => hC.2.2 h⟩, rfl, fun _ _ _ _ _ h => h⟩
        · have h4 : fx 4 = Value.agg tabK := hd.1 rfl
          have h5 : fx 5 = dgV base := hd.2.1 rfl
          have h6 : fx 6 = clV x := hd.2.2.1 rfl
          have hnd : L 10 = false := Bool.eq_false_iff.2 (fun h => by have := (hcl 8 7 (hcl 9 8 (hcl 10 9 h (by kernel_rfl)) (by kernel_rfl)) (by kernel_rfl)); rw [hi] at this; cases this)
          have hTk := Lib.hid (hT1.out.below (hC.2.2 hnd))
          go_wp2_with fail
          refine (saltK base x w' hba hTk).mono ?_
          rintro e w2 ⟨rfl, hq⟩
          rw [HS.out]
          go_wp2_with fail
          exact ⟨_, by simp only [upd, h4, h5, h6]; rfl, ⟨fun h => hC.1 h, hC.2.1.trans (hq.mono (Nat.le_trans HMS.out hC.2.1.size)), fun h => (hC.2.2 h).trans (hq.mono (hC.2.2 h).size)⟩, rfl, fun j v t _ _ h => wLsK_below hq j v h⟩
        · have h2 : fx 2 = Value.func (.func 92) #[] #[] := hd.1 rfl
          have h3 : fx 3 = clV x := hd.2.1 rfl
          have h7 : fx 7 = dgV s := hd.2.2.1 rfl
          have hnd : L 10 = false := Bool.eq_false_iff.2 (fun h => by have := (hcl 9 8 (hcl 10 9 h (by kernel_rfl)) (by kernel_rfl)); rw [hi] at this; cases this)
          have hTk := Lib.hid (hT1.out.below (hC.2.2 hnd))
          go_wp2_with fail
          refine (leafK x s w' HXO HSO hTk).mono ?_
          rintro e w2 ⟨rfl, hq⟩
          rw [HD.out]
          go_wp2_with fail
          exact ⟨_, by simp only [upd, h2, h3, h7]; rfl, ⟨fun h => hC.1 h, hC.2.1.trans (hq.mono (Nat.le_trans HMS.out hC.2.1.size)), fun h => (hC.2.2 h).trans (hq.mono (hC.2.2 h).size)⟩, rfl, fun j v t _ _ h => wLsK_below hq j v h⟩
        · have h8 : fx 8 = dgV d := hd.1 rfl
          have hnd : L 10 = false := Bool.eq_false_iff.2 (fun h => by have := (hcl 10 9 h (by kernel_rfl)); rw [hi] at this; cases this)
          refine wpList_build_digs1 rfl (.tmp 23) rfl d h8 HDO.out ?_
          clear hd
          go_wp2_with fail
          have hbb : Below w'.heap.size w' (w'.alloc (.cells (flatD [d]).toArray 25)) := (Below.refl _ _).alloc (Nat.le_refl _) _
          exact ⟨_, by simp only [upd, h8]; rfl, ⟨fun h => hC.1 h, hC.2.1.trans (hbb.mono (Nat.le_trans HMS.out hC.2.1.size)), fun h => (hC.2.2 h).trans (hbb.mono (hC.2.2 h).size)⟩, ⟨_, rfl, heap_alloc_new _ _⟩, fun j v t _ _ h => wLsK_below hbb j v h⟩
        · have h0 : fx 0 = Value.slice A3 n3 c3 := hd.1 rfl
          have H9 := Lib.hid (hd.2.1 rfl)
          obtain ⟨q, hx, hrow⟩ := H9.out
          have HQR := Lib.hid hrow
          have HOV := Lib.hid (HOW1.out.below (hC.2.2 hi))
          have HSZ := Lib.hid (Nat.le_trans HMS.out hC.2.1.size)
          refine wpList_append_dig rfl (.tmp 15) (.tmp 24) rfl W2.heap.size (Value.slice A3 n3 c3) P d h0 HOV HDO.out q hx HQR HPL.out HSZ.out ?_
          intro v2 w2 HO2 HG2
          have HB2 := Lib.hid ((Below.refl W2.heap.size w').grown HG2.out HSZ.out (fun g hg => (HOV.out.block g hg).1))
          clear hd hrow
          go_wp2_with fail
          refine ⟨v2, by first | rfl | (rw [← hx, ← h0]; rfl) | (rw [← hx]; rfl), ⟨fun h => hC.1 h, hC.2.1.trans HB2.out, fun h => (updB_self h).elim⟩, HO2.out, fun j v t hj hu h => ?_⟩
          refine wLsK_pure j v ?_ ?_ ?_ h <;> intro e <;> subst e
          · refine absurd hu (not_needed (E := fun i => Nat.beq i 11) (j := 9) [10] (by kernel_rfl) (by kernel_rfl) ?_)
            intro m hm hne; simp at hm; omega
          · rw [hi] at hj; cases hj
          · have := hcl 11 10 hj (by kernel_rfl); rw [hi] at this; cases this
        · have H10 := Lib.hid (hd.1 rfl)
          go_wp2_with fail
          exact ⟨fx 10, rfl, ⟨fun h => (updB_self h).elim, hC.2.1, fun h => hC.2.2 h⟩, H10.out, fun _ _ _ _ _ h => h⟩
      · intro L fo w' hC hS
        have H11 := Lib.hid (hS 11 (by decide) rfl)
        obtain ⟨A4, n4, c4, e4⟩ := H11.out.form
        rw [e4]
        have HBE := Lib.hid (HB1W.out.trans hC.2.1)
        have HO4 : Hid (OwnD w' W2.heap.size (Value.slice A4 n4 c4) (P ++ [d])) := Lib.hid (by rw [← e4]; exact H11.out)
        clear hS hC H11 e4
        go_wp2_with fail
        go_roundw
        case rel => exact ⟨j + 1, P ++ [d], by omega, by go_num, HPN, HO4, HBE, _, _, _, rfl⟩
        case measure => simp [intOf]; omega
    · have d1 : decide ((j : Int) < (n : Int)) = false := decide_eq_false (by omega)
      have HPF : Hid (P = ls.map (lvK base)) := Lib.hid (by rw [HP.out, List.take_of_length_le (by rw [HN.out]; omega)])
      have HPO : Hid (∀ y ∈ P, DgOk y) := Lib.hid (fun y hy => by
        rw [HPF.out] at hy
        obtain ⟨x, _, rfl⟩ := List.mem_map.1 hy
        exact lfK_ok _ _)
      obtain ⟨A4, n4, c4, e4, hin4, ht4⟩ := HOW.out.slice HPO.out
      cases e4
      have HI4 := Lib.hid hin4
      have HB4 := Lib.hid (HB12.out.trans (HB.out.mono HB12.out.size))
      clear hin4 ht4
      go_wp2_with fail
      go_ret
      exact ⟨_, _, _, rfl, by rw [← HPF.out]; exact HI4.out, HB4.out⟩
end Go.Proofs.YtmfmgeapecapiaaDoor
namespace Go.Proofs.YtmfmgeapecapiaaDoor
open Go.RowKit SzSha SzTree
set_option linter.unusedVariables false
set_option maxRecDepth 100000
theorem tr_salt {w : World} {g ty : Nat} {t : Tr} {p : TrP} (h : w.heap[g]? = some (.cells (trC t p).toArray ty (0, 0))) : w.rangeAt g 6 (dgC t.salt) := fun j v hj => by
  rw [cell_of_row w g (6 + j) _ _ _ h]
  have e : (trC t p).toArray[6 + j]? = (dgC t.salt)[j]? := by
    rw [List.getElem?_toArray, trC, List.getElem?_append_right (by simp)]
    congr 1
    simp
  rw [e]; exact hj
theorem chkE_len {α : Type} {v : α → Bool} {no : α → Int} {B : Int} (hb : ∀ x, v x = true → no x ≤ B) : ∀ (xs : List α) (z : Int), chkE v no z xs = true → xs.length = 0 ∨ z + xs.length ≤ B
  | [], z, _ => .inl rfl
  | x :: xs, z, h => by
    rw [chkE, Bool.and_eq_true, Bool.and_eq_true, decide_eq_true_eq] at h
    have h1 := hb x h.1.1
    have h2 := chkE_len hb xs (no x) h.2
    right
    rw [List.length_cons]
    rcases h2 with h2 | h2 <;> omega
theorem nCl_bd (x : Cl) (h : vCl x = true) : nCl x ≤ 16383 := by
  unfold vCl at h
  have hk := of_decide_eq_true h
  unfold nCl
  rw [noK_val hk]
  unfold kOk at hk
  omega
theorem trG_parts {t : Tr} (h : trG t = true) : t.ln.length ≤ 4096 ∧ chkE vLn nLn (-1) t.ln = true ∧ chkE vCl nCl (-1) t.cl = true := by
  unfold trG at h
  simp only [Bool.and_eq_true, decide_eq_true_eq] at h
  exact ⟨h.2.2.2.2.1, h.2.2.2.2.2.1, h.2.2.2.2.2.2⟩
theorem trG_lns {t : Tr} (h : trG t = true) : t.ln.length ≤ 100000 := by have := (trG_parts h).1; omega
theorem trG_cls {t : Tr} (h : trG t = true) : t.cl.length ≤ 100000 := by
  have := chkE_len nCl_bd _ _ (trG_parts h).2.2
  omega
theorem trE_yes {t : Tr} (h : trG t = true) : trE t = 0 := by unfold trE; rw [if_pos h]
theorem trE_no {t : Tr} (h : trG t = false) : trE t = 420 := by unfold trE; rw [h]; rfl
theorem trV_info (t : Tr) (p : TrP) (h : t.salt.length = 32) : (Tryd.prog.info? 27).map (·.size) = some (trC t p).toArray.size := by
  have e : (trC t p).toArray.size = 38 := by simp [trC, h]
  rw [e]; show _ = some 38; kernel_rfl
theorem dgC_infoK {l : List Nat} (h : DgOk l) : (Tryd.prog.info? 25).map (·.size) = some (dgC l).length := by rw [dgC_info h]; simp
end Go.Proofs.YtmfmgeapecapiaaDoor
namespace Go.Proofs.YtmfmgeapecapiaaDoor
open Go.RowKit SzSha SzTree
set_option linter.unusedVariables false
set_option maxRecDepth 100000
def wNd (W1 : World) (bt : Nat) (t : Tr) (x : Ln) (s : List Nat) (r : Nd) : Nat → Value → Value → World → Prop
  | 0, fv, _, _ => fv = lnV x
  | 1, fv, _, _ => fv = Value.agg tabL
  | 2, fv, _, _ => fv = Value.pointer (some { block := bt, off := 6 })
  | 3, fv, _, _ => fv = dgV t.salt
  | 4, fv, _, _ => fv = lnV x
  | 5, fv, _, _ => fv = dgV s
  | 6, fv, _, _ => fv = Value.tuple #[ndV r, .int .i64 0]
  | 7, fv, _, _ => fv = Value.tuple #[ndV r, .int .i64 0]
  | 8, fv, _, _ => fv = ndV r
  | 9, fv, _, _ => fv = Value.int .i64 0
  | 10, fv, _, _ => fv = fv
  | 11, fv, _, _ => fv = fv
  | 12, fv, fu, fw => fv = Value.int .i64 0 ∧ ∃ q, fu = .pointer (some ⟨q, 0, none⟩) ∧ fw.heap[q]? = some (.cells (ndC r).toArray 31 (0, 0)) ∧ Below W1.heap.size W1 fw
  | _, _, _, _ => True
theorem wNd_below {W1 : World} {bt : Nat} {t : Tr} {x : Ln} {s : List Nat} {r : Nd} {w w' : World} (hb : Below w.heap.size w w') : ∀ j v u, wNd W1 bt t x s r j v u w → wNd W1 bt t x s r j v u w'
  | 0, v, u, h => h
  | 1, v, u, h => h
  | 2, v, u, h => h
  | 3, v, u, h => h
  | 4, v, u, h => h
  | 5, v, u, h => h
  | 6, v, u, h => h
  | 7, v, u, h => h
  | 8, v, u, h => h
  | 9, v, u, h => h
  | 10, v, u, h => h
  | 11, v, u, h => h
  | 12, v, u, ⟨h0, q, h1, h2, h3⟩ => ⟨h0, q, h1, row_kept h2 hb, h3.trans (hb.mono h3.size)⟩
  | n + 13, v, u, h => trivial
theorem wNd_pure {W1 : World} {bt : Nat} {t : Tr} {x : Ln} {s : List Nat} {r : Nd} {w w' : World} : ∀ j v u, j ≠ 12 → wNd W1 bt t x s r j v u w → wNd W1 bt t x s r j v u w'
  | 0, v, u, _, h => h
  | 1, v, u, _, h => h
  | 2, v, u, _, h => h
  | 3, v, u, _, h => h
  | 4, v, u, _, h => h
  | 5, v, u, _, h => h
  | 6, v, u, _, h => h
  | 7, v, u, _, h => h
  | 8, v, u, _, h => h
  | 9, v, u, _, h => h
  | 10, v, u, _, h => h
  | 11, v, u, _, h => h
  | 12, v, u, hh, _ => absurd rfl hh
  | n + 13, v, u, _, h => trivial
/-- the leaf of a line under a transcript's salt -/
def ndL (base : List Nat) (x : Ln) : Nd := leafR x.c0 x.c1 x.c2 x.c3 x.c4 (saltN base 1 (nLn x))
theorem leaf_x (x : Ln) (l : List Nat) (w : World) (hl : Hid (DgOk l)) (hT : Hid (Tabs w)) (hv : vLn x = true) : Calls Tryd.prog 27 #[lnV x, dgV l] w fun e w' => e = .returned (.tuple #[ndV (leafR x.c0 x.c1 x.c2 x.c3 x.c4 l), .int .i64 0]) ∧ Below w.heap.size w w' := by
  have h := leaf_any x.c0 x.c1 x.c2 x.c3 x.c4 l w (Lib.hid hl.out.len) (Lib.hid hl.out.bytes) hT
  rw [show leafE x.c0 x.c1 x.c2 x.c3 x.c4 = 0 from by unfold leafE; exact if_pos (of_decide_eq_true hv)] at h
  exact h
theorem chkE_all {α : Type} {v : α → Bool} {no : α → Int} : ∀ (xs : List α) (z : Int), chkE v no z xs = true → ∀ x ∈ xs, v x = true
  | [], z, _, x, hx => by cases hx
  | y :: ys, z, h, x, hx => by
    rw [chkE, Bool.and_eq_true, Bool.and_eq_true] at h
    rcases List.mem_cons.1 hx with e | hx
    · rw [e]; exact h.1.1
    · exact chkE_all ys (no y) h.2 x hx
def cNd (W1 : World) (r : Nd) (L : Nat → Bool) (fx : Nat → Value) (w' : World) : Prop := Below W1.heap.size W1 w' ∧ (L 10 = true → ∃ q, fx 10 = Value.pointer (some ⟨q, 0, none⟩) ∧ W1.heap.size ≤ q ∧ q < w'.heap.size ∧ w'.heap[q]? = some (.cells (ndC (bif L 11 then r else zeroN)).toArray 31 (0, 0)))
theorem cNd.below {W1 : World} {r : Nd} {L : Nat → Bool} {fx : Nat → Value} {w' w2 : World} (h : cNd W1 r L fx w') (hb : Below w'.heap.size w' w2) : cNd W1 r L fx w2 := by
  refine ⟨h.1.trans (hb.mono h.1.size), fun h10 => ?_⟩
  obtain ⟨q, e, h1, h2, h3⟩ := h.2 h10
  exact ⟨q, e, h1, Nat.lt_of_lt_of_le h2 hb.size, row_kept h3 hb⟩
theorem size34e {n : Nd} (h : NdOk n) : (Tryd.prog.info? 31).map (·.size) = some (ndC n).toArray.size := by rw [size34 h]; simp
set_option maxHeartbeats 8000000 in
theorem nodes_yes (t : Tr) (p : TrP) (w : World) (h : Hid (TrOk w t p)) (hT : Hid (Tabs w)) (hg : Hid (trG t = true)) :
    Calls Tryd.prog 26 #[trV t p] w fun e w' => ∃ A' n' c', e = .returned (.tuple #[.slice A' n' c', .int .i64 0]) ∧ InN w' A' n' c' (t.ln.map (ndL t.salt)) ∧ Below w.heap.size w w' := by
  have HE : Hid (trE t = 0) := Lib.hid (trE_yes hg.out)
  have HN := Lib.hid (show t.ln.length = p.n from h.out.ln.len)
  have HNL : Hid (p.n ≤ 100000) := Lib.hid (by have := trG_lns hg.out; rw [HN.out] at this; exact this)
  have HSA : Hid (DgOk t.salt) := Lib.hid ⟨h.out.len, h.out.bytes⟩
  have HSK := Lib.hid (dgC_infoK HSA.out)
  have HVA : Hid (∀ x ∈ t.ln, vLn x = true) := Lib.hid (chkE_all _ _ (trG_parts hg.out).2.1)
  have HB0 := Lib.hid ((Below.refl _ w).alloc (Nat.le_refl _) (.cells (trC t p).toArray 27))
  have HR0 := Lib.hid (heap_alloc_new w (.cells (trC t p).toArray 27))
  have HO1 := Lib.hid (h.out.below HB0.out)
  have hT1 := Lib.hid (hT.out.below HB0.out)
  have HIT := Lib.hid (trV_info t p h.out.len)
  rw [show trV t p = .agg (trC t p).toArray from rfl]
  go_enter Tryd.func26, Tryd.ntmps26
  go_wp2_with (refine wpList_load_row rfl 27 (.tmp 1) rfl w.heap.size rfl 27 _ (0, 0) _ HR0.out Tryd.underlying27 rfl HIT.out ?_)
  rw [show Value.agg (trC t p).toArray = trV t p from rfl]
  refine (check_any t p _ HO1).mono ?_
  rintro e W2 ⟨rfl, hq1⟩
  have HB2 := Lib.hid (HB0.out.trans (hq1.mono HB0.out.size))
  have HR2 := Lib.hid (row_kept HR0.out hq1)
  have HO2 := Lib.hid (HO1.out.below hq1)
  have hT2 := Lib.hid (hT1.out.below hq1)
  clear hq1 HR0 HO1 hT1 HB0
  rw [HE.out]
  have HI2 := Lib.hid HO2.out.ln
  have kl : W2.cell? ⟨w.heap.size, 4, none⟩ = some (.slice p.A p.n p.c) := by rw [cell_of_row _ _ _ _ _ _ HR2.out]; rfl
  go_wp2_with fail
  go_loopw [17, 2] (fun i dd wr => ∃ (j : Nat) (P : List Nd), j ≤ p.n ∧ i = .int .i64 j ∧ Hid (P = (t.ln.take j).map (ndL t.salt)) ∧ Hid (OwnN wr W2.heap.size dd P) ∧ Hid (Below W2.heap.size W2 wr) ∧ ∃ A3 n3 c3, dd = .slice A3 n3 c3) (fun i _ _ => p.n - (intOf i).toNat)
  case atStart => exact ⟨0, [], by omega, rfl, Lib.hid rfl, Lib.hid (OwnN.nil _ _), Lib.hid (Below.refl _ _), _, _, _, rfl⟩
  case round =>
    clear kl
    obtain ⟨j, P, hj, rfl, HP, HOW, HB, A3, n3, c3, rfl⟩ := hrel
    by_cases hlt : j < p.n
    · have d1 : decide ((j : Int) < (p.n : Int)) = true := decide_eq_true (by omega)
      have d2 : decide (j < p.n) = true := decide_eq_true hlt
      have hjl : j < t.ln.length := by rw [HN.out]; exact hlt
      obtain ⟨g, off, eA, hgl, hr⟩ := HI2.out.rd (by omega)
      obtain ⟨x, HX⟩ : ∃ x, Hid (t.ln[j] = x) := ⟨_, Lib.hid rfl⟩
      have HVX : Hid (vLn x = true) := Lib.hid (by rw [← HX.out]; exact HVA.out _ (List.getElem_mem hjl))
      have HR : Hid (wr.rangeAt g (off + j * 5) (lnC x)) := Lib.hid (by
        rw [← HX.out]
        exact rangeAt_below (range_elem lnC_len4 hr j hjl) hgl HB.out)
      have HII := Lib.hid (lnC_infoL4 x)
      have HIX := Lib.hid (lnC_info4 x)
      have HPL : Hid (P.length ≤ 100000) := Lib.hid (by have := HNL.out; rw [HP.out, List.length_map, List.length_take]; omega)
      obtain ⟨s, HS⟩ : ∃ s, Hid (saltN t.salt 1 (nLn x) = s) := ⟨_, Lib.hid rfl⟩
      have HSO : Hid (DgOk s) := Lib.hid (by rw [← HS.out]; exact saltN_ok _ _ _)
      obtain ⟨r, HD⟩ : ∃ r, Hid (leafR x.c0 x.c1 x.c2 x.c3 x.c4 s = r) := ⟨_, Lib.hid rfl⟩
      have HRO : Hid (NdOk r) := Lib.hid (by rw [← HD.out]; exact leafR_okL x s)
      have HS34 := Lib.hid (size34e HRO.out)
      have HT34 : Hid ((ndC zeroN).toArray.size = (ndC r).toArray.size) := Lib.hid (by simp [ndC_length HRO.out, ndC_length zeroN_ok])
      have HPN : Hid (P ++ [r] = (t.ln.take (j + 1)).map (ndL t.salt)) := Lib.hid (by rw [List.take_succ_eq_append_getElem hjl, List.map_append, ← HP.out, HX.out, ← HD.out, ← HS.out]; rfl)
      have HBX := Lib.hid ((Below.refl _ wr).alloc (Nat.le_refl _) (.cells (lnC x).toArray 41))
      have HRX := Lib.hid (heap_alloc_new wr (.cells (lnC x).toArray 41))
      rw [show (lnC x).toArray = #[.int .i64 x.c0, .int .i64 x.c1, .int .i64 x.c2, .int .i64 x.c3, .int .i64 x.c4] from rfl] at HBX HRX
      clear hr
      rw [eA]
      go_wp2_with (with_reducible refine wpList_load_mid rfl 41 (.tmp 19) rfl g (off + j * 5) rfl (lnC x) _ HR.out Tryd.underlying41 rfl HII.out ?_; rw [show Value.agg (lnC x).toArray = .agg #[.int .i64 x.c0, .int .i64 x.c1, .int .i64 x.c2, .int .i64 x.c3, .int .i64 x.c4] from rfl])
      have HB1W := Lib.hid (HB.out.trans (HBX.out.mono HB.out.size))
      have HOW1 := Lib.hid (HOW.out.below HBX.out)
      have HTB1 := Lib.hid (row_kept HR2.out HB1W.out)
      have hT3 := Lib.hid (hT2.out.below HB1W.out)
      have HMS := Lib.hid HB1W.out.size
      generalize (wr.alloc (.cells #[.int .i64 x.c0, .int .i64 x.c1, .int .i64 x.c2, .int .i64 x.c3, .int .i64 x.c4] 41)) = W1 at *
      refine region_flow4 (by kernel_rfl) (by kernel_rfl) (fun i => Nat.beq i 12) (fun i => bif Nat.beq i 12 then 10 else i) (by kernel_rfl) (fun fx => #[trV t p, Value.pointer (some { block := w.heap.size, off := 0 }), Value.slice A3 n3 c3, u3, Value.int IntKind.i64 0, undef, Value.pointer (some { block := wr.heap.size, off := 0 }), fx 10, fx 12, trV t p, Value.int IntKind.i64 0, Value.int IntKind.i64 0, Value.bool false, undef, Value.pointer (some { block := w.heap.size, off := 4 }), Value.slice (some { block := g, off := off }) p.n p.c, Value.int IntKind.i64 ↑p.n, Value.int IntKind.i64 ↑j, Value.bool true, Value.pointer (some { block := g, off := off + j * 5 }), Value.agg #[Value.int IntKind.i64 x.c0, Value.int IntKind.i64 x.c1, Value.int IntKind.i64 x.c2, Value.int IntKind.i64 x.c3, Value.int IntKind.i64 x.c4], fx 7, fx 0, fx 1, fx 2, fx 3, fx 4, fx 5, fx 6, fx 8, fx 9, u31, u32, u33, u34, u35, u36, u37, u38, undef]) (fun i => bif Nat.beq i 0 then u22 else bif Nat.beq i 1 then u23 else bif Nat.beq i 2 then u24 else bif Nat.beq i 3 then u25 else bif Nat.beq i 4 then u26 else bif Nat.beq i 5 then u27 else bif Nat.beq i 6 then u28 else bif Nat.beq i 7 then u21 else bif Nat.beq i 8 then u29 else bif Nat.beq i 9 then u30 else bif Nat.beq i 10 then u7 else bif Nat.beq i 12 then u8 else undef) (fun L fx w' => cNd W1 r L fx w') (fun fi fv fu fw => wNd W1 w.heap.size t x s r fi fv fu fw) ⟨(Below.refl _ _).drew, (fun h => by cases h)⟩ ?_ ?_
      · refine ⟨?_, ?_, ?_, ?_, ?_, ?_, ?_, ?_, ?_, ?_, ?_, ?_, ?_, trivial⟩
        all_goals intro L fx w' hC hi hcl hdn hd
        · have hrow := row_kept HRX.out hC.1
          refine wpList_load_row rfl 41 (.tmp 6) rfl wr.heap.size rfl 41 _ (0, 0) _ hrow Tryd.underlying41 rfl HIX.out ?_
          clear hd
          go_wp2_with fail
          exact ⟨_, rfl, hC, rfl, fun _ _ _ _ _ h => h⟩
        · have HTK := Lib.hid (hT3.out.below hC.1)
          go_wp2_with fail
          refine (lines_any w').mono ?_
          rintro e w2 ⟨rfl, hq⟩
          go_wp2_with fail
          exact ⟨_, rfl, hC.below hq, rfl, fun j v t _ _ h => wNd_below hq j v t h⟩
        · go_wp2_with fail
          exact ⟨_, rfl, hC, rfl, fun _ _ _ _ _ h => h⟩
        · have h2 : fx 2 = Value.pointer (some { block := w.heap.size, off := 6 }) := hd.1 rfl
          have hrow := tr_salt (row_kept HTB1.out hC.1)
          refine wpList_load_mid rfl 25 (.tmp 24) rfl w.heap.size 6 h2 (dgC t.salt) _ hrow Tryd.underlying25 rfl HSK.out ?_
          clear hd
          go_wp2_with fail
          exact ⟨_, by simp only [upd, h2]; rfl, hC, rfl, fun _ _ _ _ _ h => h⟩
        · have hrow := row_kept HRX.out hC.1
          refine wpList_load_row rfl 41 (.tmp 6) rfl wr.heap.size rfl 41 _ (0, 0) _ hrow Tryd.underlying41 rfl HIX.out ?_
          clear hd
          go_wp2_with fail
          exact ⟨_, rfl, hC, rfl, fun _ _ _ _ _ h => h⟩
        · have h1 : fx 1 = Value.agg tabL := hd.1 rfl
          have h3 : fx 3 = dgV t.salt := hd.2.1 rfl
          have h4 : fx 4 = lnV x := hd.2.2.1 rfl
          have HTK := Lib.hid (hT3.out.below hC.1)
          go_wp2_with fail
          refine (saltL t.salt x w' HSA HTK).mono ?_
          rintro e w2 ⟨rfl, hq⟩
          rw [HS.out]
          go_wp2_with fail
          exact ⟨_, by simp only [upd, h1, h3, h4]; rfl, hC.below hq, rfl, fun j v t _ _ h => wNd_below hq j v t h⟩
        · have h0 : fx 0 = lnV x := hd.1 rfl
          have h5 : fx 5 = dgV s := hd.2.1 rfl
          have HTK := Lib.hid (hT3.out.below hC.1)
          go_wp2_with fail
          refine (leaf_x x s w' HSO HTK HVX.out).mono ?_
          rintro e w2 ⟨rfl, hq⟩
          rw [HD.out]
          go_wp2_with fail
          exact ⟨_, by simp only [upd, h0, h5]; rfl, hC.below hq, rfl, fun j v t _ _ h => wNd_below hq j v t h⟩
        · have h6 : fx 6 = Value.tuple #[ndV r, .int .i64 0] := hd.1 rfl
          go_wp2_with fail
          exact ⟨_, by simp only [upd, h6]; rfl, hC, rfl, fun _ _ _ _ _ h => h⟩
        · have h7 : fx 7 = Value.tuple #[ndV r, .int .i64 0] := hd.1 rfl
          go_wp2_with fail
          exact ⟨_, by simp only [upd, h7]; rfl, hC, rfl, fun _ _ _ _ _ h => h⟩
        · have h7 : fx 7 = Value.tuple #[ndV r, .int .i64 0] := hd.1 rfl
          go_wp2_with fail
          exact ⟨_, by simp only [upd, h7]; rfl, hC, rfl, fun _ _ _ _ _ h => h⟩
        · have h11 : L 11 = false := Bool.eq_false_iff.2 (fun h => by have := hcl 11 10 h (by kernel_rfl); rw [hi] at this; cases this)
          go_wp2_with fail
          rw [← zeroN_cells]
          have hq : Below w'.heap.size w' (w'.alloc (.cells (ndC zeroN).toArray 31)) := (Below.refl _ _).alloc (Nat.le_refl _) _
          refine ⟨Value.pointer (some ⟨w'.heap.size, 0, none⟩), rfl, ⟨(hC.below hq).1, fun _ => ⟨w'.heap.size, rfl, hC.1.size, by simp, ?_⟩⟩, rfl, fun j v t _ _ h => wNd_below hq j v t h⟩
          show _ = some (Obj.cells (ndC (bif L 11 then r else zeroN)).toArray 31 (0, 0))
          rw [h11]
          exact heap_alloc_new w' _
        · have H10 := Lib.hid (hd.1 rfl)
          have h8 : fx 8 = ndV r := hd.2.1 rfl
          obtain ⟨q, e10, hq1, hq2, hrow0⟩ := hC.2 (hdn 10 (by kernel_rfl))
          have hrow : w'.heap[q]? = some (.cells (ndC zeroN).toArray 31 (0, 0)) := by have := hrow0; rw [hi] at this; exact this
          refine wpList_store_row rfl 31 (.tmp 7) (.tmp 29) rfl q (ndC r).toArray e10 h8 31 _ hrow HS34.out HT34.out (ndC_one _) ?_
          clear hd
          go_wp2_with fail
          refine ⟨undef, by simp only [upd, h8, e10]; rfl, ⟨below_setRow hC.1 hq1 _, fun _ => ⟨q, e10, hq1, by rw [setRow_size]; exact hq2, setRow_heap _ _ _ _ _ _ hrow⟩⟩, rfl, fun j v t hj hu h => ?_⟩
          by_cases e : j = 12
          · subst e; exact absurd (hcl 12 11 hj (by kernel_rfl)) (by rw [hi]; exact Bool.false_ne_true)
          · exact wNd_pure j v t e h
        · have h9 : fx 9 = Value.int .i64 0 := hd.1 rfl
          obtain ⟨q, e10, hq1, hq2, hrow0⟩ := hC.2 (hdn 10 (by kernel_rfl))
          rw [hdn 11 (by kernel_rfl)] at hrow0
          go_wp2_with fail
          exact ⟨Value.int .i64 0, by simp only [upd, h9, e10]; rfl, hC, ⟨rfl, q, e10, hrow0, hC.1⟩, fun _ _ _ _ _ h => h⟩
      · intro L fo w' hC hS
        have H12 := Lib.hid (hS 12 (by decide) rfl)
        obtain ⟨e12, q, e10, hrow, hbw⟩ := H12.out
        have e10' : fo 10 = Value.pointer (some ⟨q, 0, none⟩) := e10
        rw [e12, e10']
        have HQR := Lib.hid hrow
        have HOW2 := Lib.hid (HOW1.out.below hbw)
        have HB3 := Lib.hid (HB1W.out.trans (hbw.mono HB1W.out.size))
        have hba := (Below.refl _ w').alloc (Nat.le_refl _) (.cells (flatN [r]).toArray 31)
        have HA6 := Lib.hid (HOW2.out.below hba)
        have HRF := Lib.hid (heap_alloc_new w' (.cells (flatN [r]).toArray 31))
        have HB4 := Lib.hid (HB3.out.trans (hba.mono HB3.out.size))
        have HSZ := Lib.hid HB4.out.size
        have hnn := HNL.out
        clear hS hC e12 e10 e10' H12 hrow hbw hba
        go_wp2_with (first | (refine wpList_load_row rfl 31 (.tmp 7) rfl q rfl 31 _ (0, 0) _ HQR.out Tryd.underlying31 rfl HS34.out ?_) | (refine wpList_build_nodes1 rfl (.tmp 35) rfl r rfl HRO.out ?_) | (refine wpList_append_node rfl (.tmp 34) (.tmp 36) rfl W2.heap.size _ P r rfl HA6 HRO.out w'.heap.size rfl HRF HPL.out HSZ.out ?_; intro v2 w2 HO2 HG2; obtain ⟨A2, n2, c2, rfl⟩ := HO2.out.form))
        have HB5 := Lib.hid (HB4.out.grown HG2.out HSZ.out (fun k hk => (HA6.out.block k hk).1))
        rw [HPN.out] at HO2
        go_roundw
        case rel => exact ⟨j + 1, _, by omega, by go_num, Lib.hid rfl, HO2, HB5, _, _, _, rfl⟩
        case measure => simp [intOf]; omega
    · have d1 : decide ((j : Int) < (p.n : Int)) = false := decide_eq_false (by omega)
      have HPF : Hid (P = t.ln.map (ndL t.salt)) := Lib.hid (by rw [HP.out, List.take_of_length_le (by rw [HN.out]; omega)])
      have HPO : Hid (∀ y ∈ P, NdOk y) := Lib.hid (fun y hy => by
        rw [HPF.out] at hy
        obtain ⟨x, _, rfl⟩ := List.mem_map.1 hy
        exact leafR_okL x _)
      obtain ⟨A4, n4, c4, e4, hin4, ht4⟩ := HOW.out.slice HPO.out
      cases e4
      have HI4 := Lib.hid hin4
      have HB4 := Lib.hid (HB2.out.trans (HB.out.mono HB2.out.size))
      clear hin4 ht4
      go_wp2_with fail
      go_ret2
      exact ⟨_, _, _, rfl, by rw [← HPF.out]; exact HI4.out, HB4.out⟩
end Go.Proofs.YtmfmgeapecapiaaDoor
namespace Go.Proofs.YtmfmgeapecapiaaDoor
open Go.RowKit SzSha SzTree
set_option linter.unusedVariables false
set_option maxRecDepth 100000
theorem wpList_neq_dg {w : World} {ops : Array Oper} {rest : List Oper} {o : Oper} {a : Act} {Q : Exit → Act → World → Prop} (hg : o.guard = none) (x y : Operand) (t : TypeId)
    (ho : o.op = .binOp .neq 25 x y t) (l m : List Nat) (hx : a.eval x = dgV l) (hy : a.eval y = dgV m) (hl : DgOk l) (hm : DgOk m)
    (h : wpList Tryd.prog ops Q rest (a.put o.dst (.bool (!(l == m)))) w) : wpList Tryd.prog ops Q (o :: rest) a w :=
  wpList_plain hg fun _ hK => by
    unfold Oper.wp execOp
    simp only [ho, hx, hy, Sem.run_bind, guard_dg, neq_dg l m hl.len hm.len hl.bytes hm.bytes, Result.andThen_ok]
    exact hK _ _ h
/-- what verify answers -/
def vfE (v : Bool) (d : Dg) (i m : Int) (ps : List Dg) (r : Dg) : Int := if v && (decide (dclE i m ps.length = 0) && (dclR d i m ps == r)) then 0 else 420
theorem vfE_0 {v : Bool} (d : Dg) (i m : Int) (ps : List Dg) (r : Dg) (h : v = false) : vfE v d i m ps r = 420 := by unfold vfE; rw [h]; rfl
theorem vfE_1 {v : Bool} (d : Dg) (i m : Int) (ps : List Dg) (r : Dg) (h : dclE i m ps.length = 1) : vfE v d i m ps r = 420 := by unfold vfE; rw [h]; cases v <;> rfl
theorem vfE_2 {v : Bool} (d : Dg) (i m : Int) (ps : List Dg) (r : Dg) (h : (dclR d i m ps == r) = false) : vfE v d i m ps r = 420 := by unfold vfE; rw [h]; cases v <;> simp
theorem vfE_3 {v : Bool} (d : Dg) (i m : Int) (ps : List Dg) (r : Dg) (hv : v = true) (he : dclE i m ps.length = 0) (h : (dclR d i m ps == r) = true) : vfE v d i m ps r = 0 := by unfold vfE; rw [h, hv, he]; rfl
end Go.Proofs.YtmfmgeapecapiaaDoor
namespace Go.Proofs.YtmfmgeapecapiaaDoor
open Go.RowKit SzSha SzTree
set_option linter.unusedVariables false
set_option maxRecDepth 100000
set_option maxHeartbeats 4000000 in
theorem verifyL_0 (x : Ln) (s : List Nat) (i m : Int) (ps : List Dg) (A : Option Addr) (n c : Nat) (r : List Nat) (w : World) (hs : Hid (DgOk s)) (hr : Hid (DgOk r)) (hn : n ≤ 100000) (h : Hid (InD w A n c ps)) (hT : Hid (Tabs w)) (hv : Hid (vLn x = false)) :
    Calls Tryd.prog 52 #[.agg tabL, lnV x, dgV s, .int .i64 i, .int .i64 m, .slice A n c, dgV r] w fun e w' => e = .returned (.int .i64 (vfE (vLn x) (lfL x s) i m ps r)) ∧ Below w.heap.size w w' := by
  have HRS : Hid (vfE (vLn x) (lfL x s) i m ps r = 420) := Lib.hid (vfE_0 _ _ _ _ _ hv.out)
  obtain ⟨t1, t2, t3, t4, t5⟩ := rows_four w tabL (lnC x).toArray (dgC s).toArray 106 41 25 (.cells (dgC r).toArray 25)
  have HB0 := Lib.hid t1
  have HR1 := Lib.hid t3
  have HR2 := Lib.hid t4
  have HR3 := Lib.hid t5
  have HT0 := Lib.hid t2
  have hT1 := Lib.hid (hT.out.below t1)
  have HIX := Lib.hid (lnC_info4 x)
  have HIS := Lib.hid (dgC_info hs.out)
  have HIR := Lib.hid (dgC_info hr.out)
  have kf : ((((w.alloc (.cells tabL 106)).alloc (.cells (lnC x).toArray 41)).alloc (.cells (dgC s).toArray 25)).alloc (.cells (dgC r).toArray 25)).cell? ⟨w.heap.size, 1, none⟩ = some (.func (.func 88) #[] #[]) := by rw [cell_of_row _ _ _ _ _ _ HT0.out]; rfl
  clear t1 t2 t3 t4 t5
  rw [dgV_agg s, dgV_agg r, show lnV x = .agg (lnC x).toArray from rfl]
  go_enter Tryd.func52, Tryd.ntmps52
  go_wp2_with (refine wpList_load_row rfl 41 (.tmp 8) rfl (w.heap.size + 1) rfl 41 _ (0, 0) _ HR1.out Tryd.underlying41 rfl HIX.out ?_)
  rw [show Value.agg (lnC x).toArray = lnV x from rfl]
  refine (vline_x x _).mono ?_
  rintro e w1 ⟨rfl, hq1⟩
  rw [hv.out]
  clear kf
  have HB1 := Lib.hid (HB0.out.trans (hq1.mono HB0.out.size))
  clear hq1
  go_wp2_with fail
  go_ret
  exact ⟨by rw [HRS.out]; rfl, HB1.out⟩
set_option maxHeartbeats 4000000 in
theorem verifyL_1 (x : Ln) (s : List Nat) (i m : Int) (ps : List Dg) (A : Option Addr) (n c : Nat) (r : List Nat) (w : World) (hs : Hid (DgOk s)) (hr : Hid (DgOk r)) (hn : n ≤ 100000) (h : Hid (InD w A n c ps)) (hT : Hid (Tabs w)) (hv : Hid (vLn x = true)) (he : Hid (dclE i m ps.length = 1)) :
    Calls Tryd.prog 52 #[.agg tabL, lnV x, dgV s, .int .i64 i, .int .i64 m, .slice A n c, dgV r] w fun e w' => e = .returned (.int .i64 (vfE (vLn x) (lfL x s) i m ps r)) ∧ Below w.heap.size w w' := by
  have HRS : Hid (vfE (vLn x) (lfL x s) i m ps r = 420) := Lib.hid (vfE_1 _ _ _ _ _ he.out)
  obtain ⟨t1, t2, t3, t4, t5⟩ := rows_four w tabL (lnC x).toArray (dgC s).toArray 106 41 25 (.cells (dgC r).toArray 25)
  have HB0 := Lib.hid t1
  have HR1 := Lib.hid t3
  have HR2 := Lib.hid t4
  have HR3 := Lib.hid t5
  have HT0 := Lib.hid t2
  have hT1 := Lib.hid (hT.out.below t1)
  have HIX := Lib.hid (lnC_info4 x)
  have HIS := Lib.hid (dgC_info hs.out)
  have HIR := Lib.hid (dgC_info hr.out)
  have kf : ((((w.alloc (.cells tabL 106)).alloc (.cells (lnC x).toArray 41)).alloc (.cells (dgC s).toArray 25)).alloc (.cells (dgC r).toArray 25)).cell? ⟨w.heap.size, 1, none⟩ = some (.func (.func 88) #[] #[]) := by rw [cell_of_row _ _ _ _ _ _ HT0.out]; rfl
  clear t1 t2 t3 t4 t5
  rw [dgV_agg s, dgV_agg r, show lnV x = .agg (lnC x).toArray from rfl]
  go_enter Tryd.func52, Tryd.ntmps52
  go_wp2_with (refine wpList_load_row rfl 41 (.tmp 8) rfl (w.heap.size + 1) rfl 41 _ (0, 0) _ HR1.out Tryd.underlying41 rfl HIX.out ?_)
  rw [show Value.agg (lnC x).toArray = lnV x from rfl]
  refine (vline_x x _).mono ?_
  rintro e w1 ⟨rfl, hq1⟩
  rw [hv.out]
  clear kf
  have HB1 := Lib.hid (HB0.out.trans (hq1.mono HB0.out.size))
  have HX1 := Lib.hid (row_kept HR1.out hq1)
  have HS1 := Lib.hid (row_kept HR2.out hq1)
  have HRR1 := Lib.hid (row_kept HR3.out hq1)
  have hT2 := Lib.hid (hT1.out.below hq1)
  have kg : w1.cell? ⟨w.heap.size, 3, none⟩ = some (.func (.func 87) #[] #[]) := by rw [cell_of_row _ _ _ _ _ _ (row_kept HT0.out hq1)]; rfl
  clear hq1
  go_wp2_with (first | (refine wpList_load_row rfl 41 (.tmp 8) rfl (w.heap.size + 1) rfl 41 _ (0, 0) _ HX1.out Tryd.underlying41 rfl HIX.out ?_) | (refine wpList_load_row rfl 25 (.tmp 9) rfl (w.heap.size + 1 + 1) rfl 25 _ (0, 0) _ HS1.out Tryd.underlying25 rfl HIS.out ?_))
  rw [show Value.agg (lnC x).toArray = lnV x from rfl, ← dgV_agg s]
  refine (leafL x s _ hs hT2).mono ?_
  rintro e w2 ⟨rfl, hq2⟩
  have HB2 := Lib.hid (HB1.out.trans (hq2.mono HB1.out.size))
  have HRR2 := Lib.hid (row_kept HRR1.out hq2)
  have hT3 := Lib.hid (hT2.out.below hq2)
  have HIP := Lib.hid (h.out.below HB2.out)
  have HLO := Lib.hid (lfL_ok x s)
  clear hq2 kg
  go_wp2_with fail
  refine (dclimb_any (lfL x s) i m ps A n c _ HLO (by omega) HIP hT3 hn).mono ?_
  rintro e w3 ⟨rfl, hq3⟩
  rw [he.out]
  obtain ⟨dr, HDR⟩ : ∃ dr, Hid (dclR (lfL x s) i m ps = dr) := ⟨_, Lib.hid rfl⟩
  have HDO : Hid (DgOk dr) := Lib.hid (by rw [← HDR.out]; exact dclR_ok _ _ _ _)
  have HN1 := Lib.hid (dgC_info HDO.out)
  have HN2 := Lib.hid (dgC_size HDO.out)
  rw [HDR.out]
  have HB3 := Lib.hid (HB2.out.trans (hq3.mono HB2.out.size))
  have HRR3 := Lib.hid (row_kept HRR2.out hq3)
  clear hq3
  obtain ⟨W4, HW4⟩ : ∃ W, Hid ((w3.alloc (.cells #[.int .u8 0, .int .u8 0, .int .u8 0, .int .u8 0, .int .u8 0, .int .u8 0, .int .u8 0, .int .u8 0, .int .u8 0, .int .u8 0, .int .u8 0, .int .u8 0, .int .u8 0, .int .u8 0, .int .u8 0, .int .u8 0, .int .u8 0, .int .u8 0, .int .u8 0, .int .u8 0, .int .u8 0, .int .u8 0, .int .u8 0, .int .u8 0, .int .u8 0, .int .u8 0, .int .u8 0, .int .u8 0, .int .u8 0, .int .u8 0, .int .u8 0, .int .u8 0] 25)).setRow w3.heap.size (dgC dr).toArray = W) := ⟨_, Lib.hid rfl⟩
  have hw4 := setRow_heap (w3.alloc (.cells #[.int .u8 0, .int .u8 0, .int .u8 0, .int .u8 0, .int .u8 0, .int .u8 0, .int .u8 0, .int .u8 0, .int .u8 0, .int .u8 0, .int .u8 0, .int .u8 0, .int .u8 0, .int .u8 0, .int .u8 0, .int .u8 0, .int .u8 0, .int .u8 0, .int .u8 0, .int .u8 0, .int .u8 0, .int .u8 0, .int .u8 0, .int .u8 0, .int .u8 0, .int .u8 0, .int .u8 0, .int .u8 0, .int .u8 0, .int .u8 0, .int .u8 0, .int .u8 0] 25)) w3.heap.size _ (dgC dr).toArray _ _ (heap_alloc_new w3 _)
  have hb4 := below_setRow ((Below.refl _ w3).alloc (Nat.le_refl _) (.cells #[.int .u8 0, .int .u8 0, .int .u8 0, .int .u8 0, .int .u8 0, .int .u8 0, .int .u8 0, .int .u8 0, .int .u8 0, .int .u8 0, .int .u8 0, .int .u8 0, .int .u8 0, .int .u8 0, .int .u8 0, .int .u8 0, .int .u8 0, .int .u8 0, .int .u8 0, .int .u8 0, .int .u8 0, .int .u8 0, .int .u8 0, .int .u8 0, .int .u8 0, .int .u8 0, .int .u8 0, .int .u8 0, .int .u8 0, .int .u8 0, .int .u8 0, .int .u8 0] 25)) (Nat.le_refl _) (dgC dr).toArray
  rw [HW4.out] at hw4 hb4
  have HRD := Lib.hid hw4
  have HRR4 := Lib.hid (row_kept HRR3.out hb4)
  have HB4 := Lib.hid (HB3.out.trans (hb4.mono HB3.out.size))
  clear hw4 hb4
  rw [dgV_agg dr]
  go_wp2_with (refine wpList_store_row rfl 25 (.tmp 15) (.tmp 32) rfl w3.heap.size (dgC dr).toArray rfl rfl 25 _ (heap_alloc_new w3 _) HN1.out HN2.out (dgC_one _) ?_; rw [HW4.out])
  go_ret
  exact ⟨by rw [HRS.out]; rfl, HB4.out⟩
set_option maxHeartbeats 4000000 in
theorem verifyL_2 (x : Ln) (s : List Nat) (i m : Int) (ps : List Dg) (A : Option Addr) (n c : Nat) (r : List Nat) (w : World) (hs : Hid (DgOk s)) (hr : Hid (DgOk r)) (hn : n ≤ 100000) (h : Hid (InD w A n c ps)) (hT : Hid (Tabs w)) (hv : Hid (vLn x = true)) (he : Hid (dclE i m ps.length = 0)) (hq : Hid ((dclR (lfL x s) i m ps == r) = false)) :
    Calls Tryd.prog 52 #[.agg tabL, lnV x, dgV s, .int .i64 i, .int .i64 m, .slice A n c, dgV r] w fun e w' => e = .returned (.int .i64 (vfE (vLn x) (lfL x s) i m ps r)) ∧ Below w.heap.size w w' := by
  have HRS : Hid (vfE (vLn x) (lfL x s) i m ps r = 420) := Lib.hid (vfE_2 _ _ _ _ _ hq.out)
  obtain ⟨t1, t2, t3, t4, t5⟩ := rows_four w tabL (lnC x).toArray (dgC s).toArray 106 41 25 (.cells (dgC r).toArray 25)
  have HB0 := Lib.hid t1
  have HR1 := Lib.hid t3
  have HR2 := Lib.hid t4
  have HR3 := Lib.hid t5
  have HT0 := Lib.hid t2
  have hT1 := Lib.hid (hT.out.below t1)
  have HIX := Lib.hid (lnC_info4 x)
  have HIS := Lib.hid (dgC_info hs.out)
  have HIR := Lib.hid (dgC_info hr.out)
  have kf : ((((w.alloc (.cells tabL 106)).alloc (.cells (lnC x).toArray 41)).alloc (.cells (dgC s).toArray 25)).alloc (.cells (dgC r).toArray 25)).cell? ⟨w.heap.size, 1, none⟩ = some (.func (.func 88) #[] #[]) := by rw [cell_of_row _ _ _ _ _ _ HT0.out]; rfl
  clear t1 t2 t3 t4 t5
  rw [dgV_agg s, dgV_agg r, show lnV x = .agg (lnC x).toArray from rfl]
  go_enter Tryd.func52, Tryd.ntmps52
  go_wp2_with (refine wpList_load_row rfl 41 (.tmp 8) rfl (w.heap.size + 1) rfl 41 _ (0, 0) _ HR1.out Tryd.underlying41 rfl HIX.out ?_)
  rw [show Value.agg (lnC x).toArray = lnV x from rfl]
  refine (vline_x x _).mono ?_
  rintro e w1 ⟨rfl, hq1⟩
  rw [hv.out]
  clear kf
  have HB1 := Lib.hid (HB0.out.trans (hq1.mono HB0.out.size))
  have HX1 := Lib.hid (row_kept HR1.out hq1)
  have HS1 := Lib.hid (row_kept HR2.out hq1)
  have HRR1 := Lib.hid (row_kept HR3.out hq1)
  have hT2 := Lib.hid (hT1.out.below hq1)
  have kg : w1.cell? ⟨w.heap.size, 3, none⟩ = some (.func (.func 87) #[] #[]) := by rw [cell_of_row _ _ _ _ _ _ (row_kept HT0.out hq1)]; rfl
  clear hq1
  go_wp2_with (first | (refine wpList_load_row rfl 41 (.tmp 8) rfl (w.heap.size + 1) rfl 41 _ (0, 0) _ HX1.out Tryd.underlying41 rfl HIX.out ?_) | (refine wpList_load_row rfl 25 (.tmp 9) rfl (w.heap.size + 1 + 1) rfl 25 _ (0, 0) _ HS1.out Tryd.underlying25 rfl HIS.out ?_))
  rw [show Value.agg (lnC x).toArray = lnV x from rfl, ← dgV_agg s]
  refine (leafL x s _ hs hT2).mono ?_
  rintro e w2 ⟨rfl, hq2⟩
  have HB2 := Lib.hid (HB1.out.trans (hq2.mono HB1.out.size))
  have HRR2 := Lib.hid (row_kept HRR1.out hq2)
  have hT3 := Lib.hid (hT2.out.below hq2)
  have HIP := Lib.hid (h.out.below HB2.out)
  have HLO := Lib.hid (lfL_ok x s)
  clear hq2 kg
  go_wp2_with fail
  refine (dclimb_any (lfL x s) i m ps A n c _ HLO (by omega) HIP hT3 hn).mono ?_
  rintro e w3 ⟨rfl, hq3⟩
  rw [he.out]
  obtain ⟨dr, HDR⟩ : ∃ dr, Hid (dclR (lfL x s) i m ps = dr) := ⟨_, Lib.hid rfl⟩
  have HDO : Hid (DgOk dr) := Lib.hid (by rw [← HDR.out]; exact dclR_ok _ _ _ _)
  have HN1 := Lib.hid (dgC_info HDO.out)
  have HN2 := Lib.hid (dgC_size HDO.out)
  rw [HDR.out]
  have HB3 := Lib.hid (HB2.out.trans (hq3.mono HB2.out.size))
  have HRR3 := Lib.hid (row_kept HRR2.out hq3)
  clear hq3
  obtain ⟨W4, HW4⟩ : ∃ W, Hid ((w3.alloc (.cells #[.int .u8 0, .int .u8 0, .int .u8 0, .int .u8 0, .int .u8 0, .int .u8 0, .int .u8 0, .int .u8 0, .int .u8 0, .int .u8 0, .int .u8 0, .int .u8 0, .int .u8 0, .int .u8 0, .int .u8 0, .int .u8 0, .int .u8 0, .int .u8 0, .int .u8 0, .int .u8 0, .int .u8 0, .int .u8 0, .int .u8 0, .int .u8 0, .int .u8 0, .int .u8 0, .int .u8 0, .int .u8 0, .int .u8 0, .int .u8 0, .int .u8 0, .int .u8 0] 25)).setRow w3.heap.size (dgC dr).toArray = W) := ⟨_, Lib.hid rfl⟩
  have hw4 := setRow_heap (w3.alloc (.cells #[.int .u8 0, .int .u8 0, .int .u8 0, .int .u8 0, .int .u8 0, .int .u8 0, .int .u8 0, .int .u8 0, .int .u8 0, .int .u8 0, .int .u8 0, .int .u8 0, .int .u8 0, .int .u8 0, .int .u8 0, .int .u8 0, .int .u8 0, .int .u8 0, .int .u8 0, .int .u8 0, .int .u8 0, .int .u8 0, .int .u8 0, .int .u8 0, .int .u8 0, .int .u8 0, .int .u8 0, .int .u8 0, .int .u8 0, .int .u8 0, .int .u8 0, .int .u8 0] 25)) w3.heap.size _ (dgC dr).toArray _ _ (heap_alloc_new w3 _)
  have hb4 := below_setRow ((Below.refl _ w3).alloc (Nat.le_refl _) (.cells #[.int .u8 0, .int .u8 0, .int .u8 0, .int .u8 0, .int .u8 0, .int .u8 0, .int .u8 0, .int .u8 0, .int .u8 0, .int .u8 0, .int .u8 0, .int .u8 0, .int .u8 0, .int .u8 0, .int .u8 0, .int .u8 0, .int .u8 0, .int .u8 0, .int .u8 0, .int .u8 0, .int .u8 0, .int .u8 0, .int .u8 0, .int .u8 0, .int .u8 0, .int .u8 0, .int .u8 0, .int .u8 0, .int .u8 0, .int .u8 0, .int .u8 0, .int .u8 0] 25)) (Nat.le_refl _) (dgC dr).toArray
  rw [HW4.out] at hw4 hb4
  have HRD := Lib.hid hw4
  have HRR4 := Lib.hid (row_kept HRR3.out hb4)
  have HB4 := Lib.hid (HB3.out.trans (hb4.mono HB3.out.size))
  clear hw4 hb4
  rw [dgV_agg dr]
  have hq' := hq.out
  rw [HDR.out] at hq'
  have hqq : (!(dr == r)) = true := by rw [hq']; rfl
  go_wp2_with (first | (refine wpList_store_row rfl 25 (.tmp 15) (.tmp 32) rfl w3.heap.size (dgC dr).toArray rfl rfl 25 _ (heap_alloc_new w3 _) HN1.out HN2.out (dgC_one _) ?_; rw [HW4.out]) | (refine wpList_unguard rfl ?_; refine wpList_load_row rfl 25 (.tmp 15) rfl w3.heap.size rfl 25 _ (0, 0) _ HRD.out Tryd.underlying25 rfl HN1.out ?_) | (refine wpList_unguard rfl ?_; refine wpList_load_row rfl 25 (.tmp 13) rfl (w.heap.size + 1 + 1 + 1) rfl 25 _ (0, 0) _ HRR4.out Tryd.underlying25 rfl HIR.out ?_) | (refine wpList_unguard rfl ?_; refine wpList_neq_dg rfl (.tmp 37) (.tmp 38) _ rfl dr r rfl rfl HDO.out hr.out ?_; rw [hqq]))
  go_ret
  exact ⟨by rw [HRS.out]; rfl, HB4.out⟩
set_option maxHeartbeats 4000000 in
theorem verifyL_3 (x : Ln) (s : List Nat) (i m : Int) (ps : List Dg) (A : Option Addr) (n c : Nat) (r : List Nat) (w : World) (hs : Hid (DgOk s)) (hr : Hid (DgOk r)) (hn : n ≤ 100000) (h : Hid (InD w A n c ps)) (hT : Hid (Tabs w)) (hv : Hid (vLn x = true)) (he : Hid (dclE i m ps.length = 0)) (hq : Hid ((dclR (lfL x s) i m ps == r) = true)) :
    Calls Tryd.prog 52 #[.agg tabL, lnV x, dgV s, .int .i64 i, .int .i64 m, .slice A n c, dgV r] w fun e w' => e = .returned (.int .i64 (vfE (vLn x) (lfL x s) i m ps r)) ∧ Below w.heap.size w w' := by
  have HRS : Hid (vfE (vLn x) (lfL x s) i m ps r = 0) := Lib.hid (vfE_3 _ _ _ _ _ hv.out he.out hq.out)
  obtain ⟨t1, t2, t3, t4, t5⟩ := rows_four w tabL (lnC x).toArray (dgC s).toArray 106 41 25 (.cells (dgC r).toArray 25)
  have HB0 := Lib.hid t1
  have HR1 := Lib.hid t3
  have HR2 := Lib.hid t4
  have HR3 := Lib.hid t5
  have HT0 := Lib.hid t2
  have hT1 := Lib.hid (hT.out.below t1)
  have HIX := Lib.hid (lnC_info4 x)
  have HIS := Lib.hid (dgC_info hs.out)
  have HIR := Lib.hid (dgC_info hr.out)
  have kf : ((((w.alloc (.cells tabL 106)).alloc (.cells (lnC x).toArray 41)).alloc (.cells (dgC s).toArray 25)).alloc (.cells (dgC r).toArray 25)).cell? ⟨w.heap.size, 1, none⟩ = some (.func (.func 88) #[] #[]) := by rw [cell_of_row _ _ _ _ _ _ HT0.out]; rfl
  clear t1 t2 t3 t4 t5
  rw [dgV_agg s, dgV_agg r, show lnV x = .agg (lnC x).toArray from rfl]
  go_enter Tryd.func52, Tryd.ntmps52
  go_wp2_with (refine wpList_load_row rfl 41 (.tmp 8) rfl (w.heap.size + 1) rfl 41 _ (0, 0) _ HR1.out Tryd.underlying41 rfl HIX.out ?_)
  rw [show Value.agg (lnC x).toArray = lnV x from rfl]
  refine (vline_x x _).mono ?_
  rintro e w1 ⟨rfl, hq1⟩
  rw [hv.out]
  clear kf
  have HB1 := Lib.hid (HB0.out.trans (hq1.mono HB0.out.size))
  have HX1 := Lib.hid (row_kept HR1.out hq1)
  have HS1 := Lib.hid (row_kept HR2.out hq1)
  have HRR1 := Lib.hid (row_kept HR3.out hq1)
  have hT2 := Lib.hid (hT1.out.below hq1)
  have kg : w1.cell? ⟨w.heap.size, 3, none⟩ = some (.func (.func 87) #[] #[]) := by rw [cell_of_row _ _ _ _ _ _ (row_kept HT0.out hq1)]; rfl
  clear hq1
  go_wp2_with (first | (refine wpList_load_row rfl 41 (.tmp 8) rfl (w.heap.size + 1) rfl 41 _ (0, 0) _ HX1.out Tryd.underlying41 rfl HIX.out ?_) | (refine wpList_load_row rfl 25 (.tmp 9) rfl (w.heap.size + 1 + 1) rfl 25 _ (0, 0) _ HS1.out Tryd.underlying25 rfl HIS.out ?_))
  rw [show Value.agg (lnC x).toArray = lnV x from rfl, ← dgV_agg s]
  refine (leafL x s _ hs hT2).mono ?_
  rintro e w2 ⟨rfl, hq2⟩
  have HB2 := Lib.hid (HB1.out.trans (hq2.mono HB1.out.size))
  have HRR2 := Lib.hid (row_kept HRR1.out hq2)
  have hT3 := Lib.hid (hT2.out.below hq2)
  have HIP := Lib.hid (h.out.below HB2.out)
  have HLO := Lib.hid (lfL_ok x s)
  clear hq2 kg
  go_wp2_with fail
  refine (dclimb_any (lfL x s) i m ps A n c _ HLO (by omega) HIP hT3 hn).mono ?_
  rintro e w3 ⟨rfl, hq3⟩
  rw [he.out]
  obtain ⟨dr, HDR⟩ : ∃ dr, Hid (dclR (lfL x s) i m ps = dr) := ⟨_, Lib.hid rfl⟩
  have HDO : Hid (DgOk dr) := Lib.hid (by rw [← HDR.out]; exact dclR_ok _ _ _ _)
  have HN1 := Lib.hid (dgC_info HDO.out)
  have HN2 := Lib.hid (dgC_size HDO.out)
  rw [HDR.out]
  have HB3 := Lib.hid (HB2.out.trans (hq3.mono HB2.out.size))
  have HRR3 := Lib.hid (row_kept HRR2.out hq3)
  clear hq3
  obtain ⟨W4, HW4⟩ : ∃ W, Hid ((w3.alloc (.cells #[.int .u8 0, .int .u8 0, .int .u8 0, .int .u8 0, .int .u8 0, .int .u8 0, .int .u8 0, .int .u8 0, .int .u8 0, .int .u8 0, .int .u8 0, .int .u8 0, .int .u8 0, .int .u8 0, .int .u8 0, .int .u8 0, .int .u8 0, .int .u8 0, .int .u8 0, .int .u8 0, .int .u8 0, .int .u8 0, .int .u8 0, .int .u8 0, .int .u8 0, .int .u8 0, .int .u8 0, .int .u8 0, .int .u8 0, .int .u8 0, .int .u8 0, .int .u8 0] 25)).setRow w3.heap.size (dgC dr).toArray = W) := ⟨_, Lib.hid rfl⟩
  have hw4 := setRow_heap (w3.alloc (.cells #[.int .u8 0, .int .u8 0, .int .u8 0, .int .u8 0, .int .u8 0, .int .u8 0, .int .u8 0, .int .u8 0, .int .u8 0, .int .u8 0, .int .u8 0, .int .u8 0, .int .u8 0, .int .u8 0, .int .u8 0, .int .u8 0, .int .u8 0, .int .u8 0, .int .u8 0, .int .u8 0, .int .u8 0, .int .u8 0, .int .u8 0, .int .u8 0, .int .u8 0, .int .u8 0, .int .u8 0, .int .u8 0, .int .u8 0, .int .u8 0, .int .u8 0, .int .u8 0] 25)) w3.heap.size _ (dgC dr).toArray _ _ (heap_alloc_new w3 _)
  have hb4 := below_setRow ((Below.refl _ w3).alloc (Nat.le_refl _) (.cells #[.int .u8 0, .int .u8 0, .int .u8 0, .int .u8 0, .int .u8 0, .int .u8 0, .int .u8 0, .int .u8 0, .int .u8 0, .int .u8 0, .int .u8 0, .int .u8 0, .int .u8 0, .int .u8 0, .int .u8 0, .int .u8 0, .int .u8 0, .int .u8 0, .int .u8 0, .int .u8 0, .int .u8 0, .int .u8 0, .int .u8 0, .int .u8 0, .int .u8 0, .int .u8 0, .int .u8 0, .int .u8 0, .int .u8 0, .int .u8 0, .int .u8 0, .int .u8 0] 25)) (Nat.le_refl _) (dgC dr).toArray
  rw [HW4.out] at hw4 hb4
  have HRD := Lib.hid hw4
  have HRR4 := Lib.hid (row_kept HRR3.out hb4)
  have HB4 := Lib.hid (HB3.out.trans (hb4.mono HB3.out.size))
  clear hw4 hb4
  rw [dgV_agg dr]
  have hq' := hq.out
  rw [HDR.out] at hq'
  have hqq : (!(dr == r)) = false := by rw [hq']; rfl
  go_wp2_with (first | (refine wpList_store_row rfl 25 (.tmp 15) (.tmp 32) rfl w3.heap.size (dgC dr).toArray rfl rfl 25 _ (heap_alloc_new w3 _) HN1.out HN2.out (dgC_one _) ?_; rw [HW4.out]) | (refine wpList_unguard rfl ?_; refine wpList_load_row rfl 25 (.tmp 15) rfl w3.heap.size rfl 25 _ (0, 0) _ HRD.out Tryd.underlying25 rfl HN1.out ?_) | (refine wpList_unguard rfl ?_; refine wpList_load_row rfl 25 (.tmp 13) rfl (w.heap.size + 1 + 1 + 1) rfl 25 _ (0, 0) _ HRR4.out Tryd.underlying25 rfl HIR.out ?_) | (refine wpList_unguard rfl ?_; refine wpList_neq_dg rfl (.tmp 37) (.tmp 38) _ rfl dr r rfl rfl HDO.out hr.out ?_; rw [hqq]))
  go_ret
  exact ⟨by rw [HRS.out]; rfl, HB4.out⟩
theorem verifyL (x : Ln) (s : List Nat) (i m : Int) (ps : List Dg) (A : Option Addr) (n c : Nat) (r : List Nat) (w : World) (hs : Hid (DgOk s)) (hr : Hid (DgOk r)) (hn : n ≤ 100000) (h : Hid (InD w A n c ps)) (hT : Hid (Tabs w)) :
    Calls Tryd.prog 52 #[.agg tabL, lnV x, dgV s, .int .i64 i, .int .i64 m, .slice A n c, dgV r] w fun e w' => e = .returned (.int .i64 (vfE (vLn x) (lfL x s) i m ps r)) ∧ Below w.heap.size w w' := by
  by_cases hv : vLn x = true
  · by_cases he : dArg i m ps.length
    · exact verifyL_1 x s i m ps A n c r w  hs hr hn h hT (Lib.hid hv) (Lib.hid (by unfold dclE; rw [if_pos he]))
    · by_cases hq : (dclR (lfL x s) i m ps == r) = true
      · exact verifyL_3 x s i m ps A n c r w  hs hr hn h hT (Lib.hid hv) (Lib.hid (by unfold dclE; rw [if_neg he])) (Lib.hid hq)
      · exact verifyL_2 x s i m ps A n c r w  hs hr hn h hT (Lib.hid hv) (Lib.hid (by unfold dclE; rw [if_neg he])) (Lib.hid (by simpa using hq))
  · exact verifyL_0 x s i m ps A n c r w  hs hr hn h hT (Lib.hid (by simpa using hv))
end Go.Proofs.YtmfmgeapecapiaaDoor
namespace Go.Proofs.YtmfmgeapecapiaaDoor
open Go.RowKit SzSha SzTree
set_option linter.unusedVariables false
set_option maxRecDepth 100000
set_option maxHeartbeats 4000000 in
theorem verifyK_0 (x : Cl) (s : List Nat) (i m : Int) (ps : List Dg) (A : Option Addr) (n c : Nat) (r : List Nat) (w : World) (hx : Hid (ClOk x)) (hs : Hid (DgOk s)) (hr : Hid (DgOk r)) (hn : n ≤ 100000) (h : Hid (InD w A n c ps)) (hT : Hid (Tabs w)) (hv : Hid (vCl x = false)) :
    Calls Tryd.prog 54 #[.agg tabK, clV x, dgV s, .int .i64 i, .int .i64 m, .slice A n c, dgV r] w fun e w' => e = .returned (.int .i64 (vfE (vCl x) (lfK x s) i m ps r)) ∧ Below w.heap.size w w' := by
  have HRS : Hid (vfE (vCl x) (lfK x s) i m ps r = 420) := Lib.hid (vfE_0 _ _ _ _ _ hv.out)
  obtain ⟨t1, t2, t3, t4, t5⟩ := rows_four w tabK (clC x).toArray (dgC s).toArray 113 49 25 (.cells (dgC r).toArray 25)
  have HB0 := Lib.hid t1
  have HR1 := Lib.hid t3
  have HR2 := Lib.hid t4
  have HR3 := Lib.hid t5
  have HT0 := Lib.hid t2
  have hT1 := Lib.hid (hT.out.below t1)
  have HIX := Lib.hid (clC_info4 x)
  have HIS := Lib.hid (dgC_info hs.out)
  have HIR := Lib.hid (dgC_info hr.out)
  have kf : ((((w.alloc (.cells tabK 113)).alloc (.cells (clC x).toArray 49)).alloc (.cells (dgC s).toArray 25)).alloc (.cells (dgC r).toArray 25)).cell? ⟨w.heap.size, 1, none⟩ = some (.func (.func 93) #[] #[]) := by rw [cell_of_row _ _ _ _ _ _ HT0.out]; rfl
  clear t1 t2 t3 t4 t5
  rw [dgV_agg s, dgV_agg r, show clV x = .agg (clC x).toArray from rfl]
  go_enter Tryd.func54, Tryd.ntmps54
  go_wp2_with (refine wpList_load_row rfl 49 (.tmp 8) rfl (w.heap.size + 1) rfl 49 _ (0, 0) _ HR1.out Tryd.underlying49 rfl HIX.out ?_)
  rw [show Value.agg (clC x).toArray = clV x from rfl]
  refine (vclaim_x x _).mono ?_
  rintro e w1 ⟨rfl, hq1⟩
  rw [hv.out]
  clear kf
  have HB1 := Lib.hid (HB0.out.trans (hq1.mono HB0.out.size))
  clear hq1
  go_wp2_with fail
  go_ret
  exact ⟨by rw [HRS.out]; rfl, HB1.out⟩
set_option maxHeartbeats 4000000 in
theorem verifyK_1 (x : Cl) (s : List Nat) (i m : Int) (ps : List Dg) (A : Option Addr) (n c : Nat) (r : List Nat) (w : World) (hx : Hid (ClOk x)) (hs : Hid (DgOk s)) (hr : Hid (DgOk r)) (hn : n ≤ 100000) (h : Hid (InD w A n c ps)) (hT : Hid (Tabs w)) (hv : Hid (vCl x = true)) (he : Hid (dclE i m ps.length = 1)) :
    Calls Tryd.prog 54 #[.agg tabK, clV x, dgV s, .int .i64 i, .int .i64 m, .slice A n c, dgV r] w fun e w' => e = .returned (.int .i64 (vfE (vCl x) (lfK x s) i m ps r)) ∧ Below w.heap.size w w' := by
  have HRS : Hid (vfE (vCl x) (lfK x s) i m ps r = 420) := Lib.hid (vfE_1 _ _ _ _ _ he.out)
  obtain ⟨t1, t2, t3, t4, t5⟩ := rows_four w tabK (clC x).toArray (dgC s).toArray 113 49 25 (.cells (dgC r).toArray 25)
  have HB0 := Lib.hid t1
  have HR1 := Lib.hid t3
  have HR2 := Lib.hid t4
  have HR3 := Lib.hid t5
  have HT0 := Lib.hid t2
  have hT1 := Lib.hid (hT.out.below t1)
  have HIX := Lib.hid (clC_info4 x)
  have HIS := Lib.hid (dgC_info hs.out)
  have HIR := Lib.hid (dgC_info hr.out)
  have kf : ((((w.alloc (.cells tabK 113)).alloc (.cells (clC x).toArray 49)).alloc (.cells (dgC s).toArray 25)).alloc (.cells (dgC r).toArray 25)).cell? ⟨w.heap.size, 1, none⟩ = some (.func (.func 93) #[] #[]) := by rw [cell_of_row _ _ _ _ _ _ HT0.out]; rfl
  clear t1 t2 t3 t4 t5
  rw [dgV_agg s, dgV_agg r, show clV x = .agg (clC x).toArray from rfl]
  go_enter Tryd.func54, Tryd.ntmps54
  go_wp2_with (refine wpList_load_row rfl 49 (.tmp 8) rfl (w.heap.size + 1) rfl 49 _ (0, 0) _ HR1.out Tryd.underlying49 rfl HIX.out ?_)
  rw [show Value.agg (clC x).toArray = clV x from rfl]
  refine (vclaim_x x _).mono ?_
  rintro e w1 ⟨rfl, hq1⟩
  rw [hv.out]
  clear kf
  have HB1 := Lib.hid (HB0.out.trans (hq1.mono HB0.out.size))
  have HX1 := Lib.hid (row_kept HR1.out hq1)
  have HS1 := Lib.hid (row_kept HR2.out hq1)
  have HRR1 := Lib.hid (row_kept HR3.out hq1)
  have hT2 := Lib.hid (hT1.out.below hq1)
  have kg : w1.cell? ⟨w.heap.size, 3, none⟩ = some (.func (.func 92) #[] #[]) := by rw [cell_of_row _ _ _ _ _ _ (row_kept HT0.out hq1)]; rfl
  clear hq1
  go_wp2_with (first | (refine wpList_load_row rfl 49 (.tmp 8) rfl (w.heap.size + 1) rfl 49 _ (0, 0) _ HX1.out Tryd.underlying49 rfl HIX.out ?_) | (refine wpList_load_row rfl 25 (.tmp 9) rfl (w.heap.size + 1 + 1) rfl 25 _ (0, 0) _ HS1.out Tryd.underlying25 rfl HIS.out ?_))
  rw [show Value.agg (clC x).toArray = clV x from rfl, ← dgV_agg s]
  refine (leafK x s _ hx hs hT2).mono ?_
  rintro e w2 ⟨rfl, hq2⟩
  have HB2 := Lib.hid (HB1.out.trans (hq2.mono HB1.out.size))
  have HRR2 := Lib.hid (row_kept HRR1.out hq2)
  have hT3 := Lib.hid (hT2.out.below hq2)
  have HIP := Lib.hid (h.out.below HB2.out)
  have HLO := Lib.hid (lfK_ok x s)
  clear hq2 kg
  go_wp2_with fail
  refine (dclimb_any (lfK x s) i m ps A n c _ HLO (by omega) HIP hT3 hn).mono ?_
  rintro e w3 ⟨rfl, hq3⟩
  rw [he.out]
  obtain ⟨dr, HDR⟩ : ∃ dr, Hid (dclR (lfK x s) i m ps = dr) := ⟨_, Lib.hid rfl⟩
  have HDO : Hid (DgOk dr) := Lib.hid (by rw [← HDR.out]; exact dclR_ok _ _ _ _)
  have HN1 := Lib.hid (dgC_info HDO.out)
  have HN2 := Lib.hid (dgC_size HDO.out)
  rw [HDR.out]
  have HB3 := Lib.hid (HB2.out.trans (hq3.mono HB2.out.size))
  have HRR3 := Lib.hid (row_kept HRR2.out hq3)
  clear hq3
  obtain ⟨W4, HW4⟩ : ∃ W, Hid ((w3.alloc (.cells #[.int .u8 0, .int .u8 0, .int .u8 0, .int .u8 0, .int .u8 0, .int .u8 0, .int .u8 0, .int .u8 0, .int .u8 0, .int .u8 0, .int .u8 0, .int .u8 0, .int .u8 0, .int .u8 0, .int .u8 0, .int .u8 0, .int .u8 0, .int .u8 0, .int .u8 0, .int .u8 0, .int .u8 0, .int .u8 0, .int .u8 0, .int .u8 0, .int .u8 0, .int .u8 0, .int .u8 0, .int .u8 0, .int .u8 0, .int .u8 0, .int .u8 0, .int .u8 0] 25)).setRow w3.heap.size (dgC dr).toArray = W) := ⟨_, Lib.hid rfl⟩
  have hw4 := setRow_heap (w3.alloc (.cells #[.int .u8 0, .int .u8 0, .int .u8 0, .int .u8 0, .int .u8 0, .int .u8 0, .int .u8 0, .int .u8 0, .int .u8 0, .int .u8 0, .int .u8 0, .int .u8 0, .int .u8 0, .int .u8 0, .int .u8 0, .int .u8 0, .int .u8 0, .int .u8 0, .int .u8 0, .int .u8 0, .int .u8 0, .int .u8 0, .int .u8 0, .int .u8 0, .int .u8 0, .int .u8 0, .int .u8 0, .int .u8 0, .int .u8 0, .int .u8 0, .int .u8 0, .int .u8 0] 25)) w3.heap.size _ (dgC dr).toArray _ _ (heap_alloc_new w3 _)
  have hb4 := below_setRow ((Below.refl _ w3).alloc (Nat.le_refl _) (.cells #[.int .u8 0, .int .u8 0, .int .u8 0, .int .u8 0, .int .u8 0, .int .u8 0, .int .u8 0, .int .u8 0, .int .u8 0, .int .u8 0, .int .u8 0, .int .u8 0, .int .u8 0, .int .u8 0, .int .u8 0, .int .u8 0, .int .u8 0, .int .u8 0, .int .u8 0, .int .u8 0, .int .u8 0, .int .u8 0, .int .u8 0, .int .u8 0, .int .u8 0, .int .u8 0, .int .u8 0, .int .u8 0, .int .u8 0, .int .u8 0, .int .u8 0, .int .u8 0] 25)) (Nat.le_refl _) (dgC dr).toArray
  rw [HW4.out] at hw4 hb4
  have HRD := Lib.hid hw4
  have HRR4 := Lib.hid (row_kept HRR3.out hb4)
  have HB4 := Lib.hid (HB3.out.trans (hb4.mono HB3.out.size))
  clear hw4 hb4
  rw [dgV_agg dr]
  go_wp2_with (refine wpList_store_row rfl 25 (.tmp 15) (.tmp 32) rfl w3.heap.size (dgC dr).toArray rfl rfl 25 _ (heap_alloc_new w3 _) HN1.out HN2.out (dgC_one _) ?_; rw [HW4.out])
  go_ret
  exact ⟨by rw [HRS.out]; rfl, HB4.out⟩
set_option maxHeartbeats 4000000 in
theorem verifyK_2 (x : Cl) (s : List Nat) (i m : Int) (ps : List Dg) (A : Option Addr) (n c : Nat) (r : List Nat) (w : World) (hx : Hid (ClOk x)) (hs : Hid (DgOk s)) (hr : Hid (DgOk r)) (hn : n ≤ 100000) (h : Hid (InD w A n c ps)) (hT : Hid (Tabs w)) (hv : Hid (vCl x = true)) (he : Hid (dclE i m ps.length = 0)) (hq : Hid ((dclR (lfK x s) i m ps == r) = false)) :
    Calls Tryd.prog 54 #[.agg tabK, clV x, dgV s, .int .i64 i, .int .i64 m, .slice A n c, dgV r] w fun e w' => e = .returned (.int .i64 (vfE (vCl x) (lfK x s) i m ps r)) ∧ Below w.heap.size w w' := by
  have HRS : Hid (vfE (vCl x) (lfK x s) i m ps r = 420) := Lib.hid (vfE_2 _ _ _ _ _ hq.out)
  obtain ⟨t1, t2, t3, t4, t5⟩ := rows_four w tabK (clC x).toArray (dgC s).toArray 113 49 25 (.cells (dgC r).toArray 25)
  have HB0 := Lib.hid t1
  have HR1 := Lib.hid t3
  have HR2 := Lib.hid t4
  have HR3 := Lib.hid t5
  have HT0 := Lib.hid t2
  have hT1 := Lib.hid (hT.out.below t1)
  have HIX := Lib.hid (clC_info4 x)
  have HIS := Lib.hid (dgC_info hs.out)
  have HIR := Lib.hid (dgC_info hr.out)
  have kf : ((((w.alloc (.cells tabK 113)).alloc (.cells (clC x).toArray 49)).alloc (.cells (dgC s).toArray 25)).alloc (.cells (dgC r).toArray 25)).cell? ⟨w.heap.size, 1, none⟩ = some (.func (.func 93) #[] #[]) := by rw [cell_of_row _ _ _ _ _ _ HT0.out]; rfl
  clear t1 t2 t3 t4 t5
  rw [dgV_agg s, dgV_agg r, show clV x = .agg (clC x).toArray from rfl]
  go_enter Tryd.func54, Tryd.ntmps54
  go_wp2_with (refine wpList_load_row rfl 49 (.tmp 8) rfl (w.heap.size + 1) rfl 49 _ (0, 0) _ HR1.out Tryd.underlying49 rfl HIX.out ?_)
  rw [show Value.agg (clC x).toArray = clV x from rfl]
  refine (vclaim_x x _).mono ?_
  rintro e w1 ⟨rfl, hq1⟩
  rw [hv.out]
  clear kf
  have HB1 := Lib.hid (HB0.out.trans (hq1.mono HB0.out.size))
  have HX1 := Lib.hid (row_kept HR1.out hq1)
  have HS1 := Lib.hid (row_kept HR2.out hq1)
  have HRR1 := Lib.hid (row_kept HR3.out hq1)
  have hT2 := Lib.hid (hT1.out.below hq1)
  have kg : w1.cell? ⟨w.heap.size, 3, none⟩ = some (.func (.func 92) #[] #[]) := by rw [cell_of_row _ _ _ _ _ _ (row_kept HT0.out hq1)]; rfl
  clear hq1
  go_wp2_with (first | (refine wpList_load_row rfl 49 (.tmp 8) rfl (w.heap.size + 1) rfl 49 _ (0, 0) _ HX1.out Tryd.underlying49 rfl HIX.out ?_) | (refine wpList_load_row rfl 25 (.tmp 9) rfl (w.heap.size + 1 + 1) rfl 25 _ (0, 0) _ HS1.out Tryd.underlying25 rfl HIS.out ?_))
  rw [show Value.agg (clC x).toArray = clV x from rfl, ← dgV_agg s]
  refine (leafK x s _ hx hs hT2).mono ?_
  rintro e w2 ⟨rfl, hq2⟩
  have HB2 := Lib.hid (HB1.out.trans (hq2.mono HB1.out.size))
  have HRR2 := Lib.hid (row_kept HRR1.out hq2)
  have hT3 := Lib.hid (hT2.out.below hq2)
  have HIP := Lib.hid (h.out.below HB2.out)
  have HLO := Lib.hid (lfK_ok x s)
  clear hq2 kg
  go_wp2_with fail
  refine (dclimb_any (lfK x s) i m ps A n c _ HLO (by omega) HIP hT3 hn).mono ?_
  rintro e w3 ⟨rfl, hq3⟩
  rw [he.out]
  obtain ⟨dr, HDR⟩ : ∃ dr, Hid (dclR (lfK x s) i m ps = dr) := ⟨_, Lib.hid rfl⟩
  have HDO : Hid (DgOk dr) := Lib.hid (by rw [← HDR.out]; exact dclR_ok _ _ _ _)
  have HN1 := Lib.hid (dgC_info HDO.out)
  have HN2 := Lib.hid (dgC_size HDO.out)
  rw [HDR.out]
  have HB3 := Lib.hid (HB2.out.trans (hq3.mono HB2.out.size))
  have HRR3 := Lib.hid (row_kept HRR2.out hq3)
  clear hq3
  obtain ⟨W4, HW4⟩ : ∃ W, Hid ((w3.alloc (.cells #[.int .u8 0, .int .u8 0, .int .u8 0, .int .u8 0, .int .u8 0, .int .u8 0, .int .u8 0, .int .u8 0, .int .u8 0, .int .u8 0, .int .u8 0, .int .u8 0, .int .u8 0, .int .u8 0, .int .u8 0, .int .u8 0, .int .u8 0, .int .u8 0, .int .u8 0, .int .u8 0, .int .u8 0, .int .u8 0, .int .u8 0, .int .u8 0, .int .u8 0, .int .u8 0, .int .u8 0, .int .u8 0, .int .u8 0, .int .u8 0, .int .u8 0, .int .u8 0] 25)).setRow w3.heap.size (dgC dr).toArray = W) := ⟨_, Lib.hid rfl⟩
  have hw4 := setRow_heap (w3.alloc (.cells #[.int .u8 0, .int .u8 0, .int .u8 0, .int .u8 0, .int .u8 0, .int .u8 0, .int .u8 0, .int .u8 0, .int .u8 0, .int .u8 0, .int .u8 0, .int .u8 0, .int .u8 0, .int .u8 0, .int .u8 0, .int .u8 0, .int .u8 0, .int .u8 0, .int .u8 0, .int .u8 0, .int .u8 0, .int .u8 0, .int .u8 0, .int .u8 0, .int .u8 0, .int .u8 0, .int .u8 0, .int .u8 0, .int .u8 0, .int .u8 0, .int .u8 0, .int .u8 0] 25)) w3.heap.size _ (dgC dr).toArray _ _ (heap_alloc_new w3 _)
  have hb4 := below_setRow ((Below.refl _ w3).alloc (Nat.le_refl _) (.cells #[.int .u8 0, .int .u8 0, .int .u8 0, .int .u8 0, .int .u8 0, .int .u8 0, .int .u8 0, .int .u8 0, .int .u8 0, .int .u8 0, .int .u8 0, .int .u8 0, .int .u8 0, .int .u8 0, .int .u8 0, .int .u8 0, .int .u8 0, .int .u8 0, .int .u8 0, .int .u8 0, .int .u8 0, .int .u8 0, .int .u8 0, .int .u8 0, .int .u8 0, .int .u8 0, .int .u8 0, .int .u8 0, .int .u8 0, .int .u8 0, .int .u8 0, .int .u8 0] 25)) (Nat.le_refl _) (dgC dr).toArray
  rw [HW4.out] at hw4 hb4
  have HRD := Lib.hid hw4
  have HRR4 := Lib.hid (row_kept HRR3.out hb4)
  have HB4 := Lib.hid (HB3.out.trans (hb4.mono HB3.out.size))
  clear hw4 hb4
  rw [dgV_agg dr]
  have hq' := hq.out
  rw [HDR.out] at hq'
  have hqq : (!(dr == r)) = true := by rw [hq']; rfl
  go_wp2_with (first | (refine wpList_store_row rfl 25 (.tmp 15) (.tmp 32) rfl w3.heap.size (dgC dr).toArray rfl rfl 25 _ (heap_alloc_new w3 _) HN1.out HN2.out (dgC_one _) ?_; rw [HW4.out]) | (refine wpList_unguard rfl ?_; refine wpList_load_row rfl 25 (.tmp 15) rfl w3.heap.size rfl 25 _ (0, 0) _ HRD.out Tryd.underlying25 rfl HN1.out ?_) | (refine wpList_unguard rfl ?_; refine wpList_load_row rfl 25 (.tmp 13) rfl (w.heap.size + 1 + 1 + 1) rfl 25 _ (0, 0) _ HRR4.out Tryd.underlying25 rfl HIR.out ?_) | (refine wpList_unguard rfl ?_; refine wpList_neq_dg rfl (.tmp 37) (.tmp 38) _ rfl dr r rfl rfl HDO.out hr.out ?_; rw [hqq]))
  go_ret
  exact ⟨by rw [HRS.out]; rfl, HB4.out⟩
set_option maxHeartbeats 4000000 in
theorem verifyK_3 (x : Cl) (s : List Nat) (i m : Int) (ps : List Dg) (A : Option Addr) (n c : Nat) (r : List Nat) (w : World) (hx : Hid (ClOk x)) (hs : Hid (DgOk s)) (hr : Hid (DgOk r)) (hn : n ≤ 100000) (h : Hid (InD w A n c ps)) (hT : Hid (Tabs w)) (hv : Hid (vCl x = true)) (he : Hid (dclE i m ps.length = 0)) (hq : Hid ((dclR (lfK x s) i m ps == r) = true)) :
    Calls Tryd.prog 54 #[.agg tabK, clV x, dgV s, .int .i64 i, .int .i64 m, .slice A n c, dgV r] w fun e w' => e = .returned (.int .i64 (vfE (vCl x) (lfK x s) i m ps r)) ∧ Below w.heap.size w w' := by
  have HRS : Hid (vfE (vCl x) (lfK x s) i m ps r = 0) := Lib.hid (vfE_3 _ _ _ _ _ hv.out he.out hq.out)
  obtain ⟨t1, t2, t3, t4, t5⟩ := rows_four w tabK (clC x).toArray (dgC s).toArray 113 49 25 (.cells (dgC r).toArray 25)
  have HB0 := Lib.hid t1
  have HR1 := Lib.hid t3
  have HR2 := Lib.hid t4
  have HR3 := Lib.hid t5
  have HT0 := Lib.hid t2
  have hT1 := Lib.hid (hT.out.below t1)
  have HIX := Lib.hid (clC_info4 x)
  have HIS := Lib.hid (dgC_info hs.out)
  have HIR := Lib.hid (dgC_info hr.out)
  have kf : ((((w.alloc (.cells tabK 113)).alloc (.cells (clC x).toArray 49)).alloc (.cells (dgC s).toArray 25)).alloc (.cells (dgC r).toArray 25)).cell? ⟨w.heap.size, 1, none⟩ = some (.func (.func 93) #[] #[]) := by rw [cell_of_row _ _ _ _ _ _ HT0.out]; rfl
  clear t1 t2 t3 t4 t5
  rw [dgV_agg s, dgV_agg r, show clV x = .agg (clC x).toArray from rfl]
  go_enter Tryd.func54, Tryd.ntmps54
  go_wp2_with (refine wpList_load_row rfl 49 (.tmp 8) rfl (w.heap.size + 1) rfl 49 _ (0, 0) _ HR1.out Tryd.underlying49 rfl HIX.out ?_)
  rw [show Value.agg (clC x).toArray = clV x from rfl]
  refine (vclaim_x x _).mono ?_
  rintro e w1 ⟨rfl, hq1⟩
  rw [hv.out]
  clear kf
  have HB1 := Lib.hid (HB0.out.trans (hq1.mono HB0.out.size))
  have HX1 := Lib.hid (row_kept HR1.out hq1)
  have HS1 := Lib.hid (row_kept HR2.out hq1)
  have HRR1 := Lib.hid (row_kept HR3.out hq1)
  have hT2 := Lib.hid (hT1.out.below hq1)
  have kg : w1.cell? ⟨w.heap.size, 3, none⟩ = some (.func (.func 92) #[] #[]) := by rw [cell_of_row _ _ _ _ _ _ (row_kept HT0.out hq1)]; rfl
  clear hq1
  go_wp2_with (first | (refine wpList_load_row rfl 49 (.tmp 8) rfl (w.heap.size + 1) rfl 49 _ (0, 0) _ HX1.out Tryd.underlying49 rfl HIX.out ?_) | (refine wpList_load_row rfl 25 (.tmp 9) rfl (w.heap.size + 1 + 1) rfl 25 _ (0, 0) _ HS1.out Tryd.underlying25 rfl HIS.out ?_))
  rw [show Value.agg (clC x).toArray = clV x from rfl, ← dgV_agg s]
  refine (leafK x s _ hx hs hT2).mono ?_
  rintro e w2 ⟨rfl, hq2⟩
  have HB2 := Lib.hid (HB1.out.trans (hq2.mono HB1.out.size))
  have HRR2 := Lib.hid (row_kept HRR1.out hq2)
  have hT3 := Lib.hid (hT2.out.below hq2)
  have HIP := Lib.hid (h.out.below HB2.out)
  have HLO := Lib.hid (lfK_ok x s)
  clear hq2 kg
  go_wp2_with fail
  refine (dclimb_any (lfK x s) i m ps A n c _ HLO (by omega) HIP hT3 hn).mono ?_
  rintro e w3 ⟨rfl, hq3⟩
  rw [he.out]
  obtain ⟨dr, HDR⟩ : ∃ dr, Hid (dclR (lfK x s) i m ps = dr) := ⟨_, Lib.hid rfl⟩
  have HDO : Hid (DgOk dr) := Lib.hid (by rw [← HDR.out]; exact dclR_ok _ _ _ _)
  have HN1 := Lib.hid (dgC_info HDO.out)
  have HN2 := Lib.hid (dgC_size HDO.out)
  rw [HDR.out]
  have HB3 := Lib.hid (HB2.out.trans (hq3.mono HB2.out.size))
  have HRR3 := Lib.hid (row_kept HRR2.out hq3)
  clear hq3
  obtain ⟨W4, HW4⟩ : ∃ W, Hid ((w3.alloc (.cells #[.int .u8 0, .int .u8 0, .int .u8 0, .int .u8 0, .int .u8 0, .int .u8 0, .int .u8 0, .int .u8 0, .int .u8 0, .int .u8 0, .int .u8 0, .int .u8 0, .int .u8 0, .int .u8 0, .int .u8 0, .int .u8 0, .int .u8 0, .int .u8 0, .int .u8 0, .int .u8 0, .int .u8 0, .int .u8 0, .int .u8 0, .int .u8 0, .int .u8 0, .int .u8 0, .int .u8 0, .int .u8 0, .int .u8 0, .int .u8 0, .int .u8 0, .int .u8 0] 25)).setRow w3.heap.size (dgC dr).toArray = W) := ⟨_, Lib.hid rfl⟩
  have hw4 := setRow_heap (w3.alloc (.cells #[.int .u8 0, .int .u8 0, .int .u8 0, .int .u8 0, .int .u8 0, .int .u8 0, .int .u8 0, .int .u8 0, .int .u8 0, .int .u8 0, .int .u8 0, .int .u8 0, .int .u8 0, .int .u8 0, .int .u8 0, .int .u8 0, .int .u8 0, .int .u8 0, .int .u8 0, .int .u8 0, .int .u8 0, .int .u8 0, .int .u8 0, .int .u8 0, .int .u8 0, .int .u8 0, .int .u8 0, .int .u8 0, .int .u8 0, .int .u8 0, .int .u8 0, .int .u8 0] 25)) w3.heap.size _ (dgC dr).toArray _ _ (heap_alloc_new w3 _)
  have hb4 := below_setRow ((Below.refl _ w3).alloc (Nat.le_refl _) (.cells #[.int .u8 0, .int .u8 0, .int .u8 0, .int .u8 0, .int .u8 0, .int .u8 0, .int .u8 0, .int .u8 0, .int .u8 0, .int .u8 0, .int .u8 0, .int .u8 0, .int .u8 0, .int .u8 0, .int .u8 0, .int .u8 0, .int .u8 0, .int .u8 0, .int .u8 0, .int .u8 0, .int .u8 0, .int .u8 0, .int .u8 0, .int .u8 0, .int .u8 0, .int .u8 0, .int .u8 0, .int .u8 0, .int .u8 0, .int .u8 0, .int .u8 0, .int .u8 0] 25)) (Nat.le_refl _) (dgC dr).toArray
  rw [HW4.out] at hw4 hb4
  have HRD := Lib.hid hw4
  have HRR4 := Lib.hid (row_kept HRR3.out hb4)
  have HB4 := Lib.hid (HB3.out.trans (hb4.mono HB3.out.size))
  clear hw4 hb4
  rw [dgV_agg dr]
  have hq' := hq.out
  rw [HDR.out] at hq'
  have hqq : (!(dr == r)) = false := by rw [hq']; rfl
  go_wp2_with (first | (refine wpList_store_row rfl 25 (.tmp 15) (.tmp 32) rfl w3.heap.size (dgC dr).toArray rfl rfl 25 _ (heap_alloc_new w3 _) HN1.out HN2.out (dgC_one _) ?_; rw [HW4.out]) | (refine wpList_unguard rfl ?_; refine wpList_load_row rfl 25 (.tmp 15) rfl w3.heap.size rfl 25 _ (0, 0) _ HRD.out Tryd.underlying25 rfl HN1.out ?_) | (refine wpList_unguard rfl ?_; refine wpList_load_row rfl 25 (.tmp 13) rfl (w.heap.size + 1 + 1 + 1) rfl 25 _ (0, 0) _ HRR4.out Tryd.underlying25 rfl HIR.out ?_) | (refine wpList_unguard rfl ?_; refine wpList_neq_dg rfl (.tmp 37) (.tmp 38) _ rfl dr r rfl rfl HDO.out hr.out ?_; rw [hqq]))
  go_ret
  exact ⟨by rw [HRS.out]; rfl, HB4.out⟩
theorem verifyK (x : Cl) (s : List Nat) (i m : Int) (ps : List Dg) (A : Option Addr) (n c : Nat) (r : List Nat) (w : World) (hx : Hid (ClOk x)) (hs : Hid (DgOk s)) (hr : Hid (DgOk r)) (hn : n ≤ 100000) (h : Hid (InD w A n c ps)) (hT : Hid (Tabs w)) :
    Calls Tryd.prog 54 #[.agg tabK, clV x, dgV s, .int .i64 i, .int .i64 m, .slice A n c, dgV r] w fun e w' => e = .returned (.int .i64 (vfE (vCl x) (lfK x s) i m ps r)) ∧ Below w.heap.size w w' := by
  by_cases hv : vCl x = true
  · by_cases he : dArg i m ps.length
    · exact verifyK_1 x s i m ps A n c r w hx hs hr hn h hT (Lib.hid hv) (Lib.hid (by unfold dclE; rw [if_pos he]))
    · by_cases hq : (dclR (lfK x s) i m ps == r) = true
      · exact verifyK_3 x s i m ps A n c r w hx hs hr hn h hT (Lib.hid hv) (Lib.hid (by unfold dclE; rw [if_neg he])) (Lib.hid hq)
      · exact verifyK_2 x s i m ps A n c r w hx hs hr hn h hT (Lib.hid hv) (Lib.hid (by unfold dclE; rw [if_neg he])) (Lib.hid (by simpa using hq))
  · exact verifyK_0 x s i m ps A n c r w hx hs hr hn h hT (Lib.hid (by simpa using hv))
end Go.Proofs.YtmfmgeapecapiaaDoor
