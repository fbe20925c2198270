/- sizarref42.Check. The reference of layer 2: ror, word, numbers: each returns what its plain function says. A region that draws its order: its head is quiet in a class of worlds, its tail comes in one forced order. The library has the two halves apart (a still head with a tail; a quiet region without one); here both in one. -/
import Derived.Test.YtmfmgeapecapiaaGreatDoorSH14
import Derived.Test.YtmfmgeapecapiaaGreatDoorSH5
import Derived.Deep.QuietTactic
import Derived.BigQuiet
import Derived.StillTailTactics
import Derived.Test.YtmfmgeapecapiaaGreatDoorSH2
import Derived.StillTail
import Derived.Deep.Quiet
set_option maxHeartbeats 64000001
open Go.Lib (hid)
namespace Go.Proofs.YtmfmgeapecapiaaGreatDoor
open Go.RowKit SzSha SzTree
set_option linter.unusedVariables false
set_option maxRecDepth 100000
theorem chkE_step {α : Type} {v : α → Bool} {no : α → Int} {z : Int} {x : α} {xs : List α} (h1 : v x = true) (h2 : z < no x) : chkE v no z (x :: xs) = chkE v no (no x) xs := by
 show ((v x && decide (z < no x)) && chkE v no (no x) xs) = _
 rw [h1, eQ h2]; rfl
theorem chkE_badv {α : Type} {v : α → Bool} {no : α → Int} {z : Int} {x : α} {xs : List α} (h1 : v x = false) : chkE v no z (x :: xs) = false := by
 show ((v x && decide (z < no x)) && chkE v no (no x) xs) = _
 rw [h1]; rfl
theorem chkE_bado {α : Type} {v : α → Bool} {no : α → Int} {z : Int} {x : α} {xs : List α} (h2 : no x ≤ z) : chkE v no z (x :: xs) = false := by
 show ((v x && decide (z < no x)) && chkE v no (no x) xs) = _
 rw [dQ (by omega)]; simp
theorem nLn_pos {x : Ln} (h : vLn x = true) : -1 < nLn x := by
 have h2 := of_decide_eq_true h
 have e := noL_val h2
 unfold nLn; rw [e]; unfold lOk at h2; omega
theorem nCl_pos {x : Cl} (h : vCl x = true) : -1 < nCl x := by
 have h2 := of_decide_eq_true h
 have e := noK_val h2
 unfold nCl; rw [e]; unfold kOk at h2; omega
def wCkL (bt g off n c jn jp : Nat) (x y : Ln) (v z b : Bool) : Nat → Value → Prop
 | 0, fv => fv = .pointer (some ⟨bt, 4, none⟩)
 | 1, fv => fv = .slice (some ⟨g, off, none⟩) n c
 | 2, fv => fv = .int .i64 ((jn : Nat))
 | 3, fv => fv = .pointer (some ⟨g, off + jn * 5, none⟩)
 | 4, fv => fv = lnV x
 | 5, fv => fv = .bool v
 | 6, fv => fv = .bool (!v)
 | 7, fv => fv = .bool (!v)
 | 8, fv => fv = bif v then .int .i64 ((jn : Nat)) else undef
 | 9, fv => fv = bif v then .bool z else undef
 | 10, fv => fv = bif v then .bool z else undef
 | 11, fv => fv = bif v && z then .pointer (some ⟨bt, 4, none⟩) else undef
 | 12, fv => fv = bif v && z then .slice (some ⟨g, off, none⟩) n c else undef
 | 13, fv => fv = bif v && z then .int .i64 ((jn : Nat)) else undef
 | 14, fv => fv = bif v && z then .int .i64 ((jp : Nat)) else undef
 | 15, fv => fv = bif v && z then .pointer (some ⟨g, off + jp * 5, none⟩) else undef
 | 16, fv => fv = bif v && z then lnV y else undef
 | 17, fv => fv = bif v && z then .int .i64 (nLn y) else undef
 | 18, fv => fv = bif v && z then .pointer (some ⟨bt, 4, none⟩) else undef
 | 19, fv => fv = bif v && z then .slice (some ⟨g, off, none⟩) n c else undef
 | 20, fv => fv = bif v && z then .int .i64 ((jn : Nat)) else undef
 | 21, fv => fv = bif v && z then .pointer (some ⟨g, off + jn * 5, none⟩) else undef
 | 22, fv => fv = bif v && z then lnV x else undef
 | 23, fv => fv = bif v && z then .int .i64 (nLn x) else undef
 | 24, fv => fv = bif v && z then .bool b else undef
 | 25, fv => fv = bif v then .bool (z && b) else undef
 | 26, fv => fv = .bool (bif v then z && b else true)
 | _, _ => True
def wCkK (bt g off n c jn jp : Nat) (x y : Cl) (v z b : Bool) : Nat → Value → Prop
 | 0, fv => fv = .pointer (some ⟨bt, 5, none⟩)
 | 1, fv => fv = .slice (some ⟨g, off, none⟩) n c
 | 2, fv => fv = .int .i64 ((jn : Nat))
 | 3, fv => fv = .pointer (some ⟨g, off + jn * 3, none⟩)
 | 4, fv => fv = clV x
 | 5, fv => fv = .bool v
 | 6, fv => fv = .bool (!v)
 | 7, fv => fv = .bool (!v)
 | 8, fv => fv = bif v then .int .i64 ((jn : Nat)) else undef
 | 9, fv => fv = bif v then .bool z else undef
 | 10, fv => fv = bif v then .bool z else undef
 | 11, fv => fv = bif v && z then .pointer (some ⟨bt, 5, none⟩) else undef
 | 12, fv => fv = bif v && z then .slice (some ⟨g, off, none⟩) n c else undef
 | 13, fv => fv = bif v && z then .int .i64 ((jn : Nat)) else undef
 | 14, fv => fv = bif v && z then .int .i64 ((jp : Nat)) else undef
 | 15, fv => fv = bif v && z then .pointer (some ⟨g, off + jp * 3, none⟩) else undef
 | 16, fv => fv = bif v && z then clV y else undef
 | 17, fv => fv = bif v && z then .int .i64 (nCl y) else undef
 | 18, fv => fv = bif v && z then .pointer (some ⟨bt, 5, none⟩) else undef
 | 19, fv => fv = bif v && z then .slice (some ⟨g, off, none⟩) n c else undef
 | 20, fv => fv = bif v && z then .int .i64 ((jn : Nat)) else undef
 | 21, fv => fv = bif v && z then .pointer (some ⟨g, off + jn * 3, none⟩) else undef
 | 22, fv => fv = bif v && z then clV x else undef
 | 23, fv => fv = bif v && z then .int .i64 (nCl x) else undef
 | 24, fv => fv = bif v && z then .bool b else undef
 | 25, fv => fv = bif v then .bool (z && b) else undef
 | 26, fv => fv = .bool (bif v then z && b else true)
 | _, _ => True
theorem rcheck42_any (t : Tr) (p : TrP) (w : World) (h : Hid (TrOk w t p)) :
  Calls Tryz.prog 18 #[trV t p] w fun e w' => e = .returned (.int .i64 (trE t)) ∧ Below w.heap.size w w' := by
 have HIT : Hid ((Tryz.prog.info? 27).map (·.size) = some (trC t p).toArray.size) := hid (trV_info t p h.out.len)
 have hb0 := (Below.refl _ w).alloc (Nat.le_refl _) (.cells (trC t p).toArray 27)
 have ht0 := heap_alloc_new w (.cells (trC t p).toArray 27)
 obtain ⟨W1, HW1⟩ : ∃ V, Hid (w.alloc (.cells (trC t p).toArray 27) = V) := ⟨_, hid rfl⟩
 rw [HW1.out] at hb0 ht0
 have RT := hid ht0
 have HB0 := hid hb0
 have k0 : W1.cell? ⟨w.heap.size, 0, none⟩ = some (.int .i64 t.cam) := by rw [cell_of_row _ _ _ _ _ _ ht0]; rfl
 have k1 : W1.cell? ⟨w.heap.size, 1, none⟩ = some (.int .i64 t.stu) := by rw [cell_of_row _ _ _ _ _ _ ht0]; rfl
 have k2 : W1.cell? ⟨w.heap.size, 2, none⟩ = some (.int .i64 t.ver) := by rw [cell_of_row _ _ _ _ _ _ ht0]; rfl
 have k3 : W1.cell? ⟨w.heap.size, 3, none⟩ = some (.int .i64 t.kno) := by rw [cell_of_row _ _ _ _ _ _ ht0]; rfl
 have k4 : W1.cell? ⟨w.heap.size, 4, none⟩ = some (.slice p.A p.n p.c) := by rw [cell_of_row _ _ _ _ _ _ ht0]; rfl
 rw [show trV t p = .agg (trC t p).toArray from rfl]
 obtain ⟨b0, H0⟩ : ∃ b, Hid ((inB t.cam 0 6) = b) := ⟨_, hid rfl⟩
 obtain ⟨b1, H1⟩ : ∃ b, Hid ((inB t.stu 0 19999) = b) := ⟨_, hid rfl⟩
 obtain ⟨b2, H2⟩ : ∃ b, Hid ((inB t.ver 1 1048576) = b) := ⟨_, hid rfl⟩
 obtain ⟨b3, H3⟩ : ∃ b, Hid ((inB t.kno 1 16777216) = b) := ⟨_, hid rfl⟩
 obtain ⟨b4, H4⟩ : ∃ b, Hid (decide (4096 < p.n) = b) := ⟨_, hid rfl⟩
 have d4n := H4.out
 have d4 : decide ((4096 : Int) < (p.n : Int)) = b4 := by rw [← d4n]; exact decide_eq_decide.2 ⟨fun h => by omega, fun h => by omega⟩
 have HG : Hid (trG t = (b0 && (b1 && (b2 && (b3 && (!b4 && (chkE vLn nLn (-1) t.ln && chkE vCl nCl (-1) t.cl))))))) := hid (by
  have e4 : decide (t.ln.length ≤ 4096) = !b4 := by
   rw [h.out.ln.len]; have := H4.out
   cases b4
   ·exact eQ (by have := of_decide_eq_false this; omega)
   ·exact dQ (by have := of_decide_eq_true this; omega)
  unfold trG; rw [H0.out, H1.out, H2.out, H3.out, e4])
 clear H4
 go_enter Tryz.func18, Tryz.ntmps18
 go_wp2_with (rw [HW1.out])
 refine (rin_b _ _ _ _).mono ?_
 rintro e W2 ⟨rfl, hw0⟩
 rw [← hw0]
 clear hw0
 rw [H0.out]
 cases b0
 ·go_wp2_with fail; go_ret; exact ⟨by rw [trE_no (by rw [HG.out]; simp)]; rfl, HB0.out⟩
 go_wp2_with fail
 refine (rin_b _ _ _ _).mono ?_
 rintro e W3 ⟨rfl, hw1⟩
 rw [← hw1]
 clear hw1
 rw [H1.out]
 cases b1
 ·go_wp2_with fail; go_ret; exact ⟨by rw [trE_no (by rw [HG.out]; simp)]; rfl, HB0.out⟩
 go_wp2_with fail
 refine (rin_b _ _ _ _).mono ?_
 rintro e W4 ⟨rfl, hw2⟩
 rw [← hw2]
 clear hw2
 rw [H2.out]
 cases b2
 ·go_wp2_with fail; go_ret; exact ⟨by rw [trE_no (by rw [HG.out]; simp)]; rfl, HB0.out⟩
 go_wp2_with fail
 refine (rin_b _ _ _ _).mono ?_
 rintro e W5 ⟨rfl, hw3⟩
 rw [← hw3]
 clear hw3
 rw [H3.out]
 cases b3
 ·go_wp2_with fail; go_ret; exact ⟨by rw [trE_no (by rw [HG.out]; simp)]; rfl, HB0.out⟩
 cases b4
 rotate_left
 ·go_wp2_with fail; go_ret; exact ⟨by rw [trE_no (by rw [HG.out]; simp)]; rfl, HB0.out⟩
 have HTG : Hid (chkE vLn nLn (-1) t.ln = false → trG t = false) := hid (fun e => by rw [HG.out, e]; rfl)
 have HTY : Hid (chkE vLn nLn (-1) t.ln = true → chkE vCl nCl (-1) t.cl = true → trG t = true) := hid (fun e1 e2 => by rw [HG.out, e1, e2]; rfl)
 go_wp2_with fail
 clear k0 k1 k2 k3 k4 d4 d4n ht0 hb0
 go_loopw [3] (fun i wr => ∃ (j : Nat) (u : Int), j ≤ p.n ∧ i = .int .i64 (j : Nat) ∧ Hid (chkE vLn nLn (-1) t.ln = chkE vLn nLn u (t.ln.drop j)) ∧ Hid (j = 0 → u = -1) ∧ Hid (∀ jp, j = jp + 1 → ∃ y, t.ln[jp]? = some y ∧ u = nLn y) ∧ Hid (Below w.heap.size w wr) ∧ Hid (wr.heap[w.heap.size]? = some (.cells (trC t p).toArray 27 (0, 0)))) (fun i _ => p.n - (intOf i).toNat)
 case atStart => exact ⟨0, -1, by omega, rfl, hid rfl, hid (fun _ => rfl), hid (fun jp h => by cases h), HB0, RT⟩
 case round =>
  clear HB0 RT
  obtain ⟨j, u, hj, rfl, HCH, HZ0, HZP, HB, HTR⟩ := hrel
  have hcs : wr.cell? ⟨w.heap.size, 4, none⟩ = some (.slice p.A p.n p.c) := by rw [cell_of_row _ _ _ _ _ _ HTR.out]; rfl
  by_cases hlt : j < p.n
  ·have d1 : decide ((j : Int) < (p.n : Int)) = true := eQ (by omega)
   have d1n : decide (j < p.n) = true := eQ hlt
   have HLT := hid hlt
   have hin := h.out.ln.below HB.out
   have hjl : j < t.ln.length := by rw [hin.len]; exact hlt
   obtain ⟨g, off, ea, hg, hr⟩ := hin.rd (by omega)
   have HEA := hid ea
   obtain ⟨x, hx⟩ : ∃ x, t.ln[j] = x := ⟨_, rfl⟩
   have HX : Hid (t.ln[j]? = some x) := hid (by rw [List.getElem?_eq_getElem hjl, hx])
   have HRX := hid (range_elem lnC_len hr j hjl)
   rw [hx] at HRX
   have HII := hid (lnC_infoL x)
   have HGW := hid hg
   have HDR : Hid (t.ln.drop j = x :: t.ln.drop (j + 1)) := hid (by rw [List.drop_eq_getElem_cons hjl, hx])
   rw [HDR.out] at HCH
   have HTB : Hid (w.heap.size < wr.heap.size) := hid (Array.getElem?_eq_some_iff.1 HTR.out).1
   rw [ea] at hcs
   have HTC := hid hcs
   have HRA := hid hr
   have HJL := hid hjl
   clear hr hg hin ea hx hjl
   obtain ⟨v, HV⟩ : ∃ b, Hid (vLn x = b) := ⟨_, hid rfl⟩
   obtain ⟨jp, HJP⟩ : ∃ q : Nat, Hid (j - 1 = q) := ⟨_, hid rfl⟩
   obtain ⟨z, HZJ⟩ : ∃ b, Hid (decide ((0 : Int) < (j : Int)) = b) := ⟨_, hid rfl⟩
   obtain ⟨y, HY0⟩ : ∃ y, Hid (0 < j → t.ln[jp]? = some y ∧ u = nLn y) := by
    by_cases h0 : 0 < j
    ·obtain ⟨y, h1, h2⟩ := HZP.out jp (by have := HJP.out; omega)
     exact ⟨y, hid (fun _ => ⟨h1, h2⟩)⟩
    ·exact ⟨x, hid (fun e => absurd e h0)⟩
   have HPZ : Hid (z = true → 0 < j) := hid (fun e => by have h1 := HZJ.out; rw [e] at h1; have := of_decide_eq_true h1; omega)
   have HRY : Hid (z = true → wr.rangeAt g (off + jp * 5) (lnC y)) := hid (fun e => by
    have h0 := HPZ.out e
    have hq : jp < t.ln.length := by have := HJL.out; have := HJP.out; omega
    have h2 := range_elem lnC_len HRA.out jp hq
    have h3 := (HY0.out h0).1
    rw [List.getElem?_eq_getElem hq] at h3
    rwa [Option.some.inj h3] at h2)
   have HJQ : Hid (z = true → jp < p.n) := hid (fun e => by have := HLT.out; have := HJP.out; have := HPZ.out e; omega)
   have HJW : Hid (z = true → IntKind.i64.wrap ((j : Int) - 1) = (jp : Int)) := hid (fun e => by
    have h1 := HPZ.out e
    have h2 := h.out.mn
    have h3 := HLT.out
    have h4 := HJP.out
    rw [IntWalk.i64_in _ (by unfold maxLen at h2; omega)]; omega)
   have HIJ := hid (lnC_infoL y)
   obtain ⟨b, HBO⟩ : ∃ b, Hid (decide (nLn x ≤ nLn y) = b) := ⟨_, hid rfl⟩
   have HNO : Hid ((bif v then z && b else true) = true → trE t = 420) := hid (fun e => trE_no (HTG.out (HCH.out.trans (by
    cases v with
    | false => exact chkE_badv HV.out
    | true =>
     simp only [cond_true, Bool.and_eq_true] at e
     refine chkE_bado ?_
     rw [(HY0.out (HPZ.out e.1)).2]
     have h1 := HBO.out
     rw [e.2] at h1
     exact of_decide_eq_true h1))))
   have HZE : Hid ((bif v then z && b else true) = false → chkE vLn nLn (-1) t.ln = chkE vLn nLn (nLn x) (t.ln.drop (j + 1))) := hid (fun e => HCH.out.trans (by
    cases v with
    | false => cases e
    | true =>
     simp only [cond_true, Bool.and_eq_false_iff] at e
     refine chkE_step HV.out ?_
     cases z with
     | false =>
      have h1 := of_decide_eq_false HZJ.out
      rw [HZ0.out (by omega)]
      exact nLn_pos HV.out
     | true =>
      rw [(HY0.out (HPZ.out rfl)).2]
      have h1 := HBO.out
      rcases e with e | e
      ·cases e
      ·rw [e] at h1
       have := of_decide_eq_false h1
       omega))
   have HNX : Hid (∀ jp, j + 1 = jp + 1 → ∃ y, t.ln[jp]? = some y ∧ nLn x = nLn y) := hid (fun jp e => ⟨x, by
    have : jp = j := by omega
    subst this
    exact HX.out, rfl⟩)
   have HMB : Hid (p.n ≤ 9223372036854775807) := hid (by have := h.out.mn; unfold maxLen at this; omega)
   go_wp2_with fail
   refine region_flow3 (by kernel_rfl) (by kernel_rfl) (fun i => Nat.beq i 26) (fun i => i) (by kernel_rfl) (fun fx => #[.agg (trC t p).toArray, .pointer (some { block := w.heap.size, off := 0 }), u2, .int IntKind.i64 ↑j, undef, .pointer (some { block := w.heap.size, off := 0 }), .int IntKind.i64 t.cam, .bool true, .bool false, .bool false, .pointer (some { block := w.heap.size, off := 1 }), .int IntKind.i64 t.stu, .bool true, .bool false, .bool false, .bool false, .pointer (some { block := w.heap.size, off := 2 }), .int IntKind.i64 t.ver, .bool true, .bool false, .bool false, .bool false, .pointer (some { block := w.heap.size, off := 3 }), .int IntKind.i64 t.kno, .bool true, .bool false, .bool false, .bool false, .pointer (some { block := w.heap.size, off := 4 }), .slice p.A p.n p.c, .int IntKind.i64 ↑p.n, .bool false, .bool false, .int IntKind.i64 ↑j, .pointer (some { block := w.heap.size, off := 4 }), .slice (some { block := g, off := off }) p.n p.c, .int IntKind.i64 ↑p.n, .bool true, u38, u39, fx 0, fx 1, fx 2, fx 3, fx 4, fx 5, fx 6, fx 7, fx 8, fx 9, fx 10, fx 11, fx 12, fx 13, fx 14, fx 15, fx 16, fx 17, fx 18, fx 19, fx 20, fx 21, fx 22, fx 23, fx 24, fx 25, fx 26, undef, undef, undef, undef, undef, undef, undef, undef, undef, undef, undef, undef, undef, undef, undef, undef, undef, undef, undef, undef, undef, undef, undef, undef, undef, undef, undef, undef, undef, undef, undef, undef, undef, undef]) (fun i => bif Nat.beq i 0 then u40 else bif Nat.beq i 1 then u41 else bif Nat.beq i 2 then u42 else bif Nat.beq i 3 then u43 else bif Nat.beq i 4 then u44 else bif Nat.beq i 5 then u45 else bif Nat.beq i 6 then u46 else bif Nat.beq i 7 then u47 else bif Nat.beq i 8 then u48 else bif Nat.beq i 9 then u49 else bif Nat.beq i 10 then u50 else bif Nat.beq i 11 then u51 else bif Nat.beq i 12 then u52 else bif Nat.beq i 13 then u53 else bif Nat.beq i 14 then u54 else bif Nat.beq i 15 then u55 else bif Nat.beq i 16 then u56 else bif Nat.beq i 17 then u57 else bif Nat.beq i 18 then u58 else bif Nat.beq i 19 then u59 else bif Nat.beq i 20 then u60 else bif Nat.beq i 21 then u61 else bif Nat.beq i 22 then u62 else bif Nat.beq i 23 then u63 else bif Nat.beq i 24 then u64 else bif Nat.beq i 25 then u65 else bif Nat.beq i 26 then u66 else undef) (fun L fx w' => Below wr.heap.size wr w') (fun fi fv _ _ => wCkL w.heap.size g off p.n p.c j jp x y v z b fi fv) (Below.refl _ _).drew ?_ ?_
   ·refine ⟨?_, ?_, ?_, ?_, ?_, ?_, ?_, ?_, ?_, ?_, ?_, ?_, ?_, ?_, ?_, ?_, ?_, ?_, ?_, ?_, ?_, ?_, ?_, ?_, ?_, ?_, ?_, trivial⟩
    all_goals intro L fx w' hC hi hcl hdn hd
    ·clear hd
     go_wp2_with fail
     exact ⟨_, rfl, hC, rfl, kP⟩
    ·have h0 : fx 0 = .pointer (some ⟨w.heap.size, 4, none⟩) := hd.1 rfl
     clear hd
     have hcc := (hC.cell (p := ⟨w.heap.size, 4, none⟩) HTB.out).trans HTC.out
     go_wp2_with fail
     exact ⟨_, by simp only [upd, h0]; rfl, hC, rfl, kP⟩
    ·clear hd
     go_wp2_with fail
     exact ⟨_, rfl, hC, rfl, kP⟩
    ·have h1 : fx 1 = .slice (some ⟨g, off, none⟩) p.n p.c := hd.1 rfl
     have h2 : fx 2 = .int .i64 ((j : Nat)) := hd.2.1 rfl
     clear hd
     have hlt := HLT.out
     have hltn : decide (j < p.n) = true := eQ hlt
     go_wp2_with fail
     exact ⟨_, by simp only [upd, h1, h2]; rfl, hC, rfl, kP⟩
    ·have h3 : fx 3 = .pointer (some ⟨g, off + j * 5, none⟩) := hd.1 rfl
     clear hd
     have hrow := rangeAt_below HRX.out HGW.out hC
     refine wpList_load_mid rfl 45 (.tmp 43) rfl g (off + j * 5) h3 (lnC x) _ hrow Tryz.underlying45 rfl HII.out ?_
     rw [show Value.agg (lnC x).toArray = lnV x from rfl]
     go_wp2_with fail
     exact ⟨_, by simp only [upd, h3]; rfl, hC, rfl, kP⟩
    ·have h4 : fx 4 = lnV x := hd.1 rfl
     clear hd
     go_wp2_with fail
     refine (rvline_any x.c0 x.c1 x.c2 x.c3 x.c4 w').mono ?_
     rintro e w2 ⟨rfl, hq⟩
     rw [show decide (lOk x.c0 x.c1 x.c2 x.c3 x.c4) = vLn x from rfl, HV.out]
     go_wp2_with fail
     exact ⟨_, by simp only [upd, h4]; rfl, hC.trans (hq.mono hC.size), rfl, kP⟩
    ·have h5 : fx 5 = .bool v := hd.1 rfl
     clear hd
     go_wp2_with fail
     exact ⟨_, by simp only [upd, h5]; rfl, hC, rfl, kP⟩
    ·have h6 : fx 6 = .bool (!v) := hd.1 rfl
     clear hd
     go_wp2_with fail
     exact ⟨_, by simp only [upd, h6]; rfl, hC, rfl, kP⟩
    ·have h7 : fx 7 = .bool (!v) := hd.1 rfl
     clear hd
     cases v
     ·dsimp only [cond, and, not] at h7
      go_wp2_with fail
      exact ⟨_, by simp only [upd, h7]; rfl, hC, rfl, kP⟩
     ·dsimp only [cond, and, not] at h7
      dsimp only
      rw [h7]
      refine wpList_unguard rfl ?_
      go_wp2_with fail
      exact ⟨_, by simp only [upd, h7]; rfl, hC, rfl, kP⟩
    ·have h8 : fx 8 = bif v then .int .i64 ((j : Nat)) else undef := hd.1 rfl
     have h7 : fx 7 = .bool (!v) := hd.2.1 rfl
     clear hd
     cases v
     ·dsimp only [cond, and, not] at h8 h7
      go_wp2_with fail
      exact ⟨_, by simp only [upd, h8, h7]; rfl, hC, rfl, kP⟩
     ·dsimp only [cond, and, not] at h8 h7
      dsimp only
      rw [h7]
      refine wpList_unguard rfl ?_
      have hj0 := HZJ.out
      have hj0n : decide (0 < j) = z := by rw [← hj0]; simp
      go_wp2_with fail
      exact ⟨_, by simp only [upd, h8, h7]; rfl, hC, rfl, kP⟩
    ·have h9 : fx 9 = bif v then .bool z else undef := hd.1 rfl
     have h7 : fx 7 = .bool (!v) := hd.2.2.1 rfl
     clear hd
     cases v
     ·dsimp only [cond, and, not] at h9 h7
      go_wp2_with fail
      exact ⟨_, by simp only [upd, h9, h7]; rfl, hC, rfl, kP⟩
     ·dsimp only [cond, and, not] at h9 h7
      dsimp only
      rw [h7]
      refine wpList_unguard rfl ?_
      go_wp2_with fail
      exact ⟨_, by simp only [upd, h9, h7]; rfl, hC, rfl, kP⟩
    ·have h10 : fx 10 = bif v then .bool z else undef := hd.1 rfl
     clear hd
     cases v <;> cases z
     rotate_left 3
     ·dsimp only [cond, and, not] at h10
      dsimp only
      rw [h10]
      refine wpList_unguard rfl ?_
      go_wp2_with fail
      exact ⟨_, by simp only [upd, h10]; rfl, hC, rfl, kP⟩
     all_goals
      dsimp only [cond, and, not] at h10; dsimp only; rw [h10]; refine wpList_skip rfl ?_; go_wp2_with fail; exact ⟨_, by simp only [upd, h10]; rfl, hC, rfl, kP⟩
    ·have h11 : fx 11 = bif v && z then .pointer (some ⟨w.heap.size, 4, none⟩) else undef := hd.1 rfl
     have h10 : fx 10 = bif v then .bool z else undef := hd.2.1 rfl
     clear hd
     cases v <;> cases z
     rotate_left 3
     ·dsimp only [cond, and, not] at h11 h10
      dsimp only
      rw [h10]
      refine wpList_unguard rfl ?_
      have hcc := (hC.cell (p := ⟨w.heap.size, 4, none⟩) HTB.out).trans HTC.out
      go_wp2_with fail
      exact ⟨_, by simp only [upd, h11, h10]; rfl, hC, rfl, kP⟩
     all_goals
      dsimp only [cond, and, not] at h11 h10; dsimp only; rw [h10]; refine wpList_skip rfl ?_; go_wp2_with fail; exact ⟨_, by simp only [upd, h11, h10]; rfl, hC, rfl, kP⟩
    ·have h10 : fx 10 = bif v then .bool z else undef := hd.1 rfl
     clear hd
     cases v <;> cases z
     rotate_left 3
     ·dsimp only [cond, and, not] at h10
      dsimp only
      rw [h10]
      refine wpList_unguard rfl ?_
      go_wp2_with fail
      exact ⟨_, by simp only [upd, h10]; rfl, hC, rfl, kP⟩
     all_goals
      dsimp only [cond, and, not] at h10; dsimp only; rw [h10]; refine wpList_skip rfl ?_; go_wp2_with fail; exact ⟨_, by simp only [upd, h10]; rfl, hC, rfl, kP⟩
    ·have h13 : fx 13 = bif v && z then .int .i64 ((j : Nat)) else undef := hd.1 rfl
     have h10 : fx 10 = bif v then .bool z else undef := hd.2.1 rfl
     clear hd
     cases v <;> cases z
     rotate_left 3
     ·dsimp only [cond, and, not] at h13 h10
      dsimp only
      rw [h10]
      refine wpList_unguard rfl ?_
      have hjw := HJW.out rfl
      go_wp2_with fail
      exact ⟨_, by simp only [upd, h13, h10]; rfl, hC, rfl, kP⟩
     all_goals
      dsimp only [cond, and, not] at h13 h10; dsimp only; rw [h10]; refine wpList_skip rfl ?_; go_wp2_with fail; exact ⟨_, by simp only [upd, h13, h10]; rfl, hC, rfl, kP⟩
    ·have h12 : fx 12 = bif v && z then .slice (some ⟨g, off, none⟩) p.n p.c else undef := hd.1 rfl
     have h14 : fx 14 = bif v && z then .int .i64 ((jp : Nat)) else undef := hd.2.1 rfl
     have h10 : fx 10 = bif v then .bool z else undef := hd.2.2.1 rfl
     clear hd
     cases v <;> cases z
     rotate_left 3
     ·dsimp only [cond, and, not] at h12 h14 h10
      dsimp only
      rw [h10]
      refine wpList_unguard rfl ?_
      have hjq := HJQ.out rfl
      have hjqn : decide (jp < p.n) = true := eQ hjq
      go_wp2_with fail
      exact ⟨_, by simp only [upd, h12, h14, h10]; rfl, hC, rfl, kP⟩
     all_goals
      dsimp only [cond, and, not] at h12 h14 h10; dsimp only; rw [h10]; refine wpList_skip rfl ?_; go_wp2_with fail; exact ⟨_, by simp only [upd, h12, h14, h10]; rfl, hC, rfl, kP⟩
    ·have h15 : fx 15 = bif v && z then .pointer (some ⟨g, off + jp * 5, none⟩) else undef := hd.1 rfl
     have h10 : fx 10 = bif v then .bool z else undef := hd.2.1 rfl
     clear hd
     cases v <;> cases z
     rotate_left 3
     ·dsimp only [cond, and, not] at h15 h10
      dsimp only
      rw [h10]
      refine wpList_unguard rfl ?_
      have hrow := rangeAt_below (HRY.out rfl) HGW.out hC
      refine wpList_load_mid rfl 45 (.tmp 55) rfl g (off + jp * 5) h15 (lnC y) _ hrow Tryz.underlying45 rfl HIJ.out ?_
      rw [show Value.agg (lnC y).toArray = lnV y from rfl]
      go_wp2_with fail
      exact ⟨_, by simp only [upd, h15, h10]; rfl, hC, rfl, kP⟩
     all_goals
      dsimp only [cond, and, not] at h15 h10; dsimp only; rw [h10]; refine wpList_skip rfl ?_; go_wp2_with fail; exact ⟨_, by simp only [upd, h15, h10]; rfl, hC, rfl, kP⟩
    ·have h16 : fx 16 = bif v && z then lnV y else undef := hd.1 rfl
     have h10 : fx 10 = bif v then .bool z else undef := hd.2.2.1 rfl
     clear hd
     cases v <;> cases z
     rotate_left 3
     ·dsimp only [cond, and, not] at h16 h10
      dsimp only
      rw [h10]
      refine wpList_unguard rfl ?_
      go_wp2_with fail
      refine (rnoL_any y.c0 y.c1 y.c2 y.c3 y.c4 w').mono ?_
      rintro e w2 ⟨rfl, hq⟩
      rw [show noL y.c0 y.c1 = nLn y from rfl]
      go_wp2_with fail
      exact ⟨_, by simp only [upd, h16, h10]; rfl, hC.trans (hq.mono hC.size), rfl, kP⟩
     all_goals
      dsimp only [cond, and, not] at h16 h10; dsimp only; rw [h10]; refine wpList_skip rfl ?_; go_wp2_with fail; exact ⟨_, by simp only [upd, h16, h10]; rfl, hC, rfl, kP⟩
    ·have h10 : fx 10 = bif v then .bool z else undef := hd.1 rfl
     clear hd
     cases v <;> cases z
     rotate_left 3
     ·dsimp only [cond, and, not] at h10
      dsimp only
      rw [h10]
      refine wpList_unguard rfl ?_
      go_wp2_with fail
      exact ⟨_, by simp only [upd, h10]; rfl, hC, rfl, kP⟩
     all_goals
      dsimp only [cond, and, not] at h10; dsimp only; rw [h10]; refine wpList_skip rfl ?_; go_wp2_with fail; exact ⟨_, by simp only [upd, h10]; rfl, hC, rfl, kP⟩
    ·have h18 : fx 18 = bif v && z then .pointer (some ⟨w.heap.size, 4, none⟩) else undef := hd.1 rfl
     have h10 : fx 10 = bif v then .bool z else undef := hd.2.1 rfl
     clear hd
     cases v <;> cases z
     rotate_left 3
     ·dsimp only [cond, and, not] at h18 h10
      dsimp only
      rw [h10]
      refine wpList_unguard rfl ?_
      have hcc := (hC.cell (p := ⟨w.heap.size, 4, none⟩) HTB.out).trans HTC.out
      go_wp2_with fail
      exact ⟨_, by simp only [upd, h18, h10]; rfl, hC, rfl, kP⟩
     all_goals
      dsimp only [cond, and, not] at h18 h10; dsimp only; rw [h10]; refine wpList_skip rfl ?_; go_wp2_with fail; exact ⟨_, by simp only [upd, h18, h10]; rfl, hC, rfl, kP⟩
    ·have h10 : fx 10 = bif v then .bool z else undef := hd.1 rfl
     clear hd
     cases v <;> cases z
     rotate_left 3
     ·dsimp only [cond, and, not] at h10
      dsimp only
      rw [h10]
      refine wpList_unguard rfl ?_
      go_wp2_with fail
      exact ⟨_, by simp only [upd, h10]; rfl, hC, rfl, kP⟩
     all_goals
      dsimp only [cond, and, not] at h10; dsimp only; rw [h10]; refine wpList_skip rfl ?_; go_wp2_with fail; exact ⟨_, by simp only [upd, h10]; rfl, hC, rfl, kP⟩
    ·have h19 : fx 19 = bif v && z then .slice (some ⟨g, off, none⟩) p.n p.c else undef := hd.1 rfl
     have h20 : fx 20 = bif v && z then .int .i64 ((j : Nat)) else undef := hd.2.1 rfl
     have h10 : fx 10 = bif v then .bool z else undef := hd.2.2.1 rfl
     clear hd
     cases v <;> cases z
     rotate_left 3
     ·dsimp only [cond, and, not] at h19 h20 h10
      dsimp only
      rw [h10]
      refine wpList_unguard rfl ?_
      have hlt := HLT.out
      have hltn : decide (j < p.n) = true := eQ hlt
      go_wp2_with fail
      exact ⟨_, by simp only [upd, h19, h20, h10]; rfl, hC, rfl, kP⟩
     all_goals
      dsimp only [cond, and, not] at h19 h20 h10; dsimp only; rw [h10]; refine wpList_skip rfl ?_; go_wp2_with fail; exact ⟨_, by simp only [upd, h19, h20, h10]; rfl, hC, rfl, kP⟩
    ·have h21 : fx 21 = bif v && z then .pointer (some ⟨g, off + j * 5, none⟩) else undef := hd.1 rfl
     have h10 : fx 10 = bif v then .bool z else undef := hd.2.1 rfl
     clear hd
     cases v <;> cases z
     rotate_left 3
     ·dsimp only [cond, and, not] at h21 h10
      dsimp only
      rw [h10]
      refine wpList_unguard rfl ?_
      have hrow := rangeAt_below HRX.out HGW.out hC
      refine wpList_load_mid rfl 45 (.tmp 61) rfl g (off + j * 5) h21 (lnC x) _ hrow Tryz.underlying45 rfl HII.out ?_
      rw [show Value.agg (lnC x).toArray = lnV x from rfl]
      go_wp2_with fail
      exact ⟨_, by simp only [upd, h21, h10]; rfl, hC, rfl, kP⟩
     all_goals
      dsimp only [cond, and, not] at h21 h10; dsimp only; rw [h10]; refine wpList_skip rfl ?_; go_wp2_with fail; exact ⟨_, by simp only [upd, h21, h10]; rfl, hC, rfl, kP⟩
    ·have h22 : fx 22 = bif v && z then lnV x else undef := hd.1 rfl
     have h10 : fx 10 = bif v then .bool z else undef := hd.2.2.1 rfl
     clear hd
     cases v <;> cases z
     rotate_left 3
     ·dsimp only [cond, and, not] at h22 h10
      dsimp only
      rw [h10]
      refine wpList_unguard rfl ?_
      go_wp2_with fail
      refine (rnoL_any x.c0 x.c1 x.c2 x.c3 x.c4 w').mono ?_
      rintro e w2 ⟨rfl, hq⟩
      rw [show noL x.c0 x.c1 = nLn x from rfl]
      go_wp2_with fail
      exact ⟨_, by simp only [upd, h22, h10]; rfl, hC.trans (hq.mono hC.size), rfl, kP⟩
     all_goals
      dsimp only [cond, and, not] at h22 h10; dsimp only; rw [h10]; refine wpList_skip rfl ?_; go_wp2_with fail; exact ⟨_, by simp only [upd, h22, h10]; rfl, hC, rfl, kP⟩
    ·have h17 : fx 17 = bif v && z then .int .i64 (nLn y) else undef := hd.1 rfl
     have h23 : fx 23 = bif v && z then .int .i64 (nLn x) else undef := hd.2.1 rfl
     have h10 : fx 10 = bif v then .bool z else undef := hd.2.2.1 rfl
     clear hd
     cases v <;> cases z
     rotate_left 3
     ·dsimp only [cond, and, not] at h17 h23 h10
      dsimp only
      rw [h10]
      refine wpList_unguard rfl ?_
      have hbb := HBO.out
      go_wp2_with fail
      exact ⟨_, by simp only [upd, h17, h23, h10]; rfl, hC, rfl, kP⟩
     all_goals
      dsimp only [cond, and, not] at h17 h23 h10; dsimp only; rw [h10]; refine wpList_skip rfl ?_; go_wp2_with fail; exact ⟨_, by simp only [upd, h17, h23, h10]; rfl, hC, rfl, kP⟩
    ·have h10 : fx 10 = bif v then .bool z else undef := hd.1 rfl
     have h24 : fx 24 = bif v && z then .bool b else undef := hd.2.1 rfl
     have h7 : fx 7 = .bool (!v) := hd.2.2.1 rfl
     clear hd
     cases v
     ·dsimp only [cond, and, not] at h10 h24 h7
      go_wp2_with fail
      exact ⟨_, by simp only [upd, h10, h24, h7]; rfl, hC, rfl, kP⟩
     ·cases z
      all_goals
       dsimp only [cond, and, not] at h10 h24 h7; dsimp only; rw [h7]; refine wpList_unguard rfl ?_; go_wp2_with fail; exact ⟨_, by simp only [upd, h10, h24, h7]; rfl, hC, rfl, kP⟩
    ·have h7 : fx 7 = .bool (!v) := hd.1 rfl
     have h25 : fx 25 = bif v then .bool (z && b) else undef := hd.2.1 rfl
     clear hd
     cases v
     all_goals
      dsimp only [cond, not] at h25 h7; go_wp2_with fail; exact ⟨_, by simp only [upd, h7, h25]; rfl, hC, rfl, kP⟩
   ·intro L fo w' hC hS
    have H26 := hid (hS 26 (by decide) rfl)
    have h26 : fo 26 = .bool (bif v then z && b else true) := H26.out
    rw [h26]
    have HBC := hid (HB.out.trans (hC.mono HB.out.size))
    have HBW := hid hC
    clear hS hC h26 H26
    obtain ⟨rr, HRR⟩ : ∃ q, Hid ((bif v then z && b else true) = q) := ⟨_, hid rfl⟩
    rw [HRR.out] at HNO HZE
    rw [HRR.out]
    cases rr
    ·have hmb := HMB.out
     go_wp2_with fail
     go_roundw
     case rel => exact ⟨j + 1, _, by have := HLT.out; omega, by go_num, hid (HZE.out rfl), hid (fun e => by omega), HNX, HBC, hid (row_kept HTR.out HBW.out)⟩
     case measure => simp [intOf]; have := HLT.out; omega
    ·go_wp2_with fail
     go_ret
     exact ⟨by rw [HNO.out trivial]; rfl, HBC.out⟩
  ·have d1 : decide ((j : Int) < (p.n : Int)) = false := dQ (by omega)
   have d1n : decide (j < p.n) = false := dQ hlt
   have HCTL : Hid (chkE vLn nLn (-1) t.ln = true) := hid (by
    rw [HCH.out, List.drop_eq_nil_of_le (by rw [h.out.ln.len]; omega)]; rfl)
   have HTG : Hid (chkE vCl nCl (-1) t.cl = false → trG t = false) := hid (fun e => by unfold trG; rw [e]; simp)
   have HJC := hid hj
   go_wp2_with fail
   clear HCH HZ0 HZP hlt d1 d1n hj hcs HJC
   rename Nat => j1
   go_loopw [4] (fun i wr => ∃ (j : Nat) (u : Int), j ≤ p.n2 ∧ i = .int .i64 (j : Nat) ∧ Hid (chkE vCl nCl (-1) t.cl = chkE vCl nCl u (t.cl.drop j)) ∧ Hid (j = 0 → u = -1) ∧ Hid (∀ jp, j = jp + 1 → ∃ y, t.cl[jp]? = some y ∧ u = nCl y) ∧ Hid (Below w.heap.size w wr) ∧ Hid (wr.heap[w.heap.size]? = some (.cells (trC t p).toArray 27 (0, 0)))) (fun i _ => p.n2 - (intOf i).toNat)
   case atStart => exact ⟨0, -1, by omega, rfl, hid rfl, hid (fun _ => rfl), hid (fun jp h => by cases h), HB, HTR⟩
   case round =>
    clear HB HTR
    obtain ⟨j, u, hj, rfl, HCH, HZ0, HZP, HB, HTR⟩ := hrel
    have hcs : wr.cell? ⟨w.heap.size, 5, none⟩ = some (.slice p.A2 p.n2 p.c2) := by rw [cell_of_row _ _ _ _ _ _ HTR.out]; rfl
    by_cases hlt : j < p.n2
    ·have d1 : decide ((j : Int) < (p.n2 : Int)) = true := eQ (by omega)
     have d1n : decide (j < p.n2) = true := eQ hlt
     have HLT := hid hlt
     have hin := h.out.cl.below HB.out
     have hjl : j < t.cl.length := by rw [hin.len]; exact hlt
     obtain ⟨g, off, ea, hg, hr⟩ := hin.rd (by omega)
     have HEA := hid ea
     obtain ⟨x, hx⟩ : ∃ x, t.cl[j] = x := ⟨_, rfl⟩
     have HX : Hid (t.cl[j]? = some x) := hid (by rw [List.getElem?_eq_getElem hjl, hx])
     have HRX := hid (range_elem clC_len hr j hjl)
     rw [hx] at HRX
     have HII := hid (clC_infoL x)
     have HGW := hid hg
     have HDR : Hid (t.cl.drop j = x :: t.cl.drop (j + 1)) := hid (by rw [List.drop_eq_getElem_cons hjl, hx])
     rw [HDR.out] at HCH
     have HTB : Hid (w.heap.size < wr.heap.size) := hid (Array.getElem?_eq_some_iff.1 HTR.out).1
     rw [ea] at hcs
     have HTC := hid hcs
     have HRA := hid hr
     have HJL := hid hjl
     clear hr hg hin ea hx hjl
     obtain ⟨v, HV⟩ : ∃ b, Hid (vCl x = b) := ⟨_, hid rfl⟩
     obtain ⟨jp, HJP⟩ : ∃ q : Nat, Hid (j - 1 = q) := ⟨_, hid rfl⟩
     obtain ⟨z, HZJ⟩ : ∃ b, Hid (decide ((0 : Int) < (j : Int)) = b) := ⟨_, hid rfl⟩
     obtain ⟨y, HY0⟩ : ∃ y, Hid (0 < j → t.cl[jp]? = some y ∧ u = nCl y) := by
      by_cases h0 : 0 < j
      ·obtain ⟨y, h1, h2⟩ := HZP.out jp (by have := HJP.out; omega)
       exact ⟨y, hid (fun _ => ⟨h1, h2⟩)⟩
      ·exact ⟨x, hid (fun e => absurd e h0)⟩
     have HPZ : Hid (z = true → 0 < j) := hid (fun e => by have h1 := HZJ.out; rw [e] at h1; have := of_decide_eq_true h1; omega)
     have HRY : Hid (z = true → wr.rangeAt g (off + jp * 3) (clC y)) := hid (fun e => by
      have h0 := HPZ.out e
      have hq : jp < t.cl.length := by have := HJL.out; have := HJP.out; omega
      have h2 := range_elem clC_len HRA.out jp hq
      have h3 := (HY0.out h0).1
      rw [List.getElem?_eq_getElem hq] at h3
      rwa [Option.some.inj h3] at h2)
     have HJQ : Hid (z = true → jp < p.n2) := hid (fun e => by have := HLT.out; have := HJP.out; have := HPZ.out e; omega)
     have HJW : Hid (z = true → IntKind.i64.wrap ((j : Int) - 1) = (jp : Int)) := hid (fun e => by
      have h1 := HPZ.out e
      have h2 := h.out.mc
      have h3 := HLT.out
      have h4 := HJP.out
      rw [IntWalk.i64_in _ (by unfold maxLen at h2; omega)]; omega)
     have HIJ := hid (clC_infoL y)
     obtain ⟨b, HBO⟩ : ∃ b, Hid (decide (nCl x ≤ nCl y) = b) := ⟨_, hid rfl⟩
     have HNO : Hid ((bif v then z && b else true) = true → trE t = 420) := hid (fun e => trE_no (HTG.out (HCH.out.trans (by
      cases v with
      | false => exact chkE_badv HV.out
      | true =>
       simp only [cond_true, Bool.and_eq_true] at e
       refine chkE_bado ?_
       rw [(HY0.out (HPZ.out e.1)).2]
       have h1 := HBO.out
       rw [e.2] at h1
       exact of_decide_eq_true h1))))
     have HZE : Hid ((bif v then z && b else true) = false → chkE vCl nCl (-1) t.cl = chkE vCl nCl (nCl x) (t.cl.drop (j + 1))) := hid (fun e => HCH.out.trans (by
      cases v with
      | false => cases e
      | true =>
       simp only [cond_true, Bool.and_eq_false_iff] at e
       refine chkE_step HV.out ?_
       cases z with
       | false =>
        have h1 := of_decide_eq_false HZJ.out
        rw [HZ0.out (by omega)]
        exact nCl_pos HV.out
       | true =>
        rw [(HY0.out (HPZ.out rfl)).2]
        have h1 := HBO.out
        rcases e with e | e
        ·cases e
        ·rw [e] at h1
         have := of_decide_eq_false h1
         omega))
     have HNX : Hid (∀ jp, j + 1 = jp + 1 → ∃ y, t.cl[jp]? = some y ∧ nCl x = nCl y) := hid (fun jp e => ⟨x, by
      have : jp = j := by omega
      subst this
      exact HX.out, rfl⟩)
     have HMB : Hid (p.n2 ≤ 9223372036854775807) := hid (by have := h.out.mc; unfold maxLen at this; omega)
     go_wp2_with fail
     refine region_flow3 (by kernel_rfl) (by kernel_rfl) (fun i => Nat.beq i 26) (fun i => i) (by kernel_rfl) (fun fx => #[.agg (trC t p).toArray, .pointer (some { block := w.heap.size, off := 0 }), u2, .int IntKind.i64 ↑j1, .int IntKind.i64 ↑j, .pointer (some { block := w.heap.size, off := 0 }), .int IntKind.i64 t.cam, .bool true, .bool false, .bool false, .pointer (some { block := w.heap.size, off := 1 }), .int IntKind.i64 t.stu, .bool true, .bool false, .bool false, .bool false, .pointer (some { block := w.heap.size, off := 2 }), .int IntKind.i64 t.ver, .bool true, .bool false, .bool false, .bool false, .pointer (some { block := w.heap.size, off := 3 }), .int IntKind.i64 t.kno, .bool true, .bool false, .bool false, .bool false, .pointer (some { block := w.heap.size, off := 4 }), .slice p.A p.n p.c, .int IntKind.i64 ↑p.n, .bool false, .bool false, .int IntKind.i64 ↑j1, .pointer (some { block := w.heap.size, off := 4 }), .slice p.A p.n p.c, .int IntKind.i64 ↑p.n, .bool false, u38, u39, u40, u41, u42, u43, u44, u45, u46, u47, u48, u49, u50, u51, u52, u53, u54, u55, u56, u57, u58, u59, u60, u61, u62, u63, u64, u65, u66, .int IntKind.i64 ↑j, .pointer (some { block := w.heap.size, off := 5 }), .slice (some { block := g, off := off }) p.n2 p.c2, .int IntKind.i64 ↑p.n2, .bool true, u72, u73, fx 0, fx 1, fx 2, fx 3, fx 4, fx 5, fx 6, fx 7, fx 8, fx 9, fx 10, fx 11, fx 12, fx 13, fx 14, fx 15, fx 16, fx 17, fx 18, fx 19, fx 20, fx 21, fx 22, fx 23, fx 24, fx 25, fx 26]) (fun i => bif Nat.beq i 0 then u74 else bif Nat.beq i 1 then u75 else bif Nat.beq i 2 then u76 else bif Nat.beq i 3 then u77 else bif Nat.beq i 4 then u78 else bif Nat.beq i 5 then u79 else bif Nat.beq i 6 then u80 else bif Nat.beq i 7 then u81 else bif Nat.beq i 8 then u82 else bif Nat.beq i 9 then u83 else bif Nat.beq i 10 then u84 else bif Nat.beq i 11 then u85 else bif Nat.beq i 12 then u86 else bif Nat.beq i 13 then u87 else bif Nat.beq i 14 then u88 else bif Nat.beq i 15 then u89 else bif Nat.beq i 16 then u90 else bif Nat.beq i 17 then u91 else bif Nat.beq i 18 then u92 else bif Nat.beq i 19 then u93 else bif Nat.beq i 20 then u94 else bif Nat.beq i 21 then u95 else bif Nat.beq i 22 then u96 else bif Nat.beq i 23 then u97 else bif Nat.beq i 24 then u98 else bif Nat.beq i 25 then u99 else bif Nat.beq i 26 then u100 else undef) (fun L fx w' => Below wr.heap.size wr w') (fun fi fv _ _ => wCkK w.heap.size g off p.n2 p.c2 j jp x y v z b fi fv) (Below.refl _ _).drew ?_ ?_
     ·refine ⟨?_, ?_, ?_, ?_, ?_, ?_, ?_, ?_, ?_, ?_, ?_, ?_, ?_, ?_, ?_, ?_, ?_, ?_, ?_, ?_, ?_, ?_, ?_, ?_, ?_, ?_, ?_, trivial⟩
      all_goals intro L fx w' hC hi hcl hdn hd
      ·clear hd
       go_wp2_with fail
       exact ⟨_, rfl, hC, rfl, kP⟩
      ·have h0 : fx 0 = .pointer (some ⟨w.heap.size, 5, none⟩) := hd.1 rfl
       clear hd
       have hcc := (hC.cell (p := ⟨w.heap.size, 5, none⟩) HTB.out).trans HTC.out
       go_wp2_with fail
       exact ⟨_, by simp only [upd, h0]; rfl, hC, rfl, kP⟩
      ·clear hd
       go_wp2_with fail
       exact ⟨_, rfl, hC, rfl, kP⟩
      ·have h1 : fx 1 = .slice (some ⟨g, off, none⟩) p.n2 p.c2 := hd.1 rfl
       have h2 : fx 2 = .int .i64 ((j : Nat)) := hd.2.1 rfl
       clear hd
       have hlt := HLT.out
       have hltn : decide (j < p.n2) = true := eQ hlt
       go_wp2_with fail
       exact ⟨_, by simp only [upd, h1, h2]; rfl, hC, rfl, kP⟩
      ·have h3 : fx 3 = .pointer (some ⟨g, off + j * 3, none⟩) := hd.1 rfl
       clear hd
       have hrow := rangeAt_below HRX.out HGW.out hC
       refine wpList_load_mid rfl 56 (.tmp 77) rfl g (off + j * 3) h3 (clC x) _ hrow Tryz.underlying56 rfl HII.out ?_
       rw [show Value.agg (clC x).toArray = clV x from rfl]
       go_wp2_with fail
       exact ⟨_, by simp only [upd, h3]; rfl, hC, rfl, kP⟩
      ·have h4 : fx 4 = clV x := hd.1 rfl
       clear hd
       go_wp2_with fail
       refine (rvclaim_any x.p x.r x.m w').mono ?_
       rintro e w2 ⟨rfl, hq⟩
       rw [show decide (kOk x.p x.r) = vCl x from rfl, HV.out]
       go_wp2_with fail
       exact ⟨_, by simp only [upd, h4]; rfl, hC.trans (hq.mono hC.size), rfl, kP⟩
      ·have h5 : fx 5 = .bool v := hd.1 rfl
       clear hd
       go_wp2_with fail
       exact ⟨_, by simp only [upd, h5]; rfl, hC, rfl, kP⟩
      ·have h6 : fx 6 = .bool (!v) := hd.1 rfl
       clear hd
       go_wp2_with fail
       exact ⟨_, by simp only [upd, h6]; rfl, hC, rfl, kP⟩
      ·have h7 : fx 7 = .bool (!v) := hd.1 rfl
       clear hd
       cases v
       ·dsimp only [cond, and, not] at h7
        go_wp2_with fail
        exact ⟨_, by simp only [upd, h7]; rfl, hC, rfl, kP⟩
       ·dsimp only [cond, and, not] at h7
        dsimp only
        rw [h7]
        refine wpList_unguard rfl ?_
        go_wp2_with fail
        exact ⟨_, by simp only [upd, h7]; rfl, hC, rfl, kP⟩
      ·have h8 : fx 8 = bif v then .int .i64 ((j : Nat)) else undef := hd.1 rfl
       have h7 : fx 7 = .bool (!v) := hd.2.1 rfl
       clear hd
       cases v
       ·dsimp only [cond, and, not] at h8 h7
        go_wp2_with fail
        exact ⟨_, by simp only [upd, h8, h7]; rfl, hC, rfl, kP⟩
       ·dsimp only [cond, and, not] at h8 h7
        dsimp only
        rw [h7]
        refine wpList_unguard rfl ?_
        have hj0 := HZJ.out
        have hj0n : decide (0 < j) = z := by rw [← hj0]; simp
        go_wp2_with fail
        exact ⟨_, by simp only [upd, h8, h7]; rfl, hC, rfl, kP⟩
      ·have h9 : fx 9 = bif v then .bool z else undef := hd.1 rfl
       have h7 : fx 7 = .bool (!v) := hd.2.2.1 rfl
       clear hd
       cases v
       ·dsimp only [cond, and, not] at h9 h7
        go_wp2_with fail
        exact ⟨_, by simp only [upd, h9, h7]; rfl, hC, rfl, kP⟩
       ·dsimp only [cond, and, not] at h9 h7
        dsimp only
        rw [h7]
        refine wpList_unguard rfl ?_
        go_wp2_with fail
        exact ⟨_, by simp only [upd, h9, h7]; rfl, hC, rfl, kP⟩
      ·have h10 : fx 10 = bif v then .bool z else undef := hd.1 rfl
       clear hd
       cases v <;> cases z
       rotate_left 3
       ·dsimp only [cond, and, not] at h10
        dsimp only
        rw [h10]
        refine wpList_unguard rfl ?_
        go_wp2_with fail
        exact ⟨_, by simp only [upd, h10]; rfl, hC, rfl, kP⟩
       all_goals
        dsimp only [cond, and, not] at h10; dsimp only; rw [h10]; refine wpList_skip rfl ?_; go_wp2_with fail; exact ⟨_, by simp only [upd, h10]; rfl, hC, rfl, kP⟩
      ·have h11 : fx 11 = bif v && z then .pointer (some ⟨w.heap.size, 5, none⟩) else undef := hd.1 rfl
       have h10 : fx 10 = bif v then .bool z else undef := hd.2.1 rfl
       clear hd
       cases v <;> cases z
       rotate_left 3
       ·dsimp only [cond, and, not] at h11 h10
        dsimp only
        rw [h10]
        refine wpList_unguard rfl ?_
        have hcc := (hC.cell (p := ⟨w.heap.size, 5, none⟩) HTB.out).trans HTC.out
        go_wp2_with fail
        exact ⟨_, by simp only [upd, h11, h10]; rfl, hC, rfl, kP⟩
       all_goals
        dsimp only [cond, and, not] at h11 h10; dsimp only; rw [h10]; refine wpList_skip rfl ?_; go_wp2_with fail; exact ⟨_, by simp only [upd, h11, h10]; rfl, hC, rfl, kP⟩
      ·have h10 : fx 10 = bif v then .bool z else undef := hd.1 rfl
       clear hd
       cases v <;> cases z
       rotate_left 3
       ·dsimp only [cond, and, not] at h10
        dsimp only
        rw [h10]
        refine wpList_unguard rfl ?_
        go_wp2_with fail
        exact ⟨_, by simp only [upd, h10]; rfl, hC, rfl, kP⟩
       all_goals
        dsimp only [cond, and, not] at h10; dsimp only; rw [h10]; refine wpList_skip rfl ?_; go_wp2_with fail; exact ⟨_, by simp only [upd, h10]; rfl, hC, rfl, kP⟩
      ·have h13 : fx 13 = bif v && z then .int .i64 ((j : Nat)) else undef := hd.1 rfl
       have h10 : fx 10 = bif v then .bool z else undef := hd.2.1 rfl
       clear hd
       cases v <;> cases z
       rotate_left 3
       ·dsimp only [cond, and, not] at h13 h10
        dsimp only
        rw [h10]
        refine wpList_unguard rfl ?_
        have hjw := HJW.out rfl
        go_wp2_with fail
        exact ⟨_, by simp only [upd, h13, h10]; rfl, hC, rfl, kP⟩
       all_goals
        dsimp only [cond, and, not] at h13 h10; dsimp only; rw [h10]; refine wpList_skip rfl ?_; go_wp2_with fail; exact ⟨_, by simp only [upd, h13, h10]; rfl, hC, rfl, kP⟩
      ·have h12 : fx 12 = bif v && z then .slice (some ⟨g, off, none⟩) p.n2 p.c2 else undef := hd.1 rfl
       have h14 : fx 14 = bif v && z then .int .i64 ((jp : Nat)) else undef := hd.2.1 rfl
       have h10 : fx 10 = bif v then .bool z else undef := hd.2.2.1 rfl
       clear hd
       cases v <;> cases z
       rotate_left 3
       ·dsimp only [cond, and, not] at h12 h14 h10
        dsimp only
        rw [h10]
        refine wpList_unguard rfl ?_
        have hjq := HJQ.out rfl
        have hjqn : decide (jp < p.n2) = true := eQ hjq
        go_wp2_with fail
        exact ⟨_, by simp only [upd, h12, h14, h10]; rfl, hC, rfl, kP⟩
       all_goals
        dsimp only [cond, and, not] at h12 h14 h10; dsimp only; rw [h10]; refine wpList_skip rfl ?_; go_wp2_with fail; exact ⟨_, by simp only [upd, h12, h14, h10]; rfl, hC, rfl, kP⟩
      ·have h15 : fx 15 = bif v && z then .pointer (some ⟨g, off + jp * 3, none⟩) else undef := hd.1 rfl
       have h10 : fx 10 = bif v then .bool z else undef := hd.2.1 rfl
       clear hd
       cases v <;> cases z
       rotate_left 3
       ·dsimp only [cond, and, not] at h15 h10
        dsimp only
        rw [h10]
        refine wpList_unguard rfl ?_
        have hrow := rangeAt_below (HRY.out rfl) HGW.out hC
        refine wpList_load_mid rfl 56 (.tmp 89) rfl g (off + jp * 3) h15 (clC y) _ hrow Tryz.underlying56 rfl HIJ.out ?_
        rw [show Value.agg (clC y).toArray = clV y from rfl]
        go_wp2_with fail
        exact ⟨_, by simp only [upd, h15, h10]; rfl, hC, rfl, kP⟩
       all_goals
        dsimp only [cond, and, not] at h15 h10; dsimp only; rw [h10]; refine wpList_skip rfl ?_; go_wp2_with fail; exact ⟨_, by simp only [upd, h15, h10]; rfl, hC, rfl, kP⟩
      ·have h16 : fx 16 = bif v && z then clV y else undef := hd.1 rfl
       have h10 : fx 10 = bif v then .bool z else undef := hd.2.2.1 rfl
       clear hd
       cases v <;> cases z
       rotate_left 3
       ·dsimp only [cond, and, not] at h16 h10
        dsimp only
        rw [h10]
        refine wpList_unguard rfl ?_
        go_wp2_with fail
        refine (rnoK_any y.p y.r y.m w').mono ?_
        rintro e w2 ⟨rfl, hq⟩
        rw [show noK y.p y.r = nCl y from rfl]
        go_wp2_with fail
        exact ⟨_, by simp only [upd, h16, h10]; rfl, hC.trans (hq.mono hC.size), rfl, kP⟩
       all_goals
        dsimp only [cond, and, not] at h16 h10; dsimp only; rw [h10]; refine wpList_skip rfl ?_; go_wp2_with fail; exact ⟨_, by simp only [upd, h16, h10]; rfl, hC, rfl, kP⟩
      ·have h10 : fx 10 = bif v then .bool z else undef := hd.1 rfl
       clear hd
       cases v <;> cases z
       rotate_left 3
       ·dsimp only [cond, and, not] at h10
        dsimp only
        rw [h10]
        refine wpList_unguard rfl ?_
        go_wp2_with fail
        exact ⟨_, by simp only [upd, h10]; rfl, hC, rfl, kP⟩
       all_goals
        dsimp only [cond, and, not] at h10; dsimp only; rw [h10]; refine wpList_skip rfl ?_; go_wp2_with fail; exact ⟨_, by simp only [upd, h10]; rfl, hC, rfl, kP⟩
      ·have h18 : fx 18 = bif v && z then .pointer (some ⟨w.heap.size, 5, none⟩) else undef := hd.1 rfl
       have h10 : fx 10 = bif v then .bool z else undef := hd.2.1 rfl
       clear hd
       cases v <;> cases z
       rotate_left 3
       ·dsimp only [cond, and, not] at h18 h10
        dsimp only
        rw [h10]
        refine wpList_unguard rfl ?_
        have hcc := (hC.cell (p := ⟨w.heap.size, 5, none⟩) HTB.out).trans HTC.out
        go_wp2_with fail
        exact ⟨_, by simp only [upd, h18, h10]; rfl, hC, rfl, kP⟩
       all_goals
        dsimp only [cond, and, not] at h18 h10; dsimp only; rw [h10]; refine wpList_skip rfl ?_; go_wp2_with fail; exact ⟨_, by simp only [upd, h18, h10]; rfl, hC, rfl, kP⟩
      ·have h10 : fx 10 = bif v then .bool z else undef := hd.1 rfl
       clear hd
       cases v <;> cases z
       rotate_left 3
       ·dsimp only [cond, and, not] at h10
        dsimp only
        rw [h10]
        refine wpList_unguard rfl ?_
        go_wp2_with fail
        exact ⟨_, by simp only [upd, h10]; rfl, hC, rfl, kP⟩
       all_goals
        dsimp only [cond, and, not] at h10; dsimp only; rw [h10]; refine wpList_skip rfl ?_; go_wp2_with fail; exact ⟨_, by simp only [upd, h10]; rfl, hC, rfl, kP⟩
      ·have h19 : fx 19 = bif v && z then .slice (some ⟨g, off, none⟩) p.n2 p.c2 else undef := hd.1 rfl
       have h20 : fx 20 = bif v && z then .int .i64 ((j : Nat)) else undef := hd.2.1 rfl
       have h10 : fx 10 = bif v then .bool z else undef := hd.2.2.1 rfl
       clear hd
       cases v <;> cases z
       rotate_left 3
       ·dsimp only [cond, and, not] at h19 h20 h10
        dsimp only
        rw [h10]
        refine wpList_unguard rfl ?_
        have hlt := HLT.out
        have hltn : decide (j < p.n2) = true := eQ hlt
        go_wp2_with fail
        exact ⟨_, by simp only [upd, h19, h20, h10]; rfl, hC, rfl, kP⟩
       all_goals
        dsimp only [cond, and, not] at h19 h20 h10; dsimp only; rw [h10]; refine wpList_skip rfl ?_; go_wp2_with fail; exact ⟨_, by simp only [upd, h19, h20, h10]; rfl, hC, rfl, kP⟩
      ·have h21 : fx 21 = bif v && z then .pointer (some ⟨g, off + j * 3, none⟩) else undef := hd.1 rfl
       have h10 : fx 10 = bif v then .bool z else undef := hd.2.1 rfl
       clear hd
       cases v <;> cases z
       rotate_left 3
       ·dsimp only [cond, and, not] at h21 h10
        dsimp only
        rw [h10]
        refine wpList_unguard rfl ?_
        have hrow := rangeAt_below HRX.out HGW.out hC
        refine wpList_load_mid rfl 56 (.tmp 95) rfl g (off + j * 3) h21 (clC x) _ hrow Tryz.underlying56 rfl HII.out ?_
        rw [show Value.agg (clC x).toArray = clV x from rfl]
        go_wp2_with fail
        exact ⟨_, by simp only [upd, h21, h10]; rfl, hC, rfl, kP⟩
       all_goals
        dsimp only [cond, and, not] at h21 h10; dsimp only; rw [h10]; refine wpList_skip rfl ?_; go_wp2_with fail; exact ⟨_, by simp only [upd, h21, h10]; rfl, hC, rfl, kP⟩
      ·have h22 : fx 22 = bif v && z then clV x else undef := hd.1 rfl
       have h10 : fx 10 = bif v then .bool z else undef := hd.2.2.1 rfl
       clear hd
       cases v <;> cases z
       rotate_left 3
       ·dsimp only [cond, and, not] at h22 h10
        dsimp only
        rw [h10]
        refine wpList_unguard rfl ?_
        go_wp2_with fail
        refine (rnoK_any x.p x.r x.m w').mono ?_
        rintro e w2 ⟨rfl, hq⟩
        rw [show noK x.p x.r = nCl x from rfl]
        go_wp2_with fail
        exact ⟨_, by simp only [upd, h22, h10]; rfl, hC.trans (hq.mono hC.size), rfl, kP⟩
       all_goals
        dsimp only [cond, and, not] at h22 h10; dsimp only; rw [h10]; refine wpList_skip rfl ?_; go_wp2_with fail; exact ⟨_, by simp only [upd, h22, h10]; rfl, hC, rfl, kP⟩
      ·have h17 : fx 17 = bif v && z then .int .i64 (nCl y) else undef := hd.1 rfl
       have h23 : fx 23 = bif v && z then .int .i64 (nCl x) else undef := hd.2.1 rfl
       have h10 : fx 10 = bif v then .bool z else undef := hd.2.2.1 rfl
       clear hd
       cases v <;> cases z
       rotate_left 3
       ·dsimp only [cond, and, not] at h17 h23 h10
        dsimp only
        rw [h10]
        refine wpList_unguard rfl ?_
        have hbb := HBO.out
        go_wp2_with fail
        exact ⟨_, by simp only [upd, h17, h23, h10]; rfl, hC, rfl, kP⟩
       all_goals
        dsimp only [cond, and, not] at h17 h23 h10; dsimp only; rw [h10]; refine wpList_skip rfl ?_; go_wp2_with fail; exact ⟨_, by simp only [upd, h17, h23, h10]; rfl, hC, rfl, kP⟩
      ·have h10 : fx 10 = bif v then .bool z else undef := hd.1 rfl
       have h24 : fx 24 = bif v && z then .bool b else undef := hd.2.1 rfl
       have h7 : fx 7 = .bool (!v) := hd.2.2.1 rfl
       clear hd
       cases v
       ·dsimp only [cond, and, not] at h10 h24 h7
        go_wp2_with fail
        exact ⟨_, by simp only [upd, h10, h24, h7]; rfl, hC, rfl, kP⟩
       ·cases z
        all_goals
         dsimp only [cond, and, not] at h10 h24 h7; dsimp only; rw [h7]; refine wpList_unguard rfl ?_; go_wp2_with fail; exact ⟨_, by simp only [upd, h10, h24, h7]; rfl, hC, rfl, kP⟩
      ·have h7 : fx 7 = .bool (!v) := hd.1 rfl
       have h25 : fx 25 = bif v then .bool (z && b) else undef := hd.2.1 rfl
       clear hd
       cases v
       all_goals
        dsimp only [cond, not] at h25 h7; go_wp2_with fail; exact ⟨_, by simp only [upd, h7, h25]; rfl, hC, rfl, kP⟩
     ·intro L fo w' hC hS
      have H26 := hid (hS 26 (by decide) rfl)
      have h26 : fo 26 = .bool (bif v then z && b else true) := H26.out
      rw [h26]
      have HBC := hid (HB.out.trans (hC.mono HB.out.size))
      have HBW := hid hC
      clear hS hC h26 H26
      obtain ⟨rr, HRR⟩ : ∃ q, Hid ((bif v then z && b else true) = q) := ⟨_, hid rfl⟩
      rw [HRR.out] at HNO HZE
      rw [HRR.out]
      cases rr
      ·have hmb := HMB.out
       go_wp2_with fail
       go_roundw
       case rel => exact ⟨j + 1, _, by have := HLT.out; omega, by go_num, hid (HZE.out rfl), hid (fun e => by omega), HNX, HBC, hid (row_kept HTR.out HBW.out)⟩
       case measure => simp [intOf]; have := HLT.out; omega
      ·go_wp2_with fail
       go_ret
       exact ⟨by rw [HNO.out trivial]; rfl, HBC.out⟩
    ·have d1 : decide ((j : Int) < (p.n2 : Int)) = false := dQ (by omega)
     have d1n : decide (j < p.n2) = false := dQ hlt
     have HCTK : Hid (chkE vCl nCl (-1) t.cl = true) := hid (by
      rw [HCH.out, List.drop_eq_nil_of_le (by rw [h.out.cl.len]; omega)]; rfl)
     have HE : Hid (trE t = 0) := hid (trE_yes (HTY.out HCTL.out HCTK.out))
     go_wp2_with fail
     go_ret
     exact ⟨by rw [HE.out]; rfl, HB.out⟩
theorem rror_bits (x n : Nat) (hx : x < 4294967296) (h1 : 1 ≤ n) (h2 : n ≤ 31) : bits .or .u32 ((x : Int) / 2 ^ n) (IntKind.u32.wrap ((x : Int) * 2 ^ (32 - n))) = (ror x n : Nat) := by
 have e1 : IntKind.u32.wrap ((x : Int) * 2 ^ (32 - n)) = ((x * 2 ^ (32 - n) % 4294967296 : Nat) : Int) := by rw [IntKind.wrap_u32']; rfl
 have e2 : ((x : Int) / 2 ^ n) = ((x / 2 ^ n : Nat) : Int) := rfl
 rw [e1, e2, u32_or_nat _ _ (div_lt _ hx) (Nat.mod_lt _ (by decide))]; rfl
theorem rror_any (x n : Nat) (w : World) (hx : x < 4294967296) (h1 : 1 ≤ n) (h2 : n ≤ 31) :
  Calls Tryz.prog 171 #[.int .u32 x, .int .i64 n] w fun e w' => e = .returned (.int .u32 (ror x n : Nat)) ∧ w.drew = w' := by
 obtain ⟨m, hm⟩ : ∃ m, n + m = 32 := ⟨32 - n, by omega⟩
 have hm1 : m ≤ 31 := by omega
 have e32 : IntKind.i64.wrap (32 - (n : Int)) = (m : Int) := by rw [IntWalk.i64_in _ (by omega)]; omega
 have R := hid (rror_bits x n hx h1 h2)
 have HM := hid hm
 clear hm
 go_enter Tryz.func171, Tryz.ntmps171
 go_wp2_with fail
 refine wp_region_still_lit (by kernel_rfl) (by kernel_rfl) ?_
 repeat still_step
 refine wpStill_nil ?_
 change Exit.then _ _ _ _ w.drew
 go_wp2_with fail
 go_ret
 refine ⟨?_, rfl⟩
 rw [← R.out, show 32 - n = m by have := HM.out; omega]; rfl
theorem or_low (a b k : Nat) (hb : b < 2 ^ k) : a * 2 ^ k ||| b = a * 2 ^ k + b := by
 rw [Nat.mul_comm, ← Nat.two_pow_add_eq_or_of_lt hb]
theorem rword_bits (a b c d : Nat) (ha : a < 256) (hb : b < 256) (hc : c < 256) (hd : d < 256) :
  bits .or .u32 (bits .or .u32 (bits .or .u32 (IntKind.u32.wrap ((a : Int) * 16777216)) (IntKind.u32.wrap ((b : Int) * 65536))) (IntKind.u32.wrap ((c : Int) * 256))) (d : Int) = ((((a * 256 + b) * 256 + c) * 256 + d : Nat) : Int) := by
 have e1 : IntKind.u32.wrap ((a : Int) * 16777216) = ((a * 16777216 : Nat) : Int) := by rw [IntKind.wrap_u32']; omega
 have e2 : IntKind.u32.wrap ((b : Int) * 65536) = ((b * 65536 : Nat) : Int) := by rw [IntKind.wrap_u32']; omega
 have e3 : IntKind.u32.wrap ((c : Int) * 256) = ((c * 256 : Nat) : Int) := by rw [IntKind.wrap_u32']; omega
 rw [e1, e2, e3, u32_or_nat _ _ (by omega) (by omega)]
 have o1 : a * 16777216 ||| b * 65536 = a * 16777216 + b * 65536 := or_low a (b * 65536) 24 (by omega)
 rw [o1, u32_or_nat _ _ (by omega) (by omega)]
 have o2 : (a * 16777216 + b * 65536) ||| c * 256 = a * 16777216 + b * 65536 + c * 256 := by
  have := or_low (a * 256 + b) (c * 256) 16 (by omega)
  rw [show (a * 256 + b) * 2 ^ 16 = a * 16777216 + b * 65536 by omega] at this
  exact this
 rw [o2, u32_or_nat _ _ (by omega) (by omega)]
 have o3 : (a * 16777216 + b * 65536 + c * 256) ||| d = a * 16777216 + b * 65536 + c * 256 + d := by
  have := or_low ((a * 256 + b) * 256 + c) d 8 (by omega)
  rw [show ((a * 256 + b) * 256 + c) * 2 ^ 8 = a * 16777216 + b * 65536 + c * 256 by omega] at this
  exact this
 rw [o3]
 exact congrArg Nat.cast (show a * 16777216 + b * 65536 + c * 256 + d = ((a * 256 + b) * 256 + c) * 256 + d by omega)
theorem rword_any (g off c : Nat) (x0 x1 x2 x3 : Nat) (w : World) (h0 : x0 < 256) (h1 : x1 < 256) (h2 : x2 < 256) (h3 : x3 < 256)
  (c0 : w.cell? ⟨g, off, none⟩ = some (.int .u8 x0)) (c1 : w.cell? ⟨g, off + 1, none⟩ = some (.int .u8 x1)) (c2 : w.cell? ⟨g, off + 2, none⟩ = some (.int .u8 x2)) (c3 : w.cell? ⟨g, off + 3, none⟩ = some (.int .u8 x3)) :
  Calls Tryz.prog 170 #[.slice (some ⟨g, off, none⟩) 4 c] w fun e w' => e = .returned (.int .u32 (((x0 * 256 + x1) * 256 + x2) * 256 + x3 : Nat)) ∧ w.drew = w' := by
 have R := hid (rword_bits x0 x1 x2 x3 h0 h1 h2 h3)
 have u0 : IntKind.u32.wrap (x0 : Int) = x0 := by rw [IntKind.wrap_u32']; omega
 have u1 : IntKind.u32.wrap (x1 : Int) = x1 := by rw [IntKind.wrap_u32']; omega
 have u2 : IntKind.u32.wrap (x2 : Int) = x2 := by rw [IntKind.wrap_u32']; omega
 have u3 : IntKind.u32.wrap (x3 : Int) = x3 := by rw [IntKind.wrap_u32']; omega
 go_enter Tryz.func170, Tryz.ntmps170
 go_wp2_with fail
 refine wp_region_still_lit (by kernel_rfl) (by kernel_rfl) ?_
 change wpStill _ _ w.drew (fun a' => Exit.then _ _ _ a' w.drew) _ _
 have c0' : w.drew.cell? ⟨g, off, none⟩ = some (.int .u8 x0) := c0
 have c1' : w.drew.cell? ⟨g, off + 1, none⟩ = some (.int .u8 x1) := c1
 have c2' : w.drew.cell? ⟨g, off + 2, none⟩ = some (.int .u8 x2) := c2
 have c3' : w.drew.cell? ⟨g, off + 3, none⟩ = some (.int .u8 x3) := c3
 generalize hw : w.drew = w1 at *
 have HW := hid hw
 clear hw c0 c1 c2 c3
 repeat still_step
 refine wpStill_nil ?_
 go_wp2_with fail
 go_ret
 refine ⟨?_, HW.out⟩
 rw [← R.out]; rfl
/-- the table K as a value -/
def ksV : Array Value := (ks.map fun x => Value.int .u32 (x : Nat)).toArray
set_option maxRecDepth 100000 in
theorem numbers_any (w : World) : Calls Tryz.prog 172 #[] w fun e w' => e = .returned (.agg ksV) ∧ Below w.heap.size w w' := by
 go_enter Tryz.func172, Tryz.ntmps172
 go_wp2_with (refine wpList_store_row rfl 205 (.tmp 0) (.tmp 1) rfl w.heap.size ksV rfl rfl 205 _ (heap_alloc_new w _) (by kernel_rfl) rfl (by decide +kernel) ?_)
 refine bodyPost_ret (results_cell_row rfl _ _ w.heap.size 205 ksV (0, 0) _ rfl (laid_row w _ ksV 205).2.2 Tryz.underlying205 rfl (by kernel_rfl)) rfl ?_
 exact ⟨rfl, (laid_row w _ ksV 205).1⟩
section
variable {P : Program} {ops : Array Oper} {md : Region.Mode} {C : World → Prop}
def anyHead (P : Program) (md : Region.Mode) (ops : Array Oper) (C : World → Prop) (n : Nat) (L : Array Bool → Act → Prop) : Nat → Array Bool → Act → Prop
 | 0, listed, a => L listed a
 | f + 1, listed, a => Region.ready md ops listed ≠ [] ∧ ∀ i ∈ Region.ready md ops listed, i < n ∧ qOp P ops C i (anyHead P md ops C n L f (listed.setIfInBounds i true)) a
theorem any_of_head {n g : Nat} {L : Array Bool → Act → Prop} {Q' : Exit → Act → World → Prop} (hL : ∀ listed a w, C w → L listed a → wpAny P md ops Q' g listed a w) :
  ∀ (f : Nat) (listed : Array Bool) (a : Act) (w : World), C w → anyHead P md ops C n L f listed a → wpAny P md ops Q' (f + g) listed a w
 | 0, listed, a, w, hw, h => by rw [Nat.zero_add]; exact hL _ _ _ hw h
 | f + 1, listed, a, w, hw, h => by
  rw [show f + 1 + g = (f + g) + 1 by omega]
  exact ⟨fun h0 => absurd h0 h.1, fun i hi => wpOp_of_qOp hw (fun a' w' hw' h' => any_of_head hL f _ a' w' hw' h') (h.2 i hi).2⟩
theorem head_first {n i : Nat} {oi : Oper} {v : Value} {L : Array Bool → Act → Prop} (hi : ops[i]? = some oi) (hsel : ∀ (j : Nat) (o : Oper) cs b, ops[j]? = some o → o.op ≠ .select cs b)
  (hs : Region.sinkB md ops n = true) (hc : Region.chainB md ops n = true) (hn : n < ops.size) (hin : i < n) (hdone : ∀ listed a, L listed a → ∀ j ∈ Region.ready md ops listed, n ≤ j) :
  ∀ (f : Nat) (listed : Array Bool) (a : Act), HeadInv md ops n listed →
   (∀ j oj, ops[j]? = some oj → j ≠ i → listed.getD j true = false → (∀ e ∈ oj.after, Region.binds md e = true → e.on ≠ i) → oi.apart ops oj = true) →
   i ∈ Region.ready md ops listed → YieldsIn P ops C oi v a → anyHead P md ops C n L f (listed.setIfInBounds i true) (a.put oi.dst v) → anyHead P md ops C n L (f + 1) listed a := by
 intro f
 induction f with
 | zero =>
  intro listed a inv _ hr hy H
  have hun := (mem_ready.1 hr).1
  refine ⟨fun h => (by rw [h] at hr; cases hr), fun j hj => ?_⟩
  have hjn : j < n := by
   rcases Nat.lt_or_ge j n with h | h
   ·exact h
   ·exact absurd hj (tail_waits hs hc hn inv _ i rfl hin hun j h)
  refine ⟨hjn, ?_⟩
  by_cases hji : j = i
  ·subst hji; exact hy.qOp hi H
  ·have := hdone _ _ H j (ready_mono hj hji)
   omega
 | succ f ih =>
  intro listed a inv hfree hr hy H
  have hun := (mem_ready.1 hr).1
  refine ⟨fun h => (by rw [h] at hr; cases hr), fun j hj => ?_⟩
  have hjn : j < n := by
   rcases Nat.lt_or_ge j n with h | h
   ·exact h
   ·exact absurd hj (tail_waits hs hc hn inv _ i rfl hin hun j h)
  refine ⟨hjn, ?_⟩
  by_cases hji : j = i
  ·subst hji; exact hy.qOp hi H
  ·have h1 := (H.2 j (ready_mono hj hji)).2
   obtain ⟨hjun, oj, hoj, hall⟩ := mem_ready.1 hj
   have hnot : ∀ e ∈ oj.after, Region.binds md e = true → e.on ≠ i := fun e he hb heq => by
    have h1 := hall e he hb
    rw [heq, getD_both hun] at h1
    cases h1
   have h2 := qOp_put hoj (hfree j oj hoj hji hjun hnot) (fun cs b => hsel i oi cs b hi) (fun cs b => hsel j oj cs b hoj) hy h1
   have hfree' : ∀ k ok, ops[k]? = some ok → k ≠ i → (listed.setIfInBounds j true).getD k true = false →
     (∀ e ∈ ok.after, Region.binds md e = true → e.on ≠ i) → oi.apart ops ok = true := fun k ok hk hki hun hno => by
    refine hfree k ok hk hki ?_ hno
    by_cases hjk : j = k
    ·subst hjk; exact hjun
    ·rw [getD_set_ne true hjk] at hun; exact hun
   refine qOp_mono (fun a' h3 => ih (listed.setIfInBounds j true) a' (inv.set hj hjn) hfree' (ready_mono hr (Ne.symm hji)) h3.1 ?_) h2
   rw [Array.setIfInBounds_comm _ _ hji]
   exact h3.2
theorem head_lex {n g : Nat} {Lq : Act → Prop} (hsel : Region.noSelect ops = true) (hs : Region.sinkB md ops n = true) (hc : Region.chainB md ops n = true) (hn : n < ops.size) :
  ∀ (l : List Oper) (k : Nat) (listed : Array Bool) (a : Act), (∀ j, j < l.length → l[j]? = ops[k + j]?) → k + l.length = n → HeadInv md ops n listed →
  Region.lexHead md ops g l.length k listed = true → wpQuiet P ops C Lq l a → anyHead P md ops C n (fun listed' a' => Region.seqB md ops g n listed' = true ∧ Lq a') l.length listed a
 | [], k, listed, a, _, hk, _, hB, h => by
  have : k = n := by simpa using hk
  subst this
  exact ⟨by simpa [Region.lexHead] using hB, h⟩
 | o :: l, k, listed, a, hl, hk, inv, hB, h => by
  have h0 : ops[k]? = some o := by simpa using (hl 0 (by simp)).symm
  simp only [List.length_cons, Region.lexHead, Bool.and_eq_true] at hB
  obtain ⟨⟨hr, hf⟩, hB'⟩ := hB
  have hkn : k < n := by simp only [List.length_cons] at hk; omega
  have hr' : k ∈ Region.ready md ops listed := by simpa using hr
  have hst : qOp P ops C k (wpQuiet P ops C Lq l) a := by unfold qOp; simp only [h0]; exact h
  obtain ⟨v, hy, hK⟩ := yieldsIn_of_qOp h0 hst
  exact head_first h0 (Region.noSelect_spec hsel) hs hc hn hkn (fun listed' a' hL => seqB_ready hL.1) l.length listed a inv (Region.free_spec h0 hf) hr' hy
   (head_lex hsel hs hc hn l (k + 1) _ _ (fun j hj => by have := hl (j + 1) (by simp; omega); simpa [Nat.add_assoc, Nat.add_comm 1 j] using this) (by simp only [List.length_cons] at hk; omega) (inv.set hr' hkn) hB' hK)
/-- the head is quiet in the class, the tail follows in every world of it -/
theorem region_quiet_tail {id : Nat} {Q : Exit → Act → World → Prop} {a : Act} {w : World} {l : List Oper} (n : Nat) (C : World → Prop) (hm : P.follows .mixedOrders = true) (hB : Region.lexTailB .any l.toArray n = true) (hC : C w.drew)
  (h : wpQuiet P l.toArray C (fun a' => ∀ w', C w' → wpList P l.toArray Q (l.drop n) a' w') (l.take n) a) : (Code.region id l.toArray true).wp P Q a w := by
 simp only [Region.lexTailB, Bool.and_eq_true, decide_eq_true_eq] at hB
 obtain ⟨⟨⟨⟨hsel, hn⟩, hs⟩, hc⟩, hlex⟩ := hB
 have hn' : n < l.length := by simpa using hn
 have htl : (l.take n).length = n := by simp; omega
 have hdl : (l.drop n).length = l.toArray.size - n := by simp
 have inv0 : HeadInv .any l.toArray n (Array.replicate l.toArray.size false) :=
  ⟨by simp, fun j oj _ hl => (by rw [getD_replicate_false] at hl; cases hl), fun t _ ht => getD_in (by simpa using ht) (getD_replicate_false _ _)⟩
 have H := head_lex (md := .any) (g := l.toArray.size - n) hsel hs hc hn (l.take n) 0 _ a (fun j hj => by
  have hj' : j < n := by rw [htl] at hj; exact hj
  simp [hj']) (by simpa using htl) inv0 (by rw [htl]; exact hlex) h
 refine wp_region_any hm ?_
 have := any_of_head (Q' := Q) (g := l.toArray.size - n) (fun listed a' w' hw' hL => by
  have := wpAny_of_seq (md := .any) (Q' := Q) (l.drop n) n listed a' w' (fun j => by simp [List.getElem?_drop]) (by rw [hdl]; exact hL.1) (hL.2 w' hw')
  rwa [hdl] at this) _ _ _ _ hC H
 rw [htl, show n + (l.toArray.size - n) = l.toArray.size by omega] at this
 exact this
end
end Go.Proofs.YtmfmgeapecapiaaGreatDoor
