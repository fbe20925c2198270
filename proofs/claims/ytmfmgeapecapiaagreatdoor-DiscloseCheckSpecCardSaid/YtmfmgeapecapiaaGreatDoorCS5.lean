/- sizar/digest.Tree. Slices of digests: built, appended, reversed. sizar/digest.Path. -/
import Derived.Test.YtmfmgeapecapiaaGreatDoorCS4
set_option maxHeartbeats 16000001
namespace Go.Proofs.YtmfmgeapecapiaaGreatDoor
open Go.RowKit SzSha SzTree
set_option linter.unusedVariables false
set_option maxRecDepth 100000
/-- lists of digests -/
def flatD (ls : List Dg) : List Value := ls.flatMap dgC
structure InD (w : World) (A : Option Addr) (n c : Nat) (ls : List Dg) : Prop where
 len : ls.length = n
 cap : n ≤ c
 none_ : A = none → c = 0
 ok : ∀ x ∈ ls, DgOk x
 rd : 0 < ls.length → ∃ g off, A = some ⟨g, off, none⟩ ∧ g < w.heap.size ∧ w.rangeAt g off (flatD ls)
theorem InD.below {w w' : World} {A : Option Addr} {n c : Nat} {ls : List Dg} (h : InD w A n c ls) (hb : Below w.heap.size w w') : InD w' A n c ls :=
 ⟨h.len, h.cap, h.none_, h.ok, fun h0 => by
  obtain ⟨g, off, e, hg, hr⟩ := h.rd h0
  exact ⟨g, off, e, Nat.lt_of_lt_of_le hg hb.size, rangeAt_below hr hg hb⟩⟩
theorem flatD_append (a b : List Dg) : flatD (a ++ b) = flatD a ++ flatD b := by unfold flatD; rw [List.flatMap_append]
theorem flatD_length : ∀ (ls : List Dg), (∀ x ∈ ls, DgOk x) → (flatD ls).length = ls.length * 32
 | [], _ => rfl
 | n :: ls, ho => by
  have h1 : (dgC n).length = 32 := by rw [dgC_length]; exact (ho n (by simp)).len
  have h2 : (ls.flatMap dgC).length = ls.length * 32 := flatD_length ls (fun x hx => ho x (List.mem_cons_of_mem _ hx))
  show ((n :: ls).flatMap dgC).length = _
  rw [List.flatMap_cons, List.length_append, h1, h2, List.length_cons]; omega
theorem InD.take {w : World} {g off n c : Nat} {ls : List Dg} (h : InD w (some ⟨g, off, none⟩) n c ls) (k : Nat) (hk : k ≤ n) : InD w (some ⟨g, off, none⟩) k c (ls.take k) :=
 ⟨by rw [List.length_take, h.len]; omega, by have := h.cap; omega, (fun e => by cases e), fun x hx => h.ok x (List.mem_of_mem_take hx), fun h0 => by
  rw [List.length_take] at h0
  obtain ⟨g', off', e, hg, hr⟩ := h.rd (by omega)
  cases e
  refine ⟨g, off, rfl, hg, fun j v hj => hr j v ?_⟩
  have e2 : flatD ls = flatD (ls.take k) ++ flatD (ls.drop k) := by rw [← flatD_append, List.take_append_drop]
  rw [e2, List.getElem?_append_left (List.getElem?_eq_some_iff.1 hj).1]; exact hj⟩
theorem InD.drop {w : World} {g off n c : Nat} {ls : List Dg} (h : InD w (some ⟨g, off, none⟩) n c ls) (k : Nat) (hk : k ≤ n) : InD w (some ⟨g, off + k * 32, none⟩) (n - k) (c - k) (ls.drop k) :=
 ⟨by rw [List.length_drop, h.len], by have := h.cap; omega, (fun e => by cases e), fun x hx => h.ok x (List.mem_of_mem_drop hx), fun h0 => by
  rw [List.length_drop] at h0
  obtain ⟨g', off', e, hg, hr⟩ := h.rd (by omega)
  cases e
  refine ⟨g, off + k * 32, rfl, hg, fun j v hj => ?_⟩
  have e2 : flatD ls = flatD (ls.take k) ++ flatD (ls.drop k) := by rw [← flatD_append, List.take_append_drop]
  have e3 : (flatD (ls.take k)).length = k * 32 := by
   rw [flatD_length _ (fun x hx => h.ok x (List.mem_of_mem_take hx)), List.length_take, h.len]
   rw [show min k n = k by omega]
  rw [Nat.add_assoc]
  refine hr (k * 32 + j) v ?_
  rw [e2, List.getElem?_append_right (by omega), e3, Nat.add_sub_cancel_left]; exact hj⟩
theorem rangeD_one {w : World} {g off : Nat} {ls : List Dg} (hr : w.rangeAt g off (flatD ls)) (ho : ∀ x ∈ ls, DgOk x) (k : Nat) (hk : k < ls.length) : w.rangeAt g (off + k * 32) (dgC ls[k]) := fun j v hj => by
 have hj2 : j < 32 := by have := (List.getElem?_eq_some_iff.1 hj).1; rw [dgC_length, (ho _ (List.getElem_mem hk)).len] at this; exact this
 rw [Nat.add_assoc]
 refine hr (k * 32 + j) v ?_
 have e1 : ls = ls.take k ++ (ls[k] :: ls.drop (k + 1)) := by rw [← List.drop_eq_getElem_cons hk, List.take_append_drop]
 have e3 : (flatD (ls.take k)).length = k * 32 := by
  rw [flatD_length _ (fun x hx => ho x (List.mem_of_mem_take hx)), List.length_take, show min k ls.length = k by omega]
 have e2 : flatD ls = flatD (ls.take k) ++ (dgC ls[k] ++ flatD (ls.drop (k + 1))) := by
  conv => lhs; rw [e1]
  rw [flatD_append]; rfl
 rw [e2, List.getElem?_append_right (by omega), e3, Nat.add_sub_cancel_left, List.getElem?_append_left (by rw [dgC_length, (ho _ (List.getElem_mem hk)).len]; exact hj2)]
 exact hj
theorem dgC_infoL {l : List Nat} (h : DgOk l) : (Tryz.prog.info? 25).map (·.size) = some (dgC l).length := by have := dgC_info h; simpa using this
def wDt (W0 : World) (br : Nat) (g : Nat) (off : Nat) (n : Nat) (c : Nat) (k : Nat) (a : List Nat) (b : List Nat) (r : List Nat) : Nat → Value → World → Prop
 | 0, fv, _ => fv = .slice (some ⟨g, off, none⟩) n c
 | 1, fv, _ => fv = .int .i64 ((k : Nat))
 | 2, fv, _ => fv = .slice (some ⟨g, off, none⟩) k c
 | 3, fv, _ => fv = dgV a
 | 4, fv, _ => fv = .slice (some ⟨g, off, none⟩) n c
 | 5, fv, _ => fv = .int .i64 ((k : Nat))
 | 6, fv, _ => fv = .slice (some ⟨g, off + k * 32, none⟩) (n - k) (c - k)
 | 7, fv, _ => fv = dgV b
 | 8, fv, _ => fv = dgV r
 | 9, fv, fw => fw.heap[br]? = some (.cells (dgC r).toArray 25 (0, 0)) ∧ Below W0.heap.size W0 fw
 | _, _, _ => True
theorem wDt_below {W0 : World} {br : Nat} {g : Nat} {off : Nat} {n : Nat} {c : Nat} {k : Nat} {a : List Nat} {b : List Nat} {r : List Nat} {w w' : World} (hb : Below w.heap.size w w') : ∀ j v, wDt W0 br g off n c k a b r j v w → wDt W0 br g off n c k a b r j v w'
 | 0, v, h => h
 | 1, v, h => h
 | 2, v, h => h
 | 3, v, h => h
 | 4, v, h => h
 | 5, v, h => h
 | 6, v, h => h
 | 7, v, h => h
 | 8, v, h => h
 | 9, v, h => ⟨row_kept h.1 hb, h.2.trans (hb.mono h.2.size)⟩
 | n + 10, v, h => trivial
theorem wDt_pure {W0 : World} {br : Nat} {g : Nat} {off : Nat} {n : Nat} {c : Nat} {k : Nat} {a : List Nat} {b : List Nat} {r : List Nat} {w w' : World} : ∀ j v, j ≠ 9 → wDt W0 br g off n c k a b r j v w → wDt W0 br g off n c k a b r j v w'
 | 0, v, _, h => h
 | 1, v, _, h => h
 | 2, v, _, h => h
 | 3, v, _, h => h
 | 4, v, _, h => h
 | 5, v, _, h => h
 | 6, v, _, h => h
 | 7, v, _, h => h
 | 8, v, _, h => h
 | 9, v, hh, _ => absurd rfl hh
 | n + 10, v, _, h => trivial
theorem dtree_nil (A : Option Addr) (c : Nat) (w : World) (hT : Hid (Tabs w)) :
  Calls Tryz.prog 40 #[.slice A 0 c] w fun e w' => e = .returned (dgV (treeD [])) ∧ Below w.heap.size w w' := by
 have HB0 := Lib.hid ((Below.refl _ w).alloc (Nat.le_refl _) (.cells (dgC zeroD).toArray 25))
 have HR0 := Lib.hid (heap_alloc_new w (.cells (dgC zeroD).toArray 25))
 have HT1 := Lib.hid (hT.out.below HB0.out)
 rw [zeroD_cells] at HB0 HR0 HT1
 have HS1 := Lib.hid (dgC_info (treeD_okD []))
 have HS2 := Lib.hid (dgC_size (treeD_okD []))
 rw [treeD_nil] at HS1 HS2 ⊢
 go_enter Tryz.func40, Tryz.ntmps40
 go_wp2_with fail
 generalize w.alloc (.cells #[.int .u8 0, .int .u8 0, .int .u8 0, .int .u8 0, .int .u8 0, .int .u8 0, .int .u8 0, .int .u8 0, .int .u8 0, .int .u8 0, .int .u8 0, .int .u8 0, .int .u8 0, .int .u8 0, .int .u8 0, .int .u8 0, .int .u8 0, .int .u8 0, .int .u8 0, .int .u8 0, .int .u8 0, .int .u8 0, .int .u8 0, .int .u8 0, .int .u8 0, .int .u8 0, .int .u8 0, .int .u8 0, .int .u8 0, .int .u8 0, .int .u8 0, .int .u8 0] 25) = W1 at *
 refine (tagged_any emptyTag none 0 0 [] W1 (by decide) (Lib.hid rfl) (Nat.le_refl _) (fun _ => rfl) (by omega) (Lib.hid (fun x hx => by cases hx)) HT1 (Lib.hid (fun h => by simp at h))).mono ?_
 rintro e w2 ⟨rfl, hq⟩
 rw [emptyTag_d]
 have HB2 := Lib.hid (HB0.out.trans (hq.mono HB0.out.size))
 have HR2 := Lib.hid (row_kept HR0.out hq)
 clear hq
 rw [dgV_agg]
 go_wp2_with (refine wpList_store_row rfl 25 (.tmp 2) (.tmp 8) rfl w.heap.size (dgC emptyD).toArray rfl rfl 25 _ HR2.out HS1.out HS2.out (dgC_one _) ?_)
 refine bodyPost_ret (results_cell_row rfl _ _ w.heap.size 25 _ (0, 0) _ rfl (setRow_heap w2 w.heap.size _ _ _ _ HR2.out) Tryz.underlying25 rfl HS1.out) rfl ?_
 exact ⟨rfl, below_setRow HB2.out (Nat.le_refl _) _⟩
theorem dtree_any : ∀ (m : Nat) (ls : List Dg) (A : Option Addr) (n c : Nat) (w : World), n ≤ m → n ≤ 1099511627776 → Hid (InD w A n c ls) → Hid (Tabs w) →
  Calls Tryz.prog 40 #[.slice A n c] w fun e w' => e = .returned (dgV (treeD ls)) ∧ Below w.heap.size w w' := by
 intro m
 induction m with
 | zero =>
  intro ls A n c w h1 h2 h hT
  have h0 : n = 0 := by omega
  have hl : ls = [] := List.eq_nil_of_length_eq_zero (by rw [h.out.len]; exact h0)
  subst hl
  subst h0
  exact dtree_nil A c w hT
 | succ m ih =>
  intro ls A n c w hm hn h hT
  have HNE := Lib.hid (show ls.length = n from h.out.len)
  by_cases hz : n = 0
  ·have hl : ls = [] := List.eq_nil_of_length_eq_zero (by rw [HNE.out]; exact hz)
   subst hl
   subst hz
   exact dtree_nil A c w hT
  obtain ⟨g, off, rfl, hg, hr⟩ := h.out.rd (by rw [h.out.len]; omega)
  have hcap := h.out.cap
  clear hr
  have HB0 := Lib.hid ((Below.refl _ w).alloc (Nat.le_refl _) (.cells (dgC zeroD).toArray 25))
  have HR0 := Lib.hid (heap_alloc_new w (.cells (dgC zeroD).toArray 25))
  have HIN := Lib.hid (h.out.below HB0.out)
  have HT1 := Lib.hid (hT.out.below HB0.out)
  rw [zeroD_cells] at HB0 HR0 HIN HT1
  have d0 : ((n : Int) == 0) = false := beq_false_of_ne (by omega)
  have d00 : decide ((n : Int) = 0) = false := decide_eq_false (by omega)
  by_cases h2 : 2 ≤ n
  ·have d1 : decide ((n : Int) = 1) = false := decide_eq_false (by omega)
   have d11 : ((n : Int) == 1) = false := beq_false_of_ne (by omega)
   go_enter Tryz.func40, Tryz.ntmps40
   go_wp2_with fail
   generalize w.alloc (.cells #[.int .u8 0, .int .u8 0, .int .u8 0, .int .u8 0, .int .u8 0, .int .u8 0, .int .u8 0, .int .u8 0, .int .u8 0, .int .u8 0, .int .u8 0, .int .u8 0, .int .u8 0, .int .u8 0, .int .u8 0, .int .u8 0, .int .u8 0, .int .u8 0, .int .u8 0, .int .u8 0, .int .u8 0, .int .u8 0, .int .u8 0, .int .u8 0, .int .u8 0, .int .u8 0, .int .u8 0, .int .u8 0, .int .u8 0, .int .u8 0, .int .u8 0, .int .u8 0] 25) = W1 at *
   refine (dhalf_any n _ h2 (by omega)).mono ?_
   rintro e w2 ⟨rfl, hw1⟩
   subst hw1
   obtain ⟨k, HK⟩ : ∃ k, Hid (half n = k) := ⟨_, Lib.hid rfl⟩
   have hkb := half_bd h2
   rw [HK.out] at hkb
   rw [HK.out]
   have HT2 := Lib.hid (HIN.out.take k (by omega))
   have HT3 := Lib.hid (HIN.out.drop k (by omega))
   have HRT : Hid (nodeD (treeD (ls.take k)) (treeD (ls.drop k)) = treeD ls) := Lib.hid (by rw [treeD_two (l := ls) (by rw [HNE.out]; exact h2), HNE.out, HK.out])
   have HOA := Lib.hid (treeD_okD (ls.take k))
   have HOB := Lib.hid (treeD_okD (ls.drop k))
   have HRO := Lib.hid (treeD_okD ls)
   obtain ⟨a, HA⟩ : ∃ a, Hid (treeD (ls.take k) = a) := ⟨_, Lib.hid rfl⟩
   obtain ⟨b, HB⟩ : ∃ b, Hid (treeD (ls.drop k) = b) := ⟨_, Lib.hid rfl⟩
   obtain ⟨r, HR⟩ : ∃ r, Hid (treeD ls = r) := ⟨_, Lib.hid rfl⟩
   rw [HA.out, HB.out, HR.out] at HRT
   rw [HA.out] at HOA
   rw [HB.out] at HOB
   rw [HR.out] at HRO
   have HS1 := Lib.hid (dgC_info HRO.out)
   have HS2 := Lib.hid (dgC_size HRO.out)
   go_wp2_with fail
   refine region_flow3 (by kernel_rfl) (by kernel_rfl) (fun i => Nat.beq i 9) (fun i => i) (by kernel_rfl) (fun fx => #[.slice (some { block := g, off := off }) n c, undef, .pointer (some { block := w.heap.size, off := 0 }), .int IntKind.i64 ↑k, .slice (some { block := g, off := off }) n c, .int IntKind.i64 ↑n, .bool false, .bool false, undef, .bool false, .bool false, undef, undef, undef, undef, .slice (some { block := g, off := off }) n c, .int IntKind.i64 ↑n, .int IntKind.i64 ↑k, fx 0, fx 1, fx 2, fx 3, fx 4, fx 5, fx 6, fx 7, fx 8]) (fun _ => undef) (fun L fx w' => (L 9 = false → Below W1.heap.size W1 w')) (fun fi fv _ fw => wDt w w.heap.size g off n c k a b r fi fv fw) (fun _ => (Below.refl _ _).drew) ?_ ?_
   ·refine ⟨?_, ?_, ?_, ?_, ?_, ?_, ?_, ?_, ?_, ?_, trivial⟩
    all_goals intro L fx w' hC hi hcl hdn hd
    ·have hnd : L 9 = false := Bool.eq_false_iff.2 (fun h => by have := (hcl 2 0 (hcl 3 2 (hcl 8 3 (hcl 9 8 h (by kernel_rfl)) (by kernel_rfl)) (by kernel_rfl)) (by kernel_rfl)); rw [hi] at this; cases this)
     go_wp2_with fail
     exact ⟨_, rfl, (fun _ => hC hnd), rfl, kP⟩
    ·have hnd : L 9 = false := Bool.eq_false_iff.2 (fun h => by have := (hcl 2 1 (hcl 3 2 (hcl 8 3 (hcl 9 8 h (by kernel_rfl)) (by kernel_rfl)) (by kernel_rfl)) (by kernel_rfl)); rw [hi] at this; cases this)
     go_wp2_with fail
     exact ⟨_, rfl, (fun _ => hC hnd), rfl, kP⟩
    ·have h0 : fx 0 = .slice (some ⟨g, off, none⟩) n c := hd.1 rfl
     have h1 : fx 1 = .int .i64 ((k : Nat)) := hd.2.1 rfl
     have hnd : L 9 = false := Bool.eq_false_iff.2 (fun h => by have := (hcl 3 2 (hcl 8 3 (hcl 9 8 h (by kernel_rfl)) (by kernel_rfl)) (by kernel_rfl)); rw [hi] at this; cases this)
     go_wp2_with fail
     exact ⟨_, by simp only [upd, h0, h1]; rfl, (fun _ => hC hnd), rfl, kP⟩
    ·have h2 : fx 2 = .slice (some ⟨g, off, none⟩) k c := hd.1 rfl
     have hnd : L 9 = false := Bool.eq_false_iff.2 (fun h => by have := (hcl 8 3 (hcl 9 8 h (by kernel_rfl)) (by kernel_rfl)); rw [hi] at this; cases this)
     have hb12 := hC hnd
     have HIk := Lib.hid (HT2.out.below hb12)
     have HTk := Lib.hid (HT1.out.below hb12)
     go_wp2_with fail
     refine (ih (ls.take k) _ k c w' (by omega) (by omega) HIk HTk).mono ?_
     rintro e w2 ⟨rfl, hq⟩
     rw [HA.out]
     go_wp2_with fail
     exact ⟨_, by simp only [upd, h2]; rfl, fun _ => hb12.trans (hq.mono hb12.size), rfl, fun j v t _ _ h => wDt_below hq j v h⟩
    ·have hnd : L 9 = false := Bool.eq_false_iff.2 (fun h => by have := (hcl 6 4 (hcl 7 6 (hcl 8 7 (hcl 9 8 h (by kernel_rfl)) (by kernel_rfl)) (by kernel_rfl)) (by kernel_rfl)); rw [hi] at this; cases this)
     go_wp2_with fail
     exact ⟨_, rfl, (fun _ => hC hnd), rfl, kP⟩
    ·have hnd : L 9 = false := Bool.eq_false_iff.2 (fun h => by have := (hcl 6 5 (hcl 7 6 (hcl 8 7 (hcl 9 8 h (by kernel_rfl)) (by kernel_rfl)) (by kernel_rfl)) (by kernel_rfl)); rw [hi] at this; cases this)
     go_wp2_with fail
     exact ⟨_, rfl, (fun _ => hC hnd), rfl, kP⟩
    ·have h4 : fx 4 = .slice (some ⟨g, off, none⟩) n c := hd.1 rfl
     have h5 : fx 5 = .int .i64 ((k : Nat)) := hd.2.1 rfl
     have hnd : L 9 = false := Bool.eq_false_iff.2 (fun h => by have := (hcl 7 6 (hcl 8 7 (hcl 9 8 h (by kernel_rfl)) (by kernel_rfl)) (by kernel_rfl)); rw [hi] at this; cases this)
     go_wp2_with fail
     exact ⟨_, by simp only [upd, h4, h5]; rfl, (fun _ => hC hnd), rfl, kP⟩
    ·have h6 : fx 6 = .slice (some ⟨g, off + k * 32, none⟩) (n - k) (c - k) := hd.1 rfl
     have hnd : L 9 = false := Bool.eq_false_iff.2 (fun h => by have := (hcl 8 7 (hcl 9 8 h (by kernel_rfl)) (by kernel_rfl)); rw [hi] at this; cases this)
     have hb12 := hC hnd
     have HIk := Lib.hid (HT3.out.below hb12)
     have HTk := Lib.hid (HT1.out.below hb12)
     go_wp2_with fail
     refine (ih (ls.drop k) _ (n - k) (c - k) w' (by omega) (by omega) HIk HTk).mono ?_
     rintro e w2 ⟨rfl, hq⟩
     rw [HB.out]
     go_wp2_with fail
     exact ⟨_, by simp only [upd, h6]; rfl, fun _ => hb12.trans (hq.mono hb12.size), rfl, fun j v t _ _ h => wDt_below hq j v h⟩
    ·have h3 : fx 3 = dgV a := hd.1 rfl
     have h7 : fx 7 = dgV b := hd.2.1 rfl
     have hnd : L 9 = false := Bool.eq_false_iff.2 (fun h => by have := (hcl 9 8 h (by kernel_rfl)); rw [hi] at this; cases this)
     have hb12 := hC hnd
     have HTk := Lib.hid (HT1.out.below hb12)
     go_wp2_with fail
     refine (dnode_any a b w' HOA HOB HTk).mono ?_
     rintro e w2 ⟨rfl, hq⟩
     rw [HRT.out]
     go_wp2_with fail
     exact ⟨_, by simp only [upd, h3, h7]; rfl, fun _ => hb12.trans (hq.mono hb12.size), rfl, fun j v t _ _ h => wDt_below hq j v h⟩
    ·have h8 : fx 8 = dgV r := hd.1 rfl
     have hb21 := hC hi
     have hrow := row_kept HR0.out hb21
     refine wpList_store_row rfl 25 (.tmp 2) (.tmp 26) rfl w.heap.size (dgC r).toArray rfl h8 25 _ hrow HS1.out HS2.out (dgC_one _) ?_
     clear hd
     go_wp2_with fail
     refine ⟨undef, by rw [← h8]; rfl, fun h => (updB_self h).elim, ⟨setRow_heap _ _ _ _ _ _ hrow, below_setRow (HB0.out.trans (hb21.mono HB0.out.size)) (Nat.le_refl _) _⟩, fun j v t hj hu h => ?_⟩
     refine wDt_pure j v ?_ h
     intro e
     subst e
     rw [hi] at hj; cases hj
   ·intro L fx w' hC hS
    have H9 := Lib.hid (hS 9 (by decide) rfl)
    clear hS hC
    go_wp2_with fail
    refine bodyPost_ret (results_cell_row rfl _ _ w.heap.size 25 _ (0, 0) _ rfl H9.out.1 Tryz.underlying25 rfl HS1.out) rfl ?_
    exact ⟨by rw [HR.out]; rfl, H9.out.2⟩
  ·have hn1 : n = 1 := by omega
   subst hn1
   obtain ⟨x, HX⟩ : ∃ x, Hid (ls = [x]) := (List.length_eq_one_iff.1 HNE.out).imp fun _ h => Lib.hid h
   have HXO : Hid (DgOk x) := Lib.hid (h.out.ok x (by rw [HX.out]; simp))
   obtain ⟨g', off', e, hg', hr⟩ := HIN.out.rd (by rw [HNE.out]; omega)
   cases e
   have HRX : Hid ((w.alloc (.cells #[.int .u8 0, .int .u8 0, .int .u8 0, .int .u8 0, .int .u8 0, .int .u8 0, .int .u8 0, .int .u8 0, .int .u8 0, .int .u8 0, .int .u8 0, .int .u8 0, .int .u8 0, .int .u8 0, .int .u8 0, .int .u8 0, .int .u8 0, .int .u8 0, .int .u8 0, .int .u8 0, .int .u8 0, .int .u8 0, .int .u8 0, .int .u8 0, .int .u8 0, .int .u8 0, .int .u8 0, .int .u8 0, .int .u8 0, .int .u8 0, .int .u8 0, .int .u8 0] 25)).rangeAt g off (dgC x)) := Lib.hid (by
    have := rangeD_one hr h.out.ok 0 (by rw [HNE.out]; omega)
    simpa [HX.out] using this)
   have HS1 := Lib.hid (dgC_info (leafD_ok x))
   have HS2 := Lib.hid (dgC_size (leafD_ok x))
   have HSX := Lib.hid (dgC_infoL HXO.out)
   clear hr
   go_enter Tryz.func40, Tryz.ntmps40
   go_wp2_with (with_reducible refine wpList_load_mid rfl 25 (.tmp 12) rfl g off rfl (dgC x) _ HRX.out Tryz.underlying25 rfl HSX.out ?_)
   rw [← dgV_agg]
   refine (dleaf_any x _ HXO HT1).mono ?_
   rintro e w2 ⟨rfl, hq⟩
   have HB2 := Lib.hid (HB0.out.trans (hq.mono HB0.out.size))
   have HR2 := Lib.hid (row_kept HR0.out hq)
   clear hq
   rw [dgV_agg]
   go_wp2_with (refine wpList_store_row rfl 25 (.tmp 2) (.tmp 14) rfl w.heap.size (dgC (leafD x)).toArray rfl rfl 25 _ HR2.out HS1.out HS2.out (dgC_one _) ?_)
   refine bodyPost_ret (results_cell_row rfl _ _ w.heap.size 25 _ (0, 0) _ rfl (setRow_heap w2 w.heap.size _ _ _ _ HR2.out) Tryz.underlying25 rfl HS1.out) rfl ?_
   exact ⟨by rw [HX.out, treeD_one]; rfl, below_setRow HB2.out (Nat.le_refl _) _⟩
theorem dgC_len {l : List Nat} (h : DgOk l) : (dgC l).length = 32 := by rw [dgC_length]; exact h.len
theorem dg_cells (l : List Nat) : (dgV l).cells = (dgC l).toArray := rfl
theorem flatD_get : ∀ (ls : List Dg), (∀ x ∈ ls, DgOk x) → ∀ (k : Nat) (hk : k < ls.length) (j : Nat) (v : Value), (dgC ls[k])[j]? = some v → (flatD ls)[k * 32 + j]? = some v := fun ls ho k hk j v hj => by
 have hj2 : j < 32 := by have := (List.getElem?_eq_some_iff.1 hj).1; rw [dgC_length, (ho _ (List.getElem_mem hk)).len] at this; exact this
 have e1 : ls = ls.take k ++ (ls[k] :: ls.drop (k + 1)) := by rw [← List.drop_eq_getElem_cons hk, List.take_append_drop]
 have e3 : (flatD (ls.take k)).length = k * 32 := by
  rw [flatD_length _ (fun x hx => ho x (List.mem_of_mem_take hx)), List.length_take, show min k ls.length = k by omega]
 have e2 : flatD ls = flatD (ls.take k) ++ (dgC ls[k] ++ flatD (ls.drop (k + 1))) := by
  conv => lhs; rw [e1]
  rw [flatD_append]; rfl
 rw [e2, List.getElem?_append_right (by omega), e3, Nat.add_sub_cancel_left, List.getElem?_append_left (by rw [dgC_length, (ho _ (List.getElem_mem hk)).len]; exact hj2)]
 exact hj
theorem info_dig : ∃ i, Tryz.prog.info? 25 = some i ∧ i.zero = some (.agg (Array.replicate 32 (.int .u8 0))) ∧ i.size = 32 ∧ i.bytes = 32 := by
 refine ⟨_, rfl, ?_, ?_, ?_⟩ <;> kernel_rfl
theorem fill_dig1 {n : Dg} (hn : DgOk n) {i : TypeInfo} {z : Value} (hs : i.size = 32) : Instr.fill (fun j => some (j * i.size, i.size)) ((Array.range (1 * i.size)).map (z.cells[· % z.cells.size]!)) [(0, dgV n)] = some (flatD [n]).toArray := by
 rw [hs]
 have e1 : ([(0, dgV n)] : List (Nat × Value)) = (([dgV n] : List Value).zipIdx 0).map fun x => (x.2, x.1) := by simp
 rw [e1, Great.fill_whole (by omega) [dgV n] _ (fun v hv => by
  simp only [List.mem_cons, List.not_mem_nil, or_false] at hv
  subst hv
  rw [dg_cells]; simpa using dgC_len hn) (by simp)]
 rfl
theorem wpList_build_digs1 {w : World} {ops : Array Oper} {rest : List Oper} {o : Oper} {a : Act} {Q : Exit → Act → World → Prop} (hg : o.guard = none) (x : Operand)
  (ho : o.op = .buildSlice 46 1 #[(0, x)]) (n : Dg) (hx : a.eval x = dgV n) (hn : DgOk n)
  (h : wpList Tryz.prog ops Q rest (a.put o.dst (.slice (some ⟨w.heap.size, 0, none⟩) 1 1)) (w.alloc (.cells (flatD [n]).toArray 25))) : wpList Tryz.prog ops Q (o :: rest) a w := by
 obtain ⟨i0, hi, hz, hs, _⟩ := info_dig
 refine wpList_buildSlice hg 46 25 1 _ ho _ i0 _ Tryz.underlying46 hi hz (by rw [hs]; omega) (by rw [hs]; omega) ?_ h
 have e1 : (#[(0, x)].map fun (i, x) => (i, a.eval x)).toList = [(0, dgV n)] := by simp [hx]
 rw [e1]; exact fill_dig1 hn hs
/-- a slice of nodes that the call made -/
def OwnD (w : World) (base : Nat) (v : Value) (ls : List Dg) : Prop := w.ownsRow base 25 32 v ls.length (flatD ls)
theorem OwnD.nil (w : World) (base : Nat) : OwnD w base (.slice none 0 0) [] := ⟨rfl, .inl ⟨rfl, rfl⟩⟩
theorem flatD_one (ls : List Dg) : ∀ u ∈ flatD ls, u.oneCell' = true := fun u hu => by
 obtain ⟨n, _, h⟩ := List.mem_flatMap.1 hu
 have := dgC_one n
 rw [Array.all_eq_true_iff_forall_mem] at this
 exact this u (by simpa using h)
theorem OwnD.kept {w w' : World} {base : Nat} {v : Value} {ls : List Dg} (h : OwnD w base v ls) (hk : ∀ g, v.ownBlock = some g → w'.heap[g]? = w.heap[g]?) : OwnD w' base v ls := by
 refine ⟨h.1, ?_⟩
 rcases h.2 with h0 | ⟨g, cap, cur, rfl, hb, hh, r⟩
 ·exact .inl h0
 ·exact .inr ⟨g, cap, cur, rfl, hb, (hk g rfl).trans hh, r⟩
theorem OwnD.block {w : World} {base : Nat} {v : Value} {ls : List Dg} (h : OwnD w base v ls) (g : Nat) (hg : v.ownBlock = some g) : base ≤ g ∧ g < w.heap.size ∧ ∃ cur, w.heap[g]? = some (.cells cur 25 (0, 0)) := by
 rcases h.2 with ⟨rfl, h0⟩ | ⟨g', cap, cur, rfl, hb, hh, r⟩
 ·cases hg
 ·have : g' = g := by simpa [Value.ownBlock] using hg
  subst this
  exact ⟨hb, (Array.getElem?_eq_some_iff.1 hh).1, cur, hh⟩
theorem OwnD.below {w w' : World} {base : Nat} {v : Value} {ls : List Dg} (h : OwnD w base v ls) (hb : Below w.heap.size w w') : OwnD w' base v ls := h.kept fun g hg => hb.block g (h.block g hg).2.1
theorem OwnD.form {w : World} {base : Nat} {v : Value} {ls : List Dg} (h : OwnD w base v ls) : ∃ A n c, v = .slice A n c := by
 rcases h.2 with ⟨rfl, h0⟩ | ⟨g, cap, cur, rfl, r⟩
 ·exact ⟨_, _, _, rfl⟩
 ·exact ⟨_, _, _, rfl⟩
/-- the slice, read -/
theorem OwnD.slice {w : World} {base : Nat} {v : Value} {ls : List Dg} (h : OwnD w base v ls) (ho : ∀ x ∈ ls, DgOk x) : ∃ A n c, v = .slice A n c ∧ InD w A n c ls ∧ (∀ x, A = some x → ∃ g, x = ⟨g, 0, none⟩ ∧ base ≤ g ∧ w.there g 0 (n * 32)) := by
 rcases h.2 with ⟨rfl, h0⟩ | ⟨g, cap, cur, rfl, hb, hh, hc, hm, hs, ht⟩
 ·exact ⟨none, 0, 0, rfl, ⟨h0, Nat.le_refl _, fun _ => rfl, ho, fun h1 => by omega⟩, fun x hx => by cases hx⟩
 ·refine ⟨_, _, cap, rfl, ⟨rfl, hc, (fun e => by cases e), ho, fun _ => ⟨g, 0, rfl, (Array.getElem?_eq_some_iff.1 hh).1, fun j u hj => ?_⟩⟩, fun x hx => by cases hx; exact ⟨g, rfl, hb, there_row hh (by rw [hs]; exact Nat.mul_le_mul_right 32 hc)⟩⟩
  have hj2 : j < ls.length * 32 := by rw [← flatD_length ls ho]; exact (List.getElem?_eq_some_iff.1 hj).1
  rw [Nat.zero_add, cell_of_row w g j cur _ _ hh]
  rw [← ht, List.getElem?_take_of_lt hj2] at hj
  simpa using hj
theorem append_dig_post {base : Nat} {w w' : World} {v v' : Value} {ls : List Dg} {n : Dg} (hown : OwnD w base v ls) (h1 : w'.ownsRow base 25 32 v' (ls.length + 1) (flatD ls ++ flatD [n])) (h2 : w.grownBy w' v.ownBlock) (hbase : base ≤ w.heap.size) : OwnD w' base v' (ls ++ [n]) := by
 unfold OwnD
 rw [flatD_append, List.length_append]; exact h1
theorem wpList_append_dig {w : World} {ops : Array Oper} {rest : List Oper} {o : Oper} {a : Act} {Q : Exit → Act → World → Prop} (hgd : o.guard = none) (s x : Operand)
  (ho : o.op = .call { callee := .builtin .append, args := #[s, x], argTypes := #[46, 46] })
  (base : Nat) (v : Value) (ls : List Dg) (n : Dg) (hs : a.eval s = v) (hown : Hid (OwnD w base v ls)) (hn : DgOk n) (g : Nat) (hx : a.eval x = .slice (some ⟨g, 0, none⟩) 1 1)
  (hr : Hid (w.heap[g]? = some (.cells (flatD [n]).toArray 25 (0, 0)))) (hlen : ls.length ≤ 100000) (hbase : base ≤ w.heap.size)
  (h : ∀ v' w', Hid (OwnD w' base v' (ls ++ [n])) → Hid (w.grownBy w' v.ownBlock) → wpList Tryz.prog ops Q rest (a.put o.dst v') w') : wpList Tryz.prog ops Q (o :: rest) a w := by
 obtain ⟨i0, hi, hz, hz1, hz2⟩ := info_dig
 refine wpList_append_own_at _ hgd s x _ ho base _ i0 _ 32 32 Tryz.underlying46 hi hz hz1 hz2 (by simp [Value.cells]) (by omega) v _ _ hs hown.out ⟨g, 0, none⟩ 1 1 (flatD [n]) hx (by rw [flatD_length _ (fun y hy => by simp at hy; subst hy; exact hn)]; rfl) (fun j u hu => by rw [add_row]; exact range_row hr.out j u hu) (flatD_one _) (by unfold maxLen; omega) (by omega) hbase ?_
 intro v' w' h1 h2 h3 h4
 have := append_dig_post hown.out h1 h2 hbase
 exact h v' w' (Lib.hid this) (Lib.hid h2)
def wdigs (g : Nat) (off : Nat) (n : Nat) (c : Nat) (i : Nat) (z : Nat) (F : Nat → Dg) : Nat → Value → World → Prop
 | 0, fv, _ => fv = .slice (some ⟨g, off, none⟩) n c
 | 1, fv, _ => fv = .int .i64 ((i : Nat))
 | 2, fv, _ => fv = .slice (some ⟨g, off, none⟩) n c
 | 3, fv, _ => fv = .int .i64 ((z : Nat))
 | 4, fv, _ => fv = .slice (some ⟨g, off, none⟩) n c
 | 5, fv, _ => fv = .int .i64 ((z : Nat))
 | 6, fv, _ => fv = .pointer (some ⟨g, off + z * 32, none⟩)
 | 7, fv, _ => fv = dgV (F z)
 | 8, fv, _ => fv = .slice (some ⟨g, off, none⟩) n c
 | 9, fv, _ => fv = .int .i64 ((i : Nat))
 | 10, fv, _ => fv = .pointer (some ⟨g, off + i * 32, none⟩)
 | 11, fv, _ => fv = dgV (F i)
 | 12, fv, _ => fv = .pointer (some ⟨g, off + i * 32, none⟩)
 | 13, fv, fw => True
 | 14, fv, _ => fv = .pointer (some ⟨g, off + z * 32, none⟩)
 | 15, fv, fw => Rw dgC 32 fw g off n (swF F i z true true)
 | _, _, _ => True
theorem wdigs_pure {g : Nat} {off : Nat} {n : Nat} {c : Nat} {i : Nat} {z : Nat} {F : Nat → Dg} {w w' : World} : ∀ j v, j ≠ 13 → j ≠ 15 → wdigs g off n c i z F j v w → wdigs g off n c i z F j v w'
 | 0, v, _, _, h => h
 | 1, v, _, _, h => h
 | 2, v, _, _, h => h
 | 3, v, _, _, h => h
 | 4, v, _, _, h => h
 | 5, v, _, _, h => h
 | 6, v, _, _, h => h
 | 7, v, _, _, h => h
 | 8, v, _, _, h => h
 | 9, v, _, _, h => h
 | 10, v, _, _, h => h
 | 11, v, _, _, h => h
 | 12, v, _, _, h => h
 | 13, v, hh, _, _ => absurd rfl hh
 | 14, v, _, _, h => h
 | 15, v, _, hh, _ => absurd rfl hh
 | n + 16, v, _, _, h => trivial
theorem rev_digs (f : Nat → Dg) (g off n c : Nat) (w : World) (hn : n ≤ 1000000) (hc : n ≤ c) (hok : Hid (∀ k, k < n → DgOk (f k))) (h : Hid (Rw dgC 32 w g off n f)) :
  Calls Tryz.prog 142 #[.slice (some ⟨g, off, none⟩) n c] w fun e w' => (∃ v, e = .returned v) ∧ Rw dgC 32 w' g off n (fun k => f (n - 1 - k)) ∧ w.grownBy w' (some g) := by
 have HLF : Hid (∀ k, k < n → (dgC (f k)).length = 32) := Lib.hid (fun k hk => dgC_len (hok.out k hk))
 go_enter Tryz.func142, Tryz.ntmps142
 go_wp2_with fail
 go_loopw [2, 3] (fun s t wr => ∃ i : Nat, 2 * i ≤ n + 1 ∧ s = .int .i64 (i : Nat) ∧ t = .int .i64 ((n : Int) - 1 - (i : Int)) ∧ Hid (Rw dgC 32 wr g off n (curF f n i)) ∧ Hid (w.grownBy wr (some g))) (fun s _ _ => n - (intOf s).toNat)
 case atStart => exact ⟨0, by omega, rfl, by simp, Lib.hid (h.out.congr (fun k hk => curF_zero f n k hk)), Lib.hid ⟨rfl, rfl, rfl, Nat.le_refl _, fun _ _ _ => rfl⟩⟩
 case round =>
  obtain ⟨i, hi2, rfl, rfl, HRi, HGi⟩ := hrel
  by_cases hlt : 2 * i + 1 < n
  ·obtain ⟨j, hj⟩ : ∃ j, i + j + 1 = n := ⟨n - 1 - i, by omega⟩
   rw [show (n : Int) - 1 - (i : Int) = (j : Int) by omega]
   have HIJ : Hid (i < j) := Lib.hid (by omega)
   have HLI : Hid (i < n) := Lib.hid (by omega)
   have HLJ : Hid (j < n) := Lib.hid (by omega)
   have HJ := Lib.hid hj
   have d1 : decide ((i : Int) < (j : Int)) = true := decide_eq_true (by omega)
   have d2 : decide (i < j) = true := decide_eq_true HIJ.out
   have HCN := Lib.hid (fun k (hk : k < n) => curF_next f hj HIJ.out k hk)
   have HLS := Lib.hid (curF_len (i := i) HLF.out)
   have HOK : Hid (∀ k, k < n → DgOk (curF f n i k)) := Lib.hid (fun k hk => by
    unfold curF; split
    ·exact hok.out _ (by omega)
    ·exact hok.out _ hk)
   generalize curF f n i = F at *
   have hj62 : j ≤ 1000000 := by omega
   have hi62 : i ≤ 1000000 := by omega
   clear hj hlt hi2
   go_wp2_with fail
   generalize wr = W1 at *
   refine region_flow4 (by kernel_rfl) (by kernel_rfl) (fun i => Nat.beq i 15) (fun i => i) (by kernel_rfl) (fun fx => #[.slice (some ⟨g, off, none⟩) n c, undef, .int .i64 ((i : Nat)), .int .i64 ((j : Nat)), .slice (some ⟨g, off, none⟩) n c, .int .i64 ((n : Nat)), .int .i64 ((n : Int) - 1), .int .i64 ((i : Nat)), .int .i64 ((j : Nat)), .bool true, u10, u11, u12, u13, fx 0, fx 1, fx 2, fx 3, fx 4, fx 5, fx 6, fx 7, fx 8, fx 9, fx 10, fx 11, fx 12, fx 14]) (fun i => bif Nat.beq i 0 then u14 else bif Nat.beq i 1 then u15 else bif Nat.beq i 2 then u16 else bif Nat.beq i 3 then u17 else bif Nat.beq i 4 then u18 else bif Nat.beq i 5 then u19 else bif Nat.beq i 6 then u20 else bif Nat.beq i 7 then u21 else bif Nat.beq i 8 then u22 else bif Nat.beq i 9 then u23 else bif Nat.beq i 10 then u24 else bif Nat.beq i 11 then u25 else bif Nat.beq i 12 then u26 else bif Nat.beq i 14 then u27 else undef) (fun L fx w' => W1.grownBy w' (some g) ∧ Rw dgC 32 w' g off n (swF F i j (L 13) (L 15))) (fun fi fv _ fw => wdigs g off n c i j F fi fv fw) ⟨(show W1.grownBy W1.drew (some g) from ⟨rfl, rfl, rfl, Nat.le_refl _, fun _ _ _ => rfl⟩), HRi.out.congr (fun k _ => rfl)⟩ ?_ ?_
   ·refine ⟨?_, ?_, ?_, ?_, ?_, ?_, ?_, ?_, ?_, ?_, ?_, ?_, ?_, ?_, ?_, ?_, trivial⟩
    all_goals intro L fx w' hC hi hcl hdn hd
    ·go_wp2_with fail
     exact ⟨_, rfl, ⟨hC.1, hC.2⟩, rfl, kP⟩
    ·go_wp2_with fail
     exact ⟨_, rfl, ⟨hC.1, hC.2⟩, rfl, kP⟩
    ·go_wp2_with fail
     exact ⟨_, rfl, ⟨hC.1, hC.2⟩, rfl, kP⟩
    ·go_wp2_with fail
     exact ⟨_, rfl, ⟨hC.1, hC.2⟩, rfl, kP⟩
    ·go_wp2_with fail
     exact ⟨_, rfl, ⟨hC.1, hC.2⟩, rfl, kP⟩
    ·go_wp2_with fail
     exact ⟨_, rfl, ⟨hC.1, hC.2⟩, rfl, kP⟩
    ·have h4 : fx 4 = .slice (some ⟨g, off, none⟩) n c := hd.1 rfl
     have h5 : fx 5 = .int .i64 ((j : Nat)) := hd.2.1 rfl
     have hx1 := HLJ.out
     go_wp2_with fail
     exact ⟨_, by rw [← h4, ← h5]; rfl, ⟨hC.1, hC.2⟩, rfl, kP⟩
    ·have h6 : fx 6 = .pointer (some ⟨g, off + j * 32, none⟩) := hd.1 rfl
     have hn13 : L 13 = false := Bool.eq_false_iff.2 (fun h => by have := hcl 13 7 h (by kernel_rfl); rw [hi] at this; cases this)
     have hn15 : L 15 = false := Bool.eq_false_iff.2 (fun h => by have := hcl 15 7 h (by kernel_rfl); rw [hi] at this; cases this)
     have hr := (hC.2 j HLJ.out).1
     rw [hn13, hn15] at hr
     have HRX : Hid (w'.rangeAt g (off + j * 32) (dgC (F j))) := Lib.hid hr
     clear hr
     refine wpList_load_mid rfl 25 (.tmp 20) rfl g (off + j * 32) h6 (dgC (F j)) _ HRX.out Tryz.underlying25 rfl (dgC_infoL (HOK.out j HLJ.out)) ?_
     clear hd
     go_wp2_with fail
     exact ⟨_, by rw [← h6]; rfl, ⟨hC.1, hC.2⟩, rfl, kP⟩
    ·go_wp2_with fail
     exact ⟨_, rfl, ⟨hC.1, hC.2⟩, rfl, kP⟩
    ·go_wp2_with fail
     exact ⟨_, rfl, ⟨hC.1, hC.2⟩, rfl, kP⟩
    ·have h8 : fx 8 = .slice (some ⟨g, off, none⟩) n c := hd.1 rfl
     have h9 : fx 9 = .int .i64 ((i : Nat)) := hd.2.1 rfl
     have hx1 := HLI.out
     go_wp2_with fail
     exact ⟨_, by rw [← h8, ← h9]; rfl, ⟨hC.1, hC.2⟩, rfl, kP⟩
    ·have h10 : fx 10 = .pointer (some ⟨g, off + i * 32, none⟩) := hd.1 rfl
     have hn13 : L 13 = false := Bool.eq_false_iff.2 (fun h => by have := hcl 13 11 h (by kernel_rfl); rw [hi] at this; cases this)
     have hn15 : L 15 = false := Bool.eq_false_iff.2 (fun h => by have := hcl 15 11 h (by kernel_rfl); rw [hi] at this; cases this)
     have hr := (hC.2 i HLI.out).1
     rw [hn13, hn15] at hr
     have HRX : Hid (w'.rangeAt g (off + i * 32) (dgC (F i))) := Lib.hid hr
     clear hr
     refine wpList_load_mid rfl 25 (.tmp 24) rfl g (off + i * 32) h10 (dgC (F i)) _ HRX.out Tryz.underlying25 rfl (dgC_infoL (HOK.out i HLI.out)) ?_
     clear hd
     go_wp2_with fail
     exact ⟨_, by rw [← h10]; rfl, ⟨hC.1, hC.2⟩, rfl, kP⟩
    ·have h0 : fx 0 = .slice (some ⟨g, off, none⟩) n c := hd.1 rfl
     have h1 : fx 1 = .int .i64 ((i : Nat)) := hd.2.1 rfl
     have hx1 := HLI.out
     go_wp2_with fail
     exact ⟨_, by rw [← h0, ← h1]; rfl, ⟨hC.1, hC.2⟩, rfl, kP⟩
    ·have h12 : fx 12 = .pointer (some ⟨g, off + i * 32, none⟩) := hd.1 rfl
     have h7 : fx 7 = dgV (F j) := hd.2.1 rfl
     have hn15 : L 15 = false := Bool.eq_false_iff.2 (fun h => by have := hcl 15 13 h (by kernel_rfl); rw [hi] at this; cases this)
     have hr := hC.2
     rw [hi, hn15] at hr
     have HRW := Lib.hid hr
     clear hr
     have HNW := Lib.hid ((HRW.out.set (swF_len HLS.out HLI.out HLJ.out _ _) i HLI.out (F j) (HLS.out j HLJ.out)).congr (fun k _ => swF_one F i j k))
     have hg := grown_setCells hC.1 (off + i * 32) (dgC (F j))
     refine wpList_store_mid rfl 25 (.tmp 26) (.tmp 21) rfl g (off + i * 32) (dgC (F j)).toArray h12 h7 (by rw [show (dgC (F j)).toArray.size = 32 by simp [dgC_len (HOK.out j HLJ.out)]]; exact (HRW.out i HLI.out).2) (by rw [dgC_infoL (HOK.out j HLJ.out)]; simp) (dgC_one _) ?_
     clear hd
     go_wp2_with fail
     refine ⟨undef, by rw [← h12, ← h7]; rfl, ⟨hg, by
      rw [show updB L 13 13 = true from rfl, show updB L 13 15 = false from hn15]; exact HNW.out⟩, trivial, fun q v t hj _ h => by
      by_cases e : q = 13
      ·subst e; trivial
      ·by_cases e2 : q = 15
       ·subst e2; rw [hn15] at hj; cases hj
       ·exact wdigs_pure q v e e2 h⟩
    ·have h2 : fx 2 = .slice (some ⟨g, off, none⟩) n c := hd.1 rfl
     have h3 : fx 3 = .int .i64 ((j : Nat)) := hd.2.1 rfl
     have hx1 := HLJ.out
     go_wp2_with fail
     exact ⟨_, by rw [← h2, ← h3]; rfl, ⟨hC.1, hC.2⟩, rfl, kP⟩
    ·have h14 : fx 14 = .pointer (some ⟨g, off + j * 32, none⟩) := hd.1 rfl
     have h11 : fx 11 = dgV (F i) := hd.2.1 rfl
     have hn13 : L 13 = true := hdn 13 (by kernel_rfl)
     have hr := hC.2
     rw [hn13, hi] at hr
     have HRW := Lib.hid hr
     clear hr
     have HNW := Lib.hid ((HRW.out.set (swF_len HLS.out HLI.out HLJ.out _ _) j HLJ.out (F i) (HLS.out i HLI.out)).congr (fun k _ => swF_two F HIJ.out k))
     have hg := grown_setCells hC.1 (off + j * 32) (dgC (F i))
     refine wpList_store_mid rfl 25 (.tmp 27) (.tmp 25) rfl g (off + j * 32) (dgC (F i)).toArray h14 h11 (by rw [show (dgC (F i)).toArray.size = 32 by simp [dgC_len (HOK.out i HLI.out)]]; exact (HRW.out j HLJ.out).2) (by rw [dgC_infoL (HOK.out i HLI.out)]; simp) (dgC_one _) ?_
     clear hd
     go_wp2_with fail
     refine ⟨undef, by rw [← h14, ← h11]; rfl, ⟨hg, by
      rw [show updB L 15 13 = true from hn13, show updB L 15 15 = true from rfl]; exact HNW.out⟩, HNW.out, fun q v t hj _ h => by
      by_cases e : q = 13
      ·subst e; trivial
      ·by_cases e2 : q = 15
       ·subst e2; rw [hi] at hj; cases hj
       ·exact wdigs_pure q v e e2 h⟩
   ·intro L fx w' hC hS
    have H15 := Lib.hid (hS 15 (by decide) rfl)
    have HR9 := Lib.hid (H15.out.congr (fun k hk => HCN.out k hk))
    have HG9 := Lib.hid (only_trans HGi.out hC.1)
    have hw1 : IntKind.i64.wrap ((j : Int) - 1) = (n : Int) - 1 - ((i + 1 : Nat) : Int) := by have := HJ.out; rw [IntWalk.i64_in _ (by omega)]; omega
    clear hS hC H15
    go_wp2_with fail
    go_roundw
    case rel => exact ⟨i + 1, by have := HJ.out; have := HIJ.out; omega, by go_num, by go_num, HR9, HG9⟩
    case measure => first | (simp [intOf]; done) | (simp [intOf]; have := HLI.out; omega)
  ·have d1 : decide ((i : Int) < (n : Int) - 1 - (i : Int)) = false := decide_eq_false (by omega)
   have HE := Lib.hid (HRi.out.congr (fun k hk => curF_end f (show n ≤ 2 * i + 1 by omega) k hk))
   go_wp2_with fail
   go_end0
   exact ⟨⟨_, rfl⟩, HE.out, HGi.out⟩
theorem flatD_range {w : World} {g off : Nat} : ∀ (ls : List Dg), (∀ x ∈ ls, DgOk x) → (∀ k, k < ls.length → w.rangeAt g (off + k * 32) (dgC (ls.getD k zeroD))) → w.rangeAt g off (flatD ls) := fun ls ho h j v hj => by
 have hl := flatD_length ls ho
 have hj2 : j < ls.length * 32 := by rw [← hl]; exact (List.getElem?_eq_some_iff.1 hj).1
 have hk : j / 32 < ls.length := by omega
 have hr := h (j / 32) hk (j % 32)
 have he : ls.getD (j / 32) zeroD = ls[j / 32] := by simp [List.getD_eq_getElem?_getD, hk]
 rw [he] at hr
 have hm : j % 32 < (dgC ls[j / 32]).length := by rw [dgC_len (ho _ (List.getElem_mem _))]; omega
 obtain ⟨v2, hv2⟩ : ∃ v2, (dgC ls[j / 32])[j % 32]? = some v2 := ⟨_, List.getElem?_eq_getElem hm⟩
 have h2 := flatD_get ls ho (j / 32) hk (j % 32) v2 hv2
 rw [show j / 32 * 32 + j % 32 = j by omega, hj] at h2
 cases h2
 have := hr v hv2
 rwa [show off + j / 32 * 32 + j % 32 = off + j by omega] at this
theorem revD_nil (c : Nat) (w : World) : Calls Tryz.prog 142 #[.slice none 0 c] w fun e w' => (∃ v, e = .returned v) ∧ w = w' := by
 go_enter Tryz.func142, Tryz.ntmps142
 go_wp2_with fail
 go_loopw [2, 3] (fun s t wr => s = .int .i64 0 ∧ t = .int .i64 (-1) ∧ w = wr) (fun _ _ _ => 0)
 case atStart => exact ⟨rfl, rfl, rfl⟩
 case round =>
  obtain ⟨rfl, rfl, rfl⟩ := hrel
  go_wp2_with fail
  go_end0
  exact ⟨⟨_, rfl⟩, rfl⟩
theorem revD_any (ls : List Dg) (A : Option Addr) (n c base : Nat) (w : World) (hn : n ≤ 1000000) (h : Hid (InD w A n c ls)) (ht : Hid (∀ x, A = some x → ∃ g, x = ⟨g, 0, none⟩ ∧ base ≤ g ∧ w.there g 0 (n * 32))) (hb : base ≤ w.heap.size) :
  Calls Tryz.prog 142 #[.slice A n c] w fun e w' => (∃ v, e = .returned v) ∧ InD w' A n c ls.reverse ∧ w.grownBy w' (Value.slice A n c).ownBlock := by
 rcases A with _ | a
 ·have hc := h.out.none_ rfl
  have h0 : n = 0 := by have := h.out.cap; omega
  have hl : ls = [] := List.eq_nil_of_length_eq_zero (by rw [h.out.len]; exact h0)
  subst hl; subst h0
  exact (revD_nil c w).mono fun e w' hh => by
   obtain ⟨h1, rfl⟩ := hh
   exact ⟨h1, h.out, ⟨rfl, rfl, rfl, Nat.le_refl _, fun _ _ _ => rfl⟩⟩
 ·obtain ⟨g, rfl, hbg, hth⟩ := ht.out a rfl
  by_cases h0 : n = 0
  ·have hl : ls = [] := List.eq_nil_of_length_eq_zero (by rw [h.out.len]; exact h0)
   subst hl; subst h0
   refine (rev_digs (fun k => zeroD) g 0 0 c w (by omega) (Nat.zero_le _) (Lib.hid (fun k hk => by omega)) (Lib.hid (fun k hk => by omega))).mono ?_
   rintro e w' ⟨h1, h2, h3⟩
   exact ⟨h1, ⟨rfl, Nat.zero_le _, (fun e => by cases e), (fun x hx => by cases hx), (fun h0 => by simp at h0)⟩, h3⟩
  ·obtain ⟨g', off', e, hg, hr⟩ := h.out.rd (by rw [h.out.len]; omega)
   cases e
   have hgd : ∀ k (hk : k < n), ls.getD k zeroD = ls[k]'(by rw [h.out.len]; exact hk) := fun k hk => by
    have : k < ls.length := by rw [h.out.len]; exact hk
    simp [List.getD_eq_getElem?_getD, this]
   refine (rev_digs (fun k => ls.getD k zeroD) g 0 n c w hn h.out.cap (Lib.hid (fun k hk => ?_)) (Lib.hid (fun k hk => ⟨?_, fun j hj => ?_⟩))).mono ?_
   ·rw [hgd k hk]; exact h.out.ok _ (List.getElem_mem _)
   ·show w.rangeAt g (0 + k * 32) (dgC (ls.getD k zeroD))
    rw [hgd k hk]; exact rangeD_one hr h.out.ok k (by rw [h.out.len]; exact hk)
   ·have := hth (k * 32 + j) (by have := mul_gap (s := 32) hk; omega)
    rwa [← Nat.add_assoc] at this
   ·rintro e w' ⟨h1, h2, h3⟩
    refine ⟨h1, ⟨by rw [List.length_reverse]; exact h.out.len, h.out.cap, (fun e => by cases e), fun x hx => h.out.ok x (List.mem_reverse.1 hx), fun _ => ⟨g, 0, rfl, Nat.lt_of_lt_of_le hg h3.size, ?_⟩⟩, h3⟩
    refine flatD_range _ (fun x hx => h.out.ok x (List.mem_reverse.1 hx)) fun k hk => ?_
    rw [List.length_reverse, h.out.len] at hk
    have hk2 : k < ls.reverse.length := by rw [List.length_reverse, h.out.len]; exact hk
    have : w'.rangeAt g (0 + k * 32) (dgC (ls.getD (n - 1 - k) zeroD)) := (h2 k hk).1
    rw [hgd (n - 1 - k) (by omega)] at this
    have e2 : ls.reverse.getD k zeroD = ls[n - 1 - k]'(by rw [h.out.len]; omega) := by
     rw [List.getD_eq_getElem?_getD, List.getElem?_eq_getElem hk2, Option.getD_some, List.getElem_reverse]
     congr 1
     rw [h.out.len]
    rw [e2]; exact this
def wQl (M : Nat) (g : Nat) (off : Nat) (n2 : Nat) (c2 : Nat) (k : Nat) (A3 : Option Addr) (n3 : Nat) (c3 : Nat) (i2 : Nat) (d : Nat) (b : List Nat) (P : List Dg) : Nat → Value → World → Prop
 | 0, fv, _ => fv = .slice A3 n3 c3
 | 1, fv, _ => fv = .slice (some ⟨g, off, none⟩) n2 c2
 | 2, fv, _ => fv = .int .i64 ((k : Nat))
 | 3, fv, _ => fv = .slice (some ⟨g, off + k * 32, none⟩) (n2 - k) (c2 - k)
 | 4, fv, _ => fv = dgV b
 | 5, fv, fw => ∃ q, fv = .slice (some ⟨q, 0, none⟩) 1 1 ∧ fw.heap[q]? = some (.cells (flatD [b]).toArray 25 (0, 0))
 | 6, fv, fw => OwnD fw M fv (P ++ [b])
 | 7, fv, _ => fv = .slice (some ⟨g, off, none⟩) n2 c2
 | 8, fv, _ => fv = .int .i64 ((k : Nat))
 | 9, fv, _ => fv = .slice (some ⟨g, off, none⟩) k c2
 | 10, fv, fw => OwnD fw M fv (P ++ [b])
 | 11, fv, _ => fv = .slice (some ⟨g, off, none⟩) k c2
 | _, _, _ => True
theorem wQl_below {M : Nat} {g : Nat} {off : Nat} {n2 : Nat} {c2 : Nat} {k : Nat} {A3 : Option Addr} {n3 : Nat} {c3 : Nat} {i2 : Nat} {d : Nat} {b : List Nat} {P : List Dg} {w w' : World} (hb : Below w.heap.size w w') : ∀ j v, wQl M g off n2 c2 k A3 n3 c3 i2 d b P j v w → wQl M g off n2 c2 k A3 n3 c3 i2 d b P j v w'
 | 0, v, h => h
 | 1, v, h => h
 | 2, v, h => h
 | 3, v, h => h
 | 4, v, h => h
 | 5, v, ⟨q, h1, h2⟩ => ⟨q, h1, row_kept h2 hb⟩
 | 6, v, h => h.below hb
 | 7, v, h => h
 | 8, v, h => h
 | 9, v, h => h
 | 10, v, h => h.below hb
 | 11, v, h => h
 | n + 12, v, h => trivial
theorem wQl_pure {M : Nat} {g : Nat} {off : Nat} {n2 : Nat} {c2 : Nat} {k : Nat} {A3 : Option Addr} {n3 : Nat} {c3 : Nat} {i2 : Nat} {d : Nat} {b : List Nat} {P : List Dg} {w w' : World} : ∀ j v, j ≠ 5 → j ≠ 6 → j ≠ 10 → wQl M g off n2 c2 k A3 n3 c3 i2 d b P j v w → wQl M g off n2 c2 k A3 n3 c3 i2 d b P j v w'
 | 0, v, _, _, _, h => h
 | 1, v, _, _, _, h => h
 | 2, v, _, _, _, h => h
 | 3, v, _, _, _, h => h
 | 4, v, _, _, _, h => h
 | 5, v, hh, _, _, _ => absurd rfl hh
 | 6, v, _, hh, _, _ => absurd rfl hh
 | 7, v, _, _, _, h => h
 | 8, v, _, _, _, h => h
 | 9, v, _, _, _, h => h
 | 10, v, _, _, hh, _ => absurd rfl hh
 | 11, v, _, _, _, h => h
 | n + 12, v, _, _, _, h => trivial
def wQr (M : Nat) (g : Nat) (off : Nat) (n2 : Nat) (c2 : Nat) (k : Nat) (A3 : Option Addr) (n3 : Nat) (c3 : Nat) (i2 : Nat) (d : Nat) (b : List Nat) (P : List Dg) : Nat → Value → World → Prop
 | 0, fv, _ => fv = .slice A3 n3 c3
 | 1, fv, _ => fv = .slice (some ⟨g, off, none⟩) n2 c2
 | 2, fv, _ => fv = .int .i64 ((k : Nat))
 | 3, fv, _ => fv = .slice (some ⟨g, off, none⟩) k c2
 | 4, fv, _ => fv = dgV b
 | 5, fv, fw => ∃ q, fv = .slice (some ⟨q, 0, none⟩) 1 1 ∧ fw.heap[q]? = some (.cells (flatD [b]).toArray 25 (0, 0))
 | 6, fv, fw => OwnD fw M fv (P ++ [b])
 | 7, fv, _ => fv = .slice (some ⟨g, off, none⟩) n2 c2
 | 8, fv, _ => fv = .int .i64 ((k : Nat))
 | 9, fv, _ => fv = .slice (some ⟨g, off + k * 32, none⟩) (n2 - k) (c2 - k)
 | 10, fv, _ => fv = .int .i64 ((i2 : Nat))
 | 11, fv, _ => fv = .int .i64 ((k : Nat))
 | 12, fv, _ => fv = .int .i64 ((d : Nat))
 | 13, fv, fw => OwnD fw M fv (P ++ [b])
 | 14, fv, _ => fv = .slice (some ⟨g, off + k * 32, none⟩) (n2 - k) (c2 - k)
 | 15, fv, _ => fv = .int .i64 ((d : Nat))
 | _, _, _ => True
theorem wQr_below {M : Nat} {g : Nat} {off : Nat} {n2 : Nat} {c2 : Nat} {k : Nat} {A3 : Option Addr} {n3 : Nat} {c3 : Nat} {i2 : Nat} {d : Nat} {b : List Nat} {P : List Dg} {w w' : World} (hb : Below w.heap.size w w') : ∀ j v, wQr M g off n2 c2 k A3 n3 c3 i2 d b P j v w → wQr M g off n2 c2 k A3 n3 c3 i2 d b P j v w'
 | 0, v, h => h
 | 1, v, h => h
 | 2, v, h => h
 | 3, v, h => h
 | 4, v, h => h
 | 5, v, ⟨q, h1, h2⟩ => ⟨q, h1, row_kept h2 hb⟩
 | 6, v, h => h.below hb
 | 7, v, h => h
 | 8, v, h => h
 | 9, v, h => h
 | 10, v, h => h
 | 11, v, h => h
 | 12, v, h => h
 | 13, v, h => h.below hb
 | 14, v, h => h
 | 15, v, h => h
 | n + 16, v, h => trivial
theorem wQr_pure {M : Nat} {g : Nat} {off : Nat} {n2 : Nat} {c2 : Nat} {k : Nat} {A3 : Option Addr} {n3 : Nat} {c3 : Nat} {i2 : Nat} {d : Nat} {b : List Nat} {P : List Dg} {w w' : World} : ∀ j v, j ≠ 5 → j ≠ 6 → j ≠ 13 → wQr M g off n2 c2 k A3 n3 c3 i2 d b P j v w → wQr M g off n2 c2 k A3 n3 c3 i2 d b P j v w'
 | 0, v, _, _, _, h => h
 | 1, v, _, _, _, h => h
 | 2, v, _, _, _, h => h
 | 3, v, _, _, _, h => h
 | 4, v, _, _, _, h => h
 | 5, v, hh, _, _, _ => absurd rfl hh
 | 6, v, _, hh, _, _ => absurd rfl hh
 | 7, v, _, _, _, h => h
 | 8, v, _, _, _, h => h
 | 9, v, _, _, _, h => h
 | 10, v, _, _, _, h => h
 | 11, v, _, _, _, h => h
 | 12, v, _, _, _, h => h
 | 13, v, _, _, hh, _ => absurd rfl hh
 | 14, v, _, _, _, h => h
 | 15, v, _, _, _, h => h
 | n + 16, v, _, _, _, h => trivial
theorem dpath_yes (ls : List Dg) (A : Option Addr) (n c i : Nat) (w : World) (hn : n ≤ 100000) (hin : i < n) (h : Hid (InD w A n c ls)) (hT : Hid (Tabs w)) :
  Calls Tryz.prog 113 #[.slice A n c, .int .i64 (i : Nat)] w fun e w' => ∃ A' n' c', e = .returned (.tuple #[.slice A' n' c', .int .i64 0]) ∧ InD w' A' n' c' (pathD ls i) ∧ Below w.heap.size w w' ∧ ∀ g, (Value.slice A' n' c').ownBlock = some g → w.heap.size ≤ g := by
 have HNE := Lib.hid (show ls.length = n from h.out.len)
 obtain ⟨g0, off0, rfl, hg, hr⟩ := h.out.rd (by rw [h.out.len]; omega)
 clear hg hr
 have d0 : decide ((i : Int) < 0) = false := decide_eq_false (by omega)
 have d1 : decide ((n : Int) ≤ (i : Int)) = false := decide_eq_false (by omega)
 have d11 : decide (n ≤ i) = false := decide_eq_false (by omega)
 go_enter Tryz.func113, Tryz.ntmps113
 go_wp2_with fail
 go_loopw [0, 1, 4] (fun l a p wr => ∃ (g off n2 c2 i2 : Nat) (ls2 P : List Dg), l = .slice (some ⟨g, off, none⟩) n2 c2 ∧ a = .int .i64 (i2 : Nat) ∧ i2 < n2 ∧ Hid (InD w (some ⟨g, off, none⟩) n2 c2 ls2) ∧ Hid (OwnD wr w.heap.size p P) ∧ Hid (pathD ls i = pathD ls2 i2 ++ P.reverse) ∧ Hid (Below w.heap.size w wr) ∧ n2 + P.length ≤ n ∧ ∃ A3 n3 c3, p = .slice A3 n3 c3) (fun l _ _ _ => lenOf l)
 case atStart => exact ⟨g0, off0, n, c, i, ls, [], rfl, rfl, hin, h, Lib.hid (OwnD.nil _ _), Lib.hid (by simp), Lib.hid (Below.refl _ _), by simp, _, _, _, rfl⟩
 case round =>
  clear h HNE hin d0 d1 d11
  obtain ⟨g, off, n2, c2, i2, ls2, P, rfl, rfl, hi2, HI2, HOW, HPQ, HB1, hpl, A3, n3, c3, rfl⟩ := hrel
  have HNE := Lib.hid (show ls2.length = n2 from HI2.out.len)
  have HPL : Hid (P.length ≤ 100000) := Lib.hid (by omega)
  by_cases h2 : 2 ≤ n2
  ·have d1 : decide ((1 : Int) < (n2 : Int)) = true := decide_eq_true (by omega)
   have d11 : decide (1 < n2) = true := decide_eq_true (by omega)
   obtain ⟨k, HK⟩ : ∃ k, Hid (half n2 = k) := ⟨_, Lib.hid rfl⟩
   have hkb := half_bd h2
   rw [HK.out] at hkb
   have HT2 := Lib.hid (HI2.out.take k (by omega))
   have HT3 := Lib.hid (HI2.out.drop k (by omega))
   have hcap := HI2.out.cap
   have HLT : Hid ((ls2.take k).length = k ∧ (ls2.drop k).length = n2 - k) := Lib.hid ⟨by rw [List.length_take, HNE.out]; omega, by rw [List.length_drop, HNE.out]⟩
   have HMS := Lib.hid HB1.out.size
   go_wp2_with fail
   refine (dhalf_any n2 _ h2 (by omega)).mono ?_
   rintro e W1 ⟨rfl, hw1⟩
   subst hw1
   rw [HK.out]
   obtain ⟨W1, hw1⟩ : ∃ W, W = wr := ⟨_, rfl⟩
   subst hw1
   by_cases hik : i2 < k
   ·have d2 : decide ((i2 : Int) < (k : Int)) = true := decide_eq_true (by omega)
    have d3 : decide (i2 < k) = true := decide_eq_true hik
    obtain ⟨d, HDD⟩ : ∃ d : Nat, Hid (d = 0) := ⟨0, Lib.hid rfl⟩
    obtain ⟨b, HBB⟩ : ∃ b, Hid (treeD (ls2.drop k) = b) := ⟨_, Lib.hid rfl⟩
    have HBO : Hid (DgOk b) := Lib.hid (by rw [← HBB.out]; exact treeD_okD _)
    have HPE : Hid (pathD ls2 i2 = pathD (ls2.take k) i2 ++ [b]) := Lib.hid (by rw [pathD_left (l := ls2) (by rw [HNE.out]; exact h2) (by rw [HNE.out, HK.out]; exact hik), HNE.out, HK.out, HBB.out])
    go_wp2_with fail
    refine region_flow4 (by kernel_rfl) (by kernel_rfl) (fun i => Nat.beq i 10 || Nat.beq i 11) (fun i => i) (by kernel_rfl) (fun fx => #[fx 11, .int IntKind.i64 ↑i2, undef, undef, fx 10, .int IntKind.i64 0, .int IntKind.i64 ↑k, .int IntKind.i64 ↑i, .bool false, .bool false, .int IntKind.i64 ↑i, .slice (some { block := g0, off := off0 }) n c, .int IntKind.i64 ↑n, .bool false, .bool false, .slice (some { block := g, off := off }) n2 c2, .int IntKind.i64 ↑n2, .bool true, .slice (some { block := g, off := off }) n2 c2, .int IntKind.i64 ↑n2, .int IntKind.i64 ↑k, .int IntKind.i64 ↑i2, .int IntKind.i64 ↑k, .bool true, fx 0, fx 1, fx 2, fx 3, fx 4, fx 5, fx 6, fx 7, fx 8, fx 9, u34, u35, u36, u37, u38, u39, u40, u41, u42, u43, u44, u45, u46, undef, undef, undef]) (fun i => bif Nat.beq i 0 then u24 else bif Nat.beq i 1 then u25 else bif Nat.beq i 2 then u26 else bif Nat.beq i 3 then u27 else bif Nat.beq i 4 then u28 else bif Nat.beq i 5 then u29 else bif Nat.beq i 6 then u30 else bif Nat.beq i 7 then u31 else bif Nat.beq i 8 then u32 else bif Nat.beq i 9 then u33 else bif Nat.beq i 10 then Value.slice A3 n3 c3 else bif Nat.beq i 11 then Value.slice (some { block := g, off := off }) n2 c2 else undef) (fun L fx w' => (L 10 = false → fx 10 = .slice A3 n3 c3) ∧ (L 11 = false → fx 11 = .slice (some ⟨g, off, none⟩) n2 c2) ∧ Below w.heap.size W1 w' ∧ (L 6 = false → OwnD w' w.heap.size (Value.slice A3 n3 c3) P)) (fun fi fv _ fw => wQl w.heap.size g off n2 c2 k A3 n3 c3 i2 d b P fi fv fw) ⟨fun _ => rfl, fun _ => rfl, (Below.refl _ _).drew, fun _ => HOW.out.kept (fun _ _ => rfl)⟩ ?_ ?_
    ·refine ⟨?_, ?_, ?_, ?_, ?_, ?_, ?_, ?_, ?_, ?_, ?_, ?_, trivial⟩
     all_goals intro L fx w' hC hi hcl hdn hd
     ·have hN10 : L 10 = false := Bool.eq_false_iff.2 (fun h => by have := hcl 10 0 h (by kernel_rfl); rw [hi] at this; cases this)
      have he := hC.1 hN10
      go_wp2_with fail
      exact ⟨_, by simp only [upd, he]; rfl, ⟨fun h => hC.1 h, fun h => hC.2.1 h, hC.2.2.1, fun h => hC.2.2.2 h⟩, rfl, kP⟩
     ·have hN11 : L 11 = false := Bool.eq_false_iff.2 (fun h => by have := hcl 11 1 h (by kernel_rfl); rw [hi] at this; cases this)
      have he := hC.2.1 hN11
      go_wp2_with fail
      exact ⟨_, by simp only [upd, he]; rfl, ⟨fun h => hC.1 h, fun h => hC.2.1 h, hC.2.2.1, fun h => hC.2.2.2 h⟩, rfl, kP⟩
     ·go_wp2_with fail
      exact ⟨_, rfl, ⟨fun h => hC.1 h, fun h => hC.2.1 h, hC.2.2.1, fun h => hC.2.2.2 h⟩, rfl, kP⟩
     ·have h1 : fx 1 = .slice (some ⟨g, off, none⟩) n2 c2 := hd.1 rfl
      have h2 : fx 2 = .int .i64 ((k : Nat)) := hd.2.1 rfl
      go_wp2_with fail
      exact ⟨_, by simp only [upd, h1, h2]; rfl, ⟨fun h => hC.1 h, fun h => hC.2.1 h, hC.2.2.1, fun h => hC.2.2.2 h⟩, rfl, kP⟩
     ·have h3 : fx 3 = .slice (some ⟨g, off + k * 32, none⟩) (n2 - k) (c2 - k) := hd.1 rfl
      have HIk := Lib.hid (HT3.out.below (HB1.out.trans hC.2.2.1))
      have HTk := Lib.hid (hT.out.below (HB1.out.trans hC.2.2.1))
      go_wp2_with fail
      refine (dtree_any (n2 - k) (ls2.drop k) _ (n2 - k) (c2 - k) w' (Nat.le_refl _) (by omega) HIk HTk).mono ?_
      rintro e w2 ⟨rfl, hq⟩
      rw [HBB.out]
      go_wp2_with fail
      exact ⟨_, by simp only [upd, h3]; rfl, ⟨fun h => hC.1 h, fun h => hC.2.1 h, (hC.2.2.1).trans (hq.mono (Nat.le_trans HMS.out (hC.2.2.1).size)), fun h => (hC.2.2.2 h).below hq⟩, rfl, fun j v t _ _ h => wQl_below hq j v h⟩
     ·have h4 : fx 4 = dgV b := hd.1 rfl
      refine wpList_build_digs1 rfl (.tmp 28) rfl b h4 HBO.out ?_
      clear hd
      go_wp2_with fail
      have hbb : Below w'.heap.size w' (w'.alloc (.cells (flatD [b]).toArray 25)) := (Below.refl _ _).alloc (Nat.le_refl _) _
      exact ⟨_, by simp only [upd, h4]; rfl, ⟨fun h => hC.1 h, fun h => hC.2.1 h, (hC.2.2.1).trans (hbb.mono (Nat.le_trans HMS.out (hC.2.2.1).size)), fun h => (hC.2.2.2 h).below hbb⟩, ⟨_, rfl, heap_alloc_new _ _⟩, fun j v t _ _ h => wQl_below hbb j v h⟩
     ·have h0 : fx 0 = .slice A3 n3 c3 := hd.1 rfl
      have H5 := Lib.hid (hd.2.1 rfl)
      obtain ⟨q, hx, hrow⟩ := H5.out
      have HQR := Lib.hid hrow
      have HOV := Lib.hid (hC.2.2.2 hi)
      have HSZ := Lib.hid (Nat.le_trans HMS.out (hC.2.2.1).size)
      refine wpList_append_dig rfl (.tmp 24) (.tmp 29) rfl w.heap.size (Value.slice A3 n3 c3) P b h0 HOV HBO.out q hx HQR HPL.out HSZ.out ?_
      intro v2 w2 HO2 HG2
      have HB2 := Lib.hid ((Below.refl w.heap.size w').grown HG2.out HSZ.out (fun g hg => (HOV.out.block g hg).1))
      clear hd hrow
      go_wp2_with fail
      refine ⟨v2, by first | rfl | (rw [← hx, ← h0]; rfl) | (rw [← hx]; rfl), ⟨fun h => hC.1 h, fun h => hC.2.1 h, (hC.2.2.1).trans HB2.out, fun h => (updB_self h).elim⟩, HO2.out, fun j v t hj hu h => ?_⟩
      refine wQl_pure j v ?_ ?_ ?_ h <;> intro e <;> subst e
      ·refine absurd hu (not_needed (E := fun i => Nat.beq i 10 || Nat.beq i 11) (j := 5) [6] (by kernel_rfl) (by kernel_rfl) ?_)
       intro m hm hne; simp at hm; omega
      ·rw [hi] at hj; cases hj
      ·have := hcl 10 6 hj (by kernel_rfl); rw [hi] at this; cases this
     ·have hN11 : L 11 = false := Bool.eq_false_iff.2 (fun h => by have := hcl 11 7 h (by kernel_rfl); rw [hi] at this; cases this)
      have he := hC.2.1 hN11
      go_wp2_with fail
      exact ⟨_, by simp only [upd, he]; rfl, ⟨fun h => hC.1 h, fun h => hC.2.1 h, hC.2.2.1, fun h => hC.2.2.2 h⟩, rfl, kP⟩
     ·go_wp2_with fail
      exact ⟨_, rfl, ⟨fun h => hC.1 h, fun h => hC.2.1 h, hC.2.2.1, fun h => hC.2.2.2 h⟩, rfl, kP⟩
     ·have h7 : fx 7 = .slice (some ⟨g, off, none⟩) n2 c2 := hd.1 rfl
      have h8 : fx 8 = .int .i64 ((k : Nat)) := hd.2.1 rfl
      go_wp2_with fail
      exact ⟨_, by simp only [upd, h7, h8]; rfl, ⟨fun h => hC.1 h, fun h => hC.2.1 h, hC.2.2.1, fun h => hC.2.2.2 h⟩, rfl, kP⟩
     ·have H6 := Lib.hid (hd.1 rfl)
      go_wp2_with fail
      exact ⟨fx 6, rfl, ⟨fun h => (updB_self h).elim, fun h => hC.2.1 h, hC.2.2.1, fun h => hC.2.2.2 h⟩, H6.out, kP⟩
     ·have h9 : fx 9 = .slice (some ⟨g, off, none⟩) k c2 := hd.1 rfl
      go_wp2_with fail
      exact ⟨_, by simp only [upd, h9]; rfl, ⟨fun h => hC.1 h, fun h => (updB_self h).elim, hC.2.2.1, fun h => hC.2.2.2 h⟩, rfl, kP⟩
    ·intro L fo w' hC hS
     have H10 := Lib.hid (hS 10 (by decide) rfl)
     have H11 := Lib.hid (hS 11 (by decide) rfl)
     obtain ⟨A4, n4, c4, e4⟩ := H10.out.form
     have h11e : fo 11 = .slice (some ⟨g, off, none⟩) k c2 := H11.out
     rw [e4, h11e]
     have HBE := Lib.hid (HB1.out.trans (hC.2.2.1))
     have HO4 : Hid (OwnD w' w.heap.size (Value.slice A4 n4 c4) (P ++ [b])) := Lib.hid (by rw [← e4]; exact H10.out)
     clear hS hC H10 H11 e4 h11e
     go_wp2_with fail
     go_roundw
     case rel => exact ⟨g, off, k, c2, i2, ls2.take k, P ++ [b], rfl, by go_num, hik, HT2, HO4, Lib.hid (by rw [HPQ.out, HPE.out, List.reverse_append, List.append_assoc]; rfl), HBE, by simp only [List.length_append, List.length_cons, List.length_nil]; omega, ⟨_, _, _, rfl⟩⟩
     case measure => simp [lenOf]; omega
   ·have d2 : decide ((i2 : Int) < (k : Int)) = false := decide_eq_false (by omega)
    have d3 : decide (i2 < k) = false := decide_eq_false hik
    obtain ⟨d, HD⟩ : ∃ d : Nat, Hid (i2 - k = d) := ⟨_, Lib.hid rfl⟩
    have HWD : Hid (IntKind.i64.wrap ((i2 : Int) - (k : Int)) = (d : Int)) := Lib.hid (by rw [IntWalk.i64_in _ (by omega), ← HD.out]; omega)
    obtain ⟨b, HBB⟩ : ∃ b, Hid (treeD (ls2.take k) = b) := ⟨_, Lib.hid rfl⟩
    have HBO : Hid (DgOk b) := Lib.hid (by rw [← HBB.out]; exact treeD_okD _)
    have HPE : Hid (pathD ls2 i2 = pathD (ls2.drop k) d ++ [b]) := Lib.hid (by rw [pathD_right (l := ls2) (by rw [HNE.out]; exact h2) (by rw [HNE.out, HK.out]; exact hik), HNE.out, HK.out, HBB.out, HD.out])
    go_wp2_with fail
    refine region_flow4 (by kernel_rfl) (by kernel_rfl) (fun i => Nat.beq i 13 || Nat.beq i 14 || Nat.beq i 15) (fun i => i) (by kernel_rfl) (fun fx => #[fx 14, fx 15, undef, undef, fx 13, .int IntKind.i64 0, .int IntKind.i64 ↑k, .int IntKind.i64 ↑i, .bool false, .bool false, .int IntKind.i64 ↑i, .slice (some { block := g0, off := off0 }) n c, .int IntKind.i64 ↑n, .bool false, .bool false, .slice (some { block := g, off := off }) n2 c2, .int IntKind.i64 ↑n2, .bool true, .slice (some { block := g, off := off }) n2 c2, .int IntKind.i64 ↑n2, .int IntKind.i64 ↑k, .int IntKind.i64 ↑i2, .int IntKind.i64 ↑k, .bool false, u24, u25, u26, u27, u28, u29, u30, u31, u32, u33, fx 0, fx 1, fx 2, fx 3, fx 4, fx 5, fx 6, fx 7, fx 8, fx 9, fx 10, fx 11, fx 12, undef, undef, undef]) (fun i => bif Nat.beq i 0 then u34 else bif Nat.beq i 1 then u35 else bif Nat.beq i 2 then u36 else bif Nat.beq i 3 then u37 else bif Nat.beq i 4 then u38 else bif Nat.beq i 5 then u39 else bif Nat.beq i 6 then u40 else bif Nat.beq i 7 then u41 else bif Nat.beq i 8 then u42 else bif Nat.beq i 9 then u43 else bif Nat.beq i 10 then u44 else bif Nat.beq i 11 then u45 else bif Nat.beq i 12 then u46 else bif Nat.beq i 13 then Value.slice A3 n3 c3 else bif Nat.beq i 14 then Value.slice (some { block := g, off := off }) n2 c2 else bif Nat.beq i 15 then Value.int IntKind.i64 ↑i2 else undef) (fun L fx w' => (L 13 = false → fx 13 = .slice A3 n3 c3) ∧ (L 14 = false → fx 14 = .slice (some ⟨g, off, none⟩) n2 c2) ∧ (L 15 = false → fx 15 = .int .i64 ((i2 : Nat))) ∧ Below w.heap.size W1 w' ∧ (L 6 = false → OwnD w' w.heap.size (Value.slice A3 n3 c3) P)) (fun fi fv _ fw => wQr w.heap.size g off n2 c2 k A3 n3 c3 i2 d b P fi fv fw) ⟨fun _ => rfl, fun _ => rfl, fun _ => rfl, (Below.refl _ _).drew, fun _ => HOW.out.kept (fun _ _ => rfl)⟩ ?_ ?_
    ·refine ⟨?_, ?_, ?_, ?_, ?_, ?_, ?_, ?_, ?_, ?_, ?_, ?_, ?_, ?_, ?_, ?_, trivial⟩
     all_goals intro L fx w' hC hi hcl hdn hd
     ·have hN13 : L 13 = false := Bool.eq_false_iff.2 (fun h => by have := hcl 13 0 h (by kernel_rfl); rw [hi] at this; cases this)
      have he := hC.1 hN13
      go_wp2_with fail
      exact ⟨_, by simp only [upd, he]; rfl, ⟨fun h => hC.1 h, fun h => hC.2.1 h, fun h => hC.2.2.1 h, hC.2.2.2.1, fun h => hC.2.2.2.2 h⟩, rfl, kP⟩
     ·have hN14 : L 14 = false := Bool.eq_false_iff.2 (fun h => by have := hcl 14 1 h (by kernel_rfl); rw [hi] at this; cases this)
      have he := hC.2.1 hN14
      go_wp2_with fail
      exact ⟨_, by simp only [upd, he]; rfl, ⟨fun h => hC.1 h, fun h => hC.2.1 h, fun h => hC.2.2.1 h, hC.2.2.2.1, fun h => hC.2.2.2.2 h⟩, rfl, kP⟩
     ·go_wp2_with fail
      exact ⟨_, rfl, ⟨fun h => hC.1 h, fun h => hC.2.1 h, fun h => hC.2.2.1 h, hC.2.2.2.1, fun h => hC.2.2.2.2 h⟩, rfl, kP⟩
     ·have h1 : fx 1 = .slice (some ⟨g, off, none⟩) n2 c2 := hd.1 rfl
      have h2 : fx 2 = .int .i64 ((k : Nat)) := hd.2.1 rfl
      go_wp2_with fail
      exact ⟨_, by simp only [upd, h1, h2]; rfl, ⟨fun h => hC.1 h, fun h => hC.2.1 h, fun h => hC.2.2.1 h, hC.2.2.2.1, fun h => hC.2.2.2.2 h⟩, rfl, kP⟩
     ·have h3 : fx 3 = .slice (some ⟨g, off, none⟩) k c2 := hd.1 rfl
      have HIk := Lib.hid (HT2.out.below (HB1.out.trans hC.2.2.2.1))
      have HTk := Lib.hid (hT.out.below (HB1.out.trans hC.2.2.2.1))
      go_wp2_with fail
      refine (dtree_any k (ls2.take k) _ k c2 w' (Nat.le_refl _) (by omega) HIk HTk).mono ?_
      rintro e w2 ⟨rfl, hq⟩
      rw [HBB.out]
      go_wp2_with fail
      exact ⟨_, by simp only [upd, h3]; rfl, ⟨fun h => hC.1 h, fun h => hC.2.1 h, fun h => hC.2.2.1 h, (hC.2.2.2.1).trans (hq.mono (Nat.le_trans HMS.out (hC.2.2.2.1).size)), fun h => (hC.2.2.2.2 h).below hq⟩, rfl, fun j v t _ _ h => wQr_below hq j v h⟩
     ·have h4 : fx 4 = dgV b := hd.1 rfl
      refine wpList_build_digs1 rfl (.tmp 38) rfl b h4 HBO.out ?_
      clear hd
      go_wp2_with fail
      have hbb : Below w'.heap.size w' (w'.alloc (.cells (flatD [b]).toArray 25)) := (Below.refl _ _).alloc (Nat.le_refl _) _
      exact ⟨_, by simp only [upd, h4]; rfl, ⟨fun h => hC.1 h, fun h => hC.2.1 h, fun h => hC.2.2.1 h, (hC.2.2.2.1).trans (hbb.mono (Nat.le_trans HMS.out (hC.2.2.2.1).size)), fun h => (hC.2.2.2.2 h).below hbb⟩, ⟨_, rfl, heap_alloc_new _ _⟩, fun j v t _ _ h => wQr_below hbb j v h⟩
     ·have h0 : fx 0 = .slice A3 n3 c3 := hd.1 rfl
      have H5 := Lib.hid (hd.2.1 rfl)
      obtain ⟨q, hx, hrow⟩ := H5.out
      have HQR := Lib.hid hrow
      have HOV := Lib.hid (hC.2.2.2.2 hi)
      have HSZ := Lib.hid (Nat.le_trans HMS.out (hC.2.2.2.1).size)
      refine wpList_append_dig rfl (.tmp 34) (.tmp 39) rfl w.heap.size (Value.slice A3 n3 c3) P b h0 HOV HBO.out q hx HQR HPL.out HSZ.out ?_
      intro v2 w2 HO2 HG2
      have HB2 := Lib.hid ((Below.refl w.heap.size w').grown HG2.out HSZ.out (fun g hg => (HOV.out.block g hg).1))
      clear hd hrow
      go_wp2_with fail
      refine ⟨v2, by first | rfl | (rw [← hx, ← h0]; rfl) | (rw [← hx]; rfl), ⟨fun h => hC.1 h, fun h => hC.2.1 h, fun h => hC.2.2.1 h, (hC.2.2.2.1).trans HB2.out, fun h => (updB_self h).elim⟩, HO2.out, fun j v t hj hu h => ?_⟩
      refine wQr_pure j v ?_ ?_ ?_ h <;> intro e <;> subst e
      ·refine absurd hu (not_needed (E := fun i => Nat.beq i 13 || Nat.beq i 14 || Nat.beq i 15) (j := 5) [6] (by kernel_rfl) (by kernel_rfl) ?_)
       intro m hm hne; simp at hm; omega
      ·rw [hi] at hj; cases hj
      ·have := hcl 13 6 hj (by kernel_rfl); rw [hi] at this; cases this
     ·have hN14 : L 14 = false := Bool.eq_false_iff.2 (fun h => by have := hcl 14 7 h (by kernel_rfl); rw [hi] at this; cases this)
      have he := hC.2.1 hN14
      go_wp2_with fail
      exact ⟨_, by simp only [upd, he]; rfl, ⟨fun h => hC.1 h, fun h => hC.2.1 h, fun h => hC.2.2.1 h, hC.2.2.2.1, fun h => hC.2.2.2.2 h⟩, rfl, kP⟩
     ·go_wp2_with fail
      exact ⟨_, rfl, ⟨fun h => hC.1 h, fun h => hC.2.1 h, fun h => hC.2.2.1 h, hC.2.2.2.1, fun h => hC.2.2.2.2 h⟩, rfl, kP⟩
     ·have h7 : fx 7 = .slice (some ⟨g, off, none⟩) n2 c2 := hd.1 rfl
      have h8 : fx 8 = .int .i64 ((k : Nat)) := hd.2.1 rfl
      go_wp2_with fail
      exact ⟨_, by simp only [upd, h7, h8]; rfl, ⟨fun h => hC.1 h, fun h => hC.2.1 h, fun h => hC.2.2.1 h, hC.2.2.2.1, fun h => hC.2.2.2.2 h⟩, rfl, kP⟩
     ·have hN15 : L 15 = false := Bool.eq_false_iff.2 (fun h => by have := hcl 15 10 h (by kernel_rfl); rw [hi] at this; cases this)
      have he := hC.2.2.1 hN15
      go_wp2_with fail
      exact ⟨_, by simp only [upd, he]; rfl, ⟨fun h => hC.1 h, fun h => hC.2.1 h, fun h => hC.2.2.1 h, hC.2.2.2.1, fun h => hC.2.2.2.2 h⟩, rfl, kP⟩
     ·go_wp2_with fail
      exact ⟨_, rfl, ⟨fun h => hC.1 h, fun h => hC.2.1 h, fun h => hC.2.2.1 h, hC.2.2.2.1, fun h => hC.2.2.2.2 h⟩, rfl, kP⟩
     ·have h10 : fx 10 = .int .i64 ((i2 : Nat)) := hd.1 rfl
      have h11 : fx 11 = .int .i64 ((k : Nat)) := hd.2.1 rfl
      have hw := HWD.out
      go_wp2_with fail
      exact ⟨_, by simp only [upd, h10, h11]; rfl, ⟨fun h => hC.1 h, fun h => hC.2.1 h, fun h => hC.2.2.1 h, hC.2.2.2.1, fun h => hC.2.2.2.2 h⟩, rfl, kP⟩
     ·have H6 := Lib.hid (hd.1 rfl)
      go_wp2_with fail
      exact ⟨fx 6, rfl, ⟨fun h => (updB_self h).elim, fun h => hC.2.1 h, fun h => hC.2.2.1 h, hC.2.2.2.1, fun h => hC.2.2.2.2 h⟩, H6.out, kP⟩
     ·have h9 : fx 9 = .slice (some ⟨g, off + k * 32, none⟩) (n2 - k) (c2 - k) := hd.1 rfl
      go_wp2_with fail
      exact ⟨_, by simp only [upd, h9]; rfl, ⟨fun h => hC.1 h, fun h => (updB_self h).elim, fun h => hC.2.2.1 h, hC.2.2.2.1, fun h => hC.2.2.2.2 h⟩, rfl, kP⟩
     ·have h12 : fx 12 = .int .i64 ((d : Nat)) := hd.1 rfl
      go_wp2_with fail
      exact ⟨_, by simp only [upd, h12]; rfl, ⟨fun h => hC.1 h, fun h => hC.2.1 h, fun h => (updB_self h).elim, hC.2.2.2.1, fun h => hC.2.2.2.2 h⟩, rfl, kP⟩
    ·intro L fo w' hC hS
     have H13 := Lib.hid (hS 13 (by decide) rfl)
     have H14 := Lib.hid (hS 14 (by decide) rfl)
     have H15 := Lib.hid (hS 15 (by decide) rfl)
     obtain ⟨A4, n4, c4, e4⟩ := H13.out.form
     have h11e : fo 14 = .slice (some ⟨g, off + k * 32, none⟩) (n2 - k) (c2 - k) := H14.out
     have h15e : fo 15 = .int .i64 ((d : Nat)) := H15.out
     rw [e4, h11e, h15e]
     have HBE := Lib.hid (HB1.out.trans (hC.2.2.2.1))
     have HO4 : Hid (OwnD w' w.heap.size (Value.slice A4 n4 c4) (P ++ [b])) := Lib.hid (by rw [← e4]; exact H13.out)
     clear hS hC H13 H14 e4 h11e H15 h15e
     go_wp2_with fail
     go_roundw
     case rel => exact ⟨g, off + k * 32, n2 - k, c2 - k, d, ls2.drop k, P ++ [b], rfl, by go_num, by have := HD.out; omega, HT3, HO4, Lib.hid (by rw [HPQ.out, HPE.out, List.reverse_append, List.append_assoc]; rfl), HBE, by simp only [List.length_append, List.length_cons, List.length_nil]; omega, ⟨_, _, _, rfl⟩⟩
     case measure => simp [lenOf]; omega
  ·have d1 : decide ((1 : Int) < (n2 : Int)) = false := decide_eq_false (by omega)
   have d11 : decide (1 < n2) = false := decide_eq_false (by omega)
   have HPF : Hid (pathD ls i = P.reverse) := Lib.hid (by rw [HPQ.out, pathD_one (by rw [HNE.out]; omega)]; rfl)
   have HPO : Hid (∀ x ∈ P, DgOk x) := Lib.hid (fun x hx => ⟨(pathD_ok ls i x (by rw [HPF.out]; exact List.mem_reverse.2 hx)).1, (pathD_ok ls i x (by rw [HPF.out]; exact List.mem_reverse.2 hx)).2⟩)
   obtain ⟨A4, n4, c4, e4, hin4, ht4⟩ := HOW.out.slice HPO.out
   cases e4
   have HI4 := Lib.hid hin4
   have HT4 := Lib.hid ht4
   have hn4 : n3 ≤ 1000000 := by rw [← hin4.len]; omega
   clear hin4 ht4
   go_wp2_with fail
   refine (revD_any P A3 n3 c3 w.heap.size _ hn4 HI4 HT4 HB1.out.size).mono ?_
   rintro e w2 ⟨⟨vv, rfl⟩, hin5, hg5⟩
   have HI5 := Lib.hid hin5
   have HB5 := Lib.hid (HB1.out.trans ((Below.refl w.heap.size _).grown hg5 HB1.out.size (fun g hg => (HOW.out.block g hg).1)))
   clear hin5 hg5
   go_wp2_with fail
   go_ret2
   exact ⟨_, _, _, rfl, by rw [HPF.out]; exact HI5.out, HB5.out, fun g hg => (HOW.out.block g hg).1⟩
end Go.Proofs.YtmfmgeapecapiaaGreatDoor
