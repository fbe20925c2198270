/- Slices of digests: built, appended, reversed. sizar/digest.Path. sizar/digest.Climb. -/
import Derived.Test.YtmfmgeapecapiaaGreatDoorMS4
import Derived.Test.YtmfmgeapecapiaaGreatDoorMS3
set_option maxHeartbeats 64000001
open Go.Lib (hid)
namespace Go.Proofs.YtmfmgeapecapiaaGreatDoor
open Go.RowKit SzSha SzTree
set_option linter.unusedVariables false
set_option maxRecDepth 100000
theorem dgC_len {l : List Nat} (h : DgOk l) : (dgC l).length = 32 := by rw [dgC_length]; exact h.len
theorem dg_cells (l : List Nat) : (dgV l).cells = (dgC l).toArray := rfl
theorem flatD_get : ∀ (ls : List Dg), (∀ x ∈ ls, DgOk x) → ∀ (k : Nat) (hk : k < ls.length) (j : Nat) (v : Value), (dgC ls[k])[j]? = some v → (flatD ls)[k * 32 + j]? = some v := fun ls ho k hk j v hj => by
 have hj2 : j < 32 := by have := (List.getElem?_eq_some_iff.1 hj).1; rw [dgC_length, (ho _ (List.getElem_mem hk)).len] at this; exact this
 have e1 : ls = ls.take k ++ (ls[k] :: ls.drop (k + 1)) := by rw [← List.drop_eq_getElem_cons hk, List.take_append_drop]
 have e3 : (flatD (ls.take k)).length = k * 32 := by
  rw [flatD_length _ (fun x hx => ho x (List.mem_of_mem_take hx)), List.length_take, show min k ls.length = k by omega]
 have e2 : flatD ls = flatD (ls.take k) ++ (dgC ls[k] ++ flatD (ls.drop (k + 1))) := by
  conv => lhs; rw [e1]
  rw [flatD_append]; rfl
 rw [e2, List.getElem?_append_right (by omega), e3, Nat.add_sub_cancel_left, List.getElem?_append_left (by rw [dgC_length, (ho _ (List.getElem_mem hk)).len]; exact hj2)]
 exact hj
theorem info_dig : ∃ i, Tryz.prog.info? 25 = some i ∧ i.zero = some (.agg (Array.replicate 32 (.int .u8 0))) ∧ i.size = 32 ∧ i.bytes = 32 := by
 refine ⟨_, rfl, ?_, ?_, ?_⟩ <;> kernel_rfl
theorem fill_dig1 {n : Dg} (hn : DgOk n) {i : TypeInfo} {z : Value} (hs : i.size = 32) : Instr.fill (fun j => some (j * i.size, i.size)) ((Array.range (1 * i.size)).map (z.cells[· % z.cells.size]!)) [(0, dgV n)] = some (flatD [n]).toArray := by
 rw [hs]
 have e1 : ([(0, dgV n)] : List (Nat × Value)) = (([dgV n] : List Value).zipIdx 0).map fun x => (x.2, x.1) := by simp
 rw [e1, Great.fill_whole (by omega) [dgV n] _ (fun v hv => by
  simp only [List.mem_cons, List.not_mem_nil, or_false] at hv
  subst hv
  rw [dg_cells]; simpa using dgC_len hn) (by simp)]
 rfl
theorem wpList_build_digs1 {w : World} {ops : Array Oper} {rest : List Oper} {o : Oper} {a : Act} {Q : Exit → Act → World → Prop} (hg : o.guard = none) (x : Operand)
  (ho : o.op = .buildSlice 46 1 #[(0, x)]) (n : Dg) (hx : a.eval x = dgV n) (hn : DgOk n)
  (h : wpList Tryz.prog ops Q rest (a.put o.dst (.slice (some ⟨w.heap.size, 0, none⟩) 1 1)) (w.alloc (.cells (flatD [n]).toArray 25))) : wpList Tryz.prog ops Q (o :: rest) a w := by
 obtain ⟨i0, hi, hz, hs, _⟩ := info_dig
 refine wpList_buildSlice hg 46 25 1 _ ho _ i0 _ Tryz.underlying46 hi hz (by rw [hs]; omega) (by rw [hs]; omega) ?_ h
 have e1 : (#[(0, x)].map fun (i, x) => (i, a.eval x)).toList = [(0, dgV n)] := by simp [hx]
 rw [e1]; exact fill_dig1 hn hs
/-- a slice of nodes that the call made -/
def OwnD (w : World) (base : Nat) (v : Value) (ls : List Dg) : Prop := w.ownsRow base 25 32 v ls.length (flatD ls)
theorem OwnD.nil (w : World) (base : Nat) : OwnD w base (.slice none 0 0) [] := ⟨rfl, .inl ⟨rfl, rfl⟩⟩
theorem flatD_one (ls : List Dg) : ∀ u ∈ flatD ls, u.oneCell' = true := fun u hu => by
 obtain ⟨n, _, h⟩ := List.mem_flatMap.1 hu
 have := dgC_one n
 rw [Array.all_eq_true_iff_forall_mem] at this
 exact this u (by simpa using h)
theorem OwnD.kept {w w' : World} {base : Nat} {v : Value} {ls : List Dg} (h : OwnD w base v ls) (hk : ∀ g, v.ownBlock = some g → w'.heap[g]? = w.heap[g]?) : OwnD w' base v ls := by
 refine ⟨h.1, ?_⟩
 rcases h.2 with h0 | ⟨g, cap, cur, rfl, hb, hh, r⟩
 ·exact .inl h0
 ·exact .inr ⟨g, cap, cur, rfl, hb, (hk g rfl).trans hh, r⟩
theorem OwnD.block {w : World} {base : Nat} {v : Value} {ls : List Dg} (h : OwnD w base v ls) (g : Nat) (hg : v.ownBlock = some g) : base ≤ g ∧ g < w.heap.size ∧ ∃ cur, w.heap[g]? = some (.cells cur 25 (0, 0)) := by
 rcases h.2 with ⟨rfl, h0⟩ | ⟨g', cap, cur, rfl, hb, hh, r⟩
 ·cases hg
 ·have : g' = g := by simpa [Value.ownBlock] using hg
  subst this
  exact ⟨hb, (Array.getElem?_eq_some_iff.1 hh).1, cur, hh⟩
theorem OwnD.below {w w' : World} {base : Nat} {v : Value} {ls : List Dg} (h : OwnD w base v ls) (hb : Below w.heap.size w w') : OwnD w' base v ls := h.kept fun g hg => hb.block g (h.block g hg).2.1
theorem OwnD.form {w : World} {base : Nat} {v : Value} {ls : List Dg} (h : OwnD w base v ls) : ∃ A n c, v = .slice A n c := by
 rcases h.2 with ⟨rfl, h0⟩ | ⟨g, cap, cur, rfl, r⟩
 ·exact ⟨_, _, _, rfl⟩
 ·exact ⟨_, _, _, rfl⟩
/-- the slice, read -/
theorem OwnD.slice {w : World} {base : Nat} {v : Value} {ls : List Dg} (h : OwnD w base v ls) (ho : ∀ x ∈ ls, DgOk x) : ∃ A n c, v = .slice A n c ∧ InD w A n c ls ∧ (∀ x, A = some x → ∃ g, x = ⟨g, 0, none⟩ ∧ base ≤ g ∧ w.there g 0 (n * 32)) := by
 rcases h.2 with ⟨rfl, h0⟩ | ⟨g, cap, cur, rfl, hb, hh, hc, hm, hs, ht⟩
 ·exact ⟨none, 0, 0, rfl, ⟨h0, Nat.le_refl _, fun _ => rfl, ho, fun h1 => by omega⟩, fun x hx => by cases hx⟩
 ·refine ⟨_, _, cap, rfl, ⟨rfl, hc, (fun e => by cases e), ho, fun _ => ⟨g, 0, rfl, (Array.getElem?_eq_some_iff.1 hh).1, fun j u hj => ?_⟩⟩, fun x hx => by cases hx; exact ⟨g, rfl, hb, there_row hh (by rw [hs]; exact Nat.mul_le_mul_right 32 hc)⟩⟩
  have hj2 : j < ls.length * 32 := by rw [← flatD_length ls ho]; exact (List.getElem?_eq_some_iff.1 hj).1
  rw [Nat.zero_add, cell_of_row w g j cur _ _ hh]
  rw [← ht, List.getElem?_take_of_lt hj2] at hj
  simpa using hj
theorem append_dig_post {base : Nat} {w w' : World} {v v' : Value} {ls : List Dg} {n : Dg} (hown : OwnD w base v ls) (h1 : w'.ownsRow base 25 32 v' (ls.length + 1) (flatD ls ++ flatD [n])) (h2 : w.grownBy w' v.ownBlock) (hbase : base ≤ w.heap.size) : OwnD w' base v' (ls ++ [n]) := by
 unfold OwnD
 rw [flatD_append, List.length_append]; exact h1
theorem wpList_append_dig {w : World} {ops : Array Oper} {rest : List Oper} {o : Oper} {a : Act} {Q : Exit → Act → World → Prop} (hgd : o.guard = none) (s x : Operand)
  (ho : o.op = .call { callee := .builtin .append, args := #[s, x], argTypes := #[46, 46] })
  (base : Nat) (v : Value) (ls : List Dg) (n : Dg) (hs : a.eval s = v) (hown : Hid (OwnD w base v ls)) (hn : DgOk n) (g : Nat) (hx : a.eval x = .slice (some ⟨g, 0, none⟩) 1 1)
  (hr : Hid (w.heap[g]? = some (.cells (flatD [n]).toArray 25 (0, 0)))) (hlen : ls.length ≤ 100000) (hbase : base ≤ w.heap.size)
  (h : ∀ v' w', Hid (OwnD w' base v' (ls ++ [n])) → Hid (w.grownBy w' v.ownBlock) → wpList Tryz.prog ops Q rest (a.put o.dst v') w') : wpList Tryz.prog ops Q (o :: rest) a w := by
 obtain ⟨i0, hi, hz, hz1, hz2⟩ := info_dig
 refine wpList_append_own_at _ hgd s x _ ho base _ i0 _ 32 32 Tryz.underlying46 hi hz hz1 hz2 (by simp [Value.cells]) (by omega) v _ _ hs hown.out ⟨g, 0, none⟩ 1 1 (flatD [n]) hx (by rw [flatD_length _ (fun y hy => by simp at hy; subst hy; exact hn)]; rfl) (fun j u hu => by rw [add_row]; exact range_row hr.out j u hu) (flatD_one _) (by unfold maxLen; omega) (by omega) hbase ?_
 intro v' w' h1 h2 h3 h4
 have := append_dig_post hown.out h1 h2 hbase
 exact h v' w' (hid this) (hid h2)
def wdigs (g : Nat) (off : Nat) (n : Nat) (c : Nat) (i : Nat) (z : Nat) (F : Nat → Dg) : Nat → Value → World → Prop
 | 0, fv, _ => fv = .slice (some ⟨g, off, none⟩) n c
 | 1, fv, _ => fv = .int .i64 ((i : Nat))
 | 2, fv, _ => fv = .slice (some ⟨g, off, none⟩) n c
 | 3, fv, _ => fv = .int .i64 ((z : Nat))
 | 4, fv, _ => fv = .slice (some ⟨g, off, none⟩) n c
 | 5, fv, _ => fv = .int .i64 ((z : Nat))
 | 6, fv, _ => fv = .pointer (some ⟨g, off + z * 32, none⟩)
 | 7, fv, _ => fv = dgV (F z)
 | 8, fv, _ => fv = .slice (some ⟨g, off, none⟩) n c
 | 9, fv, _ => fv = .int .i64 ((i : Nat))
 | 10, fv, _ => fv = .pointer (some ⟨g, off + i * 32, none⟩)
 | 11, fv, _ => fv = dgV (F i)
 | 12, fv, _ => fv = .pointer (some ⟨g, off + i * 32, none⟩)
 | 13, fv, fw => True
 | 14, fv, _ => fv = .pointer (some ⟨g, off + z * 32, none⟩)
 | 15, fv, fw => Rw dgC 32 fw g off n (swF F i z true true)
 | _, _, _ => True
theorem wdigs_pure {g : Nat} {off : Nat} {n : Nat} {c : Nat} {i : Nat} {z : Nat} {F : Nat → Dg} {w w' : World} : ∀ j v, j ≠ 13 → j ≠ 15 → wdigs g off n c i z F j v w → wdigs g off n c i z F j v w'
 | 0, v, _, _, h => h
 | 1, v, _, _, h => h
 | 2, v, _, _, h => h
 | 3, v, _, _, h => h
 | 4, v, _, _, h => h
 | 5, v, _, _, h => h
 | 6, v, _, _, h => h
 | 7, v, _, _, h => h
 | 8, v, _, _, h => h
 | 9, v, _, _, h => h
 | 10, v, _, _, h => h
 | 11, v, _, _, h => h
 | 12, v, _, _, h => h
 | 13, v, hh, _, _ => absurd rfl hh
 | 14, v, _, _, h => h
 | 15, v, _, hh, _ => absurd rfl hh
 | n + 16, v, _, _, h => trivial
theorem rev_digs (f : Nat → Dg) (g off n c : Nat) (w : World) (hn : n ≤ 1000000) (hc : n ≤ c) (hok : Hid (∀ k, k < n → DgOk (f k))) (h : Hid (Rw dgC 32 w g off n f)) :
  Calls Tryz.prog 142 #[.slice (some ⟨g, off, none⟩) n c] w fun e w' => (∃ v, e = .returned v) ∧ Rw dgC 32 w' g off n (fun k => f (n - 1 - k)) ∧ w.grownBy w' (some g) := by
 have HLF : Hid (∀ k, k < n → (dgC (f k)).length = 32) := hid (fun k hk => dgC_len (hok.out k hk))
 go_enter Tryz.func142, Tryz.ntmps142
 go_wp2_with fail
 go_loopw [2, 3] (fun s t wr => ∃ i : Nat, 2 * i ≤ n + 1 ∧ s = .int .i64 (i : Nat) ∧ t = .int .i64 ((n : Int) - 1 - (i : Int)) ∧ Hid (Rw dgC 32 wr g off n (curF f n i)) ∧ Hid (w.grownBy wr (some g))) (fun s _ _ => n - (intOf s).toNat)
 case atStart => exact ⟨0, by omega, rfl, by simp, hid (h.out.congr (fun k hk => curF_zero f n k hk)), hid ⟨rfl, rfl, rfl, Nat.le_refl _, fun _ _ _ => rfl⟩⟩
 case round =>
  obtain ⟨i, hi2, rfl, rfl, HRi, HGi⟩ := hrel
  by_cases hlt : 2 * i + 1 < n
  ·obtain ⟨j, hj⟩ : ∃ j, i + j + 1 = n := ⟨n - 1 - i, by omega⟩
   rw [show (n : Int) - 1 - (i : Int) = (j : Int) by omega]
   have HIJ : Hid (i < j) := hid (by omega)
   have HLI : Hid (i < n) := hid (by omega)
   have HLJ : Hid (j < n) := hid (by omega)
   have HJ := hid hj
   have d1 : decide ((i : Int) < (j : Int)) = true := eQ (by omega)
   have d2 : decide (i < j) = true := eQ HIJ.out
   have HCN := hid (fun k (hk : k < n) => curF_next f hj HIJ.out k hk)
   have HLS := hid (curF_len (i := i) HLF.out)
   have HOK : Hid (∀ k, k < n → DgOk (curF f n i k)) := hid (fun k hk => by
    unfold curF; split
    ·exact hok.out _ (by omega)
    ·exact hok.out _ hk)
   generalize curF f n i = F at *
   have hj62 : j ≤ 1000000 := by omega
   have hi62 : i ≤ 1000000 := by omega
   clear hj hlt hi2
   go_wp2_with fail
   generalize wr = W1 at *
   refine region_flow4 (by kernel_rfl) (by kernel_rfl) (fun i => Nat.beq i 15) (fun i => i) (by kernel_rfl) (fun fx => #[.slice (some ⟨g, off, none⟩) n c, undef, .int .i64 ((i : Nat)), .int .i64 ((j : Nat)), .slice (some ⟨g, off, none⟩) n c, .int .i64 ((n : Nat)), .int .i64 ((n : Int) - 1), .int .i64 ((i : Nat)), .int .i64 ((j : Nat)), .bool true, u10, u11, u12, u13, fx 0, fx 1, fx 2, fx 3, fx 4, fx 5, fx 6, fx 7, fx 8, fx 9, fx 10, fx 11, fx 12, fx 14]) (fun i => bif Nat.beq i 0 then u14 else bif Nat.beq i 1 then u15 else bif Nat.beq i 2 then u16 else bif Nat.beq i 3 then u17 else bif Nat.beq i 4 then u18 else bif Nat.beq i 5 then u19 else bif Nat.beq i 6 then u20 else bif Nat.beq i 7 then u21 else bif Nat.beq i 8 then u22 else bif Nat.beq i 9 then u23 else bif Nat.beq i 10 then u24 else bif Nat.beq i 11 then u25 else bif Nat.beq i 12 then u26 else bif Nat.beq i 14 then u27 else undef) (fun L fx w' => W1.grownBy w' (some g) ∧ Rw dgC 32 w' g off n (swF F i j (L 13) (L 15))) (fun fi fv _ fw => wdigs g off n c i j F fi fv fw) ⟨(show W1.grownBy W1.drew (some g) from ⟨rfl, rfl, rfl, Nat.le_refl _, fun _ _ _ => rfl⟩), HRi.out.congr (fun k _ => rfl)⟩ ?_ ?_
   ·refine ⟨?_, ?_, ?_, ?_, ?_, ?_, ?_, ?_, ?_, ?_, ?_, ?_, ?_, ?_, ?_, ?_, trivial⟩
    all_goals intro L fx w' hC hi hcl hdn hd
    ·go_wp2_with fail
     exact ⟨_, rfl, ⟨hC.1, hC.2⟩, rfl, kP⟩
    ·go_wp2_with fail
     exact ⟨_, rfl, ⟨hC.1, hC.2⟩, rfl, kP⟩
    ·go_wp2_with fail
     exact ⟨_, rfl, ⟨hC.1, hC.2⟩, rfl, kP⟩
    ·go_wp2_with fail
     exact ⟨_, rfl, ⟨hC.1, hC.2⟩, rfl, kP⟩
    ·go_wp2_with fail
     exact ⟨_, rfl, ⟨hC.1, hC.2⟩, rfl, kP⟩
    ·go_wp2_with fail
     exact ⟨_, rfl, ⟨hC.1, hC.2⟩, rfl, kP⟩
    ·have h4 : fx 4 = .slice (some ⟨g, off, none⟩) n c := hd.1 rfl
     have h5 : fx 5 = .int .i64 ((j : Nat)) := hd.2.1 rfl
     have hx1 := HLJ.out
     go_wp2_with fail
     exact ⟨_, by rw [← h4, ← h5]; rfl, ⟨hC.1, hC.2⟩, rfl, kP⟩
    ·have h6 : fx 6 = .pointer (some ⟨g, off + j * 32, none⟩) := hd.1 rfl
     have hn13 : L 13 = false := nQ hi (fun h => hcl 13 7 h (by kernel_rfl))
     have hn15 : L 15 = false := nQ hi (fun h => hcl 15 7 h (by kernel_rfl))
     have hr := (hC.2 j HLJ.out).1
     rw [hn13, hn15] at hr
     have HRX : Hid (w'.rangeAt g (off + j * 32) (dgC (F j))) := hid hr
     clear hr
     refine wpList_load_mid rfl 25 (.tmp 20) rfl g (off + j * 32) h6 (dgC (F j)) _ HRX.out Tryz.underlying25 rfl (dgC_infoL (HOK.out j HLJ.out)) ?_
     clear hd
     go_wp2_with fail
     exact ⟨_, by rw [← h6]; rfl, ⟨hC.1, hC.2⟩, rfl, kP⟩
    ·go_wp2_with fail
     exact ⟨_, rfl, ⟨hC.1, hC.2⟩, rfl, kP⟩
    ·go_wp2_with fail
     exact ⟨_, rfl, ⟨hC.1, hC.2⟩, rfl, kP⟩
    ·have h8 : fx 8 = .slice (some ⟨g, off, none⟩) n c := hd.1 rfl
     have h9 : fx 9 = .int .i64 ((i : Nat)) := hd.2.1 rfl
     have hx1 := HLI.out
     go_wp2_with fail
     exact ⟨_, by rw [← h8, ← h9]; rfl, ⟨hC.1, hC.2⟩, rfl, kP⟩
    ·have h10 : fx 10 = .pointer (some ⟨g, off + i * 32, none⟩) := hd.1 rfl
     have hn13 : L 13 = false := nQ hi (fun h => hcl 13 11 h (by kernel_rfl))
     have hn15 : L 15 = false := nQ hi (fun h => hcl 15 11 h (by kernel_rfl))
     have hr := (hC.2 i HLI.out).1
     rw [hn13, hn15] at hr
     have HRX : Hid (w'.rangeAt g (off + i * 32) (dgC (F i))) := hid hr
     clear hr
     refine wpList_load_mid rfl 25 (.tmp 24) rfl g (off + i * 32) h10 (dgC (F i)) _ HRX.out Tryz.underlying25 rfl (dgC_infoL (HOK.out i HLI.out)) ?_
     clear hd
     go_wp2_with fail
     exact ⟨_, by rw [← h10]; rfl, ⟨hC.1, hC.2⟩, rfl, kP⟩
    ·have h0 : fx 0 = .slice (some ⟨g, off, none⟩) n c := hd.1 rfl
     have h1 : fx 1 = .int .i64 ((i : Nat)) := hd.2.1 rfl
     have hx1 := HLI.out
     go_wp2_with fail
     exact ⟨_, by rw [← h0, ← h1]; rfl, ⟨hC.1, hC.2⟩, rfl, kP⟩
    ·have h12 : fx 12 = .pointer (some ⟨g, off + i * 32, none⟩) := hd.1 rfl
     have h7 : fx 7 = dgV (F j) := hd.2.1 rfl
     have hn15 : L 15 = false := nQ hi (fun h => hcl 15 13 h (by kernel_rfl))
     have hr := hC.2
     rw [hi, hn15] at hr
     have HRW := hid hr
     clear hr
     have HNW := hid ((HRW.out.set (swF_len HLS.out HLI.out HLJ.out _ _) i HLI.out (F j) (HLS.out j HLJ.out)).congr (fun k _ => swF_one F i j k))
     have hg := grown_setCells hC.1 (off + i * 32) (dgC (F j))
     refine wpList_store_mid rfl 25 (.tmp 26) (.tmp 21) rfl g (off + i * 32) (dgC (F j)).toArray h12 h7 (by rw [show (dgC (F j)).toArray.size = 32 by simp [dgC_len (HOK.out j HLJ.out)]]; exact (HRW.out i HLI.out).2) (by rw [dgC_infoL (HOK.out j HLJ.out)]; simp) (dgC_one _) ?_
     clear hd
     go_wp2_with fail
     refine ⟨undef, by rw [← h12, ← h7]; rfl, ⟨hg, by
      rw [show updB L 13 13 = true from rfl, show updB L 13 15 = false from hn15]; exact HNW.out⟩, trivial, fun q v t hj _ h => by
      by_cases e : q = 13
      ·subst e; trivial
      ·by_cases e2 : q = 15
       ·subst e2; rw [hn15] at hj; cases hj
       ·exact wdigs_pure q v e e2 h⟩
    ·have h2 : fx 2 = .slice (some ⟨g, off, none⟩) n c := hd.1 rfl
     have h3 : fx 3 = .int .i64 ((j : Nat)) := hd.2.1 rfl
     have hx1 := HLJ.out
     go_wp2_with fail
     exact ⟨_, by rw [← h2, ← h3]; rfl, ⟨hC.1, hC.2⟩, rfl, kP⟩
    ·have h14 : fx 14 = .pointer (some ⟨g, off + j * 32, none⟩) := hd.1 rfl
     have h11 : fx 11 = dgV (F i) := hd.2.1 rfl
     have hn13 : L 13 = true := hdn 13 (by kernel_rfl)
     have hr := hC.2
     rw [hn13, hi] at hr
     have HRW := hid hr
     clear hr
     have HNW := hid ((HRW.out.set (swF_len HLS.out HLI.out HLJ.out _ _) j HLJ.out (F i) (HLS.out i HLI.out)).congr (fun k _ => swF_two F HIJ.out k))
     have hg := grown_setCells hC.1 (off + j * 32) (dgC (F i))
     refine wpList_store_mid rfl 25 (.tmp 27) (.tmp 25) rfl g (off + j * 32) (dgC (F i)).toArray h14 h11 (by rw [show (dgC (F i)).toArray.size = 32 by simp [dgC_len (HOK.out i HLI.out)]]; exact (HRW.out j HLJ.out).2) (by rw [dgC_infoL (HOK.out i HLI.out)]; simp) (dgC_one _) ?_
     clear hd
     go_wp2_with fail
     refine ⟨undef, by rw [← h14, ← h11]; rfl, ⟨hg, by
      rw [show updB L 15 13 = true from hn13, show updB L 15 15 = true from rfl]; exact HNW.out⟩, HNW.out, fun q v t hj _ h => by
      by_cases e : q = 13
      ·subst e; trivial
      ·by_cases e2 : q = 15
       ·subst e2; rw [hi] at hj; cases hj
       ·exact wdigs_pure q v e e2 h⟩
   ·intro L fx w' hC hS
    have H15 := hid (hS 15 (by decide) rfl)
    have HR9 := hid (H15.out.congr (fun k hk => HCN.out k hk))
    have HG9 := hid (only_trans HGi.out hC.1)
    have hw1 : IntKind.i64.wrap ((j : Int) - 1) = (n : Int) - 1 - ((i + 1 : Nat) : Int) := by have := HJ.out; rw [IntWalk.i64_in _ (by omega)]; omega
    clear hS hC H15
    go_wp2_with fail
    go_roundw
    case rel => exact ⟨i + 1, by have := HJ.out; have := HIJ.out; omega, by go_num, by go_num, HR9, HG9⟩
    case measure => first | (simp [intOf]; done) | (simp [intOf]; have := HLI.out; omega)
  ·have d1 : decide ((i : Int) < (n : Int) - 1 - (i : Int)) = false := dQ (by omega)
   have HE := hid (HRi.out.congr (fun k hk => curF_end f (show n ≤ 2 * i + 1 by omega) k hk))
   go_wp2_with fail
   go_end0
   exact ⟨⟨_, rfl⟩, HE.out, HGi.out⟩
theorem flatD_range {w : World} {g off : Nat} : ∀ (ls : List Dg), (∀ x ∈ ls, DgOk x) → (∀ k, k < ls.length → w.rangeAt g (off + k * 32) (dgC (ls.getD k zeroD))) → w.rangeAt g off (flatD ls) := fun ls ho h j v hj => by
 have hl := flatD_length ls ho
 have hj2 : j < ls.length * 32 := by rw [← hl]; exact (List.getElem?_eq_some_iff.1 hj).1
 have hk : j / 32 < ls.length := by omega
 have hr := h (j / 32) hk (j % 32)
 have he : ls.getD (j / 32) zeroD = ls[j / 32] := by simp [List.getD_eq_getElem?_getD, hk]
 rw [he] at hr
 have hm : j % 32 < (dgC ls[j / 32]).length := by rw [dgC_len (ho _ (List.getElem_mem _))]; omega
 obtain ⟨v2, hv2⟩ : ∃ v2, (dgC ls[j / 32])[j % 32]? = some v2 := ⟨_, List.getElem?_eq_getElem hm⟩
 have h2 := flatD_get ls ho (j / 32) hk (j % 32) v2 hv2
 rw [show j / 32 * 32 + j % 32 = j by omega, hj] at h2
 cases h2
 have := hr v hv2
 rwa [show off + j / 32 * 32 + j % 32 = off + j by omega] at this
theorem revD_nil (c : Nat) (w : World) : Calls Tryz.prog 142 #[.slice none 0 c] w fun e w' => (∃ v, e = .returned v) ∧ w = w' := by
 go_enter Tryz.func142, Tryz.ntmps142
 go_wp2_with fail
 go_loopw [2, 3] (fun s t wr => s = .int .i64 0 ∧ t = .int .i64 (-1) ∧ w = wr) (fun _ _ _ => 0)
 case atStart => exact ⟨rfl, rfl, rfl⟩
 case round =>
  obtain ⟨rfl, rfl, rfl⟩ := hrel
  go_wp2_with fail
  go_end0
  exact ⟨⟨_, rfl⟩, rfl⟩
theorem revD_any (ls : List Dg) (A : Option Addr) (n c base : Nat) (w : World) (hn : n ≤ 1000000) (h : Hid (InD w A n c ls)) (ht : Hid (∀ x, A = some x → ∃ g, x = ⟨g, 0, none⟩ ∧ base ≤ g ∧ w.there g 0 (n * 32))) (hb : base ≤ w.heap.size) :
  Calls Tryz.prog 142 #[.slice A n c] w fun e w' => (∃ v, e = .returned v) ∧ InD w' A n c ls.reverse ∧ w.grownBy w' (Value.slice A n c).ownBlock := by
 rcases A with _ | a
 ·have hc := h.out.none_ rfl
  have h0 : n = 0 := by have := h.out.cap; omega
  have hl : ls = [] := List.eq_nil_of_length_eq_zero (by rw [h.out.len]; exact h0)
  subst hl; subst h0
  exact (revD_nil c w).mono fun e w' hh => by
   obtain ⟨h1, rfl⟩ := hh
   exact ⟨h1, h.out, ⟨rfl, rfl, rfl, Nat.le_refl _, fun _ _ _ => rfl⟩⟩
 ·obtain ⟨g, rfl, hbg, hth⟩ := ht.out a rfl
  by_cases h0 : n = 0
  ·have hl : ls = [] := List.eq_nil_of_length_eq_zero (by rw [h.out.len]; exact h0)
   subst hl; subst h0
   refine (rev_digs (fun k => zeroD) g 0 0 c w (by omega) (Nat.zero_le _) (hid (fun k hk => by omega)) (hid (fun k hk => by omega))).mono ?_
   rintro e w' ⟨h1, h2, h3⟩
   exact ⟨h1, ⟨rfl, Nat.zero_le _, (fun e => by cases e), (fun x hx => by cases hx), (fun h0 => by simp at h0)⟩, h3⟩
  ·obtain ⟨g', off', e, hg, hr⟩ := h.out.rd (by rw [h.out.len]; omega)
   cases e
   have hgd : ∀ k (hk : k < n), ls.getD k zeroD = ls[k]'(by rw [h.out.len]; exact hk) := fun k hk => by
    have : k < ls.length := by rw [h.out.len]; exact hk
    simp [List.getD_eq_getElem?_getD, this]
   refine (rev_digs (fun k => ls.getD k zeroD) g 0 n c w hn h.out.cap (hid (fun k hk => ?_)) (hid (fun k hk => ⟨?_, fun j hj => ?_⟩))).mono ?_
   ·rw [hgd k hk]; exact h.out.ok _ (List.getElem_mem _)
   ·show w.rangeAt g (0 + k * 32) (dgC (ls.getD k zeroD))
    rw [hgd k hk]; exact rangeD_one hr h.out.ok k (by rw [h.out.len]; exact hk)
   ·have := hth (k * 32 + j) (by have := mul_gap (s := 32) hk; omega)
    rwa [← Nat.add_assoc] at this
   ·rintro e w' ⟨h1, h2, h3⟩
    refine ⟨h1, ⟨by rw [List.length_reverse]; exact h.out.len, h.out.cap, (fun e => by cases e), fun x hx => h.out.ok x (List.mem_reverse.1 hx), fun _ => ⟨g, 0, rfl, Nat.lt_of_lt_of_le hg h3.size, ?_⟩⟩, h3⟩
    refine flatD_range _ (fun x hx => h.out.ok x (List.mem_reverse.1 hx)) fun k hk => ?_
    rw [List.length_reverse, h.out.len] at hk
    have hk2 : k < ls.reverse.length := by rw [List.length_reverse, h.out.len]; exact hk
    have : w'.rangeAt g (0 + k * 32) (dgC (ls.getD (n - 1 - k) zeroD)) := (h2 k hk).1
    rw [hgd (n - 1 - k) (by omega)] at this
    have e2 : ls.reverse.getD k zeroD = ls[n - 1 - k]'(by rw [h.out.len]; omega) := by
     rw [List.getD_eq_getElem?_getD, List.getElem?_eq_getElem hk2, Option.getD_some, List.getElem_reverse]
     congr 1
     rw [h.out.len]
    rw [e2]; exact this
def wQl (M : Nat) (g : Nat) (off : Nat) (n2 : Nat) (c2 : Nat) (k : Nat) (A3 : Option Addr) (n3 : Nat) (c3 : Nat) (i2 : Nat) (d : Nat) (b : List Nat) (P : List Dg) : Nat → Value → World → Prop
 | 0, fv, _ => fv = .slice A3 n3 c3
 | 1, fv, _ => fv = .slice (some ⟨g, off, none⟩) n2 c2
 | 2, fv, _ => fv = .int .i64 ((k : Nat))
 | 3, fv, _ => fv = .slice (some ⟨g, off + k * 32, none⟩) (n2 - k) (c2 - k)
 | 4, fv, _ => fv = dgV b
 | 5, fv, fw => ∃ q, fv = .slice (some ⟨q, 0, none⟩) 1 1 ∧ fw.heap[q]? = some (.cells (flatD [b]).toArray 25 (0, 0))
 | 6, fv, fw => OwnD fw M fv (P ++ [b])
 | 7, fv, _ => fv = .slice (some ⟨g, off, none⟩) n2 c2
 | 8, fv, _ => fv = .int .i64 ((k : Nat))
 | 9, fv, _ => fv = .slice (some ⟨g, off, none⟩) k c2
 | 10, fv, fw => OwnD fw M fv (P ++ [b])
 | 11, fv, _ => fv = .slice (some ⟨g, off, none⟩) k c2
 | _, _, _ => True
theorem wQl_below {M : Nat} {g : Nat} {off : Nat} {n2 : Nat} {c2 : Nat} {k : Nat} {A3 : Option Addr} {n3 : Nat} {c3 : Nat} {i2 : Nat} {d : Nat} {b : List Nat} {P : List Dg} {w w' : World} (hb : Below w.heap.size w w') : ∀ j v, wQl M g off n2 c2 k A3 n3 c3 i2 d b P j v w → wQl M g off n2 c2 k A3 n3 c3 i2 d b P j v w'
 | 0, v, h => h
 | 1, v, h => h
 | 2, v, h => h
 | 3, v, h => h
 | 4, v, h => h
 | 5, v, ⟨q, h1, h2⟩ => ⟨q, h1, row_kept h2 hb⟩
 | 6, v, h => h.below hb
 | 7, v, h => h
 | 8, v, h => h
 | 9, v, h => h
 | 10, v, h => h.below hb
 | 11, v, h => h
 | n + 12, v, h => trivial
theorem wQl_pure {M : Nat} {g : Nat} {off : Nat} {n2 : Nat} {c2 : Nat} {k : Nat} {A3 : Option Addr} {n3 : Nat} {c3 : Nat} {i2 : Nat} {d : Nat} {b : List Nat} {P : List Dg} {w w' : World} : ∀ j v, j ≠ 5 → j ≠ 6 → j ≠ 10 → wQl M g off n2 c2 k A3 n3 c3 i2 d b P j v w → wQl M g off n2 c2 k A3 n3 c3 i2 d b P j v w'
 | 0, v, _, _, _, h => h
 | 1, v, _, _, _, h => h
 | 2, v, _, _, _, h => h
 | 3, v, _, _, _, h => h
 | 4, v, _, _, _, h => h
 | 5, v, hh, _, _, _ => absurd rfl hh
 | 6, v, _, hh, _, _ => absurd rfl hh
 | 7, v, _, _, _, h => h
 | 8, v, _, _, _, h => h
 | 9, v, _, _, _, h => h
 | 10, v, _, _, hh, _ => absurd rfl hh
 | 11, v, _, _, _, h => h
 | n + 12, v, _, _, _, h => trivial
def wQr (M : Nat) (g : Nat) (off : Nat) (n2 : Nat) (c2 : Nat) (k : Nat) (A3 : Option Addr) (n3 : Nat) (c3 : Nat) (i2 : Nat) (d : Nat) (b : List Nat) (P : List Dg) : Nat → Value → World → Prop
 | 0, fv, _ => fv = .slice A3 n3 c3
 | 1, fv, _ => fv = .slice (some ⟨g, off, none⟩) n2 c2
 | 2, fv, _ => fv = .int .i64 ((k : Nat))
 | 3, fv, _ => fv = .slice (some ⟨g, off, none⟩) k c2
 | 4, fv, _ => fv = dgV b
 | 5, fv, fw => ∃ q, fv = .slice (some ⟨q, 0, none⟩) 1 1 ∧ fw.heap[q]? = some (.cells (flatD [b]).toArray 25 (0, 0))
 | 6, fv, fw => OwnD fw M fv (P ++ [b])
 | 7, fv, _ => fv = .slice (some ⟨g, off, none⟩) n2 c2
 | 8, fv, _ => fv = .int .i64 ((k : Nat))
 | 9, fv, _ => fv = .slice (some ⟨g, off + k * 32, none⟩) (n2 - k) (c2 - k)
 | 10, fv, _ => fv = .int .i64 ((i2 : Nat))
 | 11, fv, _ => fv = .int .i64 ((k : Nat))
 | 12, fv, _ => fv = .int .i64 ((d : Nat))
 | 13, fv, fw => OwnD fw M fv (P ++ [b])
 | 14, fv, _ => fv = .slice (some ⟨g, off + k * 32, none⟩) (n2 - k) (c2 - k)
 | 15, fv, _ => fv = .int .i64 ((d : Nat))
 | _, _, _ => True
theorem wQr_below {M : Nat} {g : Nat} {off : Nat} {n2 : Nat} {c2 : Nat} {k : Nat} {A3 : Option Addr} {n3 : Nat} {c3 : Nat} {i2 : Nat} {d : Nat} {b : List Nat} {P : List Dg} {w w' : World} (hb : Below w.heap.size w w') : ∀ j v, wQr M g off n2 c2 k A3 n3 c3 i2 d b P j v w → wQr M g off n2 c2 k A3 n3 c3 i2 d b P j v w'
 | 0, v, h => h
 | 1, v, h => h
 | 2, v, h => h
 | 3, v, h => h
 | 4, v, h => h
 | 5, v, ⟨q, h1, h2⟩ => ⟨q, h1, row_kept h2 hb⟩
 | 6, v, h => h.below hb
 | 7, v, h => h
 | 8, v, h => h
 | 9, v, h => h
 | 10, v, h => h
 | 11, v, h => h
 | 12, v, h => h
 | 13, v, h => h.below hb
 | 14, v, h => h
 | 15, v, h => h
 | n + 16, v, h => trivial
theorem wQr_pure {M : Nat} {g : Nat} {off : Nat} {n2 : Nat} {c2 : Nat} {k : Nat} {A3 : Option Addr} {n3 : Nat} {c3 : Nat} {i2 : Nat} {d : Nat} {b : List Nat} {P : List Dg} {w w' : World} : ∀ j v, j ≠ 5 → j ≠ 6 → j ≠ 13 → wQr M g off n2 c2 k A3 n3 c3 i2 d b P j v w → wQr M g off n2 c2 k A3 n3 c3 i2 d b P j v w'
 | 0, v, _, _, _, h => h
 | 1, v, _, _, _, h => h
 | 2, v, _, _, _, h => h
 | 3, v, _, _, _, h => h
 | 4, v, _, _, _, h => h
 | 5, v, hh, _, _, _ => absurd rfl hh
 | 6, v, _, hh, _, _ => absurd rfl hh
 | 7, v, _, _, _, h => h
 | 8, v, _, _, _, h => h
 | 9, v, _, _, _, h => h
 | 10, v, _, _, _, h => h
 | 11, v, _, _, _, h => h
 | 12, v, _, _, _, h => h
 | 13, v, _, _, hh, _ => absurd rfl hh
 | 14, v, _, _, _, h => h
 | 15, v, _, _, _, h => h
 | n + 16, v, _, _, _, h => trivial
theorem dpath_yes (ls : List Dg) (A : Option Addr) (n c i : Nat) (w : World) (hn : n ≤ 100000) (hin : i < n) (h : Hid (InD w A n c ls)) (hT : Hid (Tabs w)) :
  Calls Tryz.prog 113 #[.slice A n c, .int .i64 (i : Nat)] w fun e w' => ∃ A' n' c', e = .returned (.tuple #[.slice A' n' c', .int .i64 0]) ∧ InD w' A' n' c' (pathD ls i) ∧ Below w.heap.size w w' ∧ ∀ g, (Value.slice A' n' c').ownBlock = some g → w.heap.size ≤ g := by
 have HNE := hid (show ls.length = n from h.out.len)
 obtain ⟨g0, off0, rfl, hg, hr⟩ := h.out.rd (by rw [h.out.len]; omega)
 clear hg hr
 have d0 : decide ((i : Int) < 0) = false := dQ (by omega)
 have d1 : decide ((n : Int) ≤ (i : Int)) = false := dQ (by omega)
 have d11 : decide (n ≤ i) = false := dQ (by omega)
 go_enter Tryz.func113, Tryz.ntmps113
 go_wp2_with fail
 go_loopw [0, 1, 4] (fun l a p wr => ∃ (g off n2 c2 i2 : Nat) (ls2 P : List Dg), l = .slice (some ⟨g, off, none⟩) n2 c2 ∧ a = .int .i64 (i2 : Nat) ∧ i2 < n2 ∧ Hid (InD w (some ⟨g, off, none⟩) n2 c2 ls2) ∧ Hid (OwnD wr w.heap.size p P) ∧ Hid (pathD ls i = pathD ls2 i2 ++ P.reverse) ∧ Hid (Below w.heap.size w wr) ∧ n2 + P.length ≤ n ∧ ∃ A3 n3 c3, p = .slice A3 n3 c3) (fun l _ _ _ => lenOf l)
 case atStart => exact ⟨g0, off0, n, c, i, ls, [], rfl, rfl, hin, h, hid (OwnD.nil _ _), hid (by simp), hid (Below.refl _ _), by simp, _, _, _, rfl⟩
 case round =>
  clear h HNE hin d0 d1 d11
  obtain ⟨g, off, n2, c2, i2, ls2, P, rfl, rfl, hi2, HI2, HOW, HPQ, HB1, hpl, A3, n3, c3, rfl⟩ := hrel
  have HNE := hid (show ls2.length = n2 from HI2.out.len)
  have HPL : Hid (P.length ≤ 100000) := hid (by omega)
  by_cases h2 : 2 ≤ n2
  ·have d1 : decide ((1 : Int) < (n2 : Int)) = true := eQ (by omega)
   have d11 : decide (1 < n2) = true := eQ (by omega)
   obtain ⟨k, HK⟩ : ∃ k, Hid (half n2 = k) := ⟨_, hid rfl⟩
   have hkb := half_bd h2
   rw [HK.out] at hkb
   have HT2 := hid (HI2.out.take k (by omega))
   have HT3 := hid (HI2.out.drop k (by omega))
   have hcap := HI2.out.cap
   have HLT : Hid ((ls2.take k).length = k ∧ (ls2.drop k).length = n2 - k) := hid ⟨by rw [List.length_take, HNE.out]; omega, by rw [List.length_drop, HNE.out]⟩
   have HMS := hid HB1.out.size
   go_wp2_with fail
   refine (dhalf_any n2 _ h2 (by omega)).mono ?_
   rintro e W1 ⟨rfl, hw1⟩
   subst hw1
   rw [HK.out]
   obtain ⟨W1, hw1⟩ : ∃ W, W = wr := ⟨_, rfl⟩
   subst hw1
   by_cases hik : i2 < k
   ·have d2 : decide ((i2 : Int) < (k : Int)) = true := eQ (by omega)
    have d3 : decide (i2 < k) = true := eQ hik
    obtain ⟨d, HDD⟩ : ∃ d : Nat, Hid (d = 0) := ⟨0, hid rfl⟩
    obtain ⟨b, HBB⟩ : ∃ b, Hid (treeD (ls2.drop k) = b) := ⟨_, hid rfl⟩
    have HBO : Hid (DgOk b) := hid (by rw [← HBB.out]; exact treeD_okD _)
    have HPE : Hid (pathD ls2 i2 = pathD (ls2.take k) i2 ++ [b]) := hid (by rw [pathD_left (l := ls2) (by rw [HNE.out]; exact h2) (by rw [HNE.out, HK.out]; exact hik), HNE.out, HK.out, HBB.out])
    go_wp2_with fail
    refine region_flow4 (by kernel_rfl) (by kernel_rfl) (fun i => Nat.beq i 10 || Nat.beq i 11) (fun i => i) (by kernel_rfl) (fun fx => #[fx 11, .int IntKind.i64 ↑i2, undef, undef, fx 10, .int IntKind.i64 0, .int IntKind.i64 ↑k, .int IntKind.i64 ↑i, .bool false, .bool false, .int IntKind.i64 ↑i, .slice (some { block := g0, off := off0 }) n c, .int IntKind.i64 ↑n, .bool false, .bool false, .slice (some { block := g, off := off }) n2 c2, .int IntKind.i64 ↑n2, .bool true, .slice (some { block := g, off := off }) n2 c2, .int IntKind.i64 ↑n2, .int IntKind.i64 ↑k, .int IntKind.i64 ↑i2, .int IntKind.i64 ↑k, .bool true, fx 0, fx 1, fx 2, fx 3, fx 4, fx 5, fx 6, fx 7, fx 8, fx 9, u34, u35, u36, u37, u38, u39, u40, u41, u42, u43, u44, u45, u46, undef, undef, undef]) (fun i => bif Nat.beq i 0 then u24 else bif Nat.beq i 1 then u25 else bif Nat.beq i 2 then u26 else bif Nat.beq i 3 then u27 else bif Nat.beq i 4 then u28 else bif Nat.beq i 5 then u29 else bif Nat.beq i 6 then u30 else bif Nat.beq i 7 then u31 else bif Nat.beq i 8 then u32 else bif Nat.beq i 9 then u33 else bif Nat.beq i 10 then Value.slice A3 n3 c3 else bif Nat.beq i 11 then Value.slice (some { block := g, off := off }) n2 c2 else undef) (fun L fx w' => (L 10 = false → fx 10 = .slice A3 n3 c3) ∧ (L 11 = false → fx 11 = .slice (some ⟨g, off, none⟩) n2 c2) ∧ Below w.heap.size W1 w' ∧ (L 6 = false → OwnD w' w.heap.size (Value.slice A3 n3 c3) P)) (fun fi fv _ fw => wQl w.heap.size g off n2 c2 k A3 n3 c3 i2 d b P fi fv fw) ⟨fun _ => rfl, fun _ => rfl, (Below.refl _ _).drew, fun _ => HOW.out.kept (fun _ _ => rfl)⟩ ?_ ?_
    ·refine ⟨?_, ?_, ?_, ?_, ?_, ?_, ?_, ?_, ?_, ?_, ?_, ?_, trivial⟩
     all_goals intro L fx w' hC hi hcl hdn hd
     ·have hN10 : L 10 = false := nQ hi (fun h => hcl 10 0 h (by kernel_rfl))
      have he := hC.1 hN10
      go_wp2_with fail
      exact ⟨_, by simp only [upd, he]; rfl, ⟨fun h => hC.1 h, fun h => hC.2.1 h, hC.2.2.1, fun h => hC.2.2.2 h⟩, rfl, kP⟩
     ·have hN11 : L 11 = false := nQ hi (fun h => hcl 11 1 h (by kernel_rfl))
      have he := hC.2.1 hN11
      go_wp2_with fail
      exact ⟨_, by simp only [upd, he]; rfl, ⟨fun h => hC.1 h, fun h => hC.2.1 h, hC.2.2.1, fun h => hC.2.2.2 h⟩, rfl, kP⟩
     ·go_wp2_with fail
      exact ⟨_, rfl, ⟨fun h => hC.1 h, fun h => hC.2.1 h, hC.2.2.1, fun h => hC.2.2.2 h⟩, rfl, kP⟩
     ·have h1 : fx 1 = .slice (some ⟨g, off, none⟩) n2 c2 := hd.1 rfl
      have h2 : fx 2 = .int .i64 ((k : Nat)) := hd.2.1 rfl
      go_wp2_with fail
      exact ⟨_, by simp only [upd, h1, h2]; rfl, ⟨fun h => hC.1 h, fun h => hC.2.1 h, hC.2.2.1, fun h => hC.2.2.2 h⟩, rfl, kP⟩
     ·have h3 : fx 3 = .slice (some ⟨g, off + k * 32, none⟩) (n2 - k) (c2 - k) := hd.1 rfl
      have HIk := hid (HT3.out.below (HB1.out.trans hC.2.2.1))
      have HTk := hid (hT.out.below (HB1.out.trans hC.2.2.1))
      go_wp2_with fail
      refine (dtree_any (n2 - k) (ls2.drop k) _ (n2 - k) (c2 - k) w' (Nat.le_refl _) (by omega) HIk HTk).mono ?_
      rintro e w2 ⟨rfl, hq⟩
      rw [HBB.out]
      go_wp2_with fail
      exact ⟨_, by simp only [upd, h3]; rfl, ⟨fun h => hC.1 h, fun h => hC.2.1 h, (hC.2.2.1).trans (hq.mono (Nat.le_trans HMS.out (hC.2.2.1).size)), fun h => (hC.2.2.2 h).below hq⟩, rfl, fun j v t _ _ h => wQl_below hq j v h⟩
     ·have h4 : fx 4 = dgV b := hd.1 rfl
      refine wpList_build_digs1 rfl (.tmp 28) rfl b h4 HBO.out ?_
      clear hd
      go_wp2_with fail
      have hbb : Below w'.heap.size w' (w'.alloc (.cells (flatD [b]).toArray 25)) := (Below.refl _ _).alloc (Nat.le_refl _) _
      exact ⟨_, by simp only [upd, h4]; rfl, ⟨fun h => hC.1 h, fun h => hC.2.1 h, (hC.2.2.1).trans (hbb.mono (Nat.le_trans HMS.out (hC.2.2.1).size)), fun h => (hC.2.2.2 h).below hbb⟩, ⟨_, rfl, heap_alloc_new _ _⟩, fun j v t _ _ h => wQl_below hbb j v h⟩
     ·have h0 : fx 0 = .slice A3 n3 c3 := hd.1 rfl
      have H5 := hid (hd.2.1 rfl)
      obtain ⟨q, hx, hrow⟩ := H5.out
      have HQR := hid hrow
      have HOV := hid (hC.2.2.2 hi)
      have HSZ := hid (Nat.le_trans HMS.out (hC.2.2.1).size)
      refine wpList_append_dig rfl (.tmp 24) (.tmp 29) rfl w.heap.size (Value.slice A3 n3 c3) P b h0 HOV HBO.out q hx HQR HPL.out HSZ.out ?_
      intro v2 w2 HO2 HG2
      have HB2 := hid ((Below.refl w.heap.size w').grown HG2.out HSZ.out (fun g hg => (HOV.out.block g hg).1))
      clear hd hrow
      go_wp2_with fail
      refine ⟨v2, by first | rfl | (rw [← hx, ← h0]; rfl) | (rw [← hx]; rfl), ⟨fun h => hC.1 h, fun h => hC.2.1 h, (hC.2.2.1).trans HB2.out, fun h => (updB_self h).elim⟩, HO2.out, fun j v t hj hu h => ?_⟩
      refine wQl_pure j v ?_ ?_ ?_ h <;> intro e <;> subst e
      ·refine absurd hu (not_needed (E := fun i => Nat.beq i 10 || Nat.beq i 11) (j := 5) [6] (by kernel_rfl) (by kernel_rfl) ?_)
       intro m hm hne; simp at hm; omega
      ·rw [hi] at hj; cases hj
      ·have := hcl 10 6 hj (by kernel_rfl); rw [hi] at this; cases this
     ·have hN11 : L 11 = false := nQ hi (fun h => hcl 11 7 h (by kernel_rfl))
      have he := hC.2.1 hN11
      go_wp2_with fail
      exact ⟨_, by simp only [upd, he]; rfl, ⟨fun h => hC.1 h, fun h => hC.2.1 h, hC.2.2.1, fun h => hC.2.2.2 h⟩, rfl, kP⟩
     ·go_wp2_with fail
      exact ⟨_, rfl, ⟨fun h => hC.1 h, fun h => hC.2.1 h, hC.2.2.1, fun h => hC.2.2.2 h⟩, rfl, kP⟩
     ·have h7 : fx 7 = .slice (some ⟨g, off, none⟩) n2 c2 := hd.1 rfl
      have h8 : fx 8 = .int .i64 ((k : Nat)) := hd.2.1 rfl
      go_wp2_with fail
      exact ⟨_, by simp only [upd, h7, h8]; rfl, ⟨fun h => hC.1 h, fun h => hC.2.1 h, hC.2.2.1, fun h => hC.2.2.2 h⟩, rfl, kP⟩
     ·have H6 := hid (hd.1 rfl)
      go_wp2_with fail
      exact ⟨fx 6, rfl, ⟨fun h => (updB_self h).elim, fun h => hC.2.1 h, hC.2.2.1, fun h => hC.2.2.2 h⟩, H6.out, kP⟩
     ·have h9 : fx 9 = .slice (some ⟨g, off, none⟩) k c2 := hd.1 rfl
      go_wp2_with fail
      exact ⟨_, by simp only [upd, h9]; rfl, ⟨fun h => hC.1 h, fun h => (updB_self h).elim, hC.2.2.1, fun h => hC.2.2.2 h⟩, rfl, kP⟩
    ·intro L fo w' hC hS
     have H10 := hid (hS 10 (by decide) rfl)
     have H11 := hid (hS 11 (by decide) rfl)
     obtain ⟨A4, n4, c4, e4⟩ := H10.out.form
     have h11e : fo 11 = .slice (some ⟨g, off, none⟩) k c2 := H11.out
     rw [e4, h11e]
     have HBE := hid (HB1.out.trans (hC.2.2.1))
     have HO4 : Hid (OwnD w' w.heap.size (Value.slice A4 n4 c4) (P ++ [b])) := hid (by rw [← e4]; exact H10.out)
     clear hS hC H10 H11 e4 h11e
     go_wp2_with fail
     go_roundw
     case rel => exact ⟨g, off, k, c2, i2, ls2.take k, P ++ [b], rfl, by go_num, hik, HT2, HO4, hid (by rw [HPQ.out, HPE.out, List.reverse_append, List.append_assoc]; rfl), HBE, by simp only [List.length_append, List.length_cons, List.length_nil]; omega, ⟨_, _, _, rfl⟩⟩
     case measure => simp [lenOf]; omega
   ·have d2 : decide ((i2 : Int) < (k : Int)) = false := dQ (by omega)
    have d3 : decide (i2 < k) = false := dQ hik
    obtain ⟨d, HD⟩ : ∃ d : Nat, Hid (i2 - k = d) := ⟨_, hid rfl⟩
    have HWD : Hid (IntKind.i64.wrap ((i2 : Int) - (k : Int)) = (d : Int)) := hid (by rw [IntWalk.i64_in _ (by omega), ← HD.out]; omega)
    obtain ⟨b, HBB⟩ : ∃ b, Hid (treeD (ls2.take k) = b) := ⟨_, hid rfl⟩
    have HBO : Hid (DgOk b) := hid (by rw [← HBB.out]; exact treeD_okD _)
    have HPE : Hid (pathD ls2 i2 = pathD (ls2.drop k) d ++ [b]) := hid (by rw [pathD_right (l := ls2) (by rw [HNE.out]; exact h2) (by rw [HNE.out, HK.out]; exact hik), HNE.out, HK.out, HBB.out, HD.out])
    go_wp2_with fail
    refine region_flow4 (by kernel_rfl) (by kernel_rfl) (fun i => Nat.beq i 13 || Nat.beq i 14 || Nat.beq i 15) (fun i => i) (by kernel_rfl) (fun fx => #[fx 14, fx 15, undef, undef, fx 13, .int IntKind.i64 0, .int IntKind.i64 ↑k, .int IntKind.i64 ↑i, .bool false, .bool false, .int IntKind.i64 ↑i, .slice (some { block := g0, off := off0 }) n c, .int IntKind.i64 ↑n, .bool false, .bool false, .slice (some { block := g, off := off }) n2 c2, .int IntKind.i64 ↑n2, .bool true, .slice (some { block := g, off := off }) n2 c2, .int IntKind.i64 ↑n2, .int IntKind.i64 ↑k, .int IntKind.i64 ↑i2, .int IntKind.i64 ↑k, .bool false, u24, u25, u26, u27, u28, u29, u30, u31, u32, u33, fx 0, fx 1, fx 2, fx 3, fx 4, fx 5, fx 6, fx 7, fx 8, fx 9, fx 10, fx 11, fx 12, undef, undef, undef]) (fun i => bif Nat.beq i 0 then u34 else bif Nat.beq i 1 then u35 else bif Nat.beq i 2 then u36 else bif Nat.beq i 3 then u37 else bif Nat.beq i 4 then u38 else bif Nat.beq i 5 then u39 else bif Nat.beq i 6 then u40 else bif Nat.beq i 7 then u41 else bif Nat.beq i 8 then u42 else bif Nat.beq i 9 then u43 else bif Nat.beq i 10 then u44 else bif Nat.beq i 11 then u45 else bif Nat.beq i 12 then u46 else bif Nat.beq i 13 then Value.slice A3 n3 c3 else bif Nat.beq i 14 then Value.slice (some { block := g, off := off }) n2 c2 else bif Nat.beq i 15 then Value.int IntKind.i64 ↑i2 else undef) (fun L fx w' => (L 13 = false → fx 13 = .slice A3 n3 c3) ∧ (L 14 = false → fx 14 = .slice (some ⟨g, off, none⟩) n2 c2) ∧ (L 15 = false → fx 15 = .int .i64 ((i2 : Nat))) ∧ Below w.heap.size W1 w' ∧ (L 6 = false → OwnD w' w.heap.size (Value.slice A3 n3 c3) P)) (fun fi fv _ fw => wQr w.heap.size g off n2 c2 k A3 n3 c3 i2 d b P fi fv fw) ⟨fun _ => rfl, fun _ => rfl, fun _ => rfl, (Below.refl _ _).drew, fun _ => HOW.out.kept (fun _ _ => rfl)⟩ ?_ ?_
    ·refine ⟨?_, ?_, ?_, ?_, ?_, ?_, ?_, ?_, ?_, ?_, ?_, ?_, ?_, ?_, ?_, ?_, trivial⟩
     all_goals intro L fx w' hC hi hcl hdn hd
     ·have hN13 : L 13 = false := nQ hi (fun h => hcl 13 0 h (by kernel_rfl))
      have he := hC.1 hN13
      go_wp2_with fail
      exact ⟨_, by simp only [upd, he]; rfl, ⟨fun h => hC.1 h, fun h => hC.2.1 h, fun h => hC.2.2.1 h, hC.2.2.2.1, fun h => hC.2.2.2.2 h⟩, rfl, kP⟩
     ·have hN14 : L 14 = false := nQ hi (fun h => hcl 14 1 h (by kernel_rfl))
      have he := hC.2.1 hN14
      go_wp2_with fail
      exact ⟨_, by simp only [upd, he]; rfl, ⟨fun h => hC.1 h, fun h => hC.2.1 h, fun h => hC.2.2.1 h, hC.2.2.2.1, fun h => hC.2.2.2.2 h⟩, rfl, kP⟩
     ·go_wp2_with fail
      exact ⟨_, rfl, ⟨fun h => hC.1 h, fun h => hC.2.1 h, fun h => hC.2.2.1 h, hC.2.2.2.1, fun h => hC.2.2.2.2 h⟩, rfl, kP⟩
     ·have h1 : fx 1 = .slice (some ⟨g, off, none⟩) n2 c2 := hd.1 rfl
      have h2 : fx 2 = .int .i64 ((k : Nat)) := hd.2.1 rfl
      go_wp2_with fail
      exact ⟨_, by simp only [upd, h1, h2]; rfl, ⟨fun h => hC.1 h, fun h => hC.2.1 h, fun h => hC.2.2.1 h, hC.2.2.2.1, fun h => hC.2.2.2.2 h⟩, rfl, kP⟩
     ·have h3 : fx 3 = .slice (some ⟨g, off, none⟩) k c2 := hd.1 rfl
      have HIk := hid (HT2.out.below (HB1.out.trans hC.2.2.2.1))
      have HTk := hid (hT.out.below (HB1.out.trans hC.2.2.2.1))
      go_wp2_with fail
      refine (dtree_any k (ls2.take k) _ k c2 w' (Nat.le_refl _) (by omega) HIk HTk).mono ?_
      rintro e w2 ⟨rfl, hq⟩
      rw [HBB.out]
      go_wp2_with fail
      exact ⟨_, by simp only [upd, h3]; rfl, ⟨fun h => hC.1 h, fun h => hC.2.1 h, fun h => hC.2.2.1 h, (hC.2.2.2.1).trans (hq.mono (Nat.le_trans HMS.out (hC.2.2.2.1).size)), fun h => (hC.2.2.2.2 h).below hq⟩, rfl, fun j v t _ _ h => wQr_below hq j v h⟩
     ·have h4 : fx 4 = dgV b := hd.1 rfl
      refine wpList_build_digs1 rfl (.tmp 38) rfl b h4 HBO.out ?_
      clear hd
      go_wp2_with fail
      have hbb : Below w'.heap.size w' (w'.alloc (.cells (flatD [b]).toArray 25)) := (Below.refl _ _).alloc (Nat.le_refl _) _
      exact ⟨_, by simp only [upd, h4]; rfl, ⟨fun h => hC.1 h, fun h => hC.2.1 h, fun h => hC.2.2.1 h, (hC.2.2.2.1).trans (hbb.mono (Nat.le_trans HMS.out (hC.2.2.2.1).size)), fun h => (hC.2.2.2.2 h).below hbb⟩, ⟨_, rfl, heap_alloc_new _ _⟩, fun j v t _ _ h => wQr_below hbb j v h⟩
     ·have h0 : fx 0 = .slice A3 n3 c3 := hd.1 rfl
      have H5 := hid (hd.2.1 rfl)
      obtain ⟨q, hx, hrow⟩ := H5.out
      have HQR := hid hrow
      have HOV := hid (hC.2.2.2.2 hi)
      have HSZ := hid (Nat.le_trans HMS.out (hC.2.2.2.1).size)
      refine wpList_append_dig rfl (.tmp 34) (.tmp 39) rfl w.heap.size (Value.slice A3 n3 c3) P b h0 HOV HBO.out q hx HQR HPL.out HSZ.out ?_
      intro v2 w2 HO2 HG2
      have HB2 := hid ((Below.refl w.heap.size w').grown HG2.out HSZ.out (fun g hg => (HOV.out.block g hg).1))
      clear hd hrow
      go_wp2_with fail
      refine ⟨v2, by first | rfl | (rw [← hx, ← h0]; rfl) | (rw [← hx]; rfl), ⟨fun h => hC.1 h, fun h => hC.2.1 h, fun h => hC.2.2.1 h, (hC.2.2.2.1).trans HB2.out, fun h => (updB_self h).elim⟩, HO2.out, fun j v t hj hu h => ?_⟩
      refine wQr_pure j v ?_ ?_ ?_ h <;> intro e <;> subst e
      ·refine absurd hu (not_needed (E := fun i => Nat.beq i 13 || Nat.beq i 14 || Nat.beq i 15) (j := 5) [6] (by kernel_rfl) (by kernel_rfl) ?_)
       intro m hm hne; simp at hm; omega
      ·rw [hi] at hj; cases hj
      ·have := hcl 13 6 hj (by kernel_rfl); rw [hi] at this; cases this
     ·have hN14 : L 14 = false := nQ hi (fun h => hcl 14 7 h (by kernel_rfl))
      have he := hC.2.1 hN14
      go_wp2_with fail
      exact ⟨_, by simp only [upd, he]; rfl, ⟨fun h => hC.1 h, fun h => hC.2.1 h, fun h => hC.2.2.1 h, hC.2.2.2.1, fun h => hC.2.2.2.2 h⟩, rfl, kP⟩
     ·go_wp2_with fail
      exact ⟨_, rfl, ⟨fun h => hC.1 h, fun h => hC.2.1 h, fun h => hC.2.2.1 h, hC.2.2.2.1, fun h => hC.2.2.2.2 h⟩, rfl, kP⟩
     ·have h7 : fx 7 = .slice (some ⟨g, off, none⟩) n2 c2 := hd.1 rfl
      have h8 : fx 8 = .int .i64 ((k : Nat)) := hd.2.1 rfl
      go_wp2_with fail
      exact ⟨_, by simp only [upd, h7, h8]; rfl, ⟨fun h => hC.1 h, fun h => hC.2.1 h, fun h => hC.2.2.1 h, hC.2.2.2.1, fun h => hC.2.2.2.2 h⟩, rfl, kP⟩
     ·have hN15 : L 15 = false := nQ hi (fun h => hcl 15 10 h (by kernel_rfl))
      have he := hC.2.2.1 hN15
      go_wp2_with fail
      exact ⟨_, by simp only [upd, he]; rfl, ⟨fun h => hC.1 h, fun h => hC.2.1 h, fun h => hC.2.2.1 h, hC.2.2.2.1, fun h => hC.2.2.2.2 h⟩, rfl, kP⟩
     ·go_wp2_with fail
      exact ⟨_, rfl, ⟨fun h => hC.1 h, fun h => hC.2.1 h, fun h => hC.2.2.1 h, hC.2.2.2.1, fun h => hC.2.2.2.2 h⟩, rfl, kP⟩
     ·have h10 : fx 10 = .int .i64 ((i2 : Nat)) := hd.1 rfl
      have h11 : fx 11 = .int .i64 ((k : Nat)) := hd.2.1 rfl
      have hw := HWD.out
      go_wp2_with fail
      exact ⟨_, by simp only [upd, h10, h11]; rfl, ⟨fun h => hC.1 h, fun h => hC.2.1 h, fun h => hC.2.2.1 h, hC.2.2.2.1, fun h => hC.2.2.2.2 h⟩, rfl, kP⟩
     ·have H6 := hid (hd.1 rfl)
      go_wp2_with fail
      exact ⟨fx 6, rfl, ⟨fun h => (updB_self h).elim, fun h => hC.2.1 h, fun h => hC.2.2.1 h, hC.2.2.2.1, fun h => hC.2.2.2.2 h⟩, H6.out, kP⟩
     ·have h9 : fx 9 = .slice (some ⟨g, off + k * 32, none⟩) (n2 - k) (c2 - k) := hd.1 rfl
      go_wp2_with fail
      exact ⟨_, by simp only [upd, h9]; rfl, ⟨fun h => hC.1 h, fun h => (updB_self h).elim, fun h => hC.2.2.1 h, hC.2.2.2.1, fun h => hC.2.2.2.2 h⟩, rfl, kP⟩
     ·have h12 : fx 12 = .int .i64 ((d : Nat)) := hd.1 rfl
      go_wp2_with fail
      exact ⟨_, by simp only [upd, h12]; rfl, ⟨fun h => hC.1 h, fun h => hC.2.1 h, fun h => (updB_self h).elim, hC.2.2.2.1, fun h => hC.2.2.2.2 h⟩, rfl, kP⟩
    ·intro L fo w' hC hS
     have H13 := hid (hS 13 (by decide) rfl)
     have H14 := hid (hS 14 (by decide) rfl)
     have H15 := hid (hS 15 (by decide) rfl)
     obtain ⟨A4, n4, c4, e4⟩ := H13.out.form
     have h11e : fo 14 = .slice (some ⟨g, off + k * 32, none⟩) (n2 - k) (c2 - k) := H14.out
     have h15e : fo 15 = .int .i64 ((d : Nat)) := H15.out
     rw [e4, h11e, h15e]
     have HBE := hid (HB1.out.trans (hC.2.2.2.1))
     have HO4 : Hid (OwnD w' w.heap.size (Value.slice A4 n4 c4) (P ++ [b])) := hid (by rw [← e4]; exact H13.out)
     clear hS hC H13 H14 e4 h11e H15 h15e
     go_wp2_with fail
     go_roundw
     case rel => exact ⟨g, off + k * 32, n2 - k, c2 - k, d, ls2.drop k, P ++ [b], rfl, by go_num, by have := HD.out; omega, HT3, HO4, hid (by rw [HPQ.out, HPE.out, List.reverse_append, List.append_assoc]; rfl), HBE, by simp only [List.length_append, List.length_cons, List.length_nil]; omega, ⟨_, _, _, rfl⟩⟩
     case measure => simp [lenOf]; omega
  ·have d1 : decide ((1 : Int) < (n2 : Int)) = false := dQ (by omega)
   have d11 : decide (1 < n2) = false := dQ (by omega)
   have HPF : Hid (pathD ls i = P.reverse) := hid (by rw [HPQ.out, pathD_one (by rw [HNE.out]; omega)]; rfl)
   have HPO : Hid (∀ x ∈ P, DgOk x) := hid (fun x hx => ⟨(pathD_ok ls i x (by rw [HPF.out]; exact List.mem_reverse.2 hx)).1, (pathD_ok ls i x (by rw [HPF.out]; exact List.mem_reverse.2 hx)).2⟩)
   obtain ⟨A4, n4, c4, e4, hin4, ht4⟩ := HOW.out.slice HPO.out
   cases e4
   have HI4 := hid hin4
   have HT4 := hid ht4
   have hn4 : n3 ≤ 1000000 := by rw [← hin4.len]; omega
   clear hin4 ht4
   go_wp2_with fail
   refine (revD_any P A3 n3 c3 w.heap.size _ hn4 HI4 HT4 HB1.out.size).mono ?_
   rintro e w2 ⟨⟨vv, rfl⟩, hin5, hg5⟩
   have HI5 := hid hin5
   have HB5 := hid (HB1.out.trans ((Below.refl w.heap.size _).grown hg5 HB1.out.size (fun g hg => (HOW.out.block g hg).1)))
   clear hin5 hg5
   go_wp2_with fail
   go_ret2
   exact ⟨_, _, _, rfl, by rw [HPF.out]; exact HI5.out, HB5.out, fun g hg => (HOW.out.block g hg).1⟩
theorem wpList_append_bool {w : World} {ops : Array Oper} {rest : List Oper} {o : Oper} {a : Act} {Q : Exit → Act → World → Prop} (hgd : o.guard = none) (s x : Operand)
  (ho : o.op = .call { callee := .builtin .append, args := #[s, x], argTypes := #[184, 184] })
  (base : Nat) (v : Value) (ls : List Bool) (b : Bool) (hs : a.eval s = v) (hown : Hid (OwnL w base v ls)) (g : Nat) (hx : a.eval x = .slice (some ⟨g, 0, none⟩) 1 1)
  (hr : Hid (w.heap[g]? = some (.cells #[.bool b] 4 (0, 0)))) (hlen : ls.length ≤ 100000) (hbase : base ≤ w.heap.size)
  (h : ∀ v' w', Hid (OwnL w' base v' (ls ++ [b])) → Hid (w.grownBy w' v.ownBlock) → wpList Tryz.prog ops Q rest (a.put o.dst v') w') : wpList Tryz.prog ops Q (o :: rest) a w := by
 obtain ⟨i0, hi, hz, hz1, hz2⟩ := info_bool
 refine wpList_append_own_at _ hgd s x _ ho base _ i0 _ 1 1 Tryz.underlying184 hi hz hz1 hz2 rfl (by omega) v _ _ hs hown.out ⟨g, 0, none⟩ 1 1 [.bool b] hx rfl (fun j u hu => by rw [add_row, Nat.zero_add, cell_of_row w g j _ _ _ hr.out]; simpa using hu) (fun u hu => by simp at hu; subst hu; rfl) (by unfold maxLen; omega) (by omega) hbase ?_
 intro v' w' h1 h2 h3 h4
 refine h v' w' (hid ?_) (hid h2)
 unfold OwnL bCs
 rw [List.map_append, List.length_append]; exact h1
theorem climbD_take {rs : List Bool} {ps : List Dg} (x : Dg) {j : Nat} (h1 : j < rs.length) (h2 : j < ps.length) : climbD (rs.take (j + 1)) (ps.take (j + 1)) x = stepD rs[j] ps[j] (climbD (rs.take j) (ps.take j) x) := by
 rw [List.take_succ_eq_append_getElem h1, List.take_succ_eq_append_getElem h2]
 exact climbD_snoc _ _ _ _ _ (by rw [List.length_take, List.length_take]; omega)
theorem climbD_dg {rs : List Bool} {ps : List Dg} {x : Dg} (h : DgOk x) : DgOk (climbD rs ps x) := ⟨(climbD_ok rs ps x h.len h.bytes).1, (climbD_ok rs ps x h.len h.bytes).2⟩
theorem row_keptM {w w' : World} {b M : Nat} {cs : Array Value} {t : TypeId} (h : w.heap[b]? = some (.cells cs t (0, 0))) (hb : Below M w w') (hM : b < M) : w'.heap[b]? = some (.cells cs t (0, 0)) := (hb.block b hM).trans h
/-- Climb: the digest and the error -/
def dArg (i n : Int) (l : Nat) : Prop := n < 1 ∨ 1099511627776 < n ∨ i < 0 ∨ n ≤ i ∨ l ≠ (dirsD i.toNat n.toNat).length
instance (i n : Int) (l : Nat) : Decidable (dArg i n l) := by unfold dArg; infer_instance
def dclR (d : Dg) (i n : Int) (ps : List Dg) : Dg := if dArg i n ps.length then zeroD else climbD (dirsD i.toNat n.toNat).reverse ps (leafD d)
def dclE (i n : Int) (l : Nat) : Int := if dArg i n l then 1 else 0
theorem dclR_ok (d : Dg) (i n : Int) (ps : List Dg) : DgOk (dclR d i n ps) := by
 unfold dclR; split
 ·exact zeroD_ok
 ·exact climbD_dg (leafD_ok d)
theorem dcl_arg {d : Dg} {i n : Int} {ps : List Dg} (h : dArg i n ps.length) : dclR d i n ps = zeroD ∧ dclE i n ps.length = 1 := by unfold dclR dclE; exact ⟨if_pos h, if_pos h⟩
theorem dcl_yes {d : Dg} {i n : Int} {ps : List Dg} (h : ¬ dArg i n ps.length) : dclR d i n ps = climbD (dirsD i.toNat n.toNat).reverse ps (leafD d) ∧ dclE i n ps.length = 0 := by unfold dclR dclE; exact ⟨if_neg h, if_neg h⟩
theorem half_two {n : Nat} (h : 2 ≤ n) (h2 : n ≤ 18446744073709551616) : n ≤ 2 * half n := by
 rw [half_log h h2]
 have := (Nat.log2_eq_iff (n := n - 1) (k := Nat.log2 (n - 1)) (by omega)).1 rfl
 rw [Nat.pow_succ] at this
 omega
theorem half_pow {n f : Nat} (h : 2 ≤ n) (h2 : n ≤ 2 ^ (f + 1)) (h3 : n ≤ 18446744073709551616) : half n ≤ 2 ^ f := by
 rw [half_log h h3]
 have h4 := (Nat.log2_eq_iff (n := n - 1) (k := Nat.log2 (n - 1)) (by omega)).1 rfl
 refine Nat.pow_le_pow_right (by omega) ?_
 have : 2 ^ Nat.log2 (n - 1) < 2 ^ (f + 1) := by omega
 have := (Nat.pow_lt_pow_iff_right (a := 2) (by omega)).1 this
 omega
theorem dirsD_small : ∀ (f i m : Nat), m ≤ 2 ^ f → m ≤ 18446744073709551616 → (dirsD i m).length ≤ f
 | 0, i, m, h, _ => by rw [dirsD_one i (by simpa using h)]; exact Nat.le_refl _
 | f + 1, i, m, h, h64 => by
  by_cases h1 : m ≤ 1
  ·rw [dirsD_one i h1]; simp
  ·have hb := half_bd (n := m) (by omega)
   have hp := half_pow (n := m) (f := f) (by omega) h h64
   have ht := half_two (n := m) (by omega) h64
   by_cases hi : i < half m
   ·rw [dirsD_left (by omega) hi, List.length_cons]
    have := dirsD_small f i (half m) hp (by omega)
    omega
   ·rw [dirsD_right (by omega) hi, List.length_cons]
    have := dirsD_small f (i - half m) (m - half m) (by omega) (by omega)
    omega
theorem dclimb_a (d : List Nat) (i m : Int) (ps : List Dg) (A : Option Addr) (n c : Nat) (w : World) (hd : Hid (DgOk d)) (hn : n ≤ 9223372036854775807) (h : Hid (InD w A n c ps)) (hT : Hid (Tabs w)) (g : m < 1 ∨ 1099511627776 < m ∨ i < 0 ∨ m ≤ i) :
  Calls Tryz.prog 115 #[dgV d, .int .i64 i, .int .i64 m, .slice A n c] w fun e w' => e = .returned (.tuple #[dgV (dclR d i m ps), .int .i64 (dclE i m ps.length)]) ∧ Below w.heap.size w w' := by
 have HNE := hid (show ps.length = n from h.out.len)
 have hb0 := ((Below.refl _ w).alloc (Nat.le_refl _) (.cells (dgC d).toArray 25)).alloc (by simp) (.cells (dgC zeroD).toArray 25)
 have hr0 := (Below.heap_alloc (w.alloc (.cells (dgC d).toArray 25)) (.cells (dgC zeroD).toArray 25) w.heap.size (by simp)).trans (heap_alloc_new w (.cells (dgC d).toArray 25))
 have hr1 := heap_alloc_new (w.alloc (.cells (dgC d).toArray 25)) (.cells (dgC zeroD).toArray 25)
 have hsz : ((w.alloc (.cells (dgC d).toArray 25)).alloc (.cells (dgC zeroD).toArray 25)).heap.size = w.heap.size + 1 + 1 := by simp
 rw [World.size_alloc] at hr1
 rw [zeroD_cells] at hb0 hr0 hr1 hsz
 have HB0 := hid hb0
 have HR0 := hid hr0
 have HR1 := hid hr1
 have HSZ := hid hsz
 have HSD := hid (dgC_info hd.out)
 have HSZD := hid (dgC_info zeroD_ok)
 have HSZ2 := hid (dgC_size zeroD_ok)
 clear hb0 hr0 hr1 hsz
 rw [dgV_agg d]
 have HE := hid (dcl_arg (d := d) (i := i) (n := m) (ps := ps) (by unfold dArg; omega))
 by_cases g0 : m < 1; rotate_left
 by_cases g1 : 1099511627776 < m; rotate_left
 by_cases g2 : i < 0; rotate_left
 by_cases g3 : m ≤ i; rotate_left
 ·omega
 all_goals first | have d0 := eQ g0 | have d0 := dQ g0 | skip
 all_goals first | have d1 := eQ g1 | have d1 := dQ g1 | skip
 all_goals first | have d2 := eQ g2 | have d2 := dQ g2 | skip
 all_goals first | have d3 := eQ g3 | have d3 := dQ g3 | skip
 all_goals
  clear h
  go_enter Tryz.func115, Tryz.ntmps115
  rw [← zeroD_cells] at HR1
  go_wp2_with (first | (refine wpList_load_row rfl 25 (.tmp 8) rfl (w.heap.size + 1) rfl 25 _ (0, 0) _ HR1.out Tryz.underlying25 rfl HSZD.out ?_) | (refine wpList_store_row rfl 25 (.tmp 8) (.tmp 29) rfl (w.heap.size + 1) (dgC zeroD).toArray ?ha ?hb 25 _ HR1.out HSZD.out HSZ2.out (dgC_one zeroD) ?_))
  all_goals first | rfl | skip
  have hr := setRow_heap ((w.alloc (.cells (dgC d).toArray 25)).alloc (.cells #[.int .u8 0, .int .u8 0, .int .u8 0, .int .u8 0, .int .u8 0, .int .u8 0, .int .u8 0, .int .u8 0, .int .u8 0, .int .u8 0, .int .u8 0, .int .u8 0, .int .u8 0, .int .u8 0, .int .u8 0, .int .u8 0, .int .u8 0, .int .u8 0, .int .u8 0, .int .u8 0, .int .u8 0, .int .u8 0, .int .u8 0, .int .u8 0, .int .u8 0, .int .u8 0, .int .u8 0, .int .u8 0, .int .u8 0, .int .u8 0, .int .u8 0, .int .u8 0] 25)) (w.heap.size + 1) _ (dgC zeroD).toArray _ _ HR1.out
  have hl := run_loadVar_row (P := Tryz.prog) (World.setRow ((w.alloc (.cells (dgC d).toArray 25)).alloc (.cells #[.int .u8 0, .int .u8 0, .int .u8 0, .int .u8 0, .int .u8 0, .int .u8 0, .int .u8 0, .int .u8 0, .int .u8 0, .int .u8 0, .int .u8 0, .int .u8 0, .int .u8 0, .int .u8 0, .int .u8 0, .int .u8 0, .int .u8 0, .int .u8 0, .int .u8 0, .int .u8 0, .int .u8 0, .int .u8 0, .int .u8 0, .int .u8 0, .int .u8 0, .int .u8 0, .int .u8 0, .int .u8 0, .int .u8 0, .int .u8 0, .int .u8 0, .int .u8 0] 25)) (w.heap.size + 1) (dgC zeroD).toArray) (w.heap.size + 1) 25 25 (dgC zeroD).toArray (0, 0) _ hr Tryz.underlying25 rfl HSZD.out
  refine bodyPost_ret (v := .tuple #[dgV zeroD, .int .i64 1]) ?_ rfl ⟨by rw [HE.out.1, HE.out.2], below_setRow HB0.out (Nat.le_succ _) _⟩
  rw [dgV_agg zeroD]
  simp [results, Tryz.results115, asAddr, hl]
theorem dclimb_in (d : List Nat) (i m : Int) (ps : List Dg) (A : Option Addr) (n c : Nat) (w : World) (hd : Hid (DgOk d)) (hn : n ≤ 9223372036854775807) (h : Hid (InD w A n c ps)) (hT : Hid (Tabs w)) (g : 1 ≤ m ∧ m ≤ 1099511627776 ∧ 0 ≤ i ∧ i < m) (hnn : n ≤ 100000) (hdl : (dirsD i.toNat m.toNat).length ≤ 99999) :
  Calls Tryz.prog 115 #[dgV d, .int .i64 i, .int .i64 m, .slice A n c] w fun e w' => e = .returned (.tuple #[dgV (dclR d i m ps), .int .i64 (dclE i m ps.length)]) ∧ Below w.heap.size w w' := by
 have HNE := hid (show ps.length = n from h.out.len)
 have hb0 := ((Below.refl _ w).alloc (Nat.le_refl _) (.cells (dgC d).toArray 25)).alloc (by simp) (.cells (dgC zeroD).toArray 25)
 have hr0 := (Below.heap_alloc (w.alloc (.cells (dgC d).toArray 25)) (.cells (dgC zeroD).toArray 25) w.heap.size (by simp)).trans (heap_alloc_new w (.cells (dgC d).toArray 25))
 have hr1 := heap_alloc_new (w.alloc (.cells (dgC d).toArray 25)) (.cells (dgC zeroD).toArray 25)
 have hsz : ((w.alloc (.cells (dgC d).toArray 25)).alloc (.cells (dgC zeroD).toArray 25)).heap.size = w.heap.size + 1 + 1 := by simp
 rw [World.size_alloc] at hr1
 rw [zeroD_cells] at hb0 hr0 hr1 hsz
 have HB0 := hid hb0
 have HR0 := hid hr0
 have HR1 := hid hr1
 have HSZ := hid hsz
 have HSD := hid (dgC_info hd.out)
 have HSZD := hid (dgC_info zeroD_ok)
 have HSZ2 := hid (dgC_size zeroD_ok)
 clear hb0 hr0 hr1 hsz
 rw [dgV_agg d]
 have d0 : decide (m < 1) = false := dQ (by omega)
 have d1 : decide (1099511627776 < m) = false := dQ (by omega)
 have d2 : decide (i < 0) = false := dQ (by omega)
 have d3 : decide (m ≤ i) = false := dQ (by omega)
 obtain ⟨iN, HIN⟩ : ∃ k : Nat, Hid (i = (k : Int)) := ⟨i.toNat, hid (by omega)⟩
 obtain ⟨mN, HMN⟩ : ∃ k : Nat, Hid (m = (k : Int)) := ⟨m.toNat, hid (by omega)⟩
 have hM : 1 ≤ mN ∧ mN ≤ 1099511627776 ∧ iN < mN := by have := HIN.out; have := HMN.out; omega
 have HDL : Hid ((dirsD iN mN).length ≤ 99999) := hid (by rw [HIN.out, HMN.out, Int.toNat_natCast, Int.toNat_natCast] at hdl; exact hdl)
 have HRS : Hid (dirsD i.toNat m.toNat = dirsD iN mN) := hid (by rw [HIN.out, HMN.out, Int.toNat_natCast, Int.toNat_natCast])
 clear hdl
 go_enter Tryz.func115, Tryz.ntmps115
 go_wp2_with fail
 generalize ((w.alloc (.cells (dgC d).toArray 25)).alloc (.cells #[.int .u8 0, .int .u8 0, .int .u8 0, .int .u8 0, .int .u8 0, .int .u8 0, .int .u8 0, .int .u8 0, .int .u8 0, .int .u8 0, .int .u8 0, .int .u8 0, .int .u8 0, .int .u8 0, .int .u8 0, .int .u8 0, .int .u8 0, .int .u8 0, .int .u8 0, .int .u8 0, .int .u8 0, .int .u8 0, .int .u8 0, .int .u8 0, .int .u8 0, .int .u8 0, .int .u8 0, .int .u8 0, .int .u8 0, .int .u8 0, .int .u8 0, .int .u8 0] 25)) = W1 at *
 go_loopw [1, 2, 10] (fun a b f wr => ∃ (i2 m2 : Nat) (L : List Bool), a = .int .i64 (i2 : Nat) ∧ b = .int .i64 (m2 : Nat) ∧ i2 < m2 ∧ m2 ≤ 1099511627776 ∧ Hid (OwnL wr (w.heap.size + 1 + 1) f L) ∧ Hid (dirsD iN mN = L ++ dirsD i2 m2) ∧ Hid (Below (w.heap.size + 1 + 1) W1 wr) ∧ ∃ A3 n3 c3, f = .slice A3 n3 c3) (fun _ b _ _ => (intOf b).toNat)
 case atStart => exact ⟨iN, mN, [], by rw [HIN.out], by rw [HMN.out], hM.2.2, hM.2.1, hid (OwnL.nil _ _), hid rfl, hid (Below.refl _ _), _, _, _, rfl⟩
 case round =>
  obtain ⟨i2, m2, L, rfl, rfl, hi2, hm2, HOW, HDQ, HB1, A3, n3, c3, rfl⟩ := hrel
  have HLL : Hid (L.length ≤ 100000) := hid (by have := HDL.out; rw [HDQ.out, List.length_append] at this; omega)
  have HBS := hid (show w.heap.size + 1 + 1 ≤ wr.heap.size by rw [← HSZ.out]; exact HB1.out.size)
  by_cases h2 : 2 ≤ m2
  ·have d5 : decide ((1 : Int) < (m2 : Int)) = true := eQ (by omega)
   have d6 : decide (1 < m2) = true := eQ (by omega)
   obtain ⟨k, HK⟩ : ∃ k, Hid (half m2 = k) := ⟨_, hid rfl⟩
   have hkb := half_bd h2
   rw [HK.out] at hkb
   go_wp2_with fail
   refine (dhalf_any m2 _ h2 (by omega)).mono ?_
   rintro e W2 ⟨rfl, hw1⟩
   subst hw1
   rw [HK.out]
   by_cases hik : i2 < k
   ·have d7 : decide ((i2 : Int) < (k : Int)) = true := eQ (by omega)
    have d8 : decide (i2 < k) = true := eQ hik
    have HPE : Hid (dirsD i2 m2 = true :: dirsD i2 k) := hid (by rw [dirsD_left h2 (by rw [HK.out]; exact hik), HK.out])
    have HBA := hid ((Below.refl _ wr).alloc (Nat.le_refl _) (.cells #[.bool true] 4))
    have HOA := hid (HOW.out.below HBA.out)
    have HRA := hid (heap_alloc_new wr (.cells #[.bool true] 4))
    have HSA := hid (Nat.le_trans HBS.out HBA.out.size)
    go_wp2_with (at_builtin; refine wpList_append_bool rfl (.tmp 34) (.tmp 38) rfl (w.heap.size + 1 + 1) (.slice A3 n3 c3) L true rfl HOA wr.heap.size rfl HRA HLL.out HSA.out ?_; intro v2 w2 HO2 HG2; obtain ⟨A5, n5, c5, rfl⟩ := HO2.out.form; have HB2 := hid ((HB1.out.trans (HBA.out.mono HBS.out)).trans ((Below.refl (w.heap.size + 1 + 1) _).grown HG2.out HSA.out (fun g hg => (HOA.out.block g hg).1))))
    go_roundw
    case rel => exact ⟨i2, k, L ++ [true], by go_num, by go_num, hik, by omega, HO2, hid (by rw [HDQ.out, HPE.out, List.append_assoc]; rfl), HB2, _, _, _, rfl⟩
    case measure => simp [intOf]; omega
   ·have d7 : decide ((i2 : Int) < (k : Int)) = false := dQ (by omega)
    have d8 : decide (i2 < k) = false := dQ hik
    obtain ⟨q, HQ⟩ : ∃ q : Nat, Hid (i2 - k = q) := ⟨_, hid rfl⟩
    obtain ⟨r, HR⟩ : ∃ r : Nat, Hid (m2 - k = r) := ⟨_, hid rfl⟩
    have hw1 : IntKind.i64.wrap ((i2 : Int) - (k : Int)) = (q : Int) := by rw [IntWalk.i64_in _ (by omega), ← HQ.out]; omega
    have hw2 : IntKind.i64.wrap ((m2 : Int) - (k : Int)) = (r : Int) := by rw [IntWalk.i64_in _ (by omega), ← HR.out]; omega
    have hqr : q < r ∧ r ≤ 1099511627776 ∧ r < m2 := by rw [← HQ.out, ← HR.out]; omega
    have HPE : Hid (dirsD i2 m2 = false :: dirsD q r) := hid (by rw [dirsD_right h2 (by rw [HK.out]; exact hik), HK.out, HQ.out, HR.out])
    have HBA := hid ((Below.refl _ wr).alloc (Nat.le_refl _) (.cells #[.bool false] 4))
    have HOA := hid (HOW.out.below HBA.out)
    have HRA := hid (heap_alloc_new wr (.cells #[.bool false] 4))
    have HSA := hid (Nat.le_trans HBS.out HBA.out.size)
    go_wp2_with (at_builtin; refine wpList_append_bool rfl (.tmp 34) (.tmp 38) rfl (w.heap.size + 1 + 1) (.slice A3 n3 c3) L false rfl HOA wr.heap.size rfl HRA HLL.out HSA.out ?_; intro v2 w2 HO2 HG2; obtain ⟨A5, n5, c5, rfl⟩ := HO2.out.form; have HB2 := hid ((HB1.out.trans (HBA.out.mono HBS.out)).trans ((Below.refl (w.heap.size + 1 + 1) _).grown HG2.out HSA.out (fun g hg => (HOA.out.block g hg).1))))
    go_roundw
    case rel => exact ⟨q, r, L ++ [false], by go_num, by go_num, hqr.1, hqr.2.1, HO2, hid (by rw [HDQ.out, HPE.out, List.append_assoc]; rfl), HB2, _, _, _, rfl⟩
    case measure => simp [intOf]; omega
  ·have d5 : decide ((1 : Int) < (m2 : Int)) = false := dQ (by omega)
   have d6 : decide (1 < m2) = false := dQ (by omega)
   have HDE : Hid (dirsD iN mN = L) := hid (by rw [HDQ.out, dirsD_one i2 (by omega), List.append_nil])
   obtain ⟨A4, c4, e4, hc4, hrd4, hn4⟩ := HOW.out.slice
   cases e4
   have HR0 := hid (row_keptM HR0.out HB1.out (by omega))
   have HR1 := hid (row_keptM HR1.out HB1.out (by omega))
   have HB0 := hid (HB0.out.trans (HB1.out.mono (by omega)))
   have HRD4 := hid hrd4
   clear hrd4 hn4
   obtain ⟨WM, hWM⟩ : ∃ W, W = wr := ⟨_, rfl⟩
   subst hWM
   by_cases hlen : n = L.length
   ·subst hlen
    have HE := hid (dcl_yes (d := d) (i := i) (n := m) (ps := ps) (by unfold dArg; rw [HRS.out, HDE.out, HNE.out]; omega))
    have hx2 : (((L.length : Nat) : Int) != ((L.length : Nat) : Int)) = false := by simp
    have HLF := hid (dgC_info (leafD_ok d))
    have HLF2 := hid (dgC_size (leafD_ok d))
    have HTR := hid (hT.out.below HB0.out)
    have HWM : Hid (w.heap.size + 1 + 1 ≤ WM.heap.size) := HBS
    go_wp2_with (refine wpList_load_row rfl 25 (.tmp 4) rfl w.heap.size rfl 25 _ (0, 0) _ HR0.out Tryz.underlying25 rfl HSD.out ?_)
    rw [← dgV_agg d]
    refine (dleaf_any d _ hd HTR).mono ?_
    rintro e W3 ⟨rfl, hq⟩
    have HB3 := hid (HB0.out.trans (hq.mono HB0.out.size))
    have HR3 := hid (row_kept HR1.out hq)
    have HK3 : Hid (∀ b, w.heap.size + 1 < b → b < WM.heap.size → (W3.setRow (w.heap.size + 1) (dgC (leafD d)).toArray).heap[b]? = WM.heap[b]?) := hid (fun b h1 h2 => by rw [← hq.block b h2]; exact setRow_other W3 (w.heap.size + 1) b _ (by omega))
    have HS3 : Hid (WM.heap.size ≤ (W3.setRow (w.heap.size + 1) (dgC (leafD d)).toArray).heap.size) := hid (by rw [setRow_size]; exact hq.size)
    clear hq
    rw [dgV_agg (leafD d)]
    go_wp2_with (refine wpList_store_row rfl 25 (.tmp 8) (.tmp 57) rfl (w.heap.size + 1) (dgC (leafD d)).toArray rfl rfl 25 _ HR3.out HLF.out HLF2.out (dgC_one _) ?_)
    have HR4 := hid (setRow_heap W3 (w.heap.size + 1) _ (dgC (leafD d)).toArray _ _ HR3.out)
    have HB4 := hid (below_setRow HB3.out (Nat.le_succ _) (dgC (leafD d)).toArray)
    obtain ⟨W4, HW4⟩ : ∃ W, W = W3.setRow (w.heap.size + 1) (dgC (leafD d)).toArray := ⟨_, rfl⟩
    rw [← HW4] at HK3 HS3 HR4 HB4 ⊢
    clear HW4
    go_loopw [60] (fun v wr => ∃ (j : Nat) (x : Dg), j ≤ L.length ∧ v = .int .i64 (j : Nat) ∧ Hid (DgOk x) ∧ Hid (x = climbD (L.reverse.take j) (ps.take j) (leafD d)) ∧ Hid (wr.heap[w.heap.size + 1]? = some (.cells (dgC x).toArray 25 (0, 0))) ∧ Hid (Below w.heap.size w wr) ∧ Hid (∀ b, w.heap.size + 1 < b → b < WM.heap.size → wr.heap[b]? = WM.heap[b]?) ∧ Hid (WM.heap.size ≤ wr.heap.size)) (fun v _ => L.length - (intOf v).toNat)
    case atStart => exact ⟨0, leafD d, by omega, rfl, hid (leafD_ok d), hid rfl, HR4, HB4, HK3, HS3⟩
    case round =>
     clear HR4 HB4 HK3 HS3 HR3 HB3
     obtain ⟨j, x, hj, rfl, HXO, HXE, HRX, HBX, HKX, HSX⟩ := hrel
     by_cases hlt : j < L.length
     ·have d9 : decide ((j : Int) < ((L.length : Nat) : Int)) = true := eQ (by omega)
      have d10 : decide (j < L.length) = true := eQ hlt
      have hjp : j < ps.length := by rw [HNE.out]; exact hlt
      obtain ⟨gp, op, rfl, hgp, hrp⟩ := h.out.rd (by omega)
      obtain ⟨p, HP⟩ : ∃ p, Hid (ps[j] = p) := ⟨_, hid rfl⟩
      have HPO : Hid (DgOk p) := hid (by rw [← HP.out]; exact h.out.ok _ (List.getElem_mem _))
      have HRP : Hid (wr.rangeAt gp (op + j * 32) (dgC p)) := hid (by rw [← HP.out]; exact rangeAt_below (rangeD_one hrp h.out.ok j hjp) hgp HBX.out)
      obtain ⟨b, HBb⟩ : ∃ b, Hid (L.reverse[j]'(by rw [List.length_reverse]; exact hlt) = b) := ⟨_, hid rfl⟩
      obtain ⟨gb, rfl, hgb1, hgb2, hgb3⟩ := HRD4.out (by omega)
      have hq2 : L.length - 1 - j < L.length := by omega
      obtain ⟨q, HQ⟩ : ∃ q, Hid (L.length - 1 - j = q) := ⟨_, hid rfl⟩
      rw [HQ.out] at hq2
      have hbL : L.getD q false = b := by
       rw [← HBb.out, List.getElem_reverse]
       have e : L.length - 1 - j = q := HQ.out
       simp [List.getD_eq_getElem?_getD, e, hq2]
      have hcb : wr.cell? ⟨gb, q, none⟩ = some (.bool b) := by
       have h1 := (hgb3 q hq2).1 0 (.bool b) (by show (bC (L.getD q false))[0]? = _; rw [hbL]; rfl)
       rw [show 0 + q * 1 + 0 = q by omega] at h1
       rw [← h1]
       exact World.cell?_of_block (HKX.out gb (by omega) hgb2)
      have HCB := hid hcb
      have hwa : IntKind.i64.wrap (((L.length : Nat) : Int) - 1) = ((L.length : Nat) : Int) - 1 := IntWalk.i64_in _ (by omega)
      have hwb : IntKind.i64.wrap (((L.length : Nat) : Int) - 1 - (j : Int)) = (q : Int) := by rw [IntWalk.i64_in _ (by omega), ← HQ.out]; omega
      have HNX : Hid (climbD (L.reverse.take (j + 1)) (ps.take (j + 1)) (leafD d) = stepD b p x) := hid (by rw [climbD_take _ (by rw [List.length_reverse]; exact hlt) hjp, HBb.out, HP.out, ← HXE.out])
      have HSP := hid (dgC_infoL HPO.out)
      have HSP1 := hid (dgC_info HPO.out)
      have HSP2 := hid (dgC_size HPO.out)
      have HSX1 := hid (dgC_info HXO.out)
      have hlr := laid_row wr (dgC zeroD).toArray (dgC p).toArray 25
      have hz := heap_alloc_new wr (.cells (dgC zeroD).toArray 25)
      rw [zeroD_cells] at hlr hz
      have HZ := hid hz
      obtain ⟨W5, HW5⟩ : ∃ W, Hid ((wr.alloc (.cells #[.int .u8 0, .int .u8 0, .int .u8 0, .int .u8 0, .int .u8 0, .int .u8 0, .int .u8 0, .int .u8 0, .int .u8 0, .int .u8 0, .int .u8 0, .int .u8 0, .int .u8 0, .int .u8 0, .int .u8 0, .int .u8 0, .int .u8 0, .int .u8 0, .int .u8 0, .int .u8 0, .int .u8 0, .int .u8 0, .int .u8 0, .int .u8 0, .int .u8 0, .int .u8 0, .int .u8 0, .int .u8 0, .int .u8 0, .int .u8 0, .int .u8 0, .int .u8 0] 25)).setRow wr.heap.size (dgC p).toArray = W) := ⟨_, hid rfl⟩
      rw [HW5.out] at hlr
      have HB5 := hid (HBX.out.trans (hlr.1.mono HBX.out.size))
      have HRX5 := hid (row_kept HRX.out hlr.1)
      have HRP5 := hid hlr.2.2
      have HK5 : Hid (∀ b, w.heap.size + 1 < b → b < WM.heap.size → W5.heap[b]? = WM.heap[b]?) := hid (fun b h1 h2 => (hlr.1.block b (Nat.lt_of_lt_of_le h2 HSX.out)).trans (HKX.out b h1 h2))
      have HS5 := hid (Nat.le_trans HSX.out hlr.1.size)
      have hcb5 : W5.cell? ⟨gb, q, none⟩ = some (.bool b) := (World.cell?_of_block (hlr.1.block gb (Nat.lt_of_lt_of_le hgb2 HSX.out))).trans hcb
      have HT5 := hid (hT.out.below HB5.out)
      clear hlr hz hcb hbL hrp hgb3
      cases b with
      | true =>
       have HNO : Hid (DgOk (nodeD x p)) := hid (nodeD_ok _ _)
       have HN1 := hid (dgC_info HNO.out)
       have HN2 : Hid ((dgC x).toArray.size = (dgC (nodeD x p)).toArray.size) := hid (by rw [← dgC_size HXO.out, ← dgC_size HNO.out])
       have hls : decide (q < L.length) = true := eQ hq2
       go_wp2_with (first | (with_reducible refine wpList_load_mid rfl 25 (.tmp 63) rfl gp (op + j * 32) rfl (dgC p) _ HRP.out Tryz.underlying25 rfl HSP.out ?_) | (refine wpList_store_row rfl 25 (.tmp 13) (.tmp 64) rfl wr.heap.size (dgC p).toArray rfl rfl 25 _ HZ.out HSP1.out HSP2.out (dgC_one p) ?_; rw [HW5.out]) | (refine wpList_load_row rfl 25 (.tmp 8) rfl (w.heap.size + 1) rfl 25 _ (0, 0) _ HRX5.out Tryz.underlying25 rfl HSX1.out ?_) | (refine wpList_load_row rfl 25 (.tmp 13) rfl wr.heap.size rfl 25 _ (0, 0) _ HRP5.out Tryz.underlying25 rfl HSP1.out ?_))
       rw [show Value.agg (dgC x).toArray = dgV x from rfl, show Value.agg (dgC p).toArray = dgV p from rfl]
       refine (dnode_any x p _ HXO HPO HT5).mono ?_
       rintro e W6 ⟨rfl, hq6⟩
       have HB6 := hid (HB5.out.trans (hq6.mono HB5.out.size))
       have HRX6 := hid (row_kept HRX5.out hq6)
       have HB7 := hid (below_setRow HB6.out (Nat.le_succ _) (dgC (nodeD x p)).toArray)
       have HR7 := hid (setRow_heap W6 (w.heap.size + 1) _ (dgC (nodeD x p)).toArray _ _ HRX6.out)
       have HK7 : Hid (∀ b, w.heap.size + 1 < b → b < WM.heap.size → (W6.setRow (w.heap.size + 1) (dgC (nodeD x p)).toArray).heap[b]? = WM.heap[b]?) := hid (fun b h1 h2 => by rw [setRow_other W6 (w.heap.size + 1) b _ (by omega), hq6.block b (Nat.lt_of_lt_of_le h2 HS5.out)]; exact HK5.out b h1 h2)
       have HS7 : Hid (WM.heap.size ≤ (W6.setRow (w.heap.size + 1) (dgC (nodeD x p)).toArray).heap.size) := hid (by rw [setRow_size]; exact Nat.le_trans HS5.out hq6.size)
       clear hq6 hcb5
       rw [dgV_agg (nodeD x p)]
       go_wp2_with (refine wpList_store_row rfl 25 (.tmp 8) (.tmp 75) rfl (w.heap.size + 1) (dgC (nodeD x p)).toArray rfl rfl 25 _ HRX6.out HN1.out HN2.out (dgC_one _) ?_)
       go_roundw
       case rel => exact ⟨j + 1, nodeD x p, by omega, by go_num, HNO, hid (by rw [HNX.out]; rfl), HR7, HB7, HK7, HS7⟩
       case measure => simp [intOf]; omega
      | false =>
       have HNO : Hid (DgOk (nodeD p x)) := hid (nodeD_ok _ _)
       have HN1 := hid (dgC_info HNO.out)
       have HN2 : Hid ((dgC x).toArray.size = (dgC (nodeD p x)).toArray.size) := hid (by rw [← dgC_size HXO.out, ← dgC_size HNO.out])
       have hls : decide (q < L.length) = true := eQ hq2
       go_wp2_with (first | (with_reducible refine wpList_load_mid rfl 25 (.tmp 63) rfl gp (op + j * 32) rfl (dgC p) _ HRP.out Tryz.underlying25 rfl HSP.out ?_) | (refine wpList_store_row rfl 25 (.tmp 13) (.tmp 64) rfl wr.heap.size (dgC p).toArray rfl rfl 25 _ HZ.out HSP1.out HSP2.out (dgC_one p) ?_; rw [HW5.out]) | (refine wpList_load_row rfl 25 (.tmp 8) rfl (w.heap.size + 1) rfl 25 _ (0, 0) _ HRX5.out Tryz.underlying25 rfl HSX1.out ?_) | (refine wpList_load_row rfl 25 (.tmp 13) rfl wr.heap.size rfl 25 _ (0, 0) _ HRP5.out Tryz.underlying25 rfl HSP1.out ?_))
       rw [show Value.agg (dgC x).toArray = dgV x from rfl, show Value.agg (dgC p).toArray = dgV p from rfl]
       refine (dnode_any p x _ HPO HXO HT5).mono ?_
       rintro e W6 ⟨rfl, hq6⟩
       have HB6 := hid (HB5.out.trans (hq6.mono HB5.out.size))
       have HRX6 := hid (row_kept HRX5.out hq6)
       have HB7 := hid (below_setRow HB6.out (Nat.le_succ _) (dgC (nodeD p x)).toArray)
       have HR7 := hid (setRow_heap W6 (w.heap.size + 1) _ (dgC (nodeD p x)).toArray _ _ HRX6.out)
       have HK7 : Hid (∀ b, w.heap.size + 1 < b → b < WM.heap.size → (W6.setRow (w.heap.size + 1) (dgC (nodeD p x)).toArray).heap[b]? = WM.heap[b]?) := hid (fun b h1 h2 => by rw [setRow_other W6 (w.heap.size + 1) b _ (by omega), hq6.block b (Nat.lt_of_lt_of_le h2 HS5.out)]; exact HK5.out b h1 h2)
       have HS7 : Hid (WM.heap.size ≤ (W6.setRow (w.heap.size + 1) (dgC (nodeD p x)).toArray).heap.size) := hid (by rw [setRow_size]; exact Nat.le_trans HS5.out hq6.size)
       clear hq6 hcb5
       rw [dgV_agg (nodeD p x)]
       go_wp2_with (refine wpList_store_row rfl 25 (.tmp 8) (.tmp 78) rfl (w.heap.size + 1) (dgC (nodeD p x)).toArray rfl rfl 25 _ HRX6.out HN1.out HN2.out (dgC_one _) ?_)
       go_roundw
       case rel => exact ⟨j + 1, nodeD p x, by omega, by go_num, HNO, hid (by rw [HNX.out]; rfl), HR7, HB7, HK7, HS7⟩
       case measure => simp [intOf]; omega
     ·have d9 : decide ((j : Int) < ((L.length : Nat) : Int)) = false := dQ (by omega)
      have d10 : decide (j < L.length) = false := dQ hlt
      have HXF : Hid (climbD L.reverse ps (leafD d) = x) := hid (by
       have e1 : L.reverse.take j = L.reverse := List.take_of_length_le (by rw [List.length_reverse]; omega)
       have e2 : ps.take j = ps := List.take_of_length_le (by rw [HNE.out]; omega)
       rw [HXE.out, e1, e2])
      have HSX1 := hid (dgC_info HXO.out)
      have HSX2 := hid (dgC_size HXO.out)
      go_wp2_with (first | (refine wpList_load_row rfl 25 (.tmp 8) rfl (w.heap.size + 1) rfl 25 _ (0, 0) _ HRX.out Tryz.underlying25 rfl HSX1.out ?_) | (refine wpList_store_row rfl 25 (.tmp 8) (.tmp 80) rfl (w.heap.size + 1) (dgC x).toArray rfl rfl 25 _ HRX.out HSX1.out rfl (dgC_one x) ?_))
      have hr := setRow_heap wr (w.heap.size + 1) _ (dgC x).toArray _ _ HRX.out
      have hl := run_loadVar_row (P := Tryz.prog) (World.setRow wr (w.heap.size + 1) (dgC x).toArray) (w.heap.size + 1) 25 25 (dgC x).toArray (0, 0) _ hr Tryz.underlying25 rfl HSX1.out
      refine bodyPost_ret (v := .tuple #[dgV x, .int .i64 0]) ?_ rfl ⟨by rw [HE.out.1, HE.out.2, HRS.out, HDE.out, HXF.out], below_setRow HBX.out (Nat.le_succ _) _⟩
      rw [dgV_agg x]
      simp [results, Tryz.results115, asAddr, hl]
   ·have hx : ((n : Int) == ((L.length : Nat) : Int)) = false := beq_false_of_ne (by omega)
    have hx2 : ((n : Int) != ((L.length : Nat) : Int)) = true := by simp [bne, hx]
    have HE := hid (dcl_arg (d := d) (i := i) (n := m) (ps := ps) (by unfold dArg; rw [HRS.out, HDE.out, HNE.out]; omega))
    have HXX := hid hx
    rw [← zeroD_cells] at HR1
    go_wp2_with (first | (refine wpList_load_row rfl 25 (.tmp 8) rfl (w.heap.size + 1) rfl 25 _ (0, 0) _ HR1.out Tryz.underlying25 rfl HSZD.out ?_) | (refine wpList_store_row rfl 25 (.tmp 8) (.tmp 55) rfl (w.heap.size + 1) (dgC zeroD).toArray ?ha ?hb 25 _ HR1.out HSZD.out HSZ2.out (dgC_one zeroD) ?_))
    all_goals first | rfl | skip
    have hr := setRow_heap WM (w.heap.size + 1) _ (dgC zeroD).toArray _ _ HR1.out
    have hl := run_loadVar_row (P := Tryz.prog) (World.setRow WM (w.heap.size + 1) (dgC zeroD).toArray) (w.heap.size + 1) 25 25 (dgC zeroD).toArray (0, 0) _ hr Tryz.underlying25 rfl HSZD.out
    refine bodyPost_ret (v := .tuple #[dgV zeroD, .int .i64 1]) ?_ rfl ⟨by rw [HE.out.1, HE.out.2], below_setRow HB0.out (Nat.le_succ _) _⟩
    rw [dgV_agg zeroD]
    simp [results, Tryz.results115, asAddr, hl]
theorem dclimb_any (d : List Nat) (i m : Int) (ps : List Dg) (A : Option Addr) (n c : Nat) (w : World) (hd : Hid (DgOk d)) (hn : n ≤ 9223372036854775807) (h : Hid (InD w A n c ps)) (hT : Hid (Tabs w)) (hnn : n ≤ 100000) :
  Calls Tryz.prog 115 #[dgV d, .int .i64 i, .int .i64 m, .slice A n c] w fun e w' => e = .returned (.tuple #[dgV (dclR d i m ps), .int .i64 (dclE i m ps.length)]) ∧ Below w.heap.size w w' := by
 by_cases g : m < 1 ∨ 1099511627776 < m ∨ i < 0 ∨ m ≤ i
 ·exact dclimb_a d i m ps A n c w hd hn h hT g
 exact dclimb_in d i m ps A n c w hd hn h hT (by omega) hnn (Nat.le_trans (dirsD_small 40 i.toNat m.toNat (by rw [show (2 : Nat) ^ 40 = 1099511627776 by decide]; omega) (by omega)) (by omega))
end Go.Proofs.YtmfmgeapecapiaaGreatDoor
