/- sizar/sign.Verify. -/
import Derived.Test.YtcgpanjagkblmaaDoorSignMath
import Derived.Test.YtcgpanjagkblmaaDoorFlow
import Derived.Outline
import Derived.Test.YtcgpanjagkblmaaDoorDigEq
namespace Go.Proofs.YtcgpanjagkblmaaDoor
open Go.RowKit SzSha SzGrp
set_option linter.unusedVariables false
theorem vfy_es (p r s : Int) (l : List Nat) : vfy p l r s = (decide (ck p = 0) && decide (ck r = 0) && decide (sumE s 0 = 0) && (expV 4 s == mulV r (expV p (chal p r l)))) := by
  unfold vfy ck sumE
  rw [show sc 0 = true by decide]
  cases isE p <;> cases isE r <;> cases sc s <;> simp
theorem sumE_cases (a b : Int) : sumE a b = 0 ∨ sumE a b = 1 := by unfold sumE; split <;> simp
theorem one3 (a b c : Int) : (#[Value.int .i64 a, .int .i64 b, .int .i64 c] : Array Value).all (·.oneCell') = true := by simp [Value.oneCell']
/-- what each operation of the first statement yields -/
def vS (N b : Nat) (p r s e1 e2 e3 : Int) : Nat → Value → Value → World → Prop
  | 0, v, _, _ => v = .int .i64 p
  | 1, v, _, _ => v = .int .i64 e1
  | 2, v, _, _ => v = .pointer (some ⟨b, 0, none⟩)
  | 3, v, _, _ => v = .int .i64 r
  | 4, v, _, _ => v = .int .i64 e2
  | 5, v, _, _ => v = .pointer (some ⟨b, 1, none⟩)
  | 6, v, _, _ => v = .int .i64 s
  | 7, v, _, _ => v = .int .i64 e3
  | 8, v, _, _ => v = .agg #[.int .i64 e1, .int .i64 e2, .int .i64 e3]
  | 9, v, _, w => ∃ g x y z, v = .pointer (some ⟨g, 0, none⟩) ∧ N ≤ g ∧ w.heap[g]? = some (.cells #[x, y, z] 51 (0, 0))
  | 10, _, u, w => ∃ g, u = .pointer (some ⟨g, 0, none⟩) ∧ N ≤ g ∧ w.heap[g]? = some (.cells #[.int .i64 e1, .int .i64 e2, .int .i64 e3] 51 (0, 0))
  | _, _, _, _ => True
theorem vS_below {N b : Nat} {p r s e1 e2 e3 : Int} {w w' : World} (hb : Below w.heap.size w w') : ∀ j v u, vS N b p r s e1 e2 e3 j v u w → vS N b p r s e1 e2 e3 j v u w'
  | 0, v, u, h => h
  | 1, v, u, h => h
  | 2, v, u, h => h
  | 3, v, u, h => h
  | 4, v, u, h => h
  | 5, v, u, h => h
  | 6, v, u, h => h
  | 7, v, u, h => h
  | 8, v, u, h => h
  | 9, v, u, ⟨g, x, y, z, h1, h2, h3⟩ => ⟨g, x, y, z, h1, h2, (hb.block g (Array.getElem?_eq_some_iff.1 h3).1).trans h3⟩
  | 10, v, u, ⟨g, h1, h2, h3⟩ => ⟨g, h1, h2, (hb.block g (Array.getElem?_eq_some_iff.1 h3).1).trans h3⟩
  | n + 11, v, u, h => trivial
theorem vS_store {N b : Nat} {p r s e1 e2 e3 : Int} {w : World} {g : Nat} {x y z : Value} (hg : w.heap[g]? = some (.cells #[x, y, z] 51 (0, 0))) : ∀ j v u, j ≠ 10 → vS N b p r s e1 e2 e3 j v u w → vS N b p r s e1 e2 e3 j v u (w.setRow g #[.int .i64 e1, .int .i64 e2, .int .i64 e3])
  | 0, v, u, _, h => h
  | 1, v, u, _, h => h
  | 2, v, u, _, h => h
  | 3, v, u, _, h => h
  | 4, v, u, _, h => h
  | 5, v, u, _, h => h
  | 6, v, u, _, h => h
  | 7, v, u, _, h => h
  | 8, v, u, _, h => h
  | 9, v, u, _, ⟨g', x', y', z', h1, h2, h3⟩ => by
    by_cases e : g' = g
    · subst e; exact ⟨_, _, _, _, h1, h2, setRow_heap _ _ _ _ _ _ hg⟩
    · exact ⟨_, _, _, _, h1, h2, (setRow_other _ _ _ _ e).trans h3⟩
  | 10, v, u, hj, h => absurd rfl hj
  | n + 11, v, u, _, h => trivial
theorem equalE3 (a b c : Int) (ha : a = 0 ∨ a = 30) (hb : b = 0 ∨ b = 30) (hc : c = 0 ∨ c = 1) (w : World) : (Op.equalIn 10000 51 (.agg #[.int .i64 a, .int .i64 b, .int .i64 c]) (.agg #[.int .i64 0, .int .i64 0, .int .i64 0])).run Tryd.prog w = .ok ((a == 0) && (b == 0) && (c == 0)) w := by
  rcases ha with rfl | rfl <;> rcases hb with rfl | rfl <;> rcases hc with rfl | rfl <;> kernel_rfl
theorem neqE3 (a b c : Int) (ha : a = 0 ∨ a = 30) (hb : b = 0 ∨ b = 30) (hc : c = 0 ∨ c = 1) (h : ((a == 0) && (b == 0) && (c == 0)) = false) (w : World) : (Op.equalIn 10000 51 (.agg #[.int .i64 a, .int .i64 b, .int .i64 c]) (.agg #[.int .i64 0, .int .i64 0, .int .i64 0])).run Tryd.prog w = .ok false w := by
  rw [equalE3 a b c ha hb hc w, h]
theorem eqE3 (w : World) : (Op.equalIn 10000 51 (.agg #[.int .i64 0, .int .i64 0, .int .i64 0]) (.agg #[.int .i64 0, .int .i64 0, .int .i64 0])).run Tryd.prog w = .ok true w :=
  equalE3 0 0 0 (.inl rfl) (.inl rfl) (.inl rfl) w
set_option maxHeartbeats 2000000 in
set_option maxRecDepth 100000 in
theorem Verify_any (p r s : Int) (A : Option Addr) (n c : Nat) (l : List Nat) (w : World) (hp : -9223372036854775808 ≤ p ∧ p ≤ 9223372036854775807) (hr : -9223372036854775808 ≤ r ∧ r ≤ 9223372036854775807) (hs : -9223372036854775808 ≤ s ∧ s ≤ 9223372036854775807) (hn : n ≤ 2147000000) (hT : Hid (Tabs w)) (h : Hid (In w A n c l)) :
    Calls Tryd.prog 19 #[.int .i64 p, .slice A n c, .agg #[.int .i64 r, .int .i64 s]] w fun e w' => e = .returned (.bool (vfy p l r s)) ∧ Below w.heap.size w w' := by
  have PB := Lib.hid hp
  have RB := Lib.hid hr
  have SB := Lib.hid hs
  clear hp hr hs
  have HB1 : Hid (Below w.heap.size w (w.alloc (.cells #[.int .i64 r, .int .i64 s] 30))) := Lib.hid ((Below.refl _ _).alloc (Nat.le_refl _) _)
  have HC0 : Hid ((w.alloc (.cells #[.int .i64 r, .int .i64 s] 30)).cell? ⟨w.heap.size, 0, none⟩ = some (.int .i64 r)) := Lib.hid (by rw [cell_of_row _ _ _ _ _ _ (heap_alloc_new w _)]; rfl)
  have HC1 : Hid ((w.alloc (.cells #[.int .i64 r, .int .i64 s] 30)).cell? ⟨w.heap.size, 1, none⟩ = some (.int .i64 s)) := Lib.hid (by rw [cell_of_row _ _ _ _ _ _ (heap_alloc_new w _)]; rfl)
  go_enter Tryd.func19, Tryd.ntmps19
  go_wp2_with fail
  generalize w.alloc (.cells #[.int .i64 r, .int .i64 s] 30) = w4 at *
  obtain ⟨e1, HE1⟩ : ∃ e1, Hid (ck p = e1) := ⟨_, Lib.hid rfl⟩
  obtain ⟨e2, HE2⟩ : ∃ e2, Hid (ck r = e2) := ⟨_, Lib.hid rfl⟩
  obtain ⟨e3, HE3⟩ : ∃ e3, Hid (sumE s 0 = e3) := ⟨_, Lib.hid rfl⟩
  have HD : Hid (Below w4.heap.size w4 w4.drew) := Lib.hid (Below.refl _ _).drew
  refine region_flow (by kernel_rfl) (by kernel_rfl) (fun i => bif Nat.beq i 10 then 9 else i) (by kernel_rfl) (fun x => #[Value.int .i64 p, Value.slice A n c, Value.agg #[.int .i64 r, .int .i64 s], undef, undef, Value.pointer (some ⟨w.heap.size, 0, none⟩), Value.bool false, x 9, undef, undef, undef, undef, undef, undef, x 0, x 1, x 2, x 3, x 4, x 5, x 6, x 7, x 8, undef, undef, undef, undef, undef, undef, undef, undef, undef, undef, undef, undef, undef, undef, undef, undef, undef, undef, undef, undef, undef, undef, undef, undef, undef, undef, undef, undef, undef, undef]) (fun _ => undef) (fun w' => Below w4.heap.size w4 w') (vS w4.heap.size w.heap.size p r s e1 e2 e3) HD.out ?_ ?_
  · refine ⟨?_, ?_, ?_, ?_, ?_, ?_, ?_, ?_, ?_, ?_, ?_, trivial⟩
    all_goals intro x w' hC hd
    · go_wp2_with fail
      exact ⟨_, rfl, hC, rfl, fun _ _ _ _ h => h⟩
    · have h0 : x 0 = .int .i64 p := hd.1 rfl
      go_wp2_with fail
      refine (check_any p _ PB.out.1 PB.out.2).mono ?_
      rintro e w2 ⟨rfl, hb⟩
      rw [HE1.out]
      go_wp2_with fail
      exact ⟨_, by rw [← h0]; rfl, hC.trans (hb.mono hC.size), rfl, fun j v u _ h => vS_below hb j v u h⟩
    · go_wp2_with fail
      exact ⟨_, rfl, hC, rfl, fun _ _ _ _ h => h⟩
    · have h2 : x 2 = .pointer (some ⟨w.heap.size, 0, none⟩) := hd.1 rfl
      have hc : w'.cell? ⟨w.heap.size, 0, none⟩ = some (.int .i64 r) := (hC.cell (block_lt_of_cell HC0.out)).trans HC0.out
      go_wp2_with fail
      exact ⟨_, by rw [← h2]; rfl, hC, rfl, fun _ _ _ _ h => h⟩
    · have h3 : x 3 = .int .i64 r := hd.1 rfl
      go_wp2_with fail
      refine (check_any r _ RB.out.1 RB.out.2).mono ?_
      rintro e w2 ⟨rfl, hb⟩
      rw [HE2.out]
      go_wp2_with fail
      exact ⟨_, by rw [← h3]; rfl, hC.trans (hb.mono hC.size), rfl, fun j v u _ h => vS_below hb j v u h⟩
    · go_wp2_with fail
      exact ⟨_, rfl, hC, rfl, fun _ _ _ _ h => h⟩
    · have h5 : x 5 = .pointer (some ⟨w.heap.size, 1, none⟩) := hd.1 rfl
      have hc : w'.cell? ⟨w.heap.size, 1, none⟩ = some (.int .i64 s) := (hC.cell (block_lt_of_cell HC1.out)).trans HC1.out
      go_wp2_with fail
      exact ⟨_, by rw [← h5]; rfl, hC, rfl, fun _ _ _ _ h => h⟩
    · have h6 : x 6 = .int .i64 s := hd.1 rfl
      go_wp2_with fail
      refine (scalarE_any s _).mono ?_
      rintro e w2 ⟨rfl, hb⟩
      rw [HE3.out]
      go_wp2_with fail
      exact ⟨_, by rw [← h6]; rfl, hC.trans (hb.mono hC.size), rfl, fun j v u _ h => vS_below hb j v u h⟩
    · have h1 : x 1 = .int .i64 e1 := hd.1 rfl
      have h4 : x 4 = .int .i64 e2 := hd.2.1 rfl
      have h7 : x 7 = .int .i64 e3 := hd.2.2.1 rfl
      go_wp2_with fail
      exact ⟨_, by rw [← h1, ← h4, ← h7]; rfl, hC, rfl, fun _ _ _ _ h => h⟩
    · go_wp2_with fail
      exact ⟨_, rfl, hC.alloc hC.size _, ⟨_, _, _, _, rfl, hC.size, heap_alloc_new w' _⟩, fun j v u _ h => vS_below ((Below.refl _ _).alloc (Nat.le_refl _) _) j v u h⟩
    · have h8 : x 8 = .agg #[.int .i64 e1, .int .i64 e2, .int .i64 e3] := hd.2.1 rfl
      obtain ⟨g, a1, a2, a3, h9, hg, hrow⟩ := hd.1 rfl
      refine wpList_store_row rfl 51 (.tmp 7) (.tmp 22) rfl g #[.int .i64 e1, .int .i64 e2, .int .i64 e3] h9 h8 51 _ hrow (by kernel_rfl) rfl (one3 _ _ _) ?_
      clear hd
      go_wp2_with fail
      exact ⟨undef, by rw [← h8, ← h9]; rfl, below_setRow hC hg _, ⟨g, h9, hg, setRow_heap _ _ _ _ _ _ hrow⟩, fun j v u hj h => vS_store hrow j v u hj h⟩
  · intro x w' hC hS
    obtain ⟨g, h9, hg, hrow⟩ := hS 10 (by decide)
    have h0 : x 0 = .int .i64 p := hS 0 (by decide)
    have h1 : x 1 = .int .i64 e1 := hS 1 (by decide)
    have h2 : x 2 = .pointer (some ⟨w.heap.size, 0, none⟩) := hS 2 (by decide)
    have h3 : x 3 = .int .i64 r := hS 3 (by decide)
    have h4 : x 4 = .int .i64 e2 := hS 4 (by decide)
    have h5 : x 5 = .pointer (some ⟨w.heap.size, 1, none⟩) := hS 5 (by decide)
    have h6 : x 6 = .int .i64 s := hS 6 (by decide)
    have h7 : x 7 = .int .i64 e3 := hS 7 (by decide)
    have h8 : x 8 = .agg #[.int .i64 e1, .int .i64 e2, .int .i64 e3] := hS 8 (by decide)
    have e9 : x 9 = .pointer (some ⟨g, 0, none⟩) := h9
    rw [h0, h1, h2, h3, h4, h5, h6, h7, h8, e9]
    clear h0 h1 h2 h3 h4 h5 h6 h7 h8 e9
    clear hS h9
    have HB2 := Lib.hid (HB1.out.trans (hC.mono HB1.out.size))
    have HR0 := Lib.hid ((hC.cell (block_lt_of_cell HC0.out)).trans HC0.out)
    have HR1 := Lib.hid ((hC.cell (block_lt_of_cell HC1.out)).trans HC1.out)
    have HROW := Lib.hid hrow
    clear hrow hC HD HC0 HC1 HB1
    have RES : Hid (vfy p l r s = (decide (e1 = 0) && decide (e2 = 0) && decide (e3 = 0) && (expV 4 s == mulV r (expV p (chal p r l))))) := Lib.hid (by rw [← HE1.out, ← HE2.out, ← HE3.out]; exact vfy_es p r s l)
    have c1 : e1 = 0 ∨ e1 = 30 := by rw [← HE1.out]; exact ck_cases p
    have c2 : e2 = 0 ∨ e2 = 30 := by rw [← HE2.out]; exact ck_cases r
    have c3 : e3 = 0 ∨ e3 = 1 := by rw [← HE3.out]; exact sumE_cases s 0
    rcases c1 with rfl | rfl
    · rcases c2 with rfl | rfl
      · rcases c3 with rfl | rfl
        · have hq := eqE3 w'
          have hc1 := HR1.out
          obtain ⟨q, HQ⟩ : ∃ q, Hid (chal p r l = q) := ⟨_, Lib.hid rfl⟩
          have QB : Hid (-9223372036854775808 ≤ q ∧ q ≤ 9223372036854775807) := Lib.hid (by have := chal_bd p r l; rw [HQ.out] at this; omega)
          obtain ⟨y, HY⟩ : ∃ y, Hid (expV p q = y) := ⟨_, Lib.hid rfl⟩
          have YB : Hid (-9223372036854775808 ≤ y ∧ y ≤ 9223372036854775807) := Lib.hid (by
            have := isE_bounds (isE_exp ((ck_zero p).1 HE1.out) (chal_sc p r l)); rw [HQ.out, HY.out] at this; omega)
          obtain ⟨b, HBB⟩ : ∃ b, Hid ((expV 4 s == mulV r y) = b) := ⟨_, Lib.hid rfl⟩
          have RES2 : Hid (vfy p l r s = b) := Lib.hid (by rw [RES.out, HQ.out, HY.out, HBB.out]; rfl)
          clear RES HE1 HE2 HE3
          go_wp2_with (refine wpList_load_row rfl 51 (.tmp 7) rfl g rfl 51 _ (0, 0) _ HROW.out Tryd.underlying51 rfl (by kernel_rfl) ?_)
          refine (base_any s _ SB.out.1 SB.out.2).mono ?_
          rintro e w5 ⟨rfl, hb5⟩
          have HB5 := Lib.hid (HB2.out.trans (hb5.mono HB2.out.size))
          have hc0 : w5.cell? ⟨w.heap.size, 0, none⟩ = some (.int .i64 r) := (hb5.cell (block_lt_of_cell HR0.out)).trans HR0.out
          have hh := hash2 signT r p A n c l w5 (by decide) hn (Lib.hid (hT.out.below HB5.out)) (Lib.hid (h.out.below HB5.out))
          have HH := Lib.hid hh
          have HC5 := Lib.hid hc0
          clear hh hb5 hc1 hq HROW HR0 HR1 HB2 hg
          go_wp2_with fail
          refine HH.out.mono ?_
          rintro e w6 ⟨rfl, hb6⟩
          have eq1 : ((scalN (strL signT) (nbs [r, p] ++ l) : Nat) : Int) = q := HQ.out
          rw [eq1]
          clear eq1
          have HB6 := Lib.hid (HB5.out.trans (hb6.mono HB5.out.size))
          have HC6 := Lib.hid ((hb6.cell (block_lt_of_cell HC5.out)).trans HC5.out)
          clear hb6 HH hc0 HC5 HB5
          go_wp2_with fail
          refine (exp_any p q _ PB.out.1 PB.out.2 QB.out.1 QB.out.2).mono ?_
          rintro e w7 ⟨rfl, hb7⟩
          rw [HY.out]
          have HB7 := Lib.hid (HB6.out.trans (hb7.mono HB6.out.size))
          have hc0 := (hb7.cell (block_lt_of_cell HC6.out)).trans HC6.out
          clear hb7 HC6 HB6
          go_wp2_with fail
          refine (mul_any r y _ RB.out.1 RB.out.2 YB.out.1 YB.out.2).mono ?_
          rintro e w8 ⟨rfl, hb8⟩
          have HB8 := Lib.hid (HB7.out.trans (hb8.mono HB7.out.size))
          clear hb8 HB7 hc0
          go_wp2_with fail
          rw [HBB.out]
          go_ret
          exact ⟨by rw [RES2.out]; rfl, HB8.out⟩
        · have hq := neqE3 0 0 1 (by decide) (by decide) (by decide) (by decide) w'
          go_wp2_with (refine wpList_load_row rfl 51 (.tmp 7) rfl g rfl 51 _ (0, 0) _ HROW.out Tryd.underlying51 rfl (by kernel_rfl) ?_)
          go_ret
          exact ⟨by rw [RES.out]; rfl, HB2.out⟩
      · rcases c3 with rfl | rfl
        · have hq := neqE3 0 30 0 (by decide) (by decide) (by decide) (by decide) w'
          go_wp2_with (refine wpList_load_row rfl 51 (.tmp 7) rfl g rfl 51 _ (0, 0) _ HROW.out Tryd.underlying51 rfl (by kernel_rfl) ?_)
          go_ret
          exact ⟨by rw [RES.out]; rfl, HB2.out⟩
        · have hq := neqE3 0 30 1 (by decide) (by decide) (by decide) (by decide) w'
          go_wp2_with (refine wpList_load_row rfl 51 (.tmp 7) rfl g rfl 51 _ (0, 0) _ HROW.out Tryd.underlying51 rfl (by kernel_rfl) ?_)
          go_ret
          exact ⟨by rw [RES.out]; rfl, HB2.out⟩
    · have hq := neqE3 30 e2 e3 (by decide) c2 c3 (by simp) w'
      go_wp2_with (refine wpList_load_row rfl 51 (.tmp 7) rfl g rfl 51 _ (0, 0) _ HROW.out Tryd.underlying51 rfl (by kernel_rfl) ?_)
      go_ret
      exact ⟨by rw [RES.out]; rfl, HB2.out⟩

end Go.Proofs.YtcgpanjagkblmaaDoor
