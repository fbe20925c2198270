/- sizar/disclose.VerifyMet. Plain laws of layer 42: what is shown is verified; two ways to one root. -/
import Derived.Test.YtmfmgeapecapiaaDoorDB13
namespace Go.Proofs.YtmfmgeapecapiaaDoor
open Go.RowKit SzSha SzTree
set_option linter.unusedVariables false
set_option maxRecDepth 100000
def wVfK (b0 : Nat) (b1 : Nat) (r : Rt) (i : Int) (x : Cl) (s : List Nat) (A : Option Addr) (n : Nat) (c : Nat) (ve : Int) : Nat → Value → World → Prop
  | 0, fv, _ => fv = Value.agg tabK
  | 1, fv, _ => fv = Value.pointer (some { block := b1, off := 1 })
  | 2, fv, _ => fv = clV x
  | 3, fv, _ => fv = Value.pointer (some { block := b1, off := 4 })
  | 4, fv, _ => fv = dgV s
  | 5, fv, _ => fv = Value.pointer (some { block := b1, off := 0 })
  | 6, fv, _ => fv = Value.int .i64 i
  | 7, fv, _ => fv = Value.pointer (some { block := b0, off := 5 })
  | 8, fv, _ => fv = Value.int .i64 r.cla
  | 9, fv, _ => fv = Value.pointer (some { block := b1, off := 36 })
  | 10, fv, _ => fv = Value.slice A n c
  | 11, fv, _ => fv = Value.pointer (some { block := b0, off := 72 })
  | 12, fv, _ => fv = dgV r.claimed
  | 13, fv, _ => fv = Value.int .i64 ve
  | 14, fv, _ => fv = Value.int .i64 ve
  | _, _, _ => True
theorem wVfK_below {b0 : Nat} {b1 : Nat} {r : Rt} {i : Int} {x : Cl} {s : List Nat} {A : Option Addr} {n : Nat} {c : Nat} {ve : Int} {w w' : World} (hb : Below w.heap.size w w') : ∀ j v, wVfK b0 b1 r i x s A n c ve j v w → wVfK b0 b1 r i x s A n c ve j v w'
  | 0, v, h => h
  | 1, v, h => h
  | 2, v, h => h
  | 3, v, h => h
  | 4, v, h => h
  | 5, v, h => h
  | 6, v, h => h
  | 7, v, h => h
  | 8, v, h => h
  | 9, v, h => h
  | 10, v, h => h
  | 11, v, h => h
  | 12, v, h => h
  | 13, v, h => h
  | 14, v, h => h
  | n + 15, v, h => trivial
set_option maxHeartbeats 4000000 in
theorem verK (r : Rt) (i : Int) (x : Cl) (s : List Nat) (A : Option Addr) (n c : Nat) (ps : List Dg) (w : World) (hx : Hid (ClOk x)) (hs : Hid (DgOk s)) (hr : Hid (RtOk r)) (hn : n ≤ 100000) (h : Hid (InD w A n c ps)) (hT : Hid (Tabs w)) :
    Calls Tryd.prog 21 #[.agg (rtC r).toArray, .agg (shCK i x s A n c).toArray] w fun e w' => e = .returned (.int .i64 (vfE (vCl x) (lfK x s) i r.cla ps r.claimed)) ∧ Below w.heap.size w w' := by
  obtain ⟨ve, HVE⟩ : ∃ ve, Hid (vfE (vCl x) (lfK x s) i r.cla ps r.claimed = ve) := ⟨_, Lib.hid rfl⟩
  have hb0 := ((Below.refl _ w).alloc (Nat.le_refl _) (.cells (rtC r).toArray 35)).alloc (by simp) (.cells (shCK i x s A n c).toArray 51)
  have hr0 := (Below.heap_alloc (w.alloc (.cells (rtC r).toArray 35)) (.cells (shCK i x s A n c).toArray 51) w.heap.size (by simp)).trans (heap_alloc_new w (.cells (rtC r).toArray 35))
  have hr1 := heap_alloc_new (w.alloc (.cells (rtC r).toArray 35)) (.cells (shCK i x s A n c).toArray 51)
  rw [World.size_alloc] at hr1
  have HB0 := Lib.hid hb0
  have HR0 := Lib.hid hr0
  have HR1 := Lib.hid hr1
  have HI1 := Lib.hid (h.out.below hb0)
  have hT1 := Lib.hid (hT.out.below hb0)
  have HII := Lib.hid (clC_infoL4 x)
  have HSK := Lib.hid (dgC_infoK hs.out)
  have HRK := Lib.hid (dgC_infoK hr.out.claimed)
  have HRO := Lib.hid hr.out.claimed
  clear hb0 hr0 hr1
  rw [HVE.out]
  go_enter Tryd.func21, Tryd.ntmps21
  go_wp2_with fail
  generalize ((w.alloc (.cells (rtC r).toArray 35)).alloc (.cells (shCK i x s A n c).toArray 51)) = W1 at *
  refine region_flow3 (by kernel_rfl) (by kernel_rfl) (fun i => Nat.beq i 14) (fun i => i) (by kernel_rfl) (fun fx => #[Value.agg (rtC r).toArray, Value.agg (shCK i x s A n c).toArray, Value.pointer (some { block := w.heap.size, off := 0 }), Value.pointer (some { block := w.heap.size + 1, off := 0 }), fx 14, fx 0, fx 1, fx 2, fx 3, fx 4, fx 5, fx 6, fx 7, fx 8, fx 9, fx 10, fx 11, fx 12, fx 13]) (fun i => bif Nat.beq i 14 then Value.int .i64 0 else undef) (fun L fx w' => Below W1.heap.size W1 w') (fun fi fv _ fw => wVfK w.heap.size (w.heap.size + 1) r i x s A n c ve fi fv fw) (Below.refl _ _).drew ?_ ?_
  · refine ⟨?_, ?_, ?_, ?_, ?_, ?_, ?_, ?_, ?_, ?_, ?_, ?_, ?_, ?_, ?_, trivial⟩
    all_goals intro L fx w' hC hi hcl hdn hd
    · go_wp2_with fail
      refine (claims_any w').mono ?_
      rintro e w2 ⟨rfl, hq⟩
      go_wp2_with fail
      exact ⟨_, rfl, hC.trans (hq.mono hC.size), rfl, fun j v t _ _ h => wVfK_below hq j v h⟩
    · go_wp2_with fail
      exact ⟨_, rfl, hC, rfl, fun _ _ _ _ _ h => h⟩
    · have h1 : fx 1 = Value.pointer (some { block := w.heap.size + 1, off := 1 }) := hd.1 rfl
      have hrow := shCK_x (row_kept HR1.out hC)
      refine wpList_load_mid rfl 49 (.tmp 6) rfl (w.heap.size + 1) 1 h1 (clC x) _ hrow Tryd.underlying49 rfl HII.out ?_
      clear hd
      go_wp2_with fail
      exact ⟨_, by simp only [upd, h1]; rfl, hC, rfl, fun _ _ _ _ _ h => h⟩
    · go_wp2_with fail
      exact ⟨_, rfl, hC, rfl, fun _ _ _ _ _ h => h⟩
    · have h3 : fx 3 = Value.pointer (some { block := w.heap.size + 1, off := 4 }) := hd.1 rfl
      have hrow := shCK_s (row_kept HR1.out hC)
      refine wpList_load_mid rfl 25 (.tmp 8) rfl (w.heap.size + 1) 4 h3 (dgC s) _ hrow Tryd.underlying25 rfl HSK.out ?_
      clear hd
      go_wp2_with fail
      exact ⟨_, by simp only [upd, h3]; rfl, hC, rfl, fun _ _ _ _ _ h => h⟩
    · go_wp2_with fail
      exact ⟨_, rfl, hC, rfl, fun _ _ _ _ _ h => h⟩
    · have h5 : fx 5 = Value.pointer (some { block := w.heap.size + 1, off := 0 }) := hd.1 rfl
      have hcc : w'.cell? ⟨w.heap.size + 1, 0, none⟩ = some (.int .i64 i) := by rw [cell_of_row _ _ _ _ _ _ (row_kept HR1.out hC)]; rfl
      go_wp2_with fail
      exact ⟨_, by simp only [upd, h5]; rfl, hC, rfl, fun _ _ _ _ _ h => h⟩
    · go_wp2_with fail
      exact ⟨_, rfl, hC, rfl, fun _ _ _ _ _ h => h⟩
    · have h7 : fx 7 = Value.pointer (some { block := w.heap.size, off := 5 }) := hd.1 rfl
      have hcc : w'.cell? ⟨w.heap.size, 5, none⟩ = some (.int .i64 r.cla) := by rw [cell_of_row _ _ _ _ _ _ (row_kept HR0.out hC)]; rfl
      go_wp2_with fail
      exact ⟨_, by simp only [upd, h7]; rfl, hC, rfl, fun _ _ _ _ _ h => h⟩
    · go_wp2_with fail
      exact ⟨_, rfl, hC, rfl, fun _ _ _ _ _ h => h⟩
    · have h9 : fx 9 = Value.pointer (some { block := w.heap.size + 1, off := 36 }) := hd.1 rfl
      have hcc : w'.cell? ⟨w.heap.size + 1, 36, none⟩ = some (.slice A n c) := shCK_p hs.out (row_kept HR1.out hC)
      go_wp2_with fail
      exact ⟨_, by simp only [upd, h9]; rfl, hC, rfl, fun _ _ _ _ _ h => h⟩
    · go_wp2_with fail
      exact ⟨_, rfl, hC, rfl, fun _ _ _ _ _ h => h⟩
    · have h11 : fx 11 = Value.pointer (some { block := w.heap.size, off := 72 }) := hd.1 rfl
      have hrow := rt_claimed hr.out (row_kept HR0.out hC)
      refine wpList_load_mid rfl 25 (.tmp 16) rfl (w.heap.size) 72 h11 (dgC r.claimed) _ hrow Tryd.underlying25 rfl HRK.out ?_
      clear hd
      go_wp2_with fail
      exact ⟨_, by simp only [upd, h11]; rfl, hC, rfl, fun _ _ _ _ _ h => h⟩
    · have h0 : fx 0 = Value.agg tabK := hd.1 rfl
      have h2 : fx 2 = clV x := hd.2.1 rfl
      have h4 : fx 4 = dgV s := hd.2.2.1 rfl
      have h6 : fx 6 = Value.int .i64 i := hd.2.2.2.1 rfl
      have h8 : fx 8 = Value.int .i64 r.cla := hd.2.2.2.2.1 rfl
      have h10 : fx 10 = Value.slice A n c := hd.2.2.2.2.2.1 rfl
      have h12 : fx 12 = dgV r.claimed := hd.2.2.2.2.2.2.1 rfl
      have HIK := Lib.hid (HI1.out.below hC)
      have HTK := Lib.hid (hT1.out.below hC)
      go_wp2_with fail
      refine (verifyK x s i r.cla ps A n c r.claimed w' hx hs HRO hn HIK HTK).mono ?_
      rintro e w2 ⟨rfl, hq⟩
      rw [HVE.out]
      go_wp2_with fail
      exact ⟨_, by simp only [upd, h0, h2, h4, h6, h8, h10, h12]; rfl, hC.trans (hq.mono hC.size), rfl, fun j v t _ _ h => wVfK_below hq j v h⟩
    · have h13 : fx 13 = Value.int .i64 ve := hd.1 rfl
      go_wp2_with fail
      exact ⟨_, by simp only [upd, h13]; rfl, hC, rfl, fun _ _ _ _ _ h => h⟩
  · intro L fo w' hC hS
    have H14 := Lib.hid (hS 14 (by decide) rfl)
    have h14 : fo 14 = .int .i64 ve := H14.out
    rw [h14]
    have HBC := Lib.hid (HB0.out.trans (hC.mono HB0.out.size))
    clear hS hC h14 H14
    go_wp2_with fail
    go_ret
    exact ⟨rfl, HBC.out⟩
end Go.Proofs.YtmfmgeapecapiaaDoor
namespace Go.Proofs.YtmfmgeapecapiaaDoor
open Go.RowKit SzSha SzTree
set_option linter.unusedVariables false
set_option maxRecDepth 100000
theorem dclE_path (P : List Dg) (j : Nat) (hj : j < P.length) (hn : P.length ≤ 100000) : dclE (j : Nat) (P.length : Nat) (pathD P j).length = 0 := by
  unfold dclE
  refine if_neg (fun h => ?_)
  unfold dArg at h
  have e1 : ((j : Nat) : Int).toNat = j := by simp
  have e2 : ((P.length : Nat) : Int).toNat = P.length := by simp
  rw [e1, e2, pathD_length] at h
  omega
theorem dclR_path (P : List Dg) (j : Nat) (hj : j < P.length) (hn : P.length ≤ 100000) : dclR P[j] (j : Nat) (P.length : Nat) (pathD P j) = treeD P := by
  have h := dclE_path P j hj hn
  unfold dclE at h
  unfold dclR
  split at h
  · cases h
  · next hd =>
    rw [if_neg hd]
    have e1 : ((j : Nat) : Int).toNat = j := by simp
    have e2 : ((P.length : Nat) : Int).toNat = P.length := by simp
    rw [e1, e2]
    exact climbD_path _ P j hj (Nat.le_refl _)
/-- what is shown is verified -/
theorem vf_shown (v : Bool) (hv : v = true) (P : List Dg) (j : Nat) (hj : j < P.length) (hn : P.length ≤ 100000) : vfE v P[j] (j : Nat) (P.length : Nat) (pathD P j) (treeD P) = 0 :=
  vfE_3 _ _ _ _ _ hv (dclE_path P j hj hn) (by rw [dclR_path P j hj hn]; exact beq_self_eq_true _)
/-- what verify's yes means -/
theorem vf_yes {v : Bool} {d : Dg} {i m : Int} {ps : List Dg} {r : Dg} (h : vfE v d i m ps r = 0) : v = true ∧ 0 ≤ i ∧ i < m ∧ ps.length = (dirsD i.toNat m.toNat).length ∧ climbD (dirsD i.toNat m.toNat).reverse ps (leafD d) = r := by
  unfold vfE at h
  split at h
  · next hc =>
    rw [Bool.and_eq_true, Bool.and_eq_true, decide_eq_true_eq] at hc
    obtain ⟨hv, he, hr⟩ := hc
    unfold dclE at he
    split at he
    · cases he
    · next hd =>
      have hr' : dclR d i m ps = r := by simpa using hr
      unfold dclR at hr'
      rw [if_neg hd] at hr'
      unfold dArg at hd
      refine ⟨hv, by omega, by omega, ?_, hr'⟩
      by_cases hl : ps.length = (dirsD i.toNat m.toNat).length
      · exact hl
      · exact absurd (.inr (.inr (.inr (.inr hl)))) hd
  · cases h
/-- the inputs of the nodes on the way -/
def insD : List Bool → List Dg → Dg → List (List Nat)
  | r :: rs, p :: ps, v => (if r then v ++ p else p ++ v) :: insD rs ps (stepD r p v)
  | _, _, _ => []
theorem stepD_in (r : Bool) (p v : Dg) : stepD r p v = tagged nodeT (if r then v ++ p else p ++ v) := by
  unfold stepD nodeD
  cases r <;> rfl
theorem two_ways : ∀ (rs : List Bool) (ps qs : List Dg) (x y : Dg), ps.length = rs.length → qs.length = rs.length → (∀ p ∈ ps, p.length = 32) → (∀ q ∈ qs, q.length = 32) → x.length = 32 → y.length = 32 → climbD rs ps x = climbD rs qs y → x = y ∨ ∃ (i : Nat) (a b : List Nat), (insD rs ps x)[i]? = some a ∧ (insD rs qs y)[i]? = some b ∧ a ≠ b ∧ tagged nodeT a = tagged nodeT b
  | [], ps, qs, x, y, h1, h2, _, _, _, _, h => by
    have e1 := List.eq_nil_of_length_eq_zero h1
    have e2 := List.eq_nil_of_length_eq_zero h2
    subst e1 e2
    exact .inl h
  | r :: rs, [], qs, x, y, h1, h2, _, _, _, _, h => by simp at h1
  | r :: rs, p :: ps, [], x, y, h1, h2, _, _, _, _, h => by simp at h2
  | r :: rs, p :: ps, q :: qs, x, y, h1, h2, hp, hq, hx, hy, h => by
    have hl : ∀ (p v : Dg), (stepD r p v).length = 32 := fun p v => by rw [stepD_in]; exact tagged_length _ _
    rcases two_ways rs ps qs (stepD r p x) (stepD r q y) (by simpa using h1) (by simpa using h2) (fun z hz => hp z (List.mem_cons_of_mem _ hz)) (fun z hz => hq z (List.mem_cons_of_mem _ hz)) (hl _ _) (hl _ _) h with e | ⟨i, a, b, ha, hb, hne, ht⟩
    · by_cases hi : (if r then x ++ p else p ++ x) = (if r then y ++ q else q ++ y)
      · left
        have hpl := hp p (List.mem_cons_self ..)
        have hql := hq q (List.mem_cons_self ..)
        cases r
        · exact (List.append_inj hi (by rw [hpl, hql])).2
        · exact (List.append_inj hi (by rw [hx, hy])).1
      · right
        refine ⟨0, _, _, rfl, rfl, hi, ?_⟩
        rw [← stepD_in, ← stepD_in]; exact e
    · exact .inr ⟨i + 1, a, b, ha, hb, hne, ht⟩
end Go.Proofs.YtmfmgeapecapiaaDoor
