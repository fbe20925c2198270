/- sizar/disclose.VerifyMet. Plain laws of layer 42: what is shown is verified; two ways to one root. -/
import Derived.Test.YtmfmgeapecapiaaGreatDoorMS8
set_option maxHeartbeats 64000001
open Go.Lib (hid)
namespace Go.Proofs.YtmfmgeapecapiaaGreatDoor
open Go.RowKit SzSha SzTree
set_option linter.unusedVariables false
set_option maxRecDepth 100000
def wVfK (b0 : Nat) (b1 : Nat) (r : Rt) (i : Int) (x : Cl) (s : List Nat) (A : Option Addr) (n : Nat) (c : Nat) (ve : Int) : Nat → Value → World → Prop
 | 0, fv, _ => fv = .agg tabK
 | 1, fv, _ => fv = .pointer (some { block := b1, off := 1 })
 | 2, fv, _ => fv = clV x
 | 3, fv, _ => fv = .pointer (some { block := b1, off := 4 })
 | 4, fv, _ => fv = dgV s
 | 5, fv, _ => fv = .pointer (some { block := b1, off := 0 })
 | 6, fv, _ => fv = .int .i64 i
 | 7, fv, _ => fv = .pointer (some { block := b0, off := 5 })
 | 8, fv, _ => fv = .int .i64 r.cla
 | 9, fv, _ => fv = .pointer (some { block := b1, off := 36 })
 | 10, fv, _ => fv = .slice A n c
 | 11, fv, _ => fv = .pointer (some { block := b0, off := 72 })
 | 12, fv, _ => fv = dgV r.claimed
 | 13, fv, _ => fv = .int .i64 ve
 | 14, fv, _ => fv = .int .i64 ve
 | _, _, _ => True
theorem wVfK_below {b0 : Nat} {b1 : Nat} {r : Rt} {i : Int} {x : Cl} {s : List Nat} {A : Option Addr} {n : Nat} {c : Nat} {ve : Int} {w w' : World} (hb : Below w.heap.size w w') : ∀ j v, wVfK b0 b1 r i x s A n c ve j v w → wVfK b0 b1 r i x s A n c ve j v w'
 | 0, v, h => h
 | 1, v, h => h
 | 2, v, h => h
 | 3, v, h => h
 | 4, v, h => h
 | 5, v, h => h
 | 6, v, h => h
 | 7, v, h => h
 | 8, v, h => h
 | 9, v, h => h
 | 10, v, h => h
 | 11, v, h => h
 | 12, v, h => h
 | 13, v, h => h
 | 14, v, h => h
 | n + 15, v, h => trivial
theorem verK (r : Rt) (i : Int) (x : Cl) (s : List Nat) (A : Option Addr) (n c : Nat) (ps : List Dg) (w : World) (hx : Hid (ClOk x)) (hs : Hid (DgOk s)) (hr : Hid (RtOk r)) (hn : n ≤ 100000) (h : Hid (InD w A n c ps)) (hT : Hid (Tabs w)) :
  Calls Tryz.prog 28 #[.agg (rtC r).toArray, .agg (shCK i x s A n c).toArray] w fun e w' => e = .returned (.int .i64 (vfE (vCl x) (lfK x s) i r.cla ps r.claimed)) ∧ Below w.heap.size w w' := by
 obtain ⟨ve, HVE⟩ : ∃ ve, Hid (vfE (vCl x) (lfK x s) i r.cla ps r.claimed = ve) := ⟨_, hid rfl⟩
 have hb0 := ((Below.refl _ w).alloc (Nat.le_refl _) (.cells (rtC r).toArray 43)).alloc (by simp) (.cells (shCK i x s A n c).toArray 58)
 have hr0 := (Below.heap_alloc (w.alloc (.cells (rtC r).toArray 43)) (.cells (shCK i x s A n c).toArray 58) w.heap.size (by simp)).trans (heap_alloc_new w (.cells (rtC r).toArray 43))
 have hr1 := heap_alloc_new (w.alloc (.cells (rtC r).toArray 43)) (.cells (shCK i x s A n c).toArray 58)
 rw [World.size_alloc] at hr1
 have HB0 := hid hb0
 have HR0 := hid hr0
 have HR1 := hid hr1
 have HI1 := hid (h.out.below hb0)
 have hT1 := hid (hT.out.below hb0)
 have HII := hid (clC_infoL4 x)
 have HSK := hid (dgC_infoK hs.out)
 have HRK := hid (dgC_infoK hr.out.claimed)
 have HRO := hid hr.out.claimed
 clear hb0 hr0 hr1
 rw [HVE.out]
 go_enter Tryz.func28, Tryz.ntmps28
 go_wp2_with fail
 generalize ((w.alloc (.cells (rtC r).toArray 43)).alloc (.cells (shCK i x s A n c).toArray 58)) = W1 at *
 refine region_flow3 (by kernel_rfl) (by kernel_rfl) (fun i => Nat.beq i 14) (fun i => i) (by kernel_rfl) (fun fx => #[.agg (rtC r).toArray, .agg (shCK i x s A n c).toArray, .pointer (some { block := w.heap.size, off := 0 }), .pointer (some { block := w.heap.size + 1, off := 0 }), fx 14, fx 0, fx 1, fx 2, fx 3, fx 4, fx 5, fx 6, fx 7, fx 8, fx 9, fx 10, fx 11, fx 12, fx 13]) (fun i => bif Nat.beq i 14 then Value.int .i64 0 else undef) (fun L fx w' => Below W1.heap.size W1 w') (fun fi fv _ fw => wVfK w.heap.size (w.heap.size + 1) r i x s A n c ve fi fv fw) (Below.refl _ _).drew ?_ ?_
 ·refine ⟨?_, ?_, ?_, ?_, ?_, ?_, ?_, ?_, ?_, ?_, ?_, ?_, ?_, ?_, ?_, trivial⟩
  all_goals intro L fx w' hC hi hcl hdn hd
  ·go_wp2_with fail
   refine (claims_any w').mono ?_
   rintro e w2 ⟨rfl, hq⟩
   go_wp2_with fail
   exact ⟨_, rfl, hC.trans (hq.mono hC.size), rfl, fun j v t _ _ h => wVfK_below hq j v h⟩
  ·go_wp2_with fail
   exact ⟨_, rfl, hC, rfl, kP⟩
  ·have h1 : fx 1 = .pointer (some { block := w.heap.size + 1, off := 1 }) := hd.1 rfl
   have hrow := shCK_x (row_kept HR1.out hC)
   refine wpList_load_mid rfl 56 (.tmp 6) rfl (w.heap.size + 1) 1 h1 (clC x) _ hrow Tryz.underlying56 rfl HII.out ?_
   clear hd
   go_wp2_with fail
   exact ⟨_, by simp only [upd, h1]; rfl, hC, rfl, kP⟩
  ·go_wp2_with fail
   exact ⟨_, rfl, hC, rfl, kP⟩
  ·have h3 : fx 3 = .pointer (some { block := w.heap.size + 1, off := 4 }) := hd.1 rfl
   have hrow := shCK_s (row_kept HR1.out hC)
   refine wpList_load_mid rfl 25 (.tmp 8) rfl (w.heap.size + 1) 4 h3 (dgC s) _ hrow Tryz.underlying25 rfl HSK.out ?_
   clear hd
   go_wp2_with fail
   exact ⟨_, by simp only [upd, h3]; rfl, hC, rfl, kP⟩
  ·go_wp2_with fail
   exact ⟨_, rfl, hC, rfl, kP⟩
  ·have h5 : fx 5 = .pointer (some { block := w.heap.size + 1, off := 0 }) := hd.1 rfl
   have hcc : w'.cell? ⟨w.heap.size + 1, 0, none⟩ = some (.int .i64 i) := by rw [cell_of_row _ _ _ _ _ _ (row_kept HR1.out hC)]; rfl
   go_wp2_with fail
   exact ⟨_, by simp only [upd, h5]; rfl, hC, rfl, kP⟩
  ·go_wp2_with fail
   exact ⟨_, rfl, hC, rfl, kP⟩
  ·have h7 : fx 7 = .pointer (some { block := w.heap.size, off := 5 }) := hd.1 rfl
   have hcc : w'.cell? ⟨w.heap.size, 5, none⟩ = some (.int .i64 r.cla) := by rw [cell_of_row _ _ _ _ _ _ (row_kept HR0.out hC)]; rfl
   go_wp2_with fail
   exact ⟨_, by simp only [upd, h7]; rfl, hC, rfl, kP⟩
  ·go_wp2_with fail
   exact ⟨_, rfl, hC, rfl, kP⟩
  ·have h9 : fx 9 = .pointer (some { block := w.heap.size + 1, off := 36 }) := hd.1 rfl
   have hcc : w'.cell? ⟨w.heap.size + 1, 36, none⟩ = some (.slice A n c) := shCK_p hs.out (row_kept HR1.out hC)
   go_wp2_with fail
   exact ⟨_, by simp only [upd, h9]; rfl, hC, rfl, kP⟩
  ·go_wp2_with fail
   exact ⟨_, rfl, hC, rfl, kP⟩
  ·have h11 : fx 11 = .pointer (some { block := w.heap.size, off := 72 }) := hd.1 rfl
   have hrow := rt_claimed hr.out (row_kept HR0.out hC)
   refine wpList_load_mid rfl 25 (.tmp 16) rfl (w.heap.size) 72 h11 (dgC r.claimed) _ hrow Tryz.underlying25 rfl HRK.out ?_
   clear hd
   go_wp2_with fail
   exact ⟨_, by simp only [upd, h11]; rfl, hC, rfl, kP⟩
  ·have h0 : fx 0 = .agg tabK := hd.1 rfl
   have h2 : fx 2 = clV x := hd.2.1 rfl
   have h4 : fx 4 = dgV s := hd.2.2.1 rfl
   have h6 : fx 6 = .int .i64 i := hd.2.2.2.1 rfl
   have h8 : fx 8 = .int .i64 r.cla := hd.2.2.2.2.1 rfl
   have h10 : fx 10 = .slice A n c := hd.2.2.2.2.2.1 rfl
   have h12 : fx 12 = dgV r.claimed := hd.2.2.2.2.2.2.1 rfl
   have HIK := hid (HI1.out.below hC)
   have HTK := hid (hT1.out.below hC)
   go_wp2_with fail
   refine (verifyK x s i r.cla ps A n c r.claimed w' hx hs HRO hn HIK HTK).mono ?_
   rintro e w2 ⟨rfl, hq⟩
   rw [HVE.out]
   go_wp2_with fail
   exact ⟨_, by simp only [upd, h0, h2, h4, h6, h8, h10, h12]; rfl, hC.trans (hq.mono hC.size), rfl, fun j v t _ _ h => wVfK_below hq j v h⟩
  ·have h13 : fx 13 = .int .i64 ve := hd.1 rfl
   go_wp2_with fail
   exact ⟨_, by simp only [upd, h13]; rfl, hC, rfl, kP⟩
 ·intro L fo w' hC hS
  have H14 := hid (hS 14 (by decide) rfl)
  have h14 : fo 14 = .int .i64 ve := H14.out
  rw [h14]
  have HBC := hid (HB0.out.trans (hC.mono HB0.out.size))
  clear hS hC h14 H14
  go_wp2_with fail
  go_ret
  exact ⟨rfl, HBC.out⟩
theorem dclE_path (P : List Dg) (j : Nat) (hj : j < P.length) (hn : P.length ≤ 100000) : dclE (j : Nat) (P.length : Nat) (pathD P j).length = 0 := by
 unfold dclE
 refine if_neg (fun h => ?_)
 unfold dArg at h
 have e1 : ((j : Nat) : Int).toNat = j := by simp
 have e2 : ((P.length : Nat) : Int).toNat = P.length := by simp
 rw [e1, e2, pathD_length] at h
 omega
theorem dclR_path (P : List Dg) (j : Nat) (hj : j < P.length) (hn : P.length ≤ 100000) : dclR P[j] (j : Nat) (P.length : Nat) (pathD P j) = treeD P := by
 have h := dclE_path P j hj hn
 unfold dclE at h
 unfold dclR
 split at h
 ·cases h
 ·next hd =>
  rw [if_neg hd]
  have e1 : ((j : Nat) : Int).toNat = j := by simp
  have e2 : ((P.length : Nat) : Int).toNat = P.length := by simp
  rw [e1, e2]
  exact climbD_path _ P j hj (Nat.le_refl _)
/-- what is shown is verified -/
theorem vf_shown (v : Bool) (hv : v = true) (P : List Dg) (j : Nat) (hj : j < P.length) (hn : P.length ≤ 100000) : vfE v P[j] (j : Nat) (P.length : Nat) (pathD P j) (treeD P) = 0 :=
 vfE_3 _ _ _ _ _ hv (dclE_path P j hj hn) (by rw [dclR_path P j hj hn]; exact beq_self_eq_true _)
end Go.Proofs.YtmfmgeapecapiaaGreatDoor
