/- sizar/sums.parts: the iterator yields the parts that show an interval. sizar/tree.Join of nodes that are not valid. sizar/tree.half. sizar/tree.Root$1: the root of valid leaves. -/
import Derived.RangeFuncBound
import Derived.RangeFuncCalls
import Derived.Shelf.Abstract
import Derived.Shelf.RegionOpen
import Derived.WalkKit
import Derived.OwnWalkIn
import Derived.TacticsInMore
import Derived.LoopNIn
import Derived.LoopIn
import Derived.Test.YtmfmgeapecapiaaGreatDoorVS0
import Derived.Test.YtmfmgeapecapiaaGreatDoorVS3
import Derived.IntWalk
set_option maxHeartbeats 64000001
open Go.Lib (hid)
namespace Go.Proofs.YtmfmgeapecapiaaGreatDoor
open Go.RowKit Go.Shelf SzSha SzTree
set_option linter.unusedVariables false
attribute [local go_sem] Oper.semAt_some
def encP (x : Pt) : Array Value := #[.agg #[.int .i64 (x.lo : Nat), .int .i64 (x.hi : Nat)], .bool x.ins]
theorem parts_any (f t lo hi : Nat) (w : World) :
  Calls Tryz.prog 77 #[.agg #[.int .i64 (f : Nat), .int .i64 (t : Nat)], .agg #[.int .i64 (lo : Nat), .int .i64 (hi : Nat)]] w fun e w' => e = .returned (.func (.func 120) #[] #[.pointer (some ⟨w.heap.size, 0, none⟩), .pointer (some ⟨w.heap.size + 1, 0, none⟩)]) ∧ (w.alloc (.cells #[.int .i64 (f : Nat), .int .i64 (t : Nat)] 119)).alloc (.cells #[.int .i64 (lo : Nat), .int .i64 (hi : Nat)] 119) = w' := by
 go_enter Tryz.func77, Tryz.ntmps77
 have hmf : ∀ (fn : Fn) (first cap : Array Value) (w : World), (Instr.makeFunc fn first cap).run Tryz.prog w = .ok (.func fn first cap) w := fun _ _ _ _ => rfl
 go_wp2_with fail
 go_ret
 exact ⟨rfl, rfl⟩
/-- what the iterator's contract asks at the start -/
structure PtsAt (Fr : Nat → World → Prop) (f t lo hi ba bb : Nat) (w : World) : Prop where
 a : w.heap[ba]? = some (.cells #[.int .i64 (f : Nat), .int .i64 (t : Nat)] 119 (0, 0))
 b : w.heap[bb]? = some (.cells #[.int .i64 (lo : Nat), .int .i64 (hi : Nat)] 119 (0, 0))
 fa : Fr ba w
 fb : Fr bb w
theorem PtsAt.kept {Fr : Nat → World → Prop} {f t lo hi ba bb : Nat} {w w' : World} (h : PtsAt Fr f t lo hi ba bb w) (k : KpF Fr w w') : PtsAt Fr f t lo hi ba bb w' :=
 ⟨(k.kept _ _ h.fa h.a).2, (k.kept _ _ h.fb h.b).2, (k.kept _ _ h.fa h.a).1, (k.kept _ _ h.fb h.b).1⟩
set_option maxRecDepth 100000 in
theorem parts1_leaf (f t lo hi : Nat) (hft : f < t) (ht : t ≤ 4096) (hlt : lo < hi) (hhi : hi ≤ 4096) (hc : (insB f t lo hi || outB f t lo hi) = true) (Fr : Nat → World → Prop) (ba bb : Nat) (w0 : World) (h : Hid (PtsAt Fr f t lo hi ba bb w0)) :
  SeqO Tryz.prog 120 #[.pointer (some ⟨ba, 0, none⟩), .pointer (some ⟨bb, 0, none⟩)] encP Fr (fun l => l <+: parts f t lo hi) (fun l => l = parts f t lo hi) (fun _ => True) w0 := by
 intro l J Jx W hl hW hk hne hJ hJx hF hfr hY h0
 have HP := hid (parts_leaf hlt hc)
 have HW := hid ((h.out.kept hk).kept (KpF.alloc hF W (.cells #[.func (.yield l) #[] #[]] 161)))
 have hYx := hY [] ⟨lo, hi, insB f t lo hi⟩ (W.alloc (.cells #[.func (.yield l) #[] #[]] 161)) (by rw [HP.out]; exact List.prefix_refl _) (hJ.alloc _ h0)
 obtain ⟨fn, tmps, assign, body, hy, hR⟩ := hYx
 have HK := hid (KpF.alloc hF W (.cells #[.func (.yield l) #[] #[]] 161))
 clear hY hJ hJx hF hfr h0 hk hW h hl hne
 have ca0 := cell_of_row _ ba 0 _ _ _ HW.out.a
 have ca1 := cell_of_row _ ba 1 _ _ _ HW.out.a
 have cb0 := cell_of_row _ bb 0 _ _ _ HW.out.b
 have cb1 := cell_of_row _ bb 1 _ _ _ HW.out.b
 have cy := cell_one_new W (.func (.yield l) #[] #[]) 161
 refine (callsIn_wide (n := 5)).1 ?_
 refine callsIn_of_wp Tryz.func120 rfl trivial ?_ rfl
 simp only [Tryz.ntmps120, List.size_toArray, List.length_cons, List.length_nil, Nat.reduceAdd, Nat.reduceSub, Array.replicate_succ, Array.replicate_zero, List.push_toArray, List.append_toArray, List.nil_append, List.cons_append]
 have hcx : (f ≤ lo ∧ hi ≤ t) ∨ (f ≤ lo ∧ ¬ hi ≤ t ∧ ¬ hi ≤ f ∧ t ≤ lo) ∨ (¬ f ≤ lo ∧ hi ≤ f) := by
  unfold insB outB at hc
  simp only [Bool.or_eq_true, Bool.and_eq_true, decide_eq_true_eq] at hc
  omega
 rcases hcx with ⟨q0, q1⟩ | ⟨q0, q1, q2, q3⟩ | ⟨q0, q1⟩
 ·have d0 : decide (f ≤ lo) = true := eQ (by omega)
  have d1 : decide (hi ≤ t) = true := eQ (by omega)
  have hin : insB f t lo hi = true := by unfold insB; rw [d0, d1]; rfl
  rw [hin] at hR hy
  have HP2 := hid (show parts f t lo hi = [⟨lo, hi, true⟩] by rw [HP.out, hin])
  dsimp only [encP] at hy
  clear hin hc HP
  gi_wp2_with fail
  refine hR.mono ?_
  rintro e W3 (⟨rfl, hJ3, hk3⟩ | ⟨rfl, hJx3, hk3⟩)
  ·clear hy hR
   gi_wp2_with fail
   refine bodyPost_ret (results_none rfl _ _ _) rfl ?_
   exact ⟨⟨_, rfl⟩, .inl ⟨_, HP2.out.symm, hJ3, (HK.out.exl l).trans hk3⟩⟩
  ·clear hy hR
   gi_wp2_with fail
   refine bodyPost_ret (results_none rfl _ _ _) rfl ?_
   exact ⟨⟨_, rfl⟩, .inr ⟨_, trivial, hJx3⟩⟩
 ·have d0 : decide (f ≤ lo) = true := eQ (by omega)
  have d1 : decide (hi ≤ t) = false := dQ (by omega)
  have d2 : decide (hi ≤ f) = false := dQ (by omega)
  have d3 : decide (t ≤ lo) = true := eQ (by omega)
  have hin : insB f t lo hi = false := by unfold insB; first | (rw [d0]; rfl) | (rw [d1]; simp)
  rw [hin] at hR hy
  have HP2 := hid (show parts f t lo hi = [⟨lo, hi, false⟩] by rw [HP.out, hin])
  dsimp only [encP] at hy
  clear hin hc HP
  gi_wp2_with fail
  refine hR.mono ?_
  rintro e W3 (⟨rfl, hJ3, hk3⟩ | ⟨rfl, hJx3, hk3⟩)
  ·clear hy hR
   gi_wp2_with fail
   refine bodyPost_ret (results_none rfl _ _ _) rfl ?_
   exact ⟨⟨_, rfl⟩, .inl ⟨_, HP2.out.symm, hJ3, (HK.out.exl l).trans hk3⟩⟩
  ·clear hy hR
   gi_wp2_with fail
   refine bodyPost_ret (results_none rfl _ _ _) rfl ?_
   exact ⟨⟨_, rfl⟩, .inr ⟨_, trivial, hJx3⟩⟩
 ·have d0 : decide (f ≤ lo) = false := dQ (by omega)
  have d1 : decide (hi ≤ f) = true := eQ (by omega)
  have hin : insB f t lo hi = false := by unfold insB; first | (rw [d0]; rfl) | (rw [d1]; simp)
  rw [hin] at hR hy
  have HP2 := hid (show parts f t lo hi = [⟨lo, hi, false⟩] by rw [HP.out, hin])
  dsimp only [encP] at hy
  clear hin hc HP
  gi_wp2_with fail
  refine hR.mono ?_
  rintro e W3 (⟨rfl, hJ3, hk3⟩ | ⟨rfl, hJx3, hk3⟩)
  ·clear hy hR
   gi_wp2_with fail
   refine bodyPost_ret (results_none rfl _ _ _) rfl ?_
   exact ⟨⟨_, rfl⟩, .inl ⟨_, HP2.out.symm, hJ3, (HK.out.exl l).trans hk3⟩⟩
  ·clear hy hR
   gi_wp2_with fail
   refine bodyPost_ret (results_none rfl _ _ _) rfl ?_
   exact ⟨⟨_, rfl⟩, .inr ⟨_, trivial, hJx3⟩⟩
theorem spi0 (a b c d : Value) (w : World) : (Instr.index 162 (.agg #[a, b, c, d]) (.int .i64 0)).run Tryz.prog w = .ok (.agg #[a, b]) w := by kernel_rfl
theorem spi1 (a b c d : Value) (w : World) : (Instr.index 162 (.agg #[a, b, c, d]) (.int .i64 1)).run Tryz.prog w = .ok (.agg #[c, d]) w := by kernel_rfl
/-- the contract at an interval -/
def PtsM (f t lo hi : Nat) : Prop := hi ≤ 4096 → ∀ (Fr : Nat → World → Prop) (ba bb : Nat) (w0 : World), Hid (PtsAt Fr f t lo hi ba bb w0) →
  SeqO Tryz.prog 120 #[.pointer (some ⟨ba, 0, none⟩), .pointer (some ⟨bb, 0, none⟩)] encP Fr (fun l => l <+: parts f t lo hi) (fun l => l = parts f t lo hi) (fun _ => True) w0
set_option maxRecDepth 100000 in
theorem parts1_cut (f t lo hi mid : Nat) (hft : f < t) (ht : t ≤ 4096) (hlt : lo < hi) (hc : (insB f t lo hi || outB f t lo hi) = false) (hm : Hid (lo + half (hi - lo) = mid)) (hm1 : lo < mid) (hm2 : mid < hi) (ih1 : PtsM f t lo mid) (ih2 : PtsM f t mid hi) : PtsM f t lo hi := by
 intro hhi Fr ba bb w0 h l J Jx W hl hW hk hne hJ hJx hF hfr hY h0
 have HP := hid (parts_cut hlt hft hc)
 rw [hm.out] at HP
 have h2 := cut_two hlt hft hc
 obtain ⟨W1, HW1⟩ : ∃ V, Hid (W.alloc (.cells #[.func (.yield l) #[] #[]] 161) = V) := ⟨_, hid rfl⟩
 have hka := KpF.alloc hF W (.cells #[.func (.yield l) #[] #[]] 161)
 have hya := heap_alloc_new W (.cells #[.func (.yield l) #[] #[]] 161)
 have hja := hJ.alloc (.cells #[.func (.yield l) #[] #[]] 161) h0
 have hfa := hfr [] W (.cells #[.func (.yield l) #[] #[]] 161) h0
 rw [HW1.out] at hka hya hja hfa
 have HA := hid ((h.out.kept hk).kept hka)
 have ca0 := cell_of_row _ ba 0 _ _ _ HA.out.a
 have ca1 := cell_of_row _ ba 1 _ _ _ HA.out.a
 have cb0 := cell_of_row _ bb 0 _ _ _ HA.out.b
 have cb1 := cell_of_row _ bb 1 _ _ _ HA.out.b
 have HS1 : Hid (W.heap.size < W1.heap.size) := hid (by rw [← HW1.out]; simp)
 have HMM := hid (show lo + 2 ≤ hi by omega)
 refine (callsIn_wide (n := 5)).1 ?_
 refine callsIn_of_wp_marks Tryz.func120 rfl trivial ?_ rfl
 simp only [Tryz.ntmps120, List.size_toArray, List.length_cons, List.length_nil, Nat.reduceAdd, Nat.reduceSub, Array.replicate_succ, Array.replicate_zero, List.push_toArray, List.append_toArray, List.nil_append, List.cons_append]
 have hcx : (f ≤ lo ∧ ¬ hi ≤ t ∧ ¬ hi ≤ f ∧ ¬ t ≤ lo) ∨ (¬ f ≤ lo ∧ ¬ hi ≤ f ∧ ¬ t ≤ lo) := by
  unfold insB outB at hc
  simp only [Bool.or_eq_false_iff, Bool.and_eq_false_iff, decide_eq_false_iff_not] at hc
  omega
 rcases hcx with ⟨q0, q1, q2, q3⟩ | ⟨q0, q2, q3⟩
 ·have d0 : decide (f ≤ lo) = true := eQ q0
  have d1 : decide (hi ≤ t) = false := dQ q1
  have d2 : decide (hi ≤ f) = false := dQ q2
  have d3 : decide (t ≤ lo) = false := dQ q3
  gi_wp2_with (first | (refine ⟨trivial, ?_⟩; gi_at_call 84; refine (callsIn_wide.2 (middle_any lo hi _ HMM.out (by omega))).mono ?_; rintro e w' ⟨rfl, rfl⟩; rw [hm.out]) | (rw [HW1.out]))
  refine wpIn_loop_rounds 3 ?_
  rw [roundsIn_succ]
  have hx0 := spi0
  have hx1 := spi1
  have hF := hid hF
  have hJ := hid hJ
  have hJx := hid hJx
  have hfr := hid hfr
  have hY := hid hY
  have hl := hid hl
  have HA1 : Hid (PtsAt (exl l Fr) f t lo hi ba bb W1) := hid ⟨HA.out.a, HA.out.b, ⟨hne _ (Array.getElem?_eq_some_iff.1 h.out.a).1, HA.out.fa⟩, ⟨hne _ (Array.getElem?_eq_some_iff.1 h.out.b).1, HA.out.fb⟩⟩
  have HY1 : Hid (exl l Fr W.heap.size W1 ∧ W1.heap[W.heap.size]? = some (.cells #[.func (.yield l) #[] #[]] 161 (0, 0))) := hid ⟨⟨by have := hl.out; omega, hfa⟩, hya⟩
  have HJ1 : Hid (J [] W1) := hid hja
  have HL1 : Hid (l < W1.heap.size) := hid (by have := HS1.out; have := hl.out; omega)
  have HZ1 : Hid (W.heap.size ≤ W1.heap.size) := hid (by have := HS1.out; omega)
  have HK1 : Hid (KpF (exl l Fr) W W1) := hid (hka.exl l)
  clear hka hya hja hfa ca0 ca1 cb0 cb1 HA hk hW hne h0
  obtain ⟨V1, HV1⟩ : ∃ V, Hid (W1.alloc (.cells #[.int .i64 (lo : Nat), .int .i64 (mid : Nat)] 119) = V) := ⟨_, hid rfl⟩
  have hk1 := KpF.alloc (hF.out.mono HZ1.out) W1 (.cells #[.int .i64 (lo : Nat), .int .i64 (mid : Nat)] 119)
  have hr1 := heap_alloc_new W1 (.cells #[.int .i64 (lo : Nat), .int .i64 (mid : Nat)] 119)
  have hj1 := hJ.out.alloc (.cells #[.int .i64 (lo : Nat), .int .i64 (mid : Nat)] 119) HJ1.out
  have HS1 : Hid (V1.heap.size = W1.heap.size + 1) := hid (by rw [← HV1.out]; simp)
  rw [HV1.out] at hk1 hr1 hj1
  have hA1 := HA1.out.kept (hk1.exl l)
  have hY1 := (hk1.exl l).kept _ _ HY1.out.1 HY1.out.2
  obtain ⟨X1, HX1⟩ : ∃ V, Hid ((V1.alloc (.cells #[.int .i64 (f : Nat), .int .i64 (t : Nat)] 119)).alloc (.cells #[.int .i64 (lo : Nat), .int .i64 (mid : Nat)] 119) = V) := ⟨_, hid rfl⟩
  have hf1 : FrOwn V1.heap.size Fr := hF.out.mono (by have := HS1.out; have := HZ1.out; omega)
  have hk2 := (KpF.alloc hf1 V1 (.cells #[.int .i64 (f : Nat), .int .i64 (t : Nat)] 119)).trans (KpF.alloc hf1 (V1.alloc (.cells #[.int .i64 (f : Nat), .int .i64 (t : Nat)] 119)) (.cells #[.int .i64 (lo : Nat), .int .i64 (mid : Nat)] 119))
  have hfw := (KpF.alloc hf1 (V1.alloc (.cells #[.int .i64 (f : Nat), .int .i64 (t : Nat)] 119)) (.cells #[.int .i64 (lo : Nat), .int .i64 (mid : Nat)] 119)).kept _ _ (hfr.out _ _ (.cells #[.int .i64 (f : Nat), .int .i64 (t : Nat)] 119) hj1) (heap_alloc_new V1 (.cells #[.int .i64 (f : Nat), .int .i64 (t : Nat)] 119))
  have hjw := hJ.out.alloc (.cells #[.int .i64 (f : Nat), .int .i64 (t : Nat)] 119) hj1
  have hfc := hfr.out _ _ (.cells #[.int .i64 (lo : Nat), .int .i64 (mid : Nat)] 119) hjw
  have hrc := heap_alloc_new (V1.alloc (.cells #[.int .i64 (f : Nat), .int .i64 (t : Nat)] 119)) (.cells #[.int .i64 (lo : Nat), .int .i64 (mid : Nat)] 119)
  have hj2 := hJ.out.alloc (.cells #[.int .i64 (lo : Nat), .int .i64 (mid : Nat)] 119) hjw
  have HS21 : Hid (X1.heap.size = V1.heap.size + 2) := hid (by rw [← HX1.out]; simp)
  rw [World.size_alloc] at hfc hrc
  rw [HX1.out] at hk2 hfw hfc hrc hj2
  have HP1 : Hid (PtsAt (exl l Fr) f t lo mid V1.heap.size (V1.heap.size + 1) X1) := hid ⟨hfw.2, hrc, ⟨by have := HL1.out; have := HS1.out; omega, hfw.1⟩, ⟨by have := HL1.out; have := HS1.out; omega, hfc⟩⟩
  have HAX1 := hid (hA1.kept (hk2.exl l))
  have HYX1 := hid ((hk2.exl l).kept _ _ hY1.1 hY1.2)
  have HJX1 := hid hj2
  have HKX1 := hid (HK1.out.trans ((hk1.exl l).trans (hk2.exl l)))
  have cw0 := cell_of_row _ ba 0 _ _ _ hA1.a
  have cw1 := cell_of_row _ ba 1 _ _ _ hA1.a
  have cn0 := cell_of_row _ W1.heap.size 0 _ _ _ hr1
  have cn1 := cell_of_row _ W1.heap.size 1 _ _ _ hr1
  clear hk1 hr1 hj1 hA1 hY1 hk2 hfw hjw hfc hrc hj2 hf1
  gi_wp2_with (first | (rw [HV1.out]) | (refine ⟨trivial, ?_⟩; gi_at_call 77; refine (callsIn_wide.2 (parts_any f t lo mid _)).mono ?_; rintro e w' ⟨rfl, rfl⟩; rw [HX1.out]))
  clear cw0 cw1 cn0 cn1
  have HW1 : Hid (W.heap.size ≤ X1.heap.size) := hid (by have := HZ1.out; have := HS1.out; have := HS21.out; omega)
  refine rangeFunc_own (gf := 120) (lb := #[.pointer (some ⟨V1.heap.size, 0, none⟩), .pointer (some ⟨V1.heap.size + 1, 0, none⟩)]) rfl (enters_of Tryz.func120 (by kernel_rfl) rfl)
   (ih1 (by omega) (exl l Fr) _ _ _ HP1) (fun _ => rfl)
   (fun ys V => J ([] ++ ys) V ∧ l < V.heap.size ∧ KpF (exl l Fr) X1 V)
   (fun c ys V => c = .ret ∧ (∃ q, Jx q V))
   (fun ys A B row hs hg hr => ⟨own_mono hJ.out HW1.out _ A B row hs.1 hg hr, Nat.lt_of_lt_of_le hs.2.1 hg.size, KpF.own (FrOwn.exl (hF.out.mono HW1.out) l) X1 (Nat.le_refl _) ys A B row hs.2.2 hg hr⟩)
   (fun c ys A B row hs hg hr => ⟨hs.1, by obtain ⟨q, hq⟩ := hs.2; exact ⟨q, own_mono hJx.out HW1.out _ A B row hq hg hr⟩⟩)
   (FrOwn.exl (hF.out.mono HW1.out) l) (fun ys V o hs => ⟨by have := hs.2.1; omega, hfr.out _ V o hs.1⟩)
   ⟨by rw [List.append_nil]; exact HJX1.out, by have := HL1.out; have := HS1.out; have := HS21.out; omega, KpF.refl _ _⟩
   (fun x a' V => ∃ sb, a' = { tmps := #[.func (.yield l) #[] #[], .pointer (some ⟨ba, 0, none⟩), .pointer (some ⟨bb, 0, none⟩), .pointer (some ⟨W.heap.size, 0, none⟩), .bool false, .int .i64 (mid : Nat), undef, .pointer (some ⟨W1.heap.size, 0, none⟩), .pointer (some ⟨sb, 0, none⟩), .bool x.ins, .pointer (some ⟨ba, 0, none⟩), .int .i64 (f : Nat), .pointer (some ⟨bb, 0, none⟩), .int .i64 (lo : Nat), .bool true, .bool true, .pointer (some ⟨bb, 1, none⟩), .int .i64 (hi : Nat), .pointer (some ⟨ba, 1, none⟩), .int .i64 (t : Nat), .bool false, .bool false, .bool false, .bool false, .pointer (some ⟨bb, 1, none⟩), .int .i64 (hi : Nat), .pointer (some ⟨ba, 0, none⟩), .int .i64 (f : Nat), .bool false, .bool false, .bool false, .pointer (some ⟨ba, 1, none⟩), .int .i64 (t : Nat), .pointer (some ⟨bb, 0, none⟩), .int .i64 (lo : Nat), .bool false, .bool false, undef, undef, undef, undef, .pointer (some ⟨bb, 0, none⟩), .int .i64 (lo : Nat), .pointer (some ⟨bb, 1, none⟩), .int .i64 (hi : Nat), .int .i64 (mid : Nat), .pointer (some ⟨bb, 0, none⟩), .int .i64 (lo : Nat), .int .i64 (mid : Nat), .agg #[.int .i64 (lo : Nat), .int .i64 (mid : Nat)], .int .i64 (mid : Nat), .pointer (some ⟨bb, 1, none⟩), .int .i64 (hi : Nat), .agg #[.int .i64 (mid : Nat), .int .i64 (hi : Nat)], .agg #[.int .i64 (lo : Nat), .int .i64 (mid : Nat), .int .i64 (mid : Nat), .int .i64 (hi : Nat)], .int .i64 0, .bool true, .agg #[.int .i64 (lo : Nat), .int .i64 (mid : Nat)], .agg #[.int .i64 (f : Nat), .int .i64 (t : Nat)], .agg #[.int .i64 (lo : Nat), .int .i64 (mid : Nat)], .func (.func 120) #[] #[.pointer (some ⟨V1.heap.size, 0, none⟩), .pointer (some ⟨V1.heap.size + 1, 0, none⟩)], .agg #[.int .i64 (x.lo : Nat), .int .i64 (x.hi : Nat)], .bool x.ins, undef, undef, undef, undef, undef, undef], defers := [] } ∧ V.heap[sb]? = some (.cells #[.int .i64 (x.lo : Nat), .int .i64 (x.hi : Nat)] 119 (0, 0)))
   (fun x a' s A B row hs hg hr => by
    obtain ⟨sb, e, hh⟩ := hs
    refine ⟨sb, e, (hg.block _ (Array.getElem?_eq_some_iff.1 hh).1 (fun e => ?_)).trans hh⟩
    obtain ⟨o, ho, hn⟩ := (hr sb e.symm).2
    rw [ho] at hh; cases hh; cases hn)
   ?assign1 ?body1 ?done1 ?stop1
  case assign1 =>
   rintro l2 ys ⟨xl, xh, xi⟩ V K ⟨hj, hlv, hkv⟩ hK
   simp only [encP]
   gi_wp2_with fail
   refine hK _ _ (KpF.alloc (FrOwn.exl (hF.out.mono (Nat.le_trans HW1.out hkv.size)) l) V _) ⟨own_mono hJ.out (Nat.le_trans HW1.out hkv.size) |>.alloc _ hj, by rw [World.size_alloc]; omega, hkv.trans (KpF.alloc (FrOwn.exl (hF.out.mono (Nat.le_trans HW1.out hkv.size)) l) V _)⟩ ⟨_, rfl, heap_alloc_new _ _⟩
  case body1 =>
   rintro l2 ys ⟨xl, xh, xi⟩ a' V hl2 hpp ⟨hj, hlv, hkv⟩ ⟨sb, rfl, hsb⟩
   have hYx := hY.out ([] ++ ys) ⟨xl, xh, xi⟩ V (by rw [List.append_assoc]; rw [HP.out]; exact hpp.trans (List.prefix_append _ _)) hj
   obtain ⟨fn, tmps, assign, body, hy, hR⟩ := hYx
   have hyb := (hkv.kept _ _ HYX1.out.1 HYX1.out.2).2
   have cy := cell_of_row _ W.heap.size 0 _ _ _ hyb
   have cs0 := cell_of_row _ sb 0 _ _ _ hsb
   have cs1 := cell_of_row _ sb 1 _ _ _ hsb
   have HKV := hid hkv
   dsimp only [encP] at hy
   clear hyb hsb hkv hj
   gi_wp2_with fail
   refine (round_in hR).mono ?_
   rintro e V3 (⟨rfl, hJ3, hk3⟩ | ⟨rfl, hJx3, hk3⟩)
   ·clear hy hR cy cs0 cs1
    gi_wp2_with fail
    exact ⟨hk3, by rw [← List.append_assoc]; exact hJ3, Nat.lt_of_lt_of_le hlv hk3.size, HKV.out.trans hk3⟩
   ·clear hy hR cy cs0 cs1
    gi_wp2_with fail
    exact ⟨hk3, rfl, ⟨_, hJx3⟩⟩
  case done1 =>
   rintro D1 ys Y1 hD rfl ⟨hj, hlv, hkv⟩ hkw hfD hd
   have HA2 := hid (HAX1.out.kept hkv)
   have HY2 := hid (hkv.kept _ _ HYX1.out.1 HYX1.out.2)
   have HJ2 : Hid (J (parts f t lo mid) Y1) := hid hj
   have HL2 := hid hlv
   have HZ2 : Hid (W.heap.size ≤ Y1.heap.size) := hid (Nat.le_trans HW1.out hkv.size)
   have HK2 := hid (HKX1.out.trans hkv)
   have HD1 : Hid (exl l Fr D1 Y1 ∧ Y1.heap[D1]? = some (.deferred (some []))) := hid ⟨hfD, hd⟩
   have HDM := hid hD
   clear hj hlv hkv hkw hfD hd hD
   gi_wp2_with fail
   rw [roundsIn_succ]
   obtain ⟨V2, HV2⟩ : ∃ V, Hid (Y1.alloc (.cells #[.int .i64 (mid : Nat), .int .i64 (hi : Nat)] 119) = V) := ⟨_, hid rfl⟩
   have hk1 := KpF.alloc (hF.out.mono HZ2.out) Y1 (.cells #[.int .i64 (mid : Nat), .int .i64 (hi : Nat)] 119)
   have hr1 := heap_alloc_new Y1 (.cells #[.int .i64 (mid : Nat), .int .i64 (hi : Nat)] 119)
   have hj1 := hJ.out.alloc (.cells #[.int .i64 (mid : Nat), .int .i64 (hi : Nat)] 119) HJ2.out
   have HS2 : Hid (V2.heap.size = Y1.heap.size + 1) := hid (by rw [← HV2.out]; simp)
   rw [HV2.out] at hk1 hr1 hj1
   have hA1 := HA2.out.kept (hk1.exl l)
   have hY1 := (hk1.exl l).kept _ _ HY2.out.1 HY2.out.2
   obtain ⟨X2, HX2⟩ : ∃ V, Hid ((V2.alloc (.cells #[.int .i64 (f : Nat), .int .i64 (t : Nat)] 119)).alloc (.cells #[.int .i64 (mid : Nat), .int .i64 (hi : Nat)] 119) = V) := ⟨_, hid rfl⟩
   have hf1 : FrOwn V2.heap.size Fr := hF.out.mono (by have := HS2.out; have := HZ2.out; omega)
   have hk2 := (KpF.alloc hf1 V2 (.cells #[.int .i64 (f : Nat), .int .i64 (t : Nat)] 119)).trans (KpF.alloc hf1 (V2.alloc (.cells #[.int .i64 (f : Nat), .int .i64 (t : Nat)] 119)) (.cells #[.int .i64 (mid : Nat), .int .i64 (hi : Nat)] 119))
   have hfw := (KpF.alloc hf1 (V2.alloc (.cells #[.int .i64 (f : Nat), .int .i64 (t : Nat)] 119)) (.cells #[.int .i64 (mid : Nat), .int .i64 (hi : Nat)] 119)).kept _ _ (hfr.out _ _ (.cells #[.int .i64 (f : Nat), .int .i64 (t : Nat)] 119) hj1) (heap_alloc_new V2 (.cells #[.int .i64 (f : Nat), .int .i64 (t : Nat)] 119))
   have hjw := hJ.out.alloc (.cells #[.int .i64 (f : Nat), .int .i64 (t : Nat)] 119) hj1
   have hfc := hfr.out _ _ (.cells #[.int .i64 (mid : Nat), .int .i64 (hi : Nat)] 119) hjw
   have hrc := heap_alloc_new (V2.alloc (.cells #[.int .i64 (f : Nat), .int .i64 (t : Nat)] 119)) (.cells #[.int .i64 (mid : Nat), .int .i64 (hi : Nat)] 119)
   have hj2 := hJ.out.alloc (.cells #[.int .i64 (mid : Nat), .int .i64 (hi : Nat)] 119) hjw
   have HS22 : Hid (X2.heap.size = V2.heap.size + 2) := hid (by rw [← HX2.out]; simp)
   rw [World.size_alloc] at hfc hrc
   rw [HX2.out] at hk2 hfw hfc hrc hj2
   have HP2 : Hid (PtsAt (exl l Fr) f t mid hi V2.heap.size (V2.heap.size + 1) X2) := hid ⟨hfw.2, hrc, ⟨by have := HL2.out; have := HS2.out; omega, hfw.1⟩, ⟨by have := HL2.out; have := HS2.out; omega, hfc⟩⟩
   have HAX2 := hid (hA1.kept (hk2.exl l))
   have HYX2 := hid ((hk2.exl l).kept _ _ hY1.1 hY1.2)
   have hd1 := (hk1.exl l).kept _ _ HD1.out.1 HD1.out.2
   have HDX := hid ((hk2.exl l).kept _ _ hd1.1 hd1.2)
   have HDL : Hid (D1 < X2.heap.size) := hid (Array.getElem?_eq_some_iff.1 HDX.out.2).1
   clear hd1
   have HJX2 := hid hj2
   have HKX2 := hid (HK2.out.trans ((hk1.exl l).trans (hk2.exl l)))
   have cw0 := cell_of_row _ ba 0 _ _ _ hA1.a
   have cw1 := cell_of_row _ ba 1 _ _ _ hA1.a
   have cn0 := cell_of_row _ Y1.heap.size 0 _ _ _ hr1
   have cn1 := cell_of_row _ Y1.heap.size 1 _ _ _ hr1
   clear hk1 hr1 hj1 hA1 hY1 hk2 hfw hjw hfc hrc hj2 hf1
   gi_wp2_with (first | (rw [HV2.out]) | (refine ⟨trivial, ?_⟩; gi_at_call 77; refine (callsIn_wide.2 (parts_any f t mid hi _)).mono ?_; rintro e w' ⟨rfl, rfl⟩; rw [HX2.out]))
   clear cw0 cw1 cn0 cn1
   have HW2 : Hid (W.heap.size ≤ X2.heap.size) := hid (by have := HZ2.out; have := HS2.out; have := HS22.out; omega)
   refine rangeFunc_own (gf := 120) (lb := #[.pointer (some ⟨V2.heap.size, 0, none⟩), .pointer (some ⟨V2.heap.size + 1, 0, none⟩)]) rfl (enters_of Tryz.func120 (by kernel_rfl) rfl)
    (ih2 (by omega) (exl l Fr) _ _ _ HP2) (fun _ => rfl)
    (fun ys V => J ((parts f t lo mid) ++ ys) V ∧ l < V.heap.size ∧ KpF (exl l Fr) X2 V)
    (fun c ys V => c = .ret ∧ (∃ q, Jx q V) ∧ V.heap[D1]? = some (.deferred (some [])))
    (fun ys A B row hs hg hr => ⟨own_mono hJ.out HW2.out _ A B row hs.1 hg hr, Nat.lt_of_lt_of_le hs.2.1 hg.size, KpF.own (FrOwn.exl (hF.out.mono HW2.out) l) X2 (Nat.le_refl _) ys A B row hs.2.2 hg hr⟩)
    (fun c ys A B row hs hg hr => ⟨hs.1, by obtain ⟨q, hq⟩ := hs.2.1; exact ⟨q, own_mono hJx.out HW2.out _ A B row hq hg hr⟩, (hg.block _ (Array.getElem?_eq_some_iff.1 hs.2.2).1 (fun e => by have h8 := (hr _ e.symm).1; have h9 := HDL.out; omega)).trans hs.2.2⟩)
    (FrOwn.exl (hF.out.mono HW2.out) l) (fun ys V o hs => ⟨by have := hs.2.1; omega, hfr.out _ V o hs.1⟩)
    ⟨by rw [List.append_nil]; exact HJX2.out, by have := HL2.out; have := HS2.out; have := HS22.out; omega, KpF.refl _ _⟩
    (fun x a' V => ∃ sb, a' = { tmps := #[.func (.yield l) #[] #[], .pointer (some ⟨ba, 0, none⟩), .pointer (some ⟨bb, 0, none⟩), .pointer (some ⟨W.heap.size, 0, none⟩), .bool false, .int .i64 (mid : Nat), undef, .pointer (some ⟨Y1.heap.size, 0, none⟩), .pointer (some ⟨sb, 0, none⟩), .bool x.ins, .pointer (some ⟨ba, 0, none⟩), .int .i64 (f : Nat), .pointer (some ⟨bb, 0, none⟩), .int .i64 (lo : Nat), .bool true, .bool true, .pointer (some ⟨bb, 1, none⟩), .int .i64 (hi : Nat), .pointer (some ⟨ba, 1, none⟩), .int .i64 (t : Nat), .bool false, .bool false, .bool false, .bool false, .pointer (some ⟨bb, 1, none⟩), .int .i64 (hi : Nat), .pointer (some ⟨ba, 0, none⟩), .int .i64 (f : Nat), .bool false, .bool false, .bool false, .pointer (some ⟨ba, 1, none⟩), .int .i64 (t : Nat), .pointer (some ⟨bb, 0, none⟩), .int .i64 (lo : Nat), .bool false, .bool false, undef, undef, undef, undef, .pointer (some ⟨bb, 0, none⟩), .int .i64 (lo : Nat), .pointer (some ⟨bb, 1, none⟩), .int .i64 (hi : Nat), .int .i64 (mid : Nat), .pointer (some ⟨bb, 0, none⟩), .int .i64 (lo : Nat), .int .i64 (mid : Nat), .agg #[.int .i64 (lo : Nat), .int .i64 (mid : Nat)], .int .i64 (mid : Nat), .pointer (some ⟨bb, 1, none⟩), .int .i64 (hi : Nat), .agg #[.int .i64 (mid : Nat), .int .i64 (hi : Nat)], .agg #[.int .i64 (lo : Nat), .int .i64 (mid : Nat), .int .i64 (mid : Nat), .int .i64 (hi : Nat)], .int .i64 1, .bool true, .agg #[.int .i64 (mid : Nat), .int .i64 (hi : Nat)], .agg #[.int .i64 (f : Nat), .int .i64 (t : Nat)], .agg #[.int .i64 (mid : Nat), .int .i64 (hi : Nat)], .func (.func 120) #[] #[.pointer (some ⟨V2.heap.size, 0, none⟩), .pointer (some ⟨V2.heap.size + 1, 0, none⟩)], .agg #[.int .i64 (x.lo : Nat), .int .i64 (x.hi : Nat)], .bool x.ins, undef, undef, undef, undef, undef, .int .i64 1], defers := [] } ∧ V.heap[sb]? = some (.cells #[.int .i64 (x.lo : Nat), .int .i64 (x.hi : Nat)] 119 (0, 0)))
    (fun x a' s A B row hs hg hr => by
     obtain ⟨sb, e, hh⟩ := hs
     refine ⟨sb, e, (hg.block _ (Array.getElem?_eq_some_iff.1 hh).1 (fun e => ?_)).trans hh⟩
     obtain ⟨o, ho, hn⟩ := (hr sb e.symm).2
     rw [ho] at hh; cases hh; cases hn)
    ?assign2 ?body2 ?done2 ?stop2
   case assign2 =>
    rintro l2 ys ⟨xl, xh, xi⟩ V K ⟨hj, hlv, hkv⟩ hK
    simp only [encP]
    gi_wp2_with fail
    refine hK _ _ (KpF.alloc (FrOwn.exl (hF.out.mono (Nat.le_trans HW2.out hkv.size)) l) V _) ⟨own_mono hJ.out (Nat.le_trans HW2.out hkv.size) |>.alloc _ hj, by rw [World.size_alloc]; omega, hkv.trans (KpF.alloc (FrOwn.exl (hF.out.mono (Nat.le_trans HW2.out hkv.size)) l) V _)⟩ ⟨_, rfl, heap_alloc_new _ _⟩
   case body2 =>
    rintro l2 ys ⟨xl, xh, xi⟩ a' V hl2 hpp ⟨hj, hlv, hkv⟩ ⟨sb, rfl, hsb⟩
    have hYx := hY.out ((parts f t lo mid) ++ ys) ⟨xl, xh, xi⟩ V (by rw [List.append_assoc]; rw [HP.out]; exact List.prefix_append_right_inj (parts f t lo mid) |>.2 hpp) hj
    obtain ⟨fn, tmps, assign, body, hy, hR⟩ := hYx
    have hyb := (hkv.kept _ _ HYX2.out.1 HYX2.out.2).2
    have cy := cell_of_row _ W.heap.size 0 _ _ _ hyb
    have cs0 := cell_of_row _ sb 0 _ _ _ hsb
    have cs1 := cell_of_row _ sb 1 _ _ _ hsb
    have HKV := hid hkv
    dsimp only [encP] at hy
    clear hyb hsb hkv hj
    gi_wp2_with fail
    refine (round_in hR).mono ?_
    rintro e V3 (⟨rfl, hJ3, hk3⟩ | ⟨rfl, hJx3, hk3⟩)
    ·clear hy hR cy cs0 cs1
     gi_wp2_with fail
     exact ⟨hk3, by rw [← List.append_assoc]; exact hJ3, Nat.lt_of_lt_of_le hlv hk3.size, HKV.out.trans hk3⟩
    ·clear hy hR cy cs0 cs1
     gi_wp2_with fail
     exact ⟨hk3, rfl, ⟨_, hJx3⟩, (hk3.kept _ _ (HKV.out.kept _ _ HDX.out.1 HDX.out.2).1 (HKV.out.kept _ _ HDX.out.1 HDX.out.2).2).2⟩
   case done2 =>
    rintro D2 ys Y2 hD rfl ⟨hj, hlv, hkv⟩ hkw hfD hd
    gi_wp2_with fail
    rw [roundsIn_succ]
    gi_wp2_with fail
    have hd1 := (hkv.kept _ _ HDX.out.1 HDX.out.2).2
    have hd1' : (Y2.putObj D2 (.deferred none)).heap[D1]? = some (.deferred (some [])) := (World.putObj_heap_other (by have := HDL.out; omega)).trans hd1
    have hD2 := Nat.le_trans HW2.out hD
    have hD1 := Nat.le_trans HW1.out HDM.out
    have hkf := HKX2.out.trans hkv
    have hko := KpF.own (FrOwn.exl hF.out l) W (Nat.le_refl _) (β := Unit)
    refine ⟨by simp, .inl ⟨_, _, rfl, run_takeDeferred hd, ?_⟩⟩
    refine ⟨by simp, .inl ⟨_, _, rfl, run_takeDeferred hd1', ?_⟩⟩
    exact ⟨_, results_none rfl _ _ _, ⟨_, rfl⟩, .inl ⟨_, HP.out.symm, hJ.out.putObj _ (hJ.out.putObj _ hj hD2 hd rfl) hD1 hd1' rfl, hko.putObj (s := ()) _ (hko.putObj (s := ()) _ hkf hD2 hd rfl) hD1 hd1' rfl⟩⟩
   case stop2 =>
    rintro D2 c pre' V hD hs ⟨rfl, ⟨q, hq⟩, hd1⟩ hfD hd
    have HJQ := hid (own_mono hJx.out HW2.out)
    gi_wp2_with fail
    refine ⟨by simp, .inl ⟨_, _, rfl, run_takeDeferred hd, ?_⟩⟩
    have hd1' : (V.putObj D2 (.deferred none)).heap[D1]? = some (.deferred (some [])) := (World.putObj_heap_other (by have := HDL.out; omega)).trans hd1
    refine ⟨by simp, .inl ⟨_, _, rfl, run_takeDeferred hd1', ?_⟩⟩
    exact ⟨_, results_none rfl _ _ _, ⟨_, rfl⟩, .inr ⟨_, trivial, hJx.out.putObj _ (HJQ.out.putObj _ hq hD hd rfl) (Nat.le_trans HW1.out HDM.out) hd1' rfl⟩⟩
  case stop1 =>
   rintro D1 c pre' V hD hs ⟨rfl, q, hq⟩ hfD hd
   have HJQ := hid (own_mono hJx.out HW1.out)
   gi_wp2_with fail
   refine ⟨by simp, .inl ⟨_, _, rfl, run_takeDeferred hd, ?_⟩⟩
   exact ⟨_, results_none rfl _ _ _, ⟨_, rfl⟩, .inr ⟨_, trivial, HJQ.out.putObj _ hq hD hd rfl⟩⟩
 ·have d0 : decide (f ≤ lo) = false := dQ q0
  have d2 : decide (hi ≤ f) = false := dQ q2
  have d3 : decide (t ≤ lo) = false := dQ q3
  gi_wp2_with (first | (refine ⟨trivial, ?_⟩; gi_at_call 84; refine (callsIn_wide.2 (middle_any lo hi _ HMM.out (by omega))).mono ?_; rintro e w' ⟨rfl, rfl⟩; rw [hm.out]) | (rw [HW1.out]))
  refine wpIn_loop_rounds 3 ?_
  rw [roundsIn_succ]
  have hx0 := spi0
  have hx1 := spi1
  have hF := hid hF
  have hJ := hid hJ
  have hJx := hid hJx
  have hfr := hid hfr
  have hY := hid hY
  have hl := hid hl
  have HA1 : Hid (PtsAt (exl l Fr) f t lo hi ba bb W1) := hid ⟨HA.out.a, HA.out.b, ⟨hne _ (Array.getElem?_eq_some_iff.1 h.out.a).1, HA.out.fa⟩, ⟨hne _ (Array.getElem?_eq_some_iff.1 h.out.b).1, HA.out.fb⟩⟩
  have HY1 : Hid (exl l Fr W.heap.size W1 ∧ W1.heap[W.heap.size]? = some (.cells #[.func (.yield l) #[] #[]] 161 (0, 0))) := hid ⟨⟨by have := hl.out; omega, hfa⟩, hya⟩
  have HJ1 : Hid (J [] W1) := hid hja
  have HL1 : Hid (l < W1.heap.size) := hid (by have := HS1.out; have := hl.out; omega)
  have HZ1 : Hid (W.heap.size ≤ W1.heap.size) := hid (by have := HS1.out; omega)
  have HK1 : Hid (KpF (exl l Fr) W W1) := hid (hka.exl l)
  clear hka hya hja hfa ca0 ca1 cb0 cb1 HA hk hW hne h0
  obtain ⟨V1, HV1⟩ : ∃ V, Hid (W1.alloc (.cells #[.int .i64 (lo : Nat), .int .i64 (mid : Nat)] 119) = V) := ⟨_, hid rfl⟩
  have hk1 := KpF.alloc (hF.out.mono HZ1.out) W1 (.cells #[.int .i64 (lo : Nat), .int .i64 (mid : Nat)] 119)
  have hr1 := heap_alloc_new W1 (.cells #[.int .i64 (lo : Nat), .int .i64 (mid : Nat)] 119)
  have hj1 := hJ.out.alloc (.cells #[.int .i64 (lo : Nat), .int .i64 (mid : Nat)] 119) HJ1.out
  have HS1 : Hid (V1.heap.size = W1.heap.size + 1) := hid (by rw [← HV1.out]; simp)
  rw [HV1.out] at hk1 hr1 hj1
  have hA1 := HA1.out.kept (hk1.exl l)
  have hY1 := (hk1.exl l).kept _ _ HY1.out.1 HY1.out.2
  obtain ⟨X1, HX1⟩ : ∃ V, Hid ((V1.alloc (.cells #[.int .i64 (f : Nat), .int .i64 (t : Nat)] 119)).alloc (.cells #[.int .i64 (lo : Nat), .int .i64 (mid : Nat)] 119) = V) := ⟨_, hid rfl⟩
  have hf1 : FrOwn V1.heap.size Fr := hF.out.mono (by have := HS1.out; have := HZ1.out; omega)
  have hk2 := (KpF.alloc hf1 V1 (.cells #[.int .i64 (f : Nat), .int .i64 (t : Nat)] 119)).trans (KpF.alloc hf1 (V1.alloc (.cells #[.int .i64 (f : Nat), .int .i64 (t : Nat)] 119)) (.cells #[.int .i64 (lo : Nat), .int .i64 (mid : Nat)] 119))
  have hfw := (KpF.alloc hf1 (V1.alloc (.cells #[.int .i64 (f : Nat), .int .i64 (t : Nat)] 119)) (.cells #[.int .i64 (lo : Nat), .int .i64 (mid : Nat)] 119)).kept _ _ (hfr.out _ _ (.cells #[.int .i64 (f : Nat), .int .i64 (t : Nat)] 119) hj1) (heap_alloc_new V1 (.cells #[.int .i64 (f : Nat), .int .i64 (t : Nat)] 119))
  have hjw := hJ.out.alloc (.cells #[.int .i64 (f : Nat), .int .i64 (t : Nat)] 119) hj1
  have hfc := hfr.out _ _ (.cells #[.int .i64 (lo : Nat), .int .i64 (mid : Nat)] 119) hjw
  have hrc := heap_alloc_new (V1.alloc (.cells #[.int .i64 (f : Nat), .int .i64 (t : Nat)] 119)) (.cells #[.int .i64 (lo : Nat), .int .i64 (mid : Nat)] 119)
  have hj2 := hJ.out.alloc (.cells #[.int .i64 (lo : Nat), .int .i64 (mid : Nat)] 119) hjw
  have HS21 : Hid (X1.heap.size = V1.heap.size + 2) := hid (by rw [← HX1.out]; simp)
  rw [World.size_alloc] at hfc hrc
  rw [HX1.out] at hk2 hfw hfc hrc hj2
  have HP1 : Hid (PtsAt (exl l Fr) f t lo mid V1.heap.size (V1.heap.size + 1) X1) := hid ⟨hfw.2, hrc, ⟨by have := HL1.out; have := HS1.out; omega, hfw.1⟩, ⟨by have := HL1.out; have := HS1.out; omega, hfc⟩⟩
  have HAX1 := hid (hA1.kept (hk2.exl l))
  have HYX1 := hid ((hk2.exl l).kept _ _ hY1.1 hY1.2)
  have HJX1 := hid hj2
  have HKX1 := hid (HK1.out.trans ((hk1.exl l).trans (hk2.exl l)))
  have cw0 := cell_of_row _ ba 0 _ _ _ hA1.a
  have cw1 := cell_of_row _ ba 1 _ _ _ hA1.a
  have cn0 := cell_of_row _ W1.heap.size 0 _ _ _ hr1
  have cn1 := cell_of_row _ W1.heap.size 1 _ _ _ hr1
  clear hk1 hr1 hj1 hA1 hY1 hk2 hfw hjw hfc hrc hj2 hf1
  gi_wp2_with (first | (rw [HV1.out]) | (refine ⟨trivial, ?_⟩; gi_at_call 77; refine (callsIn_wide.2 (parts_any f t lo mid _)).mono ?_; rintro e w' ⟨rfl, rfl⟩; rw [HX1.out]))
  clear cw0 cw1 cn0 cn1
  have HW1 : Hid (W.heap.size ≤ X1.heap.size) := hid (by have := HZ1.out; have := HS1.out; have := HS21.out; omega)
  refine rangeFunc_own (gf := 120) (lb := #[.pointer (some ⟨V1.heap.size, 0, none⟩), .pointer (some ⟨V1.heap.size + 1, 0, none⟩)]) rfl (enters_of Tryz.func120 (by kernel_rfl) rfl)
   (ih1 (by omega) (exl l Fr) _ _ _ HP1) (fun _ => rfl)
   (fun ys V => J ([] ++ ys) V ∧ l < V.heap.size ∧ KpF (exl l Fr) X1 V)
   (fun c ys V => c = .ret ∧ (∃ q, Jx q V))
   (fun ys A B row hs hg hr => ⟨own_mono hJ.out HW1.out _ A B row hs.1 hg hr, Nat.lt_of_lt_of_le hs.2.1 hg.size, KpF.own (FrOwn.exl (hF.out.mono HW1.out) l) X1 (Nat.le_refl _) ys A B row hs.2.2 hg hr⟩)
   (fun c ys A B row hs hg hr => ⟨hs.1, by obtain ⟨q, hq⟩ := hs.2; exact ⟨q, own_mono hJx.out HW1.out _ A B row hq hg hr⟩⟩)
   (FrOwn.exl (hF.out.mono HW1.out) l) (fun ys V o hs => ⟨by have := hs.2.1; omega, hfr.out _ V o hs.1⟩)
   ⟨by rw [List.append_nil]; exact HJX1.out, by have := HL1.out; have := HS1.out; have := HS21.out; omega, KpF.refl _ _⟩
   (fun x a' V => ∃ sb, a' = { tmps := #[.func (.yield l) #[] #[], .pointer (some ⟨ba, 0, none⟩), .pointer (some ⟨bb, 0, none⟩), .pointer (some ⟨W.heap.size, 0, none⟩), .bool false, .int .i64 (mid : Nat), undef, .pointer (some ⟨W1.heap.size, 0, none⟩), .pointer (some ⟨sb, 0, none⟩), .bool x.ins, .pointer (some ⟨ba, 0, none⟩), .int .i64 (f : Nat), .pointer (some ⟨bb, 0, none⟩), .int .i64 (lo : Nat), .bool false, .bool false, undef, undef, undef, undef, undef, .bool false, .bool false, .bool false, .pointer (some ⟨bb, 1, none⟩), .int .i64 (hi : Nat), .pointer (some ⟨ba, 0, none⟩), .int .i64 (f : Nat), .bool false, .bool false, .bool false, .pointer (some ⟨ba, 1, none⟩), .int .i64 (t : Nat), .pointer (some ⟨bb, 0, none⟩), .int .i64 (lo : Nat), .bool false, .bool false, undef, undef, undef, undef, .pointer (some ⟨bb, 0, none⟩), .int .i64 (lo : Nat), .pointer (some ⟨bb, 1, none⟩), .int .i64 (hi : Nat), .int .i64 (mid : Nat), .pointer (some ⟨bb, 0, none⟩), .int .i64 (lo : Nat), .int .i64 (mid : Nat), .agg #[.int .i64 (lo : Nat), .int .i64 (mid : Nat)], .int .i64 (mid : Nat), .pointer (some ⟨bb, 1, none⟩), .int .i64 (hi : Nat), .agg #[.int .i64 (mid : Nat), .int .i64 (hi : Nat)], .agg #[.int .i64 (lo : Nat), .int .i64 (mid : Nat), .int .i64 (mid : Nat), .int .i64 (hi : Nat)], .int .i64 0, .bool true, .agg #[.int .i64 (lo : Nat), .int .i64 (mid : Nat)], .agg #[.int .i64 (f : Nat), .int .i64 (t : Nat)], .agg #[.int .i64 (lo : Nat), .int .i64 (mid : Nat)], .func (.func 120) #[] #[.pointer (some ⟨V1.heap.size, 0, none⟩), .pointer (some ⟨V1.heap.size + 1, 0, none⟩)], .agg #[.int .i64 (x.lo : Nat), .int .i64 (x.hi : Nat)], .bool x.ins, undef, undef, undef, undef, undef, undef], defers := [] } ∧ V.heap[sb]? = some (.cells #[.int .i64 (x.lo : Nat), .int .i64 (x.hi : Nat)] 119 (0, 0)))
   (fun x a' s A B row hs hg hr => by
    obtain ⟨sb, e, hh⟩ := hs
    refine ⟨sb, e, (hg.block _ (Array.getElem?_eq_some_iff.1 hh).1 (fun e => ?_)).trans hh⟩
    obtain ⟨o, ho, hn⟩ := (hr sb e.symm).2
    rw [ho] at hh; cases hh; cases hn)
   ?assign1 ?body1 ?done1 ?stop1
  case assign1 =>
   rintro l2 ys ⟨xl, xh, xi⟩ V K ⟨hj, hlv, hkv⟩ hK
   simp only [encP]
   gi_wp2_with fail
   refine hK _ _ (KpF.alloc (FrOwn.exl (hF.out.mono (Nat.le_trans HW1.out hkv.size)) l) V _) ⟨own_mono hJ.out (Nat.le_trans HW1.out hkv.size) |>.alloc _ hj, by rw [World.size_alloc]; omega, hkv.trans (KpF.alloc (FrOwn.exl (hF.out.mono (Nat.le_trans HW1.out hkv.size)) l) V _)⟩ ⟨_, rfl, heap_alloc_new _ _⟩
  case body1 =>
   rintro l2 ys ⟨xl, xh, xi⟩ a' V hl2 hpp ⟨hj, hlv, hkv⟩ ⟨sb, rfl, hsb⟩
   have hYx := hY.out ([] ++ ys) ⟨xl, xh, xi⟩ V (by rw [List.append_assoc]; rw [HP.out]; exact hpp.trans (List.prefix_append _ _)) hj
   obtain ⟨fn, tmps, assign, body, hy, hR⟩ := hYx
   have hyb := (hkv.kept _ _ HYX1.out.1 HYX1.out.2).2
   have cy := cell_of_row _ W.heap.size 0 _ _ _ hyb
   have cs0 := cell_of_row _ sb 0 _ _ _ hsb
   have cs1 := cell_of_row _ sb 1 _ _ _ hsb
   have HKV := hid hkv
   dsimp only [encP] at hy
   clear hyb hsb hkv hj
   gi_wp2_with fail
   refine (round_in hR).mono ?_
   rintro e V3 (⟨rfl, hJ3, hk3⟩ | ⟨rfl, hJx3, hk3⟩)
   ·clear hy hR cy cs0 cs1
    gi_wp2_with fail
    exact ⟨hk3, by rw [← List.append_assoc]; exact hJ3, Nat.lt_of_lt_of_le hlv hk3.size, HKV.out.trans hk3⟩
   ·clear hy hR cy cs0 cs1
    gi_wp2_with fail
    exact ⟨hk3, rfl, ⟨_, hJx3⟩⟩
  case done1 =>
   rintro D1 ys Y1 hD rfl ⟨hj, hlv, hkv⟩ hkw hfD hd
   have HA2 := hid (HAX1.out.kept hkv)
   have HY2 := hid (hkv.kept _ _ HYX1.out.1 HYX1.out.2)
   have HJ2 : Hid (J (parts f t lo mid) Y1) := hid hj
   have HL2 := hid hlv
   have HZ2 : Hid (W.heap.size ≤ Y1.heap.size) := hid (Nat.le_trans HW1.out hkv.size)
   have HK2 := hid (HKX1.out.trans hkv)
   have HD1 : Hid (exl l Fr D1 Y1 ∧ Y1.heap[D1]? = some (.deferred (some []))) := hid ⟨hfD, hd⟩
   have HDM := hid hD
   clear hj hlv hkv hkw hfD hd hD
   gi_wp2_with fail
   rw [roundsIn_succ]
   obtain ⟨V2, HV2⟩ : ∃ V, Hid (Y1.alloc (.cells #[.int .i64 (mid : Nat), .int .i64 (hi : Nat)] 119) = V) := ⟨_, hid rfl⟩
   have hk1 := KpF.alloc (hF.out.mono HZ2.out) Y1 (.cells #[.int .i64 (mid : Nat), .int .i64 (hi : Nat)] 119)
   have hr1 := heap_alloc_new Y1 (.cells #[.int .i64 (mid : Nat), .int .i64 (hi : Nat)] 119)
   have hj1 := hJ.out.alloc (.cells #[.int .i64 (mid : Nat), .int .i64 (hi : Nat)] 119) HJ2.out
   have HS2 : Hid (V2.heap.size = Y1.heap.size + 1) := hid (by rw [← HV2.out]; simp)
   rw [HV2.out] at hk1 hr1 hj1
   have hA1 := HA2.out.kept (hk1.exl l)
   have hY1 := (hk1.exl l).kept _ _ HY2.out.1 HY2.out.2
   obtain ⟨X2, HX2⟩ : ∃ V, Hid ((V2.alloc (.cells #[.int .i64 (f : Nat), .int .i64 (t : Nat)] 119)).alloc (.cells #[.int .i64 (mid : Nat), .int .i64 (hi : Nat)] 119) = V) := ⟨_, hid rfl⟩
   have hf1 : FrOwn V2.heap.size Fr := hF.out.mono (by have := HS2.out; have := HZ2.out; omega)
   have hk2 := (KpF.alloc hf1 V2 (.cells #[.int .i64 (f : Nat), .int .i64 (t : Nat)] 119)).trans (KpF.alloc hf1 (V2.alloc (.cells #[.int .i64 (f : Nat), .int .i64 (t : Nat)] 119)) (.cells #[.int .i64 (mid : Nat), .int .i64 (hi : Nat)] 119))
   have hfw := (KpF.alloc hf1 (V2.alloc (.cells #[.int .i64 (f : Nat), .int .i64 (t : Nat)] 119)) (.cells #[.int .i64 (mid : Nat), .int .i64 (hi : Nat)] 119)).kept _ _ (hfr.out _ _ (.cells #[.int .i64 (f : Nat), .int .i64 (t : Nat)] 119) hj1) (heap_alloc_new V2 (.cells #[.int .i64 (f : Nat), .int .i64 (t : Nat)] 119))
   have hjw := hJ.out.alloc (.cells #[.int .i64 (f : Nat), .int .i64 (t : Nat)] 119) hj1
   have hfc := hfr.out _ _ (.cells #[.int .i64 (mid : Nat), .int .i64 (hi : Nat)] 119) hjw
   have hrc := heap_alloc_new (V2.alloc (.cells #[.int .i64 (f : Nat), .int .i64 (t : Nat)] 119)) (.cells #[.int .i64 (mid : Nat), .int .i64 (hi : Nat)] 119)
   have hj2 := hJ.out.alloc (.cells #[.int .i64 (mid : Nat), .int .i64 (hi : Nat)] 119) hjw
   have HS22 : Hid (X2.heap.size = V2.heap.size + 2) := hid (by rw [← HX2.out]; simp)
   rw [World.size_alloc] at hfc hrc
   rw [HX2.out] at hk2 hfw hfc hrc hj2
   have HP2 : Hid (PtsAt (exl l Fr) f t mid hi V2.heap.size (V2.heap.size + 1) X2) := hid ⟨hfw.2, hrc, ⟨by have := HL2.out; have := HS2.out; omega, hfw.1⟩, ⟨by have := HL2.out; have := HS2.out; omega, hfc⟩⟩
   have HAX2 := hid (hA1.kept (hk2.exl l))
   have HYX2 := hid ((hk2.exl l).kept _ _ hY1.1 hY1.2)
   have hd1 := (hk1.exl l).kept _ _ HD1.out.1 HD1.out.2
   have HDX := hid ((hk2.exl l).kept _ _ hd1.1 hd1.2)
   have HDL : Hid (D1 < X2.heap.size) := hid (Array.getElem?_eq_some_iff.1 HDX.out.2).1
   clear hd1
   have HJX2 := hid hj2
   have HKX2 := hid (HK2.out.trans ((hk1.exl l).trans (hk2.exl l)))
   have cw0 := cell_of_row _ ba 0 _ _ _ hA1.a
   have cw1 := cell_of_row _ ba 1 _ _ _ hA1.a
   have cn0 := cell_of_row _ Y1.heap.size 0 _ _ _ hr1
   have cn1 := cell_of_row _ Y1.heap.size 1 _ _ _ hr1
   clear hk1 hr1 hj1 hA1 hY1 hk2 hfw hjw hfc hrc hj2 hf1
   gi_wp2_with (first | (rw [HV2.out]) | (refine ⟨trivial, ?_⟩; gi_at_call 77; refine (callsIn_wide.2 (parts_any f t mid hi _)).mono ?_; rintro e w' ⟨rfl, rfl⟩; rw [HX2.out]))
   clear cw0 cw1 cn0 cn1
   have HW2 : Hid (W.heap.size ≤ X2.heap.size) := hid (by have := HZ2.out; have := HS2.out; have := HS22.out; omega)
   refine rangeFunc_own (gf := 120) (lb := #[.pointer (some ⟨V2.heap.size, 0, none⟩), .pointer (some ⟨V2.heap.size + 1, 0, none⟩)]) rfl (enters_of Tryz.func120 (by kernel_rfl) rfl)
    (ih2 (by omega) (exl l Fr) _ _ _ HP2) (fun _ => rfl)
    (fun ys V => J ((parts f t lo mid) ++ ys) V ∧ l < V.heap.size ∧ KpF (exl l Fr) X2 V)
    (fun c ys V => c = .ret ∧ (∃ q, Jx q V) ∧ V.heap[D1]? = some (.deferred (some [])))
    (fun ys A B row hs hg hr => ⟨own_mono hJ.out HW2.out _ A B row hs.1 hg hr, Nat.lt_of_lt_of_le hs.2.1 hg.size, KpF.own (FrOwn.exl (hF.out.mono HW2.out) l) X2 (Nat.le_refl _) ys A B row hs.2.2 hg hr⟩)
    (fun c ys A B row hs hg hr => ⟨hs.1, by obtain ⟨q, hq⟩ := hs.2.1; exact ⟨q, own_mono hJx.out HW2.out _ A B row hq hg hr⟩, (hg.block _ (Array.getElem?_eq_some_iff.1 hs.2.2).1 (fun e => by have h8 := (hr _ e.symm).1; have h9 := HDL.out; omega)).trans hs.2.2⟩)
    (FrOwn.exl (hF.out.mono HW2.out) l) (fun ys V o hs => ⟨by have := hs.2.1; omega, hfr.out _ V o hs.1⟩)
    ⟨by rw [List.append_nil]; exact HJX2.out, by have := HL2.out; have := HS2.out; have := HS22.out; omega, KpF.refl _ _⟩
    (fun x a' V => ∃ sb, a' = { tmps := #[.func (.yield l) #[] #[], .pointer (some ⟨ba, 0, none⟩), .pointer (some ⟨bb, 0, none⟩), .pointer (some ⟨W.heap.size, 0, none⟩), .bool false, .int .i64 (mid : Nat), undef, .pointer (some ⟨Y1.heap.size, 0, none⟩), .pointer (some ⟨sb, 0, none⟩), .bool x.ins, .pointer (some ⟨ba, 0, none⟩), .int .i64 (f : Nat), .pointer (some ⟨bb, 0, none⟩), .int .i64 (lo : Nat), .bool false, .bool false, undef, undef, undef, undef, undef, .bool false, .bool false, .bool false, .pointer (some ⟨bb, 1, none⟩), .int .i64 (hi : Nat), .pointer (some ⟨ba, 0, none⟩), .int .i64 (f : Nat), .bool false, .bool false, .bool false, .pointer (some ⟨ba, 1, none⟩), .int .i64 (t : Nat), .pointer (some ⟨bb, 0, none⟩), .int .i64 (lo : Nat), .bool false, .bool false, undef, undef, undef, undef, .pointer (some ⟨bb, 0, none⟩), .int .i64 (lo : Nat), .pointer (some ⟨bb, 1, none⟩), .int .i64 (hi : Nat), .int .i64 (mid : Nat), .pointer (some ⟨bb, 0, none⟩), .int .i64 (lo : Nat), .int .i64 (mid : Nat), .agg #[.int .i64 (lo : Nat), .int .i64 (mid : Nat)], .int .i64 (mid : Nat), .pointer (some ⟨bb, 1, none⟩), .int .i64 (hi : Nat), .agg #[.int .i64 (mid : Nat), .int .i64 (hi : Nat)], .agg #[.int .i64 (lo : Nat), .int .i64 (mid : Nat), .int .i64 (mid : Nat), .int .i64 (hi : Nat)], .int .i64 1, .bool true, .agg #[.int .i64 (mid : Nat), .int .i64 (hi : Nat)], .agg #[.int .i64 (f : Nat), .int .i64 (t : Nat)], .agg #[.int .i64 (mid : Nat), .int .i64 (hi : Nat)], .func (.func 120) #[] #[.pointer (some ⟨V2.heap.size, 0, none⟩), .pointer (some ⟨V2.heap.size + 1, 0, none⟩)], .agg #[.int .i64 (x.lo : Nat), .int .i64 (x.hi : Nat)], .bool x.ins, undef, undef, undef, undef, undef, .int .i64 1], defers := [] } ∧ V.heap[sb]? = some (.cells #[.int .i64 (x.lo : Nat), .int .i64 (x.hi : Nat)] 119 (0, 0)))
    (fun x a' s A B row hs hg hr => by
     obtain ⟨sb, e, hh⟩ := hs
     refine ⟨sb, e, (hg.block _ (Array.getElem?_eq_some_iff.1 hh).1 (fun e => ?_)).trans hh⟩
     obtain ⟨o, ho, hn⟩ := (hr sb e.symm).2
     rw [ho] at hh; cases hh; cases hn)
    ?assign2 ?body2 ?done2 ?stop2
   case assign2 =>
    rintro l2 ys ⟨xl, xh, xi⟩ V K ⟨hj, hlv, hkv⟩ hK
    simp only [encP]
    gi_wp2_with fail
    refine hK _ _ (KpF.alloc (FrOwn.exl (hF.out.mono (Nat.le_trans HW2.out hkv.size)) l) V _) ⟨own_mono hJ.out (Nat.le_trans HW2.out hkv.size) |>.alloc _ hj, by rw [World.size_alloc]; omega, hkv.trans (KpF.alloc (FrOwn.exl (hF.out.mono (Nat.le_trans HW2.out hkv.size)) l) V _)⟩ ⟨_, rfl, heap_alloc_new _ _⟩
   case body2 =>
    rintro l2 ys ⟨xl, xh, xi⟩ a' V hl2 hpp ⟨hj, hlv, hkv⟩ ⟨sb, rfl, hsb⟩
    have hYx := hY.out ((parts f t lo mid) ++ ys) ⟨xl, xh, xi⟩ V (by rw [List.append_assoc]; rw [HP.out]; exact List.prefix_append_right_inj (parts f t lo mid) |>.2 hpp) hj
    obtain ⟨fn, tmps, assign, body, hy, hR⟩ := hYx
    have hyb := (hkv.kept _ _ HYX2.out.1 HYX2.out.2).2
    have cy := cell_of_row _ W.heap.size 0 _ _ _ hyb
    have cs0 := cell_of_row _ sb 0 _ _ _ hsb
    have cs1 := cell_of_row _ sb 1 _ _ _ hsb
    have HKV := hid hkv
    dsimp only [encP] at hy
    clear hyb hsb hkv hj
    gi_wp2_with fail
    refine (round_in hR).mono ?_
    rintro e V3 (⟨rfl, hJ3, hk3⟩ | ⟨rfl, hJx3, hk3⟩)
    ·clear hy hR cy cs0 cs1
     gi_wp2_with fail
     exact ⟨hk3, by rw [← List.append_assoc]; exact hJ3, Nat.lt_of_lt_of_le hlv hk3.size, HKV.out.trans hk3⟩
    ·clear hy hR cy cs0 cs1
     gi_wp2_with fail
     exact ⟨hk3, rfl, ⟨_, hJx3⟩, (hk3.kept _ _ (HKV.out.kept _ _ HDX.out.1 HDX.out.2).1 (HKV.out.kept _ _ HDX.out.1 HDX.out.2).2).2⟩
   case done2 =>
    rintro D2 ys Y2 hD rfl ⟨hj, hlv, hkv⟩ hkw hfD hd
    gi_wp2_with fail
    rw [roundsIn_succ]
    gi_wp2_with fail
    have hd1 := (hkv.kept _ _ HDX.out.1 HDX.out.2).2
    have hd1' : (Y2.putObj D2 (.deferred none)).heap[D1]? = some (.deferred (some [])) := (World.putObj_heap_other (by have := HDL.out; omega)).trans hd1
    have hD2 := Nat.le_trans HW2.out hD
    have hD1 := Nat.le_trans HW1.out HDM.out
    have hkf := HKX2.out.trans hkv
    have hko := KpF.own (FrOwn.exl hF.out l) W (Nat.le_refl _) (β := Unit)
    refine ⟨by simp, .inl ⟨_, _, rfl, run_takeDeferred hd, ?_⟩⟩
    refine ⟨by simp, .inl ⟨_, _, rfl, run_takeDeferred hd1', ?_⟩⟩
    exact ⟨_, results_none rfl _ _ _, ⟨_, rfl⟩, .inl ⟨_, HP.out.symm, hJ.out.putObj _ (hJ.out.putObj _ hj hD2 hd rfl) hD1 hd1' rfl, hko.putObj (s := ()) _ (hko.putObj (s := ()) _ hkf hD2 hd rfl) hD1 hd1' rfl⟩⟩
   case stop2 =>
    rintro D2 c pre' V hD hs ⟨rfl, ⟨q, hq⟩, hd1⟩ hfD hd
    have HJQ := hid (own_mono hJx.out HW2.out)
    gi_wp2_with fail
    refine ⟨by simp, .inl ⟨_, _, rfl, run_takeDeferred hd, ?_⟩⟩
    have hd1' : (V.putObj D2 (.deferred none)).heap[D1]? = some (.deferred (some [])) := (World.putObj_heap_other (by have := HDL.out; omega)).trans hd1
    refine ⟨by simp, .inl ⟨_, _, rfl, run_takeDeferred hd1', ?_⟩⟩
    exact ⟨_, results_none rfl _ _ _, ⟨_, rfl⟩, .inr ⟨_, trivial, hJx.out.putObj _ (HJQ.out.putObj _ hq hD hd rfl) (Nat.le_trans HW1.out HDM.out) hd1' rfl⟩⟩
  case stop1 =>
   rintro D1 c pre' V hD hs ⟨rfl, q, hq⟩ hfD hd
   have HJQ := hid (own_mono hJx.out HW1.out)
   gi_wp2_with fail
   refine ⟨by simp, .inl ⟨_, _, rfl, run_takeDeferred hd, ?_⟩⟩
   exact ⟨_, results_none rfl _ _ _, ⟨_, rfl⟩, .inr ⟨_, trivial, HJQ.out.putObj _ hq hD hd rfl⟩⟩
theorem parts1_seq (f t : Nat) (hft : f < t) (ht : t ≤ 4096) (lo hi : Nat) (h : lo < hi) : PtsM f t lo hi :=
 parts_ind hft (M := PtsM f t) (fun lo hi hlt hc hhi Fr ba bb w0 hp => parts1_leaf f t lo hi hft ht hlt hhi hc Fr ba bb w0 hp) (fun lo hi hlt hc h1 h2 ih1 ih2 => parts1_cut f t lo hi _ hft ht hlt hc (hid rfl) (by omega) (by omega) ih1 ih2) (hi - lo) lo hi h (Nat.le_refl _)
set_option maxRecDepth 100000
def zeroN : Nd := ⟨List.replicate 32 0, 0, 0⟩
theorem zeroN_ok : NdOk zeroN := ⟨by simp [zeroN], (fun x hx => by have := List.eq_of_mem_replicate hx; omega), by simp [zeroN], by simp [zeroN]⟩
theorem zeroN_cells : (ndC zeroN).toArray = #[.int .u8 0, .int .u8 0, .int .u8 0, .int .u8 0, .int .u8 0, .int .u8 0, .int .u8 0, .int .u8 0, .int .u8 0, .int .u8 0, .int .u8 0, .int .u8 0, .int .u8 0, .int .u8 0, .int .u8 0, .int .u8 0, .int .u8 0, .int .u8 0, .int .u8 0, .int .u8 0, .int .u8 0, .int .u8 0, .int .u8 0, .int .u8 0, .int .u8 0, .int .u8 0, .int .u8 0, .int .u8 0, .int .u8 0, .int .u8 0, .int .u8 0, .int .u8 0, .int .i64 0, .int .i64 0] := by simp [zeroN, ndC, List.replicate]
theorem join_no (a b : Nd) (w : World) (ha : NdOk a) (hb : NdOk b) (hv : vL [a, b] = false) :
  Calls Tryz.prog 85 #[ndV a, ndV b] w fun e w' => e = .returned (.tuple #[ndV zeroN, .int .i64 410]) ∧ Below w.heap.size w w' := by
 have HOA := hid ha
 have HOB := hid hb
 have HV := hid hv
 have HSA : Hid ((Tryz.prog.info? 39).map (·.size) = some (ndC a).toArray.size) := hid (by rw [size34 HOA.out]; simp)
 have HSB : Hid ((Tryz.prog.info? 39).map (·.size) = some (ndC b).toArray.size) := hid (by rw [size34 HOB.out]; simp)
 have HSZ : Hid ((Tryz.prog.info? 39).map (·.size) = some (ndC zeroN).toArray.size) := hid (by rw [size34 zeroN_ok]; simp)
 have HZ2 : Hid ((ndC zeroN).toArray.size = (ndC zeroN).toArray.size) := hid rfl
 have HZC := hid zeroN_cells
 obtain ⟨t1, t2, t3, t4, t5⟩ := three_rows w (ndC a).toArray (ndC b).toArray (ndC zeroN).toArray 39
 have T1 := hid t1
 have T2 := hid t2
 have T3 := hid t3
 have T4 := hid t4
 have T5 := hid t5
 rw [HZC.out] at T1 T2 T3 T5
 clear ha hb hv t1 t2 t3 t4 t5
 go_enter Tryz.func85, Tryz.ntmps85
 unfold ndV
 go_wp2_with (first | (refine wpList_load_row rfl 39 (.tmp 2) rfl w.heap.size rfl 39 _ (0, 0) _ T2.out Tryz.underlying39 rfl HSA.out ?_) | (refine wpList_load_row rfl 39 (.tmp 3) rfl (w.heap.size + 1) rfl 39 _ (0, 0) _ T3.out Tryz.underlying39 rfl HSB.out ?_) | (refine wpList_build_nodes2 rfl (.tmp 6) (.tmp 7) rfl a b rfl rfl HOA.out HOB.out ?_))
 rw [← HZC.out]
 rw [HZC.out] at T4
 rw [← HZC.out] at T1 T4 T5
 have hq := heap_alloc_new (((w.alloc (.cells (ndC a).toArray 39)).alloc (.cells (ndC b).toArray 39)).alloc (.cells (ndC zeroN).toArray 39)) (.cells (flatN [a, b]).toArray 39)
 rw [T5.out] at hq
 have hb4 := (Below.refl _ (((w.alloc (.cells (ndC a).toArray 39)).alloc (.cells (ndC b).toArray 39)).alloc (.cells (ndC zeroN).toArray 39))).alloc (Nat.le_refl _) (.cells (flatN [a, b]).toArray 39)
 have HIN : Hid (InN ((((w.alloc (.cells (ndC a).toArray 39)).alloc (.cells (ndC b).toArray 39)).alloc (.cells (ndC zeroN).toArray 39)).alloc (.cells (flatN [a, b]).toArray 39)) (some ⟨w.heap.size + 1 + 1 + 1, 0, none⟩) 2 2 [a, b]) := hid ⟨rfl, Nat.le_refl _, (fun h => by cases h), (fun x hx => by
  simp only [List.mem_cons, List.not_mem_nil, or_false] at hx
  rcases hx with rfl | rfl
  ·exact HOA.out
  ·exact HOB.out), fun _ => ⟨_, 0, rfl, (Array.getElem?_eq_some_iff.1 hq).1, range_row hq⟩⟩
 refine (valid_any [a, b] _ 2 2 _ (by omega) HIN).mono ?_
 rintro e W1 ⟨rfl, hq1⟩
 rw [HV.out]
 have hb4' := hb4.trans (hq1.mono hb4.size)
 have HB1 := hid (T1.out.trans (hb4'.mono T1.out.size))
 have HRR := hid ((hb4'.block (w.heap.size + 1 + 1) (by rw [T5.out]; omega)).trans T4.out)
 clear hq hb4 hb4' hq1 HIN T1 T2 T3 T4 T5 HSA HSB HV HZC
 go_wp2_with (first | (refine wpList_load_row rfl 39 (.tmp 4) rfl (w.heap.size + 1 + 1) rfl 39 _ (0, 0) _ HRR.out Tryz.underlying39 rfl HSZ.out ?_) | (refine wpList_store_row rfl 39 (.tmp 4) (.tmp 11) rfl (w.heap.size + 1 + 1) (ndC zeroN).toArray ?ha ?hb 39 (ndC zeroN).toArray HRR.out HSZ.out rfl (ndC_one zeroN) ?hc))
 have hr := setRow_heap W1 (w.heap.size + 1 + 1) _ (ndC zeroN).toArray _ _ HRR.out
 have hl := run_loadVar_row (P := Tryz.prog) (W1.setRow (w.heap.size + 1 + 1) (ndC zeroN).toArray) (w.heap.size + 1 + 1) 39 39 (ndC zeroN).toArray (0, 0) _ hr Tryz.underlying39 rfl HSZ.out
 refine bodyPost_ret (v := .tuple #[ndV zeroN, .int .i64 410]) ?_ rfl ⟨rfl, below_setRow HB1.out (by omega) _⟩
 unfold ndV
 simp [results, Tryz.results85, asAddr, hl]
/-- Join -/
def joinR (a b : Nd) : Nd := if vL [a, b] then joinN a b else zeroN
def joinE (a b : Nd) : Int := if vL [a, b] then 0 else 410
theorem join_any (a b : Nd) (w : World) (ha : NdOk a) (hb : NdOk b) (hT : Hid (Tabs w)) :
  Calls Tryz.prog 85 #[ndV a, ndV b] w fun e w' => e = .returned (.tuple #[ndV (joinR a b), .int .i64 (joinE a b)]) ∧ Below w.heap.size w w' := by
 by_cases h : vL [a, b] = true
 ·rw [joinR, joinE, if_pos h, if_pos h]; exact join_yes a b w ha hb h hT
 ·rw [joinR, joinE, if_neg h, if_neg h]; exact join_no a b w ha hb (by simpa using h)
theorem half_step {f k n : Nat} (h : 2 * k < n) (hn : n ≤ 1000000) (hf : 18446744073709551616 ≤ k * 2 ^ f) : ∃ g, halfF f k n = halfF g (2 * k) n ∧ 18446744073709551616 ≤ (2 * k) * 2 ^ g := by
 cases f with
 | zero => simp at hf; omega
 | succ f => refine ⟨f, by conv => lhs; unfold halfF
                           rw [if_pos h], by rw [Nat.pow_succ] at hf; rw [show 2 * k * 2 ^ f = k * (2 ^ f * 2) by rw [Nat.mul_comm 2 k, Nat.mul_assoc, Nat.mul_comm 2]]; exact hf⟩
theorem half_end {f k n : Nat} (h : ¬ 2 * k < n) : halfF f k n = k := by
 cases f with
 | zero => rfl
 | succ f => unfold halfF; rw [if_neg h]
theorem half_any (n : Nat) (w : World) (hn : n ≤ 1000000) : Calls Tryz.prog 123 #[.int .i64 (n : Nat)] w fun e w' => e = .returned (.int .i64 (half n : Nat)) ∧ w = w' := by
 go_enter Tryz.func123, Tryz.ntmps123
 go_wp2_with fail
 go_loop [3] (fun v => ∃ k : Nat, v = .int .i64 (k : Nat) ∧ 1 ≤ k ∧ k ≤ 1000000 ∧ Hid (∃ f, halfF f k n = half n ∧ 18446744073709551616 ≤ k * 2 ^ f)) (fun v => n - (intOf v).toNat)
 case atStart => exact ⟨1, rfl, by omega, by omega, hid ⟨64, rfl, by decide⟩⟩
 case round =>
  obtain ⟨k, rfl, hk1, hk2, HF⟩ := hrel
  by_cases hlt : 2 * k < n
  ·have d1 : decide (2 * (k : Int) < (n : Int)) = true := eQ (by omega)
   have HF2 : Hid (∃ f, halfF f (2 * k) n = half n ∧ 18446744073709551616 ≤ 2 * k * 2 ^ f) := hid (by
    obtain ⟨f, h1, h2⟩ := HF.out
    obtain ⟨g, h3, h4⟩ := half_step hlt hn h2
    exact ⟨g, by rw [← h3]; exact h1, h4⟩)
   go_wp2_with fail
   go_round
   case rel => exact ⟨2 * k, by go_num, by omega, by omega, HF2⟩
   case measure => simp [intOf]; omega
  ·have d1 : decide (2 * (k : Int) < (n : Int)) = false := dQ (by omega)
   have HE : Hid (half n = k) := hid (by
    obtain ⟨f, h1, _⟩ := HF.out
    rw [← h1]; exact half_end hlt)
   go_wp2_with fail
   go_ret
   exact ⟨by rw [HE.out]; rfl, rfl⟩
theorem root_ok : ∀ (m : Nat) (ls : List Nd), ls.length ≤ m → 1 ≤ ls.length → (∀ x ∈ ls, NdOk x) → vL ls = true → NdOk (root ls)
 | 0, ls, h, h1, _, _ => by omega
 | m + 1, ls, h, h1, ho, hv => by
  by_cases h2 : 2 ≤ ls.length
  ·have hb := half_bd h2
   rw [root_two h2]
   have e : ls = ls.take (half ls.length) ++ ls.drop (half ls.length) := (List.take_append_drop _ _).symm
   have hv' := hv
   rw [e] at hv'
   have hp := vL_parts hv'
   refine join_ok (root_ok m _ (by rw [List.length_take]; omega) (by rw [List.length_take]; omega) (fun x hx => ho x (List.mem_of_mem_take hx)) hp.1) (root_ok m _ (by rw [List.length_drop]; omega) (by rw [List.length_drop]; omega) (fun x hx => ho x (List.mem_of_mem_drop hx)) hp.2) (vL_two hv' (by rw [List.length_take]; omega) (by rw [List.length_drop]; omega))
  ·obtain ⟨x, rfl⟩ : ∃ x, ls = [x] := List.length_eq_one_iff.1 (by omega)
   rw [root_one]; exact ho x (by simp)
theorem InN.take {w : World} {g off n c : Nat} {ls : List Nd} (h : InN w (some ⟨g, off, none⟩) n c ls) (k : Nat) (hk : k ≤ n) : InN w (some ⟨g, off, none⟩) k c (ls.take k) :=
 ⟨by rw [List.length_take, h.len]; omega, by have := h.cap; omega, (fun e => by cases e), fun x hx => h.ok x (List.mem_of_mem_take hx), fun h0 => by
  rw [List.length_take] at h0
  obtain ⟨g', off', e, hg, hr⟩ := h.rd (by omega)
  cases e
  refine ⟨g, off, rfl, hg, fun j v hj => hr j v ?_⟩
  have e2 : flatN ls = flatN (ls.take k) ++ flatN (ls.drop k) := by unfold flatN; rw [← List.flatMap_append, List.take_append_drop]
  rw [e2, List.getElem?_append_left (List.getElem?_eq_some_iff.1 hj).1]; exact hj⟩
theorem flatN_length : ∀ (ls : List Nd), (∀ x ∈ ls, NdOk x) → (flatN ls).length = ls.length * 34
 | [], _ => rfl
 | n :: ls, ho => by
  have h1 := ndC_length (ho n (by simp))
  have h2 := flatN_length ls (fun x hx => ho x (List.mem_cons_of_mem _ hx))
  show ((n :: ls).flatMap ndC).length = _
  rw [List.flatMap_cons, List.length_append, h1]
  have h3 : (ls.flatMap ndC).length = ls.length * 34 := h2
  rw [h3, List.length_cons]; omega
theorem InN.drop {w : World} {g off n c : Nat} {ls : List Nd} (h : InN w (some ⟨g, off, none⟩) n c ls) (k : Nat) (hk : k ≤ n) : InN w (some ⟨g, off + k * 34, none⟩) (n - k) (c - k) (ls.drop k) :=
 ⟨by rw [List.length_drop, h.len], by have := h.cap; omega, (fun e => by cases e), fun x hx => h.ok x (List.mem_of_mem_drop hx), fun h0 => by
  rw [List.length_drop] at h0
  obtain ⟨g', off', e, hg, hr⟩ := h.rd (by omega)
  cases e
  refine ⟨g, off + k * 34, rfl, hg, fun j v hj => ?_⟩
  have e2 : flatN ls = flatN (ls.take k) ++ flatN (ls.drop k) := by unfold flatN; rw [← List.flatMap_append, List.take_append_drop]
  have e3 : (flatN (ls.take k)).length = k * 34 := by
   rw [flatN_length _ (fun x hx => h.ok x (List.mem_of_mem_take hx)), List.length_take, h.len]
   rw [show min k n = k by omega]
  rw [Nat.add_assoc]
  refine hr (k * 34 + j) v ?_
  rw [e2, List.getElem?_append_right (by omega), e3, Nat.add_sub_cancel_left]; exact hj⟩
def wR (M : Nat) (bf : Nat) (g : Nat) (off : Nat) (n : Nat) (c : Nat) (k : Nat) (a : Nd) (b : Nd) (r : Nd) : Nat → Value → Value → World → Prop
 | 0, fv, _, _ => fv = .func (.func 122) #[] #[.pointer (some ⟨bf, 0, none⟩)]
 | 1, fv, _, _ => fv = .slice (some ⟨g, off, none⟩) n c
 | 2, fv, _, _ => fv = .int .i64 ((k : Nat))
 | 3, fv, _, _ => fv = .slice (some ⟨g, off, none⟩) k c
 | 4, fv, _, _ => fv = ndV a
 | 5, fv, _, _ => fv = .func (.func 122) #[] #[.pointer (some ⟨bf, 0, none⟩)]
 | 6, fv, _, _ => fv = .slice (some ⟨g, off, none⟩) n c
 | 7, fv, _, _ => fv = .int .i64 ((k : Nat))
 | 8, fv, _, _ => fv = .slice (some ⟨g, off + k * 34, none⟩) (n - k) (c - k)
 | 9, fv, _, _ => fv = ndV b
 | 10, fv, _, _ => fv = .tuple #[ndV r, .int .i64 0]
 | 11, fv, _, _ => fv = .tuple #[ndV r, .int .i64 0]
 | 12, fv, _, _ => fv = ndV r
 | 13, fv, _, _ => fv = .int .i64 (0)
 | 14, fv, fu, fw => True
 | 15, fv, fu, fw => ∃ q, fu = .pointer (some ⟨q, 0, none⟩) ∧ M ≤ q ∧ fw.heap[q]? = some (.cells (ndC r).toArray 39 (0, 0))
 | 16, fv, _, _ => fv = .int .i64 (0)
 | _, _, _, _ => True
theorem wR_below {M : Nat} {bf : Nat} {g : Nat} {off : Nat} {n : Nat} {c : Nat} {k : Nat} {a : Nd} {b : Nd} {r : Nd} {w w' : World} (hb : Below w.heap.size w w') : ∀ j v u, wR M bf g off n c k a b r j v u w → wR M bf g off n c k a b r j v u w'
 | 0, v, u, h => h
 | 1, v, u, h => h
 | 2, v, u, h => h
 | 3, v, u, h => h
 | 4, v, u, h => h
 | 5, v, u, h => h
 | 6, v, u, h => h
 | 7, v, u, h => h
 | 8, v, u, h => h
 | 9, v, u, h => h
 | 10, v, u, h => h
 | 11, v, u, h => h
 | 12, v, u, h => h
 | 13, v, u, h => h
 | 14, v, u, h => h
 | 15, v, u, ⟨q, h1, h2, h3⟩ => ⟨q, h1, h2, (hb.block q (Array.getElem?_eq_some_iff.1 h3).1).trans h3⟩
 | 16, v, u, h => h
 | n + 17, v, u, h => trivial
theorem wR_pure {M : Nat} {bf : Nat} {g : Nat} {off : Nat} {n : Nat} {c : Nat} {k : Nat} {a : Nd} {b : Nd} {r : Nd} {w w' : World} : ∀ j v u, j ≠ 14 → j ≠ 15 → wR M bf g off n c k a b r j v u w → wR M bf g off n c k a b r j v u w'
 | 0, v, u, _, _, h => h
 | 1, v, u, _, _, h => h
 | 2, v, u, _, _, h => h
 | 3, v, u, _, _, h => h
 | 4, v, u, _, _, h => h
 | 5, v, u, _, _, h => h
 | 6, v, u, _, _, h => h
 | 7, v, u, _, _, h => h
 | 8, v, u, _, _, h => h
 | 9, v, u, _, _, h => h
 | 10, v, u, _, _, h => h
 | 11, v, u, _, _, h => h
 | 12, v, u, _, _, h => h
 | 13, v, u, _, _, h => h
 | 14, v, u, hh, _, _ => absurd rfl hh
 | 15, v, u, _, hh, _ => absurd rfl hh
 | 16, v, u, _, _, h => h
 | n + 17, v, u, _, _, h => trivial
/-- the cell of a node that the region makes
-/
def NewN (M : Nat) (p : Value) (w : World) : Prop := ∃ q, p = .pointer (some ⟨q, 0, none⟩) ∧ M ≤ q ∧ w.heap[q]? = some (.cells (ndC zeroN).toArray 39 (0, 0))
theorem NewN.below {M : Nat} {p : Value} {w w' : World} (h : NewN M p w) (hb : Below w.heap.size w w') : NewN M p w' := by
 obtain ⟨q, h1, h2, h3⟩ := h
 exact ⟨q, h1, h2, (hb.block q (Array.getElem?_eq_some_iff.1 h3).1).trans h3⟩
theorem fold_any : ∀ (m : Nat) (ls : List Nd) (A : Option Addr) (n c bf : Nat) (w : World), n ≤ m → 1 ≤ n → n ≤ 4096 → Hid (InN w A n c ls) → Hid (vL ls = true) → Hid (w.cell? ⟨bf, 0, none⟩ = some (.func (.func 122) #[] #[.pointer (some ⟨bf, 0, none⟩)])) → Hid (Tabs w) →
  Calls Tryz.prog 122 #[.slice A n c, .pointer (some ⟨bf, 0, none⟩)] w fun e w' => e = .returned (ndV (root ls)) ∧ Below w.heap.size w w' := by
 intro m
 induction m with
 | zero => intro ls A n c bf w h1 h2; omega
 | succ m ih =>
  intro ls A n c bf w hm h1 hn h hv hF hT
  obtain ⟨g, off, rfl, hg, hr⟩ := h.out.rd (by rw [h.out.len]; omega)
  have HNE := hid (show ls.length = n from h.out.len)
  have hcap := h.out.cap
  clear hr
  have HB0 := hid ((Below.refl _ w).alloc (Nat.le_refl _) (.cells (ndC zeroN).toArray 39))
  have HR0 := hid (heap_alloc_new w (.cells (ndC zeroN).toArray 39))
  have HS0 : Hid ((w.alloc (.cells (ndC zeroN).toArray 39)).heap.size = w.heap.size + 1) := hid (by simp)
  have HROK : Hid (NdOk (root ls)) := hid (root_ok _ ls (Nat.le_refl _) (by rw [h.out.len]; omega) h.out.ok hv.out)
  obtain ⟨HF1⟩ : Nonempty (Hid ((w.alloc (.cells (ndC zeroN).toArray 39)).cell? ⟨bf, 0, none⟩ = some (.func (.func 122) #[] #[.pointer (some ⟨bf, 0, none⟩)]))) := ⟨hid ((HB0.out.cell (p := ⟨bf, 0, none⟩) (block_lt_of_cell hF.out)).trans hF.out)⟩
  go_enter Tryz.func122, Tryz.ntmps122
  by_cases h2 : 2 ≤ n
  ·have d1 : decide ((n : Int) = 1) = false := dQ (by omega)
   have HIN := hid (h.out.below HB0.out)
   have HT1 := hid (hT.out.below HB0.out)
   go_wp2_with fail
   rw [← zeroN_cells]
   generalize w.alloc (.cells (ndC zeroN).toArray 39) = W1 at *
   refine (half_any n _ (by omega)).mono ?_
   rintro e w2 ⟨rfl, rfl⟩
   obtain ⟨k, HK⟩ : ∃ k, Hid (half n = k) := ⟨_, hid rfl⟩
   have hkb := half_bd h2
   rw [HK.out] at hkb
   rw [HK.out]
   go_wp2_with fail
   have HP : Hid (vL (ls.take k) = true ∧ vL (ls.drop k) = true) := hid (vL_parts (by rw [List.take_append_drop]; exact hv.out))
   have HT2 := hid (HIN.out.take k (by omega))
   have HT3 := hid (HIN.out.drop k (by omega))
   have HLT : Hid ((ls.take k).length = k ∧ (ls.drop k).length = n - k) := hid ⟨by rw [List.length_take, HNE.out]; omega, by rw [List.length_drop, HNE.out]⟩
   have HVV : Hid (vL [root (ls.take k), root (ls.drop k)] = true) := hid (vL_two (by rw [List.take_append_drop]; exact hv.out) (by rw [HLT.out.1]; omega) (by rw [HLT.out.2]; omega))
   have HOA : Hid (NdOk (root (ls.take k))) := hid (root_ok _ _ (Nat.le_refl _) (by rw [HLT.out.1]; omega) HT2.out.ok HP.out.1)
   have HOB : Hid (NdOk (root (ls.drop k))) := hid (root_ok _ _ (Nat.le_refl _) (by rw [HLT.out.2]; omega) HT3.out.ok HP.out.2)
   have HRT : Hid (joinN (root (ls.take k)) (root (ls.drop k)) = root ls) := hid (by rw [root_two (l := ls) (by rw [HNE.out]; exact h2), HNE.out, HK.out])
   have HS1 : Hid ((Tryz.prog.info? 39).map (·.size) = some (ndC (root ls)).toArray.size) := hid (by rw [size34 HROK.out]; simp)
   have HS2 : Hid (34 = (ndC (root ls)).toArray.size) := hid (by simp [ndC_length HROK.out])
   obtain ⟨a, HA⟩ : ∃ a, Hid (root (ls.take k) = a) := ⟨_, hid rfl⟩
   obtain ⟨b, HB⟩ : ∃ b, Hid (root (ls.drop k) = b) := ⟨_, hid rfl⟩
   obtain ⟨r, HR⟩ : ∃ r, Hid (root ls = r) := ⟨_, hid rfl⟩
   rw [HA.out, HB.out] at HVV HRT
   rw [HA.out] at HOA
   rw [HB.out] at HOB
   rw [HR.out] at HRT HROK HS1 HS2
   refine region_flow3 (by kernel_rfl) (by kernel_rfl) (fun i => Nat.beq i 15) (fun i => bif Nat.beq i 15 then 14 else i) (by kernel_rfl) (fun fx => #[.slice (some ⟨g, off, none⟩) n c, .pointer (some ⟨bf, 0, none⟩), undef, .pointer (some ⟨w.heap.size, 0, none⟩), .int .i64 ((k : Nat)), fx 14, fx 16, .slice (some ⟨g, off, none⟩) n c, .int .i64 ((n : Nat)), .bool false, undef, undef, undef, .slice (some ⟨g, off, none⟩) n c, .int .i64 ((n : Nat)), .int .i64 ((k : Nat)), fx 11, fx 0, fx 1, fx 2, fx 3, fx 4, fx 5, fx 6, fx 7, fx 8, fx 9, fx 10, fx 12, fx 13, undef]) (fun _ => undef) (fun L fx w' => Below W1.heap.size W1 w' ∧ (L 14 = true → L 15 = false → NewN W1.heap.size (fx 14) w')) (fun fi fv fu fw => wR W1.heap.size bf g off n c k a b r fi fv fu fw) ⟨(Below.refl _ _).drew, fun h => by cases h⟩ ?_ ?_
   ·refine ⟨?_, ?_, ?_, ?_, ?_, ?_, ?_, ?_, ?_, ?_, ?_, ?_, ?_, ?_, ?_, ?_, ?_, trivial⟩
    all_goals intro L fx w' hC hi hcl hdn hd
    ·have hc : w'.cell? ⟨bf, 0, none⟩ = some (.func (.func 122) #[] #[.pointer (some ⟨bf, 0, none⟩)]) := (hC.1.cell (p := ⟨bf, 0, none⟩) (block_lt_of_cell HF1.out)).trans HF1.out
     go_wp2_with fail
     exact ⟨_, rfl, ⟨hC.1, fun h14 h15 => hC.2 h14 h15⟩, rfl, kP⟩
    ·go_wp2_with fail
     exact ⟨_, rfl, ⟨hC.1, fun h14 h15 => hC.2 h14 h15⟩, rfl, kP⟩
    ·go_wp2_with fail
     exact ⟨_, rfl, ⟨hC.1, fun h14 h15 => hC.2 h14 h15⟩, rfl, kP⟩
    ·have h1 : fx 1 = .slice (some ⟨g, off, none⟩) n c := hd.1 rfl
     have h2 : fx 2 = .int .i64 ((k : Nat)) := hd.2.1 rfl
     go_wp2_with fail
     exact ⟨_, by rw [← h1, ← h2]; rfl, ⟨hC.1, fun h14 h15 => hC.2 h14 h15⟩, rfl, kP⟩
    ·have h0 : fx 0 = .func (.func 122) #[] #[.pointer (some ⟨bf, 0, none⟩)] := hd.1 rfl
     have h3 : fx 3 = .slice (some ⟨g, off, none⟩) k c := hd.2.1 rfl
     have HFC : Hid (w'.cell? ⟨bf, 0, none⟩ = some (.func (.func 122) #[] #[.pointer (some ⟨bf, 0, none⟩)])) := hid ((hC.1.cell (p := ⟨bf, 0, none⟩) (block_lt_of_cell HF1.out)).trans HF1.out)
     have HIk := hid (HT2.out.below hC.1)
     have HTk := hid (HT1.out.below hC.1)
     go_wp2_with fail
     refine (ih (ls.take k) _ k c bf w' (by omega) (by omega) (by omega) HIk (hid HP.out.1) HFC HTk).mono ?_
     rintro e w2 ⟨rfl, hq⟩
     rw [HA.out]
     go_wp2_with fail
     exact ⟨_, by rw [← h0, ← h3]; rfl, ⟨hC.1.trans (hq.mono hC.1.size), fun h14 h15 => (hC.2 h14 h15).below hq⟩, rfl, fun j v t _ _ h => wR_below hq j v t h⟩
    ·have hc : w'.cell? ⟨bf, 0, none⟩ = some (.func (.func 122) #[] #[.pointer (some ⟨bf, 0, none⟩)]) := (hC.1.cell (p := ⟨bf, 0, none⟩) (block_lt_of_cell HF1.out)).trans HF1.out
     go_wp2_with fail
     exact ⟨_, rfl, ⟨hC.1, fun h14 h15 => hC.2 h14 h15⟩, rfl, kP⟩
    ·go_wp2_with fail
     exact ⟨_, rfl, ⟨hC.1, fun h14 h15 => hC.2 h14 h15⟩, rfl, kP⟩
    ·go_wp2_with fail
     exact ⟨_, rfl, ⟨hC.1, fun h14 h15 => hC.2 h14 h15⟩, rfl, kP⟩
    ·have h6 : fx 6 = .slice (some ⟨g, off, none⟩) n c := hd.1 rfl
     have h7 : fx 7 = .int .i64 ((k : Nat)) := hd.2.1 rfl
     go_wp2_with fail
     exact ⟨_, by rw [← h6, ← h7]; rfl, ⟨hC.1, fun h14 h15 => hC.2 h14 h15⟩, rfl, kP⟩
    ·have h5 : fx 5 = .func (.func 122) #[] #[.pointer (some ⟨bf, 0, none⟩)] := hd.1 rfl
     have h8 : fx 8 = .slice (some ⟨g, off + k * 34, none⟩) (n - k) (c - k) := hd.2.1 rfl
     have HFC : Hid (w'.cell? ⟨bf, 0, none⟩ = some (.func (.func 122) #[] #[.pointer (some ⟨bf, 0, none⟩)])) := hid ((hC.1.cell (p := ⟨bf, 0, none⟩) (block_lt_of_cell HF1.out)).trans HF1.out)
     have HIk := hid (HT3.out.below hC.1)
     have HTk := hid (HT1.out.below hC.1)
     go_wp2_with fail
     refine (ih (ls.drop k) _ (n - k) (c - k) bf w' (by omega) (by omega) (by omega) HIk (hid HP.out.2) HFC HTk).mono ?_
     rintro e w2 ⟨rfl, hq⟩
     rw [HB.out]
     go_wp2_with fail
     exact ⟨_, by rw [← h5, ← h8]; rfl, ⟨hC.1.trans (hq.mono hC.1.size), fun h14 h15 => (hC.2 h14 h15).below hq⟩, rfl, fun j v t _ _ h => wR_below hq j v t h⟩
    ·have h4 : fx 4 = ndV a := hd.1 rfl
     have h9 : fx 9 = ndV b := hd.2.1 rfl
     have HTk := hid (HT1.out.below hC.1)
     go_wp2_with fail
     refine (join_yes a b w' HOA.out HOB.out HVV.out HTk).mono ?_
     rintro e w2 ⟨rfl, hq⟩
     rw [HRT.out]
     go_wp2_with fail
     exact ⟨_, by rw [← h4, ← h9]; rfl, ⟨hC.1.trans (hq.mono hC.1.size), fun h14 h15 => (hC.2 h14 h15).below hq⟩, rfl, fun j v t _ _ h => wR_below hq j v t h⟩
    ·have h10 : fx 10 = .tuple #[ndV r, .int .i64 0] := hd.1 rfl
     go_wp2_with fail
     exact ⟨_, by rw [← h10]; rfl, ⟨hC.1, fun h14 h15 => hC.2 h14 h15⟩, rfl, kP⟩
    ·have h11 : fx 11 = .tuple #[ndV r, .int .i64 0] := hd.1 rfl
     go_wp2_with fail
     exact ⟨_, by rw [← h11]; rfl, ⟨hC.1, fun h14 h15 => hC.2 h14 h15⟩, rfl, kP⟩
    ·have h11 : fx 11 = .tuple #[ndV r, .int .i64 0] := hd.1 rfl
     go_wp2_with fail
     exact ⟨_, by rw [← h11]; rfl, ⟨hC.1, fun h14 h15 => hC.2 h14 h15⟩, rfl, kP⟩
    ·go_wp2_with fail
     rw [← zeroN_cells]
     have hbb : Below w'.heap.size w' (w'.alloc (.cells (ndC zeroN).toArray 39)) := (Below.refl _ _).alloc (Nat.le_refl _) _
     exact ⟨_, rfl, ⟨hC.1.trans (hbb.mono hC.1.size), fun _ _ => ⟨_, rfl, hC.1.size, heap_alloc_new _ _⟩⟩, trivial, fun j v t _ _ h => wR_below hbb j v t h⟩
    ·have H14 := hid (hd.1 rfl)
     have h12 : fx 12 = ndV r := hd.2.1 rfl
     obtain ⟨q, h14, hq, hrow⟩ := hC.2 (hdn 14 (by kernel_rfl)) hi
     refine wpList_store_row rfl 39 (.tmp 5) (.tmp 28) rfl q (ndC r).toArray h14 h12 39 _ hrow HS1.out HS2.out (ndC_one _) ?_
     clear hd
     go_wp2_with fail
     exact ⟨undef, by rw [← h14, ← h12]; rfl, ⟨below_setRow hC.1 hq _, fun _ h => (updB_self h).elim⟩, ⟨q, h14, hq, setRow_heap _ _ _ _ _ _ hrow⟩, fun j v t hj _ h => by
      by_cases e : j = 14
      ·subst e; trivial
      ·exact wR_pure j v t e (fun e => by subst e; rw [hi] at hj; cases hj) h⟩
    ·have h13 : fx 13 = .int .i64 (0) := hd.1 rfl
     go_wp2_with fail
     exact ⟨_, by rw [← h13]; rfl, ⟨hC.1, fun h14 h15 => hC.2 h14 h15⟩, rfl, kP⟩
   ·intro L fx w' hC hS
    have H15 := hid (hS 15 (by decide) rfl)
    obtain ⟨q, e14, hq, hrow⟩ := H15.out
    have HB9 := hid hC.1
    have HQR := hid hrow
    have HR3 := hid ((hC.1.block w.heap.size (by rw [HS0.out]; omega)).trans HR0.out)
    have HSZ : Hid ((Tryz.prog.info? 39).map (·.size) = some (ndC zeroN).toArray.size) := hid (by rw [size34 zeroN_ok]; simp)
    replace e14 : fx 14 = _ := e14
    rw [e14]
    clear hS hC H15 hrow
    go_wp2_with (first | (refine wpList_load_row rfl 39 (.tmp 5) rfl q rfl 39 _ (0, 0) _ HQR.out Tryz.underlying39 rfl HS1.out ?_) | (refine wpList_store_row rfl 39 (.tmp 3) (.tmp 30) rfl w.heap.size (ndC r).toArray rfl rfl 39 (ndC zeroN).toArray HR3.out HS1.out HS2.out (ndC_one r) ?_))
    refine bodyPost_ret (results_cell_row rfl _ _ w.heap.size 39 _ (0, 0) _ rfl (setRow_heap w' w.heap.size _ _ _ _ HR3.out) Tryz.underlying39 rfl HS1.out) rfl ?_
    exact ⟨by rw [HR.out]; rfl, below_setRow (HB0.out.trans (HB9.out.mono HB0.out.size)) (Nat.le_refl _) _⟩
  ·have hn1 : n = 1 := by omega
   have d1 : decide ((n : Int) = 1) = true := eQ (by omega)
   obtain ⟨x, HX⟩ : ∃ x, Hid (ls = [x]) := (List.length_eq_one_iff.1 (by rw [HNE.out]; exact hn1)).imp fun _ h => hid h
   have HXO : Hid (NdOk x) := hid (h.out.ok x (by rw [HX.out]; simp))
   obtain ⟨g', off', e, hg', hr⟩ := (h.out.below HB0.out).rd (by rw [HNE.out]; omega)
   cases e
   have HRX : Hid ((w.alloc (.cells (ndC zeroN).toArray 39)).rangeAt g off (ndC x)) := hid (by
    have := range_one hr h.out.ok 0 (by rw [HNE.out]; omega)
    simpa [HX.out] using this)
   have HS1 : Hid ((Tryz.prog.info? 39).map (·.size) = some (ndC x).toArray.size) := hid (by rw [size34 HXO.out]; simp)
   have HS2 : Hid (34 = (ndC x).toArray.size) := hid (by simp [ndC_length HXO.out])
   have HSX := hid (size34 HXO.out)
   have hlt : 0 < n := by omega
   clear hr
   rw [zeroN_cells] at HRX HR0
   go_wp2_with (first | (with_reducible refine wpList_load_mid rfl 39 (.tmp 11) rfl g off rfl (ndC x) _ HRX.out Tryz.underlying39 rfl HSX.out ?_) | (refine wpList_store_row rfl 39 (.tmp 3) (.tmp 12) rfl w.heap.size (ndC x).toArray rfl rfl 39 _ HR0.out HS1.out HS2.out (ndC_one x) ?_))
   rw [← zeroN_cells]
   rw [← zeroN_cells] at HR0
   refine bodyPost_ret (results_cell_row rfl _ _ w.heap.size 39 _ (0, 0) _ rfl (setRow_heap _ w.heap.size _ _ _ _ HR0.out) Tryz.underlying39 rfl HS1.out) rfl ?_
   exact ⟨by rw [HX.out, root_one]; rfl, below_setRow HB0.out (Nat.le_refl _) _⟩
end Go.Proofs.YtmfmgeapecapiaaGreatDoor
