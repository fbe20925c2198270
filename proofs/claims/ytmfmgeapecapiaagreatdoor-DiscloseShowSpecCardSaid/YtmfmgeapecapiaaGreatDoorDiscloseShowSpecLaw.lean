/- DiscloseShowSpec: for every transcript, index, root and shown line Show and Verify are those of the reference, also for what was shown. No conditions. -/
import Derived.Test.YtmfmgeapecapiaaGreatDoorSS12
import Derived.Test.YtmfmgeapecapiaaGreatDoorSS19
import Derived.Test.YtmfmgeapecapiaaGreatDoorSS10
import Derived.Test.YtmfmgeapecapiaaGreatDoorSS18
import Derived.Test.YtmfmgeapecapiaaGreatDoorSS2
import Derived.Test.YtmfmgeapecapiaaGreatDoorSS9
import Derived.Test.YtmfmgeapecapiaaGreatDoorSS3
import Derived.Test.YtmfmgeapecapiaaGreatDoorCards
import Derived.Test.YtmfmgeapecapiaaGreatDoorTie
import Derived.Lib.SmallJoins
set_option maxHeartbeats 64000001
open Go.Lib (hid)
namespace Go.Proofs.YtmfmgeapecapiaaGreatDoor.discloseShowSpec
open Go.ChangeShapes Go.WideShapes Go.ChangeAt Go.RowKit SzSha SzTree
set_option linter.unusedVariables false
set_option maxRecDepth 100000
theorem ind_nilS (w : World) : InD w none 0 0 [] := ⟨rfl, Nat.le_refl _, (fun _ => rfl), (fun x hx => by cases hx), fun h1 => by simp at h1⟩
/-- what both show: the same, but for where it lies -/
theorem both (t : Tr) (p : TrP) (i : Int) (w0 : World) (h0 : Hid (TrOk w0 t p)) (h1 : p.n ≤ 12) (h2 : p.n2 ≤ 12) : ∃ (j : Int) (x : Ln) (s : Dg) (ps : List Dg) (e : Int), DgOk s ∧ True ∧ ps.length ≤ 40 ∧
  (∀ w, Hid (TrOk w t p) → Hid (Tabs w) → Calls Tryz.prog 19 #[trV t p, .int .i64 i] w (fun e' w' => ∃ A n c, e' = .returned (.tuple #[.agg (shCL j x s A n c).toArray, .int .i64 e]) ∧ InD w' A n c ps ∧ Below w.heap.size w w')) ∧
  (∀ w, Hid (TrOk w t p) → Calls Tryz.prog 20 #[trV t p, .int .i64 i] w (fun e' w' => ∃ A n c, e' = .returned (.tuple #[.agg (shCL j x s A n c).toArray, .int .i64 e]) ∧ InD w' A n c ps ∧ Below w.heap.size w w')) := by
 have hno : (trG t = false ∨ i < 0 ∨ (p.n : Int) ≤ i) → ∃ (j : Int) (x : Ln) (s : Dg) (ps : List Dg) (e : Int), DgOk s ∧ True ∧ ps.length ≤ 40 ∧
  (∀ w, Hid (TrOk w t p) → Hid (Tabs w) → Calls Tryz.prog 19 #[trV t p, .int .i64 i] w (fun e' w' => ∃ A n c, e' = .returned (.tuple #[.agg (shCL j x s A n c).toArray, .int .i64 e]) ∧ InD w' A n c ps ∧ Below w.heap.size w w')) ∧
  (∀ w, Hid (TrOk w t p) → Calls Tryz.prog 20 #[trV t p, .int .i64 i] w (fun e' w' => ∃ A n c, e' = .returned (.tuple #[.agg (shCL j x s A n c).toArray, .int .i64 e]) ∧ InD w' A n c ps ∧ Below w.heap.size w w')) := fun hb =>
  ⟨0, ⟨0, 0, 0, 0, 0⟩, zeroD, [], 420, zeroD_ok, trivial, Nat.zero_le _,
   fun w h hT => (shwL_no t p i w h hT (hid hb)).mono fun e' w' hq => ⟨none, 0, 0, hq.1, ind_nilS _, hq.2⟩,
   fun w h => (rshL_no t p i w h (hid hb)).mono fun e' w' hq => ⟨none, 0, 0, hq.1, ind_nilS _, hq.2⟩⟩
 cases hg : trG t with
 | false => exact hno (.inl hg)
 | true =>
  by_cases hi : i < 0
  ·exact hno (.inr (.inl hi))
  by_cases hi2 : (p.n : Int) ≤ i
  ·exact hno (.inr (.inr hi2))
  obtain ⟨jn, rfl⟩ : ∃ k : Nat, i = (k : Int) := ⟨i.toNat, by omega⟩
  have hl := h0.out.ln.len
  have hj : jn < t.ln.length := by omega
  obtain ⟨x, hx⟩ : ∃ x, t.ln[jn] = x := ⟨_, rfl⟩
  have HX : Hid (t.ln[jn]? = some x) := hid (by rw [List.getElem?_eq_getElem hj, hx])
  refine ⟨(jn : Nat), x, saltN t.salt 1 (nLn x), pathD (t.ln.map (lvL t.salt)) jn, 0, saltN_ok _ _ _, trivial, by rw [pathD_length]; exact dirsD_40 _ (by rw [List.length_map]; omega), fun w h hT => shwL_yes t p jn x w h hT (hid hg) (by omega) HX, fun w h => rshL_yes t p jn x w h (hid hg) (by omega) HX⟩
theorem big (t : Tr) (p : TrP) (i : Int) (r : Rt) (i0 : Int) (x0 : Ln) (s0 : Dg) (A0 : Option Addr) (n0 c0 : Nat) (ps0 : List Dg) (w : World) (h : Hid (TrOk w t p)) (hT : Hid (Tabs w)) (hr : Hid (RtOk r)) (hx0 : Hid (True)) (hs0 : Hid (DgOk s0)) (hp0 : Hid (InD w A0 n0 c0 ps0)) (hf : ¬ (p.n ≤ 12 ∧ p.n2 ≤ 12)) :
  Calls Tryz.prog 4 #[trV t p, .int .i64 i, .agg (rtC r).toArray, .agg (shCL i0 x0 s0 A0 n0 c0).toArray] w fun e w' => e = .returned (.bool true) ∧ Below w.heap.size w w' := by
 have HIT := hid (trV_info t p h.out.len)
 have HIR := hid (rtC_info hr.out)
 have HI0 := hid (shCL_info (i := i0) (x := x0) (A := A0) (n := n0) (c := c0) hs0.out)
 have hb1 := (Below.refl _ w).alloc (Nat.le_refl _) (.cells (trC t p).toArray 27)
 have ha1 := heap_alloc_new w (.cells (trC t p).toArray 27)
 obtain ⟨V1, HV1⟩ : ∃ V, Hid (w.alloc (.cells (trC t p).toArray 27) = V) := ⟨_, hid rfl⟩
 rw [HV1.out] at hb1 ha1
 have hb2 := (Below.refl _ V1).alloc (Nat.le_refl _) (.cells (rtC r).toArray 43)
 have ha2 := row_kept ha1 hb2
 have hc2 := heap_alloc_new V1 (.cells (rtC r).toArray 43)
 obtain ⟨V2, HV2⟩ : ∃ V, Hid (V1.alloc (.cells (rtC r).toArray 43) = V) := ⟨_, hid rfl⟩
 rw [HV2.out] at hb2 ha2 hc2
 have hb3 := (Below.refl _ V2).alloc (Nat.le_refl _) (.cells (shCL i0 x0 s0 A0 n0 c0).toArray 48)
 have ha3 := row_kept ha2 hb3
 have hc3 := row_kept hc2 hb3
 have hd3 := heap_alloc_new V2 (.cells (shCL i0 x0 s0 A0 n0 c0).toArray 48)
 obtain ⟨V3, HV3⟩ : ∃ V, Hid (V2.alloc (.cells (shCL i0 x0 s0 A0 n0 c0).toArray 48) = V) := ⟨_, hid rfl⟩
 rw [HV3.out] at hb3 ha3 hc3 hd3
 have hb12 := hb1.trans (hb2.mono hb1.size)
 have hb := hb12.trans (hb3.mono hb12.size)
 have RT0 := hid ha3
 have RR0 := hid hc3
 have RS0 := hid hd3
 have KO0 := hid (h.out.below hb)
 have KT0 := hid (hT.out.below hb)
 have KP0 := hid (hp0.out.below hb)
 have HB0 := hid hb
 clear hb1 ha1 hb2 ha2 hc2 hb3 ha3 hc3 hd3 hb12 hb
 rw [show trV t p = .agg (trC t p).toArray from rfl]
 go_enter Tryz.func4, Tryz.ntmps4
 go_wp2_with (first | (rw [HV1.out]) | (rw [HV2.out]) | (rw [HV3.out]))
 refine (sane42 _ KT0).mono ?_
 rintro e U1 ⟨rfl, hq⟩
 have HB2 := hid (HB0.out.trans (hq.mono HB0.out.size))
 have RT2 := hid (row_kept RT0.out hq)
 have RR2 := hid (row_kept RR0.out hq)
 have RS2 := hid (row_kept RS0.out hq)
 have KO2 := hid (KO0.out.below hq)
 have KT2 := hid (KT0.out.below hq)
 have KP2 := hid (KP0.out.below hq)
 clear hq HB0 RT0 RR0 RS0 KO0 KT0 KP0
 go_wp2_with (refine wpList_load_row rfl 27 (.tmp 4) rfl (w.heap.size) rfl 27 _ (0, 0) _ RT2.out Tryz.underlying27 rfl HIT.out ?_)
 rw [show Value.agg (trC t p).toArray = trV t p from rfl]
 refine (few_no t p _ hf).mono ?_
 rintro e U3 ⟨rfl, hq⟩
 have HB4 := hid (HB2.out.trans (hq.mono HB2.out.size))
 have RT4 := hid (row_kept RT2.out hq)
 have RR4 := hid (row_kept RR2.out hq)
 have RS4 := hid (row_kept RS2.out hq)
 have KO4 := hid (KO2.out.below hq)
 have KT4 := hid (KT2.out.below hq)
 have KP4 := hid (KP2.out.below hq)
 clear hq HB2 RT2 RR2 RS2 KO2 KT2 KP2
 go_wp2_with fail
 go_ret
 exact ⟨rfl, HB4.out⟩
theorem long (t : Tr) (p : TrP) (i : Int) (r : Rt) (i0 : Int) (x0 : Ln) (s0 : Dg) (A0 : Option Addr) (n0 c0 : Nat) (ps0 : List Dg) (w : World) (h : Hid (TrOk w t p)) (hT : Hid (Tabs w)) (hr : Hid (RtOk r)) (hx0 : Hid (True)) (hs0 : Hid (DgOk s0)) (hp0 : Hid (InD w A0 n0 c0 ps0)) (h1 : p.n ≤ 12) (h2 : p.n2 ≤ 12) (hn : ¬ n0 ≤ 50) :
  Calls Tryz.prog 4 #[trV t p, .int .i64 i, .agg (rtC r).toArray, .agg (shCL i0 x0 s0 A0 n0 c0).toArray] w fun e w' => e = .returned (.bool true) ∧ Below w.heap.size w w' := by
 have d5 : decide ((50 : Int) < (n0 : Int)) = true := eQ (by omega)
 have d5n : decide (50 < n0) = true := eQ (by omega)
 have HIT := hid (trV_info t p h.out.len)
 have HIR := hid (rtC_info hr.out)
 have HI0 := hid (shCL_info (i := i0) (x := x0) (A := A0) (n := n0) (c := c0) hs0.out)
 have hb1 := (Below.refl _ w).alloc (Nat.le_refl _) (.cells (trC t p).toArray 27)
 have ha1 := heap_alloc_new w (.cells (trC t p).toArray 27)
 obtain ⟨V1, HV1⟩ : ∃ V, Hid (w.alloc (.cells (trC t p).toArray 27) = V) := ⟨_, hid rfl⟩
 rw [HV1.out] at hb1 ha1
 have hb2 := (Below.refl _ V1).alloc (Nat.le_refl _) (.cells (rtC r).toArray 43)
 have ha2 := row_kept ha1 hb2
 have hc2 := heap_alloc_new V1 (.cells (rtC r).toArray 43)
 obtain ⟨V2, HV2⟩ : ∃ V, Hid (V1.alloc (.cells (rtC r).toArray 43) = V) := ⟨_, hid rfl⟩
 rw [HV2.out] at hb2 ha2 hc2
 have hb3 := (Below.refl _ V2).alloc (Nat.le_refl _) (.cells (shCL i0 x0 s0 A0 n0 c0).toArray 48)
 have ha3 := row_kept ha2 hb3
 have hc3 := row_kept hc2 hb3
 have hd3 := heap_alloc_new V2 (.cells (shCL i0 x0 s0 A0 n0 c0).toArray 48)
 obtain ⟨V3, HV3⟩ : ∃ V, Hid (V2.alloc (.cells (shCL i0 x0 s0 A0 n0 c0).toArray 48) = V) := ⟨_, hid rfl⟩
 rw [HV3.out] at hb3 ha3 hc3 hd3
 have hb12 := hb1.trans (hb2.mono hb1.size)
 have hb := hb12.trans (hb3.mono hb12.size)
 have RT0 := hid ha3
 have RR0 := hid hc3
 have RS0 := hid hd3
 have KO0 := hid (h.out.below hb)
 have KT0 := hid (hT.out.below hb)
 have KP0 := hid (hp0.out.below hb)
 have HB0 := hid hb
 clear hb1 ha1 hb2 ha2 hc2 hb3 ha3 hc3 hd3 hb12 hb
 rw [show trV t p = .agg (trC t p).toArray from rfl]
 go_enter Tryz.func4, Tryz.ntmps4
 go_wp2_with (first | (rw [HV1.out]) | (rw [HV2.out]) | (rw [HV3.out]))
 refine (sane42 _ KT0).mono ?_
 rintro e U1 ⟨rfl, hq⟩
 have HB2 := hid (HB0.out.trans (hq.mono HB0.out.size))
 have RT2 := hid (row_kept RT0.out hq)
 have RR2 := hid (row_kept RR0.out hq)
 have RS2 := hid (row_kept RS0.out hq)
 have KO2 := hid (KO0.out.below hq)
 have KT2 := hid (KT0.out.below hq)
 have KP2 := hid (KP0.out.below hq)
 clear hq HB0 RT0 RR0 RS0 KO0 KT0 KP0
 go_wp2_with (refine wpList_load_row rfl 27 (.tmp 4) rfl (w.heap.size) rfl 27 _ (0, 0) _ RT2.out Tryz.underlying27 rfl HIT.out ?_)
 rw [show Value.agg (trC t p).toArray = trV t p from rfl]
 refine (few_yes t p _ h1 h2).mono ?_
 rintro e U3 ⟨rfl, hq⟩
 have HB4 := hid (HB2.out.trans (hq.mono HB2.out.size))
 have RT4 := hid (row_kept RT2.out hq)
 have RR4 := hid (row_kept RR2.out hq)
 have RS4 := hid (row_kept RS2.out hq)
 have KO4 := hid (KO2.out.below hq)
 have KT4 := hid (KT2.out.below hq)
 have KP4 := hid (KP2.out.below hq)
 clear hq HB2 RT2 RR2 RS2 KO2 KT2 KP2
 have kp := shCL_p hs0.out RS4.out
 go_wp2_with fail
 go_ret
 exact ⟨rfl, HB4.out⟩
def wSsL (t : Tr) (p : TrP) (r : Rt) (ro : Rt) (i0 : Int) (x0 : Ln) (s0 : Dg) (A0 : Option Addr) (n0 : Nat) (c0 : Nat) (jj : Int) (x : Ln) (s : Dg) (A2 : Option Addr) (n1 : Nat) (c2 : Nat) (a : Int) (b : Int) (d : Int) : Nat → Value → World → Prop
 | 0, fv, _ => fv = .agg (rtC r).toArray
 | 1, fv, _ => fv = .agg (shCL i0 x0 s0 A0 n0 c0).toArray
 | 2, fv, _ => fv = .int .i64 a
 | 3, fv, _ => fv = .agg (rtC r).toArray
 | 4, fv, _ => fv = .agg (shCL i0 x0 s0 A0 n0 c0).toArray
 | 5, fv, _ => fv = .int .i64 a
 | 6, fv, _ => fv = .bool true
 | 7, fv, _ => fv = .bool true
 | 8, fv, _ => fv = .agg (rtC r).toArray
 | 9, fv, _ => fv = .agg (shCL jj x s A2 n1 c2).toArray
 | 10, fv, _ => fv = .int .i64 b
 | 11, fv, _ => fv = .agg (rtC r).toArray
 | 12, fv, _ => fv = .agg (shCL jj x s A2 n1 c2).toArray
 | 13, fv, _ => fv = .int .i64 b
 | 14, fv, _ => fv = .bool true
 | 15, fv, _ => fv = .bool true
 | 16, fv, _ => fv = .bool true
 | 17, fv, _ => fv = trV t p
 | 18, fv, _ => fv = .agg (rtC ro).toArray
 | 19, fv, _ => fv = .agg (shCL jj x s A2 n1 c2).toArray
 | 20, fv, _ => fv = .int .i64 d
 | 21, fv, _ => fv = trV t p
 | 22, fv, _ => fv = .agg (rtC ro).toArray
 | 23, fv, _ => fv = .agg (shCL jj x s A2 n1 c2).toArray
 | 24, fv, _ => fv = .int .i64 d
 | 25, fv, _ => fv = .bool true
 | 26, fv, _ => fv = .bool true
 | 27, fv, _ => fv = .bool true
 | _, _, _ => True
theorem wSsL_below {t : Tr} {p : TrP} {r : Rt} {ro : Rt} {i0 : Int} {x0 : Ln} {s0 : Dg} {A0 : Option Addr} {n0 : Nat} {c0 : Nat} {jj : Int} {x : Ln} {s : Dg} {A2 : Option Addr} {n1 : Nat} {c2 : Nat} {a : Int} {b : Int} {d : Int} {w w' : World} (hb : Below w.heap.size w w') : ∀ j v, wSsL t p r ro i0 x0 s0 A0 n0 c0 jj x s A2 n1 c2 a b d j v w → wSsL t p r ro i0 x0 s0 A0 n0 c0 jj x s A2 n1 c2 a b d j v w'
 | 0, v, h => h
 | 1, v, h => h
 | 2, v, h => h
 | 3, v, h => h
 | 4, v, h => h
 | 5, v, h => h
 | 6, v, h => h
 | 7, v, h => h
 | 8, v, h => h
 | 9, v, h => h
 | 10, v, h => h
 | 11, v, h => h
 | 12, v, h => h
 | 13, v, h => h
 | 14, v, h => h
 | 15, v, h => h
 | 16, v, h => h
 | 17, v, h => h
 | 18, v, h => h
 | 19, v, h => h
 | 20, v, h => h
 | 21, v, h => h
 | 22, v, h => h
 | 23, v, h => h
 | 24, v, h => h
 | 25, v, h => h
 | 26, v, h => h
 | 27, v, h => h
 | n + 28, v, h => trivial
theorem good (t : Tr) (p : TrP) (i : Int) (r : Rt) (i0 : Int) (x0 : Ln) (s0 : Dg) (A0 : Option Addr) (n0 c0 : Nat) (ps0 : List Dg) (w : World) (h : Hid (TrOk w t p)) (hT : Hid (Tabs w)) (hr : Hid (RtOk r)) (hx0 : Hid (True)) (hs0 : Hid (DgOk s0)) (hp0 : Hid (InD w A0 n0 c0 ps0)) (h1 : p.n ≤ 12) (h2 : p.n2 ≤ 12) (hn : n0 ≤ 50) :
  Calls Tryz.prog 4 #[trV t p, .int .i64 i, .agg (rtC r).toArray, .agg (shCL i0 x0 s0 A0 n0 c0).toArray] w fun e w' => e = .returned (.bool true) ∧ Below w.heap.size w w' := by
 have d5 : decide ((50 : Int) < (n0 : Int)) = false := dQ (by omega)
 have d5n : decide (50 < n0) = false := dQ (by omega)
 obtain ⟨j, x, s, ps, e0, hs, hx, hpl, q1, q2⟩ := both t p i w h h1 h2
 have HSO := hid hs
 have HXO := hid hx
 have HPL := hid hpl
 have HQ1 := hid q1
 have HQ2 := hid q2
 have dee : ((e0 : Int) != (e0 : Int)) = false := by simp
 clear hs hx hpl q1 q2
 obtain ⟨ro, HRO⟩ : ∃ q, Hid (rtOf (p.n : Nat) (p.n2 : Nat) (lstL t) (lstK t) = q) := ⟨_, hid rfl⟩
 have HROK : Hid (RtOk ro) := hid (by rw [← HRO.out]; exact rtOf_ok (by constructor <;> omega) (by constructor <;> omega) (lstL_ok t) (lstK_ok t))
 obtain ⟨a, HA⟩ : ∃ q, Hid (vfE (vLn x0) (lfL x0 s0) i0 r.lin ps0 r.listed = q) := ⟨_, hid rfl⟩
 obtain ⟨b, HBV⟩ : ∃ q, Hid (vfE (vLn x) (lfL x s) j r.lin ps r.listed = q) := ⟨_, hid rfl⟩
 obtain ⟨d, HDV⟩ : ∃ q, Hid (vfE (vLn x) (lfL x s) j ro.lin ps ro.listed = q) := ⟨_, hid rfl⟩
 have HIT := hid (trV_info t p h.out.len)
 have HIR := hid (rtC_info hr.out)
 have HI0 := hid (shCL_info (i := i0) (x := x0) (A := A0) (n := n0) (c := c0) hs0.out)
 have hb1 := (Below.refl _ w).alloc (Nat.le_refl _) (.cells (trC t p).toArray 27)
 have ha1 := heap_alloc_new w (.cells (trC t p).toArray 27)
 obtain ⟨V1, HV1⟩ : ∃ V, Hid (w.alloc (.cells (trC t p).toArray 27) = V) := ⟨_, hid rfl⟩
 rw [HV1.out] at hb1 ha1
 have hb2 := (Below.refl _ V1).alloc (Nat.le_refl _) (.cells (rtC r).toArray 43)
 have ha2 := row_kept ha1 hb2
 have hc2 := heap_alloc_new V1 (.cells (rtC r).toArray 43)
 obtain ⟨V2, HV2⟩ : ∃ V, Hid (V1.alloc (.cells (rtC r).toArray 43) = V) := ⟨_, hid rfl⟩
 rw [HV2.out] at hb2 ha2 hc2
 have hb3 := (Below.refl _ V2).alloc (Nat.le_refl _) (.cells (shCL i0 x0 s0 A0 n0 c0).toArray 48)
 have ha3 := row_kept ha2 hb3
 have hc3 := row_kept hc2 hb3
 have hd3 := heap_alloc_new V2 (.cells (shCL i0 x0 s0 A0 n0 c0).toArray 48)
 obtain ⟨V3, HV3⟩ : ∃ V, Hid (V2.alloc (.cells (shCL i0 x0 s0 A0 n0 c0).toArray 48) = V) := ⟨_, hid rfl⟩
 rw [HV3.out] at hb3 ha3 hc3 hd3
 have hb12 := hb1.trans (hb2.mono hb1.size)
 have hb := hb12.trans (hb3.mono hb12.size)
 have RT0 := hid ha3
 have RR0 := hid hc3
 have RS0 := hid hd3
 have KO0 := hid (h.out.below hb)
 have KT0 := hid (hT.out.below hb)
 have KP0 := hid (hp0.out.below hb)
 have HB0 := hid hb
 clear hb1 ha1 hb2 ha2 hc2 hb3 ha3 hc3 hd3 hb12 hb
 rw [show trV t p = .agg (trC t p).toArray from rfl]
 go_enter Tryz.func4, Tryz.ntmps4
 go_wp2_with (first | (rw [HV1.out]) | (rw [HV2.out]) | (rw [HV3.out]))
 refine (sane42 _ KT0).mono ?_
 rintro e U1 ⟨rfl, hq⟩
 have HB2 := hid (HB0.out.trans (hq.mono HB0.out.size))
 have RT2 := hid (row_kept RT0.out hq)
 have RR2 := hid (row_kept RR0.out hq)
 have RS2 := hid (row_kept RS0.out hq)
 have KO2 := hid (KO0.out.below hq)
 have KT2 := hid (KT0.out.below hq)
 have KP2 := hid (KP0.out.below hq)
 clear hq HB0 RT0 RR0 RS0 KO0 KT0 KP0
 go_wp2_with (refine wpList_load_row rfl 27 (.tmp 4) rfl (w.heap.size) rfl 27 _ (0, 0) _ RT2.out Tryz.underlying27 rfl HIT.out ?_)
 rw [show Value.agg (trC t p).toArray = trV t p from rfl]
 refine (few_yes t p _ h1 h2).mono ?_
 rintro e U3 ⟨rfl, hq⟩
 have HB4 := hid (HB2.out.trans (hq.mono HB2.out.size))
 have RT4 := hid (row_kept RT2.out hq)
 have RR4 := hid (row_kept RR2.out hq)
 have RS4 := hid (row_kept RS2.out hq)
 have KO4 := hid (KO2.out.below hq)
 have KT4 := hid (KT2.out.below hq)
 have KP4 := hid (KP2.out.below hq)
 clear hq HB2 RT2 RR2 RS2 KO2 KT2 KP2
 have kp := shCL_p hs0.out RS4.out
 go_wp2_with (refine wpList_load_row rfl 27 (.tmp 4) rfl (w.heap.size) rfl 27 _ (0, 0) _ RT4.out Tryz.underlying27 rfl HIT.out ?_)
 clear kp
 rw [show Value.agg (trC t p).toArray = trV t p from rfl]
 have HIZ := hid (shCL_info (i := 0) (x := ⟨0, 0, 0, 0, 0⟩) (A := none) (n := 0) (c := 0) zeroD_ok)
 have HZS : Hid ((#[.int .i64 0, .int .i64 0, .int .i64 0, .int .i64 0, .int .i64 0, .int .i64 0, .int .u8 0, .int .u8 0, .int .u8 0, .int .u8 0, .int .u8 0, .int .u8 0, .int .u8 0, .int .u8 0, .int .u8 0, .int .u8 0, .int .u8 0, .int .u8 0, .int .u8 0, .int .u8 0, .int .u8 0, .int .u8 0, .int .u8 0, .int .u8 0, .int .u8 0, .int .u8 0, .int .u8 0, .int .u8 0, .int .u8 0, .int .u8 0, .int .u8 0, .int .u8 0, .int .u8 0, .int .u8 0, .int .u8 0, .int .u8 0, .int .u8 0, .int .u8 0, .slice none 0 0] : Array Value).size = (shCL 0 ⟨0, 0, 0, 0, 0⟩ zeroD none 0 0).toArray.size) := hid (by rw [zshL])
 refine (HQ1.out _ KO4 KT4).mono ?_
 rintro e U5 ⟨A1, n1, c1, rfl, hin, hq⟩
 have KFX0 := hid hin
 clear hin
 have HB6 := hid (HB4.out.trans (hq.mono HB4.out.size))
 have RT6 := hid (row_kept RT4.out hq)
 have RR6 := hid (row_kept RR4.out hq)
 have RS6 := hid (row_kept RS4.out hq)
 have KO6 := hid (KO4.out.below hq)
 have KT6 := hid (KT4.out.below hq)
 have KP6 := hid (KP4.out.below hq)
 clear hq HB4 RT4 RR4 RS4 KO4 KT4 KP4
 have HIX := hid (shCL_info (i := j) (x := x) (A := A1) (n := n1) (c := c1) HSO.out)
 have HZX : Hid ((#[.int .i64 0, .int .i64 0, .int .i64 0, .int .i64 0, .int .i64 0, .int .i64 0, .int .u8 0, .int .u8 0, .int .u8 0, .int .u8 0, .int .u8 0, .int .u8 0, .int .u8 0, .int .u8 0, .int .u8 0, .int .u8 0, .int .u8 0, .int .u8 0, .int .u8 0, .int .u8 0, .int .u8 0, .int .u8 0, .int .u8 0, .int .u8 0, .int .u8 0, .int .u8 0, .int .u8 0, .int .u8 0, .int .u8 0, .int .u8 0, .int .u8 0, .int .u8 0, .int .u8 0, .int .u8 0, .int .u8 0, .int .u8 0, .int .u8 0, .int .u8 0, .slice none 0 0] : Array Value).size = (shCL j x s A1 n1 c1).toArray.size) := hid (by have h1 := HIZ.out; have h2 := HIX.out; rw [h1] at h2; rw [HZS.out]; exact (Option.some.inj h2))
 obtain ⟨V7, HV7, hw, hb⟩ := lay_row U5 48 #[.int .i64 0, .int .i64 0, .int .i64 0, .int .i64 0, .int .i64 0, .int .i64 0, .int .u8 0, .int .u8 0, .int .u8 0, .int .u8 0, .int .u8 0, .int .u8 0, .int .u8 0, .int .u8 0, .int .u8 0, .int .u8 0, .int .u8 0, .int .u8 0, .int .u8 0, .int .u8 0, .int .u8 0, .int .u8 0, .int .u8 0, .int .u8 0, .int .u8 0, .int .u8 0, .int .u8 0, .int .u8 0, .int .u8 0, .int .u8 0, .int .u8 0, .int .u8 0, .int .u8 0, .int .u8 0, .int .u8 0, .int .u8 0, .int .u8 0, .int .u8 0, .slice none 0 0] (shCL j x s A1 n1 c1).toArray
 have HB8 := hid (HB6.out.trans (hb.mono HB6.out.size))
 have RT8 := hid (row_kept RT6.out hb)
 have RR8 := hid (row_kept RR6.out hb)
 have RS8 := hid (row_kept RS6.out hb)
 have KO8 := hid (KO6.out.below hb)
 have KT8 := hid (KT6.out.below hb)
 have KP8 := hid (KP6.out.below hb)
 have KFX8 := hid (KFX0.out.below hb)
 have RX7 := hid hw
 clear hw hb HB6 RT6 RR6 RS6 KO6 KT6 KP6 KFX0
 go_wp2_with (first | (refine wpList_store_row rfl 48 (.tmp 9) (.tmp 28) rfl U5.heap.size (shCL j x s A1 n1 c1).toArray rfl rfl 48 _ (heap_alloc_new U5 _) HIX.out HZX.out (shCL_one _ _ _ _ _ _) ?_; rw [HV7.out]) | (refine wpList_load_row rfl 27 (.tmp 4) rfl (w.heap.size) rfl 27 _ (0, 0) _ RT8.out Tryz.underlying27 rfl HIT.out ?_))
 rw [show Value.agg (trC t p).toArray = trV t p from rfl]
 refine (HQ2.out _ KO8).mono ?_
 rintro e U9 ⟨A2, n2, c2, rfl, hin, hq⟩
 have hnn : n1 = n2 := by rw [← hin.len, ← KFX8.out.len]
 subst hnn
 have KFY0 := hid hin
 clear hin
 have HB10 := hid (HB8.out.trans (hq.mono HB8.out.size))
 have RT10 := hid (row_kept RT8.out hq)
 have RR10 := hid (row_kept RR8.out hq)
 have RS10 := hid (row_kept RS8.out hq)
 have RX10 := hid (row_kept RX7.out hq)
 have KO10 := hid (KO8.out.below hq)
 have KT10 := hid (KT8.out.below hq)
 have KP10 := hid (KP8.out.below hq)
 have KFX10 := hid (KFX8.out.below hq)
 clear hq HB8 RT8 RR8 RS8 RX7 KO8 KT8 KP8 KFX8
 have HIY := hid (shCL_info (i := j) (x := x) (A := A2) (n := n1) (c := c2) HSO.out)
 have HZY : Hid ((#[.int .i64 0, .int .i64 0, .int .i64 0, .int .i64 0, .int .i64 0, .int .i64 0, .int .u8 0, .int .u8 0, .int .u8 0, .int .u8 0, .int .u8 0, .int .u8 0, .int .u8 0, .int .u8 0, .int .u8 0, .int .u8 0, .int .u8 0, .int .u8 0, .int .u8 0, .int .u8 0, .int .u8 0, .int .u8 0, .int .u8 0, .int .u8 0, .int .u8 0, .int .u8 0, .int .u8 0, .int .u8 0, .int .u8 0, .int .u8 0, .int .u8 0, .int .u8 0, .int .u8 0, .int .u8 0, .int .u8 0, .int .u8 0, .int .u8 0, .int .u8 0, .slice none 0 0] : Array Value).size = (shCL j x s A2 n1 c2).toArray.size) := hid (by have h1 := HIZ.out; have h2 := HIY.out; rw [h1] at h2; rw [HZS.out]; exact (Option.some.inj h2))
 obtain ⟨V11, HV11, hw, hb⟩ := lay_row U9 48 #[.int .i64 0, .int .i64 0, .int .i64 0, .int .i64 0, .int .i64 0, .int .i64 0, .int .u8 0, .int .u8 0, .int .u8 0, .int .u8 0, .int .u8 0, .int .u8 0, .int .u8 0, .int .u8 0, .int .u8 0, .int .u8 0, .int .u8 0, .int .u8 0, .int .u8 0, .int .u8 0, .int .u8 0, .int .u8 0, .int .u8 0, .int .u8 0, .int .u8 0, .int .u8 0, .int .u8 0, .int .u8 0, .int .u8 0, .int .u8 0, .int .u8 0, .int .u8 0, .int .u8 0, .int .u8 0, .int .u8 0, .int .u8 0, .int .u8 0, .int .u8 0, .slice none 0 0] (shCL j x s A2 n1 c2).toArray
 have HB12 := hid (HB10.out.trans (hb.mono HB10.out.size))
 have RT12 := hid (row_kept RT10.out hb)
 have RR12 := hid (row_kept RR10.out hb)
 have RS12 := hid (row_kept RS10.out hb)
 have RX12 := hid (row_kept RX10.out hb)
 have KO12 := hid (KO10.out.below hb)
 have KT12 := hid (KT10.out.below hb)
 have KP12 := hid (KP10.out.below hb)
 have KFX12 := hid (KFX10.out.below hb)
 have KFY12 := hid (KFY0.out.below hb)
 have RY11 := hid hw
 clear hw hb HB10 RT10 RR10 RS10 RX10 KO10 KT10 KP10 KFX10 KFY0
 have HN1 : Hid (n1 ≤ 100000) := hid (by rw [← KFX12.out.len]; have := HPL.out; omega)
 go_wp2_with (first | (refine wpList_store_row rfl 48 (.tmp 11) (.tmp 34) rfl U9.heap.size (shCL j x s A2 n1 c2).toArray rfl rfl 48 _ (heap_alloc_new U9 _) HIY.out HZY.out (shCL_one _ _ _ _ _ _) ?_; rw [HV11.out]) | (refine wpList_load_row rfl 48 (.tmp 9) rfl (U5.heap.size) rfl 48 _ (0, 0) _ RX12.out Tryz.underlying48 rfl HIX.out ?_) | (refine wpList_load_row rfl 48 (.tmp 11) rfl (U9.heap.size) rfl 48 _ (0, 0) _ RY11.out Tryz.underlying48 rfl HIY.out ?_))
 refine (rsameShL j x s ps A1 A2 n1 c1 c2 _ HSO HN1.out KFX12 KFY12).mono ?_
 rintro e U13 ⟨rfl, hq⟩
 have HB14 := hid (HB12.out.trans (hq.mono HB12.out.size))
 have RT14 := hid (row_kept RT12.out hq)
 have RR14 := hid (row_kept RR12.out hq)
 have RS14 := hid (row_kept RS12.out hq)
 have RX14 := hid (row_kept RX12.out hq)
 have RY14 := hid (row_kept RY11.out hq)
 have KO14 := hid (KO12.out.below hq)
 have KT14 := hid (KT12.out.below hq)
 have KP14 := hid (KP12.out.below hq)
 have KFX14 := hid (KFX12.out.below hq)
 have KFY14 := hid (KFY12.out.below hq)
 clear hq HB12 RT12 RR12 RS12 RX12 RY11 KO12 KT12 KP12 KFX12 KFY12
 go_wp2_with fail
 have HBL := hid (fun (a1 a2 : World) (hb : Below a1.heap.size a1 a2) => wSsL_below (t := t) (p := p) (r := r) (ro := ro) (i0 := i0) (x0 := x0) (s0 := s0) (A0 := A0) (n0 := n0) (c0 := c0) (jj := j) (x := x) (s := s) (A2 := A2) (n1 := n1) (c2 := c2) (a := a) (b := b) (d := d) hb)
 refine region_flow3 (by kernel_rfl) (by kernel_rfl) (fun i => Nat.beq i 27) (fun i => i) (by kernel_rfl) (fun fx => #[trV t p, .int IntKind.i64 i, .agg (rtC r).toArray, .agg (shCL i0 x0 s0 A0 n0 c0).toArray, .pointer (some { block := w.heap.size, off := 0 }), undef, .pointer (some { block := V1.heap.size, off := 0 }), .pointer (some { block := V2.heap.size, off := 0 }), fx 27, .pointer (some { block := U5.heap.size, off := 0 }), .int IntKind.i64 e0, .pointer (some { block := U9.heap.size, off := 0 }), .int IntKind.i64 e0, .bool true, .bool false, trV t p, .bool true, .bool false, .bool false, .pointer (some { block := V2.heap.size, off := 38 }), .slice A0 n0 c0, .int IntKind.i64 ↑n0, .bool false, .bool false, .tuple #[.agg (shCL j x s A1 n1 c1).toArray, .int IntKind.i64 e0], trV t p, .int IntKind.i64 i, .tuple #[.agg (shCL j x s A1 n1 c1).toArray, .int IntKind.i64 e0], .agg (shCL j x s A1 n1 c1).toArray, .int IntKind.i64 e0, .tuple #[.agg (shCL j x s A2 n1 c2).toArray, .int IntKind.i64 e0], trV t p, .int IntKind.i64 i, .tuple #[.agg (shCL j x s A2 n1 c2).toArray, .int IntKind.i64 e0], .agg (shCL j x s A2 n1 c2).toArray, .int IntKind.i64 e0, .agg (shCL j x s A1 n1 c1).toArray, .agg (shCL j x s A2 n1 c2).toArray, .bool true, .bool false, .bool false, .int IntKind.i64 e0, .int IntKind.i64 e0, .bool false, .bool false, fx 0, fx 1, fx 2, fx 3, fx 4, fx 5, fx 6, fx 7, fx 8, fx 9, fx 10, fx 11, fx 12, fx 13, fx 14, fx 15, fx 16, fx 17, fx 18, fx 19, fx 20, fx 21, fx 22, fx 23, fx 24, fx 25, fx 26]) (fun i => bif Nat.beq i 27 then Value.bool false else undef) (fun L fx w' => Below U13.heap.size U13 w') (fun fi fv _ fw => wSsL t p r ro i0 x0 s0 A0 n0 c0 j x s A2 n1 c2 a b d fi fv fw) (Below.refl _ _).drew ?_ ?_
 ·refine ⟨?_, ?_, ?_, ?_, ?_, ?_, ?_, ?_, ?_, ?_, ?_, ?_, ?_, ?_, ?_, ?_, ?_, ?_, ?_, ?_, ?_, ?_, ?_, ?_, ?_, ?_, ?_, ?_, trivial⟩
  all_goals intro L fx w' hC hi hcl hdn hd
  ·have hrow := row_kept RR14.out hC
   refine wpList_load_row rfl 43 (.tmp 6) rfl (V1.heap.size) rfl 43 _ (0, 0) _ hrow Tryz.underlying43 rfl HIR.out ?_
   clear hd
   go_wp2_with fail
   exact ⟨_, rfl, hC, rfl, kP⟩
  ·have hrow := row_kept RS14.out hC
   refine wpList_load_row rfl 48 (.tmp 7) rfl (V2.heap.size) rfl 48 _ (0, 0) _ hrow Tryz.underlying48 rfl HI0.out ?_
   clear hd
   go_wp2_with fail
   exact ⟨_, rfl, hC, rfl, kP⟩
  ·have h0 : fx 0 = .agg (rtC r).toArray := hd.1 rfl
   have h1 : fx 1 = .agg (shCL i0 x0 s0 A0 n0 c0).toArray := hd.2.1 rfl
   have HTk := hid (KT14.out.below hC)
   have HPk := hid (KP14.out.below hC)
   go_wp2_with fail
   refine (verL r i0 x0 s0 A0 n0 c0 ps0 w' hs0 hr (by omega) HPk HTk).mono ?_
   rintro e w2 ⟨rfl, hq⟩
   rw [HA.out]
   clear hd
   go_wp2_with fail
   exact ⟨_, by simp only [upd, h0, h1]; rfl, hC.trans (hq.mono hC.size), rfl, fun j v t _ _ h => HBL.out _ _ hq j v h⟩
  ·have hrow := row_kept RR14.out hC
   refine wpList_load_row rfl 43 (.tmp 6) rfl (V1.heap.size) rfl 43 _ (0, 0) _ hrow Tryz.underlying43 rfl HIR.out ?_
   clear hd
   go_wp2_with fail
   exact ⟨_, rfl, hC, rfl, kP⟩
  ·have hrow := row_kept RS14.out hC
   refine wpList_load_row rfl 48 (.tmp 7) rfl (V2.heap.size) rfl 48 _ (0, 0) _ hrow Tryz.underlying48 rfl HI0.out ?_
   clear hd
   go_wp2_with fail
   exact ⟨_, rfl, hC, rfl, kP⟩
  ·have h3 : fx 3 = .agg (rtC r).toArray := hd.1 rfl
   have h4 : fx 4 = .agg (shCL i0 x0 s0 A0 n0 c0).toArray := hd.2.1 rfl
   have HPk := hid (KP14.out.below hC)
   go_wp2_with fail
   refine (rver_any r i0 x0 s0 A0 n0 c0 ps0 w' hs0 hr (by omega) HPk).mono ?_
   rintro e w2 ⟨rfl, hq⟩
   rw [HA.out]
   clear hd
   go_wp2_with fail
   exact ⟨_, by simp only [upd, h3, h4]; rfl, hC.trans (hq.mono hC.size), rfl, fun j v t _ _ h => HBL.out _ _ hq j v h⟩
  ·have h2 : fx 2 = .int .i64 a := hd.1 rfl
   have h5 : fx 5 = .int .i64 a := hd.2.1 rfl
   have de : (a == a) = true := beq_self_eq_true a
   clear hd
   go_wp2_with fail
   exact ⟨_, by simp only [upd, h2, h5]; rfl, hC, rfl, kP⟩
  ·have h6 : fx 6 = .bool true := hd.1 rfl
   clear hd
   go_wp2_with fail
   exact ⟨_, by simp only [upd, h6]; rfl, hC, rfl, kP⟩
  ·have h7 : fx 7 = .bool true := hd.1 rfl
   have hrow := row_kept RR14.out hC
   dsimp only
   rw [h7]
   refine wpList_unguard rfl ?_
   refine wpList_load_row rfl 43 (.tmp 6) rfl (V1.heap.size) rfl 43 _ (0, 0) _ hrow Tryz.underlying43 rfl HIR.out ?_
   clear hd
   go_wp2_with fail
   exact ⟨_, by simp only [upd, h7]; rfl, hC, rfl, kP⟩
  ·have h7 : fx 7 = .bool true := hd.1 rfl
   have hrow := row_kept RY14.out hC
   dsimp only
   rw [h7]
   refine wpList_unguard rfl ?_
   refine wpList_load_row rfl 48 (.tmp 11) rfl (U9.heap.size) rfl 48 _ (0, 0) _ hrow Tryz.underlying48 rfl HIY.out ?_
   clear hd
   go_wp2_with fail
   exact ⟨_, by simp only [upd, h7]; rfl, hC, rfl, kP⟩
  ·have h8 : fx 8 = .agg (rtC r).toArray := hd.1 rfl
   have h9 : fx 9 = .agg (shCL j x s A2 n1 c2).toArray := hd.2.1 rfl
   have h7 : fx 7 = .bool true := hd.2.2.2.1 rfl
   have HTk := hid (KT14.out.below hC)
   have HYk := hid (KFY14.out.below hC)
   dsimp only
   rw [h7]
   refine wpList_unguard rfl ?_
   go_wp2_with fail
   refine (verL r j x s A2 n1 c2 ps w' HSO hr HN1.out HYk HTk).mono ?_
   rintro e w2 ⟨rfl, hq⟩
   rw [HBV.out]
   clear hd
   go_wp2_with fail
   exact ⟨_, by simp only [upd, h8, h9, h7]; rfl, hC.trans (hq.mono hC.size), rfl, fun j v t _ _ h => HBL.out _ _ hq j v h⟩
  ·have h7 : fx 7 = .bool true := hd.1 rfl
   have hrow := row_kept RR14.out hC
   dsimp only
   rw [h7]
   refine wpList_unguard rfl ?_
   refine wpList_load_row rfl 43 (.tmp 6) rfl (V1.heap.size) rfl 43 _ (0, 0) _ hrow Tryz.underlying43 rfl HIR.out ?_
   clear hd
   go_wp2_with fail
   exact ⟨_, by simp only [upd, h7]; rfl, hC, rfl, kP⟩
  ·have h7 : fx 7 = .bool true := hd.1 rfl
   have hrow := row_kept RY14.out hC
   dsimp only
   rw [h7]
   refine wpList_unguard rfl ?_
   refine wpList_load_row rfl 48 (.tmp 11) rfl (U9.heap.size) rfl 48 _ (0, 0) _ hrow Tryz.underlying48 rfl HIY.out ?_
   clear hd
   go_wp2_with fail
   exact ⟨_, by simp only [upd, h7]; rfl, hC, rfl, kP⟩
  ·have h11 : fx 11 = .agg (rtC r).toArray := hd.1 rfl
   have h12 : fx 12 = .agg (shCL j x s A2 n1 c2).toArray := hd.2.1 rfl
   have h7 : fx 7 = .bool true := hd.2.2.2.1 rfl
   have HYk := hid (KFY14.out.below hC)
   dsimp only
   rw [h7]
   refine wpList_unguard rfl ?_
   go_wp2_with fail
   refine (rver_any r j x s A2 n1 c2 ps w' HSO hr HN1.out HYk).mono ?_
   rintro e w2 ⟨rfl, hq⟩
   rw [HBV.out]
   clear hd
   go_wp2_with fail
   exact ⟨_, by simp only [upd, h11, h12, h7]; rfl, hC.trans (hq.mono hC.size), rfl, fun j v t _ _ h => HBL.out _ _ hq j v h⟩
  ·have h10 : fx 10 = .int .i64 b := hd.1 rfl
   have h13 : fx 13 = .int .i64 b := hd.2.1 rfl
   have h7 : fx 7 = .bool true := hd.2.2.1 rfl
   have de : (b == b) = true := beq_self_eq_true b
   dsimp only
   rw [h7]
   refine wpList_unguard rfl ?_
   clear hd
   go_wp2_with fail
   exact ⟨_, by simp only [upd, h10, h13, h7]; rfl, hC, rfl, kP⟩
  ·have h7 : fx 7 = .bool true := hd.1 rfl
   have h14 : fx 14 = .bool true := hd.2.1 rfl
   clear hd
   go_wp2_with fail
   exact ⟨_, by simp only [upd, h7, h14]; rfl, hC, rfl, kP⟩
  ·have h15 : fx 15 = .bool true := hd.1 rfl
   clear hd
   go_wp2_with fail
   exact ⟨_, by simp only [upd, h15]; rfl, hC, rfl, kP⟩
  ·have h16 : fx 16 = .bool true := hd.1 rfl
   have hrow := row_kept RT14.out hC
   dsimp only
   rw [h16]
   refine wpList_unguard rfl ?_
   refine wpList_load_row rfl 27 (.tmp 4) rfl (w.heap.size) rfl 27 _ (0, 0) _ hrow Tryz.underlying27 rfl HIT.out ?_
   rw [show Value.agg (trC t p).toArray = trV t p from rfl]
   clear hd
   go_wp2_with fail
   exact ⟨_, by simp only [upd, h16]; rfl, hC, rfl, kP⟩
  ·have h17 : fx 17 = trV t p := hd.1 rfl
   have h16 : fx 16 = .bool true := hd.2.2.1 rfl
   have HOk := hid (KO14.out.below hC)
   dsimp only
   rw [h16]
   refine wpList_unguard rfl ?_
   go_wp2_with fail
   refine (rroot42_any t p w' HOk).mono ?_
   rintro e w2 ⟨rfl, hq⟩
   rw [HRO.out]
   clear hd
   go_wp2_with fail
   exact ⟨_, by simp only [upd, h17, h16]; rfl, hC.trans (hq.mono hC.size), rfl, fun j v t _ _ h => HBL.out _ _ hq j v h⟩
  ·have h16 : fx 16 = .bool true := hd.1 rfl
   have hrow := row_kept RY14.out hC
   dsimp only
   rw [h16]
   refine wpList_unguard rfl ?_
   refine wpList_load_row rfl 48 (.tmp 11) rfl (U9.heap.size) rfl 48 _ (0, 0) _ hrow Tryz.underlying48 rfl HIY.out ?_
   clear hd
   go_wp2_with fail
   exact ⟨_, by simp only [upd, h16]; rfl, hC, rfl, kP⟩
  ·have h18 : fx 18 = .agg (rtC ro).toArray := hd.1 rfl
   have h19 : fx 19 = .agg (shCL j x s A2 n1 c2).toArray := hd.2.1 rfl
   have h16 : fx 16 = .bool true := hd.2.2.2.1 rfl
   have HTk := hid (KT14.out.below hC)
   have HYk := hid (KFY14.out.below hC)
   dsimp only
   rw [h16]
   refine wpList_unguard rfl ?_
   go_wp2_with fail
   refine (verL ro j x s A2 n1 c2 ps w' HSO HROK HN1.out HYk HTk).mono ?_
   rintro e w2 ⟨rfl, hq⟩
   rw [HDV.out]
   clear hd
   go_wp2_with fail
   exact ⟨_, by simp only [upd, h18, h19, h16]; rfl, hC.trans (hq.mono hC.size), rfl, fun j v t _ _ h => HBL.out _ _ hq j v h⟩
  ·have h16 : fx 16 = .bool true := hd.1 rfl
   have hrow := row_kept RT14.out hC
   dsimp only
   rw [h16]
   refine wpList_unguard rfl ?_
   refine wpList_load_row rfl 27 (.tmp 4) rfl (w.heap.size) rfl 27 _ (0, 0) _ hrow Tryz.underlying27 rfl HIT.out ?_
   rw [show Value.agg (trC t p).toArray = trV t p from rfl]
   clear hd
   go_wp2_with fail
   exact ⟨_, by simp only [upd, h16]; rfl, hC, rfl, kP⟩
  ·have h21 : fx 21 = trV t p := hd.1 rfl
   have h16 : fx 16 = .bool true := hd.2.2.1 rfl
   have HOk := hid (KO14.out.below hC)
   dsimp only
   rw [h16]
   refine wpList_unguard rfl ?_
   go_wp2_with fail
   refine (rroot42_any t p w' HOk).mono ?_
   rintro e w2 ⟨rfl, hq⟩
   rw [HRO.out]
   clear hd
   go_wp2_with fail
   exact ⟨_, by simp only [upd, h21, h16]; rfl, hC.trans (hq.mono hC.size), rfl, fun j v t _ _ h => HBL.out _ _ hq j v h⟩
  ·have h16 : fx 16 = .bool true := hd.1 rfl
   have hrow := row_kept RY14.out hC
   dsimp only
   rw [h16]
   refine wpList_unguard rfl ?_
   refine wpList_load_row rfl 48 (.tmp 11) rfl (U9.heap.size) rfl 48 _ (0, 0) _ hrow Tryz.underlying48 rfl HIY.out ?_
   clear hd
   go_wp2_with fail
   exact ⟨_, by simp only [upd, h16]; rfl, hC, rfl, kP⟩
  ·have h22 : fx 22 = .agg (rtC ro).toArray := hd.1 rfl
   have h23 : fx 23 = .agg (shCL j x s A2 n1 c2).toArray := hd.2.1 rfl
   have h16 : fx 16 = .bool true := hd.2.2.2.1 rfl
   have HYk := hid (KFY14.out.below hC)
   dsimp only
   rw [h16]
   refine wpList_unguard rfl ?_
   go_wp2_with fail
   refine (rver_any ro j x s A2 n1 c2 ps w' HSO HROK HN1.out HYk).mono ?_
   rintro e w2 ⟨rfl, hq⟩
   rw [HDV.out]
   clear hd
   go_wp2_with fail
   exact ⟨_, by simp only [upd, h22, h23, h16]; rfl, hC.trans (hq.mono hC.size), rfl, fun j v t _ _ h => HBL.out _ _ hq j v h⟩
  ·have h20 : fx 20 = .int .i64 d := hd.1 rfl
   have h24 : fx 24 = .int .i64 d := hd.2.1 rfl
   have h16 : fx 16 = .bool true := hd.2.2.1 rfl
   have de : (d == d) = true := beq_self_eq_true d
   dsimp only
   rw [h16]
   refine wpList_unguard rfl ?_
   clear hd
   go_wp2_with fail
   exact ⟨_, by simp only [upd, h20, h24, h16]; rfl, hC, rfl, kP⟩
  ·have h16 : fx 16 = .bool true := hd.1 rfl
   have h25 : fx 25 = .bool true := hd.2.1 rfl
   clear hd
   go_wp2_with fail
   exact ⟨_, by simp only [upd, h16, h25]; rfl, hC, rfl, kP⟩
  ·have h26 : fx 26 = .bool true := hd.1 rfl
   clear hd
   go_wp2_with fail
   exact ⟨_, by simp only [upd, h26]; rfl, hC, rfl, kP⟩
 ·intro L fo w' hC hS
  have H27 := hid (hS 27 (by decide) rfl)
  have h27 : fo 27 = .bool true := H27.out
  rw [h27]
  have HBF := hid (HB14.out.trans (hC.mono HB14.out.size))
  clear hS hC h27 H27
  go_wp2_with fail
  go_ret
  exact ⟨rfl, HBF.out⟩
theorem walk (w : World) (hT : Tabs w) (t : Tr) (p : TrP) (h : TrOk w t p) (i : Int) (hi0 : -9223372036854775808 ≤ i) (hi1 : i ≤ 9223372036854775807) (r : Rt) (hr : RtOk r) (i0 : Int) (x0 : Ln) (s0 : List Nat) (A0 : Option Addr) (n0 c0 : Nat) (ps0 : List Dg) (hs : I64 i0 ∧ LnOk x0 ∧ DgOk s0 ∧ InD w A0 n0 c0 ps0 ∧ c0 ≤ maxLen) :
  Calls Tryz.prog 4 #[trV t p, .int .i64 i, .agg (rtC r).toArray, .agg (shCL i0 x0 s0 A0 n0 c0).toArray] w fun e w' => e = .returned (.bool true) ∧ Below w.heap.size w w' := by
 by_cases hf : p.n ≤ 12 ∧ p.n2 ≤ 12
 ·by_cases hn : n0 ≤ 50
  ·exact good t p i r i0 x0 s0 A0 n0 c0 ps0 w (hid h) (hid hT) (hid hr) (hid trivial) (hid hs.2.2.1) (hid hs.2.2.2.1) hf.1 hf.2 hn
  ·exact long t p i r i0 x0 s0 A0 n0 c0 ps0 w (hid h) (hid hT) (hid hr) (hid trivial) (hid hs.2.2.1) (hid hs.2.2.2.1) hf.1 hf.2 hn
 ·exact big t p i r i0 x0 s0 A0 n0 c0 ps0 w (hid h) (hid hT) (hid hr) (hid trivial) (hid hs.2.2.1) (hid hs.2.2.2.1) hf
set_option maxRecDepth 100000 in
theorem lifted (os : Os) (started : os.Started) (H : Type) (enc : TypeId × Value → H) :
  ReturnsInHanded {} Tryz.checked os 4 .any (fun w args => (Rows.discloseShowSpecSpec.pre enc Tryz.prog Tryz.f4 [] false w args ∧ laidMetH Tryz.prog laidL w) ∧ sizedMet enc Tryz.prog Tryz.f4 (OpenSpec.ofChange Rows.discloseShowSpecSpec) false w args)
   (Rows.discloseShowSpecSpec.post enc Tryz.prog Tryz.f4 false true false false) := by
 refine returnsInHanded_of_change_and (C := Tryz.checked) (X := fun w _ => laidMetH Tryz.prog laidL w) (fun _ _ _ hh h => h.of_heap hh) own started (by kernel_rfl) Tryz.func4
  (ChangeSpec.witness_shaped (enc := enc) (C := Tryz.checked) (os := os) (X := fun w _ => laidMetH Tryz.prog laidL w) false (World.doorLaid Tryz.prog 400 os) #[.agg (#[.int .i64 0, .int .i64 0, .int .i64 0, .int .i64 0, .slice none 0 0, .slice none 0 0] ++ Array.replicate 32 (.int .u8 0)), .int .i64 0, .agg (Array.replicate 6 (.int .i64 0) ++ (Array.replicate 32 (.int .u8 0) ++ #[.int .i64 0, .int .i64 0]) ++ Array.replicate 96 (.int .u8 0) ++ #[.int .i64 0, .int .i64 0]), .agg (Array.replicate 6 (.int .i64 0) ++ Array.replicate 32 (.int .u8 0) ++ #[.slice none 0 0])] 8 rfl (World.shaped_of_RefB (by kernel_rfl) (by kernel_rfl)) (by kernel_rfl) (by kernel_rfl) (by kernel_rfl) (door_met os _)) ?_
 intro W base args ds gs before hval0 hW _ hsz0 hL _
 have hval : ∀ (j : Nat) t v, Tryz.f4.params[j]? = some t → args[j]? = some v → Value.okWide Tryz.prog W .any base t v := hval0
 have hW' := hW
 obtain ⟨p, q, hA0, hV, rfl, hfz, hnd⟩ := hW
 have hA : DataW.TrodAll enc Tryz.prog W 0 (fun _ => true) true Tryz.f4.params.toList args.toList ds p := hA0
 have hsz : (DataW.weightsEach Tryz.prog (Tryz.f4.params.toList ++ Rows.discloseShowSpecSpec.plain.varTypes Tryz.prog) (ds ++ gs)).all (· ≤ reachBytes) = true := hsz0
 rw [Tryz.params4] at hA hval hsz
 obtain ⟨v0, vs0, d0, ds0, p0, q0, hargs, rfl, rfl, h0, r0⟩ := trodAll_cons hA
 obtain ⟨v1, vs1, d1, ds1, p1, q1, rfl, rfl, rfl, h1, r1⟩ := trodAll_cons r0
 obtain ⟨v2, vs2, d2, ds2, p2, q2, rfl, rfl, rfl, h2, r2⟩ := trodAll_cons r1
 obtain ⟨v3, vs3, d3, ds3, p3, q3, rfl, rfl, rfl, h3, r3⟩ := trodAll_cons r2
 obtain ⟨rfl, rfl, rfl⟩ := trodAll_nil r3
 obtain rfl : args = #[v0, v1, v2, v3] := by cases args; simp_all
 obtain ⟨rfl, rfl⟩ := trodVars_none hV
 obtain ⟨l0, y0, rfl, e0⟩ := arg_tr (hval 0 27 v0 rfl rfl) h0
 obtain ⟨a1, rfl, rfl, rfl, w1⟩ := open_int Tryz.underlying3 (hval 1 3 v1 rfl rfl) h1
 have b1 := bounds_i64 w1
 obtain ⟨l2, rfl, e2⟩ := arg_rt (hval 2 43 v2 rfl rfl) h2
 obtain ⟨i3, x3, s3, A3, n3, c3, l3, rfl, e3⟩ := arg_shL (hval 3 48 v3 rfl rfl) h3
 refine (walk W (tabs_of hL) l0 y0 e0 a1 b1.1 b1.2 l2 e2 i3 x3 s3 A3 n3 c3 l3 e3).mono fun e W' ⟨he, hg⟩ => ?_
 subst he
 exact ⟨_, rfl, law_post (by kernel_rfl) rfl rfl (fun _ => ⟨rfl, rfl, rfl⟩) hW' hg⟩
theorem over : Rows.discloseShowSpecRow.holds Tryz.pinned (OpenSpec.ofChange Rows.discloseShowSpecSpec) :=
 OpenClaim.holds_of_wide 4 Tryz.f4 rfl rfl rfl rfl rfl rfl rfl ⟨rfl, rfl, rfl, rfl, rfl⟩ rfl rfl rfl rfl rfl (by kernel_rfl) Tryz.func4 (by kernel_rfl)
  (of_decide_eq_true (by kernel_rfl)) (by unfold Func.isWrapper; first | (rw [if_pos (by decide +kernel)]; kernel_rfl) | (rw [if_neg (by decide +kernel)]; exact ⟨rfl, rfl⟩))
  (fun os started H enc _ => lifted os started H enc)
/-- THE STATEMENT: the card -/
theorem proved : Rows.DiscloseShowSpecCardSaid :=
 Claim7.holds_tied_plain_at .later [] [.data, .data] true Rows.discloseShowSpecCard.stood.harness true
  over (fun _ h => by cases h) (by kernel_rfl) (fun _ h => by cases h) discloseShowSpec_row_tie rfl ⟨rfl, rfl⟩ (by kernel_rfl) rfl
  (fun f fn hf hfn => by
   obtain rfl : f = 4 := Option.some.inj ((show Tryz.prog.funcNamed "sizar/sizarlaw42.DiscloseShowSpec" = some 4 by kernel_rfl).symm.trans hf) |>.symm
   obtain rfl : fn = Tryz.f4 := (Option.some.inj (Tryz.func4.symm.trans hfn)).symm
   exact ⟨by kernel_rfl, fun j t ht => stands_of (show Tryz.f4.params.all (fun t => !Tryz.prog.wantsStandIn t) = true by kernel_rfl) ht⟩)
  (by kernel_rfl)
#print axioms proved
end Go.Proofs.YtmfmgeapecapiaaGreatDoor.discloseShowSpec
