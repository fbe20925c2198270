/- DiscloseMets: for every transcript and every claim that is shown the law returns true: a claim that is verified against the digests is the one of the transcript, or two inputs have one hash. No conditions. -/
import Derived.Test.YtmfmgeapecapiaaDoorDT0
import Derived.Test.YtmfmgeapecapiaaDoorDT14
import Derived.Test.YtmfmgeapecapiaaDoorDT11
import Derived.Test.YtmfmgeapecapiaaDoorDT2
import Derived.Test.YtmfmgeapecapiaaDoorDT12
import Derived.Test.YtmfmgeapecapiaaDoorDT4
import Derived.Test.YtmfmgeapecapiaaDoorDT17
import Derived.Test.YtmfmgeapecapiaaDoorDT15
import Derived.Test.YtmfmgeapecapiaaDoorDT18
import Derived.Test.YtmfmgeapecapiaaDoorCards
import Derived.Test.YtmfmgeapecapiaaDoorTie
import Derived.Lib.SmallJoins
namespace Go.Proofs.YtmfmgeapecapiaaDoor.discloseMets
open Go.ChangeShapes Go.WideShapes Go.ChangeAt Go.RowKit SzSha SzTree
set_option linter.unusedVariables false
set_option maxRecDepth 100000
theorem flagN_inj {a b : Bool} (h : flagN a = flagN b) : a = b := by
  cases a <;> cases b <;> simp_all [flagN]
theorem flagN_bd (a : Bool) : 0 ≤ flagN a ∧ flagN a ≤ 1 := by cases a <;> decide
theorem cl_i64 {x : Cl} (h : ClOk x) : ∀ z ∈ ([x.p, x.r, flagN x.m] : List Int), -9223372036854775808 ≤ z ∧ z ≤ 9223372036854775807 := fun z hz => by
  simp only [List.mem_cons, List.not_mem_nil, or_false] at hz
  rcases hz with rfl | rfl | rfl
  · exact h.b0
  · exact h.b1
  · have := flagN_bd x.m
    omega
theorem clC_infoT (x : Cl) : (Tryd.prog.info? 49).map (·.size) = some (clC x).length := by show _ = some 3; kernel_rfl
theorem block_ltT {w : World} {g : Nat} {o : Obj} (h : w.heap[g]? = some o) : g < w.heap.size := (Array.getElem?_eq_some_iff.1 h).1
set_option maxHeartbeats 16000000 in
theorem big (t : Tr) (p : TrP) (i : Int) (x : Cl) (s : List Nat) (A : Option Addr) (n c : Nat) (ps : List Dg)  (w : World) (h : Hid (TrOk w t p)) (hs : Hid (DgOk s)) (hp : Hid (InD w A n c ps)) (hT : Hid (Tabs w)) (hf : ¬ (p.n ≤ 12 ∧ p.n2 ≤ 12)) :
    Calls Tryd.prog 5 #[trV t p, .agg (shCK i x s A n c).toArray] w fun e w' => e = .returned (.bool true) ∧ Below w.heap.size w w' := by
  have HIT : Hid ((Tryd.prog.info? 27).map (·.size) = some (trC t p).toArray.size) := Lib.hid (trV_info t p h.out.len)
  have HIS : Hid ((Tryd.prog.info? 51).map (·.size) = some (shCK i x s A n c).toArray.size) := Lib.hid (shCK_info hs.out)
  have hb0 := ((Below.refl _ w).alloc (Nat.le_refl _) (.cells (trC t p).toArray 27)).alloc (by simp) (.cells (shCK i x s A n c).toArray 51)
  have hr0 := row_kept (heap_alloc_new w (.cells (trC t p).toArray 27)) ((Below.refl _ (w.alloc (.cells (trC t p).toArray 27))).alloc (Nat.le_refl _) (.cells (shCK i x s A n c).toArray 51))
  have hp0 := heap_alloc_new (w.alloc (.cells (trC t p).toArray 27)) (.cells (shCK i x s A n c).toArray 51)
  rw [World.size_alloc] at hp0
  obtain ⟨V, HV⟩ : ∃ V, Hid ((w.alloc (.cells (trC t p).toArray 27)).alloc (.cells (shCK i x s A n c).toArray 51) = V) := ⟨_, Lib.hid rfl⟩
  rw [HV.out] at hb0 hr0 hp0
  have RT0 := Lib.hid hr0
  have RS0 := Lib.hid hp0
  have KO0 := Lib.hid (h.out.below hb0)
  have KT0 := Lib.hid (hT.out.below hb0)
  have KI0 := Lib.hid (hp.out.below hb0)
  have HB0 := Lib.hid hb0
  clear hb0 hr0 hp0
  rw [show trV t p = .agg (trC t p).toArray from rfl]
  go_enter Tryd.func5, Tryd.ntmps5
  go_wp2_with (rw [HV.out])
  refine (sane42 _ KT0).mono ?_
  rintro e U1 ⟨rfl, hq⟩
  have HB2 := Lib.hid (HB0.out.trans (hq.mono HB0.out.size))
  have RT2 := Lib.hid (row_kept RT0.out hq)
  have RS2 := Lib.hid (row_kept RS0.out hq)
  have KO2 := Lib.hid (KO0.out.below hq)
  have KT2 := Lib.hid (KT0.out.below hq)
  have KI2 := Lib.hid (KI0.out.below hq)
  clear hq HB0 RT0 RS0 KO0 KT0 KI0
  go_wp2_with (refine wpList_load_row rfl 27 (.tmp 2) rfl (w.heap.size) rfl 27 _ (0, 0) _ RT2.out Tryd.underlying27 rfl HIT.out ?_)
  rw [show Value.agg (trC t p).toArray = trV t p from rfl]
  refine (few_no t p _ hf).mono ?_
  rintro e U3 ⟨rfl, hq⟩
  have HB4 := Lib.hid (HB2.out.trans (hq.mono HB2.out.size))
  have RT4 := Lib.hid (row_kept RT2.out hq)
  have RS4 := Lib.hid (row_kept RS2.out hq)
  have KO4 := Lib.hid (KO2.out.below hq)
  have KT4 := Lib.hid (KT2.out.below hq)
  have KI4 := Lib.hid (KI2.out.below hq)
  clear hq HB2 RT2 RS2 KO2 KT2 KI2
  go_wp2_with fail
  go_ret
  exact ⟨rfl, HB4.out⟩
set_option maxHeartbeats 16000000 in
theorem long (t : Tr) (p : TrP) (i : Int) (x : Cl) (s : List Nat) (A : Option Addr) (n c : Nat) (ps : List Dg)  (w : World) (h : Hid (TrOk w t p)) (hs : Hid (DgOk s)) (hp : Hid (InD w A n c ps)) (hT : Hid (Tabs w)) (h1 : p.n ≤ 12) (h2 : p.n2 ≤ 12) (hn : 50 < n) :
    Calls Tryd.prog 5 #[trV t p, .agg (shCK i x s A n c).toArray] w fun e w' => e = .returned (.bool true) ∧ Below w.heap.size w w' := by
  have d50 : decide ((50 : Int) < (n : Int)) = true := decide_eq_true (by omega)
  have d50n : decide (50 < n) = true := decide_eq_true hn
  have HIT : Hid ((Tryd.prog.info? 27).map (·.size) = some (trC t p).toArray.size) := Lib.hid (trV_info t p h.out.len)
  have HIS : Hid ((Tryd.prog.info? 51).map (·.size) = some (shCK i x s A n c).toArray.size) := Lib.hid (shCK_info hs.out)
  have hb0 := ((Below.refl _ w).alloc (Nat.le_refl _) (.cells (trC t p).toArray 27)).alloc (by simp) (.cells (shCK i x s A n c).toArray 51)
  have hr0 := row_kept (heap_alloc_new w (.cells (trC t p).toArray 27)) ((Below.refl _ (w.alloc (.cells (trC t p).toArray 27))).alloc (Nat.le_refl _) (.cells (shCK i x s A n c).toArray 51))
  have hp0 := heap_alloc_new (w.alloc (.cells (trC t p).toArray 27)) (.cells (shCK i x s A n c).toArray 51)
  rw [World.size_alloc] at hp0
  obtain ⟨V, HV⟩ : ∃ V, Hid ((w.alloc (.cells (trC t p).toArray 27)).alloc (.cells (shCK i x s A n c).toArray 51) = V) := ⟨_, Lib.hid rfl⟩
  rw [HV.out] at hb0 hr0 hp0
  have RT0 := Lib.hid hr0
  have RS0 := Lib.hid hp0
  have KO0 := Lib.hid (h.out.below hb0)
  have KT0 := Lib.hid (hT.out.below hb0)
  have KI0 := Lib.hid (hp.out.below hb0)
  have HB0 := Lib.hid hb0
  clear hb0 hr0 hp0
  rw [show trV t p = .agg (trC t p).toArray from rfl]
  go_enter Tryd.func5, Tryd.ntmps5
  go_wp2_with (rw [HV.out])
  refine (sane42 _ KT0).mono ?_
  rintro e U1 ⟨rfl, hq⟩
  have HB2 := Lib.hid (HB0.out.trans (hq.mono HB0.out.size))
  have RT2 := Lib.hid (row_kept RT0.out hq)
  have RS2 := Lib.hid (row_kept RS0.out hq)
  have KO2 := Lib.hid (KO0.out.below hq)
  have KT2 := Lib.hid (KT0.out.below hq)
  have KI2 := Lib.hid (KI0.out.below hq)
  clear hq HB0 RT0 RS0 KO0 KT0 KI0
  go_wp2_with (refine wpList_load_row rfl 27 (.tmp 2) rfl (w.heap.size) rfl 27 _ (0, 0) _ RT2.out Tryd.underlying27 rfl HIT.out ?_)
  rw [show Value.agg (trC t p).toArray = trV t p from rfl]
  refine (few_yes t p _ h1 h2).mono ?_
  rintro e U3 ⟨rfl, hq⟩
  have HB4 := Lib.hid (HB2.out.trans (hq.mono HB2.out.size))
  have RT4 := Lib.hid (row_kept RT2.out hq)
  have RS4 := Lib.hid (row_kept RS2.out hq)
  have KO4 := Lib.hid (KO2.out.below hq)
  have KT4 := Lib.hid (KT2.out.below hq)
  have KI4 := Lib.hid (KI2.out.below hq)
  clear hq HB2 RT2 RS2 KO2 KT2 KI2
  have sp := shCK_p hs.out RS4.out
  go_wp2_with fail
  go_ret
  exact ⟨rfl, HB4.out⟩
set_option maxHeartbeats 16000000 in
theorem bad (t : Tr) (p : TrP) (i : Int) (x : Cl) (s : List Nat) (A : Option Addr) (n c : Nat) (ps : List Dg)  (w : World) (h : Hid (TrOk w t p)) (hs : Hid (DgOk s)) (hp : Hid (InD w A n c ps)) (hT : Hid (Tabs w)) (h1 : p.n ≤ 12) (h2 : p.n2 ≤ 12) (hn : n ≤ 50) (HE : Hid (trE t = 420)) :
    Calls Tryd.prog 5 #[trV t p, .agg (shCK i x s A n c).toArray] w fun e w' => e = .returned (.bool true) ∧ Below w.heap.size w w' := by
  have HIT : Hid ((Tryd.prog.info? 27).map (·.size) = some (trC t p).toArray.size) := Lib.hid (trV_info t p h.out.len)
  have HIS : Hid ((Tryd.prog.info? 51).map (·.size) = some (shCK i x s A n c).toArray.size) := Lib.hid (shCK_info hs.out)
  have hb0 := ((Below.refl _ w).alloc (Nat.le_refl _) (.cells (trC t p).toArray 27)).alloc (by simp) (.cells (shCK i x s A n c).toArray 51)
  have hr0 := row_kept (heap_alloc_new w (.cells (trC t p).toArray 27)) ((Below.refl _ (w.alloc (.cells (trC t p).toArray 27))).alloc (Nat.le_refl _) (.cells (shCK i x s A n c).toArray 51))
  have hp0 := heap_alloc_new (w.alloc (.cells (trC t p).toArray 27)) (.cells (shCK i x s A n c).toArray 51)
  rw [World.size_alloc] at hp0
  obtain ⟨V, HV⟩ : ∃ V, Hid ((w.alloc (.cells (trC t p).toArray 27)).alloc (.cells (shCK i x s A n c).toArray 51) = V) := ⟨_, Lib.hid rfl⟩
  rw [HV.out] at hb0 hr0 hp0
  have RT0 := Lib.hid hr0
  have RS0 := Lib.hid hp0
  have KO0 := Lib.hid (h.out.below hb0)
  have KT0 := Lib.hid (hT.out.below hb0)
  have KI0 := Lib.hid (hp.out.below hb0)
  have HB0 := Lib.hid hb0
  clear hb0 hr0 hp0
  rw [show trV t p = .agg (trC t p).toArray from rfl]
  go_enter Tryd.func5, Tryd.ntmps5
  go_wp2_with (rw [HV.out])
  refine (sane42 _ KT0).mono ?_
  rintro e U1 ⟨rfl, hq⟩
  have HB2 := Lib.hid (HB0.out.trans (hq.mono HB0.out.size))
  have RT2 := Lib.hid (row_kept RT0.out hq)
  have RS2 := Lib.hid (row_kept RS0.out hq)
  have KO2 := Lib.hid (KO0.out.below hq)
  have KT2 := Lib.hid (KT0.out.below hq)
  have KI2 := Lib.hid (KI0.out.below hq)
  clear hq HB0 RT0 RS0 KO0 KT0 KI0
  go_wp2_with (refine wpList_load_row rfl 27 (.tmp 2) rfl (w.heap.size) rfl 27 _ (0, 0) _ RT2.out Tryd.underlying27 rfl HIT.out ?_)
  rw [show Value.agg (trC t p).toArray = trV t p from rfl]
  refine (few_yes t p _ h1 h2).mono ?_
  rintro e U3 ⟨rfl, hq⟩
  have HB4 := Lib.hid (HB2.out.trans (hq.mono HB2.out.size))
  have RT4 := Lib.hid (row_kept RT2.out hq)
  have RS4 := Lib.hid (row_kept RS2.out hq)
  have KO4 := Lib.hid (KO2.out.below hq)
  have KT4 := Lib.hid (KT2.out.below hq)
  have KI4 := Lib.hid (KI2.out.below hq)
  clear hq HB2 RT2 RS2 KO2 KT2 KI2
  have d50 : decide ((50 : Int) < (n : Int)) = false := decide_eq_false (by omega)
  have d50n : decide (50 < n) = false := decide_eq_false (by omega)
  obtain ⟨X, HX⟩ : ∃ x, Hid (lstL t = x) := ⟨_, Lib.hid rfl⟩
  obtain ⟨Y, HY⟩ : ∃ y, Hid (lstK t = y) := ⟨_, Lib.hid rfl⟩
  have HXO : Hid (DgOk X) := Lib.hid (by rw [← HX.out]; exact lstL_ok t)
  have HYO : Hid (DgOk Y) := Lib.hid (by rw [← HY.out]; exact lstK_ok t)
  have HRK : Hid (RtOk (rtOf (p.n : Nat) (p.n2 : Nat) X Y)) := Lib.hid (rtOf_ok (by unfold I64; omega) (by unfold I64; omega) HXO.out HYO.out)
  have HRI := Lib.hid (rtC_info HRK.out)
  have HRS : Hid (138 = (rtC (rtOf (p.n : Nat) (p.n2 : Nat) X Y)).toArray.size) := Lib.hid (by simp [rtC, rtOf, ndC_length zeroN_ok, dgC_len32 HXO.out, dgC_len32 HYO.out, dgC_len32 zeroD_ok])
  have sp := shCK_p hs.out RS4.out
  go_wp2_with (refine wpList_load_row rfl 27 (.tmp 2) rfl (w.heap.size) rfl 27 _ (0, 0) _ RT4.out Tryd.underlying27 rfl HIT.out ?_)
  rw [show Value.agg (trC t p).toArray = trV t p from rfl]
  refine (root42_no t p _ KO4 KT4 HE).mono ?_
  rintro e U5 ⟨rfl, hq⟩
  rw [HX.out, HY.out]
  clear sp
  have HB6 := Lib.hid (HB4.out.trans (hq.mono HB4.out.size))
  have RT6 := Lib.hid (row_kept RT4.out hq)
  have RS6 := Lib.hid (row_kept RS4.out hq)
  have KO6 := Lib.hid (KO4.out.below hq)
  have KT6 := Lib.hid (KT4.out.below hq)
  have KI6 := Lib.hid (KI4.out.below hq)
  clear hq HB4 RT4 RS4 KO4 KT4 KI4
  obtain ⟨V7, HV7⟩ : ∃ W, Hid ((U5.alloc (.cells Tryd.zeroCells35 35)).setRow U5.heap.size (rtC (rtOf (p.n : Nat) (p.n2 : Nat) X Y)).toArray = W) := ⟨_, Lib.hid rfl⟩
  have hw := setRow_heap (U5.alloc (.cells Tryd.zeroCells35 35)) U5.heap.size _ (rtC (rtOf (p.n : Nat) (p.n2 : Nat) X Y)).toArray _ _ (heap_alloc_new U5 _)
  have hb := below_setRow ((Below.refl _ U5).alloc (Nat.le_refl _) (.cells Tryd.zeroCells35 35)) (Nat.le_refl _) (rtC (rtOf (p.n : Nat) (p.n2 : Nat) X Y)).toArray
  rw [HV7.out] at hw hb
  have HB8 := Lib.hid (HB6.out.trans (hb.mono HB6.out.size))
  have RT8 := Lib.hid (row_kept RT6.out hb)
  have RS8 := Lib.hid (row_kept RS6.out hb)
  have KO8 := Lib.hid (KO6.out.below hb)
  have KT8 := Lib.hid (KT6.out.below hb)
  have KI8 := Lib.hid (KI6.out.below hb)
  have RR7 := Lib.hid hw
  clear hw hb HB6 RT6 RS6 KO6 KT6 KI6
  go_wp2_with (refine wpList_store_row rfl 35 (.tmp 5) (.tmp 29) rfl U5.heap.size (rtC (rtOf (p.n : Nat) (p.n2 : Nat) X Y)).toArray rfl rfl 35 _ (heap_alloc_new U5 _) HRI.out HRS.out (rtC_one _) ?_; rw [HV7.out])
  go_ret
  exact ⟨rfl, HB8.out⟩
set_option maxHeartbeats 16000000 in
theorem nov (t : Tr) (p : TrP) (i : Int) (x : Cl) (s : List Nat) (A : Option Addr) (n c : Nat) (ps : List Dg)  (w : World) (h : Hid (TrOk w t p)) (hs : Hid (DgOk s)) (hp : Hid (InD w A n c ps)) (hT : Hid (Tabs w)) (h1 : p.n ≤ 12) (h2 : p.n2 ≤ 12) (hn : n ≤ 50) (HE : Hid (trE t = 0)) (HVF : Hid (vfE (vCl x) (lfK x s) i (p.n2 : Nat) ps (lstK t) = 420)) (hx : Hid (ClOk x))  :
    Calls Tryd.prog 5 #[trV t p, .agg (shCK i x s A n c).toArray] w fun e w' => e = .returned (.bool true) ∧ Below w.heap.size w w' := by
  have HIT : Hid ((Tryd.prog.info? 27).map (·.size) = some (trC t p).toArray.size) := Lib.hid (trV_info t p h.out.len)
  have HIS : Hid ((Tryd.prog.info? 51).map (·.size) = some (shCK i x s A n c).toArray.size) := Lib.hid (shCK_info hs.out)
  have hb0 := ((Below.refl _ w).alloc (Nat.le_refl _) (.cells (trC t p).toArray 27)).alloc (by simp) (.cells (shCK i x s A n c).toArray 51)
  have hr0 := row_kept (heap_alloc_new w (.cells (trC t p).toArray 27)) ((Below.refl _ (w.alloc (.cells (trC t p).toArray 27))).alloc (Nat.le_refl _) (.cells (shCK i x s A n c).toArray 51))
  have hp0 := heap_alloc_new (w.alloc (.cells (trC t p).toArray 27)) (.cells (shCK i x s A n c).toArray 51)
  rw [World.size_alloc] at hp0
  obtain ⟨V, HV⟩ : ∃ V, Hid ((w.alloc (.cells (trC t p).toArray 27)).alloc (.cells (shCK i x s A n c).toArray 51) = V) := ⟨_, Lib.hid rfl⟩
  rw [HV.out] at hb0 hr0 hp0
  have RT0 := Lib.hid hr0
  have RS0 := Lib.hid hp0
  have KO0 := Lib.hid (h.out.below hb0)
  have KT0 := Lib.hid (hT.out.below hb0)
  have KI0 := Lib.hid (hp.out.below hb0)
  have HB0 := Lib.hid hb0
  clear hb0 hr0 hp0
  rw [show trV t p = .agg (trC t p).toArray from rfl]
  go_enter Tryd.func5, Tryd.ntmps5
  go_wp2_with (rw [HV.out])
  refine (sane42 _ KT0).mono ?_
  rintro e U1 ⟨rfl, hq⟩
  have HB2 := Lib.hid (HB0.out.trans (hq.mono HB0.out.size))
  have RT2 := Lib.hid (row_kept RT0.out hq)
  have RS2 := Lib.hid (row_kept RS0.out hq)
  have KO2 := Lib.hid (KO0.out.below hq)
  have KT2 := Lib.hid (KT0.out.below hq)
  have KI2 := Lib.hid (KI0.out.below hq)
  clear hq HB0 RT0 RS0 KO0 KT0 KI0
  go_wp2_with (refine wpList_load_row rfl 27 (.tmp 2) rfl (w.heap.size) rfl 27 _ (0, 0) _ RT2.out Tryd.underlying27 rfl HIT.out ?_)
  rw [show Value.agg (trC t p).toArray = trV t p from rfl]
  refine (few_yes t p _ h1 h2).mono ?_
  rintro e U3 ⟨rfl, hq⟩
  have HB4 := Lib.hid (HB2.out.trans (hq.mono HB2.out.size))
  have RT4 := Lib.hid (row_kept RT2.out hq)
  have RS4 := Lib.hid (row_kept RS2.out hq)
  have KO4 := Lib.hid (KO2.out.below hq)
  have KT4 := Lib.hid (KT2.out.below hq)
  have KI4 := Lib.hid (KI2.out.below hq)
  clear hq HB2 RT2 RS2 KO2 KT2 KI2
  have d50 : decide ((50 : Int) < (n : Int)) = false := decide_eq_false (by omega)
  have d50n : decide (50 < n) = false := decide_eq_false (by omega)
  obtain ⟨X, HX⟩ : ∃ x, Hid (lstL t = x) := ⟨_, Lib.hid rfl⟩
  obtain ⟨Y, HY⟩ : ∃ y, Hid (lstK t = y) := ⟨_, Lib.hid rfl⟩
  have HXO : Hid (DgOk X) := Lib.hid (by rw [← HX.out]; exact lstL_ok t)
  have HYO : Hid (DgOk Y) := Lib.hid (by rw [← HY.out]; exact lstK_ok t)
  have HRK : Hid (RtOk (rtOf (p.n : Nat) (p.n2 : Nat) X Y)) := Lib.hid (rtOf_ok (by unfold I64; omega) (by unfold I64; omega) HXO.out HYO.out)
  have HRI := Lib.hid (rtC_info HRK.out)
  have HRS : Hid (138 = (rtC (rtOf (p.n : Nat) (p.n2 : Nat) X Y)).toArray.size) := Lib.hid (by simp [rtC, rtOf, ndC_length zeroN_ok, dgC_len32 HXO.out, dgC_len32 HYO.out, dgC_len32 zeroD_ok])
  have sp := shCK_p hs.out RS4.out
  go_wp2_with (refine wpList_load_row rfl 27 (.tmp 2) rfl (w.heap.size) rfl 27 _ (0, 0) _ RT4.out Tryd.underlying27 rfl HIT.out ?_)
  rw [show Value.agg (trC t p).toArray = trV t p from rfl]
  refine (root42_yes t p _ KO4 KT4 HE).mono ?_
  rintro e U5 ⟨rfl, hq⟩
  rw [HX.out, HY.out]
  clear sp
  have HB6 := Lib.hid (HB4.out.trans (hq.mono HB4.out.size))
  have RT6 := Lib.hid (row_kept RT4.out hq)
  have RS6 := Lib.hid (row_kept RS4.out hq)
  have KO6 := Lib.hid (KO4.out.below hq)
  have KT6 := Lib.hid (KT4.out.below hq)
  have KI6 := Lib.hid (KI4.out.below hq)
  clear hq HB4 RT4 RS4 KO4 KT4 KI4
  obtain ⟨V7, HV7⟩ : ∃ W, Hid ((U5.alloc (.cells Tryd.zeroCells35 35)).setRow U5.heap.size (rtC (rtOf (p.n : Nat) (p.n2 : Nat) X Y)).toArray = W) := ⟨_, Lib.hid rfl⟩
  have hw := setRow_heap (U5.alloc (.cells Tryd.zeroCells35 35)) U5.heap.size _ (rtC (rtOf (p.n : Nat) (p.n2 : Nat) X Y)).toArray _ _ (heap_alloc_new U5 _)
  have hb := below_setRow ((Below.refl _ U5).alloc (Nat.le_refl _) (.cells Tryd.zeroCells35 35)) (Nat.le_refl _) (rtC (rtOf (p.n : Nat) (p.n2 : Nat) X Y)).toArray
  rw [HV7.out] at hw hb
  have HB8 := Lib.hid (HB6.out.trans (hb.mono HB6.out.size))
  have RT8 := Lib.hid (row_kept RT6.out hb)
  have RS8 := Lib.hid (row_kept RS6.out hb)
  have KO8 := Lib.hid (KO6.out.below hb)
  have KT8 := Lib.hid (KT6.out.below hb)
  have KI8 := Lib.hid (KI6.out.below hb)
  have RR7 := Lib.hid hw
  clear hw hb HB6 RT6 RS6 KO6 KT6 KI6
  go_wp2_with (first | (refine wpList_store_row rfl 35 (.tmp 5) (.tmp 29) rfl U5.heap.size (rtC (rtOf (p.n : Nat) (p.n2 : Nat) X Y)).toArray rfl rfl 35 _ (heap_alloc_new U5 _) HRI.out HRS.out (rtC_one _) ?_; rw [HV7.out]) | (with_reducible refine wpList_here ?_; refine wpList_load_row_g 35 (.tmp 5) rfl rfl (U5.heap.size) rfl 35 _ (0, 0) _ RR7.out Tryd.underlying35 rfl HRI.out ?_) | (with_reducible refine wpList_here ?_; refine wpList_load_row_g 51 (.tmp 3) rfl rfl ((w.heap.size + 1)) rfl 51 _ (0, 0) _ RS8.out Tryd.underlying51 rfl HIS.out ?_))
  refine (verK (rtOf (p.n : Nat) (p.n2 : Nat) X Y) i x s A n c ps _ hx hs HRK (by omega) KI8 KT8).mono ?_
  rintro e U9 ⟨rfl, hq⟩
  rw [show vfE (vCl x) (lfK x s) i (rtOf (p.n : Nat) (p.n2 : Nat) X Y).cla ps (rtOf (p.n : Nat) (p.n2 : Nat) X Y).claimed = 420 from (by rw [← HY.out]; exact HVF.out)]
  have HB10 := Lib.hid (HB8.out.trans (hq.mono HB8.out.size))
  have RT10 := Lib.hid (row_kept RT8.out hq)
  have RS10 := Lib.hid (row_kept RS8.out hq)
  have RR10 := Lib.hid (row_kept RR7.out hq)
  have KO10 := Lib.hid (KO8.out.below hq)
  have KT10 := Lib.hid (KT8.out.below hq)
  have KI10 := Lib.hid (KI8.out.below hq)
  clear hq HB8 RT8 RS8 RR7 KO8 KT8 KI8
  go_wp2_with fail
  go_ret
  exact ⟨rfl, HB10.out⟩
set_option maxHeartbeats 16000000 in
theorem same (t : Tr) (p : TrP) (j : Nat) (x : Cl) (s : List Nat) (A : Option Addr) (n c : Nat) (ps : List Dg) (y : Cl) (w : World) (h : Hid (TrOk w t p)) (hs : Hid (DgOk s)) (hp : Hid (InD w A n c ps)) (hT : Hid (Tabs w)) (h1 : p.n ≤ 12) (h2 : p.n2 ≤ 12) (hn : n ≤ 50) (hg : Hid (trG t = true)) (hj : j < p.n2) (HY0 : Hid (t.cl[j]? = some y)) (HE : Hid (trE t = 0)) (HVF : Hid (vfE (vCl x) (lfK x s) (j : Nat) (p.n2 : Nat) ps (lstK t) = 0)) (hxy : clEq x y = true) (hx : Hid (ClOk x)) :
    Calls Tryd.prog 5 #[trV t p, .agg (shCK (j : Nat) x s A n c).toArray] w fun e w' => e = .returned (.bool true) ∧ Below w.heap.size w w' := by
  obtain ⟨so, HSO0⟩ : ∃ s, Hid (saltN t.salt 2 (nCl y) = s) := ⟨_, Lib.hid rfl⟩
  have HSO : Hid (DgOk so) := Lib.hid (by rw [← HSO0.out]; exact saltN_ok _ _ _)
  have HLX := Lib.hid (clC_infoT x)
  have HLY := Lib.hid (clC_infoT y)
  have HIT : Hid ((Tryd.prog.info? 27).map (·.size) = some (trC t p).toArray.size) := Lib.hid (trV_info t p h.out.len)
  have HIS : Hid ((Tryd.prog.info? 51).map (·.size) = some (shCK (j : Nat) x s A n c).toArray.size) := Lib.hid (shCK_info hs.out)
  have hb0 := ((Below.refl _ w).alloc (Nat.le_refl _) (.cells (trC t p).toArray 27)).alloc (by simp) (.cells (shCK (j : Nat) x s A n c).toArray 51)
  have hr0 := row_kept (heap_alloc_new w (.cells (trC t p).toArray 27)) ((Below.refl _ (w.alloc (.cells (trC t p).toArray 27))).alloc (Nat.le_refl _) (.cells (shCK (j : Nat) x s A n c).toArray 51))
  have hp0 := heap_alloc_new (w.alloc (.cells (trC t p).toArray 27)) (.cells (shCK (j : Nat) x s A n c).toArray 51)
  rw [World.size_alloc] at hp0
  obtain ⟨V, HV⟩ : ∃ V, Hid ((w.alloc (.cells (trC t p).toArray 27)).alloc (.cells (shCK (j : Nat) x s A n c).toArray 51) = V) := ⟨_, Lib.hid rfl⟩
  rw [HV.out] at hb0 hr0 hp0
  have RT0 := Lib.hid hr0
  have RS0 := Lib.hid hp0
  have KO0 := Lib.hid (h.out.below hb0)
  have KT0 := Lib.hid (hT.out.below hb0)
  have KI0 := Lib.hid (hp.out.below hb0)
  have HB0 := Lib.hid hb0
  clear hb0 hr0 hp0
  rw [show trV t p = .agg (trC t p).toArray from rfl]
  go_enter Tryd.func5, Tryd.ntmps5
  go_wp2_with (rw [HV.out])
  refine (sane42 _ KT0).mono ?_
  rintro e U1 ⟨rfl, hq⟩
  have HB2 := Lib.hid (HB0.out.trans (hq.mono HB0.out.size))
  have RT2 := Lib.hid (row_kept RT0.out hq)
  have RS2 := Lib.hid (row_kept RS0.out hq)
  have KO2 := Lib.hid (KO0.out.below hq)
  have KT2 := Lib.hid (KT0.out.below hq)
  have KI2 := Lib.hid (KI0.out.below hq)
  clear hq HB0 RT0 RS0 KO0 KT0 KI0
  go_wp2_with (refine wpList_load_row rfl 27 (.tmp 2) rfl (w.heap.size) rfl 27 _ (0, 0) _ RT2.out Tryd.underlying27 rfl HIT.out ?_)
  rw [show Value.agg (trC t p).toArray = trV t p from rfl]
  refine (few_yes t p _ h1 h2).mono ?_
  rintro e U3 ⟨rfl, hq⟩
  have HB4 := Lib.hid (HB2.out.trans (hq.mono HB2.out.size))
  have RT4 := Lib.hid (row_kept RT2.out hq)
  have RS4 := Lib.hid (row_kept RS2.out hq)
  have KO4 := Lib.hid (KO2.out.below hq)
  have KT4 := Lib.hid (KT2.out.below hq)
  have KI4 := Lib.hid (KI2.out.below hq)
  clear hq HB2 RT2 RS2 KO2 KT2 KI2
  have d50 : decide ((50 : Int) < (n : Int)) = false := decide_eq_false (by omega)
  have d50n : decide (50 < n) = false := decide_eq_false (by omega)
  obtain ⟨X, HX⟩ : ∃ x, Hid (lstL t = x) := ⟨_, Lib.hid rfl⟩
  obtain ⟨Y, HY⟩ : ∃ y, Hid (lstK t = y) := ⟨_, Lib.hid rfl⟩
  have HXO : Hid (DgOk X) := Lib.hid (by rw [← HX.out]; exact lstL_ok t)
  have HYO : Hid (DgOk Y) := Lib.hid (by rw [← HY.out]; exact lstK_ok t)
  have HRK : Hid (RtOk (rtOf (p.n : Nat) (p.n2 : Nat) X Y)) := Lib.hid (rtOf_ok (by unfold I64; omega) (by unfold I64; omega) HXO.out HYO.out)
  have HRI := Lib.hid (rtC_info HRK.out)
  have HRS : Hid (138 = (rtC (rtOf (p.n : Nat) (p.n2 : Nat) X Y)).toArray.size) := Lib.hid (by simp [rtC, rtOf, ndC_length zeroN_ok, dgC_len32 HXO.out, dgC_len32 HYO.out, dgC_len32 zeroD_ok])
  have sp := shCK_p hs.out RS4.out
  go_wp2_with (refine wpList_load_row rfl 27 (.tmp 2) rfl (w.heap.size) rfl 27 _ (0, 0) _ RT4.out Tryd.underlying27 rfl HIT.out ?_)
  rw [show Value.agg (trC t p).toArray = trV t p from rfl]
  refine (root42_yes t p _ KO4 KT4 HE).mono ?_
  rintro e U5 ⟨rfl, hq⟩
  rw [HX.out, HY.out]
  clear sp
  have HB6 := Lib.hid (HB4.out.trans (hq.mono HB4.out.size))
  have RT6 := Lib.hid (row_kept RT4.out hq)
  have RS6 := Lib.hid (row_kept RS4.out hq)
  have KO6 := Lib.hid (KO4.out.below hq)
  have KT6 := Lib.hid (KT4.out.below hq)
  have KI6 := Lib.hid (KI4.out.below hq)
  clear hq HB4 RT4 RS4 KO4 KT4 KI4
  obtain ⟨V7, HV7⟩ : ∃ W, Hid ((U5.alloc (.cells Tryd.zeroCells35 35)).setRow U5.heap.size (rtC (rtOf (p.n : Nat) (p.n2 : Nat) X Y)).toArray = W) := ⟨_, Lib.hid rfl⟩
  have hw := setRow_heap (U5.alloc (.cells Tryd.zeroCells35 35)) U5.heap.size _ (rtC (rtOf (p.n : Nat) (p.n2 : Nat) X Y)).toArray _ _ (heap_alloc_new U5 _)
  have hb := below_setRow ((Below.refl _ U5).alloc (Nat.le_refl _) (.cells Tryd.zeroCells35 35)) (Nat.le_refl _) (rtC (rtOf (p.n : Nat) (p.n2 : Nat) X Y)).toArray
  rw [HV7.out] at hw hb
  have HB8 := Lib.hid (HB6.out.trans (hb.mono HB6.out.size))
  have RT8 := Lib.hid (row_kept RT6.out hb)
  have RS8 := Lib.hid (row_kept RS6.out hb)
  have KO8 := Lib.hid (KO6.out.below hb)
  have KT8 := Lib.hid (KT6.out.below hb)
  have KI8 := Lib.hid (KI6.out.below hb)
  have RR7 := Lib.hid hw
  clear hw hb HB6 RT6 RS6 KO6 KT6 KI6
  go_wp2_with (first | (refine wpList_store_row rfl 35 (.tmp 5) (.tmp 29) rfl U5.heap.size (rtC (rtOf (p.n : Nat) (p.n2 : Nat) X Y)).toArray rfl rfl 35 _ (heap_alloc_new U5 _) HRI.out HRS.out (rtC_one _) ?_; rw [HV7.out]) | (with_reducible refine wpList_here ?_; refine wpList_load_row_g 35 (.tmp 5) rfl rfl (U5.heap.size) rfl 35 _ (0, 0) _ RR7.out Tryd.underlying35 rfl HRI.out ?_) | (with_reducible refine wpList_here ?_; refine wpList_load_row_g 51 (.tmp 3) rfl rfl ((w.heap.size + 1)) rfl 51 _ (0, 0) _ RS8.out Tryd.underlying51 rfl HIS.out ?_))
  refine (verK (rtOf (p.n : Nat) (p.n2 : Nat) X Y) (j : Nat) x s A n c ps _ hx hs HRK (by omega) KI8 KT8).mono ?_
  rintro e U9 ⟨rfl, hq⟩
  rw [show vfE (vCl x) (lfK x s) (j : Nat) (rtOf (p.n : Nat) (p.n2 : Nat) X Y).cla ps (rtOf (p.n : Nat) (p.n2 : Nat) X Y).claimed = 0 from (by rw [← HY.out]; exact HVF.out)]
  have HB10 := Lib.hid (HB8.out.trans (hq.mono HB8.out.size))
  have RT10 := Lib.hid (row_kept RT8.out hq)
  have RS10 := Lib.hid (row_kept RS8.out hq)
  have RR10 := Lib.hid (row_kept RR7.out hq)
  have KO10 := Lib.hid (KO8.out.below hq)
  have KT10 := Lib.hid (KT8.out.below hq)
  have KI10 := Lib.hid (KI8.out.below hq)
  clear hq HB8 RT8 RS8 RR7 KO8 KT8 KI8
  have sa : U9.cell? ⟨w.heap.size + 1, 0, none⟩ = some (.int .i64 (j : Nat)) := by rw [cell_of_row _ _ _ _ _ _ RS10.out]; rfl
  go_wp2_with (refine wpList_load_row rfl 27 (.tmp 2) rfl (w.heap.size) rfl 27 _ (0, 0) _ RT10.out Tryd.underlying27 rfl HIT.out ?_)
  rw [show Value.agg (trC t p).toArray = trV t p from rfl]
  refine (shwK_yes t p j y _ KO10 KT10 hg hj HY0).mono ?_
  rintro e U11 ⟨As, ns, cs, rfl, hin, hq⟩
  rw [HSO0.out]
  clear sa
  obtain ⟨qs, HQS⟩ : ∃ ps, Hid (pathD (t.cl.map (lvK t.salt)) j = ps) := ⟨_, Lib.hid rfl⟩
  rw [HQS.out] at hin
  have KP0 := Lib.hid hin
  clear hin
  have HB12 := Lib.hid (HB10.out.trans (hq.mono HB10.out.size))
  have RT12 := Lib.hid (row_kept RT10.out hq)
  have RS12 := Lib.hid (row_kept RS10.out hq)
  have RR12 := Lib.hid (row_kept RR10.out hq)
  have KO12 := Lib.hid (KO10.out.below hq)
  have KT12 := Lib.hid (KT10.out.below hq)
  have KI12 := Lib.hid (KI10.out.below hq)
  clear hq HB10 RT10 RS10 RR10 KO10 KT10 KI10
  have HSI : Hid ((Tryd.prog.info? 51).map (·.size) = some (shCK (j : Nat) y so As ns cs).toArray.size) := Lib.hid (shCK_info HSO.out)
  have HSH : Hid (37 = (shCK (j : Nat) y so As ns cs).toArray.size) := Lib.hid (by simp [shCK, clC, dgC_len32 HSO.out])
  obtain ⟨V13, HV13⟩ : ∃ W, Hid ((U11.alloc (.cells #[.int .i64 0, .int .i64 0, .int .i64 0, .bool false, .int .u8 0, .int .u8 0, .int .u8 0, .int .u8 0, .int .u8 0, .int .u8 0, .int .u8 0, .int .u8 0, .int .u8 0, .int .u8 0, .int .u8 0, .int .u8 0, .int .u8 0, .int .u8 0, .int .u8 0, .int .u8 0, .int .u8 0, .int .u8 0, .int .u8 0, .int .u8 0, .int .u8 0, .int .u8 0, .int .u8 0, .int .u8 0, .int .u8 0, .int .u8 0, .int .u8 0, .int .u8 0, .int .u8 0, .int .u8 0, .int .u8 0, .int .u8 0, .slice none 0 0] 51)).setRow U11.heap.size (shCK (j : Nat) y so As ns cs).toArray = W) := ⟨_, Lib.hid rfl⟩
  have hw := setRow_heap (U11.alloc (.cells #[.int .i64 0, .int .i64 0, .int .i64 0, .bool false, .int .u8 0, .int .u8 0, .int .u8 0, .int .u8 0, .int .u8 0, .int .u8 0, .int .u8 0, .int .u8 0, .int .u8 0, .int .u8 0, .int .u8 0, .int .u8 0, .int .u8 0, .int .u8 0, .int .u8 0, .int .u8 0, .int .u8 0, .int .u8 0, .int .u8 0, .int .u8 0, .int .u8 0, .int .u8 0, .int .u8 0, .int .u8 0, .int .u8 0, .int .u8 0, .int .u8 0, .int .u8 0, .int .u8 0, .int .u8 0, .int .u8 0, .int .u8 0, .slice none 0 0] 51)) U11.heap.size _ (shCK (j : Nat) y so As ns cs).toArray _ _ (heap_alloc_new U11 _)
  have hb := below_setRow ((Below.refl _ U11).alloc (Nat.le_refl _) (.cells #[.int .i64 0, .int .i64 0, .int .i64 0, .bool false, .int .u8 0, .int .u8 0, .int .u8 0, .int .u8 0, .int .u8 0, .int .u8 0, .int .u8 0, .int .u8 0, .int .u8 0, .int .u8 0, .int .u8 0, .int .u8 0, .int .u8 0, .int .u8 0, .int .u8 0, .int .u8 0, .int .u8 0, .int .u8 0, .int .u8 0, .int .u8 0, .int .u8 0, .int .u8 0, .int .u8 0, .int .u8 0, .int .u8 0, .int .u8 0, .int .u8 0, .int .u8 0, .int .u8 0, .int .u8 0, .int .u8 0, .int .u8 0, .slice none 0 0] 51)) (Nat.le_refl _) (shCK (j : Nat) y so As ns cs).toArray
  rw [HV13.out] at hw hb
  have HB14 := Lib.hid (HB12.out.trans (hb.mono HB12.out.size))
  have RT14 := Lib.hid (row_kept RT12.out hb)
  have RS14 := Lib.hid (row_kept RS12.out hb)
  have RR14 := Lib.hid (row_kept RR12.out hb)
  have KO14 := Lib.hid (KO12.out.below hb)
  have KT14 := Lib.hid (KT12.out.below hb)
  have KI14 := Lib.hid (KI12.out.below hb)
  have KP14 := Lib.hid (KP0.out.below hb)
  have RW13 := Lib.hid hw
  clear hw hb HB12 RT12 RS12 RR12 KO12 KT12 KI12 KP0
  have HMX := Lib.hid (shCK_x RS14.out)
  have HMY := Lib.hid (shCK_x RW13.out)
  go_wp2_with (first | (refine wpList_store_row rfl 51 (.tmp 7) (.tmp 44) rfl U11.heap.size (shCK (j : Nat) y so As ns cs).toArray rfl rfl 51 _ (heap_alloc_new U11 _) HSI.out HSH.out (shCK_one _ _ _ _ _ _) ?_; rw [HV13.out]) | (refine wpList_load_mid rfl 49 (.tmp 48) rfl ((w.heap.size + 1)) 1 rfl (clC x) _ HMX.out Tryd.underlying49 rfl HLX.out ?_; rw [show Value.agg (clC x).toArray = clV x from rfl]) | (refine wpList_load_mid rfl 49 (.tmp 50) rfl (U11.heap.size) 1 rfl (clC y) _ HMY.out Tryd.underlying49 rfl HLY.out ?_; rw [show Value.agg (clC y).toArray = clV y from rfl]) | (refine wpList_eql_cl rfl (.tmp 49) (.tmp 51) _ rfl x y rfl rfl ?_; rw [hxy]))
  go_ret
  exact ⟨rfl, HB14.out⟩
theorem clC_infoA (x : Cl) : (Tryd.prog.info? 49).map (·.size) = some (clC x).toArray.size := by show _ = some 3; kernel_rfl
def wMt (a b : Nat) (x y : Cl) : Nat → Value → World → Prop
  | 0, fv, _ => fv = Value.pointer (some ⟨a, 1, none⟩)
  | 1, fv, _ => fv = clV x
  | 2, fv, _ => fv = Value.pointer (some ⟨b, 1, none⟩)
  | 3, fv, _ => fv = clV y
  | _, _, _ => True
theorem wMt_any {a b : Nat} {x y : Cl} {w w' : World} : ∀ i v, wMt a b x y i v w → wMt a b x y i v w'
  | 0, _, h => h
  | 1, _, h => h
  | 2, _, h => h
  | 3, _, h => h
  | _ + 4, _, _ => trivial
def wMh (bs bx : Nat) (s : List Nat) (x : Cl) : Nat → Value → World → Prop
  | 0, fv, _ => fv = Value.pointer (some ⟨bs, 4, none⟩)
  | 1, fv, _ => fv = dgV s
  | 2, fv, _ => fv = Value.pointer (some ⟨bx, 0, none⟩)
  | 3, fv, _ => fv = Value.int .i64 x.p
  | 4, fv, _ => fv = Value.pointer (some ⟨bx, 1, none⟩)
  | 5, fv, _ => fv = Value.int .i64 x.r
  | 6, fv, _ => fv = Value.pointer (some ⟨bx, 2, none⟩)
  | 7, fv, _ => fv = Value.bool x.m
  | 8, fv, _ => fv = Value.int .i64 (flagN x.m)
  | 9, fv, fw => ∃ q, fv = Value.slice (some ⟨q, 0, none⟩) 3 3 ∧ fw.heap[q]? = some (.cells #[.int .i64 x.p, .int .i64 x.r, .int .i64 (flagN x.m)] 3 (0, 0))
  | 10, fv, fw => ∃ A n c, fv = Value.slice A n c ∧ In fw A n c (s ++ encI [x.p, x.r, flagN x.m])
  | 11, fv, fw => ∃ A n c, fv = Value.slice A n c ∧ In fw A n c (s ++ encI [x.p, x.r, flagN x.m])
  | _, _, _ => True
theorem wMh_below {bs bx : Nat} {s : List Nat} {x : Cl} {w w' : World} (hb : Below w.heap.size w w') : ∀ j v, wMh bs bx s x j v w → wMh bs bx s x j v w'
  | 0, v, h => h
  | 1, v, h => h
  | 2, v, h => h
  | 3, v, h => h
  | 4, v, h => h
  | 5, v, h => h
  | 6, v, h => h
  | 7, v, h => h
  | 8, v, h => h
  | 9, v, ⟨q, h1, h2⟩ => ⟨q, h1, row_kept h2 hb⟩
  | 10, v, ⟨A, n, c, h1, h2⟩ => ⟨A, n, c, h1, h2.below hb⟩
  | 11, v, ⟨A, n, c, h1, h2⟩ => ⟨A, n, c, h1, h2.below hb⟩
  | n + 12, v, h => trivial
set_option maxHeartbeats 16000000 in
theorem diff (t : Tr) (p : TrP) (j : Nat) (x : Cl) (s : List Nat) (A : Option Addr) (n c : Nat) (ps : List Dg) (y : Cl) (w : World) (h : Hid (TrOk w t p)) (hs : Hid (DgOk s)) (hp : Hid (InD w A n c ps)) (hT : Hid (Tabs w)) (h1 : p.n ≤ 12) (h2 : p.n2 ≤ 12) (hn : n ≤ 50) (hg : Hid (trG t = true)) (hj : j < p.n2) (HY0 : Hid (t.cl[j]? = some y)) (HE : Hid (trE t = 0)) (HVF : Hid (vfE (vCl x) (lfK x s) (j : Nat) (p.n2 : Nat) ps (lstK t) = 0)) (hxy : clEq x y = false) (hx : Hid (ClOk x)) (hy : Hid (ClOk y)) (HDN : Hid ((dirsD j p.n2).length = n)) (HHIT : Hid (∀ pa pb qs, tagged (strL claimT) (s ++ encI [x.p, x.r, flagN x.m]) = pa → tagged (strL claimT) (saltN t.salt 2 (nCl y) ++ encI [y.p, y.r, flagN y.m]) = pb → pathD (t.cl.map (lvK t.salt)) j = qs → pa ≠ pb → ∃ k, hitN (pa :: insD (dirsD j p.n2).reverse ps (leafD pa)) (pb :: insD (dirsD j p.n2).reverse qs (leafD pb)) k)) :
    Calls Tryd.prog 5 #[trV t p, .agg (shCK (j : Nat) x s A n c).toArray] w fun e w' => e = .returned (.bool true) ∧ Below w.heap.size w w' := by
  obtain ⟨so, HSO0⟩ : ∃ s, Hid (saltN t.salt 2 (nCl y) = s) := ⟨_, Lib.hid rfl⟩
  have HSO : Hid (DgOk so) := Lib.hid (by rw [← HSO0.out]; exact saltN_ok _ _ _)
  have HLX := Lib.hid (clC_infoT x)
  have HLY := Lib.hid (clC_infoT y)
  have HIT : Hid ((Tryd.prog.info? 27).map (·.size) = some (trC t p).toArray.size) := Lib.hid (trV_info t p h.out.len)
  have HIS : Hid ((Tryd.prog.info? 51).map (·.size) = some (shCK (j : Nat) x s A n c).toArray.size) := Lib.hid (shCK_info hs.out)
  have hb0 := ((Below.refl _ w).alloc (Nat.le_refl _) (.cells (trC t p).toArray 27)).alloc (by simp) (.cells (shCK (j : Nat) x s A n c).toArray 51)
  have hr0 := row_kept (heap_alloc_new w (.cells (trC t p).toArray 27)) ((Below.refl _ (w.alloc (.cells (trC t p).toArray 27))).alloc (Nat.le_refl _) (.cells (shCK (j : Nat) x s A n c).toArray 51))
  have hp0 := heap_alloc_new (w.alloc (.cells (trC t p).toArray 27)) (.cells (shCK (j : Nat) x s A n c).toArray 51)
  rw [World.size_alloc] at hp0
  obtain ⟨V, HV⟩ : ∃ V, Hid ((w.alloc (.cells (trC t p).toArray 27)).alloc (.cells (shCK (j : Nat) x s A n c).toArray 51) = V) := ⟨_, Lib.hid rfl⟩
  rw [HV.out] at hb0 hr0 hp0
  have RT0 := Lib.hid hr0
  have RS0 := Lib.hid hp0
  have KO0 := Lib.hid (h.out.below hb0)
  have KT0 := Lib.hid (hT.out.below hb0)
  have KI0 := Lib.hid (hp.out.below hb0)
  have HB0 := Lib.hid hb0
  clear hb0 hr0 hp0
  rw [show trV t p = .agg (trC t p).toArray from rfl]
  go_enter Tryd.func5, Tryd.ntmps5
  go_wp2_with (rw [HV.out])
  refine (sane42 _ KT0).mono ?_
  rintro e U1 ⟨rfl, hq⟩
  have HB2 := Lib.hid (HB0.out.trans (hq.mono HB0.out.size))
  have RT2 := Lib.hid (row_kept RT0.out hq)
  have RS2 := Lib.hid (row_kept RS0.out hq)
  have KO2 := Lib.hid (KO0.out.below hq)
  have KT2 := Lib.hid (KT0.out.below hq)
  have KI2 := Lib.hid (KI0.out.below hq)
  clear hq HB0 RT0 RS0 KO0 KT0 KI0
  go_wp2_with (refine wpList_load_row rfl 27 (.tmp 2) rfl (w.heap.size) rfl 27 _ (0, 0) _ RT2.out Tryd.underlying27 rfl HIT.out ?_)
  rw [show Value.agg (trC t p).toArray = trV t p from rfl]
  refine (few_yes t p _ h1 h2).mono ?_
  rintro e U3 ⟨rfl, hq⟩
  have HB4 := Lib.hid (HB2.out.trans (hq.mono HB2.out.size))
  have RT4 := Lib.hid (row_kept RT2.out hq)
  have RS4 := Lib.hid (row_kept RS2.out hq)
  have KO4 := Lib.hid (KO2.out.below hq)
  have KT4 := Lib.hid (KT2.out.below hq)
  have KI4 := Lib.hid (KI2.out.below hq)
  clear hq HB2 RT2 RS2 KO2 KT2 KI2
  have d50 : decide ((50 : Int) < (n : Int)) = false := decide_eq_false (by omega)
  have d50n : decide (50 < n) = false := decide_eq_false (by omega)
  obtain ⟨X, HX⟩ : ∃ x, Hid (lstL t = x) := ⟨_, Lib.hid rfl⟩
  obtain ⟨Y, HY⟩ : ∃ y, Hid (lstK t = y) := ⟨_, Lib.hid rfl⟩
  have HXO : Hid (DgOk X) := Lib.hid (by rw [← HX.out]; exact lstL_ok t)
  have HYO : Hid (DgOk Y) := Lib.hid (by rw [← HY.out]; exact lstK_ok t)
  have HRK : Hid (RtOk (rtOf (p.n : Nat) (p.n2 : Nat) X Y)) := Lib.hid (rtOf_ok (by unfold I64; omega) (by unfold I64; omega) HXO.out HYO.out)
  have HRI := Lib.hid (rtC_info HRK.out)
  have HRS : Hid (138 = (rtC (rtOf (p.n : Nat) (p.n2 : Nat) X Y)).toArray.size) := Lib.hid (by simp [rtC, rtOf, ndC_length zeroN_ok, dgC_len32 HXO.out, dgC_len32 HYO.out, dgC_len32 zeroD_ok])
  have sp := shCK_p hs.out RS4.out
  go_wp2_with (refine wpList_load_row rfl 27 (.tmp 2) rfl (w.heap.size) rfl 27 _ (0, 0) _ RT4.out Tryd.underlying27 rfl HIT.out ?_)
  rw [show Value.agg (trC t p).toArray = trV t p from rfl]
  refine (root42_yes t p _ KO4 KT4 HE).mono ?_
  rintro e U5 ⟨rfl, hq⟩
  rw [HX.out, HY.out]
  clear sp
  have HB6 := Lib.hid (HB4.out.trans (hq.mono HB4.out.size))
  have RT6 := Lib.hid (row_kept RT4.out hq)
  have RS6 := Lib.hid (row_kept RS4.out hq)
  have KO6 := Lib.hid (KO4.out.below hq)
  have KT6 := Lib.hid (KT4.out.below hq)
  have KI6 := Lib.hid (KI4.out.below hq)
  clear hq HB4 RT4 RS4 KO4 KT4 KI4
  obtain ⟨V7, HV7⟩ : ∃ W, Hid ((U5.alloc (.cells Tryd.zeroCells35 35)).setRow U5.heap.size (rtC (rtOf (p.n : Nat) (p.n2 : Nat) X Y)).toArray = W) := ⟨_, Lib.hid rfl⟩
  have hw := setRow_heap (U5.alloc (.cells Tryd.zeroCells35 35)) U5.heap.size _ (rtC (rtOf (p.n : Nat) (p.n2 : Nat) X Y)).toArray _ _ (heap_alloc_new U5 _)
  have hb := below_setRow ((Below.refl _ U5).alloc (Nat.le_refl _) (.cells Tryd.zeroCells35 35)) (Nat.le_refl _) (rtC (rtOf (p.n : Nat) (p.n2 : Nat) X Y)).toArray
  rw [HV7.out] at hw hb
  have HB8 := Lib.hid (HB6.out.trans (hb.mono HB6.out.size))
  have RT8 := Lib.hid (row_kept RT6.out hb)
  have RS8 := Lib.hid (row_kept RS6.out hb)
  have KO8 := Lib.hid (KO6.out.below hb)
  have KT8 := Lib.hid (KT6.out.below hb)
  have KI8 := Lib.hid (KI6.out.below hb)
  have RR7 := Lib.hid hw
  clear hw hb HB6 RT6 RS6 KO6 KT6 KI6
  go_wp2_with (first | (refine wpList_store_row rfl 35 (.tmp 5) (.tmp 29) rfl U5.heap.size (rtC (rtOf (p.n : Nat) (p.n2 : Nat) X Y)).toArray rfl rfl 35 _ (heap_alloc_new U5 _) HRI.out HRS.out (rtC_one _) ?_; rw [HV7.out]) | (with_reducible refine wpList_here ?_; refine wpList_load_row_g 35 (.tmp 5) rfl rfl (U5.heap.size) rfl 35 _ (0, 0) _ RR7.out Tryd.underlying35 rfl HRI.out ?_) | (with_reducible refine wpList_here ?_; refine wpList_load_row_g 51 (.tmp 3) rfl rfl ((w.heap.size + 1)) rfl 51 _ (0, 0) _ RS8.out Tryd.underlying51 rfl HIS.out ?_))
  refine (verK (rtOf (p.n : Nat) (p.n2 : Nat) X Y) (j : Nat) x s A n c ps _ hx hs HRK (by omega) KI8 KT8).mono ?_
  rintro e U9 ⟨rfl, hq⟩
  rw [show vfE (vCl x) (lfK x s) (j : Nat) (rtOf (p.n : Nat) (p.n2 : Nat) X Y).cla ps (rtOf (p.n : Nat) (p.n2 : Nat) X Y).claimed = 0 from (by rw [← HY.out]; exact HVF.out)]
  have HB10 := Lib.hid (HB8.out.trans (hq.mono HB8.out.size))
  have RT10 := Lib.hid (row_kept RT8.out hq)
  have RS10 := Lib.hid (row_kept RS8.out hq)
  have RR10 := Lib.hid (row_kept RR7.out hq)
  have KO10 := Lib.hid (KO8.out.below hq)
  have KT10 := Lib.hid (KT8.out.below hq)
  have KI10 := Lib.hid (KI8.out.below hq)
  clear hq HB8 RT8 RS8 RR7 KO8 KT8 KI8
  have sa : U9.cell? ⟨w.heap.size + 1, 0, none⟩ = some (.int .i64 (j : Nat)) := by rw [cell_of_row _ _ _ _ _ _ RS10.out]; rfl
  go_wp2_with (refine wpList_load_row rfl 27 (.tmp 2) rfl (w.heap.size) rfl 27 _ (0, 0) _ RT10.out Tryd.underlying27 rfl HIT.out ?_)
  rw [show Value.agg (trC t p).toArray = trV t p from rfl]
  refine (shwK_yes t p j y _ KO10 KT10 hg hj HY0).mono ?_
  rintro e U11 ⟨As, ns, cs, rfl, hin, hq⟩
  rw [HSO0.out]
  clear sa
  obtain ⟨qs, HQS⟩ : ∃ ps, Hid (pathD (t.cl.map (lvK t.salt)) j = ps) := ⟨_, Lib.hid rfl⟩
  rw [HQS.out] at hin
  have KP0 := Lib.hid hin
  clear hin
  have hnn : n = ns := by rw [← KP0.out.len, ← HQS.out, pathD_length, List.length_map, h.out.cl.len]; exact HDN.out.symm
  subst hnn
  have HB12 := Lib.hid (HB10.out.trans (hq.mono HB10.out.size))
  have RT12 := Lib.hid (row_kept RT10.out hq)
  have RS12 := Lib.hid (row_kept RS10.out hq)
  have RR12 := Lib.hid (row_kept RR10.out hq)
  have KO12 := Lib.hid (KO10.out.below hq)
  have KT12 := Lib.hid (KT10.out.below hq)
  have KI12 := Lib.hid (KI10.out.below hq)
  clear hq HB10 RT10 RS10 RR10 KO10 KT10 KI10
  have HSI : Hid ((Tryd.prog.info? 51).map (·.size) = some (shCK (j : Nat) y so As n cs).toArray.size) := Lib.hid (shCK_info HSO.out)
  have HSH : Hid (37 = (shCK (j : Nat) y so As n cs).toArray.size) := Lib.hid (by simp [shCK, clC, dgC_len32 HSO.out])
  obtain ⟨V13, HV13⟩ : ∃ W, Hid ((U11.alloc (.cells #[.int .i64 0, .int .i64 0, .int .i64 0, .bool false, .int .u8 0, .int .u8 0, .int .u8 0, .int .u8 0, .int .u8 0, .int .u8 0, .int .u8 0, .int .u8 0, .int .u8 0, .int .u8 0, .int .u8 0, .int .u8 0, .int .u8 0, .int .u8 0, .int .u8 0, .int .u8 0, .int .u8 0, .int .u8 0, .int .u8 0, .int .u8 0, .int .u8 0, .int .u8 0, .int .u8 0, .int .u8 0, .int .u8 0, .int .u8 0, .int .u8 0, .int .u8 0, .int .u8 0, .int .u8 0, .int .u8 0, .int .u8 0, .slice none 0 0] 51)).setRow U11.heap.size (shCK (j : Nat) y so As n cs).toArray = W) := ⟨_, Lib.hid rfl⟩
  have hw := setRow_heap (U11.alloc (.cells #[.int .i64 0, .int .i64 0, .int .i64 0, .bool false, .int .u8 0, .int .u8 0, .int .u8 0, .int .u8 0, .int .u8 0, .int .u8 0, .int .u8 0, .int .u8 0, .int .u8 0, .int .u8 0, .int .u8 0, .int .u8 0, .int .u8 0, .int .u8 0, .int .u8 0, .int .u8 0, .int .u8 0, .int .u8 0, .int .u8 0, .int .u8 0, .int .u8 0, .int .u8 0, .int .u8 0, .int .u8 0, .int .u8 0, .int .u8 0, .int .u8 0, .int .u8 0, .int .u8 0, .int .u8 0, .int .u8 0, .int .u8 0, .slice none 0 0] 51)) U11.heap.size _ (shCK (j : Nat) y so As n cs).toArray _ _ (heap_alloc_new U11 _)
  have hb := below_setRow ((Below.refl _ U11).alloc (Nat.le_refl _) (.cells #[.int .i64 0, .int .i64 0, .int .i64 0, .bool false, .int .u8 0, .int .u8 0, .int .u8 0, .int .u8 0, .int .u8 0, .int .u8 0, .int .u8 0, .int .u8 0, .int .u8 0, .int .u8 0, .int .u8 0, .int .u8 0, .int .u8 0, .int .u8 0, .int .u8 0, .int .u8 0, .int .u8 0, .int .u8 0, .int .u8 0, .int .u8 0, .int .u8 0, .int .u8 0, .int .u8 0, .int .u8 0, .int .u8 0, .int .u8 0, .int .u8 0, .int .u8 0, .int .u8 0, .int .u8 0, .int .u8 0, .int .u8 0, .slice none 0 0] 51)) (Nat.le_refl _) (shCK (j : Nat) y so As n cs).toArray
  rw [HV13.out] at hw hb
  have HB14 := Lib.hid (HB12.out.trans (hb.mono HB12.out.size))
  have RT14 := Lib.hid (row_kept RT12.out hb)
  have RS14 := Lib.hid (row_kept RS12.out hb)
  have RR14 := Lib.hid (row_kept RR12.out hb)
  have KO14 := Lib.hid (KO12.out.below hb)
  have KT14 := Lib.hid (KT12.out.below hb)
  have KI14 := Lib.hid (KI12.out.below hb)
  have KP14 := Lib.hid (KP0.out.below hb)
  have RW13 := Lib.hid hw
  clear hw hb HB12 RT12 RS12 RR12 KO12 KT12 KI12 KP0
  have HMX := Lib.hid (shCK_x RS14.out)
  have HMY := Lib.hid (shCK_x RW13.out)
  go_wp2_with (first | (refine wpList_store_row rfl 51 (.tmp 7) (.tmp 44) rfl U11.heap.size (shCK (j : Nat) y so As n cs).toArray rfl rfl 51 _ (heap_alloc_new U11 _) HSI.out HSH.out (shCK_one _ _ _ _ _ _) ?_; rw [HV13.out]) | (refine wpList_load_mid rfl 49 (.tmp 48) rfl ((w.heap.size + 1)) 1 rfl (clC x) _ HMX.out Tryd.underlying49 rfl HLX.out ?_; rw [show Value.agg (clC x).toArray = clV x from rfl]) | (refine wpList_load_mid rfl 49 (.tmp 50) rfl (U11.heap.size) 1 rfl (clC y) _ HMY.out Tryd.underlying49 rfl HLY.out ?_; rw [show Value.agg (clC y).toArray = clV y from rfl]) | (refine wpList_eql_cl rfl (.tmp 49) (.tmp 51) _ rfl x y rfl rfl ?_; rw [hxy]))
  dsimp only [Act.put]
  simp only [List.setIfInBounds_toArray, List.set_cons_succ, List.set_cons_zero]
  have HC0 := Lib.hid (Below.refl V13.heap.size V13).drew
  refine region_flow5 (by kernel_rfl) (by kernel_rfl) (fun i => false) (fun i => i) (by kernel_rfl) (fun fx => #[trV t p, Value.agg (shCK (↑j) x s A n c).toArray, Value.pointer (some { block := w.heap.size, off := 0 }), Value.pointer (some { block := w.heap.size + 1, off := 0 }), Value.bool false, Value.pointer (some { block := U5.heap.size, off := 0 }), Value.bool true, Value.pointer (some { block := U11.heap.size, off := 0 }), Value.int IntKind.i64 0, fx 4, fx 5, undef, undef, undef, undef, Value.bool true, Value.bool false, trV t p, Value.bool true, Value.bool false, Value.bool false, Value.pointer (some { block := w.heap.size + 1, off := 36 }), Value.slice A n c, Value.int IntKind.i64 ↑n, Value.bool false, Value.bool false, Value.tuple #[Value.agg (rtC (rtOf (↑p.n) (↑p.n2) X Y)).toArray, Value.bool true], trV t p, Value.tuple #[Value.agg (rtC (rtOf (↑p.n) (↑p.n2) X Y)).toArray, Value.bool true], Value.agg (rtC (rtOf (↑p.n) (↑p.n2) X Y)).toArray, Value.bool true, Value.bool true, Value.bool false, Value.bool false, Value.agg (rtC (rtOf (↑p.n) (↑p.n2) X Y)).toArray, Value.agg (shCK (↑j) x s A n c).toArray, Value.int IntKind.i64 0, Value.bool false, Value.bool false, Value.tuple #[Value.agg (shCK (↑j) y so As n cs).toArray, Value.int IntKind.i64 0], trV t p, Value.pointer (some { block := w.heap.size + 1, off := 0 }), Value.int IntKind.i64 ↑j, Value.tuple #[Value.agg (shCK (↑j) y so As n cs).toArray, Value.int IntKind.i64 0], Value.agg (shCK (↑j) y so As n cs).toArray, Value.int IntKind.i64 0, Value.int IntKind.i64 0, Value.bool false, Value.pointer (some { block := w.heap.size + 1, off := 1 }), clV x, Value.pointer (some { block := U11.heap.size, off := 1 }), clV y, Value.bool false, fx 0, fx 1, fx 2, fx 3, undef, undef, undef, undef, undef, undef, undef, undef, undef, undef, undef, undef, undef, undef, undef, undef, undef, undef, undef, undef, undef, undef, undef, undef, undef, undef, undef, undef, undef, undef, undef, undef, undef, undef, undef, undef, undef, undef, undef, undef, undef, undef, undef, undef, undef, undef, undef, undef, undef]) (fun _ => undef) (fun L fx w' => Below V13.heap.size V13 w' ∧ (L 4 = true → RowAt V13.heap.size (fx 4) 49 (bif L 6 then (clC x).toArray else #[.int .i64 0, .int .i64 0, .bool false]) w') ∧ (L 5 = true → RowAt V13.heap.size (fx 5) 49 (bif L 7 then (clC y).toArray else #[.int .i64 0, .int .i64 0, .bool false]) w') ∧ (L 4 = true → L 5 = true → fx 4 ≠ fx 5)) (fun fi fv _ fw => wMt (w.heap.size + 1) (U11.heap.size) x y fi fv fw) (fun _ _ => False) ⟨HC0.out, (fun h => by cases h), (fun h => by cases h), (fun h => by cases h)⟩ ?_ (fun _ _ _ _ h => h.elim) ?_
  · refine ⟨?_, ?_, ?_, ?_, ?_, ?_, ?_, ?_, trivial⟩
    all_goals intro L fx w' hC hi hcl hdn hd
    · clear hd
      go_wp2_with fail
      exact ⟨_, rfl, hC, rfl, fun _ _ _ _ _ h => h⟩
    · have h0 : fx 0 = Value.pointer (some ⟨w.heap.size + 1, 1, none⟩) := hd.1 rfl
      have hrow := shCK_x (row_kept RS14.out hC.1)
      refine wpList_load_mid rfl 49 (.tmp 53) rfl ((w.heap.size + 1)) 1 h0 (clC x) _ hrow Tryd.underlying49 rfl HLX.out ?_
      rw [show Value.agg (clC x).toArray = clV x from rfl]
      clear hd hrow
      go_wp2_with fail
      exact ⟨_, (by simp only [upd, h0]; rfl), hC, rfl, fun _ _ _ _ _ h => h⟩
    · clear hd
      go_wp2_with fail
      exact ⟨_, rfl, hC, rfl, fun _ _ _ _ _ h => h⟩
    · have h2 : fx 2 = Value.pointer (some ⟨U11.heap.size, 1, none⟩) := hd.1 rfl
      have hrow := shCK_x (row_kept RW13.out hC.1)
      refine wpList_load_mid rfl 49 (.tmp 55) rfl (U11.heap.size) 1 h2 (clC y) _ hrow Tryd.underlying49 rfl HLY.out ?_
      rw [show Value.agg (clC y).toArray = clV y from rfl]
      clear hd hrow
      go_wp2_with fail
      exact ⟨_, (by simp only [upd, h2]; rfl), hC, rfl, fun _ _ _ _ _ h => h⟩
    · have hns : L 6 = false := Bool.eq_false_iff.2 (fun h => by have := hcl 6 4 h (by kernel_rfl); rw [hi] at this; cases this)
      clear hd
      go_wp2_with fail
      have hq : Below w'.heap.size w' (w'.alloc (.cells #[.int .i64 0, .int .i64 0, .bool false] 49)) := (Below.refl _ _).alloc (Nat.le_refl _) _
      have hrw : RowAt V13.heap.size (.pointer (some ⟨w'.heap.size, 0, none⟩)) 49 (bif L 6 then (clC x).toArray else #[.int .i64 0, .int .i64 0, .bool false]) (w'.alloc (.cells #[.int .i64 0, .int .i64 0, .bool false] 49)) := by rw [hns]; exact ⟨_, rfl, hC.1.size, heap_alloc_new _ _⟩
      have hne : L 5 = true → fx 5 ≠ .pointer (some ⟨w'.heap.size, 0, none⟩) := fun e e4 => by
        obtain ⟨q, e1, _, e3⟩ := hC.2.2.1 e
        rw [e1] at e4
        have h5 := block_ltT e3
        simp at e4 <;> omega
      refine ⟨.pointer (some ⟨w'.heap.size, 0, none⟩), rfl, ⟨hC.1.trans (hq.mono hC.1.size), fun _ => hrw, fun e => (hC.2.2.1 e).below hq, fun _ e => (hne e).symm⟩, trivial, fun j v u _ _ h => wMt_any j v h⟩
    · have hns : L 7 = false := Bool.eq_false_iff.2 (fun h => by have := hcl 7 5 h (by kernel_rfl); rw [hi] at this; cases this)
      clear hd
      go_wp2_with fail
      have hq : Below w'.heap.size w' (w'.alloc (.cells #[.int .i64 0, .int .i64 0, .bool false] 49)) := (Below.refl _ _).alloc (Nat.le_refl _) _
      have hrw : RowAt V13.heap.size (.pointer (some ⟨w'.heap.size, 0, none⟩)) 49 (bif L 7 then (clC y).toArray else #[.int .i64 0, .int .i64 0, .bool false]) (w'.alloc (.cells #[.int .i64 0, .int .i64 0, .bool false] 49)) := by rw [hns]; exact ⟨_, rfl, hC.1.size, heap_alloc_new _ _⟩
      have hne : L 4 = true → fx 4 ≠ .pointer (some ⟨w'.heap.size, 0, none⟩) := fun e e4 => by
        obtain ⟨q, e1, _, e3⟩ := hC.2.1 e
        rw [e1] at e4
        have h5 := block_ltT e3
        simp at e4 <;> omega
      refine ⟨.pointer (some ⟨w'.heap.size, 0, none⟩), rfl, ⟨hC.1.trans (hq.mono hC.1.size), fun e => (hC.2.1 e).below hq, fun _ => hrw, fun e _ => hne e⟩, trivial, fun j v u _ _ h => wMt_any j v h⟩
    · have H4 := Lib.hid (hd.1 rfl)
      have h1 : fx 1 = clV x := hd.2.1 rfl
      obtain ⟨q, eq, hq1, hrow⟩ := hC.2.1 (hdn 4 (by kernel_rfl))
      rw [hi] at hrow
      refine wpList_store_row rfl 49 (.tmp 9) (.tmp 54) rfl q (clC x).toArray eq h1 49 _ hrow (clC_infoA x) rfl (clC_one _) ?_
      clear hd
      go_wp2_with fail
      have hw2 := setRow_heap w' q _ (clC x).toArray _ _ hrow
      have ho : L 5 = true → RowAt V13.heap.size (fx 5) 49 (bif L 7 then (clC y).toArray else #[.int .i64 0, .int .i64 0, .bool false]) (w'.setRow q (clC x).toArray) := fun e => by
        obtain ⟨q2, e1, e2, e3⟩ := hC.2.2.1 e
        have hne : q2 ≠ q := fun e4 => hC.2.2.2 (hdn 4 (by kernel_rfl)) e (by rw [eq, e1, e4])
        exact ⟨q2, e1, e2, (setRow_other w' q q2 _ hne).trans e3⟩
      exact ⟨undef, (by simp only [upd, h1, eq]; rfl), ⟨below_setRow hC.1 hq1 _, fun _ => ⟨q, eq, hq1, hw2⟩, ho, hC.2.2.2⟩, trivial, fun j v u _ _ h => wMt_any j v h⟩
    · have H5 := Lib.hid (hd.1 rfl)
      have h3 : fx 3 = clV y := hd.2.1 rfl
      obtain ⟨q, eq, hq1, hrow⟩ := hC.2.2.1 (hdn 5 (by kernel_rfl))
      rw [hi] at hrow
      refine wpList_store_row rfl 49 (.tmp 10) (.tmp 56) rfl q (clC y).toArray eq h3 49 _ hrow (clC_infoA y) rfl (clC_one _) ?_
      clear hd
      go_wp2_with fail
      have hw2 := setRow_heap w' q _ (clC y).toArray _ _ hrow
      have ho : L 4 = true → RowAt V13.heap.size (fx 4) 49 (bif L 6 then (clC x).toArray else #[.int .i64 0, .int .i64 0, .bool false]) (w'.setRow q (clC y).toArray) := fun e => by
        obtain ⟨q2, e1, e2, e3⟩ := hC.2.1 e
        have hne : q2 ≠ q := fun e4 => hC.2.2.2 e (hdn 5 (by kernel_rfl)) (by rw [eq, e1, e4])
        exact ⟨q2, e1, e2, (setRow_other w' q q2 _ hne).trans e3⟩
      exact ⟨undef, (by simp only [upd, h3, eq]; rfl), ⟨below_setRow hC.1 hq1 _, ho, fun _ => ⟨q, eq, hq1, hw2⟩, hC.2.2.2⟩, trivial, fun j v u _ _ h => wMt_any j v h⟩
  · intro L fo w' hL hC hS
    rename World => W13
    obtain ⟨q9, e9, hq9, hr9⟩ := hC.2.1 (hL 4 (by decide))
    obtain ⟨q10, e10, hq10, hr10⟩ := hC.2.2.1 (hL 5 (by decide))
    rw [hL 6 (by decide)] at hr9
    rw [hL 7 (by decide)] at hr10
    rw [e9, e10]
    have hbC := hC.1
    have HB15 := Lib.hid (HB14.out.trans (hbC.mono HB14.out.size))
    have RT15 := Lib.hid (row_kept RT14.out hbC)
    have RS15 := Lib.hid (row_kept RS14.out hbC)
    have RR15 := Lib.hid (row_kept RR14.out hbC)
    have RW15 := Lib.hid (row_kept RW13.out hbC)
    have KO15 := Lib.hid (KO14.out.below hbC)
    have KT15 := Lib.hid (KT14.out.below hbC)
    have KI15 := Lib.hid (KI14.out.below hbC)
    have KP15 := Lib.hid (KP14.out.below hbC)
    have RX0 := Lib.hid hr9
    have RY0 := Lib.hid hr10
    clear hC hS hL hr9 hr10 hbC e9 e10
    have HZa : Hid (∀ z ∈ ([x.p, x.r, flagN x.m] : List Int), -9223372036854775808 ≤ z ∧ z ≤ 9223372036854775807) := Lib.hid (cl_i64 hx.out)
    have HZb : Hid (∀ z ∈ ([y.p, y.r, flagN y.m] : List Int), -9223372036854775808 ≤ z ∧ z ≤ 9223372036854775807) := Lib.hid (cl_i64 hy.out)
    go_wp2_with fail
    have HCa := Lib.hid (Below.refl W13.heap.size W13).drew
    refine region_flow3 (by kernel_rfl) (by kernel_rfl) (fun i => Nat.beq i 11) (fun i => i) (by kernel_rfl) (fun fx => #[trV t p, Value.agg (shCK (↑j) x s A n c).toArray, Value.pointer (some { block := w.heap.size, off := 0 }), Value.pointer (some { block := w.heap.size + 1, off := 0 }), Value.bool false, Value.pointer (some { block := U5.heap.size, off := 0 }), Value.bool true, Value.pointer (some { block := U11.heap.size, off := 0 }), Value.int IntKind.i64 0, Value.pointer (some { block := q9, off := 0 }), Value.pointer (some { block := q10, off := 0 }), fx 11, undef, undef, undef, Value.bool true, Value.bool false, trV t p, Value.bool true, Value.bool false, Value.bool false, Value.pointer (some { block := w.heap.size + 1, off := 36 }), Value.slice A n c, Value.int IntKind.i64 ↑n, Value.bool false, Value.bool false, Value.tuple #[Value.agg (rtC (rtOf (↑p.n) (↑p.n2) X Y)).toArray, Value.bool true], trV t p, Value.tuple #[Value.agg (rtC (rtOf (↑p.n) (↑p.n2) X Y)).toArray, Value.bool true], Value.agg (rtC (rtOf (↑p.n) (↑p.n2) X Y)).toArray, Value.bool true, Value.bool true, Value.bool false, Value.bool false, Value.agg (rtC (rtOf (↑p.n) (↑p.n2) X Y)).toArray, Value.agg (shCK (↑j) x s A n c).toArray, Value.int IntKind.i64 0, Value.bool false, Value.bool false, Value.tuple #[Value.agg (shCK (↑j) y so As n cs).toArray, Value.int IntKind.i64 0], trV t p, Value.pointer (some { block := w.heap.size + 1, off := 0 }), Value.int IntKind.i64 ↑j, Value.tuple #[Value.agg (shCK (↑j) y so As n cs).toArray, Value.int IntKind.i64 0], Value.agg (shCK (↑j) y so As n cs).toArray, Value.int IntKind.i64 0, Value.int IntKind.i64 0, Value.bool false, Value.pointer (some { block := w.heap.size + 1, off := 1 }), clV x, Value.pointer (some { block := U11.heap.size, off := 1 }), clV y, Value.bool false, fo 0, fo 1, fo 2, fo 3, fx 0, fx 1, fx 2, fx 3, fx 4, fx 5, fx 6, fx 7, fx 8, fx 9, fx 10, undef, undef, undef, undef, undef, undef, undef, undef, undef, undef, undef, undef, undef, undef, undef, undef, undef, undef, undef, undef, undef, undef, undef, undef, undef, undef, undef, undef, undef, undef, undef, undef, undef, undef, undef, undef, undef, undef]) (fun _ => undef) (fun L fx w' => Below W13.heap.size W13 w') (fun fi fv _ fw => wMh ((w.heap.size + 1)) (q9) s x fi fv fw) HCa.out ?_ ?_
    · refine ⟨?_, ?_, ?_, ?_, ?_, ?_, ?_, ?_, ?_, ?_, ?_, ?_, trivial⟩
      all_goals intro L fx w' hC hi hcl hdn hd
      · clear hd
        go_wp2_with fail
        exact ⟨_, rfl, hC, rfl, fun _ _ _ _ _ h => h⟩
      · have h0 : fx 0 = Value.pointer (some ⟨(w.heap.size + 1), 4, none⟩) := hd.1 rfl
        have hrow := shCK_s (row_kept RS15.out hC)
        refine wpList_load_mid rfl 25 (.tmp 57) rfl ((w.heap.size + 1)) 4 h0 (dgC s) _ hrow Tryd.underlying25 rfl (dgC_infoL hs.out) ?_
        rw [show Value.agg (dgC s).toArray = dgV s from rfl]
        clear hd hrow
        go_wp2_with fail
        exact ⟨_, (by simp only [upd, h0]; rfl), hC, rfl, fun _ _ _ _ _ h => h⟩
      · clear hd
        go_wp2_with fail
        exact ⟨_, rfl, hC, rfl, fun _ _ _ _ _ h => h⟩
      · have h2 : fx 2 = Value.pointer (some ⟨q9, 0, none⟩) := hd.1 rfl
        have kk : w'.cell? ⟨q9, 0, none⟩ = some (.int .i64 x.p) := by rw [cell_of_row _ _ _ _ _ _ (row_kept RX0.out hC)]; rfl
        clear hd
        go_wp2_with fail
        exact ⟨_, (by simp only [upd, h2]; rfl), hC, rfl, fun _ _ _ _ _ h => h⟩
      · clear hd
        go_wp2_with fail
        exact ⟨_, rfl, hC, rfl, fun _ _ _ _ _ h => h⟩
      · have h4 : fx 4 = Value.pointer (some ⟨q9, 1, none⟩) := hd.1 rfl
        have kk : w'.cell? ⟨q9, 1, none⟩ = some (.int .i64 x.r) := by rw [cell_of_row _ _ _ _ _ _ (row_kept RX0.out hC)]; rfl
        clear hd
        go_wp2_with fail
        exact ⟨_, (by simp only [upd, h4]; rfl), hC, rfl, fun _ _ _ _ _ h => h⟩
      · clear hd
        go_wp2_with fail
        exact ⟨_, rfl, hC, rfl, fun _ _ _ _ _ h => h⟩
      · have h6 : fx 6 = Value.pointer (some ⟨q9, 2, none⟩) := hd.1 rfl
        have kk : w'.cell? ⟨q9, 2, none⟩ = some (.bool x.m) := by rw [cell_of_row _ _ _ _ _ _ (row_kept RX0.out hC)]; rfl
        clear hd
        go_wp2_with fail
        exact ⟨_, (by simp only [upd, h6]; rfl), hC, rfl, fun _ _ _ _ _ h => h⟩
      · have h7 : fx 7 = Value.bool x.m := hd.1 rfl
        clear hd
        go_wp2_with fail
        refine (flag_any x.m w').mono ?_
        rintro e w2 ⟨rfl, rfl⟩
        go_wp2_with fail
        exact ⟨_, (by simp only [upd, h7]; rfl), hC, rfl, fun _ _ _ _ _ h => h⟩
      · have h3 : fx 3 = Value.int .i64 x.p := hd.1 rfl
        have h5 : fx 5 = Value.int .i64 x.r := hd.2.1 rfl
        have h8 : fx 8 = Value.int .i64 (flagN x.m) := hd.2.2.1 rfl
        clear hd
        go_wp2_with fail
        have hq : Below w'.heap.size w' (w'.alloc (.cells #[.int .i64 x.p, .int .i64 x.r, .int .i64 (flagN x.m)] 3)) := (Below.refl _ _).alloc (Nat.le_refl _) _
        exact ⟨Value.slice (some ⟨w'.heap.size, 0, none⟩) 3 3, (by simp only [upd, h3, h5, h8]; rfl), hC.trans (hq.mono hC.size), ⟨_, rfl, heap_alloc_new _ _⟩, fun j v u _ _ h => wMh_below hq j v h⟩
      · have h1 : fx 1 = dgV s := hd.1 rfl
        have H9 := Lib.hid (hd.2.1 rfl)
        obtain ⟨q, e9, hrow⟩ := H9.out
        clear hd
        have HZC : Hid (∀ i, i < 3 → w'.cell? ⟨q, i, none⟩ = some (.int .i64 (([x.p, x.r, flagN x.m] : List Int).getD i 0))) := Lib.hid (fun i hi => by
            rw [cell_of_row _ _ _ _ _ _ hrow]
            match i, hi with
            | 0, _ => rfl
            | 1, _ => rfl
            | 2, _ => rfl)
        have HGZ := Lib.hid (block_ltT hrow)
        clear hrow
        go_wp2_with fail
        refine (hashed_any s [x.p, x.r, flagN x.m] q 3 3 w' hs HZa rfl (by omega) HZC HGZ.out).mono ?_
        rintro e w2 ⟨A9, n9, c9, rfl, hin, hq⟩
        go_wp2_with fail
        exact ⟨_, by rw [← e9]; simp only [upd, h1]; rfl, hC.trans (hq.mono hC.size), ⟨_, _, _, rfl, hin⟩, fun j v u _ _ h => wMh_below hq j v h⟩
      · have H10 := Lib.hid (hd.1 rfl)
        clear hd
        go_wp2_with fail
        exact ⟨fx 10, rfl, hC, H10.out, fun _ _ _ _ _ h => h⟩
    · intro L fp w' hC hS
      have H11 := Lib.hid (hS 11 (by decide) rfl)
      rename World => Wa
      obtain ⟨Aa, na, ca, e11, hin⟩ := H11.out
      have hbC := hC
      have e12 : fp 11 = _ := e11
      rw [e12]
      have HB16 := Lib.hid (HB15.out.trans (hbC.mono HB15.out.size))
      have RT16 := Lib.hid (row_kept RT15.out hbC)
      have RS16 := Lib.hid (row_kept RS15.out hbC)
      have RR16 := Lib.hid (row_kept RR15.out hbC)
      have RW16 := Lib.hid (row_kept RW15.out hbC)
      have RX16 := Lib.hid (row_kept RX0.out hbC)
      have RY16 := Lib.hid (row_kept RY0.out hbC)
      have KO16 := Lib.hid (KO15.out.below hbC)
      have KT16 := Lib.hid (KT15.out.below hbC)
      have KI16 := Lib.hid (KI15.out.below hbC)
      have KP16 := Lib.hid (KP15.out.below hbC)
      have KH0a := Lib.hid hin
      obtain ⟨ga, oa, rfl, hgl, hbt⟩ := hin.rd (by rw [List.length_append, hs.out.len]; omega)
      clear hC hS H11 hbC hin e11 e12 hgl hbt HB15 RT15 RS15 RR15 RW15 RX0 RY0 KO15 KT15 KI15 KP15
      go_wp2_with fail
      have HCb := Lib.hid (Below.refl Wa.heap.size Wa).drew
      refine region_flow3 (by kernel_rfl) (by kernel_rfl) (fun i => Nat.beq i 11) (fun i => i) (by kernel_rfl) (fun fx => #[trV t p, Value.agg (shCK (↑j) x s A n c).toArray, Value.pointer (some { block := w.heap.size, off := 0 }), Value.pointer (some { block := w.heap.size + 1, off := 0 }), Value.bool false, Value.pointer (some { block := U5.heap.size, off := 0 }), Value.bool true, Value.pointer (some { block := U11.heap.size, off := 0 }), Value.int IntKind.i64 0, Value.pointer (some { block := q9, off := 0 }), Value.pointer (some { block := q10, off := 0 }), Value.slice (some { block := ga, off := oa }) na ca, fx 11, undef, undef, Value.bool true, Value.bool false, trV t p, Value.bool true, Value.bool false, Value.bool false, Value.pointer (some { block := w.heap.size + 1, off := 36 }), Value.slice A n c, Value.int IntKind.i64 ↑n, Value.bool false, Value.bool false, Value.tuple #[Value.agg (rtC (rtOf (↑p.n) (↑p.n2) X Y)).toArray, Value.bool true], trV t p, Value.tuple #[Value.agg (rtC (rtOf (↑p.n) (↑p.n2) X Y)).toArray, Value.bool true], Value.agg (rtC (rtOf (↑p.n) (↑p.n2) X Y)).toArray, Value.bool true, Value.bool true, Value.bool false, Value.bool false, Value.agg (rtC (rtOf (↑p.n) (↑p.n2) X Y)).toArray, Value.agg (shCK (↑j) x s A n c).toArray, Value.int IntKind.i64 0, Value.bool false, Value.bool false, Value.tuple #[Value.agg (shCK (↑j) y so As n cs).toArray, Value.int IntKind.i64 0], trV t p, Value.pointer (some { block := w.heap.size + 1, off := 0 }), Value.int IntKind.i64 ↑j, Value.tuple #[Value.agg (shCK (↑j) y so As n cs).toArray, Value.int IntKind.i64 0], Value.agg (shCK (↑j) y so As n cs).toArray, Value.int IntKind.i64 0, Value.int IntKind.i64 0, Value.bool false, Value.pointer (some { block := w.heap.size + 1, off := 1 }), clV x, Value.pointer (some { block := U11.heap.size, off := 1 }), clV y, Value.bool false, fo 0, fo 1, fo 2, fo 3, fp 0, fp 1, fp 2, fp 3, fp 4, fp 5, fp 6, fp 7, fp 8, fp 9, fp 10, fx 0, fx 1, fx 2, fx 3, fx 4, fx 5, fx 6, fx 7, fx 8, fx 9, fx 10, undef, undef, undef, undef, undef, undef, undef, undef, undef, undef, undef, undef, undef, undef, undef, undef, undef, undef, undef, undef, undef, undef, undef, undef, undef, undef, undef]) (fun _ => undef) (fun L fx w' => Below Wa.heap.size Wa w') (fun fi fv _ fw => wMh (U11.heap.size) (q10) so y fi fv fw) HCb.out ?_ ?_
      · refine ⟨?_, ?_, ?_, ?_, ?_, ?_, ?_, ?_, ?_, ?_, ?_, ?_, trivial⟩
        all_goals intro L fx w' hC hi hcl hdn hd
        · clear hd
          go_wp2_with fail
          exact ⟨_, rfl, hC, rfl, fun _ _ _ _ _ h => h⟩
        · have h0 : fx 0 = Value.pointer (some ⟨U11.heap.size, 4, none⟩) := hd.1 rfl
          have hrow := shCK_s (row_kept RW16.out hC)
          refine wpList_load_mid rfl 25 (.tmp 68) rfl (U11.heap.size) 4 h0 (dgC so) _ hrow Tryd.underlying25 rfl (dgC_infoL HSO.out) ?_
          rw [show Value.agg (dgC so).toArray = dgV so from rfl]
          clear hd hrow
          go_wp2_with fail
          exact ⟨_, (by simp only [upd, h0]; rfl), hC, rfl, fun _ _ _ _ _ h => h⟩
        · clear hd
          go_wp2_with fail
          exact ⟨_, rfl, hC, rfl, fun _ _ _ _ _ h => h⟩
        · have h2 : fx 2 = Value.pointer (some ⟨q10, 0, none⟩) := hd.1 rfl
          have kk : w'.cell? ⟨q10, 0, none⟩ = some (.int .i64 y.p) := by rw [cell_of_row _ _ _ _ _ _ (row_kept RY16.out hC)]; rfl
          clear hd
          go_wp2_with fail
          exact ⟨_, (by simp only [upd, h2]; rfl), hC, rfl, fun _ _ _ _ _ h => h⟩
        · clear hd
          go_wp2_with fail
          exact ⟨_, rfl, hC, rfl, fun _ _ _ _ _ h => h⟩
        · have h4 : fx 4 = Value.pointer (some ⟨q10, 1, none⟩) := hd.1 rfl
          have kk : w'.cell? ⟨q10, 1, none⟩ = some (.int .i64 y.r) := by rw [cell_of_row _ _ _ _ _ _ (row_kept RY16.out hC)]; rfl
          clear hd
          go_wp2_with fail
          exact ⟨_, (by simp only [upd, h4]; rfl), hC, rfl, fun _ _ _ _ _ h => h⟩
        · clear hd
          go_wp2_with fail
          exact ⟨_, rfl, hC, rfl, fun _ _ _ _ _ h => h⟩
        · have h6 : fx 6 = Value.pointer (some ⟨q10, 2, none⟩) := hd.1 rfl
          have kk : w'.cell? ⟨q10, 2, none⟩ = some (.bool y.m) := by rw [cell_of_row _ _ _ _ _ _ (row_kept RY16.out hC)]; rfl
          clear hd
          go_wp2_with fail
          exact ⟨_, (by simp only [upd, h6]; rfl), hC, rfl, fun _ _ _ _ _ h => h⟩
        · have h7 : fx 7 = Value.bool y.m := hd.1 rfl
          clear hd
          go_wp2_with fail
          refine (flag_any y.m w').mono ?_
          rintro e w2 ⟨rfl, rfl⟩
          go_wp2_with fail
          exact ⟨_, (by simp only [upd, h7]; rfl), hC, rfl, fun _ _ _ _ _ h => h⟩
        · have h3 : fx 3 = Value.int .i64 y.p := hd.1 rfl
          have h5 : fx 5 = Value.int .i64 y.r := hd.2.1 rfl
          have h8 : fx 8 = Value.int .i64 (flagN y.m) := hd.2.2.1 rfl
          clear hd
          go_wp2_with fail
          have hq : Below w'.heap.size w' (w'.alloc (.cells #[.int .i64 y.p, .int .i64 y.r, .int .i64 (flagN y.m)] 3)) := (Below.refl _ _).alloc (Nat.le_refl _) _
          exact ⟨Value.slice (some ⟨w'.heap.size, 0, none⟩) 3 3, (by simp only [upd, h3, h5, h8]; rfl), hC.trans (hq.mono hC.size), ⟨_, rfl, heap_alloc_new _ _⟩, fun j v u _ _ h => wMh_below hq j v h⟩
        · have h1 : fx 1 = dgV so := hd.1 rfl
          have H9 := Lib.hid (hd.2.1 rfl)
          obtain ⟨q, e9, hrow⟩ := H9.out
          clear hd
          have HZC : Hid (∀ i, i < 3 → w'.cell? ⟨q, i, none⟩ = some (.int .i64 (([y.p, y.r, flagN y.m] : List Int).getD i 0))) := Lib.hid (fun i hi => by
            rw [cell_of_row _ _ _ _ _ _ hrow]
            match i, hi with
            | 0, _ => rfl
            | 1, _ => rfl
            | 2, _ => rfl)
          have HGZ := Lib.hid (block_ltT hrow)
          clear hrow
          go_wp2_with fail
          refine (hashed_any so [y.p, y.r, flagN y.m] q 3 3 w' HSO HZb rfl (by omega) HZC HGZ.out).mono ?_
          rintro e w2 ⟨A9, n9, c9, rfl, hin, hq⟩
          go_wp2_with fail
          exact ⟨_, by rw [← e9]; simp only [upd, h1]; rfl, hC.trans (hq.mono hC.size), ⟨_, _, _, rfl, hin⟩, fun j v u _ _ h => wMh_below hq j v h⟩
        · have H10 := Lib.hid (hd.1 rfl)
          clear hd
          go_wp2_with fail
          exact ⟨fx 10, rfl, hC, H10.out, fun _ _ _ _ _ h => h⟩
      · intro L fq w' hC hS
        have H11 := Lib.hid (hS 11 (by decide) rfl)
        rename World => Wb
        obtain ⟨Ab, nb, cb, e11, hin⟩ := H11.out
        have hbC := hC
        have e12 : fq 11 = _ := e11
        rw [e12]
        have HB17 := Lib.hid (HB16.out.trans (hbC.mono HB16.out.size))
        have RT17 := Lib.hid (row_kept RT16.out hbC)
        have RS17 := Lib.hid (row_kept RS16.out hbC)
        have RR17 := Lib.hid (row_kept RR16.out hbC)
        have RW17 := Lib.hid (row_kept RW16.out hbC)
        have RX17 := Lib.hid (row_kept RX16.out hbC)
        have RY17 := Lib.hid (row_kept RY16.out hbC)
        have KO17 := Lib.hid (KO16.out.below hbC)
        have KT17 := Lib.hid (KT16.out.below hbC)
        have KI17 := Lib.hid (KI16.out.below hbC)
        have KP17 := Lib.hid (KP16.out.below hbC)
        have KHa17 := Lib.hid (KH0a.out.below hbC)
        have KH0b := Lib.hid hin
        obtain ⟨gb, ob, rfl, hgl, hbt⟩ := hin.rd (by rw [List.length_append, HSO.out.len]; omega)
        clear hC hS H11 hbC hin e11 e12 hgl hbt HB16 RT16 RS16 RR16 RW16 RX16 RY16 KO16 KT16 KI16 KP16 KH0a
        obtain ⟨la, HLA⟩ : ∃ l, Hid (s ++ encI [x.p, x.r, flagN x.m] = l) := ⟨_, Lib.hid rfl⟩
        obtain ⟨lb, HLB⟩ : ∃ l, Hid (so ++ encI [y.p, y.r, flagN y.m] = l) := ⟨_, Lib.hid rfl⟩
        have hne : la ≠ lb := by
          rw [← HLA.out, ← HLB.out]
          refine in_ne hs.out.len HSO.out.len HZa.out HZb.out rfl (fun e => ?_)
          have e2 : x = y := by
            simp only [List.cons.injEq, and_true] at e
            obtain ⟨e1, e2, e3⟩ := e
            have e4 := flagN_inj e3
            cases x; cases y; simp_all
          rw [(clEq_iff x y).2 e2] at hxy
          cases hxy
        have HZL : Hid (la.length ≤ 2147483648 ∧ lb.length ≤ 2147483648) := Lib.hid (by
          rw [← HLA.out, ← HLB.out, List.length_append, List.length_append, hs.out.len, HSO.out.len]
          have h1 := encI_length [x.p, x.r, flagN x.m]
          have h2 := encI_length [y.p, y.r, flagN y.m]
          simp only [List.length_cons, List.length_nil] at h1 h2
          omega)
        rw [HLA.out] at KHa17
        rw [HLB.out] at KH0b
        obtain ⟨pa, HPA⟩ : ∃ l, Hid (tagged (strL claimT) la = l) := ⟨_, Lib.hid rfl⟩
        obtain ⟨pb, HPB⟩ : ∃ l, Hid (tagged (strL claimT) lb = l) := ⟨_, Lib.hid rfl⟩
        have HPAO : Hid (DgOk pa) := Lib.hid (by rw [← HPA.out]; exact ⟨tagged_length _ _, tagged_bytes _ _⟩)
        have HPBO : Hid (DgOk pb) := Lib.hid (by rw [← HPB.out]; exact ⟨tagged_length _ _, tagged_bytes _ _⟩)
        have HIA := Lib.hid (dgC_info HPAO.out)
        have HIB := Lib.hid (dgC_info HPBO.out)
        have HZA : Hid ((#[.int .u8 0, .int .u8 0, .int .u8 0, .int .u8 0, .int .u8 0, .int .u8 0, .int .u8 0, .int .u8 0, .int .u8 0, .int .u8 0, .int .u8 0, .int .u8 0, .int .u8 0, .int .u8 0, .int .u8 0, .int .u8 0, .int .u8 0, .int .u8 0, .int .u8 0, .int .u8 0, .int .u8 0, .int .u8 0, .int .u8 0, .int .u8 0, .int .u8 0, .int .u8 0, .int .u8 0, .int .u8 0, .int .u8 0, .int .u8 0, .int .u8 0, .int .u8 0] : Array Value).size = (dgC pa).toArray.size) := Lib.hid (by rw [← dgC_size HPAO.out]; rfl)
        have HZB : Hid ((#[.int .u8 0, .int .u8 0, .int .u8 0, .int .u8 0, .int .u8 0, .int .u8 0, .int .u8 0, .int .u8 0, .int .u8 0, .int .u8 0, .int .u8 0, .int .u8 0, .int .u8 0, .int .u8 0, .int .u8 0, .int .u8 0, .int .u8 0, .int .u8 0, .int .u8 0, .int .u8 0, .int .u8 0, .int .u8 0, .int .u8 0, .int .u8 0, .int .u8 0, .int .u8 0, .int .u8 0, .int .u8 0, .int .u8 0, .int .u8 0, .int .u8 0, .int .u8 0] : Array Value).size = (dgC pb).toArray.size) := Lib.hid (by rw [← dgC_size HPBO.out]; rfl)
        obtain ⟨sA, HSA⟩ : ∃ z, Hid (bstr la = z) := ⟨_, Lib.hid rfl⟩
        obtain ⟨sB, HSB⟩ : ∃ z, Hid (bstr lb = z) := ⟨_, Lib.hid rfl⟩
        have hds : (sA.toList == sB.toList) = false := by
          have hss : ¬ sA = sB := by rw [← HSA.out, ← HSB.out]; exact bstr_ne KHa17.out.bytes KH0b.out.bytes hne
          rw [ByteArray.toList_eq, ByteArray.toList_eq]
          exact beq_false_of_ne (fun h => hss (ByteArray.ext (Array.toList_inj.1 h)))
        have HLAB := Lib.hid hne
        clear hne
        go_wp2_with fail
        refine (tagged_any claimT (some ⟨ga, oa, none⟩) na ca la _ (by decide) (Lib.hid KHa17.out.len) KHa17.out.cap (fun h => by cases h) (by rw [← KHa17.out.len]; exact HZL.out.1) (Lib.hid KHa17.out.bytes) KT17 (Lib.hid KHa17.out.rd)).mono ?_
        rintro e U18 ⟨rfl, hq⟩
        rw [HPA.out]
        have HB19 := Lib.hid (HB17.out.trans (hq.mono HB17.out.size))
        have RT19 := Lib.hid (row_kept RT17.out hq)
        have RS19 := Lib.hid (row_kept RS17.out hq)
        have RR19 := Lib.hid (row_kept RR17.out hq)
        have RW19 := Lib.hid (row_kept RW17.out hq)
        have RX19 := Lib.hid (row_kept RX17.out hq)
        have RY19 := Lib.hid (row_kept RY17.out hq)
        have KO19 := Lib.hid (KO17.out.below hq)
        have KT19 := Lib.hid (KT17.out.below hq)
        have KI19 := Lib.hid (KI17.out.below hq)
        have KP19 := Lib.hid (KP17.out.below hq)
        have KHa19 := Lib.hid (KHa17.out.below hq)
        have KHb19 := Lib.hid (KH0b.out.below hq)
        clear hq HB17 RT17 RS17 RR17 RW17 RX17 RY17 KO17 KT17 KI17 KP17 KHa17 KH0b
        go_wp2_with fail
        refine (tagged_any claimT (some ⟨gb, ob, none⟩) nb cb lb _ (by decide) (Lib.hid KHb19.out.len) KHb19.out.cap (fun h => by cases h) (by rw [← KHb19.out.len]; exact HZL.out.2) (Lib.hid KHb19.out.bytes) KT19 (Lib.hid KHb19.out.rd)).mono ?_
        rintro e U20 ⟨rfl, hq⟩
        rw [HPB.out]
        have HB21 := Lib.hid (HB19.out.trans (hq.mono HB19.out.size))
        have RT21 := Lib.hid (row_kept RT19.out hq)
        have RS21 := Lib.hid (row_kept RS19.out hq)
        have RR21 := Lib.hid (row_kept RR19.out hq)
        have RW21 := Lib.hid (row_kept RW19.out hq)
        have RX21 := Lib.hid (row_kept RX19.out hq)
        have RY21 := Lib.hid (row_kept RY19.out hq)
        have KO21 := Lib.hid (KO19.out.below hq)
        have KT21 := Lib.hid (KT19.out.below hq)
        have KI21 := Lib.hid (KI19.out.below hq)
        have KP21 := Lib.hid (KP19.out.below hq)
        have KHa21 := Lib.hid (KHa19.out.below hq)
        have KHb21 := Lib.hid (KHb19.out.below hq)
        clear hq HB19 RT19 RS19 RR19 RW19 RX19 RY19 KO19 KT19 KI19 KP19 KHa19 KHb19
        have ra0 := (Below.heap_alloc (U20.alloc (.cells #[.int .u8 0, .int .u8 0, .int .u8 0, .int .u8 0, .int .u8 0, .int .u8 0, .int .u8 0, .int .u8 0, .int .u8 0, .int .u8 0, .int .u8 0, .int .u8 0, .int .u8 0, .int .u8 0, .int .u8 0, .int .u8 0, .int .u8 0, .int .u8 0, .int .u8 0, .int .u8 0, .int .u8 0, .int .u8 0, .int .u8 0, .int .u8 0, .int .u8 0, .int .u8 0, .int .u8 0, .int .u8 0, .int .u8 0, .int .u8 0, .int .u8 0, .int .u8 0] 25)) (.cells #[.int .u8 0, .int .u8 0, .int .u8 0, .int .u8 0, .int .u8 0, .int .u8 0, .int .u8 0, .int .u8 0, .int .u8 0, .int .u8 0, .int .u8 0, .int .u8 0, .int .u8 0, .int .u8 0, .int .u8 0, .int .u8 0, .int .u8 0, .int .u8 0, .int .u8 0, .int .u8 0, .int .u8 0, .int .u8 0, .int .u8 0, .int .u8 0, .int .u8 0, .int .u8 0, .int .u8 0, .int .u8 0, .int .u8 0, .int .u8 0, .int .u8 0, .int .u8 0] 25) U20.heap.size (by simp)).trans (heap_alloc_new U20 (.cells #[.int .u8 0, .int .u8 0, .int .u8 0, .int .u8 0, .int .u8 0, .int .u8 0, .int .u8 0, .int .u8 0, .int .u8 0, .int .u8 0, .int .u8 0, .int .u8 0, .int .u8 0, .int .u8 0, .int .u8 0, .int .u8 0, .int .u8 0, .int .u8 0, .int .u8 0, .int .u8 0, .int .u8 0, .int .u8 0, .int .u8 0, .int .u8 0, .int .u8 0, .int .u8 0, .int .u8 0, .int .u8 0, .int .u8 0, .int .u8 0, .int .u8 0, .int .u8 0] 25))
        have rb0 := heap_alloc_new (U20.alloc (.cells #[.int .u8 0, .int .u8 0, .int .u8 0, .int .u8 0, .int .u8 0, .int .u8 0, .int .u8 0, .int .u8 0, .int .u8 0, .int .u8 0, .int .u8 0, .int .u8 0, .int .u8 0, .int .u8 0, .int .u8 0, .int .u8 0, .int .u8 0, .int .u8 0, .int .u8 0, .int .u8 0, .int .u8 0, .int .u8 0, .int .u8 0, .int .u8 0, .int .u8 0, .int .u8 0, .int .u8 0, .int .u8 0, .int .u8 0, .int .u8 0, .int .u8 0, .int .u8 0] 25)) (.cells #[.int .u8 0, .int .u8 0, .int .u8 0, .int .u8 0, .int .u8 0, .int .u8 0, .int .u8 0, .int .u8 0, .int .u8 0, .int .u8 0, .int .u8 0, .int .u8 0, .int .u8 0, .int .u8 0, .int .u8 0, .int .u8 0, .int .u8 0, .int .u8 0, .int .u8 0, .int .u8 0, .int .u8 0, .int .u8 0, .int .u8 0, .int .u8 0, .int .u8 0, .int .u8 0, .int .u8 0, .int .u8 0, .int .u8 0, .int .u8 0, .int .u8 0, .int .u8 0] 25)
        rw [World.size_alloc] at rb0
        have hb0 := ((Below.refl _ U20).alloc (Nat.le_refl _) (.cells #[.int .u8 0, .int .u8 0, .int .u8 0, .int .u8 0, .int .u8 0, .int .u8 0, .int .u8 0, .int .u8 0, .int .u8 0, .int .u8 0, .int .u8 0, .int .u8 0, .int .u8 0, .int .u8 0, .int .u8 0, .int .u8 0, .int .u8 0, .int .u8 0, .int .u8 0, .int .u8 0, .int .u8 0, .int .u8 0, .int .u8 0, .int .u8 0, .int .u8 0, .int .u8 0, .int .u8 0, .int .u8 0, .int .u8 0, .int .u8 0, .int .u8 0, .int .u8 0] 25)).alloc (by simp) (.cells #[.int .u8 0, .int .u8 0, .int .u8 0, .int .u8 0, .int .u8 0, .int .u8 0, .int .u8 0, .int .u8 0, .int .u8 0, .int .u8 0, .int .u8 0, .int .u8 0, .int .u8 0, .int .u8 0, .int .u8 0, .int .u8 0, .int .u8 0, .int .u8 0, .int .u8 0, .int .u8 0, .int .u8 0, .int .u8 0, .int .u8 0, .int .u8 0, .int .u8 0, .int .u8 0, .int .u8 0, .int .u8 0, .int .u8 0, .int .u8 0, .int .u8 0, .int .u8 0] 25)
        obtain ⟨X22a, HX22a⟩ : ∃ V, Hid (((U20.alloc (.cells #[.int .u8 0, .int .u8 0, .int .u8 0, .int .u8 0, .int .u8 0, .int .u8 0, .int .u8 0, .int .u8 0, .int .u8 0, .int .u8 0, .int .u8 0, .int .u8 0, .int .u8 0, .int .u8 0, .int .u8 0, .int .u8 0, .int .u8 0, .int .u8 0, .int .u8 0, .int .u8 0, .int .u8 0, .int .u8 0, .int .u8 0, .int .u8 0, .int .u8 0, .int .u8 0, .int .u8 0, .int .u8 0, .int .u8 0, .int .u8 0, .int .u8 0, .int .u8 0] 25)).alloc (.cells #[.int .u8 0, .int .u8 0, .int .u8 0, .int .u8 0, .int .u8 0, .int .u8 0, .int .u8 0, .int .u8 0, .int .u8 0, .int .u8 0, .int .u8 0, .int .u8 0, .int .u8 0, .int .u8 0, .int .u8 0, .int .u8 0, .int .u8 0, .int .u8 0, .int .u8 0, .int .u8 0, .int .u8 0, .int .u8 0, .int .u8 0, .int .u8 0, .int .u8 0, .int .u8 0, .int .u8 0, .int .u8 0, .int .u8 0, .int .u8 0, .int .u8 0, .int .u8 0] 25)) = V) := ⟨_, Lib.hid rfl⟩
        rw [HX22a.out] at ra0 rb0 hb0
        have ra := Lib.hid ra0
        have rb1 := (setRow_other X22a U20.heap.size (U20.heap.size + 1) (dgC pa).toArray (by omega)).trans rb0
        have ra1 := setRow_heap X22a U20.heap.size _ (dgC pa).toArray _ _ ra0
        have hb1 := below_setRow hb0 (Nat.le_refl _) (dgC pa).toArray
        obtain ⟨X22b, HX22b⟩ : ∃ V, Hid (X22a.setRow U20.heap.size (dgC pa).toArray = V) := ⟨_, Lib.hid rfl⟩
        rw [HX22b.out] at ra1 rb1 hb1
        have rb := Lib.hid rb1
        have ra2 := (setRow_other X22b (U20.heap.size + 1) U20.heap.size (dgC pb).toArray (by omega)).trans ra1
        have rb2 := setRow_heap X22b (U20.heap.size + 1) _ (dgC pb).toArray _ _ rb1
        have hb := below_setRow hb1 (g := (U20.heap.size + 1)) (by omega) (dgC pb).toArray
        obtain ⟨V22, HV22⟩ : ∃ V, Hid (X22b.setRow (U20.heap.size + 1) (dgC pb).toArray = V) := ⟨_, Lib.hid rfl⟩
        rw [HV22.out] at ra2 rb2 hb
        clear ra0 rb0 hb0 ra1 rb1 hb1
        have HB23 := Lib.hid (HB21.out.trans (hb.mono HB21.out.size))
        have RT23 := Lib.hid (row_kept RT21.out hb)
        have RS23 := Lib.hid (row_kept RS21.out hb)
        have RR23 := Lib.hid (row_kept RR21.out hb)
        have RW23 := Lib.hid (row_kept RW21.out hb)
        have RX23 := Lib.hid (row_kept RX21.out hb)
        have RY23 := Lib.hid (row_kept RY21.out hb)
        have KO23 := Lib.hid (KO21.out.below hb)
        have KT23 := Lib.hid (KT21.out.below hb)
        have KI23 := Lib.hid (KI21.out.below hb)
        have KP23 := Lib.hid (KP21.out.below hb)
        have KHa23 := Lib.hid (KHa21.out.below hb)
        have KHb23 := Lib.hid (KHb21.out.below hb)
        have RM22 := Lib.hid ra2
        have RN22 := Lib.hid rb2
        clear ra2 rb2 hb HB21 RT21 RS21 RR21 RW21 RX21 RY21 KO21 KT21 KI21 KP21 KHa21 KHb21
        go_upto_region 17 with (first | (rw [HX22a.out]) | (refine wpList_store_row rfl 25 (.tmp 13) (.tmp 80) rfl U20.heap.size (dgC pa).toArray rfl rfl 25 _ ra.out HIA.out HZA.out (dgC_one _) ?_; rw [HX22b.out]) | (refine wpList_store_row rfl 25 (.tmp 14) (.tmp 82) rfl (U20.heap.size + 1) (dgC pb).toArray rfl rfl 25 _ rb.out HIB.out HZB.out (dgC_one _) ?_; rw [HV22.out]))
        obtain ⟨g2, o2, e2, _, hbt⟩ := KHa23.out.rd (by rw [← HLA.out]; rw [List.length_append, hs.out.len]; omega)
        obtain ⟨rfl, rfl⟩ : ga = g2 ∧ oa = o2 := by simpa using e2
        clear e2
        have kca := conv_str (P := Tryd.prog) (w := V22) (src := 55) (dst := 9) (cap := ca) Tryd.underlying55 Tryd.underlying5 Tryd.underlying9 KHa23.out.len KHa23.out.bytes hbt
        rw [HSA.out] at kca
        clear hbt
        obtain ⟨g2, o2, e2, _, hbt⟩ := KHb23.out.rd (by rw [← HLB.out]; rw [List.length_append, HSO.out.len]; omega)
        obtain ⟨rfl, rfl⟩ : gb = g2 ∧ ob = o2 := by simpa using e2
        clear e2
        have kcb := conv_str (P := Tryd.prog) (w := V22) (src := 55) (dst := 9) (cap := cb) Tryd.underlying55 Tryd.underlying5 Tryd.underlying9 KHb23.out.len KHb23.out.bytes hbt
        rw [HSB.out] at kcb
        clear hbt
        by_cases hpq : pa = pb
        · have hpe : (pa == pb) = true := by rw [hpq]; exact beq_self_eq_true _
          clear hpq
          go_wp2_with (first | (with_reducible refine wpList_here ?_; refine wpList_load_row_g 25 (.tmp 13) rfl rfl (U20.heap.size) rfl 25 _ (0, 0) _ RM22.out Tryd.underlying25 rfl HIA.out ?_) | (with_reducible refine wpList_here ?_; refine wpList_load_row_g 25 (.tmp 14) rfl rfl ((U20.heap.size + 1)) rfl 25 _ (0, 0) _ RN22.out Tryd.underlying25 rfl HIB.out ?_) | (with_reducible refine wpList_here ?_; refine wpList_eql_dg_g (.tmp 89) (.tmp 90) _ rfl rfl pa pb rfl rfl HPAO.out.len HPBO.out.len HPAO.out.bytes HPBO.out.bytes ?_; rw [hpe]))
          go_ret
          exact ⟨rfl, HB23.out⟩
        · have hpe : (pa == pb) = false := beq_false_of_ne hpq
          have sa : V22.cell? ⟨w.heap.size + 1, 0, none⟩ = some (.int .i64 (j : Nat)) := by rw [cell_of_row _ _ _ _ _ _ RS23.out]; rfl
          have sp := shCK_p hs.out RS23.out
          have wp := shCK_p HSO.out RW23.out
          have rl : V22.cell? ⟨U5.heap.size, 5, none⟩ = some (.int .i64 (p.n2 : Nat)) := by rw [cell_of_row _ _ _ _ _ _ RR23.out]; rfl
          go_wp2_with (first | (with_reducible refine wpList_here ?_; refine wpList_load_row_g 25 (.tmp 13) rfl rfl (U20.heap.size) rfl 25 _ (0, 0) _ RM22.out Tryd.underlying25 rfl HIA.out ?_) | (with_reducible refine wpList_here ?_; refine wpList_load_row_g 25 (.tmp 14) rfl rfl ((U20.heap.size + 1)) rfl 25 _ (0, 0) _ RN22.out Tryd.underlying25 rfl HIB.out ?_) | (with_reducible refine wpList_here ?_; refine wpList_eql_dg_g (.tmp 89) (.tmp 90) _ rfl rfl pa pb rfl rfl HPAO.out.len HPBO.out.len HPAO.out.bytes HPBO.out.bytes ?_; rw [hpe]))
          rw [show Value.agg (dgC pa).toArray = dgV pa from rfl, show Value.agg (dgC pb).toArray = dgV pb from rfl]
          have hm1 : n ≤ 1000 ∧ (dirsD j p.n2).length = n ∧ ps.length = n ∧ qs.length = n := ⟨by omega, HDN.out, hp.out.len, KP23.out.len⟩
          have HMI := Lib.hid hm1
          have hn1 : p.n2 ≤ 100 := by omega
          have HHT := Lib.hid (HHIT.out pa pb qs (by rw [HLA.out]; exact HPA.out) (by rw [HSO0.out, HLB.out]; exact HPB.out) HQS.out hpq)
          clear hm1 hpq hpe sa sp wp rl kca kcb
          refine (collide_yes pa pb j p.n2 n ps qs A As c cs _ HPAO HPBO hj hn1 HMI.out  KI23 KP23 KT23 HHT.out).mono ?_
          rintro e U24 ⟨rfl, hq⟩
          have HB25 := Lib.hid (HB23.out.trans (hq.mono HB23.out.size))
          have RT25 := Lib.hid (row_kept RT23.out hq)
          have RS25 := Lib.hid (row_kept RS23.out hq)
          have RR25 := Lib.hid (row_kept RR23.out hq)
          have RW25 := Lib.hid (row_kept RW23.out hq)
          have RX25 := Lib.hid (row_kept RX23.out hq)
          have RY25 := Lib.hid (row_kept RY23.out hq)
          have RM25 := Lib.hid (row_kept RM22.out hq)
          have RN25 := Lib.hid (row_kept RN22.out hq)
          have KO25 := Lib.hid (KO23.out.below hq)
          have KT25 := Lib.hid (KT23.out.below hq)
          have KI25 := Lib.hid (KI23.out.below hq)
          have KP25 := Lib.hid (KP23.out.below hq)
          have KHa25 := Lib.hid (KHa23.out.below hq)
          have KHb25 := Lib.hid (KHb23.out.below hq)
          clear hq HB23 RT23 RS23 RR23 RW23 RX23 RY23 RM22 RN22 KO23 KT23 KI23 KP23 KHa23 KHb23
          go_wp2_with fail
          go_ret
          exact ⟨rfl, HB25.out⟩
theorem lfK_tag (x : Cl) (s : List Nat) : lfK x s = tagged (strL claimT) (s ++ encI [x.p, x.r, flagN x.m]) := by
  unfold lfK
  cases x.m <;> rfl
theorem vfE_two (v : Bool) (d : Dg) (i m : Int) (ps : List Dg) (r : Dg) : vfE v d i m ps r = 0 ∨ vfE v d i m ps r = 420 := by
  unfold vfE; split
  · exact .inl rfl
  · exact .inr rfl
theorem walk (w : World) (hT : Tabs w) (t : Tr) (p : TrP) (h : TrOk w t p) (i : Int) (x : Cl) (s : List Nat) (A : Option Addr) (n c : Nat) (ps : List Dg) (he : I64 i ∧ ClOk x ∧ DgOk s ∧ InD w A n c ps ∧ c ≤ maxLen) :
    Calls Tryd.prog 5 #[trV t p, .agg (shCK i x s A n c).toArray] w fun e w' => e = .returned (.bool true) ∧ Below w.heap.size w w' := by
  obtain ⟨_, hx, hs, hp, _⟩ := he
  by_cases hf : p.n ≤ 12 ∧ p.n2 ≤ 12
  case neg => exact big t p i x s A n c ps w (Lib.hid h) (Lib.hid hs) (Lib.hid hp) (Lib.hid hT) hf
  obtain ⟨h1, h2⟩ := hf
  by_cases hn : n ≤ 50
  case neg => exact long t p i x s A n c ps w (Lib.hid h) (Lib.hid hs) (Lib.hid hp) (Lib.hid hT) h1 h2 (by omega)
  cases hg : trG t with
  | false => exact bad t p i x s A n c ps w (Lib.hid h) (Lib.hid hs) (Lib.hid hp) (Lib.hid hT) h1 h2 hn (Lib.hid (trE_no hg))
  | true =>
    rcases vfE_two (vCl x) (lfK x s) i (p.n2 : Nat) ps (lstK t) with hv | hv
    case inr => exact nov t p i x s A n c ps w (Lib.hid h) (Lib.hid hs) (Lib.hid hp) (Lib.hid hT) h1 h2 hn (Lib.hid (trE_yes hg)) (Lib.hid hv) (Lib.hid hx)
    obtain ⟨hvx, hi0, hi1, hpl, hcl⟩ := vf_yes hv
    obtain ⟨j, rfl⟩ : ∃ k : Nat, i = (k : Int) := ⟨i.toNat, by omega⟩
    have hj : j < p.n2 := by omega
    rw [Int.toNat_natCast, Int.toNat_natCast] at hpl
    have hjl : j < t.cl.length := by rw [h.cl.len]; exact hj
    obtain ⟨y, hy⟩ : ∃ y, t.cl[j]? = some y := ⟨_, List.getElem?_eq_getElem hjl⟩
    cases hxy : clEq x y with
    | true => exact same t p j x s A n c ps y w (Lib.hid h) (Lib.hid hs) (Lib.hid hp) (Lib.hid hT) h1 h2 hn (Lib.hid hg) hj (Lib.hid hy) (Lib.hid (trE_yes hg)) (Lib.hid hv) hxy (Lib.hid hx)
    | false =>
      have hvy : vCl y = true := by
        obtain ⟨_, _, hch⟩ := trG_parts hg
        exact chkE_all _ _ hch y (List.mem_of_getElem? hy)
      refine diff t p j x s A n c ps y w (Lib.hid h) (Lib.hid hs) (Lib.hid hp) (Lib.hid hT) h1 h2 hn (Lib.hid hg) hj (Lib.hid hy) (Lib.hid (trE_yes hg)) (Lib.hid hv) hxy (Lib.hid hx) (Lib.hid (h.cl.ok y (List.mem_of_getElem? hy))) (Lib.hid (by rw [← hpl]; exact hp.len)) (Lib.hid ?_)
      intro pa pb qs ea eb eq hne
      have hlt : lstK t = treeD (t.cl.map (lvK t.salt)) := by unfold lstK; rw [hg]; rfl
      have hPl : (t.cl.map (lvK t.salt)).length = p.n2 := by rw [List.length_map, h.cl.len]
      have hq : (t.cl.map (lvK t.salt))[j]'(by rw [hPl]; exact hj) = pb := by
        rw [List.getElem_map, ← eb]
        have e2 : t.cl[j] = y := by have := (List.getElem?_eq_some_iff.1 hy).2; exact this
        rw [e2]
        unfold lvK
        exact lfK_tag _ _
      rw [hlt, lfK_tag x s, ea, ← hPl] at hv
      have hw := way_hit (by rw [hPl]; exact hj) hv hq (fun z hz => (hp.ok z hz).len) (by rw [← ea]; exact tagged_length _ _) (by rw [← eb]; exact tagged_length _ _) hne
      rw [hPl, eq] at hw
      exact hw
set_option maxRecDepth 100000 in
theorem lifted (os : Os) (started : os.Started) (H : Type) (enc : TypeId × Value → H) :
    ReturnsInHanded {} Tryd.checked os 5 .any (fun w args => (Rows.discloseMetsSpec.pre enc Tryd.prog Tryd.f5 [] false w args ∧ laidMetH Tryd.prog laidL w) ∧ sizedMet enc Tryd.prog Tryd.f5 (OpenSpec.ofChange Rows.discloseMetsSpec) false w args)
      (Rows.discloseMetsSpec.post enc Tryd.prog Tryd.f5 false true false false) := by
  refine returnsInHanded_of_change_and (C := Tryd.checked) (X := fun w _ => laidMetH Tryd.prog laidL w) (fun _ _ _ hh h => h.of_heap hh) own started (by kernel_rfl) Tryd.func5
    (ChangeSpec.witness_shaped (enc := enc) (C := Tryd.checked) (os := os) (X := fun w _ => laidMetH Tryd.prog laidL w) false (World.doorLaid Tryd.prog 400 os) #[.agg (#[.int .i64 0, .int .i64 0, .int .i64 0, .int .i64 0, .slice none 0 0, .slice none 0 0] ++ Array.replicate 32 (.int .u8 0)), .agg (#[.int .i64 0, .int .i64 0, .int .i64 0, .bool false] ++ Array.replicate 32 (.int .u8 0) ++ #[.slice none 0 0])] 8 rfl (World.shaped_of_RefB (by kernel_rfl) (by kernel_rfl)) (by kernel_rfl) (by kernel_rfl) (by kernel_rfl) (door_met os _)) ?_
  intro W base args ds gs before hval0 hW _ hsz0 hL _
  have hval : ∀ (j : Nat) t v, Tryd.f5.params[j]? = some t → args[j]? = some v → Value.okWide Tryd.prog W .any base t v := hval0
  have hW' := hW
  obtain ⟨p, q, hA0, hV, rfl, hfz, hnd⟩ := hW
  have hA : DataW.TrodAll enc Tryd.prog W 0 (fun _ => true) true Tryd.f5.params.toList args.toList ds p := hA0
  have hsz : (DataW.weightsEach Tryd.prog (Tryd.f5.params.toList ++ Rows.discloseMetsSpec.plain.varTypes Tryd.prog) (ds ++ gs)).all (· ≤ reachBytes) = true := hsz0
  rw [Tryd.params5] at hA hval hsz
  obtain ⟨v0, vs0, d0, ds0, p0, q0, hargs, rfl, rfl, h0, r0⟩ := trodAll_cons hA
  obtain ⟨v1, vs1, d1, ds1, p1, q1, rfl, rfl, rfl, h1, r1⟩ := trodAll_cons r0
  obtain ⟨rfl, rfl, rfl⟩ := trodAll_nil r1
  obtain rfl : args = #[v0, v1] := by cases args; simp_all
  obtain ⟨rfl, rfl⟩ := trodVars_none hV
  obtain ⟨l0, y0, rfl, e0⟩ := arg_tr (hval 0 27 v0 rfl rfl) h0
  obtain ⟨i1, x1, s1, A1, n1, c1, l1, rfl, e1⟩ := arg_shK (hval 1 51 v1 rfl rfl) h1
  refine (walk W (tabs_of hL) l0 y0 e0 i1 x1 s1 A1 n1 c1 l1 e1).mono fun e W' ⟨he, hg⟩ => ?_
  subst he
  exact ⟨_, rfl, law_post (by kernel_rfl) rfl rfl (fun _ => ⟨rfl, rfl, rfl⟩) hW' hg⟩
theorem over : Rows.discloseMetsRow.holds Tryd.pinned (OpenSpec.ofChange Rows.discloseMetsSpec) :=
  OpenClaim.holds_of_wide 5 Tryd.f5 rfl rfl rfl rfl rfl rfl rfl ⟨rfl, rfl, rfl, rfl, rfl⟩ rfl rfl rfl rfl rfl (by kernel_rfl) Tryd.func5 (by kernel_rfl)
    (of_decide_eq_true (by kernel_rfl)) (by unfold Func.isWrapper; first | (rw [if_pos (by decide +kernel)]; kernel_rfl) | (rw [if_neg (by decide +kernel)]; exact ⟨rfl, rfl⟩))
    (fun os started H enc _ => lifted os started H enc)
/-- THE STATEMENT: the card -/
theorem proved : Rows.DiscloseMetsCardSaid :=
  Claim7.holds_tied_plain_at .later [] [.data, .data] true Rows.discloseMetsCard.stood.harness true
    over (fun _ h => by cases h) (by kernel_rfl) (fun _ h => by cases h) discloseMets_row_tie rfl ⟨rfl, rfl⟩ (by kernel_rfl) rfl
    (fun f fn hf hfn => by
      obtain rfl : f = 5 := Option.some.inj ((show Tryd.prog.funcNamed "sizar/sizarlaw42.DiscloseMets" = some 5 by kernel_rfl).symm.trans hf) |>.symm
      obtain rfl : fn = Tryd.f5 := (Option.some.inj (Tryd.func5.symm.trans hfn)).symm
      exact ⟨by kernel_rfl, fun j t ht => stands_of (show Tryd.f5.params.all (fun t => !Tryd.prog.wantsStandIn t) = true by kernel_rfl) ht⟩)
    (by kernel_rfl)
#print axioms proved
end Go.Proofs.YtmfmgeapecapiaaDoor.discloseMets
