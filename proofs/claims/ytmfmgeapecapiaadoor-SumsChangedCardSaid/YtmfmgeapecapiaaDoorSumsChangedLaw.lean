/- SumsChanged: for every transcript, interval and change the law returns true: a shown part with one sum changed, or one node less, is refused, or the climb meets two inputs with one hash. No conditions. -/
import Derived.Test.YtmfmgeapecapiaaDoorSB16
import Derived.Test.YtmfmgeapecapiaaDoorSB2
import Derived.Test.YtmfmgeapecapiaaDoorSB6
import Derived.Test.YtmfmgeapecapiaaDoorSB15
import Derived.Test.YtmfmgeapecapiaaDoorSB20
import Derived.Test.YtmfmgeapecapiaaDoorSB19
import Derived.Test.YtmfmgeapecapiaaDoorSB18
import Derived.Test.YtmfmgeapecapiaaDoorCards
import Derived.Test.YtmfmgeapecapiaaDoorTie
import Derived.Lib.SmallJoins
namespace Go.Proofs.YtmfmgeapecapiaaDoor.sumsChanged
open Go.ChangeShapes Go.WideShapes Go.ChangeAt Go.RowKit SzSha SzTree
set_option linter.unusedVariables false
set_option maxRecDepth 100000
theorem flatN_set : ∀ (ls : List Nd) (k : Nat) (x : Nd) (c : Int), (∀ y ∈ ls, NdOk y) → ls[k]? = some x → flatN (ls.set k { x with c := c }) = (flatN ls).set (k * 34 + 32) (.int .i64 c)
  | [], k, x, c, _, h => by cases h
  | y :: ys, 0, x, c, ho, h => by
    have e : y = x := by simpa using h
    subst e
    have hl := (ho y (by simp)).len
    simp only [List.set_cons_zero, flatN, List.flatMap_cons]
    rw [List.set_append_left _ _ (by rw [ndC_length (ho y (by simp))]; omega)]
    congr 1
    unfold ndC
    rw [List.set_append_right _ _ (by simp [hl])]
    simp [hl]
  | y :: ys, k + 1, x, c, ho, h => by
    have ih := flatN_set ys k x c (fun z hz => ho z (by simp [hz])) (by simpa using h)
    simp only [List.set_cons_succ, flatN, List.flatMap_cons] at ih ⊢
    rw [ih, List.set_append_right _ _ (by rw [ndC_length (ho y (by simp))]; omega)]
    congr 2
    rw [ndC_length (ho y (by simp))]; omega
theorem take_set {α : Type} (l : List α) (m i : Nat) (v : α) : (l.set i v).take m = (l.take m).set i v := by
  apply List.ext_getElem?
  intro j
  simp only [List.getElem?_take, List.getElem?_set, List.length_take]
  by_cases hj : j < m
  · simp only [if_pos hj]
    by_cases e : i = j
    · subst e
      simp only [if_true]
      by_cases hl : i < l.length
      · rw [if_pos hl, if_pos (by omega)]
      · rw [if_neg hl, if_neg (by omega)]
    · simp [e]
  · simp only [if_neg hj]
    by_cases e : i = j
    · subst e
      simp; omega
    · simp [e]
theorem wrap_def (v : Int) : IntKind.i64.wrap v = if 9223372036854775808 ≤ v % 18446744073709551616 then v % 18446744073709551616 - 18446744073709551616 else v % 18446744073709551616 := by
  simp [IntKind.wrap, IntKind.signed, IntKind.bits]
theorem wrap_ne {c b : Int} (hc : -9223372036854775808 ≤ c ∧ c ≤ 9223372036854775807) (h0 : -128 ≤ b) (h1 : b ≤ 127) (hb : b ≠ 0) : IntKind.i64.wrap (c + b) ≠ c := by
  rw [wrap_def]; split <;> omega
theorem wrap_in (v : Int) : -9223372036854775808 ≤ IntKind.i64.wrap v ∧ IntKind.i64.wrap v ≤ 9223372036854775807 := by
  rw [wrap_def]; split <;> omega
theorem set_ne {l : List Nd} {k : Nat} {x : Nd} {c : Int} (h : l[k]? = some x) (hc : c ≠ x.c) : l.set k { x with c := c } ≠ l := fun e => by
  have e2 := congrArg (·[k]?) e
  have hk := (List.getElem?_eq_some_iff.1 h).1
  simp only [List.getElem?_set, if_true, if_pos hk, h, Option.some.injEq] at e2
  exact hc (congrArg Nd.c e2)
theorem shN_some {t : Tr} {f g : Int} (h : shG t f g = true) : 1 ≤ (shN t f g).length := by
  obtain ⟨h1, h2, h3, h4, h5⟩ := shG_iff h
  unfold shN
  rw [if_pos h, List.length_map]
  exact parts_ind (f := f.toNat) (t := g.toNat) (by omega) (M := fun lo hi => 1 ≤ (parts f.toNat g.toNat lo hi).length) (fun lo hi hl hc => by rw [parts_leaf hl hc]; exact Nat.le_refl _) (fun lo hi hl hc h1 h2 j1 j2 => by rw [parts_cut hl (by omega) hc, List.length_append]; omega) t.ln.length 0 t.ln.length (by omega) (by omega)
theorem shN_ok {t : Tr} {f g : Int} (h : shG t f g = true) : ∀ y ∈ shN t f g, NdOk y := by
  obtain ⟨h1, h2, h3, h4, h5⟩ := shG_iff h
  have ho : ∀ x ∈ t.ln.map (ndL t.salt), NdOk x := by
    have e : nds43 t = t.ln.map (ndL t.salt) := by unfold nds43 ndsT; rw [h1]; rfl
    rw [← e]; exact nds43_ok
  unfold shN
  rw [if_pos h]
  intro y hy
  obtain ⟨x, hx, rfl⟩ := List.mem_map.1 hy
  have hi := parts_inside (f := f.toNat) (t := g.toNat) (by omega) 0 t.ln.length (by omega) x hx
  exact seg43_root_ok ho (vL_ndL h1) hi.2.1 (by rw [List.length_map]; exact hi.2.2)
theorem vfS_e (m : Int) (tree : Nd) (f t : Int) (ls : List Nd) : (vfS m tree f t ls).2.2 = 0 ∨ (vfS m tree f t ls).2.2 = 430 := by
  unfold vfS
  split
  · split
    · split
      · exact .inl rfl
      · exact .inr rfl
    · exact .inr rfl
  · exact .inr rfl
theorem block_lt {w : World} {g : Nat} {o : Obj} (h : w.heap[g]? = some o) : g < w.heap.size := (Array.getElem?_eq_some_iff.1 h).1
theorem flatN_at : ∀ {l : List Nd} {k : Nat} {x : Nd}, k < l.length → (∀ y ∈ l, NdOk y) → l[k]? = some x → (flatN l)[k * 34 + 32]? = some (.int .i64 x.c)
  | [], k, x, h, _, _ => by cases h
  | y :: ys, 0, x, _, ho, h => by
    have e : y = x := by simpa using h
    subst e
    have hl := (ho y (by simp)).len
    simp only [flatN, List.flatMap_cons]
    rw [List.getElem?_append_left (by rw [ndC_length (ho y (by simp))]; omega)]
    unfold ndC
    rw [List.getElem?_append_right (by simp [hl])]
    simp [hl]
  | y :: ys, k + 1, x, hk, ho, h => by
    have ih := flatN_at (l := ys) (k := k) (by simpa using hk) (fun z hz => ho z (by simp [hz])) (by simpa using h)
    simp only [flatN, List.flatMap_cons] at ih ⊢
    rw [List.getElem?_append_right (by rw [ndC_length (ho y (by simp))]; omega), ndC_length (ho y (by simp)), show (k + 1) * 34 + 32 - 34 = k * 34 + 32 by omega]
    exact ih
/-- one cell of a row of nodes is changed -/
theorem inN_set {w : World} {g n c : Nat} {cur : Array Value} {ls : List Nd} {k : Nat} {x : Nd} {cc : Int} (hg : w.heap[g]? = some (.cells (cur.setIfInBounds (k * 34 + 32) (.int .i64 cc)) 31 (0, 0))) (hs : cur.size = c * 34) (hn : n ≤ c) (hl : ls.length = n) (ho : ∀ y ∈ ls, NdOk y) (ht : cur.toList.take (n * 34) = flatN ls) (hx : ls[k]? = some x) (hcc : -9223372036854775808 ≤ cc ∧ cc ≤ 9223372036854775807) : InN w (some ⟨g, 0, none⟩) n c (ls.set k { x with c := cc }) := by
  have hk := (List.getElem?_eq_some_iff.1 hx).1
  have hxo := ho x (List.mem_of_getElem? hx)
  refine ⟨by rw [List.length_set]; exact hl, hn, (fun e => by cases e), fun y hy => ?_, fun _ => ⟨g, 0, rfl, (Array.getElem?_eq_some_iff.1 hg).1, fun j v hj => ?_⟩⟩
  · rcases List.mem_or_eq_of_mem_set hy with h | h
    · exact ho y h
    · subst h; exact ⟨hxo.len, hxo.bytes, hcc, hxo.p⟩
  · rw [flatN_set ls k x cc ho hx, ← ht, ← take_set] at hj
    have hjl : j < n * 34 := by
      have := (List.getElem?_eq_some_iff.1 hj).1
      rw [List.length_take] at this; omega
    rw [List.getElem?_take, if_pos hjl] at hj
    rw [Nat.zero_add, cell_of_row w g j _ _ _ hg, ← Array.getElem?_toList, Array.toList_setIfInBounds]
    exact hj
set_option maxHeartbeats 8000000 in
theorem big (t : Tr) (p : TrP) (f u a b : Int) (w : World) (h : Hid (TrOk w t p)) (hT : Hid (Tabs w)) (hf : ¬ (p.n ≤ 40 ∧ p.n2 ≤ 20)) :
    Calls Tryd.prog 8 #[trV t p, .int .i64 f, .int .i64 u, .int .u64 a, .int .i8 b] w fun e w' => e = .returned (.bool true) ∧ Below w.heap.size w w' := by
  have HIT : Hid ((Tryd.prog.info? 27).map (·.size) = some (trC t p).toArray.size) := Lib.hid (trV_info t p h.out.len)
  have hb0 := (Below.refl _ w).alloc (Nat.le_refl _) (.cells (trC t p).toArray 27)
  have RT0 := Lib.hid (heap_alloc_new w (.cells (trC t p).toArray 27))
  have KO0 := Lib.hid (h.out.below hb0)
  have KT0 := Lib.hid (hT.out.below hb0)
  have HB0 := Lib.hid hb0
  clear hb0
  rw [show trV t p = .agg (trC t p).toArray from rfl]
  go_enter Tryd.func8, Tryd.ntmps8
  go_wp2_with fail
  refine (sane43 _ KT0).mono ?_
  rintro e U1 ⟨rfl, hq⟩
  have HB2 := Lib.hid (HB0.out.trans (hq.mono HB0.out.size))
  have RT2 := Lib.hid (row_kept RT0.out hq)
  have KO2 := Lib.hid (KO0.out.below hq)
  have KT2 := Lib.hid (KT0.out.below hq)
  clear hq HB0 RT0 KO0 KT0
  go_wp2_with (refine wpList_load_row rfl 27 (.tmp 5) rfl (w.heap.size) rfl 27 _ (0, 0) _ RT2.out Tryd.underlying27 rfl HIT.out ?_)
  rw [show Value.agg (trC t p).toArray = trV t p from rfl]
  refine (few43_no t p none 0 0 0 0 _ (.inl hf)).mono ?_
  rintro e U3 ⟨rfl, hq⟩
  have HB4 := Lib.hid (HB2.out.trans (hq.mono HB2.out.size))
  have RT4 := Lib.hid (row_kept RT2.out hq)
  have KO4 := Lib.hid (KO2.out.below hq)
  have KT4 := Lib.hid (KT2.out.below hq)
  clear hq HB2 RT2 KO2 KT2
  go_wp2_with fail
  go_ret
  exact ⟨rfl, HB4.out⟩
set_option maxHeartbeats 8000000 in
theorem no1 (t : Tr) (p : TrP) (f u a b : Int) (w : World) (h : Hid (TrOk w t p)) (hT : Hid (Tabs w)) (h1 : p.n ≤ 40) (h2 : p.n2 ≤ 20) (z : Int) (HZ : (z != 0) = true) (bG : Bool) (HG : Hid (trG t = bG)) (HE : Hid (shE t f u = z)) :
    Calls Tryd.prog 8 #[trV t p, .int .i64 f, .int .i64 u, .int .u64 a, .int .i8 b] w fun e w' => e = .returned (.bool true) ∧ Below w.heap.size w w' := by
  obtain ⟨q, HQ⟩ : ∃ q, Hid (rootR (nds43 t) = q) := ⟨_, Lib.hid rfl⟩
  have HQO : Hid (NdOk q) := Lib.hid (by rw [← HQ.out]; exact rootR_ok nds43_ok)
  have HRK : Hid (RtOk (rt43 (p.n : Nat) q)) := Lib.hid (rt43_ok (by unfold I64; omega) HQO.out)
  have HRI := Lib.hid (rtC_info HRK.out)
  have HRS : Hid ((Tryd.zeroCells35).size = (rtC (rt43 (p.n : Nat) q)).toArray.size) := Lib.hid (by rw [rt43_size HQO.out]; kernel_rfl)
  have HIT : Hid ((Tryd.prog.info? 27).map (·.size) = some (trC t p).toArray.size) := Lib.hid (trV_info t p h.out.len)
  have hb0 := (Below.refl _ w).alloc (Nat.le_refl _) (.cells (trC t p).toArray 27)
  have RT0 := Lib.hid (heap_alloc_new w (.cells (trC t p).toArray 27))
  have KO0 := Lib.hid (h.out.below hb0)
  have KT0 := Lib.hid (hT.out.below hb0)
  have HB0 := Lib.hid hb0
  clear hb0
  rw [show trV t p = .agg (trC t p).toArray from rfl]
  go_enter Tryd.func8, Tryd.ntmps8
  go_wp2_with fail
  refine (sane43 _ KT0).mono ?_
  rintro e U1 ⟨rfl, hq⟩
  have HB2 := Lib.hid (HB0.out.trans (hq.mono HB0.out.size))
  have RT2 := Lib.hid (row_kept RT0.out hq)
  have KO2 := Lib.hid (KO0.out.below hq)
  have KT2 := Lib.hid (KT0.out.below hq)
  clear hq HB0 RT0 KO0 KT0
  go_wp2_with (refine wpList_load_row rfl 27 (.tmp 5) rfl (w.heap.size) rfl 27 _ (0, 0) _ RT2.out Tryd.underlying27 rfl HIT.out ?_)
  rw [show Value.agg (trC t p).toArray = trV t p from rfl]
  refine (few43_yes t p none 0 0 0 0 _ h1 h2 (by omega)).mono ?_
  rintro e U3 ⟨rfl, hq⟩
  have HB4 := Lib.hid (HB2.out.trans (hq.mono HB2.out.size))
  have RT4 := Lib.hid (row_kept RT2.out hq)
  have KO4 := Lib.hid (KO2.out.below hq)
  have KT4 := Lib.hid (KT2.out.below hq)
  clear hq HB2 RT2 KO2 KT2
  go_wp2_with (refine wpList_load_row rfl 27 (.tmp 5) rfl (w.heap.size) rfl 27 _ (0, 0) _ RT4.out Tryd.underlying27 rfl HIT.out ?_)
  rw [show Value.agg (trC t p).toArray = trV t p from rfl]
  refine (show43 t p f u _ KO4 KT4).mono ?_
  rintro e U5 ⟨A1, n1, c1, rfl, hin, hq⟩
  rw [HE.out]
  clear hin
  have HB6 := Lib.hid (HB4.out.trans (hq.mono HB4.out.size))
  have RT6 := Lib.hid (row_kept RT4.out hq)
  have KO6 := Lib.hid (KO4.out.below hq)
  have KT6 := Lib.hid (KT4.out.below hq)
  clear hq HB4 RT4 KO4 KT4
  obtain ⟨a1, HA1⟩ : ∃ a, Hid ((if shG t f u = true then f else 0) = a) := ⟨_, Lib.hid rfl⟩
  obtain ⟨a2, HA2⟩ : ∃ a, Hid ((if shG t f u = true then u else 0) = a) := ⟨_, Lib.hid rfl⟩
  rw [HA1.out, HA2.out]
  obtain ⟨V7, HV7⟩ : ∃ V, Hid (U5.alloc (.cells #[.int .i64 a1, .int .i64 a2, .slice A1 n1 c1] 74) = V) := ⟨_, Lib.hid rfl⟩
  have hw := heap_alloc_new U5 (.cells #[.int .i64 a1, .int .i64 a2, .slice A1 n1 c1] 74)
  have hb := (Below.refl _ U5).alloc (Nat.le_refl _) (.cells #[.int .i64 a1, .int .i64 a2, .slice A1 n1 c1] 74)
  rw [HV7.out] at hw hb
  have HB8 := Lib.hid (HB6.out.trans (hb.mono HB6.out.size))
  have RT8 := Lib.hid (row_kept RT6.out hb)
  have KO8 := Lib.hid (KO6.out.below hb)
  have KT8 := Lib.hid (KT6.out.below hb)
  have RP7 := Lib.hid hw
  clear hw hb HB6 RT6 KO6 KT6
  go_wp2_with (first | (rw [HV7.out]) | (refine wpList_load_row rfl 27 (.tmp 5) rfl (w.heap.size) rfl 27 _ (0, 0) _ RT8.out Tryd.underlying27 rfl HIT.out ?_))
  rw [show Value.agg (trC t p).toArray = trV t p from rfl]
  refine (rooted_any t p _ KO8 KT8).mono ?_
  rintro e U9 ⟨rfl, hq⟩
  rw [HQ.out, HG.out]
  have HB10 := Lib.hid (HB8.out.trans (hq.mono HB8.out.size))
  have RT10 := Lib.hid (row_kept RT8.out hq)
  have RP10 := Lib.hid (row_kept RP7.out hq)
  have KO10 := Lib.hid (KO8.out.below hq)
  have KT10 := Lib.hid (KT8.out.below hq)
  clear hq HB8 RT8 RP7 KO8 KT8
  have HO2 := Lib.hid (block_lt RP10.out)
  obtain ⟨V11, HV11⟩ : ∃ W, Hid ((U9.alloc (.cells Tryd.zeroCells35 35)).setRow U9.heap.size (rtC (rt43 (p.n : Nat) q)).toArray = W) := ⟨_, Lib.hid rfl⟩
  have hw := setRow_heap (U9.alloc (.cells Tryd.zeroCells35 35)) U9.heap.size _ (rtC (rt43 (p.n : Nat) q)).toArray _ _ (heap_alloc_new U9 _)
  have hb := below_setRow ((Below.refl _ U9).alloc (Nat.le_refl _) (.cells Tryd.zeroCells35 35)) (Nat.le_refl _) (rtC (rt43 (p.n : Nat) q)).toArray
  rw [HV11.out] at hw hb
  have HB12 := Lib.hid (HB10.out.trans (hb.mono HB10.out.size))
  have RT12 := Lib.hid (row_kept RT10.out hb)
  have RP12 := Lib.hid (row_kept RP10.out hb)
  have KO12 := Lib.hid (KO10.out.below hb)
  have KT12 := Lib.hid (KT10.out.below hb)
  have RR11 := Lib.hid hw
  clear hw hb HB10 RT10 RP10 KO10 KT10
  have p0 := cell_of_row _ _ 0 _ _ _ RP12.out
  have p1 := cell_of_row _ _ 1 _ _ _ RP12.out
  have p2 := cell_of_row _ _ 2 _ _ _ RP12.out
  go_wp2_with (refine wpList_store_row rfl 35 (.tmp 13) (.tmp 43) rfl U9.heap.size (rtC (rt43 (p.n : Nat) q)).toArray rfl rfl 35 _ (heap_alloc_new U9 _) HRI.out HRS.out (rtC_one _) ?_; rw [HV11.out])
  go_ret
  exact ⟨rfl, HB12.out⟩
set_option maxHeartbeats 8000000 in
theorem no2 (t : Tr) (p : TrP) (f u a b : Int) (l2 : List Nd) (ln : Nat) (w : World) (h : Hid (TrOk w t p)) (hT : Hid (Tabs w)) (h1 : p.n ≤ 40) (h2 : p.n2 ≤ 20) (HS : Hid (shG t f u = true)) (HL2 : Hid (shN t f u = l2)) (HLN : Hid (l2.length = ln)) (hb : b = 0) :
    Calls Tryd.prog 8 #[trV t p, .int .i64 f, .int .i64 u, .int .u64 a, .int .i8 b] w fun e w' => e = .returned (.bool true) ∧ Below w.heap.size w w' := by
  have HE : Hid (shE t f u = 0) := Lib.hid (shE_yes HS.out)
  have HG : Hid (trG t = true) := Lib.hid (shG_iff HS.out).1
  have HLL : Hid (ln ≤ 100000) := Lib.hid (by rw [← HLN.out, ← HL2.out]; exact shN_len t _ _)
  have HL1 : Hid (1 ≤ ln) := Lib.hid (by rw [← HLN.out, ← HL2.out]; exact shN_some HS.out)
  have z1 : ((ln : Int) == 0) = false := by have := HL1.out; simp; omega
  have z1n : decide (ln = 0) = false := decide_eq_false (by have := HL1.out; omega)
  obtain ⟨q, HQ⟩ : ∃ q, Hid (rootR (nds43 t) = q) := ⟨_, Lib.hid rfl⟩
  have HQO : Hid (NdOk q) := Lib.hid (by rw [← HQ.out]; exact rootR_ok nds43_ok)
  have HRK : Hid (RtOk (rt43 (p.n : Nat) q)) := Lib.hid (rt43_ok (by unfold I64; omega) HQO.out)
  have HRI := Lib.hid (rtC_info HRK.out)
  have HRS : Hid ((Tryd.zeroCells35).size = (rtC (rt43 (p.n : Nat) q)).toArray.size) := Lib.hid (by rw [rt43_size HQO.out]; kernel_rfl)
  have HIT : Hid ((Tryd.prog.info? 27).map (·.size) = some (trC t p).toArray.size) := Lib.hid (trV_info t p h.out.len)
  have hb0 := (Below.refl _ w).alloc (Nat.le_refl _) (.cells (trC t p).toArray 27)
  have RT0 := Lib.hid (heap_alloc_new w (.cells (trC t p).toArray 27))
  have KO0 := Lib.hid (h.out.below hb0)
  have KT0 := Lib.hid (hT.out.below hb0)
  have HB0 := Lib.hid hb0
  clear hb0
  rw [show trV t p = .agg (trC t p).toArray from rfl]
  go_enter Tryd.func8, Tryd.ntmps8
  go_wp2_with fail
  refine (sane43 _ KT0).mono ?_
  rintro e U1 ⟨rfl, hq⟩
  have HB2 := Lib.hid (HB0.out.trans (hq.mono HB0.out.size))
  have RT2 := Lib.hid (row_kept RT0.out hq)
  have KO2 := Lib.hid (KO0.out.below hq)
  have KT2 := Lib.hid (KT0.out.below hq)
  clear hq HB0 RT0 KO0 KT0
  go_wp2_with (refine wpList_load_row rfl 27 (.tmp 5) rfl (w.heap.size) rfl 27 _ (0, 0) _ RT2.out Tryd.underlying27 rfl HIT.out ?_)
  rw [show Value.agg (trC t p).toArray = trV t p from rfl]
  refine (few43_yes t p none 0 0 0 0 _ h1 h2 (by omega)).mono ?_
  rintro e U3 ⟨rfl, hq⟩
  have HB4 := Lib.hid (HB2.out.trans (hq.mono HB2.out.size))
  have RT4 := Lib.hid (row_kept RT2.out hq)
  have KO4 := Lib.hid (KO2.out.below hq)
  have KT4 := Lib.hid (KT2.out.below hq)
  clear hq HB2 RT2 KO2 KT2
  go_wp2_with (refine wpList_load_row rfl 27 (.tmp 5) rfl (w.heap.size) rfl 27 _ (0, 0) _ RT4.out Tryd.underlying27 rfl HIT.out ?_)
  rw [show Value.agg (trC t p).toArray = trV t p from rfl]
  refine (show43 t p f u _ KO4 KT4).mono ?_
  rintro e U5 ⟨A1, n1, c1, rfl, hin, hq⟩
  rw [HS.out, HE.out, if_pos rfl, if_pos rfl]
  have hnn : n1 = ln := by rw [← hin.len, HL2.out]; exact HLN.out
  subst n1
  rw [HL2.out] at hin
  obtain ⟨g1, o1, rfl, hg1, hr1⟩ := hin.rd (by rw [HLN.out]; exact HL1.out)
  clear hg1 hr1
  have KJ := Lib.hid hin
  clear hin
  have HB6 := Lib.hid (HB4.out.trans (hq.mono HB4.out.size))
  have RT6 := Lib.hid (row_kept RT4.out hq)
  have KO6 := Lib.hid (KO4.out.below hq)
  have KT6 := Lib.hid (KT4.out.below hq)
  clear hq HB4 RT4 KO4 KT4
  have HO1 := Lib.hid (block_lt RT6.out)
  have HA0 : Hid (Below U5.heap.size U5 U5) := Lib.hid (Below.refl _ _)
  obtain ⟨V7, HV7⟩ : ∃ V, Hid (U5.alloc (.cells #[.int .i64 f, .int .i64 u, .slice (some ⟨g1, o1, none⟩) ln c1] 74) = V) := ⟨_, Lib.hid rfl⟩
  have hw := heap_alloc_new U5 (.cells #[.int .i64 f, .int .i64 u, .slice (some ⟨g1, o1, none⟩) ln c1] 74)
  have hb := (Below.refl _ U5).alloc (Nat.le_refl _) (.cells #[.int .i64 f, .int .i64 u, .slice (some ⟨g1, o1, none⟩) ln c1] 74)
  rw [HV7.out] at hw hb
  have HB8 := Lib.hid (HB6.out.trans (hb.mono HB6.out.size))
  have RT8 := Lib.hid (row_kept RT6.out hb)
  have KO8 := Lib.hid (KO6.out.below hb)
  have KT8 := Lib.hid (KT6.out.below hb)
  have KA8 := Lib.hid (HA0.out.trans (hb.mono HA0.out.size))
  have RP7 := Lib.hid hw
  clear hw hb HB6 RT6 KO6 KT6 HA0
  go_wp2_with (first | (rw [HV7.out]) | (refine wpList_load_row rfl 27 (.tmp 5) rfl (w.heap.size) rfl 27 _ (0, 0) _ RT8.out Tryd.underlying27 rfl HIT.out ?_))
  rw [show Value.agg (trC t p).toArray = trV t p from rfl]
  refine (rooted_any t p _ KO8 KT8).mono ?_
  rintro e U9 ⟨rfl, hq⟩
  rw [HQ.out, HG.out]
  have HB10 := Lib.hid (HB8.out.trans (hq.mono HB8.out.size))
  have RT10 := Lib.hid (row_kept RT8.out hq)
  have RP10 := Lib.hid (row_kept RP7.out hq)
  have KO10 := Lib.hid (KO8.out.below hq)
  have KT10 := Lib.hid (KT8.out.below hq)
  have KA10 := Lib.hid (KA8.out.trans (hq.mono KA8.out.size))
  clear hq HB8 RT8 RP7 KO8 KT8 KA8
  have HO2 := Lib.hid (block_lt RP10.out)
  obtain ⟨V11, HV11⟩ : ∃ W, Hid ((U9.alloc (.cells Tryd.zeroCells35 35)).setRow U9.heap.size (rtC (rt43 (p.n : Nat) q)).toArray = W) := ⟨_, Lib.hid rfl⟩
  have hw := setRow_heap (U9.alloc (.cells Tryd.zeroCells35 35)) U9.heap.size _ (rtC (rt43 (p.n : Nat) q)).toArray _ _ (heap_alloc_new U9 _)
  have hb := below_setRow ((Below.refl _ U9).alloc (Nat.le_refl _) (.cells Tryd.zeroCells35 35)) (Nat.le_refl _) (rtC (rt43 (p.n : Nat) q)).toArray
  rw [HV11.out] at hw hb
  have HB12 := Lib.hid (HB10.out.trans (hb.mono HB10.out.size))
  have RT12 := Lib.hid (row_kept RT10.out hb)
  have RP12 := Lib.hid (row_kept RP10.out hb)
  have KO12 := Lib.hid (KO10.out.below hb)
  have KT12 := Lib.hid (KT10.out.below hb)
  have KA12 := Lib.hid (KA10.out.trans (hb.mono KA10.out.size))
  have RR11 := Lib.hid hw
  clear hw hb HB10 RT10 RP10 KO10 KT10 KA10
  have p0 := cell_of_row _ _ 0 _ _ _ RP12.out
  have p1 := cell_of_row _ _ 1 _ _ _ RP12.out
  have p2 := cell_of_row _ _ 2 _ _ _ RP12.out
  subst hb
  go_wp2_with (refine wpList_store_row rfl 35 (.tmp 13) (.tmp 43) rfl U9.heap.size (rtC (rt43 (p.n : Nat) q)).toArray rfl rfl 35 _ (heap_alloc_new U9 _) HRI.out HRS.out (rtC_one _) ?_; rw [HV11.out])
  go_ret
  exact ⟨rfl, HB12.out⟩
set_option maxHeartbeats 8000000 in
theorem good (t : Tr) (p : TrP) (f u a : Nat) (b : Int) (l2 l3 : List Nd) (ln k lm : Nat) (x : Nd) (cc : Int) (x3 y3 : Int) (z3 : Int) (q : Nd) (w : World) (h : Hid (TrOk w t p)) (hT : Hid (Tabs w)) (h1 : p.n ≤ 40) (h2 : p.n2 ≤ 20) (HS : Hid (shG t f u = true)) (HL2 : Hid (shN t f u = l2)) (HLN : Hid (l2.length = ln)) (HB8 : Hid (-128 ≤ b ∧ b ≤ 127)) (HK : Hid (a % ln = k)) (HKL : Hid (k < ln)) (HLM : Hid (lm + 1 = ln)) (HX : Hid (l2[k]? = some x)) (HCC : Hid (IntKind.i64.wrap (x.c + b) = cc)) (HL3 : Hid (l2.set k { x with c := cc } = l3)) (HQ : Hid (rootR (nds43 t) = q)) (HQO : Hid (NdOk q)) (HV1 : Hid (vfS (p.n : Nat) q f u (l2.take lm) = (0, 0, 430))) (HV3 : Hid (vfS (p.n : Nat) q f u l3 = (x3, y3, z3))) (hb : (b == 0) = false) (HZ : Hid (z3 = 430 ∨ (z3 = 0 ∧ (cl f u 0 p.n l3 l2).2.2.2 = true))) :
    Calls Tryd.prog 8 #[trV t p, .int .i64 (f : Nat), .int .i64 (u : Nat), .int .u64 (a : Nat), .int .i8 b] w fun e w' => e = .returned (.bool true) ∧ Below w.heap.size w w' := by
  have HE : Hid (shE t f u = 0) := Lib.hid (shE_yes HS.out)
  have HG : Hid (trG t = true) := Lib.hid (shG_iff HS.out).1
  have HLL : Hid (ln ≤ 100000) := Lib.hid (by rw [← HLN.out, ← HL2.out]; exact shN_len t _ _)
  have HL1 : Hid (1 ≤ ln) := Lib.hid (by rw [← HLN.out, ← HL2.out]; exact shN_some HS.out)
  have z1 : ((ln : Int) == 0) = false := by have := HL1.out; simp; omega
  have z1n : decide (ln = 0) = false := decide_eq_false (by have := HL1.out; omega)
  have HRK : Hid (RtOk (rt43 (p.n : Nat) q)) := Lib.hid (rt43_ok (by unfold I64; have := h1; omega) HQO.out)
  have HRI := Lib.hid (rtC_info HRK.out)
  have HRS : Hid ((Tryd.zeroCells35).size = (rtC (rt43 (p.n : Nat) q)).toArray.size) := Lib.hid (by rw [rt43_size HQO.out]; kernel_rfl)
  have hlt := HL1.out
  have hk2 : k < l2.length := by rw [HLN.out]; exact HKL.out
  have HT2 : Hid ((l2.take lm).length = lm) := Lib.hid (by rw [List.length_take, HLN.out]; have := HLM.out; omega)
  have HCI : Hid (-9223372036854775808 ≤ cc ∧ cc ≤ 9223372036854775807) := Lib.hid (by rw [← HCC.out]; exact wrap_in _)
  have HIT : Hid ((Tryd.prog.info? 27).map (·.size) = some (trC t p).toArray.size) := Lib.hid (trV_info t p h.out.len)
  have hb0 := (Below.refl _ w).alloc (Nat.le_refl _) (.cells (trC t p).toArray 27)
  have RT0 := Lib.hid (heap_alloc_new w (.cells (trC t p).toArray 27))
  have KO0 := Lib.hid (h.out.below hb0)
  have KT0 := Lib.hid (hT.out.below hb0)
  have HB0 := Lib.hid hb0
  clear hb0
  rw [show trV t p = .agg (trC t p).toArray from rfl]
  go_enter Tryd.func8, Tryd.ntmps8
  go_wp2_with fail
  refine (sane43 _ KT0).mono ?_
  rintro e U1 ⟨rfl, hq⟩
  have HB2 := Lib.hid (HB0.out.trans (hq.mono HB0.out.size))
  have RT2 := Lib.hid (row_kept RT0.out hq)
  have KO2 := Lib.hid (KO0.out.below hq)
  have KT2 := Lib.hid (KT0.out.below hq)
  clear hq HB0 RT0 KO0 KT0
  go_wp2_with (refine wpList_load_row rfl 27 (.tmp 5) rfl (w.heap.size) rfl 27 _ (0, 0) _ RT2.out Tryd.underlying27 rfl HIT.out ?_)
  rw [show Value.agg (trC t p).toArray = trV t p from rfl]
  refine (few43_yes t p none 0 0 0 0 _ h1 h2 (by omega)).mono ?_
  rintro e U3 ⟨rfl, hq⟩
  have HB4 := Lib.hid (HB2.out.trans (hq.mono HB2.out.size))
  have RT4 := Lib.hid (row_kept RT2.out hq)
  have KO4 := Lib.hid (KO2.out.below hq)
  have KT4 := Lib.hid (KT2.out.below hq)
  clear hq HB2 RT2 KO2 KT2
  go_wp2_with (refine wpList_load_row rfl 27 (.tmp 5) rfl (w.heap.size) rfl 27 _ (0, 0) _ RT4.out Tryd.underlying27 rfl HIT.out ?_)
  rw [show Value.agg (trC t p).toArray = trV t p from rfl]
  refine (show43 t p f u _ KO4 KT4).mono ?_
  rintro e U5 ⟨A1, n1, c1, rfl, hin, hq⟩
  rw [HS.out, HE.out, if_pos rfl, if_pos rfl]
  have hnn : n1 = ln := by rw [← hin.len, HL2.out]; exact HLN.out
  subst n1
  rw [HL2.out] at hin
  obtain ⟨g1, o1, rfl, hg1, hr1⟩ := hin.rd (by rw [HLN.out]; exact HL1.out)
  clear hg1 hr1
  have KJ := Lib.hid hin
  clear hin
  have HB6 := Lib.hid (HB4.out.trans (hq.mono HB4.out.size))
  have RT6 := Lib.hid (row_kept RT4.out hq)
  have KO6 := Lib.hid (KO4.out.below hq)
  have KT6 := Lib.hid (KT4.out.below hq)
  clear hq HB4 RT4 KO4 KT4
  have HO1 := Lib.hid (block_lt RT6.out)
  have HA0 : Hid (Below U5.heap.size U5 U5) := Lib.hid (Below.refl _ _)
  obtain ⟨V7, HV7⟩ : ∃ V, Hid (U5.alloc (.cells #[.int .i64 f, .int .i64 u, .slice (some ⟨g1, o1, none⟩) ln c1] 74) = V) := ⟨_, Lib.hid rfl⟩
  have hw := heap_alloc_new U5 (.cells #[.int .i64 f, .int .i64 u, .slice (some ⟨g1, o1, none⟩) ln c1] 74)
  have hb := (Below.refl _ U5).alloc (Nat.le_refl _) (.cells #[.int .i64 f, .int .i64 u, .slice (some ⟨g1, o1, none⟩) ln c1] 74)
  rw [HV7.out] at hw hb
  have HB8 := Lib.hid (HB6.out.trans (hb.mono HB6.out.size))
  have RT8 := Lib.hid (row_kept RT6.out hb)
  have KO8 := Lib.hid (KO6.out.below hb)
  have KT8 := Lib.hid (KT6.out.below hb)
  have KA8 := Lib.hid (HA0.out.trans (hb.mono HA0.out.size))
  have RP7 := Lib.hid hw
  clear hw hb HB6 RT6 KO6 KT6 HA0
  go_wp2_with (first | (rw [HV7.out]) | (refine wpList_load_row rfl 27 (.tmp 5) rfl (w.heap.size) rfl 27 _ (0, 0) _ RT8.out Tryd.underlying27 rfl HIT.out ?_))
  rw [show Value.agg (trC t p).toArray = trV t p from rfl]
  refine (rooted_any t p _ KO8 KT8).mono ?_
  rintro e U9 ⟨rfl, hq⟩
  rw [HQ.out, HG.out]
  have HB10 := Lib.hid (HB8.out.trans (hq.mono HB8.out.size))
  have RT10 := Lib.hid (row_kept RT8.out hq)
  have RP10 := Lib.hid (row_kept RP7.out hq)
  have KO10 := Lib.hid (KO8.out.below hq)
  have KT10 := Lib.hid (KT8.out.below hq)
  have KA10 := Lib.hid (KA8.out.trans (hq.mono KA8.out.size))
  clear hq HB8 RT8 RP7 KO8 KT8 KA8
  have HO2 := Lib.hid (block_lt RP10.out)
  obtain ⟨V11, HV11⟩ : ∃ W, Hid ((U9.alloc (.cells Tryd.zeroCells35 35)).setRow U9.heap.size (rtC (rt43 (p.n : Nat) q)).toArray = W) := ⟨_, Lib.hid rfl⟩
  have hw := setRow_heap (U9.alloc (.cells Tryd.zeroCells35 35)) U9.heap.size _ (rtC (rt43 (p.n : Nat) q)).toArray _ _ (heap_alloc_new U9 _)
  have hb := below_setRow ((Below.refl _ U9).alloc (Nat.le_refl _) (.cells Tryd.zeroCells35 35)) (Nat.le_refl _) (rtC (rt43 (p.n : Nat) q)).toArray
  rw [HV11.out] at hw hb
  have HB12 := Lib.hid (HB10.out.trans (hb.mono HB10.out.size))
  have RT12 := Lib.hid (row_kept RT10.out hb)
  have RP12 := Lib.hid (row_kept RP10.out hb)
  have KO12 := Lib.hid (KO10.out.below hb)
  have KT12 := Lib.hid (KT10.out.below hb)
  have KA12 := Lib.hid (KA10.out.trans (hb.mono KA10.out.size))
  have RR11 := Lib.hid hw
  clear hw hb HB10 RT10 RP10 KO10 KT10 KA10
  have HO3 := Lib.hid (block_lt RR11.out)
  have p0 := cell_of_row _ _ 0 _ _ _ RP12.out
  have p1 := cell_of_row _ _ 1 _ _ _ RP12.out
  have p2 := cell_of_row _ _ 2 _ _ _ RP12.out
  go_upto_region 9 with (refine wpList_store_row rfl 35 (.tmp 13) (.tmp 43) rfl U9.heap.size (rtC (rt43 (p.n : Nat) q)).toArray rfl rfl 35 _ (heap_alloc_new U9 _) HRI.out HRS.out (rtC_one _) ?_; rw [HV11.out])
  have HXO : Hid (NdOk x) := Lib.hid (KJ.out.ok x (List.mem_of_getElem? HX.out))
  obtain ⟨V13, HV13⟩ : ∃ V, Hid (V11.alloc (.cells #[.int .i64 f, .int .i64 u, .slice (some ⟨g1, o1, none⟩) ln c1] 74) = V) := ⟨_, Lib.hid rfl⟩
  have hw := heap_alloc_new V11 (.cells #[.int .i64 f, .int .i64 u, .slice (some ⟨g1, o1, none⟩) ln c1] 74)
  have hb := (Below.refl _ V11).alloc (Nat.le_refl _) (.cells #[.int .i64 f, .int .i64 u, .slice (some ⟨g1, o1, none⟩) ln c1] 74)
  rw [HV13.out] at hw hb
  have HB14 := Lib.hid (HB12.out.trans (hb.mono HB12.out.size))
  have RT14 := Lib.hid (row_kept RT12.out hb)
  have RP14 := Lib.hid (row_kept RP12.out hb)
  have RR14 := Lib.hid (row_kept RR11.out hb)
  have KO14 := Lib.hid (KO12.out.below hb)
  have KT14 := Lib.hid (KT12.out.below hb)
  have KA14 := Lib.hid (KA12.out.trans (hb.mono KA12.out.size))
  have RQ13 := Lib.hid hw
  clear hw hb HB12 RT12 RP12 RR11 KO12 KT12 KA12
  have HO4 := Lib.hid (block_lt RQ13.out)
  obtain ⟨We, HWe⟩ : ∃ V, Hid (V13.alloc (.cells #[] 31) = V) := ⟨_, Lib.hid rfl⟩
  have hwe := heap_alloc_new V13 (.cells #[] 31)
  have hbe := (Below.refl _ V13).alloc (Nat.le_refl _) (.cells #[] 31)
  have hse : (V13.alloc (.cells #[] 31)).heap.size = V13.heap.size + 1 := by simp
  rw [HWe.out] at hwe hbe hse
  have HOE : Hid (OwnN We V13.heap.size (.slice (some ⟨V13.heap.size, 0, none⟩) 0 0) []) := Lib.hid (own_empty hwe (Nat.le_refl _))
  have HIE : Hid (InN We (some ⟨g1, o1, none⟩) ln c1 l2) := Lib.hid (KJ.out.below (KA14.out.trans (hbe.mono KA14.out.size)))
  have HBE := Lib.hid hbe
  have HSE := Lib.hid hse
  have pe2 := cell_of_row _ _ 2 _ _ _ (row_kept RP14.out hbe)
  clear hwe hbe hse
  go_wp2_with (first | (rw [HV13.out]) | (rw [HWe.out]) | (refine wpList_append_nodes rfl (.tmp 62) (.tmp 64) rfl V13.heap.size _ [] l2 (some ⟨g1, o1, none⟩) ln c1 rfl HOE rfl HIE (Nat.zero_le _) HLL.out (by rw [HSE.out]; omega) ?_))
  intro v2 W2 HO2' HG2 HOB
  have hq : Below V13.heap.size V13 W2 := by
    refine ((Below.refl V13.heap.size V13).alloc (Nat.le_refl _) (.cells #[] 31)).grown (by rw [HWe.out]; exact HG2.out) ?_ ?_
    · simp
    · intro j ej
      obtain rfl : V13.heap.size = j := by simpa [Value.ownBlock] using ej
      exact Nat.le_refl _
  clear pe2
  have HB15 := Lib.hid (HB14.out.trans (hq.mono HB14.out.size))
  have RT15 := Lib.hid (row_kept RT14.out hq)
  have RP15 := Lib.hid (row_kept RP14.out hq)
  have RR15 := Lib.hid (row_kept RR14.out hq)
  have RQ15 := Lib.hid (row_kept RQ13.out hq)
  have KO15 := Lib.hid (KO14.out.below hq)
  have KT15 := Lib.hid (KT14.out.below hq)
  have KA15 := Lib.hid (KA14.out.trans (hq.mono KA14.out.size))
  clear hq HIE HOE HBE HB14 RT14 RP14 RR14 RQ13 KO14 KT14 KA14
  clear p0 p1 p2
  obtain ⟨hln, ho⟩ := HO2'.out
  rcases ho with ⟨rfl, e0⟩ | ⟨gq, cq, cur, rfl, hgq, hrq, hnq, hcm, hsz, htk⟩
  · exfalso; have := HL1.out; have := HLN.out; omega
  rw [HLN.out] at hnq htk
  have HNQ := Lib.hid hnq
  have HSZ := Lib.hid hsz
  have HTK := Lib.hid htk
  have hgl := block_lt hrq
  have HOR : Hid (w.heap.size < U5.heap.size ∧ U5.heap.size < U9.heap.size ∧ U9.heap.size < V11.heap.size ∧ V11.heap.size < V13.heap.size ∧ V13.heap.size ≤ gq) := Lib.hid ⟨HO1.out, HO2.out, HO3.out, HO4.out, hgq⟩
  have HGN := Lib.hid hgl
  have RN0 := Lib.hid hrq
  rw [HLN.out]
  clear hgq hrq hnq hcm hsz htk hln HO1 HO2 HO3 HO4 HO2' HG2 HOB hgl
  have qc0 := cell_of_row _ _ 0 _ _ _ RQ15.out
  have qc1 := cell_of_row _ _ 1 _ _ _ RQ15.out
  have qc2 := cell_of_row _ _ 2 _ _ _ RQ15.out
  have qcf : W2.frozen? ⟨V11.heap.size, 2, none⟩ = false := frozen_of_row _ _ _ _ _ RQ15.out
  obtain ⟨V16, HV16⟩ : ∃ V, Hid (W2.setCell ⟨V11.heap.size, 2, none⟩ (.slice (some ⟨gq, 0, none⟩) ln cq) = V) := ⟨_, Lib.hid rfl⟩
  have hex : W2.setCell ⟨V11.heap.size, 2, none⟩ (.slice (some ⟨gq, 0, none⟩) ln cq) = W2.setRow (V11.heap.size) (#[.int .i64 f, .int .i64 u, .slice (some ⟨gq, 0, none⟩) ln cq]) := setCell_eq_setRow W2 (V11.heap.size) (2) _ _ _ (.slice (some ⟨gq, 0, none⟩) ln cq) RQ15.out
  rw [HV16.out] at hex
  have hor := HOR.out
  have hbz := below_setRow HB15.out (g := V11.heap.size) (by omega) (#[.int .i64 f, .int .i64 u, .slice (some ⟨gq, 0, none⟩) ln cq])
  rw [← hex] at hbz
  have RT16 := Lib.hid ((setRow_other W2 (V11.heap.size) (w.heap.size) (#[.int .i64 f, .int .i64 u, .slice (some ⟨gq, 0, none⟩) ln cq]) (by omega)).trans RT15.out)
  rw [← hex] at RT16
  have RP16 := Lib.hid ((setRow_other W2 (V11.heap.size) (U5.heap.size) (#[.int .i64 f, .int .i64 u, .slice (some ⟨gq, 0, none⟩) ln cq]) (by omega)).trans RP15.out)
  rw [← hex] at RP16
  have RR16 := Lib.hid ((setRow_other W2 (V11.heap.size) (U9.heap.size) (#[.int .i64 f, .int .i64 u, .slice (some ⟨gq, 0, none⟩) ln cq]) (by omega)).trans RR15.out)
  rw [← hex] at RR16
  have RQ16 := Lib.hid (setRow_heap W2 (V11.heap.size) _ (#[.int .i64 f, .int .i64 u, .slice (some ⟨gq, 0, none⟩) ln cq]) _ _ RQ15.out)
  rw [← hex] at RQ16
  have RN16 := Lib.hid ((setRow_other W2 (V11.heap.size) (gq) (#[.int .i64 f, .int .i64 u, .slice (some ⟨gq, 0, none⟩) ln cq]) (by omega)).trans RN0.out)
  rw [← hex] at RN16
  have KA16 := Lib.hid (below_setRow KA15.out (g := V11.heap.size) (by omega) (#[.int .i64 f, .int .i64 u, .slice (some ⟨gq, 0, none⟩) ln cq]))
  rw [← hex] at KA16
  have HB16 := Lib.hid hbz
  have KO16 := Lib.hid (h.out.below HB16.out)
  have KT16 := Lib.hid (hT.out.below HB16.out)
  clear hbz hex hor HB15 RT15 RP15 RR15 RQ15 RN0 KA15 KO15 KT15

  go_upto_region 11 with (rw [HV16.out])
  clear qc0 qc1 qc2 qcf
  have q0 := cell_of_row _ _ 0 _ _ _ RQ16.out
  have q1 := cell_of_row _ _ 1 _ _ _ RQ16.out
  have q2 := cell_of_row _ _ 2 _ _ _ RQ16.out
  have nk : V16.cell? ⟨gq, k * 34 + 32, none⟩ = some (.int .i64 x.c) := by
    have e := flatN_at (l := l2) hk2 (KJ.out.ok) HX.out
    rw [← HTK.out, List.getElem?_take, if_pos (by have := HKL.out; omega)] at e
    rw [cell_of_row _ _ _ _ _ _ RN16.out, ← Array.getElem?_toList]; exact e
  refine wp_region_still_tail 15 (by kernel_rfl) (by kernel_rfl) ?_
  change wpStill _ _ V16.drew (fun a' => wpList _ _ _ _ a' V16.drew) _ _
  simp only [List.take_succ_cons, List.take_zero, List.drop_succ_cons, List.drop_zero]
  have q2' : V16.drew.cell? ⟨V11.heap.size, 2, none⟩ = _ := q2
  have nk' : V16.drew.cell? ⟨gq, k * 34 + 32, none⟩ = _ := nk
  have hkl := HKL.out
  have dk : decide (k < ln) = true := decide_eq_true hkl
  have dk2 : decide ((k : Int) < (ln : Int)) = true := decide_eq_true (by omega)
  have hll := HLL.out
  have hb8 := HB8.out
  have wu : IntKind.u64.wrap (ln : Int) = (ln : Int) := by simp [IntKind.wrap, IntKind.signed, IntKind.bits]; omega
  have nz : ¬ ((ln : Int) = 0) := by omega
  have nzn : ¬ (ln = 0) := by omega
  have rm : (a : Int).tmod (ln : Int) = (k : Int) := by rw [← HK.out]; rfl
  have wk : IntKind.i64.wrap (k : Int) = (k : Int) := IntWalk.i64_in _ (by omega)
  have wb : IntKind.i64.wrap b = b := IntWalk.i64_in _ (by omega)
  have wc : IntKind.i64.wrap (x.c + b) = cc := HCC.out
  repeat still_step
  have hbd := (Below.refl V16.heap.size V16).drew
  have HB17 := Lib.hid (HB16.out.trans (hbd.mono HB16.out.size))
  have RT17 := Lib.hid (row_kept RT16.out hbd)
  have RP17 := Lib.hid (row_kept RP16.out hbd)
  have RR17 := Lib.hid (row_kept RR16.out hbd)
  have RQ17 := Lib.hid (row_kept RQ16.out hbd)
  have RN17 := Lib.hid (row_kept RN16.out hbd)
  have KO17 := Lib.hid (KO16.out.below hbd)
  have KT17 := Lib.hid (KT16.out.below hbd)
  have KA17 := Lib.hid (KA16.out.trans (hbd.mono KA16.out.size))
  refine wpStill_nil ?_
  clear q0 q1 q2 nk hbd HB16 RT16 RP16 RR16 RQ16 RN16 KO16 KT16 KA16
  have qn : V16.drew.frozen? ⟨gq, k * 34 + 32, none⟩ = false := frozen_of_row _ _ _ _ _ RN17.out
  have HKS : Hid (k * 34 + 32 < cur.size) := Lib.hid (by rw [HSZ.out]; have := HNQ.out; omega)
  obtain ⟨V18, HV18⟩ : ∃ V, Hid ((V16.setCell ⟨gq, k * 34 + 32, none⟩ (.int .i64 cc)).drew = V) := ⟨_, Lib.hid rfl⟩
  have hex : (V16.setCell ⟨gq, k * 34 + 32, none⟩ (.int .i64 cc)).drew = V16.drew.setRow (gq) (cur.setIfInBounds (k * 34 + 32) (.int .i64 cc)) := setCell_eq_setRow V16.drew (gq) (k * 34 + 32) _ _ _ (.int .i64 cc) RN17.out
  rw [HV18.out] at hex
  have hor := HOR.out
  have hbz := below_setRow HB17.out (g := gq) (by omega) (cur.setIfInBounds (k * 34 + 32) (.int .i64 cc))
  rw [← hex] at hbz
  have RT18 := Lib.hid ((setRow_other V16.drew (gq) (w.heap.size) (cur.setIfInBounds (k * 34 + 32) (.int .i64 cc)) (by omega)).trans RT17.out)
  rw [← hex] at RT18
  have RP18 := Lib.hid ((setRow_other V16.drew (gq) (U5.heap.size) (cur.setIfInBounds (k * 34 + 32) (.int .i64 cc)) (by omega)).trans RP17.out)
  rw [← hex] at RP18
  have RR18 := Lib.hid ((setRow_other V16.drew (gq) (U9.heap.size) (cur.setIfInBounds (k * 34 + 32) (.int .i64 cc)) (by omega)).trans RR17.out)
  rw [← hex] at RR18
  have RQ18 := Lib.hid ((setRow_other V16.drew (gq) (V11.heap.size) (cur.setIfInBounds (k * 34 + 32) (.int .i64 cc)) (by omega)).trans RQ17.out)
  rw [← hex] at RQ18
  have RN18 := Lib.hid (setRow_heap V16.drew (gq) _ (cur.setIfInBounds (k * 34 + 32) (.int .i64 cc)) _ _ RN17.out)
  rw [← hex] at RN18
  have KA18 := Lib.hid (below_setRow KA17.out (g := gq) (by omega) (cur.setIfInBounds (k * 34 + 32) (.int .i64 cc)))
  rw [← hex] at KA18
  have HB18 := Lib.hid hbz
  have KO18 := Lib.hid (h.out.below HB18.out)
  have KT18 := Lib.hid (hT.out.below HB18.out)
  clear hbz hex hor HB17 RT17 RP17 RR17 RQ17 RN17 KA17 KO17 KT17
  have HNS := Lib.hid (block_lt RN18.out)
  have p0 := cell_of_row _ _ 0 _ _ _ RP18.out
  have p1 := cell_of_row _ _ 1 _ _ _ RP18.out
  have p2 := cell_of_row _ _ 2 _ _ _ RP18.out
  obtain ⟨V19, HV19⟩ : ∃ V, Hid (V18.alloc (.cells #[.int .i64 f, .int .i64 u, .slice (some ⟨g1, o1, none⟩) ln c1] 74) = V) := ⟨_, Lib.hid rfl⟩
  have hw := heap_alloc_new V18 (.cells #[.int .i64 f, .int .i64 u, .slice (some ⟨g1, o1, none⟩) ln c1] 74)
  have hb := (Below.refl _ V18).alloc (Nat.le_refl _) (.cells #[.int .i64 f, .int .i64 u, .slice (some ⟨g1, o1, none⟩) ln c1] 74)
  rw [HV19.out] at hw hb
  have HB20 := Lib.hid (HB18.out.trans (hb.mono HB18.out.size))
  have RT20 := Lib.hid (row_kept RT18.out hb)
  have RP20 := Lib.hid (row_kept RP18.out hb)
  have RR20 := Lib.hid (row_kept RR18.out hb)
  have RQ20 := Lib.hid (row_kept RQ18.out hb)
  have RN20 := Lib.hid (row_kept RN18.out hb)
  have KO20 := Lib.hid (KO18.out.below hb)
  have KT20 := Lib.hid (KT18.out.below hb)
  have KA20 := Lib.hid (KA18.out.trans (hb.mono KA18.out.size))
  have RS19 := Lib.hid hw
  clear hw hb HB18 RT18 RP18 RR18 RQ18 RN18 KO18 KT18 KA18
  have pp0 := cell_of_row _ _ 0 _ _ _ RP20.out
  have pp1 := cell_of_row _ _ 1 _ _ _ RP20.out
  have pp2 := cell_of_row _ _ 2 _ _ _ RP20.out
  have sf : V19.frozen? ⟨V18.heap.size, 2, none⟩ = false := frozen_of_row _ _ _ _ _ RS19.out
  have sc0 := cell_of_row _ _ 0 _ _ _ RS19.out
  have sc1 := cell_of_row _ _ 1 _ _ _ RS19.out
  have sc2 := cell_of_row _ _ 2 _ _ _ RS19.out
  have hlm := HLM.out
  have hll2 := HLL.out
  have hca := KJ.out.cap
  have ws : IntKind.i64.wrap ((ln : Int) - 1) = (lm : Int) := by rw [IntWalk.i64_in _ (by omega)]; omega
  have s1 : decide ((lm : Int) ≤ (c1 : Int)) = true := decide_eq_true (by omega)
  have s1n : decide (lm ≤ c1) = true := decide_eq_true (by omega)
  have s1p : lm ≤ c1 := by omega
  have HOS : Hid (V13.heap.size ≤ V18.heap.size ∧ gq < V18.heap.size) := Lib.hid ⟨by have := HNS.out; have := HOR.out; omega, HNS.out⟩
  have HORX := HOR
  clear HOR
  have HOR := Lib.hid (And.intro HORX.out HOS.out)
  obtain ⟨V21, HV21⟩ : ∃ V, Hid (V19.setCell ⟨V18.heap.size, 2, none⟩ (.slice (some ⟨g1, o1, none⟩) lm c1) = V) := ⟨_, Lib.hid rfl⟩
  have hex : V19.setCell ⟨V18.heap.size, 2, none⟩ (.slice (some ⟨g1, o1, none⟩) lm c1) = V19.setRow (V18.heap.size) (#[.int .i64 f, .int .i64 u, .slice (some ⟨g1, o1, none⟩) lm c1]) := setCell_eq_setRow V19 (V18.heap.size) (2) _ _ _ (.slice (some ⟨g1, o1, none⟩) lm c1) RS19.out
  rw [HV21.out] at hex
  have hor := HOR.out
  have hbz := below_setRow HB20.out (g := V18.heap.size) (by omega) (#[.int .i64 f, .int .i64 u, .slice (some ⟨g1, o1, none⟩) lm c1])
  rw [← hex] at hbz
  have RT21 := Lib.hid ((setRow_other V19 (V18.heap.size) (w.heap.size) (#[.int .i64 f, .int .i64 u, .slice (some ⟨g1, o1, none⟩) lm c1]) (by omega)).trans RT20.out)
  rw [← hex] at RT21
  have RP21 := Lib.hid ((setRow_other V19 (V18.heap.size) (U5.heap.size) (#[.int .i64 f, .int .i64 u, .slice (some ⟨g1, o1, none⟩) lm c1]) (by omega)).trans RP20.out)
  rw [← hex] at RP21
  have RR21 := Lib.hid ((setRow_other V19 (V18.heap.size) (U9.heap.size) (#[.int .i64 f, .int .i64 u, .slice (some ⟨g1, o1, none⟩) lm c1]) (by omega)).trans RR20.out)
  rw [← hex] at RR21
  have RQ21 := Lib.hid ((setRow_other V19 (V18.heap.size) (V11.heap.size) (#[.int .i64 f, .int .i64 u, .slice (some ⟨g1, o1, none⟩) lm c1]) (by omega)).trans RQ20.out)
  rw [← hex] at RQ21
  have RN21 := Lib.hid ((setRow_other V19 (V18.heap.size) (gq) (#[.int .i64 f, .int .i64 u, .slice (some ⟨g1, o1, none⟩) lm c1]) (by omega)).trans RN20.out)
  rw [← hex] at RN21
  have RS21 := Lib.hid (setRow_heap V19 (V18.heap.size) _ (#[.int .i64 f, .int .i64 u, .slice (some ⟨g1, o1, none⟩) lm c1]) _ _ RS19.out)
  rw [← hex] at RS21
  have KA21 := Lib.hid (below_setRow KA20.out (g := V18.heap.size) (by omega) (#[.int .i64 f, .int .i64 u, .slice (some ⟨g1, o1, none⟩) lm c1]))
  rw [← hex] at KA21
  have HB21 := Lib.hid hbz
  have KO21 := Lib.hid (h.out.below HB21.out)
  have KT21 := Lib.hid (hT.out.below HB21.out)
  clear hbz hex hor HB20 RT20 RP20 RR20 RQ20 RN20 RS19 KA20 KO20 KT20
  have sd0 := cell_of_row _ _ 0 _ _ _ RS21.out
  have sd1 := cell_of_row _ _ 1 _ _ _ RS21.out
  have sd2 := cell_of_row _ _ 2 _ _ _ RS21.out
  go_wp2_with (first | (rw [HV18.out]) | (rw [HV19.out]) | (rw [HV21.out]) | (refine wpList_load_row rfl 35 (.tmp 13) rfl (U9.heap.size) rfl 35 _ (0, 0) _ RR21.out Tryd.underlying35 rfl HRI.out ?_))
  clear HORX
  clear p0 p1 p2 pp0 pp1 pp2 sc0 sc1 sc2 sd0 sd1 sd2 sf qn hlm hll2 hca ws s1 s1n s1p
  clear q2' nk' wu nz nzn rm wk wb wc dk dk2 hkl hll hb8
  have KM0 : Hid (InN V21 (some ⟨gq, 0, none⟩) ln cq l3) := Lib.hid (by rw [← HL3.out]; exact inN_set RN21.out HSZ.out HNQ.out HLN.out KJ.out.ok HTK.out HX.out HCI.out)
  have KJ0 := Lib.hid (KJ.out.below KA21.out)
  have KL0 := Lib.hid (KJ0.out.take lm (by have := HLM.out; omega))
  have HLL1 : Hid ((l2.take lm).length ≤ 100000) := Lib.hid (by rw [HT2.out]; have := HLL.out; have := HLM.out; omega)
  have HLL3 : Hid (l3.length ≤ 100000) := Lib.hid (by rw [← HL3.out, List.length_set, HLN.out]; exact HLL.out)
  refine (verify43 (rt43 (p.n : Nat) q) f u _ _ _ (l2.take lm) _ HRK KL0 KT21 HLL1.out).mono ?_
  rintro e U22 ⟨rfl, hq⟩
  rw [show vfS (rt43 (p.n : Nat) q).lin (rt43 (p.n : Nat) q).tree f u (l2.take lm) = _ from HV1.out]
  have HB23 := Lib.hid (HB21.out.trans (hq.mono HB21.out.size))
  have RT23 := Lib.hid (row_kept RT21.out hq)
  have RP23 := Lib.hid (row_kept RP21.out hq)
  have RR23 := Lib.hid (row_kept RR21.out hq)
  have RQ23 := Lib.hid (row_kept RQ21.out hq)
  have RN23 := Lib.hid (row_kept RN21.out hq)
  have RS23 := Lib.hid (row_kept RS21.out hq)
  have KO23 := Lib.hid (KO21.out.below hq)
  have KT23 := Lib.hid (KT21.out.below hq)
  have KM23 := Lib.hid (KM0.out.below hq)
  have KJ23 := Lib.hid (KJ0.out.below hq)
  clear hq HB21 RT21 RP21 RR21 RQ21 RN21 RS21 KO21 KT21 KM0 KJ0
  have qd0 := cell_of_row _ _ 0 _ _ _ RQ23.out
  have qd1 := cell_of_row _ _ 1 _ _ _ RQ23.out
  have qd2 := cell_of_row _ _ 2 _ _ _ RQ23.out
  go_wp2_with (refine wpList_load_row rfl 35 (.tmp 13) rfl (U9.heap.size) rfl 35 _ (0, 0) _ RR23.out Tryd.underlying35 rfl HRI.out ?_)
  refine (verify43 (rt43 (p.n : Nat) q) f u _ _ _ l3 _ HRK KM23 KT23 HLL3.out).mono ?_
  rintro e U24 ⟨rfl, hq⟩
  rw [show vfS (rt43 (p.n : Nat) q).lin (rt43 (p.n : Nat) q).tree f u l3 = _ from HV3.out]
  clear qd0 qd1 qd2
  have HB25 := Lib.hid (HB23.out.trans (hq.mono HB23.out.size))
  have RT25 := Lib.hid (row_kept RT23.out hq)
  have RP25 := Lib.hid (row_kept RP23.out hq)
  have RR25 := Lib.hid (row_kept RR23.out hq)
  have RQ25 := Lib.hid (row_kept RQ23.out hq)
  have RN25 := Lib.hid (row_kept RN23.out hq)
  have RS25 := Lib.hid (row_kept RS23.out hq)
  have KO25 := Lib.hid (KO23.out.below hq)
  have KT25 := Lib.hid (KT23.out.below hq)
  have KM25 := Lib.hid (KM23.out.below hq)
  have KJ25 := Lib.hid (KJ23.out.below hq)
  clear hq HB23 RT23 RP23 RR23 RQ23 RN23 RS23 KO23 KT23 KM23 KJ23
  rcases HZ.out with hz | ⟨hz, hm⟩
  · subst hz
    go_wp2_with fail
    go_ret
    exact ⟨rfl, HB25.out⟩
  · subst hz
    have HM := Lib.hid hm
    clear hm
    have pe0 := cell_of_row _ _ 0 _ _ _ RP25.out
    have pe1 := cell_of_row _ _ 1 _ _ _ RP25.out
    have pe2 := cell_of_row _ _ 2 _ _ _ RP25.out
    have qe0 := cell_of_row _ _ 0 _ _ _ RQ25.out
    have qe1 := cell_of_row _ _ 1 _ _ _ RQ25.out
    have qe2 := cell_of_row _ _ 2 _ _ _ RQ25.out
    have l4 : U24.cell? ⟨U9.heap.size, 4, none⟩ = some (.int .i64 (p.n : Nat)) := by rw [cell_of_row _ _ _ _ _ _ RR25.out]; rfl
    have HFU : Hid (f < u ∧ u ≤ p.n) := Lib.hid (by have := shG_iff HS.out; have := h.out.ln.len; omega)
    have HKO := Lib.hid (cl_ok HFU.out.1 0 p.n (by have := HFU.out; omega) l3 l2 KM25.out.ok KJ.out.ok)
    obtain ⟨cx, HCX⟩ : ∃ x, Hid ((cl f u 0 p.n l3 l2).1 = x) := ⟨_, Lib.hid rfl⟩
    obtain ⟨cy, HCY⟩ : ∃ x, Hid ((cl f u 0 p.n l3 l2).2.1 = x) := ⟨_, Lib.hid rfl⟩
    obtain ⟨cn, HCN⟩ : ∃ x, Hid ((cl f u 0 p.n l3 l2).2.2.1 = x) := ⟨_, Lib.hid rfl⟩
    rw [HCX.out, HCY.out] at HKO
    have HXS := Lib.hid (size34e HKO.out.1)
    have HYS := Lib.hid (size34e HKO.out.2)
    have HXZ : Hid ((#[.int .u8 0, .int .u8 0, .int .u8 0, .int .u8 0, .int .u8 0, .int .u8 0, .int .u8 0, .int .u8 0, .int .u8 0, .int .u8 0, .int .u8 0, .int .u8 0, .int .u8 0, .int .u8 0, .int .u8 0, .int .u8 0, .int .u8 0, .int .u8 0, .int .u8 0, .int .u8 0, .int .u8 0, .int .u8 0, .int .u8 0, .int .u8 0, .int .u8 0, .int .u8 0, .int .u8 0, .int .u8 0, .int .u8 0, .int .u8 0, .int .u8 0, .int .u8 0, .int .i64 0, .int .i64 0] : Array Value).size = (ndC cx).toArray.size) := Lib.hid (by rw [← zeroN_cells]; simp [ndC_length HKO.out.1, ndC_length zeroN_ok])
    have HYZ : Hid ((#[.int .u8 0, .int .u8 0, .int .u8 0, .int .u8 0, .int .u8 0, .int .u8 0, .int .u8 0, .int .u8 0, .int .u8 0, .int .u8 0, .int .u8 0, .int .u8 0, .int .u8 0, .int .u8 0, .int .u8 0, .int .u8 0, .int .u8 0, .int .u8 0, .int .u8 0, .int .u8 0, .int .u8 0, .int .u8 0, .int .u8 0, .int .u8 0, .int .u8 0, .int .u8 0, .int .u8 0, .int .u8 0, .int .u8 0, .int .u8 0, .int .u8 0, .int .u8 0, .int .i64 0, .int .i64 0] : Array Value).size = (ndC cy).toArray.size) := Lib.hid (by rw [← zeroN_cells]; simp [ndC_length HKO.out.2, ndC_length zeroN_ok])
    go_wp2_with fail
    refine (climb_any f u 0 p.n 0 f u (some ⟨gq, 0, none⟩) (some ⟨g1, o1, none⟩) ln cq ln c1 l3 l2 _ KM25 KJ25 KT25 HFU.out.1 (by have := HFU.out; omega) (Nat.le_refl _) (by omega) HLL.out HLL.out).mono ?_
    rintro e U26 ⟨rfl, hq⟩
    rw [List.drop_zero, List.drop_zero, HM.out, HCX.out, HCY.out, HCN.out]
    clear pe0 pe1 pe2
    clear qe0 qe1 qe2
    clear l4
    have HB27 := Lib.hid (HB25.out.trans (hq.mono HB25.out.size))
    have RT27 := Lib.hid (row_kept RT25.out hq)
    have RP27 := Lib.hid (row_kept RP25.out hq)
    have RR27 := Lib.hid (row_kept RR25.out hq)
    have RQ27 := Lib.hid (row_kept RQ25.out hq)
    have RN27 := Lib.hid (row_kept RN25.out hq)
    have RS27 := Lib.hid (row_kept RS25.out hq)
    have KO27 := Lib.hid (KO25.out.below hq)
    have KT27 := Lib.hid (KT25.out.below hq)
    have KM27 := Lib.hid (KM25.out.below hq)
    have KJ27 := Lib.hid (KJ25.out.below hq)
    clear hq HB25 RT25 RP25 RR25 RQ25 RN25 RS25 KO25 KT25 KM25 KJ25
    have ra0 := (Below.heap_alloc (U26.alloc (.cells #[.int .u8 0, .int .u8 0, .int .u8 0, .int .u8 0, .int .u8 0, .int .u8 0, .int .u8 0, .int .u8 0, .int .u8 0, .int .u8 0, .int .u8 0, .int .u8 0, .int .u8 0, .int .u8 0, .int .u8 0, .int .u8 0, .int .u8 0, .int .u8 0, .int .u8 0, .int .u8 0, .int .u8 0, .int .u8 0, .int .u8 0, .int .u8 0, .int .u8 0, .int .u8 0, .int .u8 0, .int .u8 0, .int .u8 0, .int .u8 0, .int .u8 0, .int .u8 0, .int .i64 0, .int .i64 0] 31)) (.cells #[.int .u8 0, .int .u8 0, .int .u8 0, .int .u8 0, .int .u8 0, .int .u8 0, .int .u8 0, .int .u8 0, .int .u8 0, .int .u8 0, .int .u8 0, .int .u8 0, .int .u8 0, .int .u8 0, .int .u8 0, .int .u8 0, .int .u8 0, .int .u8 0, .int .u8 0, .int .u8 0, .int .u8 0, .int .u8 0, .int .u8 0, .int .u8 0, .int .u8 0, .int .u8 0, .int .u8 0, .int .u8 0, .int .u8 0, .int .u8 0, .int .u8 0, .int .u8 0, .int .i64 0, .int .i64 0] 31) U26.heap.size (by simp)).trans (heap_alloc_new U26 (.cells #[.int .u8 0, .int .u8 0, .int .u8 0, .int .u8 0, .int .u8 0, .int .u8 0, .int .u8 0, .int .u8 0, .int .u8 0, .int .u8 0, .int .u8 0, .int .u8 0, .int .u8 0, .int .u8 0, .int .u8 0, .int .u8 0, .int .u8 0, .int .u8 0, .int .u8 0, .int .u8 0, .int .u8 0, .int .u8 0, .int .u8 0, .int .u8 0, .int .u8 0, .int .u8 0, .int .u8 0, .int .u8 0, .int .u8 0, .int .u8 0, .int .u8 0, .int .u8 0, .int .i64 0, .int .i64 0] 31))
    have rb0 := heap_alloc_new (U26.alloc (.cells #[.int .u8 0, .int .u8 0, .int .u8 0, .int .u8 0, .int .u8 0, .int .u8 0, .int .u8 0, .int .u8 0, .int .u8 0, .int .u8 0, .int .u8 0, .int .u8 0, .int .u8 0, .int .u8 0, .int .u8 0, .int .u8 0, .int .u8 0, .int .u8 0, .int .u8 0, .int .u8 0, .int .u8 0, .int .u8 0, .int .u8 0, .int .u8 0, .int .u8 0, .int .u8 0, .int .u8 0, .int .u8 0, .int .u8 0, .int .u8 0, .int .u8 0, .int .u8 0, .int .i64 0, .int .i64 0] 31)) (.cells #[.int .u8 0, .int .u8 0, .int .u8 0, .int .u8 0, .int .u8 0, .int .u8 0, .int .u8 0, .int .u8 0, .int .u8 0, .int .u8 0, .int .u8 0, .int .u8 0, .int .u8 0, .int .u8 0, .int .u8 0, .int .u8 0, .int .u8 0, .int .u8 0, .int .u8 0, .int .u8 0, .int .u8 0, .int .u8 0, .int .u8 0, .int .u8 0, .int .u8 0, .int .u8 0, .int .u8 0, .int .u8 0, .int .u8 0, .int .u8 0, .int .u8 0, .int .u8 0, .int .i64 0, .int .i64 0] 31)
    rw [World.size_alloc] at rb0
    have hb0 := ((Below.refl _ U26).alloc (Nat.le_refl _) (.cells #[.int .u8 0, .int .u8 0, .int .u8 0, .int .u8 0, .int .u8 0, .int .u8 0, .int .u8 0, .int .u8 0, .int .u8 0, .int .u8 0, .int .u8 0, .int .u8 0, .int .u8 0, .int .u8 0, .int .u8 0, .int .u8 0, .int .u8 0, .int .u8 0, .int .u8 0, .int .u8 0, .int .u8 0, .int .u8 0, .int .u8 0, .int .u8 0, .int .u8 0, .int .u8 0, .int .u8 0, .int .u8 0, .int .u8 0, .int .u8 0, .int .u8 0, .int .u8 0, .int .i64 0, .int .i64 0] 31)).alloc (by simp) (.cells #[.int .u8 0, .int .u8 0, .int .u8 0, .int .u8 0, .int .u8 0, .int .u8 0, .int .u8 0, .int .u8 0, .int .u8 0, .int .u8 0, .int .u8 0, .int .u8 0, .int .u8 0, .int .u8 0, .int .u8 0, .int .u8 0, .int .u8 0, .int .u8 0, .int .u8 0, .int .u8 0, .int .u8 0, .int .u8 0, .int .u8 0, .int .u8 0, .int .u8 0, .int .u8 0, .int .u8 0, .int .u8 0, .int .u8 0, .int .u8 0, .int .u8 0, .int .u8 0, .int .i64 0, .int .i64 0] 31)
    obtain ⟨X28a, HX28a⟩ : ∃ V, Hid (((U26.alloc (.cells #[.int .u8 0, .int .u8 0, .int .u8 0, .int .u8 0, .int .u8 0, .int .u8 0, .int .u8 0, .int .u8 0, .int .u8 0, .int .u8 0, .int .u8 0, .int .u8 0, .int .u8 0, .int .u8 0, .int .u8 0, .int .u8 0, .int .u8 0, .int .u8 0, .int .u8 0, .int .u8 0, .int .u8 0, .int .u8 0, .int .u8 0, .int .u8 0, .int .u8 0, .int .u8 0, .int .u8 0, .int .u8 0, .int .u8 0, .int .u8 0, .int .u8 0, .int .u8 0, .int .i64 0, .int .i64 0] 31)).alloc (.cells #[.int .u8 0, .int .u8 0, .int .u8 0, .int .u8 0, .int .u8 0, .int .u8 0, .int .u8 0, .int .u8 0, .int .u8 0, .int .u8 0, .int .u8 0, .int .u8 0, .int .u8 0, .int .u8 0, .int .u8 0, .int .u8 0, .int .u8 0, .int .u8 0, .int .u8 0, .int .u8 0, .int .u8 0, .int .u8 0, .int .u8 0, .int .u8 0, .int .u8 0, .int .u8 0, .int .u8 0, .int .u8 0, .int .u8 0, .int .u8 0, .int .u8 0, .int .u8 0, .int .i64 0, .int .i64 0] 31)) = V) := ⟨_, Lib.hid rfl⟩
    rw [HX28a.out] at ra0 rb0 hb0
    have ra := Lib.hid ra0
    have rb1 := (setRow_other X28a U26.heap.size (U26.heap.size + 1) (ndC cx).toArray (by omega)).trans rb0
    have ra1 := setRow_heap X28a U26.heap.size _ (ndC cx).toArray _ _ ra0
    have hb1 := below_setRow hb0 (Nat.le_refl _) (ndC cx).toArray
    obtain ⟨X28b, HX28b⟩ : ∃ V, Hid (X28a.setRow U26.heap.size (ndC cx).toArray = V) := ⟨_, Lib.hid rfl⟩
    rw [HX28b.out] at ra1 rb1 hb1
    have rb := Lib.hid rb1
    have ra2 := (setRow_other X28b (U26.heap.size + 1) U26.heap.size (ndC cy).toArray (by omega)).trans ra1
    have rb2 := setRow_heap X28b (U26.heap.size + 1) _ (ndC cy).toArray _ _ rb1
    have hb := below_setRow hb1 (g := (U26.heap.size + 1)) (by omega) (ndC cy).toArray
    obtain ⟨V28, HV28⟩ : ∃ V, Hid (X28b.setRow (U26.heap.size + 1) (ndC cy).toArray = V) := ⟨_, Lib.hid rfl⟩
    rw [HV28.out] at ra2 rb2 hb
    clear ra0 rb0 hb0 ra1 rb1 hb1
    have HB29 := Lib.hid (HB27.out.trans (hb.mono HB27.out.size))
    have RT29 := Lib.hid (row_kept RT27.out hb)
    have RP29 := Lib.hid (row_kept RP27.out hb)
    have RR29 := Lib.hid (row_kept RR27.out hb)
    have RQ29 := Lib.hid (row_kept RQ27.out hb)
    have RN29 := Lib.hid (row_kept RN27.out hb)
    have RS29 := Lib.hid (row_kept RS27.out hb)
    have KO29 := Lib.hid (KO27.out.below hb)
    have KT29 := Lib.hid (KT27.out.below hb)
    have KM29 := Lib.hid (KM27.out.below hb)
    have KJ29 := Lib.hid (KJ27.out.below hb)
    have RCX28 := Lib.hid ra2
    have RCY28 := Lib.hid rb2
    clear ra2 rb2 hb HB27 RT27 RP27 RR27 RQ27 RN27 RS27 KO27 KT27 KM27 KJ27
    go_wp2_with (first | (rw [HX28a.out]) | (refine wpList_store_row rfl 31 (.tmp 23) (.tmp 117) rfl U26.heap.size (ndC cx).toArray rfl rfl 31 _ ra.out HXS.out HXZ.out (ndC_one _) ?_; rw [HX28b.out]) | (refine wpList_store_row rfl 31 (.tmp 24) (.tmp 118) rfl (U26.heap.size + 1) (ndC cy).toArray rfl rfl 31 _ rb.out HYS.out HYZ.out (ndC_one _) ?_; rw [HV28.out]))
    go_ret
    exact ⟨rfl, HB29.out⟩
theorem walk (w : World) (hT : Tabs w) (t : Tr) (p : TrP) (h : TrOk w t p) (f : Int) (hf0 : -9223372036854775808 ≤ f) (hf1 : f ≤ 9223372036854775807) (u : Int) (hu0 : -9223372036854775808 ≤ u) (hu1 : u ≤ 9223372036854775807) (a' : Int) (ha0 : 0 ≤ a') (ha1 : a' ≤ 18446744073709551615) (b : Int) (hb0 : -128 ≤ b) (hb1 : b ≤ 127) :
    Calls Tryd.prog 8 #[trV t p, .int .i64 f, .int .i64 u, .int .u64 a', .int .i8 b] w fun e w' => e = .returned (.bool true) ∧ Below w.heap.size w w' := by
  obtain ⟨a, rfl⟩ : ∃ k : Nat, a' = (k : Int) := ⟨a'.toNat, by omega⟩
  by_cases hf : p.n ≤ 40 ∧ p.n2 ≤ 20
  case neg => exact big t p f u a b w (Lib.hid h) (Lib.hid hT) hf
  obtain ⟨h1, h2⟩ := hf
  cases hs : shG t f u with
  | false =>
    have hz : (shE t f u != 0) = true := by
      cases hg : trG t with
      | true => rw [shE_no hg hs]; rfl
      | false => rw [(shE_bad hg).1]; rfl
    exact no1 t p f u a b w (Lib.hid h) (Lib.hid hT) h1 h2 (shE t f u) hz (trG t) (Lib.hid rfl) (Lib.hid rfl)
  | true =>
    have hi := shG_iff hs
    obtain ⟨f, rfl⟩ : ∃ k : Nat, f = (k : Int) := ⟨f.toNat, by omega⟩
    obtain ⟨u, rfl⟩ : ∃ k : Nat, u = (k : Int) := ⟨u.toNat, by omega⟩
    obtain ⟨l2, hl2⟩ : ∃ l, shN t (f : Nat) (u : Nat) = l := ⟨_, rfl⟩
    obtain ⟨ln, hln⟩ : ∃ n, l2.length = n := ⟨_, rfl⟩
    by_cases hb : b = 0
    · exact no2 t p f u a b l2 ln w (Lib.hid h) (Lib.hid hT) h1 h2 (Lib.hid hs) (Lib.hid hl2) (Lib.hid hln) hb
    have h1n : 1 ≤ ln := by rw [← hln, ← hl2]; exact shN_some hs
    have hkl : a % ln < ln := Nat.mod_lt _ (by omega)
    have hx : l2[a % ln]? = some (l2[a % ln]'(by omega)) := List.getElem?_eq_getElem _
    obtain ⟨x, hxe⟩ : ∃ x, l2[a % ln]'(by omega) = x := ⟨_, rfl⟩
    rw [hxe] at hx
    have hv2 := vfS_shown hs (tree := rootR (nds43 t)) (rootR_sh hs)
    rw [h.ln.len, hl2] at hv2
    have hxo : NdOk x := by
      have hin : ∀ y ∈ shN t (f : Nat) (u : Nat), NdOk y := shN_ok hs
      rw [hl2] at hin
      exact hin x (List.mem_of_getElem? hx)
    have hqo : NdOk (rootR (nds43 t)) := rootR_ok nds43_ok
    have hv1 : vfS (p.n : Nat) (rootR (nds43 t)) (f : Nat) (u : Nat) (l2.take (ln - 1)) = (0, 0, 430) := vfS_less (P := l2) (by rw [hv2]) (by rw [List.length_take]; omega)
    obtain ⟨l3, hl3⟩ : ∃ l, l2.set (a % ln) { x with c := IntKind.i64.wrap (x.c + b) } = l := ⟨_, rfl⟩
    have hne : l3 ≠ l2 := by
      rw [← hl3]; exact set_ne hx (wrap_ne hxo.c hb0 hb1 hb)
    obtain ⟨⟨x3, y3, z3⟩, hv3⟩ : ∃ v, vfS (p.n : Nat) (rootR (nds43 t)) (f : Nat) (u : Nat) l3 = v := ⟨_, rfl⟩
    have he := vfS_e (p.n : Nat) (rootR (nds43 t)) (f : Nat) (u : Nat) l3
    rw [hv3] at he
    refine good t p f u a b l2 l3 ln (a % ln) (ln - 1) x _ x3 y3 z3 _ w (Lib.hid h) (Lib.hid hT) h1 h2 (Lib.hid hs) (Lib.hid hl2) (Lib.hid hln) (Lib.hid ⟨hb0, hb1⟩) (Lib.hid rfl) (Lib.hid hkl) (Lib.hid (by omega)) (Lib.hid hx) (Lib.hid rfl) (Lib.hid hl3) (Lib.hid rfl) (Lib.hid hqo) (Lib.hid hv1) (Lib.hid hv3) (by simp [hb]) (Lib.hid ?_)
    rcases he with he | he
    · refine .inr ⟨he, ?_⟩
      have e := vfS_bind (by rw [hv3]; exact he) (by rw [hv2]) (P := l3) (Q := l2)
      rw [Int.toNat_natCast, Int.toNat_natCast, Int.toNat_natCast] at e
      exact e.resolve_left hne
    · exact .inl he
set_option maxRecDepth 100000 in
theorem lifted (os : Os) (started : os.Started) (H : Type) (enc : TypeId × Value → H) :
    ReturnsInHanded {} Tryd.checked os 8 .any (fun w args => (Rows.sumsChangedSpec.pre enc Tryd.prog Tryd.f8 [] false w args ∧ laidMetH Tryd.prog laidL w) ∧ sizedMet enc Tryd.prog Tryd.f8 (OpenSpec.ofChange Rows.sumsChangedSpec) false w args)
      (Rows.sumsChangedSpec.post enc Tryd.prog Tryd.f8 false true false false) := by
  refine returnsInHanded_of_change_and (C := Tryd.checked) (X := fun w _ => laidMetH Tryd.prog laidL w) (fun _ _ _ hh h => h.of_heap hh) own started (by kernel_rfl) Tryd.func8
    (ChangeSpec.witness_shaped (enc := enc) (C := Tryd.checked) (os := os) (X := fun w _ => laidMetH Tryd.prog laidL w) false (World.doorLaid Tryd.prog 400 os) #[.agg (#[.int .i64 0, .int .i64 0, .int .i64 0, .int .i64 0, .slice none 0 0, .slice none 0 0] ++ Array.replicate 32 (.int .u8 0)), .int .i64 0, .int .i64 0, .int .u64 0, .int .i8 0] 8 rfl (World.shaped_of_RefB (by kernel_rfl) (by kernel_rfl)) (by kernel_rfl) (by kernel_rfl) (by kernel_rfl) (door_met os _)) ?_
  intro W base args ds gs before hval0 hW _ hsz0 hL _
  have hval : ∀ (j : Nat) t v, Tryd.f8.params[j]? = some t → args[j]? = some v → Value.okWide Tryd.prog W .any base t v := hval0
  have hW' := hW
  obtain ⟨p, q, hA0, hV, rfl, hfz, hnd⟩ := hW
  have hA : DataW.TrodAll enc Tryd.prog W 0 (fun _ => true) true Tryd.f8.params.toList args.toList ds p := hA0
  have hsz : (DataW.weightsEach Tryd.prog (Tryd.f8.params.toList ++ Rows.sumsChangedSpec.plain.varTypes Tryd.prog) (ds ++ gs)).all (· ≤ reachBytes) = true := hsz0
  rw [Tryd.params8] at hA hval hsz
  obtain ⟨v0, vs0, d0, ds0, p0, q0, hargs, rfl, rfl, h0, r0⟩ := trodAll_cons hA
  obtain ⟨v1, vs1, d1, ds1, p1, q1, rfl, rfl, rfl, h1, r1⟩ := trodAll_cons r0
  obtain ⟨v2, vs2, d2, ds2, p2, q2, rfl, rfl, rfl, h2, r2⟩ := trodAll_cons r1
  obtain ⟨v3, vs3, d3, ds3, p3, q3, rfl, rfl, rfl, h3, r3⟩ := trodAll_cons r2
  obtain ⟨v4, vs4, d4, ds4, p4, q4, rfl, rfl, rfl, h4, r4⟩ := trodAll_cons r3
  obtain ⟨rfl, rfl, rfl⟩ := trodAll_nil r4
  obtain rfl : args = #[v0, v1, v2, v3, v4] := by cases args; simp_all
  obtain ⟨rfl, rfl⟩ := trodVars_none hV
  obtain ⟨l0, y0, rfl, e0⟩ := arg_tr (hval 0 27 v0 rfl rfl) h0
  obtain ⟨a1, rfl, rfl, rfl, w1⟩ := open_int Tryd.underlying3 (hval 1 3 v1 rfl rfl) h1
  have b1 := bounds_i64 w1
  obtain ⟨a2, rfl, rfl, rfl, w2⟩ := open_int Tryd.underlying3 (hval 2 3 v2 rfl rfl) h2
  have b2 := bounds_i64 w2
  obtain ⟨a3, rfl, rfl, rfl, w3⟩ := open_int Tryd.underlying70 (hval 3 70 v3 rfl rfl) h3
  have b3 := bounds_u64 w3
  obtain ⟨a4, rfl, rfl, rfl, w4⟩ := open_int Tryd.underlying71 (hval 4 71 v4 rfl rfl) h4
  have b4 := bounds_i8 w4
  refine (walk W (tabs_of hL) l0 y0 e0 a1 b1.1 b1.2 a2 b2.1 b2.2 a3 b3.1 b3.2 a4 b4.1 b4.2).mono fun e W' ⟨he, hg⟩ => ?_
  subst he
  exact ⟨_, rfl, law_post (by kernel_rfl) rfl rfl (fun _ => ⟨rfl, rfl, rfl⟩) hW' hg⟩
theorem over : Rows.sumsChangedRow.holds Tryd.pinned (OpenSpec.ofChange Rows.sumsChangedSpec) :=
  OpenClaim.holds_of_wide 8 Tryd.f8 rfl rfl rfl rfl rfl rfl rfl ⟨rfl, rfl, rfl, rfl, rfl⟩ rfl rfl rfl rfl rfl (by kernel_rfl) Tryd.func8 (by kernel_rfl)
    (of_decide_eq_true (by kernel_rfl)) (by unfold Func.isWrapper; first | (rw [if_pos (by decide +kernel)]; kernel_rfl) | (rw [if_neg (by decide +kernel)]; exact ⟨rfl, rfl⟩))
    (fun os started H enc _ => lifted os started H enc)
/-- THE STATEMENT: the card -/
theorem proved : Rows.SumsChangedCardSaid :=
  Claim7.holds_tied_plain_at .later [] [.data, .data] true Rows.sumsChangedCard.stood.harness true
    over (fun _ h => by cases h) (by kernel_rfl) (fun _ h => by cases h) sumsChanged_row_tie rfl ⟨rfl, rfl⟩ (by kernel_rfl) rfl
    (fun f fn hf hfn => by
      obtain rfl : f = 8 := Option.some.inj ((show Tryd.prog.funcNamed "sizar/sizarlaw43.SumsChanged" = some 8 by kernel_rfl).symm.trans hf) |>.symm
      obtain rfl : fn = Tryd.f8 := (Option.some.inj (Tryd.func8.symm.trans hfn)).symm
      exact ⟨by kernel_rfl, fun j t ht => stands_of (show Tryd.f8.params.all (fun t => !Tryd.prog.wantsStandIn t) = true by kernel_rfl) ht⟩)
    (by kernel_rfl)
#print axioms proved
end Go.Proofs.YtmfmgeapecapiaaDoor.sumsChanged
