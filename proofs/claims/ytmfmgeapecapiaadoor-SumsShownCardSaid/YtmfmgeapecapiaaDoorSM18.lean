/- sizar/average: within, fits, check, weights, for attempts that fit. sizar/average.Sums, Mean, for attempts that fit. sizar/average.Mean, for attempts that fit. sizarlaw43.attempts. Plain facts for SumsShown: the sums of the nodes are those of the attempts. -/
import Derived.Test.YtmfmgeapecapiaaDoorSM6
import Derived.Test.YtmfmgeapecapiaaDoorSM0
import Derived.Test.YtmfmgeapecapiaaDoorSM7
import Derived.Test.YtmfmgeapecapiaaDoorSM16
import Derived.Maps.AppendAt
import Derived.Laws.AppendOwn
import Derived.Test.YtmfmgeapecapiaaDoorSM9
import Derived.Test.YtmfmgeapecapiaaDoorSM17
namespace Go.Proofs.YtmfmgeapecapiaaDoor
open Go.RowKit Go.Shelf SzSha SzTree
set_option linter.unusedVariables false
set_option maxRecDepth 100000
attribute [local go_sem] Oper.semAt_some
theorem within_yes (x lo hi : Int) (w : World) (h0 : lo ≤ x) (h1 : x ≤ hi) : Calls Tryd.prog 134 #[.int .i64 x, .int .i64 lo, .int .i64 hi] w fun e w' => e = .returned (.bool true) ∧ w = w' := by
  have d : decide (lo ≤ x) = true := decide_eq_true h0
  have d1 : decide (x ≤ hi) = true := decide_eq_true h1
  go_enter Tryd.func134, Tryd.ntmps134
  go_wp2_with fail
  go_ret
  exact ⟨rfl, rfl⟩
/-- an attempt that fits: course, term, grade, campus, credits -/
structure AtOk (x : Ln) : Prop where
  b0 : 0 ≤ x.c0 ∧ x.c0 ≤ 4095
  b1 : 0 ≤ x.c1 ∧ x.c1 ≤ 1023
  b2 : 0 ≤ x.c2 ∧ x.c2 ≤ 12
  b3 : 0 ≤ x.c3 ∧ x.c3 ≤ 6
  b4 : 0 ≤ x.c4 ∧ x.c4 ≤ 60
theorem at_info (x : Ln) : (Tryd.prog.info? 152).map (·.size) = some (lnC x).toArray.size := by show _ = some 5; kernel_rfl
theorem at_infoL (x : Ln) : (Tryd.prog.info? 152).map (·.size) = some (lnC x).length := by show _ = some 5; kernel_rfl
set_option maxHeartbeats 4000000 in
theorem afits_yes (x : Ln) (w : World) (h : Hid (AtOk x)) : Calls Tryd.prog 115 #[.agg (lnC x).toArray] w fun e w' => e = .returned (.bool true) ∧ Below w.heap.size w w' := by
  obtain ⟨c0, c1, c2, c3, c4⟩ := x
  show Calls Tryd.prog 115 #[.agg #[.int .i64 c0, .int .i64 c1, .int .i64 c2, .int .i64 c3, .int .i64 c4]] w _
  have HB := Lib.hid ((Below.refl _ w).alloc (Nat.le_refl _) (.cells #[.int .i64 c0, .int .i64 c1, .int .i64 c2, .int .i64 c3, .int .i64 c4] 152))
  go_enter Tryd.func115, Tryd.ntmps115
  go_wp2_with fail
  refine (within_yes _ _ _ _ h.out.b0.1 h.out.b0.2).mono ?_
  rintro e w0 ⟨rfl, rfl⟩
  go_wp2_with fail
  refine (within_yes _ _ _ _ h.out.b1.1 h.out.b1.2).mono ?_
  rintro e w1 ⟨rfl, rfl⟩
  go_wp2_with fail
  refine (within_yes _ _ _ _ h.out.b2.1 h.out.b2.2).mono ?_
  rintro e w2 ⟨rfl, rfl⟩
  go_wp2_with fail
  refine (within_yes _ _ _ _ h.out.b3.1 h.out.b3.2).mono ?_
  rintro e w3 ⟨rfl, rfl⟩
  go_wp2_with fail
  refine (within_yes _ _ _ _ h.out.b4.1 h.out.b4.2).mono ?_
  rintro e w4 ⟨rfl, rfl⟩
  go_wp2_with fail
  go_ret
  exact ⟨rfl, HB.out⟩
theorem acheck1 (x : Ln) (w : World) (h : Hid (AtOk x)) : Calls Tryd.prog 114 #[.agg (lnC x).toArray] w fun e w' => e = .returned (.bool false) ∧ Below w.heap.size w w' := by
  have HI := Lib.hid (at_info x)
  have HB := Lib.hid ((Below.refl _ w).alloc (Nat.le_refl _) (.cells (lnC x).toArray 152))
  have HR := Lib.hid (heap_alloc_new w (.cells (lnC x).toArray 152))
  go_enter Tryd.func114, Tryd.ntmps114
  go_wp2_with (refine wpList_load_row rfl 152 (.tmp 1) rfl w.heap.size rfl 152 _ (0, 0) _ HR.out Tryd.underlying152 rfl HI.out ?_)
  refine (afits_yes x _ h).mono ?_
  rintro e w1 ⟨rfl, hq⟩
  have HQ := Lib.hid (HB.out.trans (hq.mono HB.out.size))
  clear hq
  go_wp2_with fail
  go_ret
  exact ⟨rfl, HQ.out⟩
set_option maxHeartbeats 4000000 in
theorem aindex (ls : List Ln) (A : Option Addr) (n c : Nat) (w : World) (hn : n ≤ 1000000) (h : Hid (InLn w A n c ls)) (hk : Hid (∀ x ∈ ls, AtOk x)) :
    Calls Tryd.prog 133 #[.slice A n c, .func (.func 114) #[] #[]] w fun e w' => e = .returned (.int .i64 (-1)) ∧ Below w.heap.size w w' := by
  have HB0 := Lib.hid (Below.refl w.heap.size w)
  go_enter Tryd.func133, Tryd.ntmps133
  go_wp2_with fail
  go_loopw [8] (fun v wr => ∃ j : Nat, j ≤ n ∧ v = .int .i64 (j : Nat) ∧ Hid (Below w.heap.size w wr)) (fun v _ => n - (intOf v).toNat)
  case atStart => exact ⟨0, by omega, rfl, HB0⟩
  case round =>
    obtain ⟨j, hj, rfl, HBQ⟩ := hrel
    by_cases hlt : j < n
    · have d1 : decide ((j : Int) < (n : Int)) = true := decide_eq_true (by omega)
      have d2 : decide (j < n) = true := decide_eq_true hlt
      have h1 := h.out.below HBQ.out
      have hjl : j < ls.length := by rw [h1.len]; exact hlt
      obtain ⟨g, o, rfl, hg, hr⟩ := h1.rd (by omega)
      obtain ⟨x, HX⟩ : ∃ x, Hid (ls[j] = x) := ⟨_, Lib.hid rfl⟩
      have HK : Hid (AtOk x) := Lib.hid (by rw [← HX.out]; exact hk.out _ (List.getElem_mem hjl))
      have HR1 : Hid (wr.rangeAt g (o + j * 5) (lnC x)) := Lib.hid (by rw [← HX.out]; exact range_elem (k := 5) (cells := lnC) (fun _ => rfl) hr j hjl)
      have HII := Lib.hid (at_infoL x)
      clear hr HX h1 hjl hg HB0
      go_wp2_with (refine wpList_load_mid rfl 152 (.tmp 14) rfl g (o + j * 5) rfl (lnC x) _ HR1.out Tryd.underlying152 rfl HII.out ?_)
      refine (acheck1 x _ HK).mono ?_
      rintro e w1 ⟨rfl, hq⟩
      have HBN := Lib.hid (HBQ.out.trans (hq.mono HBQ.out.size))
      clear hq HBQ
      go_wp2_with fail
      go_roundw
      case rel => exact ⟨j + 1, by omega, by go_num, HBN⟩
      case measure => first | (simp [intOf]; done) | (simp [intOf]; omega)
    · have d1 : decide ((j : Int) < (n : Int)) = false := decide_eq_false (by omega)
      have d2 : decide (j < n) = false := decide_eq_false hlt
      go_wp2_with fail
      go_ret
      exact ⟨rfl, HBQ.out⟩
theorem acontains (ls : List Ln) (A : Option Addr) (n c : Nat) (w : World) (hn : n ≤ 1000000) (h : Hid (InLn w A n c ls)) (hk : Hid (∀ x ∈ ls, AtOk x)) :
    Calls Tryd.prog 113 #[.slice A n c, .func (.func 114) #[] #[]] w fun e w' => e = .returned (.bool false) ∧ Below w.heap.size w w' := by
  go_enter Tryd.func113, Tryd.ntmps113
  go_wp2_with fail
  refine (aindex ls A n c _ hn h hk).mono ?_
  rintro e w1 ⟨rfl, hq⟩
  have HQ := Lib.hid hq
  clear hq
  go_wp2_with fail
  go_ret
  exact ⟨rfl, HQ.out⟩
theorem acheck (ls : List Ln) (A : Option Addr) (n c : Nat) (w : World) (hn : n ≤ 1000000) (h : Hid (InLn w A n c ls)) (hk : Hid (∀ x ∈ ls, AtOk x)) :
    Calls Tryd.prog 77 #[.slice A n c] w fun e w' => e = .returned (.int .i64 0) ∧ Below w.heap.size w w' := by
  go_enter Tryd.func77, Tryd.ntmps77
  go_wp2_with fail
  refine (acontains ls A n c _ hn h hk).mono ?_
  rintro e w1 ⟨rfl, hq⟩
  have HQ := Lib.hid hq
  clear hq
  go_wp2_with fail
  go_ret
  exact ⟨rfl, HQ.out⟩
theorem weights_any (A : Option Addr) (n c : Nat) (w : World) : Calls Tryd.prog 78 #[.slice A n c] w fun e w' => e = .returned (.func (.func 116) #[] #[.pointer (some ⟨w.heap.size, 0, none⟩)]) ∧ w.alloc (.cells #[.slice A n c] 86) = w' := by
  go_enter Tryd.func78, Tryd.ntmps78
  go_wp2_with fail
  go_ret
  exact ⟨rfl, rfl⟩
def encA (x : Ln) : Array Value := #[.int .i64 x.c2, .int .i64 x.c4]
structure WtAt (Fr : Nat → World → Prop) (b g off n c : Nat) (ls : List Ln) (w : World) : Prop where
  box : w.heap[b]? = some (.cells #[.slice (some ⟨g, off, none⟩) n c] 86 (0, 0))
  fb : Fr b w
  fg : Fr g w
  row : ∃ o, w.heap[g]? = some o
  rd : w.rangeAt g off (ls.flatMap lnC)
theorem range_of_row {w w' : World} {g off : Nat} {cs : List Value} (h : w.rangeAt g off cs) (e : w'.heap[g]? = w.heap[g]?) : w'.rangeAt g off cs := fun j v hj => by
  have := h j v hj
  unfold World.cell? at this ⊢
  rw [e]; exact this
theorem WtAt.kept {Fr : Nat → World → Prop} {b g off n c : Nat} {ls : List Ln} {w w' : World} (h : WtAt Fr b g off n c ls w) (k : KpF Fr w w') : WtAt Fr b g off n c ls w' := by
  obtain ⟨o, ho⟩ := h.row
  have hg := k.kept _ _ h.fg ho
  exact ⟨(k.kept _ _ h.fb h.box).2, (k.kept _ _ h.fb h.box).1, hg.1, ⟨o, hg.2⟩, range_of_row h.rd (hg.2.trans ho.symm)⟩
theorem WtAt.keptX {Fr : Nat → World → Prop} {b g off n c l : Nat} {ls : List Ln} {w w' : World} (h : WtAt Fr b g off n c ls w) (k : KpF (exl l Fr) w w') (hb : b ≠ l) (hg : g ≠ l) : WtAt Fr b g off n c ls w' := by
  obtain ⟨o, ho⟩ := h.row
  have kg := k.kept _ _ ⟨hg, h.fg⟩ ho
  have kb := k.kept _ _ ⟨hb, h.fb⟩ h.box
  exact ⟨kb.2, kb.1.2, kg.1.2, ⟨o, kg.2⟩, range_of_row h.rd (kg.2.trans ho.symm)⟩
set_option maxHeartbeats 8000000 in
theorem weights1_seq (ls : List Ln) (n c : Nat) (hn : ls.length = n) (hm : n ≤ 1000000) (Fr : Nat → World → Prop) (b g off : Nat) (w0 : World) (h : Hid (WtAt Fr b g off n c ls w0)) :
    SeqO Tryd.prog 116 #[.pointer (some ⟨b, 0, none⟩)] encA Fr (fun l => l <+: ls) (fun l => l = ls) (fun _ => True) w0 := by
  intro l J Jx W hl hW hk hne hJ hJx hF hfr hY h0
  have HW := Lib.hid (h.out.kept hk)
  have hbl : b ≠ l := hne b (Array.getElem?_eq_some_iff.1 h.out.box).1
  have hgl : g ≠ l := by
    obtain ⟨o, ho⟩ := h.out.row
    exact hne g (Array.getElem?_eq_some_iff.1 ho).1
  have cb := cell_of_row _ b 0 _ _ _ HW.out.box
  simp only [List.getElem?_toArray, List.getElem?_cons_zero] at cb
  refine (callsIn_wide (n := 5)).1 ?_
  refine callsIn_of_wp Tryd.func116 rfl trivial ?_ rfl
  simp only [Tryd.ntmps116, List.size_toArray, List.length_cons, List.length_nil, Nat.reduceAdd, Nat.reduceSub, Array.replicate_succ, Array.replicate_zero, List.push_toArray, List.append_toArray, List.nil_append, List.cons_append]
  gi_wp2_with fail
  gi_loopw [7] (fun v wr => ∃ j : Nat, j ≤ n ∧ v = .int .i64 (j : Nat) ∧ Hid (WtAt Fr b g off n c ls wr) ∧ J (ls.take j) wr ∧ Hid (W.heap.size ≤ wr.heap.size) ∧ Hid (KpF (exl l Fr) W wr)) (fun v _ => n - (intOf v).toNat)
  case atStart => exact ⟨0, by omega, rfl, HW, h0, Lib.hid (Nat.le_refl _), Lib.hid (KpF.refl _ _)⟩
  case round =>
    clear cb HW h0
    obtain ⟨j, hj, rfl, HWT, hJj, HSZ, HKP⟩ := hrel
    by_cases hlt : j < n
    · have d1 : decide ((j : Int) < (n : Int)) = true := decide_eq_true (by omega)
      have d2 : decide (j < n) = true := decide_eq_true hlt
      have hjl : j < ls.length := by omega
      obtain ⟨x, HX⟩ : ∃ x, Hid (ls[j] = x) := ⟨_, Lib.hid rfl⟩
      have HR1 : Hid (wr.rangeAt g (off + j * 5) (lnC x)) := Lib.hid (by rw [← HX.out]; exact range_elem (k := 5) (cells := lnC) (fun _ => rfl) HWT.out.rd j hjl)
      have hpp : ls.take j ++ [x] = ls.take (j + 1) := by rw [List.take_succ_eq_append_getElem hjl, HX.out]
      have HTK := Lib.hid hpp
      have HII := Lib.hid (at_infoL x)
      obtain ⟨W1, HW1⟩ : ∃ V, Hid (wr.alloc (.cells (lnC x).toArray 152) = V) := ⟨_, Lib.hid rfl⟩
      have hka := KpF.alloc (hF.mono (Nat.le_refl _)) wr (.cells (lnC x).toArray 152)
      have hra := heap_alloc_new wr (.cells (lnC x).toArray 152)
      have hja := hJ _ _ _ none hJj (World.grownBy_alloc wr (.cells (lnC x).toArray 152) none) (fun r e => by cases e)
      rw [HW1.out] at hka hra hja
      have hYx := hY (ls.take j) x W1 (by rw [HTK.out]; exact List.take_prefix _ _) hja
      obtain ⟨fn, tmps, assign, body, hy, hR⟩ := hYx
      have q2 : W1.cell? ⟨wr.heap.size, 2, none⟩ = some (.int .i64 x.c2) := cell_of_row _ _ 2 _ _ _ hra
      have q4 : W1.cell? ⟨wr.heap.size, 4, none⟩ = some (.int .i64 x.c4) := cell_of_row _ _ 4 _ _ _ hra
      dsimp only [encA] at hy
      have HKA := Lib.hid hka
      clear hka hra hja hY hJ hJx hF hfr hW hk hne hJj hpp HX hjl
      rw [show (lnC x).toArray = #[.int .i64 x.c0, .int .i64 x.c1, .int .i64 x.c2, .int .i64 x.c3, .int .i64 x.c4] from rfl] at HW1
      have k0 : wr.cell? ⟨g, off + j * 5, none⟩ = some (.int .i64 x.c0) := by have := HR1.out 0 _ rfl; simpa using this
      have k1 : wr.cell? ⟨g, off + j * 5 + 1, none⟩ = some (.int .i64 x.c1) := HR1.out 1 _ rfl
      have k2 : wr.cell? ⟨g, off + j * 5 + 2, none⟩ = some (.int .i64 x.c2) := HR1.out 2 _ rfl
      have k3 : wr.cell? ⟨g, off + j * 5 + 3, none⟩ = some (.int .i64 x.c3) := HR1.out 3 _ rfl
      have k4 : wr.cell? ⟨g, off + j * 5 + 4, none⟩ = some (.int .i64 x.c4) := HR1.out 4 _ rfl
      gi_wp2_with (rw [HW1.out])
      refine hR.mono ?_
      rintro e W3 (⟨rfl, hJ3, hk3⟩ | ⟨rfl, hJx3, hk3⟩)
      · clear hy hR
        rw [HTK.out] at hJ3
        have HK3 := Lib.hid ((HKP.out.trans (HKA.out.exl l)).trans hk3)
        have HW3 := Lib.hid ((HWT.out.kept HKA.out).keptX hk3 hbl hgl)
        have HS3 : Hid (W.heap.size ≤ W3.heap.size) := Lib.hid HK3.out.size
        clear hk3 HKP HKA HWT HSZ
        gi_wp2_with fail
        go_roundw
        case rel => exact ⟨j + 1, by omega, by go_num, HW3, hJ3, HS3, HK3⟩
        case measure => first | (simp [intOf]; done) | (simp [intOf]; omega)
      · clear hy hR
        gi_wp2_with fail
        refine bodyPost_ret (results_none rfl _ _ _) rfl ?_
        exact ⟨⟨_, rfl⟩, .inr ⟨_, trivial, hJx3⟩⟩
    · have d1 : decide ((j : Int) < (n : Int)) = false := decide_eq_false (by omega)
      have d2 : decide (j < n) = false := decide_eq_false hlt
      have HALL : Hid (ls.take j = ls) := Lib.hid (List.take_of_length_le (by omega))
      rw [HALL.out] at hJj
      clear hY hJ hJx hF hfr hW hk hne
      gi_wp2_with fail
      go_end0
      exact ⟨⟨_, rfl⟩, .inl ⟨_, rfl, hJj, HKP.out⟩⟩
end Go.Proofs.YtmfmgeapecapiaaDoor
namespace Go.Proofs.YtmfmgeapecapiaaDoor
open Go.RowKit Go.Shelf SzSha SzTree
set_option linter.unusedVariables false
set_option maxRecDepth 100000
attribute [local go_sem] Oper.semAt_some
def scr : List Ln → Int
  | [] => 0
  | x :: l => x.c4 + scr l
def spt : List Ln → Int
  | [] => 0
  | x :: l => x.c2 * x.c4 + spt l
theorem scr_app : ∀ (l : List Ln) (x : Ln), scr (l ++ [x]) = scr l + x.c4
  | [], x => by simp [scr]
  | y :: l, x => by
    have := scr_app l x
    show y.c4 + scr (l ++ [x]) = y.c4 + scr l + x.c4
    omega
theorem spt_app : ∀ (l : List Ln) (x : Ln), spt (l ++ [x]) = spt l + x.c2 * x.c4
  | [], x => by simp [spt]
  | y :: l, x => by
    have := spt_app l x
    show y.c2 * y.c4 + spt (l ++ [x]) = y.c2 * y.c4 + spt l + x.c2 * x.c4
    omega
theorem at_pt {x : Ln} (h : AtOk x) : 0 ≤ x.c2 * x.c4 ∧ x.c2 * x.c4 ≤ 720 := by
  obtain ⟨h1, h2⟩ := h.b2
  obtain ⟨h3, h4⟩ := h.b4
  refine ⟨Int.mul_nonneg h1 h3, ?_⟩
  calc x.c2 * x.c4 ≤ 12 * x.c4 := Int.mul_le_mul_of_nonneg_right h2 h3
    _ ≤ 720 := by omega
theorem sA_bd : ∀ (l : List Ln), (∀ x ∈ l, AtOk x) → 0 ≤ scr l ∧ scr l ≤ 60 * (l.length : Int) ∧ 0 ≤ spt l ∧ spt l ≤ 720 * (l.length : Int)
  | [], _ => by simp [scr, spt]
  | x :: l, h => by
    have h1 := sA_bd l (fun y hy => h y (List.mem_cons_of_mem _ hy))
    have h2 := at_pt (h x (by simp))
    have h3 := (h x (by simp)).b4
    simp only [scr, spt, List.length_cons]
    omega
/-- a block other than these two -/
def Fr2 (p q : Nat) (b : Nat) (_ : World) : Prop := b ≠ p ∧ b ≠ q
theorem fr2_own (p q M : Nat) : FrOwn M (Fr2 p q) := fun b s W W' row hs hg hr => hs
theorem box_own {β : Type} (b : Nat) (t : TypeId) (f : β → Value) : Own (fun (s : β) W => Boxed W b t (f s)) := fun s W W' row hs hg hrow => row_own b t #[f s] s W W' row hs hg hrow
theorem fr2_set {W : World} {p q : Nat} {t : TypeId} {x v : Value} (h : W.heap[p]? = some (.cells #[x] t (0, 0))) : KpF (Fr2 p q) W (W.setCell ⟨p, 0, none⟩ v) := by
  obtain ⟨e1, e2, e3⟩ := set_one (v := v) h
  exact ⟨by rw [e3]; exact Nat.le_refl _, fun b o hb ho => ⟨hb, (e2 b hb.1).trans ho⟩⟩
theorem fr2_set' {W : World} {p q : Nat} {t : TypeId} {x v : Value} (h : W.heap[q]? = some (.cells #[x] t (0, 0))) : KpF (Fr2 p q) W (W.setCell ⟨q, 0, none⟩ v) := by
  obtain ⟨e1, e2, e3⟩ := set_one (v := v) h
  exact ⟨by rw [e3]; exact Nat.le_refl _, fun b o hb ho => ⟨hb, (e2 b hb.2).trans ho⟩⟩
structure SaC (w : World) (D : Nat) (a b : Int) (w' : World) : Prop where
  bel : Below w.heap.size w w'
  r0 : w'.heap[w.heap.size]? = some (.cells #[.int .i64 a] 3 (0, 0))
  r1 : w'.heap[w.heap.size + 1]? = some (.cells #[.int .i64 b] 3 (0, 0))
  rd : w'.heap[D]? = some (.deferred (some []))
theorem SaC.set {w w' : World} {D : Nat} {a b : Int} (h : SaC w D a b w') (hD : w.heap.size + 2 ≤ D) : SaC w D a b (w'.setCell ⟨w.heap.size, 0, none⟩ (.int .i64 a)) ∧ SaC w D a b (w'.setCell ⟨w.heap.size + 1, 0, none⟩ (.int .i64 b)) := by
  obtain ⟨e1, e2, e3⟩ := set_one (v := .int .i64 a) h.r0
  obtain ⟨f1, f2, f3⟩ := set_one (v := .int .i64 b) h.r1
  exact ⟨⟨h.bel.setCell (p := ⟨w.heap.size, 0, none⟩) (Nat.le_refl _) _, e1, (e2 _ (by omega)).trans h.r1, (e2 _ (by omega)).trans h.rd⟩, ⟨h.bel.setCell (p := ⟨w.heap.size + 1, 0, none⟩) (by show w.heap.size ≤ w.heap.size + 1; omega) _, (f2 _ (by omega)).trans h.r0, f1, (f2 _ (by omega)).trans h.rd⟩⟩
theorem SaC.drew {w w' : World} {D : Nat} {a b : Int} (h : SaC w D a b w') : SaC w D a b w'.drew := ⟨h.bel.trans ((Below.refl _ _).drew.mono h.bel.size), h.r0, h.r1, h.rd⟩
def sSa (a b : Int) : Nat → Value → World → Prop
  | 0, fv, _ => fv = Value.int .i64 a
  | 1, fv, _ => fv = Value.int .i64 b
  | 2, fv, fw => True
  | 3, fv, fw => True
  | 4, fv, _ => fv = Value.int .i64 0
  | _, _, _ => True
theorem sSa_below {a b : Int} {w w' : World} (hb : Below w.heap.size w w') : ∀ j v, sSa a b j v w → sSa a b j v w'
  | 0, v, h => h
  | 1, v, h => h
  | 2, v, h => h
  | 3, v, h => h
  | 4, v, h => h
  | n + 5, v, h => trivial
theorem sSa_pure {a b : Int} {w w' : World} : ∀ j v, j ≠ 2 → j ≠ 3 → sSa a b j v w → sSa a b j v w'
  | 0, v, _, _, h => h
  | 1, v, _, _, h => h
  | 2, v, hh, _, _ => absurd rfl hh
  | 3, v, _, hh, _ => absurd rfl hh
  | 4, v, _, _, h => h
  | n + 5, v, _, _, h => trivial
set_option maxHeartbeats 8000000 in
theorem asums (ls : List Ln) (g off n c : Nat) (w : World) (hn : n ≤ 100000) (h : Hid (InLn w (some ⟨g, off, none⟩) n c ls)) (hne : 0 < ls.length) (hk : Hid (∀ x ∈ ls, AtOk x)) :
    Calls Tryd.prog 37 #[.slice (some ⟨g, off, none⟩) n c] w fun e w' => e = .returned (.tuple #[.int .i64 (scr ls), .int .i64 (spt ls), .int .i64 0]) ∧ Below w.heap.size w w' := by
  obtain ⟨A, HA⟩ : ∃ A : Option Addr, Hid (A = some ⟨g, off, none⟩) := ⟨_, Lib.hid rfl⟩
  rw [← HA.out] at h ⊢
  obtain ⟨W1, HW1⟩ : ∃ V, Hid ((w.alloc (.cells #[.int .i64 0] 3)).alloc (.cells #[.int .i64 0] 3) = V) := ⟨_, Lib.hid rfl⟩
  have hb := ((Below.refl _ w).alloc (Nat.le_refl _) (.cells #[.int .i64 0] 3)).alloc (by simp) (.cells #[.int .i64 0] 3)
  have r0 := (Below.heap_alloc (w.alloc (.cells #[.int .i64 0] 3)) (.cells #[.int .i64 0] 3) w.heap.size (by simp)).trans (heap_alloc_new w (.cells #[.int .i64 0] 3))
  have r1 := heap_alloc_new (w.alloc (.cells #[.int .i64 0] 3)) (.cells #[.int .i64 0] 3)
  have hs1 : W1.heap.size = w.heap.size + 2 := by rw [← HW1.out]; simp
  rw [World.size_alloc] at r1
  rw [HW1.out] at hb r0 r1
  have HB1 := Lib.hid hb
  have HR0 := Lib.hid r0
  have HR1 := Lib.hid r1
  have HS1 := Lib.hid hs1
  have HL1 := Lib.hid (h.out.below hb)
  clear hb r0 r1 hs1
  refine (callsIn_wide (n := 5)).1 ?_
  refine callsIn_of_wp_marks Tryd.func37 rfl trivial ?_ rfl
  simp only [Tryd.ntmps37, List.size_toArray, List.length_cons, List.length_nil, Nat.reduceAdd, Nat.reduceSub, Array.replicate_succ, Array.replicate_zero, List.push_toArray, List.append_toArray, List.nil_append, List.cons_append]
  gi_wp2_with (rw [HW1.out])
  refine ⟨trivial, ?_⟩
  gi_at_call 77
  refine (callsIn_wide.2 (acheck ls A n c _ (by omega) HL1 hk)).mono ?_
  rintro e W2 ⟨rfl, hq⟩
  have HB2 := Lib.hid (HB1.out.trans (hq.mono HB1.out.size))
  have HR02 := Lib.hid (row_kept HR0.out hq)
  have HR12 := Lib.hid (row_kept HR1.out hq)
  have HL2 := Lib.hid (HL1.out.below hq)
  have HS2 : Hid (w.heap.size + 2 ≤ W2.heap.size) := Lib.hid (by have := hq.size; have := HS1.out; omega)
  clear hq HR0 HR1 HL1 HB1 HS1 HW1
  gi_wp2_with fail
  refine ⟨trivial, ?_⟩
  gi_at_call 78
  refine (callsIn_wide.2 (weights_any A n c _)).mono ?_
  rintro e W3 ⟨rfl, hw3⟩
  have hq := (Below.refl _ W2).alloc (Nat.le_refl _) (.cells #[.slice A n c] 86)
  have hbx := heap_alloc_new W2 (.cells #[.slice A n c] 86)
  rw [hw3] at hq hbx
  have HB3 := Lib.hid (HB2.out.trans (hq.mono HB2.out.size))
  have HR03 := Lib.hid (row_kept HR02.out hq)
  have HR13 := Lib.hid (row_kept HR12.out hq)
  have HL3 := Lib.hid (HL2.out.below hq)
  have HBX := Lib.hid hbx
  have HWA : Hid (WtAt (Fr2 w.heap.size (w.heap.size + 1)) W2.heap.size g off n c ls W3) := Lib.hid (by
    obtain ⟨g', off', e, hg, hr⟩ := HL3.out.rd hne
    obtain ⟨g0, off0, e0, hg0, _⟩ := h.out.rd hne
    rw [HA.out] at e e0
    cases e
    cases e0
    have := HS2.out
    exact ⟨by rw [← HA.out]; exact HBX.out, ⟨by omega, by omega⟩, ⟨by omega, by omega⟩, ⟨_, Array.getElem?_eq_getElem hg⟩, hr⟩)
  clear hq hbx hw3 HB2 HR02 HR12 HL2
  gi_wp2_with fail
  refine rangeFunc_own (gf := 116) (lb := #[.pointer (some ⟨W2.heap.size, 0, none⟩)]) rfl (enters_of Tryd.func116 (by kernel_rfl) rfl)
    (weights1_seq ls n c HL3.out.len (by omega) _ _ _ _ _ HWA) (fun _ => rfl)
    (fun pre V => (Boxed V w.heap.size 3 (.int .i64 (scr pre)) ∧ Boxed V (w.heap.size + 1) 3 (.int .i64 (spt pre))) ∧ Below w.heap.size w V)
    (fun _ _ _ => False)
    (OwnFrom.and (OwnFrom.and (Own.from (box_own _ _ _) _) (Own.from (box_own _ _ _) _)) (ownFrom_below (Nat.le_refl _) HB3.out.size))
    (fun _ _ _ _ _ hs _ _ => hs)
    (fr2_own _ _ _)
    (fun pre V o hs => by
      have h1 := (Array.getElem?_eq_some_iff.1 hs.1.2).1
      exact ⟨by omega, by omega⟩)
    ⟨⟨HR03.out, HR13.out⟩, HB3.out⟩
    (fun x a' V => a' = { tmps := #[.slice A n c, undef, .pointer (some ⟨w.heap.size, 0, none⟩), .pointer (some ⟨w.heap.size + 1, 0, none⟩), .int .i64 0, .int .i64 x.c2, .int .i64 x.c4, .slice A n c, .int .i64 0, .int .i64 0, .bool false, undef, .slice A n c, .func (.func 116) #[] #[.pointer (some ⟨W2.heap.size, 0, none⟩)], .int .i64 x.c2, .int .i64 x.c4, undef, undef, undef, undef, undef, undef, undef, undef, undef, undef], defers := [] })
    (fun x a' s A B row hs hg hr => hs)
    ?assign ?body ?done ?stop
  case assign =>
    rintro l2 ys x V K ⟨⟨hb0, hb1⟩, hB⟩ hK
    simp only [encA]
    gi_wp2_with fail
    exact hK _ _ (KpF.refl _ _) ⟨⟨hb0, hb1⟩, hB⟩ rfl
  case body =>
    rintro l2 ys x a' V hl2 hpp ⟨⟨hb0, hb1⟩, hB⟩ rfl
    have hxm : x ∈ ls := hpp.subset (by simp)
    have hkx := hk.out x hxm
    have hbd := sA_bd ys (fun y hy => hk.out y (hpp.subset (by simp [hy])))
    have hlen := hpp.length_le
    rw [List.length_append, List.length_singleton, HL3.out.len] at hlen
    have hpt := at_pt hkx
    have hcr := hkx.b4
    obtain ⟨s0, HS0⟩ : ∃ s, Hid (scr ys = s) := ⟨_, Lib.hid rfl⟩
    obtain ⟨s1, HS1⟩ : ∃ s, Hid (spt ys = s) := ⟨_, Lib.hid rfl⟩
    obtain ⟨pt, HPT⟩ : ∃ s, Hid (x.c2 * x.c4 = s) := ⟨_, Lib.hid rfl⟩
    rw [HS0.out] at hb0 hbd
    rw [HS1.out] at hb1 hbd
    rw [HPT.out] at hpt
    have e0 : IntKind.i64.wrap (s0 + x.c4) = s0 + x.c4 := IntWalk.i64_in _ (by omega)
    have e1 : IntKind.i64.wrap (x.c2 * x.c4) = pt := by rw [HPT.out]; exact IntWalk.i64_in _ (by omega)
    have e2 : IntKind.i64.wrap (s1 + pt) = s1 + pt := IntWalk.i64_in _ (by omega)
    have HN0 := Lib.hid (set_one (v := .int .i64 (s0 + x.c4)) hb0)
    obtain ⟨V1, HV1⟩ : ∃ U, Hid (V.setCell ⟨w.heap.size, 0, none⟩ (.int .i64 (s0 + x.c4)) = U) := ⟨_, Lib.hid rfl⟩
    have hb1' := (HN0.out.2.1 (w.heap.size + 1) (by omega)).trans hb1
    have HK1 := Lib.hid (fr2_set (q := w.heap.size + 1) (v := .int .i64 (s0 + x.c4)) hb0)
    have HBV := Lib.hid (hB.setCell (p := ⟨w.heap.size, 0, none⟩) (Nat.le_refl _) (.int .i64 (s0 + x.c4)))
    have hb00 := HN0.out.1
    rw [HV1.out] at hb1' HK1 HBV hb00
    have HN1 := Lib.hid (set_one (v := .int .i64 (s1 + pt)) hb1')
    have HK2 := Lib.hid (fr2_set' (p := w.heap.size) (v := .int .i64 (s1 + pt)) hb1')
    have HBV2 := Lib.hid (HBV.out.setCell (p := ⟨w.heap.size + 1, 0, none⟩) (by show w.heap.size ≤ w.heap.size + 1; omega) (.int .i64 (s1 + pt)))
    have HB00 := Lib.hid ((HN1.out.2.1 w.heap.size (by omega)).trans hb00)
    have q0 := hb0.cell
    have qf0 := hb0.frozen
    have q1 : V1.cell? ⟨w.heap.size + 1, 0, none⟩ = some (.int .i64 s1) := (show Boxed V1 (w.heap.size + 1) _ _ from hb1').cell
    have qf1 : V1.frozen? ⟨w.heap.size + 1, 0, none⟩ = false := (show Boxed V1 (w.heap.size + 1) _ _ from hb1').frozen
    clear hb0 hb1 hB hpp hxm hkx hbd hlen hpt hcr hb1' hb00
    gi_wp2_with (rw [HV1.out])
    refine ⟨HK1.out.trans HK2.out, ⟨?_, ?_⟩, HBV2.out⟩
    · rw [scr_app, HS0.out]; exact HB00.out
    · rw [spt_app, HS1.out, HPT.out]; exact HN1.out.1
  case done =>
    rintro D ys V hD rfl ⟨⟨hb0, hb1⟩, hB⟩ hkw hfD hd
    have HDS : Hid (w.heap.size + 2 ≤ D) := Lib.hid (by obtain ⟨h1, h2⟩ := hfD; have := HB3.out.size; have := HS2.out; omega)
    obtain ⟨a, HAA⟩ : ∃ s, Hid (scr ys = s) := ⟨_, Lib.hid rfl⟩
    obtain ⟨b, HBB⟩ : ∃ s, Hid (spt ys = s) := ⟨_, Lib.hid rfl⟩
    rw [HAA.out] at hb0
    rw [HBB.out] at hb1
    have HC0 := Lib.hid (SaC.drew ⟨hB, hb0, hb1, hd⟩)
    clear hb0 hb1 hB hkw hfD hd
    gi_wp2_with fail
    refine wpIn_wide.2 ?_
    refine region_flow3 (by kernel_rfl) (by kernel_rfl) (fun i => Nat.beq i 4) (fun i => i) (by kernel_rfl) (fun fx => #[.slice A n c, undef, .pointer (some ⟨w.heap.size, 0, none⟩), .pointer (some ⟨w.heap.size + 1, 0, none⟩), fx 4, undef, undef, .slice A n c, .int .i64 0, .int .i64 0, .bool false, undef, .slice A n c, .func (.func 116) #[] #[.pointer (some ⟨W2.heap.size, 0, none⟩)], undef, undef, undef, undef, undef, undef, undef, undef, undef, undef, fx 0, fx 1]) (fun i => bif Nat.beq i 4 then .int .i64 0 else undef) (fun _ _ w' => SaC w D a b w') (fun fi fv _ fw => sSa a b fi fv fw) HC0.out ?_ ?_
    · refine ⟨?_, ?_, ?_, ?_, ?_, trivial⟩
      all_goals intro L fx w' hC hi hcl hdn hd
      · have hc : _ := cell_of_row _ _ 0 _ _ _ hC.r0
        simp only [List.getElem?_toArray, List.getElem?_cons_zero] at hc
        clear hd
        go_wp2_with fail
        exact ⟨_, rfl, hC, rfl, fun _ _ _ _ _ h => h⟩
      · have hc : _ := cell_of_row _ _ 0 _ _ _ hC.r1
        simp only [List.getElem?_toArray, List.getElem?_cons_zero] at hc
        clear hd
        go_wp2_with fail
        exact ⟨_, rfl, hC, rfl, fun _ _ _ _ _ h => h⟩
      · have h0 : fx 0 = Value.int .i64 a := hd.1 rfl
        have hc : _ := cell_of_row _ _ 0 _ _ _ hC.r0
        have hf : _ := frozen_of_row _ _ 0 _ _ hC.r0
        simp only [List.getElem?_toArray, List.getElem?_cons_zero] at hc
        have hC2 := (hC.set HDS.out).1
        clear hd
        go_wp2_with fail
        exact ⟨undef, (by show _ = Act.mk #[.slice A n c, undef, .pointer (some ⟨w.heap.size, 0, none⟩), .pointer (some ⟨w.heap.size + 1, 0, none⟩), fx 4, undef, undef, .slice A n c, .int .i64 0, .int .i64 0, .bool false, undef, .slice A n c, .func (.func 116) #[] #[.pointer (some ⟨W2.heap.size, 0, none⟩)], undef, undef, undef, undef, undef, undef, undef, undef, undef, undef, fx 0, fx 1] [{ target := .collected D, args := #[] }]; rw [h0] <;> rfl), hC2, trivial, fun j v t _ _ h => (match j, h with | 0, h => h | 1, h => h | 2, h => h | 3, h => h | 4, h => h | j + 5, h => trivial)⟩
      · have h1 : fx 1 = Value.int .i64 b := hd.1 rfl
        have hc : _ := cell_of_row _ _ 0 _ _ _ hC.r1
        have hf : _ := frozen_of_row _ _ 0 _ _ hC.r1
        simp only [List.getElem?_toArray, List.getElem?_cons_zero] at hc
        have hC2 := (hC.set HDS.out).2
        clear hd
        go_wp2_with fail
        exact ⟨undef, (by show _ = Act.mk #[.slice A n c, undef, .pointer (some ⟨w.heap.size, 0, none⟩), .pointer (some ⟨w.heap.size + 1, 0, none⟩), fx 4, undef, undef, .slice A n c, .int .i64 0, .int .i64 0, .bool false, undef, .slice A n c, .func (.func 116) #[] #[.pointer (some ⟨W2.heap.size, 0, none⟩)], undef, undef, undef, undef, undef, undef, undef, undef, undef, undef, fx 0, fx 1] [{ target := .collected D, args := #[] }]; rw [h1] <;> rfl), hC2, trivial, fun j v t _ _ h => (match j, h with | 0, h => h | 1, h => h | 2, h => h | 3, h => h | 4, h => h | j + 5, h => trivial)⟩
      · clear hd
        go_wp2_with fail
        exact ⟨_, rfl, hC, rfl, fun _ _ _ _ _ h => h⟩
    · intro L fx w' hC hS
      have H4 := Lib.hid (hS 4 (by decide) rfl)
      have h4 : fx 4 = .int .i64 0 := H4.out
      clear hS H4
      have HCC := Lib.hid hC
      clear hC
      gi_wp2_with fail
      refine ⟨by simp, .inl ⟨_, _, rfl, run_takeDeferred HCC.out.rd, ?_⟩⟩
      have z0 : (w'.putObj D (.deferred none)).cell? ⟨w.heap.size, 0, none⟩ = some (.int .i64 a) := cell_of_row _ _ 0 _ _ _ ((World.putObj_heap_other (by have := HDS.out; omega)).trans HCC.out.r0)
      have z1 : (w'.putObj D (.deferred none)).cell? ⟨w.heap.size + 1, 0, none⟩ = some (.int .i64 b) := cell_of_row _ _ 0 _ _ _ ((World.putObj_heap_other (by have := HDS.out; omega)).trans HCC.out.r1)
      refine ⟨.tuple #[.int .i64 a, .int .i64 b, .int .i64 0], ?_, (by rw [HAA.out, HBB.out]), HCC.out.bel.trans (belowK_b (w := w) (Nat.le_refl _) _ D _ _ (by have := HDS.out; omega) HCC.out.rd rfl rfl)⟩
      simp [results, Tryd.results37, asAddr, z0, z1, h4, go_sem]
  case stop =>
    rintro D c pre V hD hs h hfD hd
    exact h.elim

end Go.Proofs.YtmfmgeapecapiaaDoor
namespace Go.Proofs.YtmfmgeapecapiaaDoor
open Go.RowKit SzSha SzTree
set_option linter.unusedVariables false
set_option maxRecDepth 100000
set_option maxHeartbeats 8000000 in
theorem amean_zero (ls : List Ln) (g off n c : Nat) (w : World) (hn : n ≤ 100000) (h : Hid (InLn w (some ⟨g, off, none⟩) n c ls)) (hne : 0 < ls.length) (hk : Hid (∀ x ∈ ls, AtOk x)) (p : Int) (HS : Hid (scr ls = 0 ∧ spt ls = p)) :
    Calls Tryd.prog 38 #[.slice (some ⟨g, off, none⟩) n c] w fun e w' => e = .returned (.tuple #[.agg #[.int .i64 0, .int .i64 1], .int .i64 0]) ∧ Below w.heap.size w w' := by
  skip
  have hb := (Below.refl _ w).alloc (Nat.le_refl _) (.cells #[.int .i64 0, .int .i64 0] 83)
  have hr := heap_alloc_new w (.cells #[.int .i64 0, .int .i64 0] 83)
  obtain ⟨W1, HW1⟩ : ∃ V, Hid (w.alloc (.cells #[.int .i64 0, .int .i64 0] 83) = V) := ⟨_, Lib.hid rfl⟩
  rw [HW1.out] at hb hr
  have HB1 := Lib.hid hb
  have HR1 := Lib.hid hr
  have HL1 := Lib.hid (h.out.below hb)
  clear hb hr
  go_enter Tryd.func38, Tryd.ntmps38
  go_wp2_with (rw [HW1.out])
  refine (asums ls g off n c _ hn HL1 hne hk).mono ?_
  rintro e W2 ⟨rfl, hq⟩
  rw [HS.out.1, HS.out.2]
  have HB2 := Lib.hid (HB1.out.trans (hq.mono HB1.out.size))
  have HR2 := Lib.hid (row_kept HR1.out hq)
  clear hq HB1 HR1 HL1
  have c0 := cell_of_row _ _ 0 _ _ _ HR2.out
  have c1 := cell_of_row _ _ 1 _ _ _ HR2.out
  have f0 := frozen_of_row _ _ 0 _ _ HR2.out
  have f1 := frozen_of_row _ _ 1 _ _ HR2.out
  go_wp2_with fail
  have hs := row2_set (x := .int .i64 0) (y := .int .i64 1) HR2.out
  have hl2 := run_loadVar_row (P := Tryd.prog) _ w.heap.size 83 83 #[.int .i64 0, .int .i64 1] (0, 0) _ hs Tryd.underlying83 rfl (by show _ = some 2; kernel_rfl)
  refine bodyPost_ret (v := .tuple #[.agg #[.int .i64 0, .int .i64 1], .int .i64 0]) ?_ rfl ⟨rfl, (HB2.out.setCell (Nat.le_refl _) _).setCell (Nat.le_refl _) _⟩
  simp [results, Tryd.results38, asAddr, hl2]
set_option maxHeartbeats 8000000 in
theorem amean_yes (ls : List Ln) (g off n c : Nat) (w : World) (hn : n ≤ 100000) (h : Hid (InLn w (some ⟨g, off, none⟩) n c ls)) (hne : 0 < ls.length) (hk : Hid (∀ x ∈ ls, AtOk x)) (p d : Nat) (x y z3 : Int) (h0 : 0 < d) (hp : p ≤ 9223372036854775807) (hd2 : d ≤ 9223372036854775807) (HX : Hid (ratR p d = (x, y, z3))) (HS : Hid (scr ls = (d : Nat) ∧ spt ls = (p : Nat))) :
    Calls Tryd.prog 38 #[.slice (some ⟨g, off, none⟩) n c] w fun e w' => e = .returned (.tuple #[.agg #[.int .i64 x, .int .i64 y], .int .i64 z3]) ∧ Below w.heap.size w w' := by
  have dz : decide ((d : Int) = 0) = false := decide_eq_false (by omega)
  have dz2 : ((d : Int) == 0) = false := by simp; omega
  have hb := (Below.refl _ w).alloc (Nat.le_refl _) (.cells #[.int .i64 0, .int .i64 0] 83)
  have hr := heap_alloc_new w (.cells #[.int .i64 0, .int .i64 0] 83)
  obtain ⟨W1, HW1⟩ : ∃ V, Hid (w.alloc (.cells #[.int .i64 0, .int .i64 0] 83) = V) := ⟨_, Lib.hid rfl⟩
  rw [HW1.out] at hb hr
  have HB1 := Lib.hid hb
  have HR1 := Lib.hid hr
  have HL1 := Lib.hid (h.out.below hb)
  clear hb hr
  go_enter Tryd.func38, Tryd.ntmps38
  go_wp2_with (rw [HW1.out])
  refine (asums ls g off n c _ hn HL1 hne hk).mono ?_
  rintro e W2 ⟨rfl, hq⟩
  rw [HS.out.1, HS.out.2]
  have HB2 := Lib.hid (HB1.out.trans (hq.mono HB1.out.size))
  have HR2 := Lib.hid (row_kept HR1.out hq)
  clear hq HB1 HR1 HL1
  have c0 := cell_of_row _ _ 0 _ _ _ HR2.out
  have c1 := cell_of_row _ _ 1 _ _ _ HR2.out
  have f0 := frozen_of_row _ _ 0 _ _ HR2.out
  have f1 := frozen_of_row _ _ 1 _ _ HR2.out
  go_wp2_with fail
  refine (new_any p d _ hp hd2 h0).mono ?_
  rintro e W3 ⟨rfl, hq⟩
  rw [HX.out]
  have HB3 := Lib.hid (HB2.out.trans (hq.mono HB2.out.size))
  have HR3 := Lib.hid (row_kept HR2.out hq)
  clear hq c0 c1 f0 f1 HB2 HR2
  have c0 := cell_of_row _ _ 0 _ _ _ HR3.out
  have c1 := cell_of_row _ _ 1 _ _ _ HR3.out
  have f0 := frozen_of_row _ _ 0 _ _ HR3.out
  have f1 := frozen_of_row _ _ 1 _ _ HR3.out
  go_wp2_with fail
  have hs := row2_set (x := .int .i64 x) (y := .int .i64 y) HR3.out
  have hl2 := run_loadVar_row (P := Tryd.prog) _ w.heap.size 83 83 #[.int .i64 x, .int .i64 y] (0, 0) _ hs Tryd.underlying83 rfl (by show _ = some 2; kernel_rfl)
  refine bodyPost_ret (v := .tuple #[.agg #[.int .i64 x, .int .i64 y], .int .i64 z3]) ?_ rfl ⟨rfl, (HB3.out.setCell (Nat.le_refl _) _).setCell (Nat.le_refl _) _⟩
  simp [results, Tryd.results38, asAddr, hl2]
theorem amean (ls : List Ln) (g off n c : Nat) (w : World) (hn : n ≤ 100000) (h : Hid (InLn w (some ⟨g, off, none⟩) n c ls)) (hne : 0 < ls.length) (hk : Hid (∀ x ∈ ls, AtOk x)) :
    Calls Tryd.prog 38 #[.slice (some ⟨g, off, none⟩) n c] w fun e w' => e = .returned (.tuple #[.agg #[.int .i64 (mnR (scr ls, spt ls, 0)).1, .int .i64 (mnR (scr ls, spt ls, 0)).2.1], .int .i64 (mnR (scr ls, spt ls, 0)).2.2]) ∧ Below w.heap.size w w' := by
  have hb := sA_bd ls hk.out
  rw [h.out.len] at hb
  unfold mnR
  dsimp only
  rw [if_neg (by simp)]
  by_cases hc : scr ls = 0
  · rw [if_pos hc]
    exact amean_zero ls g off n c w hn h hne hk _ (Lib.hid ⟨hc, rfl⟩)
  · rw [if_neg hc]
    obtain ⟨d, hd⟩ : ∃ d : Nat, scr ls = (d : Nat) := ⟨(scr ls).toNat, by omega⟩
    obtain ⟨k, hp⟩ : ∃ k : Nat, spt ls = (k : Nat) := ⟨(spt ls).toNat, by omega⟩
    rw [hd, hp, Int.toNat_natCast, Int.toNat_natCast]
    obtain ⟨x, hx⟩ : ∃ x, ratR k d = x := ⟨_, rfl⟩
    obtain ⟨x, y, e⟩ := x
    rw [hx]
    exact amean_yes ls g off n c w hn h hne hk k d x y e (by omega) (by omega) (by omega) (Lib.hid hx) (Lib.hid ⟨hd, hp⟩)
end Go.Proofs.YtmfmgeapecapiaaDoor
namespace Go.Proofs.YtmfmgeapecapiaaDoor
open Go.RowKit SzSha SzTree
set_option linter.unusedVariables false
set_option maxRecDepth 100000
/-- a line as an attempt -/
def atOf (x : Ln) : Ln := ⟨x.c0, x.c1, x.c2, x.c4, x.c3⟩
def flatA (ls : List Ln) : List Value := ls.flatMap lnC
theorem flatA_append (a b : List Ln) : flatA (a ++ b) = flatA a ++ flatA b := by unfold flatA; rw [List.flatMap_append]
theorem flatA_length : ∀ ls : List Ln, (flatA ls).length = ls.length * 5
  | [] => rfl
  | x :: ls => by
    show (lnC x ++ flatA ls).length = _
    rw [List.length_append, flatA_length ls, List.length_cons]
    show 5 + _ = _
    omega
theorem flatA_one (ls : List Ln) : ∀ u ∈ flatA ls, u.oneCell' = true := fun u hu => by
  obtain ⟨n, _, h⟩ := List.mem_flatMap.1 hu
  unfold lnC at h
  simp only [List.mem_cons, List.not_mem_nil, or_false] at h
  rcases h with rfl | rfl | rfl | rfl | rfl <;> rfl
theorem info_at : ∃ i, Tryd.prog.info? 152 = some i ∧ i.zero = some (.agg #[.int .i64 0, .int .i64 0, .int .i64 0, .int .i64 0, .int .i64 0]) ∧ i.size = 5 ∧ i.bytes = 40 := by
  refine ⟨_, rfl, ?_, ?_, ?_⟩ <;> kernel_rfl
theorem wpList_build_at1 {w : World} {ops : Array Oper} {rest : List Oper} {o : Oper} {a : Act} {Q : Exit → Act → World → Prop} (hg : o.guard = none) (x : Operand)
    (ho : o.op = .buildSlice 86 1 #[(0, x)]) (n : Ln) (hx : a.eval x = .agg (lnC n).toArray)
    (h : wpList Tryd.prog ops Q rest (a.put o.dst (.slice (some ⟨w.heap.size, 0, none⟩) 1 1)) (w.alloc (.cells (flatA [n]).toArray 152))) : wpList Tryd.prog ops Q (o :: rest) a w := by
  obtain ⟨i0, hi, hz, hs, _⟩ := info_at
  refine wpList_buildSlice hg 86 152 1 _ ho _ i0 _ Tryd.underlying86 hi hz (by rw [hs]; omega) (by rw [hs]; omega) ?_ h
  have e1 : (#[(0, x)].map fun (i, x) => (i, a.eval x)).toList = [(0, .agg (lnC n).toArray)] := by simp [hx]
  rw [e1, hs]
  have e2 : ([(0, .agg (lnC n).toArray)] : List (Nat × Value)) = (([.agg (lnC n).toArray] : List Value).zipIdx 0).map fun x => (x.2, x.1) := by simp
  rw [e2, Great.fill_whole (by omega) [.agg (lnC n).toArray] _ (fun v hv => by
    simp only [List.mem_cons, List.not_mem_nil, or_false] at hv
    subst hv; rfl) (by simp)]
  rfl
def OwnA (w : World) (base : Nat) (v : Value) (ls : List Ln) : Prop := w.ownsRow base 152 5 v ls.length (flatA ls)
theorem OwnA.kept {w w' : World} {base : Nat} {v : Value} {ls : List Ln} (h : OwnA w base v ls) (hk : ∀ g, v.ownBlock = some g → w'.heap[g]? = w.heap[g]?) : OwnA w' base v ls := by
  refine ⟨h.1, ?_⟩
  rcases h.2 with h0 | ⟨g, cap, cur, rfl, hb, hh, r⟩
  · exact .inl h0
  · exact .inr ⟨g, cap, cur, rfl, hb, (hk g rfl).trans hh, r⟩
theorem OwnA.block {w : World} {base : Nat} {v : Value} {ls : List Ln} (h : OwnA w base v ls) (g : Nat) (hg : v.ownBlock = some g) : base ≤ g ∧ g < w.heap.size ∧ ∃ cur, w.heap[g]? = some (.cells cur 152 (0, 0)) := by
  rcases h.2 with ⟨rfl, h0⟩ | ⟨g', cap, cur, rfl, hb, hh, r⟩
  · cases hg
  · have : g' = g := by simpa [Value.ownBlock] using hg
    subst this
    exact ⟨hb, (Array.getElem?_eq_some_iff.1 hh).1, cur, hh⟩
theorem OwnA.below {w w' : World} {base : Nat} {v : Value} {ls : List Ln} (h : OwnA w base v ls) (hb : Below w.heap.size w w') : OwnA w' base v ls := h.kept fun g hg => hb.block g (h.block g hg).2.1
theorem OwnA.form {w : World} {base : Nat} {v : Value} {ls : List Ln} (h : OwnA w base v ls) : ∃ A n c, v = .slice A n c := by
  rcases h.2 with ⟨rfl, h0⟩ | ⟨g, cap, cur, rfl, r⟩
  · exact ⟨_, _, _, rfl⟩
  · exact ⟨_, _, _, rfl⟩
theorem OwnA.slice {w : World} {base : Nat} {v : Value} {ls : List Ln} (h : OwnA w base v ls) (hk : ∀ x ∈ ls, LnOk x) : ∃ A n c, v = .slice A n c ∧ InLn w A n c ls := by
  rcases h.2 with ⟨rfl, h0⟩ | ⟨g, cap, cur, rfl, hb, hh, hc, hm, hs, ht⟩
  · exact ⟨none, 0, 0, rfl, ⟨h0, Nat.le_refl _, fun _ => rfl, hk, fun h1 => by omega⟩⟩
  · refine ⟨_, _, cap, rfl, ⟨rfl, hc, (fun e => by cases e), hk, fun _ => ⟨g, 0, rfl, (Array.getElem?_eq_some_iff.1 hh).1, fun j u hj => ?_⟩⟩⟩
    have hj2 : j < ls.length * 5 := by rw [← flatA_length ls]; exact (List.getElem?_eq_some_iff.1 hj).1
    rw [Nat.zero_add, cell_of_row w g j cur _ _ hh]
    have hj3 : (flatA ls)[j]? = some u := hj
    rw [← ht, List.getElem?_take_of_lt hj2] at hj3
    simpa using hj3
theorem ownA_empty {w : World} {g M : Nat} (h : w.heap[g]? = some (.cells #[] 152 (0, 0))) (hM : M ≤ g) : OwnA w M (.slice (some ⟨g, 0, none⟩) 0 0) [] :=
  ⟨rfl, .inr ⟨g, 0, #[], rfl, hM, h, Nat.le_refl _, Nat.zero_le _, rfl, rfl⟩⟩
theorem wpList_append_at {w : World} {ops : Array Oper} {rest : List Oper} {o : Oper} {a : Act} {Q : Exit → Act → World → Prop} (hgd : o.guard = none) (s x : Operand)
    (ho : o.op = .call { callee := .builtin .append, args := #[s, x], argTypes := #[86, 86] })
    (base : Nat) (v : Value) (ls : List Ln) (n : Ln) (hs : a.eval s = v) (hown : Hid (OwnA w base v ls)) (g : Nat) (hx : a.eval x = .slice (some ⟨g, 0, none⟩) 1 1)
    (hr : Hid (w.heap[g]? = some (.cells (flatA [n]).toArray 152 (0, 0)))) (hlen : ls.length ≤ 100000) (hbase : base ≤ w.heap.size)
    (h : ∀ v' w', Hid (OwnA w' base v' (ls ++ [n])) → Hid (w.grownBy w' v.ownBlock) → wpList Tryd.prog ops Q rest (a.put o.dst v') w') : wpList Tryd.prog ops Q (o :: rest) a w := by
  obtain ⟨i0, hi, hz, hz1, hz2⟩ := info_at
  refine wpList_append_own_at _ hgd s x _ ho base _ i0 _ 5 40 Tryd.underlying86 hi hz hz1 hz2 (by simp [Value.cells]) (by omega) v _ _ hs hown.out ⟨g, 0, none⟩ 1 1 (flatA [n]) hx (by rw [flatA_length]; rfl) (fun j u hu => by rw [add_row]; exact range_row hr.out j u hu) (flatA_one _) (by unfold maxLen; omega) (by omega) hbase ?_
  intro v' w' h1 h2 h3 h4
  refine h v' w' (Lib.hid ?_) (Lib.hid h2)
  unfold OwnA
  rw [flatA_append, List.length_append]; exact h1
/-- the attempts of some lines -/
def attL (t : Tr) (f g : Nat) : List Ln := ((t.ln.drop f).take (g - f)).map atOf
theorem attL_length (t : Tr) (f g : Nat) (h : g ≤ t.ln.length) : (attL t f g).length = g - f := by unfold attL; simp; omega
theorem attL_at (t : Tr) (f g j : Nat) (h : g ≤ t.ln.length) (hj : j < g - f) : (attL t f g).take (j + 1) = (attL t f g).take j ++ [atOf (t.ln[f + j]'(by omega))] := by
  rw [List.take_succ_eq_append_getElem (by rw [attL_length t f g h]; exact hj)]
  congr 1
  simp [attL]
set_option maxHeartbeats 8000000 in
theorem attempts_any (t : Tr) (p : TrP) (f g : Nat) (w : World) (h : Hid (TrOk w t p)) (hfg : f < g) (hg : g ≤ p.n) (hn : p.n ≤ 4096) :
    Calls Tryd.prog 36 #[trV t p, .int .i64 (f : Nat), .int .i64 (g : Nat)] w fun e w' => ∃ A n c, e = .returned (.slice A n c) ∧ InLn w' A n c (attL t f g) ∧ Below w.heap.size w w' := by
  have hfg2 : f ≤ 100000 := by omega
  obtain ⟨L, HL⟩ : ∃ l, Hid (attL t f g = l) := ⟨_, Lib.hid rfl⟩
  have HLN : Hid (L.length = g - f) := Lib.hid (by rw [← HL.out]; exact attL_length t f g (by rw [h.out.ln.len]; exact hg))
  have HIT := Lib.hid (trV_info t p h.out.len)
  obtain ⟨W1, HW1⟩ : ∃ V, Hid ((w.alloc (.cells (trC t p).toArray 27)).alloc (.cells #[] 152) = V) := ⟨_, Lib.hid rfl⟩
  have hb := ((Below.refl _ w).alloc (Nat.le_refl _) (.cells (trC t p).toArray 27)).alloc (by simp) (.cells #[] 152)
  have hr0 := (Below.heap_alloc (w.alloc (.cells (trC t p).toArray 27)) (.cells #[] 152) w.heap.size (by simp)).trans (heap_alloc_new w (.cells (trC t p).toArray 27))
  have hr1 := heap_alloc_new (w.alloc (.cells (trC t p).toArray 27)) (.cells #[] 152)
  rw [World.size_alloc] at hr1
  rw [HW1.out] at hb hr0 hr1
  have HOW := Lib.hid (ownA_empty (M := w.heap.size + 1) hr1 (Nat.le_refl _))
  have HB1 := Lib.hid hb
  have HR1 := Lib.hid hr0
  clear hb hr0 hr1
  rw [show trV t p = .agg (trC t p).toArray from rfl]
  go_enter Tryd.func36, Tryd.ntmps36
  go_wp2_with (rw [HW1.out])
  go_loopw [7, 8] (fun v s wr => ∃ j : Nat, j ≤ g - f ∧ s = .int .i64 ((f + j : Nat) : Int) ∧ Hid (OwnA wr (w.heap.size + 1) v (L.take j)) ∧ Hid (Below w.heap.size w wr) ∧ Hid (wr.heap[w.heap.size]? = some (.cells (trC t p).toArray 27 (0, 0)))) (fun _ s _ => g - (intOf s).toNat)
  case atStart => exact ⟨0, by omega, rfl, HOW, HB1, HR1⟩
  case round =>
    clear HOW HB1 HR1 HW1
    obtain ⟨j, hj, rfl, HO, HB, HR⟩ := hrel
    obtain ⟨A0, n0, c0, rfl⟩ := HO.out.form
    by_cases hlt : j < g - f
    · have d1 : decide (((f + j : Nat) : Int) < (g : Int)) = true := decide_eq_true (by omega)
      have d2 : decide (f + j < g) = true := decide_eq_true (by omega)
      have d3 : decide (f + j < p.n) = true := decide_eq_true (by omega)
      have hjl : f + j < t.ln.length := by rw [h.out.ln.len]; omega
      obtain ⟨gl, ol, eA, hgl, hr⟩ := h.out.ln.rd (by omega)
      obtain ⟨x, HX⟩ : ∃ x, Hid (t.ln[f + j] = x) := ⟨_, Lib.hid rfl⟩
      have hrx : wr.rangeAt gl (ol + (f + j) * 5) (lnC x) := by rw [← HX.out]; exact rangeAt_below (range_elem (k := 5) (cells := lnC) (fun _ => rfl) hr (f + j) hjl) hgl HB.out
      have HT1 : Hid (L.take (j + 1) = L.take j ++ [atOf x]) := Lib.hid (by rw [← HL.out, ← HX.out]; exact attL_at t f g j (by rw [h.out.ln.len]; exact hg) hlt)
      have HTL : Hid ((L.take j).length ≤ 100000) := Lib.hid (by rw [List.length_take]; omega)
      have kl : wr.cell? ⟨w.heap.size, 4, none⟩ = some (.slice p.A p.n p.c) := by rw [cell_of_row _ _ _ _ _ _ HR.out]; rfl
      have k0 : wr.cell? ⟨gl, ol + (f + j) * 5, none⟩ = some (.int .i64 x.c0) := by have := hrx 0 _ rfl; simpa using this
      have k1 : wr.cell? ⟨gl, ol + (f + j) * 5 + 1, none⟩ = some (.int .i64 x.c1) := hrx 1 _ rfl
      have k2 : wr.cell? ⟨gl, ol + (f + j) * 5 + 2, none⟩ = some (.int .i64 x.c2) := hrx 2 _ rfl
      have k3 : wr.cell? ⟨gl, ol + (f + j) * 5 + 3, none⟩ = some (.int .i64 x.c3) := hrx 3 _ rfl
      have k4 : wr.cell? ⟨gl, ol + (f + j) * 5 + 4, none⟩ = some (.int .i64 x.c4) := hrx 4 _ rfl
      rw [eA] at kl
      have hbx := (Below.refl _ wr).alloc (Nat.le_refl _) (.cells (lnC x).toArray 41)
      have hrw := heap_alloc_new wr (.cells (lnC x).toArray 41)
      obtain ⟨W2, HW2⟩ : ∃ V, Hid (wr.alloc (.cells #[.int .i64 x.c0, .int .i64 x.c1, .int .i64 x.c2, .int .i64 x.c3, .int .i64 x.c4] 41) = V) := ⟨_, Lib.hid rfl⟩
      rw [show (lnC x).toArray = #[.int .i64 x.c0, .int .i64 x.c1, .int .i64 x.c2, .int .i64 x.c3, .int .i64 x.c4] from rfl, HW2.out] at hbx hrw
      have m0 : W2.cell? ⟨wr.heap.size, 0, none⟩ = some (.int .i64 x.c0) := cell_of_row _ _ 0 _ _ _ hrw
      have m1 : W2.cell? ⟨wr.heap.size, 1, none⟩ = some (.int .i64 x.c1) := cell_of_row _ _ 1 _ _ _ hrw
      have m2 : W2.cell? ⟨wr.heap.size, 2, none⟩ = some (.int .i64 x.c2) := cell_of_row _ _ 2 _ _ _ hrw
      have m3 : W2.cell? ⟨wr.heap.size, 3, none⟩ = some (.int .i64 x.c3) := cell_of_row _ _ 3 _ _ _ hrw
      have m4 : W2.cell? ⟨wr.heap.size, 4, none⟩ = some (.int .i64 x.c4) := cell_of_row _ _ 4 _ _ _ hrw
      have hb3 := (Below.refl _ W2).alloc (Nat.le_refl _) (.cells (flatA [atOf x]).toArray 152)
      have HR3 := Lib.hid (heap_alloc_new W2 (.cells (flatA [atOf x]).toArray 152))
      have HO3 := Lib.hid ((HO.out.below hbx).below hb3)
      have HB3 := Lib.hid ((HB.out.trans (hbx.mono HB.out.size)).trans (hb3.mono (Nat.le_trans HB.out.size hbx.size)))
      have HQ3 := Lib.hid (row_kept (row_kept HR.out hbx) hb3)
      have HS3 : Hid (w.heap.size + 1 ≤ (W2.alloc (.cells (flatA [atOf x]).toArray 152)).heap.size) := Lib.hid (by have := (Array.getElem?_eq_some_iff.1 HR.out).1; have := hbx.size; have := hb3.size; omega)
      clear hrx hr hbx hrw hb3 hgl HX hjl HO HB HR
      go_wp2_with (first | (rw [HW2.out]) | (refine wpList_build_at1 rfl (.tmp 33) rfl (atOf x) rfl ?_) | (refine wpList_append_at rfl (.tmp 22) (.tmp 34) rfl (w.heap.size + 1) _ (L.take j) (atOf x) rfl HO3 W2.heap.size rfl HR3 HTL.out HS3.out ?_; intro v4 w4 HO4 HG4; obtain ⟨A4, n4, c4, rfl⟩ := HO4.out.form))
      have hd4 : ∀ k, (Value.slice A0 n0 c0).ownBlock = some k → w.heap.size + 1 ≤ k := fun k hk => (HO3.out.block k hk).1
      have HB4 := Lib.hid (HB3.out.grown HG4.out HB3.out.size (fun k hk => by have := hd4 k hk; omega))
      have HQ4 := Lib.hid ((HG4.out.block w.heap.size (Array.getElem?_eq_some_iff.1 HQ3.out).1 (fun e => by have := hd4 _ e.symm; omega)).trans HQ3.out)
      rw [← HT1.out] at HO4
      have e5 : ((f : Int) + (j : Int) + 1) = ((f + (j + 1) : Nat) : Int) := by omega
      go_roundw
      case rel => exact ⟨j + 1, by omega, by first | rfl | go_num | (congr 1; push_cast; omega), HO4, HB4, HQ4⟩
      case measure => first | (simp [intOf]; done) | (simp [intOf]; omega)
    · have d1 : decide (((f + j : Nat) : Int) < (g : Int)) = false := decide_eq_false (by omega)
      have d2 : decide (f + j < g) = false := decide_eq_false (by omega)
      have hL : L.take j = L := List.take_of_length_le (by rw [HLN.out]; omega)
      rw [hL] at HO
      obtain ⟨A5, n5, c5, e5, hin⟩ := HO.out.slice (fun y hy => by
        rw [← HL.out] at hy
        unfold attL at hy
        obtain ⟨x, hx, rfl⟩ := List.mem_map.1 hy
        have hk := h.out.ln.ok x (List.mem_of_mem_drop (List.mem_of_mem_take hx))
        exact ⟨hk.b0, hk.b1, hk.b2, hk.b4, hk.b3⟩)
      cases e5
      have HIN := Lib.hid hin
      clear hin hL
      go_wp2_with fail
      go_ret
      exact ⟨_, _, _, rfl, by rw [HL.out]; exact HIN.out, HB.out⟩
end Go.Proofs.YtmfmgeapecapiaaDoor
namespace Go.Proofs.YtmfmgeapecapiaaDoor
open Go.RowKit SzSha SzTree
set_option linter.unusedVariables false
set_option maxRecDepth 100000
theorem sums_att (b : List Nat) : ∀ xs : List Ln, (∀ x ∈ xs, vLn x = true) → sumC (xs.map (ndL b)) = scr (xs.map atOf) ∧ sumP (xs.map (ndL b)) = spt (xs.map atOf)
  | [], _ => ⟨rfl, rfl⟩
  | x :: xs, h => by
    have h1 := sums_att b xs (fun y hy => h y (List.mem_cons_of_mem _ hy))
    have h2 := ndL_cp (h x (by simp)) b
    simp only [List.map_cons, sumC, sumP, scr, spt, h1.1, h1.2, h2.1, h2.2]
    exact ⟨rfl, rfl⟩
theorem seg_att {t : Tr} (hg : trG t = true) (f g : Nat) : sumC (seg (ndsT t) f g) = scr (attL t f g) ∧ sumP (seg (ndsT t) f g) = spt (attL t f g) := by
  have e : seg (ndsT t) f g = ((t.ln.drop f).take (g - f)).map (ndL t.salt) := by
    unfold seg ndsT
    rw [← List.map_take, ← List.map_drop, List.drop_take]
  obtain ⟨_, h2, _⟩ := trG_parts hg
  have ha := chkE_all _ _ h2
  rw [e]
  exact sums_att _ _ (fun x hx => ha x (List.mem_of_mem_drop (List.mem_of_mem_take hx)))
theorem att_ok {t : Tr} (hg : trG t = true) (f g : Nat) : ∀ x ∈ attL t f g, AtOk x := by
  obtain ⟨_, h2, _⟩ := trG_parts hg
  have ha := chkE_all _ _ h2
  intro y hy
  unfold attL at hy
  obtain ⟨x, hx, rfl⟩ := List.mem_map.1 hy
  have hk : lOk x.c0 x.c1 x.c2 x.c3 x.c4 := of_decide_eq_true (ha x (List.mem_of_mem_drop (List.mem_of_mem_take hx)))
  unfold lOk at hk
  exact ⟨by show 0 ≤ x.c0 ∧ x.c0 ≤ 4095; omega, by show 0 ≤ x.c1 ∧ x.c1 ≤ 1023; omega, by show 0 ≤ x.c2 ∧ x.c2 ≤ 12; omega, by show 0 ≤ x.c4 ∧ x.c4 ≤ 6; omega, by show 0 ≤ x.c3 ∧ x.c3 ≤ 60; omega⟩
theorem mnR_ok {c p : Int} (h1 : 0 ≤ c) (h2 : c ≤ 1000000) (h3 : 0 ≤ p) (h4 : p ≤ 1000000) : (mnR (c, p, 0)).2.2 = 0 := by
  unfold mnR
  rw [if_neg (by simp)]
  dsimp only
  split
  · rfl
  · unfold ratR
    have e1 : p.toNat / Nat.gcd c.toNat p.toNat ≤ p.toNat := Nat.div_le_self _ _
    have e2 : c.toNat / Nat.gcd c.toNat p.toNat ≤ c.toNat := Nat.div_le_self _ _
    rw [if_pos ⟨by omega, by omega⟩]
end Go.Proofs.YtmfmgeapecapiaaDoor
