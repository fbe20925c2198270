/- sizarlaw43.climb: a part that is cut. sizarlaw43.climb: in one law. -/
import Derived.Test.YtmfmgeapecapiaaDoorSB16
import Derived.Test.YtmfmgeapecapiaaDoorSB18
import Derived.Deep.CutRange
import Derived.Test.YtmfmgeapecapiaaDoorSB17
namespace Go.Proofs.YtmfmgeapecapiaaDoor
open Go.RowKit SzSha SzTree
set_option linter.unusedVariables false
set_option maxRecDepth 100000
abbrev ClimbM (f t lo up : Nat) : Prop := ∀ (at_ : Nat) (f2 t2 : Int) (A1 A2 : Option Addr) (n1 c1 n2 c2 : Nat) (P Q : List Nd) (w : World), Hid (InN w A1 n1 c1 P) → Hid (InN w A2 n2 c2 Q) → Hid (Tabs w) → at_ ≤ lo → up ≤ 4096 → n1 ≤ 100000 → n2 ≤ 100000 →
    Calls Tryd.prog 34 #[.agg #[.int .i64 (f : Nat), .int .i64 (t : Nat), .slice A1 n1 c1], .agg #[.int .i64 f2, .int .i64 t2, .slice A2 n2 c2], .int .i64 (lo : Nat), .int .i64 (up : Nat), .int .i64 (at_ : Nat)] w fun e w' => e = .returned (.tuple #[ndV (cl f t lo up (P.drop at_) (Q.drop at_)).1, ndV (cl f t lo up (P.drop at_) (Q.drop at_)).2.1, .int .i64 (cl f t lo up (P.drop at_) (Q.drop at_)).2.2.1, .bool (cl f t lo up (P.drop at_) (Q.drop at_)).2.2.2]) ∧ Below w.heap.size w w'
theorem nd_dig {w : World} {g ty : Nat} {x : Nd} (h : w.heap[g]? = some (.cells (ndC x).toArray ty (0, 0))) : w.rangeAt g 0 (x.d.map fun y => Value.int .u8 (y : Nat)) := fun j v hj => by
  have hj2 := (List.getElem?_eq_some_iff.1 hj).1
  rw [cell_of_row w g (0 + j) _ _ _ h, List.getElem?_toArray, Nat.zero_add]
  unfold ndC
  rw [List.getElem?_append_left hj2]; exact hj
theorem nd_dig_info {x : Nd} (h : NdOk x) : (Tryd.prog.info? 25).map (·.size) = some (x.d.map fun y => Value.int .u8 (y : Nat)).length := by
  rw [List.length_map, h.len]; show _ = some 32; kernel_rfl
def sCc (i k kn : Nat) (x y : Nd) (m1 m2 m3 : Bool) (b : Nat) : Nat → Value → World → Prop
  | 0, fv, _ => fv = ndV x
  | 1, fv, _ => fv = ndV y
  | 2, fv, _ => fv = Value.int .i64 ((i : Nat))
  | 3, fv, _ => fv = Value.int .i64 ((k : Nat))
  | 4, fv, _ => fv = Value.int .i64 ((kn : Nat))
  | 5, fv, _ => fv = Value.bool m1
  | 6, fv, _ => fv = Value.bool m1
  | 7, fv, _ => fv = (bif m1 then undef else Value.bool m2)
  | 8, fv, _ => fv = Value.bool (m1 || m2)
  | 9, fv, _ => fv = Value.bool (m1 || m2)
  | 10, fv, _ => fv = (bif (m1 || m2) then undef else Value.bool m3)
  | 11, fv, _ => fv = Value.bool ((m1 || m2) || m3)
  | 12, _, fw => fw.heap[b]? = some (.cells (ndC x).toArray 31 (0, 0))
  | 13, _, fw => fw.heap[b + 1]? = some (.cells (ndC y).toArray 31 (0, 0))
  | 14, fv, _ => fv = Value.int .i64 ((kn : Nat))
  | 15, fv, _ => fv = Value.bool ((m1 || m2) || m3)
  | _, _, _ => True
theorem sCc_set0 {i k kn : Nat} {x y : Nd} {m1 m2 m3 : Bool} {b : Nat} {w W : World} {z : Bool} {w' : World} {j : Nat} {v : Value} (hC : CL2 w W b z w') (h : sCc i k kn x y m1 m2 m3 b j v w') (hr : (w'.setRow b (ndC x).toArray).heap[b]? = some (.cells (ndC x).toArray 31 (0, 0))) : sCc i k kn x y m1 m2 m3 b j v (w'.setRow b (ndC x).toArray) :=
  match j, h with
  | 0, h => h
  | 1, h => h
  | 2, h => h
  | 3, h => h
  | 4, h => h
  | 5, h => h
  | 6, h => h
  | 7, h => h
  | 8, h => h
  | 9, h => h
  | 10, h => h
  | 11, h => h
  | 12, h => hr
  | 13, h => (setRow_other w' b (b + 1) _ (by omega)).trans h
  | 14, h => h
  | 15, h => h
  | j + 16, h => trivial
theorem sCc_set1 {i k kn : Nat} {x y : Nd} {m1 m2 m3 : Bool} {b : Nat} {w W : World} {z : Bool} {w' : World} {j : Nat} {v : Value} (hC : CL2 w W b z w') (h : sCc i k kn x y m1 m2 m3 b j v w') (hr : (w'.setRow (b + 1) (ndC y).toArray).heap[(b + 1)]? = some (.cells (ndC y).toArray 31 (0, 0))) : sCc i k kn x y m1 m2 m3 b j v (w'.setRow (b + 1) (ndC y).toArray) :=
  match j, h with
  | 0, h => h
  | 1, h => h
  | 2, h => h
  | 3, h => h
  | 4, h => h
  | 5, h => h
  | 6, h => h
  | 7, h => h
  | 8, h => h
  | 9, h => h
  | 10, h => h
  | 11, h => h
  | 12, h => (setRow_other w' (b + 1) b _ (by omega)).trans h
  | 13, h => hr
  | 14, h => h
  | 15, h => h
  | j + 16, h => trivial
set_option maxHeartbeats 16000000 in
theorem climb_c (f t lo up at_ : Nat) (f2 t2 : Int) (A1 A2 : Option Addr) (n1 c1 n2 c2 : Nat) (P Q : List Nd) (w : World) (hP : Hid (InN w A1 n1 c1 P)) (hQ : Hid (InN w A2 n2 c2 Q)) (hT : Hid (Tabs w)) (hft : f < t) (hlt : lo < up) (ha : at_ ≤ lo) (hh : up ≤ 4096) (hn1 : n1 ≤ 100000) (hn2 : n2 ≤ 100000) (h1 : at_ < n1) (h2 : at_ < n2) (kk : (insB f t lo up || outB f t lo up) = false) (i1 : ClimbM f t lo (lo + half (up - lo))) (i2 : ClimbM f t (lo + half (up - lo)) up) :
    Calls Tryd.prog 34 #[.agg #[.int .i64 (f : Nat), .int .i64 (t : Nat), .slice A1 n1 c1], .agg #[.int .i64 f2, .int .i64 t2, .slice A2 n2 c2], .int .i64 (lo : Nat), .int .i64 (up : Nat), .int .i64 (at_ : Nat)] w fun e w' => e = .returned (.tuple #[ndV (cl f t lo up (P.drop at_) (Q.drop at_)).1, ndV (cl f t lo up (P.drop at_) (Q.drop at_)).2.1, .int .i64 (cl f t lo up (P.drop at_) (Q.drop at_)).2.2.1, .bool (cl f t lo up (P.drop at_) (Q.drop at_)).2.2.2]) ∧ Below w.heap.size w w' := by
  have hcut2 := cut_two hlt hft kk
  have hhb := half_bd hcut2
  have hl1 : at_ < P.length := by rw [hP.out.len]; exact h1
  have hl2 : at_ < Q.length := by rw [hQ.out.len]; exact h2
  have hnn : ¬ (P.drop at_ = [] ∨ Q.drop at_ = []) := by
    rintro (e | e)
    · have := congrArg List.length e; rw [List.length_drop] at this; simp at this; omega
    · have := congrArg List.length e; rw [List.length_drop] at this; simp at this; omega
  have hr0 := cl_cut hlt hft kk hnn
  obtain ⟨dn, HDN⟩ : ∃ k, Hid (up - lo = k) := ⟨_, Lib.hid rfl⟩
  rw [HDN.out] at hr0 i1 i2 hhb
  obtain ⟨hf, HHF⟩ : ∃ k, Hid (half dn = k) := ⟨_, Lib.hid rfl⟩
  rw [HHF.out] at hr0 i1 i2 hhb
  obtain ⟨mn, HMN⟩ : ∃ k, Hid (lo + hf = k) := ⟨_, Lib.hid rfl⟩
  rw [HMN.out] at hr0 i1 i2
  have hdn := HDN.out
  have hmn := HMN.out
  obtain ⟨r1, HR1⟩ : ∃ r, Hid (cl f t lo mn (P.drop at_) (Q.drop at_) = r) := ⟨_, Lib.hid rfl⟩
  have hu1 := cl_used hft lo mn (by omega) (P.drop at_) (Q.drop at_)
  have ho1 := cl_ok hft lo mn (by omega) (P.drop at_) (Q.drop at_) (fun x hx => hP.out.ok x (List.mem_of_mem_drop hx)) (fun x hx => hQ.out.ok x (List.mem_of_mem_drop hx))
  rw [HR1.out] at hu1 ho1
  obtain ⟨a, b, i, m1⟩ := r1
  dsimp only at hu1 ho1
  obtain ⟨an, HAN⟩ : ∃ k, Hid (at_ + i = k) := ⟨_, Lib.hid rfl⟩
  have han := HAN.out
  obtain ⟨r2, HR2⟩ : ∃ r, Hid (cl f t mn up (P.drop an) (Q.drop an) = r) := ⟨_, Lib.hid rfl⟩
  have hu2 := cl_used hft mn up (by omega) (P.drop an) (Q.drop an)
  have ho2 := cl_ok hft mn up (by omega) (P.drop an) (Q.drop an) (fun x hx => hP.out.ok x (List.mem_of_mem_drop hx)) (fun x hx => hQ.out.ok x (List.mem_of_mem_drop hx))
  rw [HR2.out] at hu2 ho2
  obtain ⟨c, d, k, m2⟩ := r2
  dsimp only at hu2 ho2
  obtain ⟨kn, HKN⟩ : ∃ q, Hid (i + k = q) := ⟨_, Lib.hid rfl⟩
  have hkn := HKN.out
  obtain ⟨x, HX1⟩ : ∃ q, Hid (joinR a c = q) := ⟨_, Lib.hid rfl⟩
  obtain ⟨y, HY1⟩ : ∃ q, Hid (joinR b d = q) := ⟨_, Lib.hid rfl⟩
  obtain ⟨z1, HZ1⟩ : ∃ q, Hid (joinE a c = q) := ⟨_, Lib.hid rfl⟩
  obtain ⟨z2, HZ2⟩ : ∃ q, Hid (joinE b d = q) := ⟨_, Lib.hid rfl⟩
  obtain ⟨m3, HM3⟩ : ∃ q, Hid (hereN a b c d = q) := ⟨_, Lib.hid rfl⟩
  have HR : Hid (cl f t lo up (P.drop at_) (Q.drop at_) = (x, y, kn, (m1 || m2) || m3)) := Lib.hid (by
    rw [hr0]; unfold clJ; dsimp only; rw [HR1.out]; dsimp only
    rw [List.drop_drop, List.drop_drop, HAN.out, HR2.out]; dsimp only
    rw [HX1.out, HY1.out, HM3.out, HKN.out, Bool.or_assoc])
  have hxo : NdOk x := by rw [← HX1.out]; exact joinR_ok43 ho1.1 ho2.1
  have hyo : NdOk y := by rw [← HY1.out]; exact joinR_ok43 ho1.2 ho2.2
  have w1 : IntKind.i64.wrap ((up : Int) - (lo : Int)) = (dn : Int) := by rw [IntWalk.i64_in _ (by omega)]; omega
  have w2 : IntKind.i64.wrap ((lo : Int) + (hf : Int)) = (mn : Int) := by rw [IntWalk.i64_in _ (by omega)]; omega
  have w3 : IntKind.i64.wrap ((at_ : Int) + (i : Int)) = (an : Int) := by rw [IntWalk.i64_in _ (by omega)]; omega
  have w4 : IntKind.i64.wrap ((i : Int) + (k : Int)) = (kn : Int) := by rw [IntWalk.i64_in _ (by omega)]; omega
  have HML : Hid (mn ≤ 4096 ∧ an ≤ mn ∧ dn ≤ 1000000) := Lib.hid ⟨by omega, by omega, by omega⟩
  have HAO := Lib.hid ho1.1
  have HBO := Lib.hid ho1.2
  have HCO := Lib.hid ho2.1
  have HDO := Lib.hid ho2.2
  have HXO := Lib.hid hxo
  have HYO := Lib.hid hyo
  have HSA := Lib.hid (size34e HAO.out)
  have HZA : Hid ((zN34 : Array Value).size = (ndC a).toArray.size) := Lib.hid (by rw [show zN34 = (ndC zeroN).toArray from zeroN_cells.symm]; simp [ndC_length HAO.out, ndC_length zeroN_ok])
  have HSB := Lib.hid (size34e HBO.out)
  have HZB : Hid ((zN34 : Array Value).size = (ndC b).toArray.size) := Lib.hid (by rw [show zN34 = (ndC zeroN).toArray from zeroN_cells.symm]; simp [ndC_length HBO.out, ndC_length zeroN_ok])
  have HSC := Lib.hid (size34e HCO.out)
  have HZC : Hid ((zN34 : Array Value).size = (ndC c).toArray.size) := Lib.hid (by rw [show zN34 = (ndC zeroN).toArray from zeroN_cells.symm]; simp [ndC_length HCO.out, ndC_length zeroN_ok])
  have HSD := Lib.hid (size34e HDO.out)
  have HZD : Hid ((zN34 : Array Value).size = (ndC d).toArray.size) := Lib.hid (by rw [show zN34 = (ndC zeroN).toArray from zeroN_cells.symm]; simp [ndC_length HDO.out, ndC_length zeroN_ok])
  have HSXX := Lib.hid (size34e HXO.out)
  have HZX : Hid ((zN34 : Array Value).size = (ndC x).toArray.size) := Lib.hid (by rw [show zN34 = (ndC zeroN).toArray from zeroN_cells.symm]; simp [ndC_length HXO.out, ndC_length zeroN_ok])
  have HSY := Lib.hid (size34e HYO.out)
  have HZY : Hid ((zN34 : Array Value).size = (ndC y).toArray.size) := Lib.hid (by rw [show zN34 = (ndC zeroN).toArray from zeroN_cells.symm]; simp [ndC_length HYO.out, ndC_length zeroN_ok])
  have HHA : Hid ((ndC zeroN).toArray.size = (ndC a).toArray.size) := Lib.hid (by simp [ndC_length HAO.out, ndC_length zeroN_ok])
  have HHB : Hid ((ndC zeroN).toArray.size = (ndC b).toArray.size) := Lib.hid (by simp [ndC_length HBO.out, ndC_length zeroN_ok])
  have HDX := Lib.hid (nd_dig_info HXO.out)
  have HDY := Lib.hid (nd_dig_info HYO.out)
  have d1 : decide ((n1 : Int) ≤ (at_ : Int)) = false := decide_eq_false (by omega)
  have d1n : decide (n1 ≤ at_) = false := decide_eq_false (by omega)
  have d2 : decide ((n2 : Int) ≤ (at_ : Int)) = false := decide_eq_false (by omega)
  have d2n : decide (n2 ≤ at_) = false := decide_eq_false (by omega)
  have HCUT : Hid (¬ (f ≤ lo ∧ up ≤ t) ∧ ¬ up ≤ f ∧ ¬ t ≤ lo) := Lib.hid (by
    unfold insB outB at kk
    simp only [Bool.or_eq_false_iff, Bool.and_eq_false_iff, decide_eq_false_iff_not] at kk
    omega)
  clear hhb hcut2 hl1 hl2 hnn hr0 hu1 ho1 hu2 ho2 hxo hyo hdn hmn han hkn
  have b0 := (Below.refl _ w).alloc (Nat.le_refl _) (.cells #[.int .i64 (f : Nat), .int .i64 (t : Nat), .slice A1 n1 c1] 74)
  have b1 := (Below.refl _ (w.alloc (.cells #[.int .i64 (f : Nat), .int .i64 (t : Nat), .slice A1 n1 c1] 74))).alloc (Nat.le_refl _) (.cells #[.int .i64 f2, .int .i64 t2, .slice A2 n2 c2] 74)
  have b2 := (Below.refl _ ((w.alloc (.cells #[.int .i64 (f : Nat), .int .i64 (t : Nat), .slice A1 n1 c1] 74)).alloc (.cells #[.int .i64 f2, .int .i64 t2, .slice A2 n2 c2] 74))).alloc (Nat.le_refl _) (.cells zN34 31)
  have b3 := (Below.refl _ (((w.alloc (.cells #[.int .i64 (f : Nat), .int .i64 (t : Nat), .slice A1 n1 c1] 74)).alloc (.cells #[.int .i64 f2, .int .i64 t2, .slice A2 n2 c2] 74)).alloc (.cells zN34 31))).alloc (Nat.le_refl _) (.cells zN34 31)
  have r0 := row_kept (row_kept (row_kept (heap_alloc_new w (.cells #[.int .i64 (f : Nat), .int .i64 (t : Nat), .slice A1 n1 c1] 74)) b1) b2) b3
  have r1 := row_kept (row_kept (heap_alloc_new (w.alloc (.cells #[.int .i64 (f : Nat), .int .i64 (t : Nat), .slice A1 n1 c1] 74)) (.cells #[.int .i64 f2, .int .i64 t2, .slice A2 n2 c2] 74)) b2) b3
  have r2 := row_kept (heap_alloc_new ((w.alloc (.cells #[.int .i64 (f : Nat), .int .i64 (t : Nat), .slice A1 n1 c1] 74)).alloc (.cells #[.int .i64 f2, .int .i64 t2, .slice A2 n2 c2] 74)) (.cells zN34 31)) b3
  have r3 := heap_alloc_new (((w.alloc (.cells #[.int .i64 (f : Nat), .int .i64 (t : Nat), .slice A1 n1 c1] 74)).alloc (.cells #[.int .i64 f2, .int .i64 t2, .slice A2 n2 c2] 74)).alloc (.cells zN34 31)) (.cells zN34 31)
  have hb := ((b0.trans (b1.mono b0.size)).trans (b2.mono (Nat.le_trans b0.size b1.size))).trans (b3.mono (Nat.le_trans (Nat.le_trans b0.size b1.size) b2.size))
  rw [World.size_alloc] at r1 r2 r3
  rw [World.size_alloc] at r2 r3
  rw [World.size_alloc] at r3
  obtain ⟨X, HX⟩ : ∃ V, Hid (((((w.alloc (.cells #[.int .i64 (f : Nat), .int .i64 (t : Nat), .slice A1 n1 c1] 74)).alloc (.cells #[.int .i64 f2, .int .i64 t2, .slice A2 n2 c2] 74)).alloc (.cells zN34 31)).alloc (.cells zN34 31)) = V) := ⟨_, Lib.hid rfl⟩
  have hs : ((((w.alloc (.cells #[.int .i64 (f : Nat), .int .i64 (t : Nat), .slice A1 n1 c1] 74)).alloc (.cells #[.int .i64 f2, .int .i64 t2, .slice A2 n2 c2] 74)).alloc (.cells zN34 31)).alloc (.cells zN34 31)).heap.size = w.heap.size + 4 := by simp
  rw [HX.out] at r0 r1 r2 r3 hb hs
  have HB0 := Lib.hid hb
  have RP0 := Lib.hid r0
  have RQ0 := Lib.hid r1
  have RA0 : Hid (X.heap[(w.heap.size + 1 + 1)]? = some (.cells (ndC zeroN).toArray 31 (0, 0))) := Lib.hid (by rw [zeroN_cells]; exact r2)
  have RB0 : Hid (X.heap[(w.heap.size + 1 + 1 + 1)]? = some (.cells (ndC zeroN).toArray 31 (0, 0))) := Lib.hid (by rw [zeroN_cells]; exact r3)
  have HSX := Lib.hid hs
  clear b0 b1 b2 b3 r0 r1 r2 r3 hb hs
  have HZS := Lib.hid (size34e zeroN_ok)
  have KS0 : Hid (w.heap.size + 4 ≤ X.heap.size) := Lib.hid (by rw [HSX.out]; exact Nat.le_refl _)
  have p0 := cell_of_row _ _ 0 _ _ _ RP0.out
  have p1 := cell_of_row _ _ 1 _ _ _ RP0.out
  have p2 := cell_of_row _ _ 2 _ _ _ RP0.out
  have q0 := cell_of_row _ _ 0 _ _ _ RQ0.out
  have q1 := cell_of_row _ _ 1 _ _ _ RQ0.out
  have q2 := cell_of_row _ _ 2 _ _ _ RQ0.out
  go_enter Tryd.func34, Tryd.ntmps34
  go_upto_region 3 with (rw [HX.out])
  go_cut [61] from 44 to 61 (fun c wx => c = .bool false ∧ X = wx)
  case first =>
    have e1 : decide ((up : Int) ≤ (f : Int)) = false := decide_eq_false (by have := HCUT.out; omega)
    have e1n : decide (up ≤ f) = false := decide_eq_false HCUT.out.2.1
    have e2 : decide ((t : Int) ≤ (lo : Int)) = false := decide_eq_false (by have := HCUT.out; omega)
    have e2n : decide (t ≤ lo) = false := decide_eq_false HCUT.out.2.2
    by_cases kf : f ≤ lo
    · have e3 : decide ((f : Int) ≤ (lo : Int)) = true := decide_eq_true (by omega)
      have e3n : decide (f ≤ lo) = true := decide_eq_true kf
      have e4 : decide ((up : Int) ≤ (t : Int)) = false := decide_eq_false (by have := HCUT.out; omega)
      have e4n : decide (up ≤ t) = false := decide_eq_false (by have := HCUT.out; omega)
      go_wp2_with fail
      go_meet
      exact ⟨rfl, rfl⟩
    · have e3 : decide ((f : Int) ≤ (lo : Int)) = false := decide_eq_false (by omega)
      have e3n : decide (f ≤ lo) = false := decide_eq_false kf
      go_wp2_with fail
      go_meet
      exact ⟨rfl, rfl⟩
  case rest =>
    obtain ⟨hc1, hc2⟩ := hcut
    subst hc1
    subst hc2
    go_wp2_with fail
    refine (half43_any dn _ HML.out.2.2).mono ?_
    rintro e w2 ⟨rfl, rfl⟩
    rw [HHF.out]
    go_wp2_with fail
    refine (i1 at_ f2 t2 A1 A2 n1 c1 n2 c2 P Q _ (Lib.hid (hP.out.below HB0.out)) (Lib.hid (hQ.out.below HB0.out)) (Lib.hid (hT.out.below HB0.out)) ha HML.out.1 hn1 hn2).mono ?_
    rintro e U1 ⟨rfl, hq⟩
    rw [HR1.out]
    clear p0 p1 p2
    clear q0 q1 q2
    dsimp only
    have HB2 := Lib.hid (HB0.out.trans (hq.mono HB0.out.size))
    have RP2 := Lib.hid (row_kept RP0.out hq)
    have RQ2 := Lib.hid (row_kept RQ0.out hq)
    have RA2 := Lib.hid (row_kept RA0.out hq)
    have RB2 := Lib.hid (row_kept RB0.out hq)
    have KS2 := Lib.hid (Nat.le_trans KS0.out hq.size)
    clear hq HB0 RP0 RQ0 RA0 RB0 KS0
    obtain ⟨V3, HV3⟩ : ∃ V, Hid (U1.setRow (w.heap.size + 1 + 1) (ndC a).toArray = V) := ⟨_, Lib.hid rfl⟩
    have hbz := below_setRow HB2.out (g := (w.heap.size + 1 + 1)) (by omega) (ndC a).toArray
    have hs0 : (U1.setRow (w.heap.size + 1 + 1) (ndC a).toArray).heap.size = U1.heap.size := setRow_size _ _ _
    rw [HV3.out] at hbz hs0
    have RP3 := Lib.hid ((setRow_other U1 (w.heap.size + 1 + 1) w.heap.size (ndC a).toArray (by omega)).trans RP2.out)
    rw [HV3.out] at RP3
    have RQ3 := Lib.hid ((setRow_other U1 (w.heap.size + 1 + 1) (w.heap.size + 1) (ndC a).toArray (by omega)).trans RQ2.out)
    rw [HV3.out] at RQ3
    have RA3 := Lib.hid (setRow_heap U1 (w.heap.size + 1 + 1) _ (ndC a).toArray _ _ RA2.out)
    rw [HV3.out] at RA3
    have RB3 := Lib.hid ((setRow_other U1 (w.heap.size + 1 + 1) (w.heap.size + 1 + 1 + 1) (ndC a).toArray (by omega)).trans RB2.out)
    rw [HV3.out] at RB3
    have KS3 := Lib.hid (Nat.le_trans KS2.out (Nat.le_of_eq hs0.symm))
    have OLD3 := RA2
    have HB3 := Lib.hid hbz
    clear hbz hs0 HB2 RP2 RQ2 RA2 RB2
    obtain ⟨V4, HV4⟩ : ∃ V, Hid (V3.setRow (w.heap.size + 1 + 1 + 1) (ndC b).toArray = V) := ⟨_, Lib.hid rfl⟩
    have hbz := below_setRow HB3.out (g := (w.heap.size + 1 + 1 + 1)) (by omega) (ndC b).toArray
    have hs0 : (V3.setRow (w.heap.size + 1 + 1 + 1) (ndC b).toArray).heap.size = V3.heap.size := setRow_size _ _ _
    rw [HV4.out] at hbz hs0
    have RP4 := Lib.hid ((setRow_other V3 (w.heap.size + 1 + 1 + 1) w.heap.size (ndC b).toArray (by omega)).trans RP3.out)
    rw [HV4.out] at RP4
    have RQ4 := Lib.hid ((setRow_other V3 (w.heap.size + 1 + 1 + 1) (w.heap.size + 1) (ndC b).toArray (by omega)).trans RQ3.out)
    rw [HV4.out] at RQ4
    have RA4 := Lib.hid ((setRow_other V3 (w.heap.size + 1 + 1 + 1) (w.heap.size + 1 + 1) (ndC b).toArray (by omega)).trans RA3.out)
    rw [HV4.out] at RA4
    have RB4 := Lib.hid (setRow_heap V3 (w.heap.size + 1 + 1 + 1) _ (ndC b).toArray _ _ RB3.out)
    rw [HV4.out] at RB4
    have KS4 := Lib.hid (Nat.le_trans KS3.out (Nat.le_of_eq hs0.symm))
    have OLD4 := RB3
    have HB4 := Lib.hid hbz
    clear hbz hs0 HB3 RP3 RQ3 RA3 RB3
    have p0 := cell_of_row _ _ 0 _ _ _ RP4.out
    have p1 := cell_of_row _ _ 1 _ _ _ RP4.out
    have p2 := cell_of_row _ _ 2 _ _ _ RP4.out
    have q0 := cell_of_row _ _ 0 _ _ _ RQ4.out
    have q1 := cell_of_row _ _ 1 _ _ _ RQ4.out
    have q2 := cell_of_row _ _ 2 _ _ _ RQ4.out
    go_wp2_with (first | (refine wpList_store_row rfl 31 (.tmp 10) (.tmp 85) rfl (w.heap.size + 1 + 1) (ndC a).toArray rfl rfl 31 _ OLD3.out HSA.out HHA.out (ndC_one _) ?_; rw [HV3.out]) | (refine wpList_store_row rfl 31 (.tmp 11) (.tmp 86) rfl (w.heap.size + 1 + 1 + 1) (ndC b).toArray rfl rfl 31 _ OLD4.out HSB.out HHB.out (ndC_one _) ?_; rw [HV4.out]))
    refine (i2 an f2 t2 A1 A2 n1 c1 n2 c2 P Q _ (Lib.hid (hP.out.below HB4.out)) (Lib.hid (hQ.out.below HB4.out)) (Lib.hid (hT.out.below HB4.out)) HML.out.2.1 hh hn1 hn2).mono ?_
    rintro e U5 ⟨rfl, hq⟩
    rw [HR2.out]
    clear p0 p1 p2
    clear q0 q1 q2
    dsimp only
    have HB6 := Lib.hid (HB4.out.trans (hq.mono HB4.out.size))
    have RP6 := Lib.hid (row_kept RP4.out hq)
    have RQ6 := Lib.hid (row_kept RQ4.out hq)
    have RA6 := Lib.hid (row_kept RA4.out hq)
    have RB6 := Lib.hid (row_kept RB4.out hq)
    have KS6 := Lib.hid (Nat.le_trans KS4.out hq.size)
    clear hq HB4 RP4 RQ4 RA4 RB4 KS4
    clear OLD3 OLD4
    have HBC := KS6
    have ra0 := (Below.heap_alloc (U5.alloc (.cells zN34 31)) (.cells zN34 31) U5.heap.size (by simp)).trans (heap_alloc_new U5 (.cells zN34 31))
    have rb0 := heap_alloc_new (U5.alloc (.cells zN34 31)) (.cells zN34 31)
    rw [World.size_alloc] at rb0
    have hb0 := ((Below.refl _ U5).alloc (Nat.le_refl _) (.cells zN34 31)).alloc (by simp) (.cells zN34 31)
    obtain ⟨X7a, HX7a⟩ : ∃ V, Hid (((U5.alloc (.cells zN34 31)).alloc (.cells zN34 31)) = V) := ⟨_, Lib.hid rfl⟩
    rw [HX7a.out] at ra0 rb0 hb0
    have ra := Lib.hid ra0
    have rb1 := (setRow_other X7a U5.heap.size (U5.heap.size + 1) (ndC c).toArray (by omega)).trans rb0
    have ra1 := setRow_heap X7a U5.heap.size _ (ndC c).toArray _ _ ra0
    have hb1 := below_setRow hb0 (Nat.le_refl _) (ndC c).toArray
    obtain ⟨X7b, HX7b⟩ : ∃ V, Hid (X7a.setRow U5.heap.size (ndC c).toArray = V) := ⟨_, Lib.hid rfl⟩
    rw [HX7b.out] at ra1 rb1 hb1
    have rb := Lib.hid rb1
    have ra2 := (setRow_other X7b (U5.heap.size + 1) U5.heap.size (ndC d).toArray (by omega)).trans ra1
    have rb2 := setRow_heap X7b (U5.heap.size + 1) _ (ndC d).toArray _ _ rb1
    have hb := below_setRow hb1 (g := (U5.heap.size + 1)) (by omega) (ndC d).toArray
    obtain ⟨V7, HV7⟩ : ∃ V, Hid (X7b.setRow (U5.heap.size + 1) (ndC d).toArray = V) := ⟨_, Lib.hid rfl⟩
    rw [HV7.out] at ra2 rb2 hb
    clear ra0 rb0 hb0 ra1 rb1 hb1
    have HB8 := Lib.hid (HB6.out.trans (hb.mono HB6.out.size))
    have RP8 := Lib.hid (row_kept RP6.out hb)
    have RQ8 := Lib.hid (row_kept RQ6.out hb)
    have RA8 := Lib.hid (row_kept RA6.out hb)
    have RB8 := Lib.hid (row_kept RB6.out hb)
    have KS8 := Lib.hid (Nat.le_trans KS6.out hb.size)
    have RC7 := Lib.hid ra2
    have RD7 := Lib.hid rb2
    clear ra2 rb2 hb HB6 RP6 RQ6 RA6 RB6 KS6
    go_wp2_with (first | (rw [HX7a.out]) | (refine wpList_store_row rfl 31 (.tmp 17) (.tmp 98) rfl U5.heap.size (ndC c).toArray rfl rfl 31 _ ra.out HSC.out HZC.out (ndC_one _) ?_; rw [HX7b.out]) | (refine wpList_store_row rfl 31 (.tmp 18) (.tmp 99) rfl (U5.heap.size + 1) (ndC d).toArray rfl rfl 31 _ rb.out HSD.out HZD.out (ndC_one _) ?_; rw [HV7.out]) | (refine wpList_load_row rfl 31 (.tmp 10) rfl ((w.heap.size + 1 + 1)) rfl 31 _ (0, 0) _ RA8.out Tryd.underlying31 rfl HSA.out ?_) | (refine wpList_load_row rfl 31 (.tmp 17) rfl (U5.heap.size) rfl 31 _ (0, 0) _ RC7.out Tryd.underlying31 rfl HSC.out ?_))
    rw [show Value.agg (ndC a).toArray = ndV a from rfl, show Value.agg (ndC c).toArray = ndV c from rfl]
    refine (join_any a c _ HAO.out HCO.out (Lib.hid (hT.out.below HB8.out))).mono ?_
    rintro e U9 ⟨rfl, hq⟩
    rw [HX1.out, HZ1.out]
    have HB10 := Lib.hid (HB8.out.trans (hq.mono HB8.out.size))
    have RP10 := Lib.hid (row_kept RP8.out hq)
    have RQ10 := Lib.hid (row_kept RQ8.out hq)
    have RA10 := Lib.hid (row_kept RA8.out hq)
    have RB10 := Lib.hid (row_kept RB8.out hq)
    have RC10 := Lib.hid (row_kept RC7.out hq)
    have RD10 := Lib.hid (row_kept RD7.out hq)
    have KS10 := Lib.hid (Nat.le_trans KS8.out hq.size)
    clear hq HB8 RP8 RQ8 RA8 RB8 RC7 RD7 KS8
    have HBX := KS10
    obtain ⟨V11, HV11⟩ : ∃ W, Hid ((U9.alloc (.cells zN34 31)).setRow U9.heap.size (ndC x).toArray = W) := ⟨_, Lib.hid rfl⟩
    have hw := setRow_heap (U9.alloc (.cells zN34 31)) U9.heap.size _ (ndC x).toArray _ _ (heap_alloc_new U9 _)
    have hb := below_setRow ((Below.refl _ U9).alloc (Nat.le_refl _) (.cells zN34 31)) (Nat.le_refl _) (ndC x).toArray
    rw [HV11.out] at hw hb
    have HB12 := Lib.hid (HB10.out.trans (hb.mono HB10.out.size))
    have RP12 := Lib.hid (row_kept RP10.out hb)
    have RQ12 := Lib.hid (row_kept RQ10.out hb)
    have RA12 := Lib.hid (row_kept RA10.out hb)
    have RB12 := Lib.hid (row_kept RB10.out hb)
    have RC12 := Lib.hid (row_kept RC10.out hb)
    have RD12 := Lib.hid (row_kept RD10.out hb)
    have KS12 := Lib.hid (Nat.le_trans KS10.out hb.size)
    have RX11 := Lib.hid hw
    clear hw hb HB10 RP10 RQ10 RA10 RB10 RC10 RD10 KS10
    go_wp2_with (first | (refine wpList_store_row rfl 31 (.tmp 21) (.tmp 106) rfl U9.heap.size (ndC x).toArray rfl rfl 31 _ (heap_alloc_new U9 _) HSXX.out HZX.out (ndC_one _) ?_; rw [HV11.out]) | (refine wpList_load_row rfl 31 (.tmp 11) rfl ((w.heap.size + 1 + 1 + 1)) rfl 31 _ (0, 0) _ RB12.out Tryd.underlying31 rfl HSB.out ?_) | (refine wpList_load_row rfl 31 (.tmp 18) rfl ((U5.heap.size + 1)) rfl 31 _ (0, 0) _ RD12.out Tryd.underlying31 rfl HSD.out ?_))
    rw [show Value.agg (ndC b).toArray = ndV b from rfl, show Value.agg (ndC d).toArray = ndV d from rfl]
    refine (join_any b d _ HBO.out HDO.out (Lib.hid (hT.out.below HB12.out))).mono ?_
    rintro e U13 ⟨rfl, hq⟩
    rw [HY1.out, HZ2.out]
    have HB14 := Lib.hid (HB12.out.trans (hq.mono HB12.out.size))
    have RP14 := Lib.hid (row_kept RP12.out hq)
    have RQ14 := Lib.hid (row_kept RQ12.out hq)
    have RA14 := Lib.hid (row_kept RA12.out hq)
    have RB14 := Lib.hid (row_kept RB12.out hq)
    have RC14 := Lib.hid (row_kept RC12.out hq)
    have RD14 := Lib.hid (row_kept RD12.out hq)
    have RX14 := Lib.hid (row_kept RX11.out hq)
    have KS14 := Lib.hid (Nat.le_trans KS12.out hq.size)
    clear hq HB12 RP12 RQ12 RA12 RB12 RC12 RD12 RX11 KS12
    have HBY := KS14
    obtain ⟨V15, HV15⟩ : ∃ W, Hid ((U13.alloc (.cells zN34 31)).setRow U13.heap.size (ndC y).toArray = W) := ⟨_, Lib.hid rfl⟩
    have hw := setRow_heap (U13.alloc (.cells zN34 31)) U13.heap.size _ (ndC y).toArray _ _ (heap_alloc_new U13 _)
    have hb := below_setRow ((Below.refl _ U13).alloc (Nat.le_refl _) (.cells zN34 31)) (Nat.le_refl _) (ndC y).toArray
    rw [HV15.out] at hw hb
    have HB16 := Lib.hid (HB14.out.trans (hb.mono HB14.out.size))
    have RP16 := Lib.hid (row_kept RP14.out hb)
    have RQ16 := Lib.hid (row_kept RQ14.out hb)
    have RA16 := Lib.hid (row_kept RA14.out hb)
    have RB16 := Lib.hid (row_kept RB14.out hb)
    have RC16 := Lib.hid (row_kept RC14.out hb)
    have RD16 := Lib.hid (row_kept RD14.out hb)
    have RX16 := Lib.hid (row_kept RX14.out hb)
    have KS16 := Lib.hid (Nat.le_trans KS14.out hb.size)
    have RY15 := Lib.hid hw
    clear hw hb HB14 RP14 RQ14 RA14 RB14 RC14 RD14 RX14 KS14
    go_upto_region 10 with (refine wpList_store_row rfl 31 (.tmp 23) (.tmp 112) rfl U13.heap.size (ndC y).toArray rfl rfl 31 _ (heap_alloc_new U13 _) HSY.out HZY.out (ndC_one _) ?_; rw [HV15.out])
    go_cut [25] from 114 to 136 (fun c wx => c = .bool m3 ∧ V15 = wx)
    case first =>
      have HRX := Lib.hid (nd_dig RX16.out)
      have HRY := Lib.hid (nd_dig RY15.out)
      have h3a : hereN a b c d = m3 := HM3.out
      unfold hereN at h3a
      rw [HX1.out, HY1.out] at h3a
      have hz1 : z1 = if vL [a, c] then 0 else 410 := HZ1.out.symm
      have hz2 : z2 = if vL [b, d] then 0 else 410 := HZ2.out.symm
      have L : ∀ v : Bool, v = m3 → Value.bool v = Value.bool m3 := fun v h => by rw [h]
      have cz := HZ1
      have cz2 := HZ2
      clear cz cz2
      cases e1 : vL [a, c] with
      | false =>
        obtain rfl : z1 = 410 := by rw [hz1, e1]; rfl
        clear hz1 hz2
        rw [e1] at h3a
        go_wp2_with fail
        go_meet
        exact ⟨L _ (by simpa using h3a), rfl⟩
      | true =>
        obtain rfl : z1 = 0 := by rw [hz1, e1]; rfl
        clear hz1
        cases e2 : vL [b, d] with
        | false =>
          obtain rfl : z2 = 410 := by rw [hz2, e2]; rfl
          clear hz2
          rw [e1, e2] at h3a
          go_wp2_with fail
          go_meet
          exact ⟨L _ (by simpa using h3a), rfl⟩
        | true =>
          obtain rfl : z2 = 0 := by rw [hz2, e2]; rfl
          clear hz2
          cases e3 : (x.d == y.d) with
          | false =>
            rw [e1, e2, e3] at h3a
            go_wp2_with (first | (with_reducible refine wpList_here ?_; refine wpList_load_mid_g 25 (.tmp 121) rfl rfl (U9.heap.size) 0 rfl (x.d.map fun y => Value.int .u8 (y : Nat)) _ HRX.out Tryd.underlying25 rfl HDX.out ?_) | (with_reducible refine wpList_here ?_; refine wpList_load_mid_g 25 (.tmp 123) rfl rfl (U13.heap.size) 0 rfl (y.d.map fun y => Value.int .u8 (y : Nat)) _ HRY.out Tryd.underlying25 rfl HDY.out ?_) | (with_reducible refine wpList_here ?_; refine wpList_eql_dg_g (.tmp 122) (.tmp 124) _ rfl rfl x.d y.d rfl rfl HXO.out.len HYO.out.len HXO.out.bytes HYO.out.bytes ?_; rw [e3]))
            go_meet
            exact ⟨L _ (by simpa using h3a), rfl⟩
          | true =>
            cases e4 : (!(ndEq a b)) with
            | true =>
              rw [e1, e2, e3, show ndNe a b = true from e4] at h3a
              go_wp2_with (first | (with_reducible refine wpList_here ?_; refine wpList_load_mid_g 25 (.tmp 121) rfl rfl (U9.heap.size) 0 rfl (x.d.map fun y => Value.int .u8 (y : Nat)) _ HRX.out Tryd.underlying25 rfl HDX.out ?_) | (with_reducible refine wpList_here ?_; refine wpList_load_mid_g 25 (.tmp 123) rfl rfl (U13.heap.size) 0 rfl (y.d.map fun y => Value.int .u8 (y : Nat)) _ HRY.out Tryd.underlying25 rfl HDY.out ?_) | (with_reducible refine wpList_here ?_; refine wpList_eql_dg_g (.tmp 122) (.tmp 124) _ rfl rfl x.d y.d rfl rfl HXO.out.len HYO.out.len HXO.out.bytes HYO.out.bytes ?_; rw [e3]) | (with_reducible refine wpList_here ?_; refine wpList_load_row_g 31 (.tmp 10) rfl rfl ((w.heap.size + 1 + 1)) rfl 31 _ (0, 0) _ RA16.out Tryd.underlying31 rfl HSA.out ?_) | (with_reducible refine wpList_here ?_; refine wpList_load_row_g 31 (.tmp 11) rfl rfl ((w.heap.size + 1 + 1 + 1)) rfl 31 _ (0, 0) _ RB16.out Tryd.underlying31 rfl HSB.out ?_) | (with_reducible refine wpList_here ?_; refine wpList_load_row_g 31 (.tmp 17) rfl rfl (U5.heap.size) rfl 31 _ (0, 0) _ RC16.out Tryd.underlying31 rfl HSC.out ?_) | (with_reducible refine wpList_here ?_; refine wpList_load_row_g 31 (.tmp 18) rfl rfl ((U5.heap.size + 1)) rfl 31 _ (0, 0) _ RD16.out Tryd.underlying31 rfl HSD.out ?_) | (with_reducible refine wpList_here ?_; refine wpList_neq_nd_g (.tmp 128) (.tmp 129) _ rfl rfl a b rfl rfl HAO.out HBO.out ?_; rw [e4]))
              go_meet
              exact ⟨L _ (by simpa using h3a), rfl⟩
            | false =>
              cases e5 : (!(ndEq c d)) with
              | true =>
                rw [e1, e2, e3, show ndNe a b = false from e4, show ndNe c d = true from e5] at h3a
                go_wp2_with (first | (with_reducible refine wpList_here ?_; refine wpList_load_mid_g 25 (.tmp 121) rfl rfl (U9.heap.size) 0 rfl (x.d.map fun y => Value.int .u8 (y : Nat)) _ HRX.out Tryd.underlying25 rfl HDX.out ?_) | (with_reducible refine wpList_here ?_; refine wpList_load_mid_g 25 (.tmp 123) rfl rfl (U13.heap.size) 0 rfl (y.d.map fun y => Value.int .u8 (y : Nat)) _ HRY.out Tryd.underlying25 rfl HDY.out ?_) | (with_reducible refine wpList_here ?_; refine wpList_eql_dg_g (.tmp 122) (.tmp 124) _ rfl rfl x.d y.d rfl rfl HXO.out.len HYO.out.len HXO.out.bytes HYO.out.bytes ?_; rw [e3]) | (with_reducible refine wpList_here ?_; refine wpList_load_row_g 31 (.tmp 10) rfl rfl ((w.heap.size + 1 + 1)) rfl 31 _ (0, 0) _ RA16.out Tryd.underlying31 rfl HSA.out ?_) | (with_reducible refine wpList_here ?_; refine wpList_load_row_g 31 (.tmp 11) rfl rfl ((w.heap.size + 1 + 1 + 1)) rfl 31 _ (0, 0) _ RB16.out Tryd.underlying31 rfl HSB.out ?_) | (with_reducible refine wpList_here ?_; refine wpList_load_row_g 31 (.tmp 17) rfl rfl (U5.heap.size) rfl 31 _ (0, 0) _ RC16.out Tryd.underlying31 rfl HSC.out ?_) | (with_reducible refine wpList_here ?_; refine wpList_load_row_g 31 (.tmp 18) rfl rfl ((U5.heap.size + 1)) rfl 31 _ (0, 0) _ RD16.out Tryd.underlying31 rfl HSD.out ?_) | (with_reducible refine wpList_here ?_; refine wpList_neq_nd_g (.tmp 128) (.tmp 129) _ rfl rfl a b rfl rfl HAO.out HBO.out ?_; rw [e4]) | (with_reducible refine wpList_here ?_; refine wpList_neq_nd_g (.tmp 132) (.tmp 133) _ rfl rfl c d rfl rfl HCO.out HDO.out ?_; rw [e5]))
                go_meet
                exact ⟨L _ (by simpa using h3a), rfl⟩
              | false =>
                rw [e1, e2, e3, show ndNe a b = false from e4, show ndNe c d = false from e5] at h3a
                go_wp2_with (first | (with_reducible refine wpList_here ?_; refine wpList_load_mid_g 25 (.tmp 121) rfl rfl (U9.heap.size) 0 rfl (x.d.map fun y => Value.int .u8 (y : Nat)) _ HRX.out Tryd.underlying25 rfl HDX.out ?_) | (with_reducible refine wpList_here ?_; refine wpList_load_mid_g 25 (.tmp 123) rfl rfl (U13.heap.size) 0 rfl (y.d.map fun y => Value.int .u8 (y : Nat)) _ HRY.out Tryd.underlying25 rfl HDY.out ?_) | (with_reducible refine wpList_here ?_; refine wpList_eql_dg_g (.tmp 122) (.tmp 124) _ rfl rfl x.d y.d rfl rfl HXO.out.len HYO.out.len HXO.out.bytes HYO.out.bytes ?_; rw [e3]) | (with_reducible refine wpList_here ?_; refine wpList_load_row_g 31 (.tmp 10) rfl rfl ((w.heap.size + 1 + 1)) rfl 31 _ (0, 0) _ RA16.out Tryd.underlying31 rfl HSA.out ?_) | (with_reducible refine wpList_here ?_; refine wpList_load_row_g 31 (.tmp 11) rfl rfl ((w.heap.size + 1 + 1 + 1)) rfl 31 _ (0, 0) _ RB16.out Tryd.underlying31 rfl HSB.out ?_) | (with_reducible refine wpList_here ?_; refine wpList_load_row_g 31 (.tmp 17) rfl rfl (U5.heap.size) rfl 31 _ (0, 0) _ RC16.out Tryd.underlying31 rfl HSC.out ?_) | (with_reducible refine wpList_here ?_; refine wpList_load_row_g 31 (.tmp 18) rfl rfl ((U5.heap.size + 1)) rfl 31 _ (0, 0) _ RD16.out Tryd.underlying31 rfl HSD.out ?_) | (with_reducible refine wpList_here ?_; refine wpList_neq_nd_g (.tmp 128) (.tmp 129) _ rfl rfl a b rfl rfl HAO.out HBO.out ?_; rw [e4]) | (with_reducible refine wpList_here ?_; refine wpList_neq_nd_g (.tmp 132) (.tmp 133) _ rfl rfl c d rfl rfl HCO.out HDO.out ?_; rw [e5]))
                go_meet
                exact ⟨L _ (by simpa using h3a), rfl⟩
    case rest =>
      obtain ⟨hc1, hc2⟩ := hcut
      subst hc1
      subst hc2
      go_wp2_with fail
      have hC0 : CL2 w V15 (w.heap.size + 1 + 1) false V15 := ⟨HB16.out, Nat.le_refl _, fun _ _ _ _ => rfl, ⟨_, RA16.out, by simp [ndC_length HAO.out], (fun h => by cases h)⟩, ⟨_, RB16.out, by simp [ndC_length HBO.out], (fun h => by cases h)⟩⟩
      have HC0 := Lib.hid hC0.drew
      clear hC0
      refine region_flow3 (by kernel_rfl) (by kernel_rfl) (fun i => Nat.beq i 12 || Nat.beq i 13 || Nat.beq i 14 || Nat.beq i 15) (fun i => i) (by kernel_rfl) (fun fx => #[Value.agg #[Value.int IntKind.i64 ↑f, Value.int IntKind.i64 ↑t, Value.slice A1 n1 c1], Value.agg #[Value.int IntKind.i64 f2, Value.int IntKind.i64 t2, Value.slice A2 n2 c2], Value.int IntKind.i64 ↑lo, Value.int IntKind.i64 ↑up, Value.int IntKind.i64 ↑at_, Value.pointer (some { block := w.heap.size, off := 0 }), Value.pointer (some { block := w.heap.size + 1, off := 0 }), undef, undef, undef, Value.pointer (some { block := w.heap.size + 1 + 1, off := 0 }), Value.pointer (some { block := w.heap.size + 1 + 1 + 1, off := 0 }), fx 14, fx 15, Value.int IntKind.i64 ↑mn, Value.int IntKind.i64 ↑i, Value.bool m1, Value.pointer (some { block := U5.heap.size, off := 0 }), Value.pointer (some { block := U5.heap.size + 1, off := 0 }), Value.int IntKind.i64 ↑k, Value.bool m2, Value.pointer (some { block := U9.heap.size, off := 0 }), Value.int IntKind.i64 z1, Value.pointer (some { block := U13.heap.size, off := 0 }), Value.int IntKind.i64 z2, Value.bool m3, Value.int IntKind.i64 ↑at_, Value.pointer (some { block := w.heap.size, off := 2 }), Value.slice A1 n1 c1, Value.int IntKind.i64 ↑n1, Value.bool false, Value.bool false, Value.int IntKind.i64 ↑at_, Value.pointer (some { block := w.heap.size + 1, off := 2 }), Value.slice A2 n2 c2, Value.int IntKind.i64 ↑n2, Value.bool false, Value.bool false, undef, undef, u40, u41, u42, u43, u44, u45, u46, u47, u48, u49, u50, u51, u52, u53, u54, u55, u56, u57, u58, u59, u60, Value.bool false, undef, undef, undef, undef, undef, undef, undef, undef, undef, undef, Value.int IntKind.i64 ↑lo, Value.int IntKind.i64 ↑up, Value.int IntKind.i64 ↑lo, Value.int IntKind.i64 ↑dn, Value.int IntKind.i64 ↑hf, Value.int IntKind.i64 ↑mn, Value.tuple #[ndV a, ndV b, Value.int IntKind.i64 ↑i, Value.bool m1], Value.agg #[Value.int IntKind.i64 ↑f, Value.int IntKind.i64 ↑t, Value.slice A1 n1 c1], Value.agg #[Value.int IntKind.i64 f2, Value.int IntKind.i64 t2, Value.slice A2 n2 c2], Value.int IntKind.i64 ↑lo, Value.int IntKind.i64 ↑mn, Value.int IntKind.i64 ↑at_, Value.tuple #[ndV a, ndV b, Value.int IntKind.i64 ↑i, Value.bool m1], ndV a, ndV b, Value.int IntKind.i64 ↑i, Value.bool m1, Value.tuple #[ndV c, ndV d, Value.int IntKind.i64 ↑k, Value.bool m2], Value.agg #[Value.int IntKind.i64 ↑f, Value.int IntKind.i64 ↑t, Value.slice A1 n1 c1], Value.agg #[Value.int IntKind.i64 f2, Value.int IntKind.i64 t2, Value.slice A2 n2 c2], Value.int IntKind.i64 ↑mn, Value.int IntKind.i64 ↑up, Value.int IntKind.i64 ↑at_, Value.int IntKind.i64 ↑i, Value.int IntKind.i64 ↑an, Value.tuple #[ndV c, ndV d, Value.int IntKind.i64 ↑k, Value.bool m2], ndV c, ndV d, Value.int IntKind.i64 ↑k, Value.bool m2, Value.tuple #[ndV x, Value.int IntKind.i64 z1], ndV a, ndV c, Value.tuple #[ndV x, Value.int IntKind.i64 z1], ndV x, Value.int IntKind.i64 z1, Value.tuple #[ndV y, Value.int IntKind.i64 z2], ndV b, ndV d, Value.tuple #[ndV y, Value.int IntKind.i64 z2], ndV y, Value.int IntKind.i64 z2, u114, u115, u116, u117, u118, u119, u120, u121, u122, u123, u124, u125, u126, u127, u128, u129, u130, u131, u132, u133, u134, u135, u136, fx 0, fx 1, fx 2, fx 3, fx 4, fx 5, fx 6, fx 7, fx 8, fx 9, fx 10, fx 11]) (fun i => bif Nat.beq i 14 then Value.int IntKind.i64 0 else bif Nat.beq i 15 then Value.bool false else undef) (fun _ _ w' => CL2 w V15 (w.heap.size + 1 + 1) false w') (fun fi fv _ fw => sCc i k kn x y m1 m2 m3 (w.heap.size + 1 + 1) fi fv fw) HC0.out ?_ ?_
      · refine ⟨?_, ?_, ?_, ?_, ?_, ?_, ?_, ?_, ?_, ?_, ?_, ?_, ?_, ?_, ?_, ?_, trivial⟩
        all_goals intro L fx w' hC hi hcl hdn hd
        · have hbx := HBX.out
          have hr := hC.row RX16.out (by omega) (by omega)
          refine wpList_load_row rfl 31 (.tmp 21) rfl (U9.heap.size) rfl 31 _ (0, 0) _ hr Tryd.underlying31 rfl HSXX.out ?_
          rw [show Value.agg (ndC x).toArray = ndV x from rfl]
          clear hd hr
          go_wp2_with fail
          exact ⟨_, rfl, hC, rfl, fun _ _ _ _ _ h => h⟩
        · have hbx := HBY.out
          have hr := hC.row RY15.out (by omega) (by omega)
          refine wpList_load_row rfl 31 (.tmp 23) rfl (U13.heap.size) rfl 31 _ (0, 0) _ hr Tryd.underlying31 rfl HSY.out ?_
          rw [show Value.agg (ndC y).toArray = ndV y from rfl]
          clear hd hr
          go_wp2_with fail
          exact ⟨_, rfl, hC, rfl, fun _ _ _ _ _ h => h⟩
        · clear hd
          go_wp2_with fail
          exact ⟨_, rfl, hC, rfl, fun _ _ _ _ _ h => h⟩
        · clear hd
          go_wp2_with fail
          exact ⟨_, rfl, hC, rfl, fun _ _ _ _ _ h => h⟩
        · have h2 : fx 2 = Value.int .i64 ((i : Nat)) := hd.1 rfl
          have h3 : fx 3 = Value.int .i64 ((k : Nat)) := hd.2.1 rfl
          clear hd
          go_wp2_with fail
          exact ⟨_, (by simp only [upd, h2, h3]; rfl), hC, rfl, fun _ _ _ _ _ h => h⟩
        · clear hd
          go_wp2_with fail
          exact ⟨_, rfl, hC, rfl, fun _ _ _ _ _ h => h⟩
        · have h5 : fx 5 = Value.bool m1 := hd.1 rfl
          clear hd
          go_wp2_with fail
          exact ⟨_, (by simp only [upd, h5]; rfl), hC, rfl, fun _ _ _ _ _ h => h⟩
        · have h6 : fx 6 = Value.bool m1 := hd.1 rfl
          clear hd
          cases m1
          · go_wp2_with fail
            exact ⟨_, (by simp only [upd, h6]; rfl), hC, rfl, fun _ _ _ _ _ h => h⟩
          · go_wp2_with fail
            exact ⟨_, (by simp only [upd, h6]; rfl), hC, rfl, fun _ _ _ _ _ h => h⟩
        · have h6 : fx 6 = Value.bool m1 := hd.1 rfl
          have h7 : fx 7 = (bif m1 then undef else Value.bool m2) := hd.2.1 rfl
          clear hd
          cases m1
          · go_wp2_with fail
            exact ⟨_, (by simp only [upd, h6, h7]; rfl), hC, rfl, fun _ _ _ _ _ h => h⟩
          · go_wp2_with fail
            exact ⟨_, (by simp only [upd, h6, h7]; rfl), hC, rfl, fun _ _ _ _ _ h => h⟩
        · have h8 : fx 8 = Value.bool (m1 || m2) := hd.1 rfl
          clear hd
          go_wp2_with fail
          exact ⟨_, (by simp only [upd, h8]; rfl), hC, rfl, fun _ _ _ _ _ h => h⟩
        · have h9 : fx 9 = Value.bool (m1 || m2) := hd.1 rfl
          clear hd
          cases m1 <;> cases m2
          · go_wp2_with fail
            exact ⟨_, (by simp only [upd, h9]; rfl), hC, rfl, fun _ _ _ _ _ h => h⟩
          · go_wp2_with fail
            exact ⟨_, (by simp only [upd, h9]; rfl), hC, rfl, fun _ _ _ _ _ h => h⟩
          · go_wp2_with fail
            exact ⟨_, (by simp only [upd, h9]; rfl), hC, rfl, fun _ _ _ _ _ h => h⟩
          · go_wp2_with fail
            exact ⟨_, (by simp only [upd, h9]; rfl), hC, rfl, fun _ _ _ _ _ h => h⟩
        · have h9 : fx 9 = Value.bool (m1 || m2) := hd.1 rfl
          have h10 : fx 10 = (bif (m1 || m2) then undef else Value.bool m3) := hd.2.1 rfl
          clear hd
          cases m1 <;> cases m2
          · go_wp2_with fail
            exact ⟨_, (by simp only [upd, h9, h10]; rfl), hC, rfl, fun _ _ _ _ _ h => h⟩
          · go_wp2_with fail
            exact ⟨_, (by simp only [upd, h9, h10]; rfl), hC, rfl, fun _ _ _ _ _ h => h⟩
          · go_wp2_with fail
            exact ⟨_, (by simp only [upd, h9, h10]; rfl), hC, rfl, fun _ _ _ _ _ h => h⟩
          · go_wp2_with fail
            exact ⟨_, (by simp only [upd, h9, h10]; rfl), hC, rfl, fun _ _ _ _ _ h => h⟩
        · have h0 : fx 0 = ndV x := hd.1 rfl
          obtain ⟨cz, hc, hsz, _⟩ := hC.z0
          refine wpList_store_row rfl 31 (.tmp 10) (.tmp 137) rfl (w.heap.size + 1 + 1) (ndC x).toArray rfl h0 31 _ hc (size34e HXO.out) (by rw [hsz]; simp [ndC_length HXO.out]) (ndC_one _) ?_
          clear hd
          go_wp2_with fail
          obtain ⟨hC2, hr2⟩ := hC.set0 HXO.out (Nat.le_add_right _ 2) (fun h => by cases h)
          refine ⟨undef, (by simp only [upd, h0]; rfl), hC2, hr2, fun j v t hj hu h => sCc_set0 hC h hr2⟩
        · have h1 : fx 1 = ndV y := hd.1 rfl
          obtain ⟨cz, hc, hsz, _⟩ := hC.z1
          refine wpList_store_row rfl 31 (.tmp 11) (.tmp 138) rfl (w.heap.size + 1 + 1 + 1) (ndC y).toArray rfl h1 31 _ hc (size34e HYO.out) (by rw [hsz]; simp [ndC_length HYO.out]) (ndC_one _) ?_
          clear hd
          go_wp2_with fail
          obtain ⟨hC2, hr2⟩ := hC.set1 HYO.out (Nat.le_add_right _ 2) (fun h => by cases h)
          refine ⟨undef, (by simp only [upd, h1]; rfl), hC2, hr2, fun j v t hj hu h => sCc_set1 hC h hr2⟩
        · have h4 : fx 4 = Value.int .i64 ((kn : Nat)) := hd.1 rfl
          clear hd
          go_wp2_with fail
          exact ⟨_, (by simp only [upd, h4]; rfl), hC, rfl, fun _ _ _ _ _ h => h⟩
        · have h11 : fx 11 = Value.bool ((m1 || m2) || m3) := hd.1 rfl
          clear hd
          go_wp2_with fail
          exact ⟨_, (by simp only [upd, h11]; rfl), hC, rfl, fun _ _ _ _ _ h => h⟩
      · intro L fo w' hC hS
        have H12 := Lib.hid (hS 12 (by decide) rfl)
        have H13 := Lib.hid (hS 13 (by decide) rfl)
        have H14 := Lib.hid (hS 14 (by decide) rfl)
        have H15 := Lib.hid (hS 15 (by decide) rfl)
        have h12 : w'.heap[(w.heap.size + 1 + 1)]? = some (.cells (ndC x).toArray 31 (0, 0)) := H12.out
        have h13 : w'.heap[(w.heap.size + 1 + 1 + 1)]? = some (.cells (ndC y).toArray 31 (0, 0)) := H13.out
        have h14 : fo 14 = .int .i64 (kn : Nat) := H14.out
        have h15 : fo 15 = .bool ((m1 || m2) || m3) := H15.out
        have hl0 := run_loadVar_row (P := Tryd.prog) w' (w.heap.size + 1 + 1) 31 31 (ndC x).toArray (0, 0) _ h12 Tryd.underlying31 rfl (size34e HXO.out)
        have hl1 := run_loadVar_row (P := Tryd.prog) w' (w.heap.size + 1 + 1 + 1) 31 31 (ndC y).toArray (0, 0) _ h13 Tryd.underlying31 rfl (size34e HYO.out)
        have hbel := hC.bel
        rw [h14, h15]
        clear hS hC
        go_wp2_with fail
        refine bodyPost_ret (v := .tuple #[.agg (ndC x).toArray, .agg (ndC y).toArray, .int .i64 (kn : Nat), .bool ((m1 || m2) || m3)]) ?_ rfl ⟨by rw [HR.out]; rfl, hbel⟩
        simp [results, Tryd.results34, asAddr, hl0, hl1]
end Go.Proofs.YtmfmgeapecapiaaDoor
namespace Go.Proofs.YtmfmgeapecapiaaDoor
open Go.RowKit SzSha SzTree
set_option linter.unusedVariables false
set_option maxRecDepth 100000
theorem climb_leaf {f t lo up : Nat} (hft : f < t) (hlt : lo < up) (kk : (insB f t lo up || outB f t lo up) = true) : ClimbM f t lo up := by
  intro at_ f2 t2 A1 A2 n1 c1 n2 c2 P Q w hP hQ hT ha hh hn1 hn2
  by_cases h1 : n1 ≤ at_
  · exact climb_a1 f t lo up at_ f2 t2 A1 A2 n1 c1 n2 c2 P Q w hP hQ hT hft hlt ha hh hn1 hn2 h1
  by_cases h2 : n2 ≤ at_
  · exact climb_a2 f t lo up at_ f2 t2 A1 A2 n1 c1 n2 c2 P Q w hP hQ hT hft hlt ha hh hn1 hn2 h1 h2
  have h1' : at_ < n1 := by omega
  have h2' : at_ < n2 := by omega
  unfold insB outB at kk
  simp only [Bool.or_eq_true, Bool.and_eq_true, decide_eq_true_eq] at kk
  by_cases k0 : f ≤ lo
  · by_cases k1 : up ≤ t
    · exact climb_b1 f t lo up at_ f2 t2 A1 A2 n1 c1 n2 c2 P Q w hP hQ hT hft hlt ha hh hn1 hn2 h1' h2' k0 k1
    · exact climb_b3 f t lo up at_ f2 t2 A1 A2 n1 c1 n2 c2 P Q w hP hQ hT hft hlt ha hh hn1 hn2 h1' h2' k0 k1 (by omega) (by omega)
  · exact climb_b4 f t lo up at_ f2 t2 A1 A2 n1 c1 n2 c2 P Q w hP hQ hT hft hlt ha hh hn1 hn2 h1' h2' k0 (by omega)
theorem climb_all {f t : Nat} (hft : f < t) (lo up : Nat) (hlt : lo < up) : ClimbM f t lo up := by
  refine parts_ind hft (M := ClimbM f t) (fun lo up hlt kk => climb_leaf hft hlt kk) ?_ (up - lo) lo up hlt (Nat.le_refl _)
  intro lo up hlt kk b1 b2 i1 i2 at_ f2 t2 A1 A2 n1 c1 n2 c2 P Q w hP hQ hT ha hh hn1 hn2
  by_cases h1 : n1 ≤ at_
  · exact climb_a1 f t lo up at_ f2 t2 A1 A2 n1 c1 n2 c2 P Q w hP hQ hT hft hlt ha hh hn1 hn2 h1
  by_cases h2 : n2 ≤ at_
  · exact climb_a2 f t lo up at_ f2 t2 A1 A2 n1 c1 n2 c2 P Q w hP hQ hT hft hlt ha hh hn1 hn2 h1 h2
  exact climb_c f t lo up at_ f2 t2 A1 A2 n1 c1 n2 c2 P Q w hP hQ hT hft hlt ha hh hn1 hn2 (by omega) (by omega) kk i1 i2
theorem climb_any (f t lo up at_ : Nat) (f2 t2 : Int) (A1 A2 : Option Addr) (n1 c1 n2 c2 : Nat) (P Q : List Nd) (w : World) (hP : Hid (InN w A1 n1 c1 P)) (hQ : Hid (InN w A2 n2 c2 Q)) (hT : Hid (Tabs w)) (hft : f < t) (hlt : lo < up) (ha : at_ ≤ lo) (hh : up ≤ 4096) (hn1 : n1 ≤ 100000) (hn2 : n2 ≤ 100000) :
    Calls Tryd.prog 34 #[.agg #[.int .i64 (f : Nat), .int .i64 (t : Nat), .slice A1 n1 c1], .agg #[.int .i64 f2, .int .i64 t2, .slice A2 n2 c2], .int .i64 (lo : Nat), .int .i64 (up : Nat), .int .i64 (at_ : Nat)] w fun e w' => e = .returned (.tuple #[ndV (cl f t lo up (P.drop at_) (Q.drop at_)).1, ndV (cl f t lo up (P.drop at_) (Q.drop at_)).2.1, .int .i64 (cl f t lo up (P.drop at_) (Q.drop at_)).2.2.1, .bool (cl f t lo up (P.drop at_) (Q.drop at_)).2.2.2]) ∧ Below w.heap.size w w' := climb_all hft lo up hlt at_ f2 t2 A1 A2 n1 c1 n2 c2 P Q w hP hQ hT ha hh hn1 hn2
end Go.Proofs.YtmfmgeapecapiaaDoor
