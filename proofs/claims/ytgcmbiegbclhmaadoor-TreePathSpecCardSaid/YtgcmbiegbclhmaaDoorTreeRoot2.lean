/- sizar/tree.Root. -/
import Derived.Test.YtgcmbiegbclhmaaDoorTreeRoot
namespace Go.Proofs.YtgcmbiegbclhmaaDoor
open Go.RowKit SzSha SzTree
set_option linter.unusedVariables false
set_option maxRecDepth 100000
def emptyN : Nd := ⟨tagged sumT [], 0, 0⟩
theorem emptyN_ok : NdOk emptyN := ⟨tagged_length _ _, tagged_bytes _ _, by simp [emptyN], by simp [emptyN]⟩
/-- Root -/
def rootR (ls : List Nd) : Nd := if ls.length ≤ 4096 ∧ vL ls = true then (if ls = [] then emptyN else root ls) else zeroN
def rootE (ls : List Nd) : Int := if ls.length ≤ 4096 ∧ vL ls = true then 0 else 410
theorem rootR_ok {ls : List Nd} (h : ∀ x ∈ ls, NdOk x) : NdOk (rootR ls) := by
  unfold rootR
  split
  · rename_i hh
    split
    · exact emptyN_ok
    · rename_i h2
      exact root_ok _ ls (Nat.le_refl _) (List.length_pos_iff.2 h2) h hh.2
  · exact zeroN_ok
theorem rootR_yes {ls : List Nd} (h1 : ls.length ≤ 4096) (h2 : vL ls = true) (h3 : 1 ≤ ls.length) : rootR ls = root ls ∧ rootE ls = 0 := by
  have hh : ls.length ≤ 4096 ∧ vL ls = true := ⟨h1, h2⟩
  have h0 : ¬ ls = [] := fun e => by subst e; simp at h3
  unfold rootR rootE
  exact ⟨by rw [if_pos hh, if_neg h0], if_pos hh⟩
theorem rootR_no {ls : List Nd} (h : ¬ (ls.length ≤ 4096 ∧ vL ls = true)) : rootR ls = zeroN ∧ rootE ls = 410 := by
  unfold rootR rootE
  exact ⟨if_neg h, if_neg h⟩
theorem rootR_nil : rootR [] = emptyN ∧ rootE [] = 0 := by
  have hh : ([] : List Nd).length ≤ 4096 ∧ vL [] = true := ⟨by simp, rfl⟩
  unfold rootR rootE
  exact ⟨by rw [if_pos hh, if_pos rfl], if_pos hh⟩
set_option maxHeartbeats 4000000 in
theorem built_node1 (d : List Nat) (h : d.length = 32) : Tryd.prog.built 26 [(0, dgV d)] = some (ndC ⟨d, 0, 0⟩).toArray := by
  rcases d with _ | ⟨x0, d⟩
  · simp at h
  rcases d with _ | ⟨x1, d⟩
  · simp at h
  rcases d with _ | ⟨x2, d⟩
  · simp at h
  rcases d with _ | ⟨x3, d⟩
  · simp at h
  rcases d with _ | ⟨x4, d⟩
  · simp at h
  rcases d with _ | ⟨x5, d⟩
  · simp at h
  rcases d with _ | ⟨x6, d⟩
  · simp at h
  rcases d with _ | ⟨x7, d⟩
  · simp at h
  rcases d with _ | ⟨x8, d⟩
  · simp at h
  rcases d with _ | ⟨x9, d⟩
  · simp at h
  rcases d with _ | ⟨x10, d⟩
  · simp at h
  rcases d with _ | ⟨x11, d⟩
  · simp at h
  rcases d with _ | ⟨x12, d⟩
  · simp at h
  rcases d with _ | ⟨x13, d⟩
  · simp at h
  rcases d with _ | ⟨x14, d⟩
  · simp at h
  rcases d with _ | ⟨x15, d⟩
  · simp at h
  rcases d with _ | ⟨x16, d⟩
  · simp at h
  rcases d with _ | ⟨x17, d⟩
  · simp at h
  rcases d with _ | ⟨x18, d⟩
  · simp at h
  rcases d with _ | ⟨x19, d⟩
  · simp at h
  rcases d with _ | ⟨x20, d⟩
  · simp at h
  rcases d with _ | ⟨x21, d⟩
  · simp at h
  rcases d with _ | ⟨x22, d⟩
  · simp at h
  rcases d with _ | ⟨x23, d⟩
  · simp at h
  rcases d with _ | ⟨x24, d⟩
  · simp at h
  rcases d with _ | ⟨x25, d⟩
  · simp at h
  rcases d with _ | ⟨x26, d⟩
  · simp at h
  rcases d with _ | ⟨x27, d⟩
  · simp at h
  rcases d with _ | ⟨x28, d⟩
  · simp at h
  rcases d with _ | ⟨x29, d⟩
  · simp at h
  rcases d with _ | ⟨x30, d⟩
  · simp at h
  rcases d with _ | ⟨x31, d⟩
  · simp at h
  rcases d with _ | ⟨y, d⟩
  · clear h
    kernel_rfl
  · simp at h
theorem wpList_build_node1 {w : World} {ops : Array Oper} {rest : List Oper} {o : Oper} {a : Act} {Q : Exit → Act → World → Prop} (hg : o.guard = none) (x : Operand)
    (ho : o.op = .build 26 #[(0, x)]) (d : List Nat) (hd : d.length = 32) (hx : a.eval x = dgV d)
    (h : wpList Tryd.prog ops Q rest (a.put o.dst (ndV ⟨d, 0, 0⟩)) w) : wpList Tryd.prog ops Q (o :: rest) a w := by
  have e1 : (#[(0, x)].map fun (i, x) => (i, a.eval x)).toList = [(0, dgV d)] := by simp [hx]
  refine wpList_build hg 26 _ ho (by rw [e1, built_node1 d hd]; rfl) ?_
  rw [e1, built_node1 d hd]
  exact h
set_option maxHeartbeats 4000000 in
theorem root_any (ls : List Nd) (A : Option Addr) (n c : Nat) (w : World) (hn : n ≤ 9223372036854775807) (h : Hid (InN w A n c ls)) (hT : Hid (Tabs w)) :
    Calls Tryd.prog 12 #[.slice A n c] w fun e w' => e = .returned (.tuple #[ndV (rootR ls), .int .i64 (rootE ls)]) ∧ Below w.heap.size w w' := by
  have HNE := Lib.hid (show ls.length = n from h.out.len)
  have HB0 := Lib.hid ((Below.refl _ w).alloc (Nat.le_refl _) (.cells (ndC zeroN).toArray 26))
  have HR0 := Lib.hid (heap_alloc_new w (.cells (ndC zeroN).toArray 26))
  have HS0 : Hid ((w.alloc (.cells (ndC zeroN).toArray 26)).heap.size = w.heap.size + 1) := Lib.hid (by simp)
  have HSZ : Hid ((Tryd.prog.info? 26).map (·.size) = some (ndC zeroN).toArray.size) := Lib.hid (by rw [size34 zeroN_ok]; simp)
  have HZ2 : Hid ((ndC zeroN).toArray.size = (ndC zeroN).toArray.size) := Lib.hid rfl
  have HIN := Lib.hid (h.out.below HB0.out)
  have HT1 := Lib.hid (hT.out.below HB0.out)
  rw [zeroN_cells] at HR0 HS0 HB0 HIN HT1
  go_enter Tryd.func12, Tryd.ntmps12
  by_cases hbig : 4096 < n
  · have d1 : decide (4096 < (n : Int)) = true := decide_eq_true (by omega)
    have HE := Lib.hid (rootR_no (ls := ls) (fun hh => by have := HNE.out; omega))
    go_wp2_with (first | (refine wpList_load_row rfl 26 (.tmp 2) rfl w.heap.size rfl 26 _ (0, 0) _ HR0.out Tryd.underlying26 rfl HSZ.out ?_) | (refine wpList_store_row rfl 26 (.tmp 2) (.tmp 13) rfl w.heap.size (ndC zeroN).toArray rfl rfl 26 _ HR0.out HSZ.out rfl (ndC_one zeroN) ?_))
    rw [← zeroN_cells]
    rw [← zeroN_cells] at HR0 HB0
    have hr := setRow_heap (w.alloc (.cells (ndC zeroN).toArray 26)) w.heap.size _ (ndC zeroN).toArray _ _ HR0.out
    have hl := run_loadVar_row (P := Tryd.prog) ((w.alloc (.cells (ndC zeroN).toArray 26)).setRow w.heap.size (ndC zeroN).toArray) w.heap.size 26 26 (ndC zeroN).toArray (0, 0) _ hr Tryd.underlying26 rfl HSZ.out
    refine bodyPost_ret (v := .tuple #[ndV zeroN, .int .i64 410]) ?_ rfl ⟨by rw [HE.out.1, HE.out.2], below_setRow HB0.out (Nat.le_refl _) _⟩
    unfold ndV
    simp [results, Tryd.results12, asAddr, hl]
  · have d1 : decide (4096 < (n : Int)) = false := decide_eq_false (by omega)
    go_wp2_with fail
    refine (valid_any ls A n c _ (by omega) HIN).mono ?_
    rintro e W1 ⟨rfl, hq⟩
    have HB1 := Lib.hid (HB0.out.trans (hq.mono HB0.out.size))
    have HR1 := Lib.hid ((hq.block w.heap.size (by rw [HS0.out]; omega)).trans HR0.out)
    have HIN1 := Lib.hid (HIN.out.below hq)
    have HT2 := Lib.hid (HT1.out.below hq)
    clear HB0 HR0 HS0 HIN HT1 hq
    by_cases hv : vL ls = true
    · rw [hv]
      by_cases h0 : n = 0
      · have hl0 : ls = [] := List.eq_nil_of_length_eq_zero (by rw [HNE.out]; exact h0)
        subst hl0
        subst h0
        go_wp2_with fail
        refine (tagged_any sumTag none 0 0 [] W1 (by decide) (Lib.hid rfl) (Nat.le_refl _) (fun _ => rfl) (by omega) (Lib.hid (fun x hx => by cases hx)) HT2 (Lib.hid (fun h => by simp at h))).mono ?_
        rintro e W2 ⟨rfl, hq2⟩
        rw [sumTag_eq]
        have HB2 := Lib.hid (HB1.out.trans (hq2.mono HB1.out.size))
        have HR2 := Lib.hid ((hq2.block w.heap.size (Array.getElem?_eq_some_iff.1 HR1.out).1).trans HR1.out)
        have HE := Lib.hid rootR_nil
        have HS1 : Hid ((Tryd.prog.info? 26).map (·.size) = some (ndC emptyN).toArray.size) := Lib.hid (by rw [size34 emptyN_ok]; simp)
        have HS2 : Hid (34 = (ndC emptyN).toArray.size) := Lib.hid (by simp [ndC_length emptyN_ok])
        clear hq2
        go_wp2_with (first | (refine wpList_build_node1 rfl (.tmp 17) rfl (tagged sumT []) (tagged_length _ _) rfl ?_) | (refine wpList_store_row rfl 26 (.tmp 2) (.tmp 18) rfl w.heap.size (ndC emptyN).toArray rfl rfl 26 _ HR2.out HS1.out HS2.out (ndC_one _) ?_))
        have hr := setRow_heap W2 w.heap.size _ (ndC emptyN).toArray _ _ HR2.out
        have hl := run_loadVar_row (P := Tryd.prog) (W2.setRow w.heap.size (ndC emptyN).toArray) w.heap.size 26 26 (ndC emptyN).toArray (0, 0) _ hr Tryd.underlying26 rfl HS1.out
        refine bodyPost_ret (v := .tuple #[ndV emptyN, .int .i64 0]) ?_ rfl ⟨by rw [HE.out.1, HE.out.2], below_setRow HB2.out (Nat.le_refl _) _⟩
        unfold ndV
        simp [results, Tryd.results12, asAddr, hl]
      · have d2 : decide ((n : Int) = 0) = false := decide_eq_false (by omega)
        go_wp2_with fail
        have HE := Lib.hid (rootR_yes (ls := ls) (by rw [HNE.out]; omega) hv (by rw [HNE.out]; omega))
        have HROK : Hid (NdOk (root ls)) := Lib.hid (root_ok _ ls (Nat.le_refl _) (by rw [HNE.out]; omega) h.out.ok hv)
        have HS1 : Hid ((Tryd.prog.info? 26).map (·.size) = some (ndC (root ls)).toArray.size) := Lib.hid (by rw [size34 HROK.out]; simp)
        have HS2 : Hid (34 = (ndC (root ls)).toArray.size) := Lib.hid (by simp [ndC_length HROK.out])
        have HBF := Lib.hid ((Below.refl _ W1).alloc (Nat.le_refl _) (.cells #[.func (.func 31) #[] #[.pointer (some ⟨W1.heap.size, 0, none⟩)]] 59))
        refine (fold_any n ls A n c W1.heap.size _ (Nat.le_refl _) (by omega) (by omega) (Lib.hid (HIN1.out.below HBF.out)) (Lib.hid hv) (Lib.hid (by rw [cell_of_row _ _ _ _ _ _ (heap_alloc_new W1 _)]; rfl)) (Lib.hid (HT2.out.below HBF.out))).mono ?_
        rintro e W2 ⟨rfl, hq2⟩
        have hq3 := HBF.out.trans (hq2.mono HBF.out.size)
        have HB2 := Lib.hid (HB1.out.trans (hq3.mono HB1.out.size))
        have HR2 := Lib.hid ((hq3.block w.heap.size (Array.getElem?_eq_some_iff.1 HR1.out).1).trans HR1.out)
        clear hq2 hq3
        go_wp2_with (refine wpList_store_row rfl 26 (.tmp 2) (.tmp 22) rfl w.heap.size (ndC (root ls)).toArray rfl rfl 26 _ HR2.out HS1.out HS2.out (ndC_one _) ?_)
        have hr := setRow_heap W2 w.heap.size _ (ndC (root ls)).toArray _ _ HR2.out
        have hl := run_loadVar_row (P := Tryd.prog) (W2.setRow w.heap.size (ndC (root ls)).toArray) w.heap.size 26 26 (ndC (root ls)).toArray (0, 0) _ hr Tryd.underlying26 rfl HS1.out
        refine bodyPost_ret (v := .tuple #[ndV (root ls), .int .i64 0]) ?_ rfl ⟨by rw [HE.out.1, HE.out.2], below_setRow HB2.out (Nat.le_refl _) _⟩
        unfold ndV
        simp [results, Tryd.results12, asAddr, hl]
    · have hv2 : vL ls = false := by simpa using hv
      rw [hv2]
      have HE := Lib.hid (rootR_no (ls := ls) (fun hh => hv hh.2))
      go_wp2_with (first | (refine wpList_load_row rfl 26 (.tmp 2) rfl w.heap.size rfl 26 _ (0, 0) _ HR1.out Tryd.underlying26 rfl HSZ.out ?_) | (refine wpList_store_row rfl 26 (.tmp 2) (.tmp 13) rfl w.heap.size (ndC zeroN).toArray rfl rfl 26 _ HR1.out HSZ.out rfl (ndC_one zeroN) ?_))
      rw [← zeroN_cells] at HR1
      have hr := setRow_heap W1 w.heap.size _ (ndC zeroN).toArray _ _ HR1.out
      have hl := run_loadVar_row (P := Tryd.prog) (W1.setRow w.heap.size (ndC zeroN).toArray) w.heap.size 26 26 (ndC zeroN).toArray (0, 0) _ hr Tryd.underlying26 rfl HSZ.out
      refine bodyPost_ret (v := .tuple #[ndV zeroN, .int .i64 410]) ?_ rfl ⟨by rw [HE.out.1, HE.out.2], below_setRow HB1.out (Nat.le_refl _) _⟩
      unfold ndV
      simp [results, Tryd.results12, asAddr, hl]
end Go.Proofs.YtgcmbiegbclhmaaDoor
