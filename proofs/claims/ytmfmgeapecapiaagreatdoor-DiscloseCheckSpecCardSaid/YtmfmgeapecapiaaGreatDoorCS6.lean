/- sizar/digest.Climb. Lines and claims: values, numbers, order. sizar/disclose: check of a list (lines). -/
import Derived.Test.YtmfmgeapecapiaaGreatDoorCS5
import Derived.Test.YtmfmgeapecapiaaGreatDoorCS4
set_option maxHeartbeats 16000001
namespace Go.Proofs.YtmfmgeapecapiaaGreatDoor
open Go.RowKit SzSha SzTree
set_option linter.unusedVariables false
set_option maxRecDepth 100000
theorem wpList_append_bool {w : World} {ops : Array Oper} {rest : List Oper} {o : Oper} {a : Act} {Q : Exit → Act → World → Prop} (hgd : o.guard = none) (s x : Operand)
  (ho : o.op = .call { callee := .builtin .append, args := #[s, x], argTypes := #[184, 184] })
  (base : Nat) (v : Value) (ls : List Bool) (b : Bool) (hs : a.eval s = v) (hown : Hid (OwnL w base v ls)) (g : Nat) (hx : a.eval x = .slice (some ⟨g, 0, none⟩) 1 1)
  (hr : Hid (w.heap[g]? = some (.cells #[.bool b] 4 (0, 0)))) (hlen : ls.length ≤ 100000) (hbase : base ≤ w.heap.size)
  (h : ∀ v' w', Hid (OwnL w' base v' (ls ++ [b])) → Hid (w.grownBy w' v.ownBlock) → wpList Tryz.prog ops Q rest (a.put o.dst v') w') : wpList Tryz.prog ops Q (o :: rest) a w := by
 obtain ⟨i0, hi, hz, hz1, hz2⟩ := info_bool
 refine wpList_append_own_at _ hgd s x _ ho base _ i0 _ 1 1 Tryz.underlying184 hi hz hz1 hz2 rfl (by omega) v _ _ hs hown.out ⟨g, 0, none⟩ 1 1 [.bool b] hx rfl (fun j u hu => by rw [add_row, Nat.zero_add, cell_of_row w g j _ _ _ hr.out]; simpa using hu) (fun u hu => by simp at hu; subst hu; rfl) (by unfold maxLen; omega) (by omega) hbase ?_
 intro v' w' h1 h2 h3 h4
 refine h v' w' (Lib.hid ?_) (Lib.hid h2)
 unfold OwnL bCs
 rw [List.map_append, List.length_append]; exact h1
theorem climbD_take {rs : List Bool} {ps : List Dg} (x : Dg) {j : Nat} (h1 : j < rs.length) (h2 : j < ps.length) : climbD (rs.take (j + 1)) (ps.take (j + 1)) x = stepD rs[j] ps[j] (climbD (rs.take j) (ps.take j) x) := by
 rw [List.take_succ_eq_append_getElem h1, List.take_succ_eq_append_getElem h2]
 exact climbD_snoc _ _ _ _ _ (by rw [List.length_take, List.length_take]; omega)
theorem climbD_dg {rs : List Bool} {ps : List Dg} {x : Dg} (h : DgOk x) : DgOk (climbD rs ps x) := ⟨(climbD_ok rs ps x h.len h.bytes).1, (climbD_ok rs ps x h.len h.bytes).2⟩
theorem row_keptM {w w' : World} {b M : Nat} {cs : Array Value} {t : TypeId} (h : w.heap[b]? = some (.cells cs t (0, 0))) (hb : Below M w w') (hM : b < M) : w'.heap[b]? = some (.cells cs t (0, 0)) := (hb.block b hM).trans h
/-- Climb: the digest and the error -/
def dArg (i n : Int) (l : Nat) : Prop := n < 1 ∨ 1099511627776 < n ∨ i < 0 ∨ n ≤ i ∨ l ≠ (dirsD i.toNat n.toNat).length
instance (i n : Int) (l : Nat) : Decidable (dArg i n l) := by unfold dArg; infer_instance
def dclR (d : Dg) (i n : Int) (ps : List Dg) : Dg := if dArg i n ps.length then zeroD else climbD (dirsD i.toNat n.toNat).reverse ps (leafD d)
def dclE (i n : Int) (l : Nat) : Int := if dArg i n l then 1 else 0
theorem dclR_ok (d : Dg) (i n : Int) (ps : List Dg) : DgOk (dclR d i n ps) := by
 unfold dclR; split
 ·exact zeroD_ok
 ·exact climbD_dg (leafD_ok d)
theorem dcl_arg {d : Dg} {i n : Int} {ps : List Dg} (h : dArg i n ps.length) : dclR d i n ps = zeroD ∧ dclE i n ps.length = 1 := by unfold dclR dclE; exact ⟨if_pos h, if_pos h⟩
theorem dcl_yes {d : Dg} {i n : Int} {ps : List Dg} (h : ¬ dArg i n ps.length) : dclR d i n ps = climbD (dirsD i.toNat n.toNat).reverse ps (leafD d) ∧ dclE i n ps.length = 0 := by unfold dclR dclE; exact ⟨if_neg h, if_neg h⟩
theorem half_two {n : Nat} (h : 2 ≤ n) (h2 : n ≤ 18446744073709551616) : n ≤ 2 * half n := by
 rw [half_log h h2]
 have := (Nat.log2_eq_iff (n := n - 1) (k := Nat.log2 (n - 1)) (by omega)).1 rfl
 rw [Nat.pow_succ] at this
 omega
theorem half_pow {n f : Nat} (h : 2 ≤ n) (h2 : n ≤ 2 ^ (f + 1)) (h3 : n ≤ 18446744073709551616) : half n ≤ 2 ^ f := by
 rw [half_log h h3]
 have h4 := (Nat.log2_eq_iff (n := n - 1) (k := Nat.log2 (n - 1)) (by omega)).1 rfl
 refine Nat.pow_le_pow_right (by omega) ?_
 have : 2 ^ Nat.log2 (n - 1) < 2 ^ (f + 1) := by omega
 have := (Nat.pow_lt_pow_iff_right (a := 2) (by omega)).1 this
 omega
theorem dirsD_small : ∀ (f i m : Nat), m ≤ 2 ^ f → m ≤ 18446744073709551616 → (dirsD i m).length ≤ f
 | 0, i, m, h, _ => by rw [dirsD_one i (by simpa using h)]; exact Nat.le_refl _
 | f + 1, i, m, h, h64 => by
  by_cases h1 : m ≤ 1
  ·rw [dirsD_one i h1]; simp
  ·have hb := half_bd (n := m) (by omega)
   have hp := half_pow (n := m) (f := f) (by omega) h h64
   have ht := half_two (n := m) (by omega) h64
   by_cases hi : i < half m
   ·rw [dirsD_left (by omega) hi, List.length_cons]
    have := dirsD_small f i (half m) hp (by omega)
    omega
   ·rw [dirsD_right (by omega) hi, List.length_cons]
    have := dirsD_small f (i - half m) (m - half m) (by omega) (by omega)
    omega
theorem dclimb_a0 (d : List Nat) (i m : Int) (ps : List Dg) (A : Option Addr) (n c : Nat) (w : World) (hd : Hid (DgOk d)) (hn : n ≤ 9223372036854775807) (h : Hid (InD w A n c ps)) (hT : Hid (Tabs w))  (g0 : m < 1) :
  Calls Tryz.prog 115 #[dgV d, .int .i64 i, .int .i64 m, .slice A n c] w fun e w' => e = .returned (.tuple #[dgV (dclR d i m ps), .int .i64 (dclE i m ps.length)]) ∧ Below w.heap.size w w' := by
 have HNE := Lib.hid (show ps.length = n from h.out.len)
 have hb0 := ((Below.refl _ w).alloc (Nat.le_refl _) (.cells (dgC d).toArray 25)).alloc (by simp) (.cells (dgC zeroD).toArray 25)
 have hr0 := (Below.heap_alloc (w.alloc (.cells (dgC d).toArray 25)) (.cells (dgC zeroD).toArray 25) w.heap.size (by simp)).trans (heap_alloc_new w (.cells (dgC d).toArray 25))
 have hr1 := heap_alloc_new (w.alloc (.cells (dgC d).toArray 25)) (.cells (dgC zeroD).toArray 25)
 have hsz : ((w.alloc (.cells (dgC d).toArray 25)).alloc (.cells (dgC zeroD).toArray 25)).heap.size = w.heap.size + 1 + 1 := by simp
 rw [World.size_alloc] at hr1
 rw [zeroD_cells] at hb0 hr0 hr1 hsz
 have HB0 := Lib.hid hb0
 have HR0 := Lib.hid hr0
 have HR1 := Lib.hid hr1
 have HSZ := Lib.hid hsz
 have HSD := Lib.hid (dgC_info hd.out)
 have HSZD := Lib.hid (dgC_info zeroD_ok)
 have HSZ2 := Lib.hid (dgC_size zeroD_ok)
 clear hb0 hr0 hr1 hsz
 rw [dgV_agg d]
 have HE := Lib.hid (dcl_arg (d := d) (i := i) (n := m) (ps := ps) (by unfold dArg; omega))
 have d0 : decide (m < 1) = true := decide_eq_true (by omega)
 clear h
 go_enter Tryz.func115, Tryz.ntmps115
 rw [← zeroD_cells] at HR1
 go_wp2_with (first | (refine wpList_load_row rfl 25 (.tmp 8) rfl (w.heap.size + 1) rfl 25 _ (0, 0) _ HR1.out Tryz.underlying25 rfl HSZD.out ?_) | (refine wpList_store_row rfl 25 (.tmp 8) (.tmp 29) rfl (w.heap.size + 1) (dgC zeroD).toArray ?ha ?hb 25 _ HR1.out HSZD.out HSZ2.out (dgC_one zeroD) ?_))
 all_goals first | rfl | skip
 have hr := setRow_heap ((w.alloc (.cells (dgC d).toArray 25)).alloc (.cells #[.int .u8 0, .int .u8 0, .int .u8 0, .int .u8 0, .int .u8 0, .int .u8 0, .int .u8 0, .int .u8 0, .int .u8 0, .int .u8 0, .int .u8 0, .int .u8 0, .int .u8 0, .int .u8 0, .int .u8 0, .int .u8 0, .int .u8 0, .int .u8 0, .int .u8 0, .int .u8 0, .int .u8 0, .int .u8 0, .int .u8 0, .int .u8 0, .int .u8 0, .int .u8 0, .int .u8 0, .int .u8 0, .int .u8 0, .int .u8 0, .int .u8 0, .int .u8 0] 25)) (w.heap.size + 1) _ (dgC zeroD).toArray _ _ HR1.out
 have hl := run_loadVar_row (P := Tryz.prog) (World.setRow ((w.alloc (.cells (dgC d).toArray 25)).alloc (.cells #[.int .u8 0, .int .u8 0, .int .u8 0, .int .u8 0, .int .u8 0, .int .u8 0, .int .u8 0, .int .u8 0, .int .u8 0, .int .u8 0, .int .u8 0, .int .u8 0, .int .u8 0, .int .u8 0, .int .u8 0, .int .u8 0, .int .u8 0, .int .u8 0, .int .u8 0, .int .u8 0, .int .u8 0, .int .u8 0, .int .u8 0, .int .u8 0, .int .u8 0, .int .u8 0, .int .u8 0, .int .u8 0, .int .u8 0, .int .u8 0, .int .u8 0, .int .u8 0] 25)) (w.heap.size + 1) (dgC zeroD).toArray) (w.heap.size + 1) 25 25 (dgC zeroD).toArray (0, 0) _ hr Tryz.underlying25 rfl HSZD.out
 refine bodyPost_ret (v := .tuple #[dgV zeroD, .int .i64 1]) ?_ rfl ⟨by rw [HE.out.1, HE.out.2], below_setRow HB0.out (Nat.le_succ _) _⟩
 rw [dgV_agg zeroD]
 simp [results, Tryz.results115, asAddr, hl]
theorem dclimb_a1 (d : List Nat) (i m : Int) (ps : List Dg) (A : Option Addr) (n c : Nat) (w : World) (hd : Hid (DgOk d)) (hn : n ≤ 9223372036854775807) (h : Hid (InD w A n c ps)) (hT : Hid (Tabs w)) (g0 : ¬ m < 1) (g1 : 1099511627776 < m) :
  Calls Tryz.prog 115 #[dgV d, .int .i64 i, .int .i64 m, .slice A n c] w fun e w' => e = .returned (.tuple #[dgV (dclR d i m ps), .int .i64 (dclE i m ps.length)]) ∧ Below w.heap.size w w' := by
 have HNE := Lib.hid (show ps.length = n from h.out.len)
 have hb0 := ((Below.refl _ w).alloc (Nat.le_refl _) (.cells (dgC d).toArray 25)).alloc (by simp) (.cells (dgC zeroD).toArray 25)
 have hr0 := (Below.heap_alloc (w.alloc (.cells (dgC d).toArray 25)) (.cells (dgC zeroD).toArray 25) w.heap.size (by simp)).trans (heap_alloc_new w (.cells (dgC d).toArray 25))
 have hr1 := heap_alloc_new (w.alloc (.cells (dgC d).toArray 25)) (.cells (dgC zeroD).toArray 25)
 have hsz : ((w.alloc (.cells (dgC d).toArray 25)).alloc (.cells (dgC zeroD).toArray 25)).heap.size = w.heap.size + 1 + 1 := by simp
 rw [World.size_alloc] at hr1
 rw [zeroD_cells] at hb0 hr0 hr1 hsz
 have HB0 := Lib.hid hb0
 have HR0 := Lib.hid hr0
 have HR1 := Lib.hid hr1
 have HSZ := Lib.hid hsz
 have HSD := Lib.hid (dgC_info hd.out)
 have HSZD := Lib.hid (dgC_info zeroD_ok)
 have HSZ2 := Lib.hid (dgC_size zeroD_ok)
 clear hb0 hr0 hr1 hsz
 rw [dgV_agg d]
 have HE := Lib.hid (dcl_arg (d := d) (i := i) (n := m) (ps := ps) (by unfold dArg; omega))
 have d0 : decide (m < 1) = false := decide_eq_false (by omega)
 have d1 : decide (1099511627776 < m) = true := decide_eq_true (by omega)
 clear h
 go_enter Tryz.func115, Tryz.ntmps115
 rw [← zeroD_cells] at HR1
 go_wp2_with (first | (refine wpList_load_row rfl 25 (.tmp 8) rfl (w.heap.size + 1) rfl 25 _ (0, 0) _ HR1.out Tryz.underlying25 rfl HSZD.out ?_) | (refine wpList_store_row rfl 25 (.tmp 8) (.tmp 29) rfl (w.heap.size + 1) (dgC zeroD).toArray ?ha ?hb 25 _ HR1.out HSZD.out HSZ2.out (dgC_one zeroD) ?_))
 all_goals first | rfl | skip
 have hr := setRow_heap ((w.alloc (.cells (dgC d).toArray 25)).alloc (.cells #[.int .u8 0, .int .u8 0, .int .u8 0, .int .u8 0, .int .u8 0, .int .u8 0, .int .u8 0, .int .u8 0, .int .u8 0, .int .u8 0, .int .u8 0, .int .u8 0, .int .u8 0, .int .u8 0, .int .u8 0, .int .u8 0, .int .u8 0, .int .u8 0, .int .u8 0, .int .u8 0, .int .u8 0, .int .u8 0, .int .u8 0, .int .u8 0, .int .u8 0, .int .u8 0, .int .u8 0, .int .u8 0, .int .u8 0, .int .u8 0, .int .u8 0, .int .u8 0] 25)) (w.heap.size + 1) _ (dgC zeroD).toArray _ _ HR1.out
 have hl := run_loadVar_row (P := Tryz.prog) (World.setRow ((w.alloc (.cells (dgC d).toArray 25)).alloc (.cells #[.int .u8 0, .int .u8 0, .int .u8 0, .int .u8 0, .int .u8 0, .int .u8 0, .int .u8 0, .int .u8 0, .int .u8 0, .int .u8 0, .int .u8 0, .int .u8 0, .int .u8 0, .int .u8 0, .int .u8 0, .int .u8 0, .int .u8 0, .int .u8 0, .int .u8 0, .int .u8 0, .int .u8 0, .int .u8 0, .int .u8 0, .int .u8 0, .int .u8 0, .int .u8 0, .int .u8 0, .int .u8 0, .int .u8 0, .int .u8 0, .int .u8 0, .int .u8 0] 25)) (w.heap.size + 1) (dgC zeroD).toArray) (w.heap.size + 1) 25 25 (dgC zeroD).toArray (0, 0) _ hr Tryz.underlying25 rfl HSZD.out
 refine bodyPost_ret (v := .tuple #[dgV zeroD, .int .i64 1]) ?_ rfl ⟨by rw [HE.out.1, HE.out.2], below_setRow HB0.out (Nat.le_succ _) _⟩
 rw [dgV_agg zeroD]
 simp [results, Tryz.results115, asAddr, hl]
theorem dclimb_a2 (d : List Nat) (i m : Int) (ps : List Dg) (A : Option Addr) (n c : Nat) (w : World) (hd : Hid (DgOk d)) (hn : n ≤ 9223372036854775807) (h : Hid (InD w A n c ps)) (hT : Hid (Tabs w)) (g0 : ¬ m < 1) (g1 : ¬ 1099511627776 < m) (g2 : i < 0) :
  Calls Tryz.prog 115 #[dgV d, .int .i64 i, .int .i64 m, .slice A n c] w fun e w' => e = .returned (.tuple #[dgV (dclR d i m ps), .int .i64 (dclE i m ps.length)]) ∧ Below w.heap.size w w' := by
 have HNE := Lib.hid (show ps.length = n from h.out.len)
 have hb0 := ((Below.refl _ w).alloc (Nat.le_refl _) (.cells (dgC d).toArray 25)).alloc (by simp) (.cells (dgC zeroD).toArray 25)
 have hr0 := (Below.heap_alloc (w.alloc (.cells (dgC d).toArray 25)) (.cells (dgC zeroD).toArray 25) w.heap.size (by simp)).trans (heap_alloc_new w (.cells (dgC d).toArray 25))
 have hr1 := heap_alloc_new (w.alloc (.cells (dgC d).toArray 25)) (.cells (dgC zeroD).toArray 25)
 have hsz : ((w.alloc (.cells (dgC d).toArray 25)).alloc (.cells (dgC zeroD).toArray 25)).heap.size = w.heap.size + 1 + 1 := by simp
 rw [World.size_alloc] at hr1
 rw [zeroD_cells] at hb0 hr0 hr1 hsz
 have HB0 := Lib.hid hb0
 have HR0 := Lib.hid hr0
 have HR1 := Lib.hid hr1
 have HSZ := Lib.hid hsz
 have HSD := Lib.hid (dgC_info hd.out)
 have HSZD := Lib.hid (dgC_info zeroD_ok)
 have HSZ2 := Lib.hid (dgC_size zeroD_ok)
 clear hb0 hr0 hr1 hsz
 rw [dgV_agg d]
 have HE := Lib.hid (dcl_arg (d := d) (i := i) (n := m) (ps := ps) (by unfold dArg; omega))
 have d0 : decide (m < 1) = false := decide_eq_false (by omega)
 have d1 : decide (1099511627776 < m) = false := decide_eq_false (by omega)
 have d2 : decide (i < 0) = true := decide_eq_true (by omega)
 clear h
 go_enter Tryz.func115, Tryz.ntmps115
 rw [← zeroD_cells] at HR1
 go_wp2_with (first | (refine wpList_load_row rfl 25 (.tmp 8) rfl (w.heap.size + 1) rfl 25 _ (0, 0) _ HR1.out Tryz.underlying25 rfl HSZD.out ?_) | (refine wpList_store_row rfl 25 (.tmp 8) (.tmp 29) rfl (w.heap.size + 1) (dgC zeroD).toArray ?ha ?hb 25 _ HR1.out HSZD.out HSZ2.out (dgC_one zeroD) ?_))
 all_goals first | rfl | skip
 have hr := setRow_heap ((w.alloc (.cells (dgC d).toArray 25)).alloc (.cells #[.int .u8 0, .int .u8 0, .int .u8 0, .int .u8 0, .int .u8 0, .int .u8 0, .int .u8 0, .int .u8 0, .int .u8 0, .int .u8 0, .int .u8 0, .int .u8 0, .int .u8 0, .int .u8 0, .int .u8 0, .int .u8 0, .int .u8 0, .int .u8 0, .int .u8 0, .int .u8 0, .int .u8 0, .int .u8 0, .int .u8 0, .int .u8 0, .int .u8 0, .int .u8 0, .int .u8 0, .int .u8 0, .int .u8 0, .int .u8 0, .int .u8 0, .int .u8 0] 25)) (w.heap.size + 1) _ (dgC zeroD).toArray _ _ HR1.out
 have hl := run_loadVar_row (P := Tryz.prog) (World.setRow ((w.alloc (.cells (dgC d).toArray 25)).alloc (.cells #[.int .u8 0, .int .u8 0, .int .u8 0, .int .u8 0, .int .u8 0, .int .u8 0, .int .u8 0, .int .u8 0, .int .u8 0, .int .u8 0, .int .u8 0, .int .u8 0, .int .u8 0, .int .u8 0, .int .u8 0, .int .u8 0, .int .u8 0, .int .u8 0, .int .u8 0, .int .u8 0, .int .u8 0, .int .u8 0, .int .u8 0, .int .u8 0, .int .u8 0, .int .u8 0, .int .u8 0, .int .u8 0, .int .u8 0, .int .u8 0, .int .u8 0, .int .u8 0] 25)) (w.heap.size + 1) (dgC zeroD).toArray) (w.heap.size + 1) 25 25 (dgC zeroD).toArray (0, 0) _ hr Tryz.underlying25 rfl HSZD.out
 refine bodyPost_ret (v := .tuple #[dgV zeroD, .int .i64 1]) ?_ rfl ⟨by rw [HE.out.1, HE.out.2], below_setRow HB0.out (Nat.le_succ _) _⟩
 rw [dgV_agg zeroD]
 simp [results, Tryz.results115, asAddr, hl]
theorem dclimb_a3 (d : List Nat) (i m : Int) (ps : List Dg) (A : Option Addr) (n c : Nat) (w : World) (hd : Hid (DgOk d)) (hn : n ≤ 9223372036854775807) (h : Hid (InD w A n c ps)) (hT : Hid (Tabs w)) (g0 : ¬ m < 1) (g1 : ¬ 1099511627776 < m) (g2 : ¬ i < 0) (g3 : m ≤ i) :
  Calls Tryz.prog 115 #[dgV d, .int .i64 i, .int .i64 m, .slice A n c] w fun e w' => e = .returned (.tuple #[dgV (dclR d i m ps), .int .i64 (dclE i m ps.length)]) ∧ Below w.heap.size w w' := by
 have HNE := Lib.hid (show ps.length = n from h.out.len)
 have hb0 := ((Below.refl _ w).alloc (Nat.le_refl _) (.cells (dgC d).toArray 25)).alloc (by simp) (.cells (dgC zeroD).toArray 25)
 have hr0 := (Below.heap_alloc (w.alloc (.cells (dgC d).toArray 25)) (.cells (dgC zeroD).toArray 25) w.heap.size (by simp)).trans (heap_alloc_new w (.cells (dgC d).toArray 25))
 have hr1 := heap_alloc_new (w.alloc (.cells (dgC d).toArray 25)) (.cells (dgC zeroD).toArray 25)
 have hsz : ((w.alloc (.cells (dgC d).toArray 25)).alloc (.cells (dgC zeroD).toArray 25)).heap.size = w.heap.size + 1 + 1 := by simp
 rw [World.size_alloc] at hr1
 rw [zeroD_cells] at hb0 hr0 hr1 hsz
 have HB0 := Lib.hid hb0
 have HR0 := Lib.hid hr0
 have HR1 := Lib.hid hr1
 have HSZ := Lib.hid hsz
 have HSD := Lib.hid (dgC_info hd.out)
 have HSZD := Lib.hid (dgC_info zeroD_ok)
 have HSZ2 := Lib.hid (dgC_size zeroD_ok)
 clear hb0 hr0 hr1 hsz
 rw [dgV_agg d]
 have HE := Lib.hid (dcl_arg (d := d) (i := i) (n := m) (ps := ps) (by unfold dArg; omega))
 have d0 : decide (m < 1) = false := decide_eq_false (by omega)
 have d1 : decide (1099511627776 < m) = false := decide_eq_false (by omega)
 have d2 : decide (i < 0) = false := decide_eq_false (by omega)
 have d3 : decide (m ≤ i) = true := decide_eq_true (by omega)
 clear h
 go_enter Tryz.func115, Tryz.ntmps115
 rw [← zeroD_cells] at HR1
 go_wp2_with (first | (refine wpList_load_row rfl 25 (.tmp 8) rfl (w.heap.size + 1) rfl 25 _ (0, 0) _ HR1.out Tryz.underlying25 rfl HSZD.out ?_) | (refine wpList_store_row rfl 25 (.tmp 8) (.tmp 29) rfl (w.heap.size + 1) (dgC zeroD).toArray ?ha ?hb 25 _ HR1.out HSZD.out HSZ2.out (dgC_one zeroD) ?_))
 all_goals first | rfl | skip
 have hr := setRow_heap ((w.alloc (.cells (dgC d).toArray 25)).alloc (.cells #[.int .u8 0, .int .u8 0, .int .u8 0, .int .u8 0, .int .u8 0, .int .u8 0, .int .u8 0, .int .u8 0, .int .u8 0, .int .u8 0, .int .u8 0, .int .u8 0, .int .u8 0, .int .u8 0, .int .u8 0, .int .u8 0, .int .u8 0, .int .u8 0, .int .u8 0, .int .u8 0, .int .u8 0, .int .u8 0, .int .u8 0, .int .u8 0, .int .u8 0, .int .u8 0, .int .u8 0, .int .u8 0, .int .u8 0, .int .u8 0, .int .u8 0, .int .u8 0] 25)) (w.heap.size + 1) _ (dgC zeroD).toArray _ _ HR1.out
 have hl := run_loadVar_row (P := Tryz.prog) (World.setRow ((w.alloc (.cells (dgC d).toArray 25)).alloc (.cells #[.int .u8 0, .int .u8 0, .int .u8 0, .int .u8 0, .int .u8 0, .int .u8 0, .int .u8 0, .int .u8 0, .int .u8 0, .int .u8 0, .int .u8 0, .int .u8 0, .int .u8 0, .int .u8 0, .int .u8 0, .int .u8 0, .int .u8 0, .int .u8 0, .int .u8 0, .int .u8 0, .int .u8 0, .int .u8 0, .int .u8 0, .int .u8 0, .int .u8 0, .int .u8 0, .int .u8 0, .int .u8 0, .int .u8 0, .int .u8 0, .int .u8 0, .int .u8 0] 25)) (w.heap.size + 1) (dgC zeroD).toArray) (w.heap.size + 1) 25 25 (dgC zeroD).toArray (0, 0) _ hr Tryz.underlying25 rfl HSZD.out
 refine bodyPost_ret (v := .tuple #[dgV zeroD, .int .i64 1]) ?_ rfl ⟨by rw [HE.out.1, HE.out.2], below_setRow HB0.out (Nat.le_succ _) _⟩
 rw [dgV_agg zeroD]
 simp [results, Tryz.results115, asAddr, hl]
theorem dclimb_in (d : List Nat) (i m : Int) (ps : List Dg) (A : Option Addr) (n c : Nat) (w : World) (hd : Hid (DgOk d)) (hn : n ≤ 9223372036854775807) (h : Hid (InD w A n c ps)) (hT : Hid (Tabs w)) (g : 1 ≤ m ∧ m ≤ 1099511627776 ∧ 0 ≤ i ∧ i < m) (hnn : n ≤ 100000) (hdl : (dirsD i.toNat m.toNat).length ≤ 99999) :
  Calls Tryz.prog 115 #[dgV d, .int .i64 i, .int .i64 m, .slice A n c] w fun e w' => e = .returned (.tuple #[dgV (dclR d i m ps), .int .i64 (dclE i m ps.length)]) ∧ Below w.heap.size w w' := by
 have HNE := Lib.hid (show ps.length = n from h.out.len)
 have hb0 := ((Below.refl _ w).alloc (Nat.le_refl _) (.cells (dgC d).toArray 25)).alloc (by simp) (.cells (dgC zeroD).toArray 25)
 have hr0 := (Below.heap_alloc (w.alloc (.cells (dgC d).toArray 25)) (.cells (dgC zeroD).toArray 25) w.heap.size (by simp)).trans (heap_alloc_new w (.cells (dgC d).toArray 25))
 have hr1 := heap_alloc_new (w.alloc (.cells (dgC d).toArray 25)) (.cells (dgC zeroD).toArray 25)
 have hsz : ((w.alloc (.cells (dgC d).toArray 25)).alloc (.cells (dgC zeroD).toArray 25)).heap.size = w.heap.size + 1 + 1 := by simp
 rw [World.size_alloc] at hr1
 rw [zeroD_cells] at hb0 hr0 hr1 hsz
 have HB0 := Lib.hid hb0
 have HR0 := Lib.hid hr0
 have HR1 := Lib.hid hr1
 have HSZ := Lib.hid hsz
 have HSD := Lib.hid (dgC_info hd.out)
 have HSZD := Lib.hid (dgC_info zeroD_ok)
 have HSZ2 := Lib.hid (dgC_size zeroD_ok)
 clear hb0 hr0 hr1 hsz
 rw [dgV_agg d]
 have d0 : decide (m < 1) = false := decide_eq_false (by omega)
 have d1 : decide (1099511627776 < m) = false := decide_eq_false (by omega)
 have d2 : decide (i < 0) = false := decide_eq_false (by omega)
 have d3 : decide (m ≤ i) = false := decide_eq_false (by omega)
 obtain ⟨iN, HIN⟩ : ∃ k : Nat, Hid (i = (k : Int)) := ⟨i.toNat, Lib.hid (by omega)⟩
 obtain ⟨mN, HMN⟩ : ∃ k : Nat, Hid (m = (k : Int)) := ⟨m.toNat, Lib.hid (by omega)⟩
 have hM : 1 ≤ mN ∧ mN ≤ 1099511627776 ∧ iN < mN := by have := HIN.out; have := HMN.out; omega
 have HDL : Hid ((dirsD iN mN).length ≤ 99999) := Lib.hid (by rw [HIN.out, HMN.out, Int.toNat_natCast, Int.toNat_natCast] at hdl; exact hdl)
 have HRS : Hid (dirsD i.toNat m.toNat = dirsD iN mN) := Lib.hid (by rw [HIN.out, HMN.out, Int.toNat_natCast, Int.toNat_natCast])
 clear hdl
 go_enter Tryz.func115, Tryz.ntmps115
 go_wp2_with fail
 generalize ((w.alloc (.cells (dgC d).toArray 25)).alloc (.cells #[.int .u8 0, .int .u8 0, .int .u8 0, .int .u8 0, .int .u8 0, .int .u8 0, .int .u8 0, .int .u8 0, .int .u8 0, .int .u8 0, .int .u8 0, .int .u8 0, .int .u8 0, .int .u8 0, .int .u8 0, .int .u8 0, .int .u8 0, .int .u8 0, .int .u8 0, .int .u8 0, .int .u8 0, .int .u8 0, .int .u8 0, .int .u8 0, .int .u8 0, .int .u8 0, .int .u8 0, .int .u8 0, .int .u8 0, .int .u8 0, .int .u8 0, .int .u8 0] 25)) = W1 at *
 go_loopw [1, 2, 10] (fun a b f wr => ∃ (i2 m2 : Nat) (L : List Bool), a = .int .i64 (i2 : Nat) ∧ b = .int .i64 (m2 : Nat) ∧ i2 < m2 ∧ m2 ≤ 1099511627776 ∧ Hid (OwnL wr (w.heap.size + 1 + 1) f L) ∧ Hid (dirsD iN mN = L ++ dirsD i2 m2) ∧ Hid (Below (w.heap.size + 1 + 1) W1 wr) ∧ ∃ A3 n3 c3, f = .slice A3 n3 c3) (fun _ b _ _ => (intOf b).toNat)
 case atStart => exact ⟨iN, mN, [], by rw [HIN.out], by rw [HMN.out], hM.2.2, hM.2.1, Lib.hid (OwnL.nil _ _), Lib.hid rfl, Lib.hid (Below.refl _ _), _, _, _, rfl⟩
 case round =>
  obtain ⟨i2, m2, L, rfl, rfl, hi2, hm2, HOW, HDQ, HB1, A3, n3, c3, rfl⟩ := hrel
  have HLL : Hid (L.length ≤ 100000) := Lib.hid (by have := HDL.out; rw [HDQ.out, List.length_append] at this; omega)
  have HBS := Lib.hid (show w.heap.size + 1 + 1 ≤ wr.heap.size by rw [← HSZ.out]; exact HB1.out.size)
  by_cases h2 : 2 ≤ m2
  ·have d5 : decide ((1 : Int) < (m2 : Int)) = true := decide_eq_true (by omega)
   have d6 : decide (1 < m2) = true := decide_eq_true (by omega)
   obtain ⟨k, HK⟩ : ∃ k, Hid (half m2 = k) := ⟨_, Lib.hid rfl⟩
   have hkb := half_bd h2
   rw [HK.out] at hkb
   go_wp2_with fail
   refine (dhalf_any m2 _ h2 (by omega)).mono ?_
   rintro e W2 ⟨rfl, hw1⟩
   subst hw1
   rw [HK.out]
   by_cases hik : i2 < k
   ·have d7 : decide ((i2 : Int) < (k : Int)) = true := decide_eq_true (by omega)
    have d8 : decide (i2 < k) = true := decide_eq_true hik
    have HPE : Hid (dirsD i2 m2 = true :: dirsD i2 k) := Lib.hid (by rw [dirsD_left h2 (by rw [HK.out]; exact hik), HK.out])
    have HBA := Lib.hid ((Below.refl _ wr).alloc (Nat.le_refl _) (.cells #[.bool true] 4))
    have HOA := Lib.hid (HOW.out.below HBA.out)
    have HRA := Lib.hid (heap_alloc_new wr (.cells #[.bool true] 4))
    have HSA := Lib.hid (Nat.le_trans HBS.out HBA.out.size)
    go_wp2_with (at_builtin; refine wpList_append_bool rfl (.tmp 34) (.tmp 38) rfl (w.heap.size + 1 + 1) (.slice A3 n3 c3) L true rfl HOA wr.heap.size rfl HRA HLL.out HSA.out ?_; intro v2 w2 HO2 HG2; obtain ⟨A5, n5, c5, rfl⟩ := HO2.out.form; have HB2 := Lib.hid ((HB1.out.trans (HBA.out.mono HBS.out)).trans ((Below.refl (w.heap.size + 1 + 1) _).grown HG2.out HSA.out (fun g hg => (HOA.out.block g hg).1))))
    go_roundw
    case rel => exact ⟨i2, k, L ++ [true], by go_num, by go_num, hik, by omega, HO2, Lib.hid (by rw [HDQ.out, HPE.out, List.append_assoc]; rfl), HB2, _, _, _, rfl⟩
    case measure => simp [intOf]; omega
   ·have d7 : decide ((i2 : Int) < (k : Int)) = false := decide_eq_false (by omega)
    have d8 : decide (i2 < k) = false := decide_eq_false hik
    obtain ⟨q, HQ⟩ : ∃ q : Nat, Hid (i2 - k = q) := ⟨_, Lib.hid rfl⟩
    obtain ⟨r, HR⟩ : ∃ r : Nat, Hid (m2 - k = r) := ⟨_, Lib.hid rfl⟩
    have hw1 : IntKind.i64.wrap ((i2 : Int) - (k : Int)) = (q : Int) := by rw [IntWalk.i64_in _ (by omega), ← HQ.out]; omega
    have hw2 : IntKind.i64.wrap ((m2 : Int) - (k : Int)) = (r : Int) := by rw [IntWalk.i64_in _ (by omega), ← HR.out]; omega
    have hqr : q < r ∧ r ≤ 1099511627776 ∧ r < m2 := by rw [← HQ.out, ← HR.out]; omega
    have HPE : Hid (dirsD i2 m2 = false :: dirsD q r) := Lib.hid (by rw [dirsD_right h2 (by rw [HK.out]; exact hik), HK.out, HQ.out, HR.out])
    have HBA := Lib.hid ((Below.refl _ wr).alloc (Nat.le_refl _) (.cells #[.bool false] 4))
    have HOA := Lib.hid (HOW.out.below HBA.out)
    have HRA := Lib.hid (heap_alloc_new wr (.cells #[.bool false] 4))
    have HSA := Lib.hid (Nat.le_trans HBS.out HBA.out.size)
    go_wp2_with (at_builtin; refine wpList_append_bool rfl (.tmp 34) (.tmp 38) rfl (w.heap.size + 1 + 1) (.slice A3 n3 c3) L false rfl HOA wr.heap.size rfl HRA HLL.out HSA.out ?_; intro v2 w2 HO2 HG2; obtain ⟨A5, n5, c5, rfl⟩ := HO2.out.form; have HB2 := Lib.hid ((HB1.out.trans (HBA.out.mono HBS.out)).trans ((Below.refl (w.heap.size + 1 + 1) _).grown HG2.out HSA.out (fun g hg => (HOA.out.block g hg).1))))
    go_roundw
    case rel => exact ⟨q, r, L ++ [false], by go_num, by go_num, hqr.1, hqr.2.1, HO2, Lib.hid (by rw [HDQ.out, HPE.out, List.append_assoc]; rfl), HB2, _, _, _, rfl⟩
    case measure => simp [intOf]; omega
  ·have d5 : decide ((1 : Int) < (m2 : Int)) = false := decide_eq_false (by omega)
   have d6 : decide (1 < m2) = false := decide_eq_false (by omega)
   have HDE : Hid (dirsD iN mN = L) := Lib.hid (by rw [HDQ.out, dirsD_one i2 (by omega), List.append_nil])
   obtain ⟨A4, c4, e4, hc4, hrd4, hn4⟩ := HOW.out.slice
   cases e4
   have HR0 := Lib.hid (row_keptM HR0.out HB1.out (by omega))
   have HR1 := Lib.hid (row_keptM HR1.out HB1.out (by omega))
   have HB0 := Lib.hid (HB0.out.trans (HB1.out.mono (by omega)))
   have HRD4 := Lib.hid hrd4
   clear hrd4 hn4
   obtain ⟨WM, hWM⟩ : ∃ W, W = wr := ⟨_, rfl⟩
   subst hWM
   by_cases hlen : n = L.length
   ·subst hlen
    have HE := Lib.hid (dcl_yes (d := d) (i := i) (n := m) (ps := ps) (by unfold dArg; rw [HRS.out, HDE.out, HNE.out]; omega))
    have hx2 : (((L.length : Nat) : Int) != ((L.length : Nat) : Int)) = false := by simp
    have HLF := Lib.hid (dgC_info (leafD_ok d))
    have HLF2 := Lib.hid (dgC_size (leafD_ok d))
    have HTR := Lib.hid (hT.out.below HB0.out)
    have HWM : Hid (w.heap.size + 1 + 1 ≤ WM.heap.size) := HBS
    go_wp2_with (refine wpList_load_row rfl 25 (.tmp 4) rfl w.heap.size rfl 25 _ (0, 0) _ HR0.out Tryz.underlying25 rfl HSD.out ?_)
    rw [← dgV_agg d]
    refine (dleaf_any d _ hd HTR).mono ?_
    rintro e W3 ⟨rfl, hq⟩
    have HB3 := Lib.hid (HB0.out.trans (hq.mono HB0.out.size))
    have HR3 := Lib.hid (row_kept HR1.out hq)
    have HK3 : Hid (∀ b, w.heap.size + 1 < b → b < WM.heap.size → (W3.setRow (w.heap.size + 1) (dgC (leafD d)).toArray).heap[b]? = WM.heap[b]?) := Lib.hid (fun b h1 h2 => by rw [← hq.block b h2]; exact setRow_other W3 (w.heap.size + 1) b _ (by omega))
    have HS3 : Hid (WM.heap.size ≤ (W3.setRow (w.heap.size + 1) (dgC (leafD d)).toArray).heap.size) := Lib.hid (by rw [setRow_size]; exact hq.size)
    clear hq
    rw [dgV_agg (leafD d)]
    go_wp2_with (refine wpList_store_row rfl 25 (.tmp 8) (.tmp 57) rfl (w.heap.size + 1) (dgC (leafD d)).toArray rfl rfl 25 _ HR3.out HLF.out HLF2.out (dgC_one _) ?_)
    have HR4 := Lib.hid (setRow_heap W3 (w.heap.size + 1) _ (dgC (leafD d)).toArray _ _ HR3.out)
    have HB4 := Lib.hid (below_setRow HB3.out (Nat.le_succ _) (dgC (leafD d)).toArray)
    obtain ⟨W4, HW4⟩ : ∃ W, W = W3.setRow (w.heap.size + 1) (dgC (leafD d)).toArray := ⟨_, rfl⟩
    rw [← HW4] at HK3 HS3 HR4 HB4 ⊢
    clear HW4
    go_loopw [60] (fun v wr => ∃ (j : Nat) (x : Dg), j ≤ L.length ∧ v = .int .i64 (j : Nat) ∧ Hid (DgOk x) ∧ Hid (x = climbD (L.reverse.take j) (ps.take j) (leafD d)) ∧ Hid (wr.heap[w.heap.size + 1]? = some (.cells (dgC x).toArray 25 (0, 0))) ∧ Hid (Below w.heap.size w wr) ∧ Hid (∀ b, w.heap.size + 1 < b → b < WM.heap.size → wr.heap[b]? = WM.heap[b]?) ∧ Hid (WM.heap.size ≤ wr.heap.size)) (fun v _ => L.length - (intOf v).toNat)
    case atStart => exact ⟨0, leafD d, by omega, rfl, Lib.hid (leafD_ok d), Lib.hid rfl, HR4, HB4, HK3, HS3⟩
    case round =>
     clear HR4 HB4 HK3 HS3 HR3 HB3
     obtain ⟨j, x, hj, rfl, HXO, HXE, HRX, HBX, HKX, HSX⟩ := hrel
     by_cases hlt : j < L.length
     ·have d9 : decide ((j : Int) < ((L.length : Nat) : Int)) = true := decide_eq_true (by omega)
      have d10 : decide (j < L.length) = true := decide_eq_true hlt
      have hjp : j < ps.length := by rw [HNE.out]; exact hlt
      obtain ⟨gp, op, rfl, hgp, hrp⟩ := h.out.rd (by omega)
      obtain ⟨p, HP⟩ : ∃ p, Hid (ps[j] = p) := ⟨_, Lib.hid rfl⟩
      have HPO : Hid (DgOk p) := Lib.hid (by rw [← HP.out]; exact h.out.ok _ (List.getElem_mem _))
      have HRP : Hid (wr.rangeAt gp (op + j * 32) (dgC p)) := Lib.hid (by rw [← HP.out]; exact rangeAt_below (rangeD_one hrp h.out.ok j hjp) hgp HBX.out)
      obtain ⟨b, HBb⟩ : ∃ b, Hid (L.reverse[j]'(by rw [List.length_reverse]; exact hlt) = b) := ⟨_, Lib.hid rfl⟩
      obtain ⟨gb, rfl, hgb1, hgb2, hgb3⟩ := HRD4.out (by omega)
      have hq2 : L.length - 1 - j < L.length := by omega
      obtain ⟨q, HQ⟩ : ∃ q, Hid (L.length - 1 - j = q) := ⟨_, Lib.hid rfl⟩
      rw [HQ.out] at hq2
      have hbL : L.getD q false = b := by
       rw [← HBb.out, List.getElem_reverse]
       have e : L.length - 1 - j = q := HQ.out
       simp [List.getD_eq_getElem?_getD, e, hq2]
      have hcb : wr.cell? ⟨gb, q, none⟩ = some (.bool b) := by
       have h1 := (hgb3 q hq2).1 0 (.bool b) (by show (bC (L.getD q false))[0]? = _; rw [hbL]; rfl)
       rw [show 0 + q * 1 + 0 = q by omega] at h1
       rw [← h1]
       exact World.cell?_of_block (HKX.out gb (by omega) hgb2)
      have HCB := Lib.hid hcb
      have hwa : IntKind.i64.wrap (((L.length : Nat) : Int) - 1) = ((L.length : Nat) : Int) - 1 := IntWalk.i64_in _ (by omega)
      have hwb : IntKind.i64.wrap (((L.length : Nat) : Int) - 1 - (j : Int)) = (q : Int) := by rw [IntWalk.i64_in _ (by omega), ← HQ.out]; omega
      have HNX : Hid (climbD (L.reverse.take (j + 1)) (ps.take (j + 1)) (leafD d) = stepD b p x) := Lib.hid (by rw [climbD_take _ (by rw [List.length_reverse]; exact hlt) hjp, HBb.out, HP.out, ← HXE.out])
      have HSP := Lib.hid (dgC_infoL HPO.out)
      have HSP1 := Lib.hid (dgC_info HPO.out)
      have HSP2 := Lib.hid (dgC_size HPO.out)
      have HSX1 := Lib.hid (dgC_info HXO.out)
      have hlr := laid_row wr (dgC zeroD).toArray (dgC p).toArray 25
      have hz := heap_alloc_new wr (.cells (dgC zeroD).toArray 25)
      rw [zeroD_cells] at hlr hz
      have HZ := Lib.hid hz
      obtain ⟨W5, HW5⟩ : ∃ W, Hid ((wr.alloc (.cells #[.int .u8 0, .int .u8 0, .int .u8 0, .int .u8 0, .int .u8 0, .int .u8 0, .int .u8 0, .int .u8 0, .int .u8 0, .int .u8 0, .int .u8 0, .int .u8 0, .int .u8 0, .int .u8 0, .int .u8 0, .int .u8 0, .int .u8 0, .int .u8 0, .int .u8 0, .int .u8 0, .int .u8 0, .int .u8 0, .int .u8 0, .int .u8 0, .int .u8 0, .int .u8 0, .int .u8 0, .int .u8 0, .int .u8 0, .int .u8 0, .int .u8 0, .int .u8 0] 25)).setRow wr.heap.size (dgC p).toArray = W) := ⟨_, Lib.hid rfl⟩
      rw [HW5.out] at hlr
      have HB5 := Lib.hid (HBX.out.trans (hlr.1.mono HBX.out.size))
      have HRX5 := Lib.hid (row_kept HRX.out hlr.1)
      have HRP5 := Lib.hid hlr.2.2
      have HK5 : Hid (∀ b, w.heap.size + 1 < b → b < WM.heap.size → W5.heap[b]? = WM.heap[b]?) := Lib.hid (fun b h1 h2 => (hlr.1.block b (Nat.lt_of_lt_of_le h2 HSX.out)).trans (HKX.out b h1 h2))
      have HS5 := Lib.hid (Nat.le_trans HSX.out hlr.1.size)
      have hcb5 : W5.cell? ⟨gb, q, none⟩ = some (.bool b) := (World.cell?_of_block (hlr.1.block gb (Nat.lt_of_lt_of_le hgb2 HSX.out))).trans hcb
      have HT5 := Lib.hid (hT.out.below HB5.out)
      clear hlr hz hcb hbL hrp hgb3
      cases b with
      | true =>
       have HNO : Hid (DgOk (nodeD x p)) := Lib.hid (nodeD_ok _ _)
       have HN1 := Lib.hid (dgC_info HNO.out)
       have HN2 : Hid ((dgC x).toArray.size = (dgC (nodeD x p)).toArray.size) := Lib.hid (by rw [← dgC_size HXO.out, ← dgC_size HNO.out])
       have hls : decide (q < L.length) = true := decide_eq_true hq2
       go_wp2_with (first | (with_reducible refine wpList_load_mid rfl 25 (.tmp 63) rfl gp (op + j * 32) rfl (dgC p) _ HRP.out Tryz.underlying25 rfl HSP.out ?_) | (refine wpList_store_row rfl 25 (.tmp 13) (.tmp 64) rfl wr.heap.size (dgC p).toArray rfl rfl 25 _ HZ.out HSP1.out HSP2.out (dgC_one p) ?_; rw [HW5.out]) | (refine wpList_load_row rfl 25 (.tmp 8) rfl (w.heap.size + 1) rfl 25 _ (0, 0) _ HRX5.out Tryz.underlying25 rfl HSX1.out ?_) | (refine wpList_load_row rfl 25 (.tmp 13) rfl wr.heap.size rfl 25 _ (0, 0) _ HRP5.out Tryz.underlying25 rfl HSP1.out ?_))
       rw [show Value.agg (dgC x).toArray = dgV x from rfl, show Value.agg (dgC p).toArray = dgV p from rfl]
       refine (dnode_any x p _ HXO HPO HT5).mono ?_
       rintro e W6 ⟨rfl, hq6⟩
       have HB6 := Lib.hid (HB5.out.trans (hq6.mono HB5.out.size))
       have HRX6 := Lib.hid (row_kept HRX5.out hq6)
       have HB7 := Lib.hid (below_setRow HB6.out (Nat.le_succ _) (dgC (nodeD x p)).toArray)
       have HR7 := Lib.hid (setRow_heap W6 (w.heap.size + 1) _ (dgC (nodeD x p)).toArray _ _ HRX6.out)
       have HK7 : Hid (∀ b, w.heap.size + 1 < b → b < WM.heap.size → (W6.setRow (w.heap.size + 1) (dgC (nodeD x p)).toArray).heap[b]? = WM.heap[b]?) := Lib.hid (fun b h1 h2 => by rw [setRow_other W6 (w.heap.size + 1) b _ (by omega), hq6.block b (Nat.lt_of_lt_of_le h2 HS5.out)]; exact HK5.out b h1 h2)
       have HS7 : Hid (WM.heap.size ≤ (W6.setRow (w.heap.size + 1) (dgC (nodeD x p)).toArray).heap.size) := Lib.hid (by rw [setRow_size]; exact Nat.le_trans HS5.out hq6.size)
       clear hq6 hcb5
       rw [dgV_agg (nodeD x p)]
       go_wp2_with (refine wpList_store_row rfl 25 (.tmp 8) (.tmp 75) rfl (w.heap.size + 1) (dgC (nodeD x p)).toArray rfl rfl 25 _ HRX6.out HN1.out HN2.out (dgC_one _) ?_)
       go_roundw
       case rel => exact ⟨j + 1, nodeD x p, by omega, by go_num, HNO, Lib.hid (by rw [HNX.out]; rfl), HR7, HB7, HK7, HS7⟩
       case measure => simp [intOf]; omega
      | false =>
       have HNO : Hid (DgOk (nodeD p x)) := Lib.hid (nodeD_ok _ _)
       have HN1 := Lib.hid (dgC_info HNO.out)
       have HN2 : Hid ((dgC x).toArray.size = (dgC (nodeD p x)).toArray.size) := Lib.hid (by rw [← dgC_size HXO.out, ← dgC_size HNO.out])
       have hls : decide (q < L.length) = true := decide_eq_true hq2
       go_wp2_with (first | (with_reducible refine wpList_load_mid rfl 25 (.tmp 63) rfl gp (op + j * 32) rfl (dgC p) _ HRP.out Tryz.underlying25 rfl HSP.out ?_) | (refine wpList_store_row rfl 25 (.tmp 13) (.tmp 64) rfl wr.heap.size (dgC p).toArray rfl rfl 25 _ HZ.out HSP1.out HSP2.out (dgC_one p) ?_; rw [HW5.out]) | (refine wpList_load_row rfl 25 (.tmp 8) rfl (w.heap.size + 1) rfl 25 _ (0, 0) _ HRX5.out Tryz.underlying25 rfl HSX1.out ?_) | (refine wpList_load_row rfl 25 (.tmp 13) rfl wr.heap.size rfl 25 _ (0, 0) _ HRP5.out Tryz.underlying25 rfl HSP1.out ?_))
       rw [show Value.agg (dgC x).toArray = dgV x from rfl, show Value.agg (dgC p).toArray = dgV p from rfl]
       refine (dnode_any p x _ HPO HXO HT5).mono ?_
       rintro e W6 ⟨rfl, hq6⟩
       have HB6 := Lib.hid (HB5.out.trans (hq6.mono HB5.out.size))
       have HRX6 := Lib.hid (row_kept HRX5.out hq6)
       have HB7 := Lib.hid (below_setRow HB6.out (Nat.le_succ _) (dgC (nodeD p x)).toArray)
       have HR7 := Lib.hid (setRow_heap W6 (w.heap.size + 1) _ (dgC (nodeD p x)).toArray _ _ HRX6.out)
       have HK7 : Hid (∀ b, w.heap.size + 1 < b → b < WM.heap.size → (W6.setRow (w.heap.size + 1) (dgC (nodeD p x)).toArray).heap[b]? = WM.heap[b]?) := Lib.hid (fun b h1 h2 => by rw [setRow_other W6 (w.heap.size + 1) b _ (by omega), hq6.block b (Nat.lt_of_lt_of_le h2 HS5.out)]; exact HK5.out b h1 h2)
       have HS7 : Hid (WM.heap.size ≤ (W6.setRow (w.heap.size + 1) (dgC (nodeD p x)).toArray).heap.size) := Lib.hid (by rw [setRow_size]; exact Nat.le_trans HS5.out hq6.size)
       clear hq6 hcb5
       rw [dgV_agg (nodeD p x)]
       go_wp2_with (refine wpList_store_row rfl 25 (.tmp 8) (.tmp 78) rfl (w.heap.size + 1) (dgC (nodeD p x)).toArray rfl rfl 25 _ HRX6.out HN1.out HN2.out (dgC_one _) ?_)
       go_roundw
       case rel => exact ⟨j + 1, nodeD p x, by omega, by go_num, HNO, Lib.hid (by rw [HNX.out]; rfl), HR7, HB7, HK7, HS7⟩
       case measure => simp [intOf]; omega
     ·have d9 : decide ((j : Int) < ((L.length : Nat) : Int)) = false := decide_eq_false (by omega)
      have d10 : decide (j < L.length) = false := decide_eq_false hlt
      have HXF : Hid (climbD L.reverse ps (leafD d) = x) := Lib.hid (by
       have e1 : L.reverse.take j = L.reverse := List.take_of_length_le (by rw [List.length_reverse]; omega)
       have e2 : ps.take j = ps := List.take_of_length_le (by rw [HNE.out]; omega)
       rw [HXE.out, e1, e2])
      have HSX1 := Lib.hid (dgC_info HXO.out)
      have HSX2 := Lib.hid (dgC_size HXO.out)
      go_wp2_with (first | (refine wpList_load_row rfl 25 (.tmp 8) rfl (w.heap.size + 1) rfl 25 _ (0, 0) _ HRX.out Tryz.underlying25 rfl HSX1.out ?_) | (refine wpList_store_row rfl 25 (.tmp 8) (.tmp 80) rfl (w.heap.size + 1) (dgC x).toArray rfl rfl 25 _ HRX.out HSX1.out rfl (dgC_one x) ?_))
      have hr := setRow_heap wr (w.heap.size + 1) _ (dgC x).toArray _ _ HRX.out
      have hl := run_loadVar_row (P := Tryz.prog) (World.setRow wr (w.heap.size + 1) (dgC x).toArray) (w.heap.size + 1) 25 25 (dgC x).toArray (0, 0) _ hr Tryz.underlying25 rfl HSX1.out
      refine bodyPost_ret (v := .tuple #[dgV x, .int .i64 0]) ?_ rfl ⟨by rw [HE.out.1, HE.out.2, HRS.out, HDE.out, HXF.out], below_setRow HBX.out (Nat.le_succ _) _⟩
      rw [dgV_agg x]
      simp [results, Tryz.results115, asAddr, hl]
   ·have hx : ((n : Int) == ((L.length : Nat) : Int)) = false := beq_false_of_ne (by omega)
    have hx2 : ((n : Int) != ((L.length : Nat) : Int)) = true := by simp [bne, hx]
    have HE := Lib.hid (dcl_arg (d := d) (i := i) (n := m) (ps := ps) (by unfold dArg; rw [HRS.out, HDE.out, HNE.out]; omega))
    have HXX := Lib.hid hx
    rw [← zeroD_cells] at HR1
    go_wp2_with (first | (refine wpList_load_row rfl 25 (.tmp 8) rfl (w.heap.size + 1) rfl 25 _ (0, 0) _ HR1.out Tryz.underlying25 rfl HSZD.out ?_) | (refine wpList_store_row rfl 25 (.tmp 8) (.tmp 55) rfl (w.heap.size + 1) (dgC zeroD).toArray ?ha ?hb 25 _ HR1.out HSZD.out HSZ2.out (dgC_one zeroD) ?_))
    all_goals first | rfl | skip
    have hr := setRow_heap WM (w.heap.size + 1) _ (dgC zeroD).toArray _ _ HR1.out
    have hl := run_loadVar_row (P := Tryz.prog) (World.setRow WM (w.heap.size + 1) (dgC zeroD).toArray) (w.heap.size + 1) 25 25 (dgC zeroD).toArray (0, 0) _ hr Tryz.underlying25 rfl HSZD.out
    refine bodyPost_ret (v := .tuple #[dgV zeroD, .int .i64 1]) ?_ rfl ⟨by rw [HE.out.1, HE.out.2], below_setRow HB0.out (Nat.le_succ _) _⟩
    rw [dgV_agg zeroD]
    simp [results, Tryz.results115, asAddr, hl]
theorem dclimb_any (d : List Nat) (i m : Int) (ps : List Dg) (A : Option Addr) (n c : Nat) (w : World) (hd : Hid (DgOk d)) (hn : n ≤ 9223372036854775807) (h : Hid (InD w A n c ps)) (hT : Hid (Tabs w)) (hnn : n ≤ 100000) :
  Calls Tryz.prog 115 #[dgV d, .int .i64 i, .int .i64 m, .slice A n c] w fun e w' => e = .returned (.tuple #[dgV (dclR d i m ps), .int .i64 (dclE i m ps.length)]) ∧ Below w.heap.size w w' := by
 by_cases g0 : m < 1
 ·exact dclimb_a0 d i m ps A n c w hd hn h hT g0
 by_cases g1 : 1099511627776 < m
 ·exact dclimb_a1 d i m ps A n c w hd hn h hT g0 g1
 by_cases g2 : i < 0
 ·exact dclimb_a2 d i m ps A n c w hd hn h hT g0 g1 g2
 by_cases g3 : m ≤ i
 ·exact dclimb_a3 d i m ps A n c w hd hn h hT g0 g1 g2 g3
 exact dclimb_in d i m ps A n c w hd hn h hT (by omega) hnn (Nat.le_trans (dirsD_small 40 i.toNat m.toNat (by rw [show (2 : Nat) ^ 40 = 1099511627776 by decide]; omega) (by omega)) (by omega))
def lnV (x : Ln) : Value := .agg (lnC x).toArray
def clV (x : Cl) : Value := .agg (clC x).toArray
def vLn (x : Ln) : Bool := decide (lOk x.c0 x.c1 x.c2 x.c3 x.c4)
def vCl (x : Cl) : Bool := decide (kOk x.p x.r)
def nLn (x : Ln) : Int := noL x.c0 x.c1
def nCl (x : Cl) : Int := noK x.p x.r
theorem vline_x (x : Ln) (w : World) : Calls Tryz.prog 96 #[lnV x] w fun e w' => e = .returned (.bool (vLn x)) ∧ Below w.heap.size w w' := vline_any x.c0 x.c1 x.c2 x.c3 x.c4 w
theorem vclaim_x (x : Cl) (w : World) : Calls Tryz.prog 107 #[clV x] w fun e w' => e = .returned (.bool (vCl x)) ∧ Below w.heap.size w w' := vclaim_any x.p x.r x.m w
theorem nline_x (x : Ln) (w : World) : Calls Tryz.prog 94 #[lnV x] w fun e w' => e = .returned (.int .i64 (nLn x)) ∧ Below w.heap.size w w' := noL_any x.c0 x.c1 x.c2 x.c3 x.c4 w
theorem nclaim_x (x : Cl) (w : World) : Calls Tryz.prog 104 #[clV x] w fun e w' => e = .returned (.int .i64 (nCl x)) ∧ Below w.heap.size w w' := noK_any x.p x.r x.m w
/-- valid and in order -/
def chkE {α : Type} (v : α → Bool) (no : α → Int) : Int → List α → Bool
 | _, [] => true
 | z, x :: xs => (v x && decide (z < no x)) && chkE v no (no x) xs
theorem range_elem {α : Type} {cells : α → List Value} {k : Nat} {w : World} {g off : Nat} {ls : List α} (hl : ∀ x, (cells x).length = k) (hr : w.rangeAt g off (ls.flatMap cells)) (j : Nat) (hj : j < ls.length) : w.rangeAt g (off + j * k) (cells ls[j]) := fun i v hi => by
 have hi2 : i < k := by have := (List.getElem?_eq_some_iff.1 hi).1; rw [hl] at this; exact this
 have hfl : ∀ l : List α, (l.flatMap cells).length = l.length * k := fun l => by
  induction l with
  | nil => simp
  | cons x l ih => rw [List.flatMap_cons, List.length_append, hl, ih, List.length_cons, Nat.succ_mul]; omega
 rw [Nat.add_assoc]
 refine hr (j * k + i) v ?_
 have e1 : ls = ls.take j ++ (ls[j] :: ls.drop (j + 1)) := by rw [← List.drop_eq_getElem_cons hj, List.take_append_drop]
 have e3 : ((ls.take j).flatMap cells).length = j * k := by rw [hfl, List.length_take, show min j ls.length = j by omega]
 have e2 : ls.flatMap cells = (ls.take j).flatMap cells ++ (cells ls[j] ++ (ls.drop (j + 1)).flatMap cells) := by
  conv => lhs; rw [e1]
  rw [List.flatMap_append]; rfl
 rw [e2, List.getElem?_append_right (by omega), e3, Nat.add_sub_cancel_left, List.getElem?_append_left (by rw [hl]; exact hi2)]
 exact hi
theorem InLn.below {w w' : World} {A : Option Addr} {n c : Nat} {ls : List Ln} (h : InLn w A n c ls) (hb : Below w.heap.size w w') : InLn w' A n c ls :=
 ⟨h.len, h.cap, h.none_, h.ok, fun h0 => by
  obtain ⟨g, off, e, hg, hr⟩ := h.rd h0
  exact ⟨g, off, e, Nat.lt_of_lt_of_le hg hb.size, rangeAt_below hr hg hb⟩⟩
theorem InCl.below {w w' : World} {A : Option Addr} {n c : Nat} {ls : List Cl} (h : InCl w A n c ls) (hb : Below w.heap.size w w') : InCl w' A n c ls :=
 ⟨h.len, h.cap, h.none_, h.ok, fun h0 => by
  obtain ⟨g, off, e, hg, hr⟩ := h.rd h0
  exact ⟨g, off, e, Nat.lt_of_lt_of_le hg hb.size, rangeAt_below hr hg hb⟩⟩
/-- a world after another: all blocks but one as they were -/
theorem grown_of_below {w w' : World} {row : Option Nat} (hb : Below w.heap.size w w') : w.grownBy w' row := ⟨hb.os, hb.tape, hb.output, hb.size, fun i hi _ => hb.block i hi⟩
theorem grown_then {w w1 w2 : World} {row : Option Nat} (h : w.grownBy w1 row) (hb : Below w1.heap.size w1 w2) : w.grownBy w2 row := ⟨hb.os.trans h.os, hb.tape.trans h.tape, hb.output.trans h.output, Nat.le_trans h.size hb.size, fun i hi hne => (hb.block i (Nat.lt_of_lt_of_le hi h.size)).trans (h.block i hi hne)⟩
theorem grown_trans {w w1 w2 : World} {row : Option Nat} (h : w.grownBy w1 row) (h2 : w1.grownBy w2 row) : w.grownBy w2 row := ⟨h2.os.trans h.os, h2.tape.trans h.tape, h2.output.trans h.output, Nat.le_trans h.size h2.size, fun i hi hne => (h2.block i (Nat.lt_of_lt_of_le hi h.size) hne).trans (h.block i hi hne)⟩
theorem grown_set {w w1 : World} {b : Nat} (h : w.grownBy w1 (some b)) (v : Value) : w.grownBy (w1.setCell ⟨b, 0, none⟩ v) (some b) := only_setCell h (.inl rfl) v
theorem one_set {w : World} {b : Nat} {v v' : Value} {t : TypeId} (h : w.heap[b]? = some (.cells #[v] t (0, 0))) : (w.setCell ⟨b, 0, none⟩ v').heap[b]? = some (.cells #[v'] t (0, 0)) := by
 simp only [World.setCell, Array.getElem?_modify, if_true, h]; rfl
theorem lnC_len (x : Ln) : (lnC x).length = 5 := rfl
theorem lnC_info (x : Ln) : (Tryz.prog.info? 45).map (·.size) = some (lnC x).toArray.size := by show _ = some 5; kernel_rfl
theorem lnC_infoL (x : Ln) : (Tryz.prog.info? 45).map (·.size) = some (lnC x).length := by show _ = some 5; kernel_rfl
def wCyL (bl : Nat) (x : Ln) (z : Int) : Nat → Value → World → Prop
 | 0, fv, _ => fv = .pointer (some ⟨bl, 1, none⟩)
 | 1, fv, _ => fv = .func (.func 96) #[] #[]
 | 2, fv, _ => fv = lnV x
 | 3, fv, _ => fv = .bool true
 | 4, fv, _ => fv = .bool false
 | 5, fv, _ => fv = .bool false
 | 6, fv, _ => fv = .pointer (some ⟨bl, 2, none⟩)
 | 7, fv, _ => fv = .func (.func 94) #[] #[]
 | 8, fv, _ => fv = lnV x
 | 9, fv, _ => fv = .int .i64 (nLn x)
 | 10, fv, _ => fv = .int .i64 z
 | 11, fv, _ => fv = .bool (decide (nLn x ≤ z))
 | 12, fv, _ => fv = .bool (decide (nLn x ≤ z))
 | 13, fv, _ => fv = .bool (decide (nLn x ≤ z))
 | _, _, _ => True
theorem wCyL_below {bl : Nat} {x : Ln} {z : Int} {w w' : World} (hb : Below w.heap.size w w') : ∀ j v, wCyL bl x z j v w → wCyL bl x z j v w'
 | 0, v, h => h
 | 1, v, h => h
 | 2, v, h => h
 | 3, v, h => h
 | 4, v, h => h
 | 5, v, h => h
 | 6, v, h => h
 | 7, v, h => h
 | 8, v, h => h
 | 9, v, h => h
 | 10, v, h => h
 | 11, v, h => h
 | 12, v, h => h
 | 13, v, h => h
 | n + 14, v, h => trivial
def wCnL (bl : Nat) (x : Ln) (z : Int) : Nat → Value → World → Prop
 | 0, fv, _ => fv = .pointer (some ⟨bl, 1, none⟩)
 | 1, fv, _ => fv = .func (.func 96) #[] #[]
 | 2, fv, _ => fv = lnV x
 | 3, fv, _ => fv = .bool false
 | 4, fv, _ => fv = .bool true
 | 5, fv, _ => fv = .bool true
 | 6, fv, _ => fv = undef
 | 7, fv, _ => fv = undef
 | 8, fv, _ => fv = undef
 | 9, fv, _ => fv = undef
 | 10, fv, _ => fv = undef
 | 11, fv, _ => fv = undef
 | 12, fv, _ => fv = .bool true
 | 13, fv, _ => fv = .bool true
 | _, _, _ => True
theorem wCnL_below {bl : Nat} {x : Ln} {z : Int} {w w' : World} (hb : Below w.heap.size w w') : ∀ j v, wCnL bl x z j v w → wCnL bl x z j v w'
 | 0, v, h => h
 | 1, v, h => h
 | 2, v, h => h
 | 3, v, h => h
 | 4, v, h => h
 | 5, v, h => h
 | 6, v, h => h
 | 7, v, h => h
 | 8, v, h => h
 | 9, v, h => h
 | 10, v, h => h
 | 11, v, h => h
 | 12, v, h => h
 | 13, v, h => h
 | n + 14, v, h => trivial
theorem chk1L_y (x : Ln) (z : Int) (bl bs : Nat) (w : World) (hl : Hid (w.heap[bl]? = some (.cells tabL 86 (0, 0)))) (hs : Hid (w.heap[bs]? = some (.cells #[.int .i64 z] 3 (0, 0)))) (hv : Hid (vLn x = true)) :
  Calls Tryz.prog 110 #[lnV x, .pointer (some ⟨bl, 0, none⟩), .pointer (some ⟨bs, 0, none⟩)] w fun e w' => e = .returned (.bool (!(vLn x && decide (z < nLn x)))) ∧ w.grownBy w' (some bs) ∧ w'.heap[bs]? = some (.cells #[.int .i64 (nLn x)] 3 (0, 0)) := by
 have HB0 := Lib.hid ((Below.refl _ w).alloc (Nat.le_refl _) (.cells (lnC x).toArray 45))
 have HX0 := Lib.hid (heap_alloc_new w (.cells (lnC x).toArray 45))
 have HL0 := Lib.hid (row_kept hl.out HB0.out)
 have HS0 := Lib.hid (row_kept hs.out HB0.out)
 have HBS : Hid (bs < w.heap.size) := Lib.hid (Array.getElem?_eq_some_iff.1 hs.out).1
 have HIX := Lib.hid (lnC_info x)
 have HLE : Hid ((!(vLn x && decide (z < nLn x))) = decide (nLn x ≤ z)) := Lib.hid (by rw [hv.out]; rw [Bool.true_and, ← decide_not]; congr 1; exact propext Int.not_lt)
 rw [show lnV x = .agg (lnC x).toArray from rfl]
 go_enter Tryz.func110, Tryz.ntmps110
 go_wp2_with fail
 generalize w.alloc (.cells (lnC x).toArray 45) = W1 at *
 refine region_flow3 (by kernel_rfl) (by kernel_rfl) (fun i => Nat.beq i 13) (fun i => i) (by kernel_rfl) (fun fx => #[.agg (lnC x).toArray, .pointer (some { block := bl, off := 0 }), .pointer (some { block := bs, off := 0 }), .pointer (some { block := w.heap.size, off := 0 }), .bool false, fx 13, fx 0, fx 1, fx 2, fx 3, fx 4, fx 5, fx 6, fx 7, fx 8, fx 9, fx 10, fx 11, fx 12, undef, undef, undef, undef, undef]) (fun _ => undef) (fun L fx w' => Below W1.heap.size W1 w') (fun fi fv _ fw => wCyL bl x z fi fv fw) (Below.refl _ _).drew ?_ ?_
 ·refine ⟨?_, ?_, ?_, ?_, ?_, ?_, ?_, ?_, ?_, ?_, ?_, ?_, ?_, ?_, trivial⟩
  all_goals intro L fx w' hC hi hcl hdn hd
  ·go_wp2_with fail
   exact ⟨_, rfl, hC, rfl, kP⟩
  ·have h0 : fx 0 = .pointer (some ⟨bl, 1, none⟩) := hd.1 rfl
   have hcc : w'.cell? ⟨bl, 1, none⟩ = some (Value.func (.func 96) #[] #[]) := by rw [cell_of_row _ _ _ _ _ _ (row_kept HL0.out hC)]; rfl
   go_wp2_with fail
   exact ⟨_, by simp only [upd, h0]; rfl, hC, rfl, kP⟩
  ·have hrow := row_kept HX0.out hC
   refine wpList_load_row rfl 45 (.tmp 3) rfl w.heap.size rfl 45 _ (0, 0) _ hrow Tryz.underlying45 rfl HIX.out ?_
   clear hd
   go_wp2_with fail
   exact ⟨_, rfl, hC, rfl, kP⟩
  ·have h1 : fx 1 = .func (.func 96) #[] #[] := hd.1 rfl
   have h2 : fx 2 = lnV x := hd.2.1 rfl
   go_wp2_with fail
   refine (vline_x x w').mono ?_
   rintro e w2 ⟨rfl, hq⟩
   rw [hv.out]
   go_wp2_with fail
   exact ⟨_, by simp only [upd, h1, h2]; rfl, hC.trans (hq.mono hC.size), rfl, fun j v t _ _ h => wCyL_below hq j v h⟩
  ·have h3 : fx 3 = .bool true := hd.1 rfl
   go_wp2_with fail
   exact ⟨_, by simp only [upd, h3]; rfl, hC, rfl, kP⟩
  ·have h4 : fx 4 = .bool false := hd.1 rfl
   go_wp2_with fail
   exact ⟨_, by simp only [upd, h4]; rfl, hC, rfl, kP⟩
  ·have h5 : fx 5 = .bool false := hd.1 rfl
   go_wp2_with fail
   exact ⟨_, by simp only [upd, h5]; rfl, hC, rfl, kP⟩
  ·have h6 : fx 6 = .pointer (some ⟨bl, 2, none⟩) := hd.1 rfl
   have h5 : fx 5 = .bool false := hd.2.1 rfl
   have hcc : w'.cell? ⟨bl, 2, none⟩ = some (Value.func (.func 94) #[] #[]) := by rw [cell_of_row _ _ _ _ _ _ (row_kept HL0.out hC)]; rfl
   go_wp2_with fail
   exact ⟨_, by simp only [upd, h6, h5]; rfl, hC, rfl, kP⟩
  ·have h5 : fx 5 = .bool false := hd.1 rfl
   have hrow := row_kept HX0.out hC
   dsimp only
   rw [h5]
   refine wpList_unguard rfl ?_
   refine wpList_load_row rfl 45 (.tmp 3) rfl w.heap.size rfl 45 _ (0, 0) _ hrow Tryz.underlying45 rfl HIX.out ?_
   clear hd
   go_wp2_with fail
   exact ⟨_, by simp only [upd, h5]; rfl, hC, rfl, kP⟩
  ·have h7 : fx 7 = .func (.func 94) #[] #[] := hd.1 rfl
   have h8 : fx 8 = lnV x := hd.2.1 rfl
   have h5 : fx 5 = .bool false := hd.2.2.2.1 rfl
   go_wp2_with fail
   refine (nline_x x w').mono ?_
   rintro e w2 ⟨rfl, hq⟩
   go_wp2_with fail
   exact ⟨_, by simp only [upd, h7, h8, h5]; rfl, hC.trans (hq.mono hC.size), rfl, fun j v t _ _ h => wCyL_below hq j v h⟩
  ·have h5 : fx 5 = .bool false := hd.1 rfl
   have hcc : w'.cell? ⟨bs, 0, none⟩ = some (.int .i64 z) := by rw [cell_of_row _ _ _ _ _ _ (row_kept HS0.out hC)]; rfl
   go_wp2_with fail
   exact ⟨_, by simp only [upd, h5]; rfl, hC, rfl, kP⟩
  ·have h9 : fx 9 = .int .i64 (nLn x) := hd.1 rfl
   have h10 : fx 10 = .int .i64 z := hd.2.1 rfl
   have h5 : fx 5 = .bool false := hd.2.2.1 rfl
   go_wp2_with fail
   exact ⟨_, by simp only [upd, h9, h10, h5]; rfl, hC, rfl, kP⟩
  ·have h5 : fx 5 = .bool false := hd.1 rfl
   have h11 : fx 11 = .bool (decide (nLn x ≤ z)) := hd.2.1 rfl
   go_wp2_with fail
   exact ⟨_, by simp only [upd, h5, h11]; rfl, hC, rfl, kP⟩
  ·have h12 : fx 12 = .bool (decide (nLn x ≤ z)) := hd.1 rfl
   go_wp2_with fail
   exact ⟨_, by simp only [upd, h12]; rfl, hC, rfl, kP⟩
 ·intro L fo w' hC hS
  have H13 := Lib.hid (hS 13 (by decide) rfl)
  have h13 : fo 13 = .bool (decide (nLn x ≤ z)) := H13.out
  rw [h13]
  have HBC := Lib.hid hC
  clear hS hC h13 H13
  have HX1 := Lib.hid (row_kept HX0.out HBC.out)
  have HS1 := Lib.hid (row_kept HS0.out HBC.out)
  have hcc : w'.cell? ⟨bl, 2, none⟩ = some (Value.func (.func 94) #[] #[]) := by rw [cell_of_row _ _ _ _ _ _ (row_kept HL0.out HBC.out)]; rfl
  go_wp2_with (refine wpList_load_row rfl 45 (.tmp 3) rfl w.heap.size rfl 45 _ (0, 0) _ HX1.out Tryz.underlying45 rfl HIX.out ?_)
  rw [show Value.agg (lnC x).toArray = lnV x from rfl]
  refine (nline_x x w').mono ?_
  rintro e w2 ⟨rfl, hq⟩
  have HS2 := Lib.hid (row_kept HS1.out hq)
  have HG2 : Hid (w.grownBy w2 (some bs)) := Lib.hid (grown_then (grown_then (grown_of_below HB0.out) HBC.out) hq)
  have hc2 : w2.cell? ⟨bs, 0, none⟩ = some (.int .i64 z) := by rw [cell_of_row _ _ _ _ _ _ HS2.out]; rfl
  have hf2 : w2.frozen? ⟨bs, 0, none⟩ = false := by simp [World.frozen?, HS2.out]
  clear hq hcc
  go_wp2_with fail
  go_ret
  exact ⟨by rw [HLE.out]; rfl, grown_set HG2.out _, one_set HS2.out⟩
theorem chk1L_n (x : Ln) (z : Int) (bl bs : Nat) (w : World) (hl : Hid (w.heap[bl]? = some (.cells tabL 86 (0, 0)))) (hs : Hid (w.heap[bs]? = some (.cells #[.int .i64 z] 3 (0, 0)))) (hv : Hid (vLn x = false)) :
  Calls Tryz.prog 110 #[lnV x, .pointer (some ⟨bl, 0, none⟩), .pointer (some ⟨bs, 0, none⟩)] w fun e w' => e = .returned (.bool (!(vLn x && decide (z < nLn x)))) ∧ w.grownBy w' (some bs) ∧ w'.heap[bs]? = some (.cells #[.int .i64 (nLn x)] 3 (0, 0)) := by
 have HB0 := Lib.hid ((Below.refl _ w).alloc (Nat.le_refl _) (.cells (lnC x).toArray 45))
 have HX0 := Lib.hid (heap_alloc_new w (.cells (lnC x).toArray 45))
 have HL0 := Lib.hid (row_kept hl.out HB0.out)
 have HS0 := Lib.hid (row_kept hs.out HB0.out)
 have HBS : Hid (bs < w.heap.size) := Lib.hid (Array.getElem?_eq_some_iff.1 hs.out).1
 have HIX := Lib.hid (lnC_info x)
 have HLE : Hid ((!(vLn x && decide (z < nLn x))) = true) := Lib.hid (by rw [hv.out]; rfl)
 rw [show lnV x = .agg (lnC x).toArray from rfl]
 go_enter Tryz.func110, Tryz.ntmps110
 go_wp2_with fail
 generalize w.alloc (.cells (lnC x).toArray 45) = W1 at *
 refine region_flow3 (by kernel_rfl) (by kernel_rfl) (fun i => Nat.beq i 13) (fun i => i) (by kernel_rfl) (fun fx => #[.agg (lnC x).toArray, .pointer (some { block := bl, off := 0 }), .pointer (some { block := bs, off := 0 }), .pointer (some { block := w.heap.size, off := 0 }), .bool false, fx 13, fx 0, fx 1, fx 2, fx 3, fx 4, fx 5, fx 6, fx 7, fx 8, fx 9, fx 10, fx 11, fx 12, undef, undef, undef, undef, undef]) (fun _ => undef) (fun L fx w' => Below W1.heap.size W1 w') (fun fi fv _ fw => wCnL bl x z fi fv fw) (Below.refl _ _).drew ?_ ?_
 ·refine ⟨?_, ?_, ?_, ?_, ?_, ?_, ?_, ?_, ?_, ?_, ?_, ?_, ?_, ?_, trivial⟩
  all_goals intro L fx w' hC hi hcl hdn hd
  ·go_wp2_with fail
   exact ⟨_, rfl, hC, rfl, kP⟩
  ·have h0 : fx 0 = .pointer (some ⟨bl, 1, none⟩) := hd.1 rfl
   have hcc : w'.cell? ⟨bl, 1, none⟩ = some (Value.func (.func 96) #[] #[]) := by rw [cell_of_row _ _ _ _ _ _ (row_kept HL0.out hC)]; rfl
   go_wp2_with fail
   exact ⟨_, by simp only [upd, h0]; rfl, hC, rfl, kP⟩
  ·have hrow := row_kept HX0.out hC
   refine wpList_load_row rfl 45 (.tmp 3) rfl w.heap.size rfl 45 _ (0, 0) _ hrow Tryz.underlying45 rfl HIX.out ?_
   clear hd
   go_wp2_with fail
   exact ⟨_, rfl, hC, rfl, kP⟩
  ·have h1 : fx 1 = .func (.func 96) #[] #[] := hd.1 rfl
   have h2 : fx 2 = lnV x := hd.2.1 rfl
   go_wp2_with fail
   refine (vline_x x w').mono ?_
   rintro e w2 ⟨rfl, hq⟩
   rw [hv.out]
   go_wp2_with fail
   exact ⟨_, by simp only [upd, h1, h2]; rfl, hC.trans (hq.mono hC.size), rfl, fun j v t _ _ h => wCnL_below hq j v h⟩
  ·have h3 : fx 3 = .bool false := hd.1 rfl
   go_wp2_with fail
   exact ⟨_, by simp only [upd, h3]; rfl, hC, rfl, kP⟩
  ·have h4 : fx 4 = .bool true := hd.1 rfl
   go_wp2_with fail
   exact ⟨_, by simp only [upd, h4]; rfl, hC, rfl, kP⟩
  ·have h5 : fx 5 = .bool true := hd.1 rfl
   go_wp2_with fail
   exact ⟨_, by simp only [upd, h5]; rfl, hC, rfl, kP⟩
  ·have h6 : fx 6 = undef := hd.1 rfl
   have h5 : fx 5 = .bool true := hd.2.1 rfl
   go_wp2_with fail
   exact ⟨_, by simp only [upd, h6, h5]; rfl, hC, rfl, kP⟩
  ·have h5 : fx 5 = .bool true := hd.1 rfl
   go_wp2_with fail
   exact ⟨_, by simp only [upd, h5]; rfl, hC, rfl, kP⟩
  ·have h7 : fx 7 = undef := hd.1 rfl
   have h8 : fx 8 = undef := hd.2.1 rfl
   have h5 : fx 5 = .bool true := hd.2.2.2.1 rfl
   go_wp2_with fail
   exact ⟨_, by simp only [upd, h7, h8, h5]; rfl, hC, rfl, kP⟩
  ·have h5 : fx 5 = .bool true := hd.1 rfl
   go_wp2_with fail
   exact ⟨_, by simp only [upd, h5]; rfl, hC, rfl, kP⟩
  ·have h9 : fx 9 = undef := hd.1 rfl
   have h10 : fx 10 = undef := hd.2.1 rfl
   have h5 : fx 5 = .bool true := hd.2.2.1 rfl
   go_wp2_with fail
   exact ⟨_, by simp only [upd, h9, h10, h5]; rfl, hC, rfl, kP⟩
  ·have h5 : fx 5 = .bool true := hd.1 rfl
   have h11 : fx 11 = undef := hd.2.1 rfl
   go_wp2_with fail
   exact ⟨_, by simp only [upd, h5, h11]; rfl, hC, rfl, kP⟩
  ·have h12 : fx 12 = .bool true := hd.1 rfl
   go_wp2_with fail
   exact ⟨_, by simp only [upd, h12]; rfl, hC, rfl, kP⟩
 ·intro L fo w' hC hS
  have H13 := Lib.hid (hS 13 (by decide) rfl)
  have h13 : fo 13 = .bool true := H13.out
  rw [h13]
  have HBC := Lib.hid hC
  clear hS hC h13 H13
  have HX1 := Lib.hid (row_kept HX0.out HBC.out)
  have HS1 := Lib.hid (row_kept HS0.out HBC.out)
  have hcc : w'.cell? ⟨bl, 2, none⟩ = some (Value.func (.func 94) #[] #[]) := by rw [cell_of_row _ _ _ _ _ _ (row_kept HL0.out HBC.out)]; rfl
  go_wp2_with (refine wpList_load_row rfl 45 (.tmp 3) rfl w.heap.size rfl 45 _ (0, 0) _ HX1.out Tryz.underlying45 rfl HIX.out ?_)
  rw [show Value.agg (lnC x).toArray = lnV x from rfl]
  refine (nline_x x w').mono ?_
  rintro e w2 ⟨rfl, hq⟩
  have HS2 := Lib.hid (row_kept HS1.out hq)
  have HG2 : Hid (w.grownBy w2 (some bs)) := Lib.hid (grown_then (grown_then (grown_of_below HB0.out) HBC.out) hq)
  have hc2 : w2.cell? ⟨bs, 0, none⟩ = some (.int .i64 z) := by rw [cell_of_row _ _ _ _ _ _ HS2.out]; rfl
  have hf2 : w2.frozen? ⟨bs, 0, none⟩ = false := by simp [World.frozen?, HS2.out]
  clear hq hcc
  go_wp2_with fail
  go_ret
  exact ⟨by rw [HLE.out]; rfl, grown_set HG2.out _, one_set HS2.out⟩
theorem chk1L (x : Ln) (z : Int) (bl bs : Nat) (w : World) (hl : Hid (w.heap[bl]? = some (.cells tabL 86 (0, 0)))) (hs : Hid (w.heap[bs]? = some (.cells #[.int .i64 z] 3 (0, 0)))) :
  Calls Tryz.prog 110 #[lnV x, .pointer (some ⟨bl, 0, none⟩), .pointer (some ⟨bs, 0, none⟩)] w fun e w' => e = .returned (.bool (!(vLn x && decide (z < nLn x)))) ∧ w.grownBy w' (some bs) ∧ w'.heap[bs]? = some (.cells #[.int .i64 (nLn x)] 3 (0, 0)) := by
 by_cases h : vLn x = true
 ·exact chk1L_y x z bl bs w hl hs (Lib.hid h)
 ·exact chk1L_n x z bl bs w hl hs (Lib.hid (by simpa using h))
theorem indexL (ls : List Ln) (A : Option Addr) (n c : Nat) (z : Int) (bl bs M : Nat) (w : World) (hn : n ≤ 9223372036854775807) (hM : M ≤ bl) (hMs : M ≤ bs) (hne : bl ≠ bs) (hl : Hid (w.heap[bl]? = some (.cells tabL 86 (0, 0)))) (hs : Hid (w.heap[bs]? = some (.cells #[.int .i64 z] 3 (0, 0)))) (h : Hid (InLn w A n c ls)) (hbo : Hid (∀ g off, A = some ⟨g, off, none⟩ → 0 < ls.length → g < M)) :
  Calls Tryz.prog 140 #[.slice A n c, .func (.func 110) #[] #[.pointer (some ⟨bl, 0, none⟩), .pointer (some ⟨bs, 0, none⟩)]] w fun e w' => ∃ r : Int, e = .returned (.int .i64 r) ∧ decide (0 ≤ r) = !(chkE vLn nLn z ls) ∧ w.grownBy w' (some bs) := by
 have HN := Lib.hid (show ls.length = n from h.out.len)
 have HGW : Hid (w.grownBy w (some bs)) := Lib.hid ⟨rfl, rfl, rfl, Nat.le_refl _, fun _ _ _ => rfl⟩
 go_enter Tryz.func140, Tryz.ntmps140
 go_wp2_with fail
 go_loopw [8] (fun i wr => ∃ (j : Nat) (y : Int), j ≤ n ∧ i = .int .i64 (j : Nat) ∧ Hid (chkE vLn nLn z ls = chkE vLn nLn y (ls.drop j)) ∧ Hid (w.grownBy wr (some bs)) ∧ Hid (wr.heap[bs]? = some (.cells #[.int .i64 y] 3 (0, 0)))) (fun i _ => n - (intOf i).toNat)
 case atStart => exact ⟨0, z, by omega, rfl, Lib.hid rfl, HGW, hs⟩
 case round =>
  clear HGW hs
  obtain ⟨j, y, hj, rfl, HCH, HG, HS⟩ := hrel
  by_cases hlt : j < n
  ·have d1 : decide ((j : Int) < (n : Int)) = true := decide_eq_true (by omega)
   have d2 : decide (j < n) = true := decide_eq_true hlt
   have hjl : j < ls.length := by rw [HN.out]; exact hlt
   obtain ⟨g, off, rfl, hg, hr⟩ := h.out.rd (by omega)
   obtain ⟨x, HX⟩ : ∃ x, Hid (ls[j] = x) := ⟨_, Lib.hid rfl⟩
   have HR : Hid (wr.rangeAt g (off + j * 5) (lnC x)) := Lib.hid (by
    rw [← HX.out]
    intro i v hi
    have h1 := range_elem lnC_len hr j hjl i v hi
    have hgM := hbo.out g off rfl (by omega)
    rw [← h1]
    exact World.cell?_of_block (HG.out.block g hg (fun e => by injection e with e; omega)))
   have HL : Hid (wr.heap[bl]? = some (.cells tabL 86 (0, 0))) := Lib.hid ((HG.out.block bl (Array.getElem?_eq_some_iff.1 hl.out).1 (fun e => by injection e with e; exact hne e)).trans hl.out)
   have HDR : Hid (ls.drop j = x :: ls.drop (j + 1)) := Lib.hid (by rw [List.drop_eq_getElem_cons hjl, HX.out])
   have HII := Lib.hid (lnC_infoL x)
   clear hr
   go_wp2_with (with_reducible refine wpList_load_mid rfl 45 (.tmp 14) rfl g (off + j * 5) rfl (lnC x) _ HR.out Tryz.underlying45 rfl HII.out ?_)
   rw [show Value.agg (lnC x).toArray = lnV x from rfl]
   refine (chk1L x y bl bs wr HL HS).mono ?_
   rintro e w2 ⟨rfl, hg2, hs2⟩
   have HG2 := Lib.hid (grown_trans HG.out hg2)
   have HS2 := Lib.hid hs2
   clear hg2 hs2
   by_cases hok : (vLn x && decide (y < nLn x)) = true
   ·have HCN : Hid (chkE vLn nLn z ls = chkE vLn nLn (nLn x) (ls.drop (j + 1))) := Lib.hid (by rw [HCH.out, HDR.out]; rw [chkE, hok, Bool.true_and])
    rw [hok]
    clear hok
    go_wp2_with fail
    go_roundw
    case rel => exact ⟨j + 1, _, by omega, by go_num, HCN, HG2, HS2⟩
    case measure => simp [intOf]; omega
   ·have hok' : (vLn x && decide (y < nLn x)) = false := by simpa using hok
    have HCN : Hid (chkE vLn nLn z ls = false) := Lib.hid (by rw [HCH.out, HDR.out]; rw [chkE, hok', Bool.false_and])
    rw [hok']
    clear hok hok'
    go_wp2_with fail
    go_ret
    exact ⟨_, rfl, by rw [HCN.out]; exact decide_eq_true (by omega), HG2.out⟩
  ·have d1 : decide ((j : Int) < (n : Int)) = false := decide_eq_false (by omega)
   have d2 : decide (j < n) = false := decide_eq_false hlt
   have HCN : Hid (chkE vLn nLn z ls = true) := Lib.hid (by rw [HCH.out, List.drop_eq_nil_of_le (by rw [HN.out]; omega)]; rfl)
   go_wp2_with fail
   go_ret
   exact ⟨_, rfl, by rw [HCN.out]; rfl, HG.out⟩
theorem containsL (ls : List Ln) (A : Option Addr) (n c : Nat) (z : Int) (bl bs M : Nat) (w : World) (hn : n ≤ 9223372036854775807) (hM : M ≤ bl) (hMs : M ≤ bs) (hne : bl ≠ bs) (hl : Hid (w.heap[bl]? = some (.cells tabL 86 (0, 0)))) (hs : Hid (w.heap[bs]? = some (.cells #[.int .i64 z] 3 (0, 0)))) (h : Hid (InLn w A n c ls)) (hbo : Hid (∀ g off, A = some ⟨g, off, none⟩ → 0 < ls.length → g < M)) :
  Calls Tryz.prog 109 #[.slice A n c, .func (.func 110) #[] #[.pointer (some ⟨bl, 0, none⟩), .pointer (some ⟨bs, 0, none⟩)]] w fun e w' => e = .returned (.bool (!(chkE vLn nLn z ls))) ∧ w.grownBy w' (some bs) := by
 go_enter Tryz.func109, Tryz.ntmps109
 go_wp2_with fail
 refine (indexL ls A n c z bl bs M w hn hM hMs hne hl hs h hbo).mono ?_
 rintro e w2 ⟨r, rfl, hr, hg⟩
 have HR := Lib.hid hr
 have HG := Lib.hid hg
 clear hr hg
 go_wp2_with fail
 go_ret
 exact ⟨by rw [← HR.out]; rfl, HG.out⟩
theorem checkL (ls : List Ln) (A : Option Addr) (n c : Nat) (w : World) (hn : n ≤ 9223372036854775807) (h : Hid (InLn w A n c ls)) :
  Calls Tryz.prog 53 #[.agg tabL, .slice A n c] w fun e w' => e = .returned (.bool (chkE vLn nLn (-1) ls)) ∧ Below w.heap.size w w' := by
 have hb0 := ((Below.refl _ w).alloc (Nat.le_refl _) (.cells tabL 86)).alloc (by simp) (.cells #[.int .i64 (-1)] 3)
 have hr0 := (Below.heap_alloc (w.alloc (.cells tabL 86)) (.cells #[.int .i64 (-1)] 3) w.heap.size (by simp)).trans (heap_alloc_new w (.cells tabL 86))
 have hr1 := heap_alloc_new (w.alloc (.cells tabL 86)) (.cells #[.int .i64 (-1)] 3)
 rw [World.size_alloc] at hr1
 have HB0 := Lib.hid hb0
 have HL0 := Lib.hid hr0
 have HS0 := Lib.hid hr1
 have HI0 := Lib.hid (h.out.below hb0)
 have HBO : Hid (∀ g off, A = some ⟨g, off, none⟩ → 0 < ls.length → g < w.heap.size) := Lib.hid (fun g off e h0 => by
  obtain ⟨g', off', e', hg, _⟩ := h.out.rd h0
  rw [e] at e'; injection e' with e'; injection e' with e1 e2; omega)
 clear hb0 hr0 hr1
 go_enter Tryz.func53, Tryz.ntmps53
 go_wp2_with fail
 refine (containsL ls A n c (-1) w.heap.size (w.heap.size + 1) w.heap.size _ hn (Nat.le_refl _) (Nat.le_succ _) (by omega) HL0 HS0 HI0 HBO).mono ?_
 rintro e w2 ⟨rfl, hg⟩
 have HB2 : Hid (Below w.heap.size w w2) := Lib.hid (HB0.out.grown hg HB0.out.size (fun k hk => by injection hk with hk; omega))
 clear hg
 go_wp2_with fail
 go_ret
 exact ⟨by simp, HB2.out⟩
end Go.Proofs.YtmfmgeapecapiaaGreatDoor
