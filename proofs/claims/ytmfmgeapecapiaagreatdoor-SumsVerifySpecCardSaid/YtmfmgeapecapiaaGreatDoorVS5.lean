/- sizar/tree.Root. region_flow4: as region_flow3, and whoever is done, all that it waits for (phases and chains too) is done. Operations inside a round of a range over a function: rows loaded and stored, slices of nodes and bools built and appended. sizar/tree.Salt. sizar/tree.Leaf of a valid line. sizar/tree.Leaf. sizar/tree.Leaf, every line; slices of three nodes built. Digests compared. Nodes compared; sizarref41.Same. A digest that came in by value. Nodes, lines and slices of them that came in. -/
import Derived.Test.YtmfmgeapecapiaaGreatDoorVS4
import Derived.Test.YtmfmgeapecapiaaGreatDoorVS2
import Derived.Maps.OwnIn
import Derived.Maps.AppendAt
import Derived.OwnWalkIn
import Derived.RangeFuncNested
import Derived.RangeFuncFrom
import Derived.RangeFuncBox
import Derived.Test.YtmfmgeapecapiaaGreatDoorVS3
import Derived.Stop.BytesEq
import Derived.Laws.StructEq
import Derived.Deep.Slices
set_option maxHeartbeats 64000001
open Go.Lib (hid)
namespace Go.Proofs.YtmfmgeapecapiaaGreatDoor
open Go.RowKit SzSha SzTree
set_option linter.unusedVariables false
set_option maxRecDepth 100000
def emptyN : Nd := ⟨tagged sumT [], 0, 0⟩
theorem emptyN_ok : NdOk emptyN := ⟨tagged_length _ _, tagged_bytes _ _, by simp [emptyN], by simp [emptyN]⟩
/-- Root -/
def rootR (ls : List Nd) : Nd := if ls.length ≤ 4096 ∧ vL ls = true then (if ls = [] then emptyN else root ls) else zeroN
def rootE (ls : List Nd) : Int := if ls.length ≤ 4096 ∧ vL ls = true then 0 else 410
theorem rootR_ok {ls : List Nd} (h : ∀ x ∈ ls, NdOk x) : NdOk (rootR ls) := by
 unfold rootR
 split
 ·rename_i hh
  split
  ·exact emptyN_ok
  ·rename_i h2
   exact root_ok _ ls (Nat.le_refl _) (List.length_pos_iff.2 h2) h hh.2
 ·exact zeroN_ok
theorem rootR_yes {ls : List Nd} (h1 : ls.length ≤ 4096) (h2 : vL ls = true) (h3 : 1 ≤ ls.length) : rootR ls = root ls ∧ rootE ls = 0 := by
 have hh : ls.length ≤ 4096 ∧ vL ls = true := ⟨h1, h2⟩
 have h0 : ¬ ls = [] := fun e => by subst e; simp at h3
 unfold rootR rootE
 exact ⟨by rw [if_pos hh, if_neg h0], if_pos hh⟩
theorem rootR_no {ls : List Nd} (h : ¬ (ls.length ≤ 4096 ∧ vL ls = true)) : rootR ls = zeroN ∧ rootE ls = 410 := by
 unfold rootR rootE
 exact ⟨if_neg h, if_neg h⟩
theorem rootR_nil : rootR [] = emptyN ∧ rootE [] = 0 := by
 have hh : ([] : List Nd).length ≤ 4096 ∧ vL [] = true := ⟨by simp, rfl⟩
 unfold rootR rootE
 exact ⟨by rw [if_pos hh, if_pos rfl], if_pos hh⟩
theorem built_node1 (d : List Nat) (h : d.length = 32) : Tryz.prog.built 39 [(0, dgV d)] = some (ndC ⟨d, 0, 0⟩).toArray := by
 rcases d with _ | ⟨x0, d⟩
 ·simp at h
 rcases d with _ | ⟨x1, d⟩
 ·simp at h
 rcases d with _ | ⟨x2, d⟩
 ·simp at h
 rcases d with _ | ⟨x3, d⟩
 ·simp at h
 rcases d with _ | ⟨x4, d⟩
 ·simp at h
 rcases d with _ | ⟨x5, d⟩
 ·simp at h
 rcases d with _ | ⟨x6, d⟩
 ·simp at h
 rcases d with _ | ⟨x7, d⟩
 ·simp at h
 rcases d with _ | ⟨x8, d⟩
 ·simp at h
 rcases d with _ | ⟨x9, d⟩
 ·simp at h
 rcases d with _ | ⟨x10, d⟩
 ·simp at h
 rcases d with _ | ⟨x11, d⟩
 ·simp at h
 rcases d with _ | ⟨x12, d⟩
 ·simp at h
 rcases d with _ | ⟨x13, d⟩
 ·simp at h
 rcases d with _ | ⟨x14, d⟩
 ·simp at h
 rcases d with _ | ⟨x15, d⟩
 ·simp at h
 rcases d with _ | ⟨x16, d⟩
 ·simp at h
 rcases d with _ | ⟨x17, d⟩
 ·simp at h
 rcases d with _ | ⟨x18, d⟩
 ·simp at h
 rcases d with _ | ⟨x19, d⟩
 ·simp at h
 rcases d with _ | ⟨x20, d⟩
 ·simp at h
 rcases d with _ | ⟨x21, d⟩
 ·simp at h
 rcases d with _ | ⟨x22, d⟩
 ·simp at h
 rcases d with _ | ⟨x23, d⟩
 ·simp at h
 rcases d with _ | ⟨x24, d⟩
 ·simp at h
 rcases d with _ | ⟨x25, d⟩
 ·simp at h
 rcases d with _ | ⟨x26, d⟩
 ·simp at h
 rcases d with _ | ⟨x27, d⟩
 ·simp at h
 rcases d with _ | ⟨x28, d⟩
 ·simp at h
 rcases d with _ | ⟨x29, d⟩
 ·simp at h
 rcases d with _ | ⟨x30, d⟩
 ·simp at h
 rcases d with _ | ⟨x31, d⟩
 ·simp at h
 rcases d with _ | ⟨y, d⟩
 ·clear h
  kernel_rfl
 ·simp at h
theorem wpList_build_node1 {w : World} {ops : Array Oper} {rest : List Oper} {o : Oper} {a : Act} {Q : Exit → Act → World → Prop} (hg : o.guard = none) (x : Operand)
  (ho : o.op = .build 39 #[(0, x)]) (d : List Nat) (hd : d.length = 32) (hx : a.eval x = dgV d)
  (h : wpList Tryz.prog ops Q rest (a.put o.dst (ndV ⟨d, 0, 0⟩)) w) : wpList Tryz.prog ops Q (o :: rest) a w := by
 have e1 : (#[(0, x)].map fun (i, x) => (i, a.eval x)).toList = [(0, dgV d)] := by simp [hx]
 refine wpList_build hg 39 _ ho (by rw [e1, built_node1 d hd]; rfl) ?_
 rw [e1, built_node1 d hd]
 exact h
theorem root_any (ls : List Nd) (A : Option Addr) (n c : Nat) (w : World) (hn : n ≤ 9223372036854775807) (h : Hid (InN w A n c ls)) (hT : Hid (Tabs w)) :
  Calls Tryz.prog 78 #[.slice A n c] w fun e w' => e = .returned (.tuple #[ndV (rootR ls), .int .i64 (rootE ls)]) ∧ Below w.heap.size w w' := by
 have HNE := hid (show ls.length = n from h.out.len)
 have HB0 := hid ((Below.refl _ w).alloc (Nat.le_refl _) (.cells (ndC zeroN).toArray 39))
 have HR0 := hid (heap_alloc_new w (.cells (ndC zeroN).toArray 39))
 have HS0 : Hid ((w.alloc (.cells (ndC zeroN).toArray 39)).heap.size = w.heap.size + 1) := hid (by simp)
 have HSZ : Hid ((Tryz.prog.info? 39).map (·.size) = some (ndC zeroN).toArray.size) := hid (by rw [size34 zeroN_ok]; simp)
 have HZ2 : Hid ((ndC zeroN).toArray.size = (ndC zeroN).toArray.size) := hid rfl
 have HIN := hid (h.out.below HB0.out)
 have HT1 := hid (hT.out.below HB0.out)
 rw [zeroN_cells] at HR0 HS0 HB0 HIN HT1
 go_enter Tryz.func78, Tryz.ntmps78
 by_cases hbig : 4096 < n
 ·have d1 : decide (4096 < (n : Int)) = true := eQ (by omega)
  have HE := hid (rootR_no (ls := ls) (fun hh => by have := HNE.out; omega))
  go_wp2_with (first | (refine wpList_load_row rfl 39 (.tmp 2) rfl w.heap.size rfl 39 _ (0, 0) _ HR0.out Tryz.underlying39 rfl HSZ.out ?_) | (refine wpList_store_row rfl 39 (.tmp 2) (.tmp 13) rfl w.heap.size (ndC zeroN).toArray rfl rfl 39 _ HR0.out HSZ.out rfl (ndC_one zeroN) ?_))
  rw [← zeroN_cells]
  rw [← zeroN_cells] at HR0 HB0
  have hr := setRow_heap (w.alloc (.cells (ndC zeroN).toArray 39)) w.heap.size _ (ndC zeroN).toArray _ _ HR0.out
  have hl := run_loadVar_row (P := Tryz.prog) ((w.alloc (.cells (ndC zeroN).toArray 39)).setRow w.heap.size (ndC zeroN).toArray) w.heap.size 39 39 (ndC zeroN).toArray (0, 0) _ hr Tryz.underlying39 rfl HSZ.out
  refine bodyPost_ret (v := .tuple #[ndV zeroN, .int .i64 410]) ?_ rfl ⟨by rw [HE.out.1, HE.out.2], below_setRow HB0.out (Nat.le_refl _) _⟩
  unfold ndV
  simp [results, Tryz.results78, asAddr, hl]
 ·have d1 : decide (4096 < (n : Int)) = false := dQ (by omega)
  go_wp2_with fail
  refine (valid_any ls A n c _ (by omega) HIN).mono ?_
  rintro e W1 ⟨rfl, hq⟩
  have HB1 := hid (HB0.out.trans (hq.mono HB0.out.size))
  have HR1 := hid ((hq.block w.heap.size (by rw [HS0.out]; omega)).trans HR0.out)
  have HIN1 := hid (HIN.out.below hq)
  have HT2 := hid (HT1.out.below hq)
  clear HB0 HR0 HS0 HIN HT1 hq
  by_cases hv : vL ls = true
  ·rw [hv]
   by_cases h0 : n = 0
   ·have hl0 : ls = [] := List.eq_nil_of_length_eq_zero (by rw [HNE.out]; exact h0)
    subst hl0
    subst h0
    go_wp2_with fail
    refine (tagged_any sumTag none 0 0 [] W1 (by decide) (hid rfl) (Nat.le_refl _) (fun _ => rfl) (by omega) (hid (fun x hx => by cases hx)) HT2 (hid (fun h => by simp at h))).mono ?_
    rintro e W2 ⟨rfl, hq2⟩
    rw [sumTag_eq]
    have HB2 := hid (HB1.out.trans (hq2.mono HB1.out.size))
    have HR2 := hid ((hq2.block w.heap.size (Array.getElem?_eq_some_iff.1 HR1.out).1).trans HR1.out)
    have HE := hid rootR_nil
    have HS1 : Hid ((Tryz.prog.info? 39).map (·.size) = some (ndC emptyN).toArray.size) := hid (by rw [size34 emptyN_ok]; simp)
    have HS2 : Hid (34 = (ndC emptyN).toArray.size) := hid (by simp [ndC_length emptyN_ok])
    clear hq2
    go_wp2_with (first | (refine wpList_build_node1 rfl (.tmp 17) rfl (tagged sumT []) (tagged_length _ _) rfl ?_) | (refine wpList_store_row rfl 39 (.tmp 2) (.tmp 18) rfl w.heap.size (ndC emptyN).toArray rfl rfl 39 _ HR2.out HS1.out HS2.out (ndC_one _) ?_))
    have hr := setRow_heap W2 w.heap.size _ (ndC emptyN).toArray _ _ HR2.out
    have hl := run_loadVar_row (P := Tryz.prog) (W2.setRow w.heap.size (ndC emptyN).toArray) w.heap.size 39 39 (ndC emptyN).toArray (0, 0) _ hr Tryz.underlying39 rfl HS1.out
    refine bodyPost_ret (v := .tuple #[ndV emptyN, .int .i64 0]) ?_ rfl ⟨by rw [HE.out.1, HE.out.2], below_setRow HB2.out (Nat.le_refl _) _⟩
    unfold ndV
    simp [results, Tryz.results78, asAddr, hl]
   ·have d2 : decide ((n : Int) = 0) = false := dQ (by omega)
    go_wp2_with fail
    have HE := hid (rootR_yes (ls := ls) (by rw [HNE.out]; omega) hv (by rw [HNE.out]; omega))
    have HROK : Hid (NdOk (root ls)) := hid (root_ok _ ls (Nat.le_refl _) (by rw [HNE.out]; omega) h.out.ok hv)
    have HS1 : Hid ((Tryz.prog.info? 39).map (·.size) = some (ndC (root ls)).toArray.size) := hid (by rw [size34 HROK.out]; simp)
    have HS2 : Hid (34 = (ndC (root ls)).toArray.size) := hid (by simp [ndC_length HROK.out])
    have HBF := hid ((Below.refl _ W1).alloc (Nat.le_refl _) (.cells #[.func (.func 122) #[] #[.pointer (some ⟨W1.heap.size, 0, none⟩)]] 164))
    refine (fold_any n ls A n c W1.heap.size _ (Nat.le_refl _) (by omega) (by omega) (hid (HIN1.out.below HBF.out)) (hid hv) (hid (by rw [cell_of_row _ _ _ _ _ _ (heap_alloc_new W1 _)]; rfl)) (hid (HT2.out.below HBF.out))).mono ?_
    rintro e W2 ⟨rfl, hq2⟩
    have hq3 := HBF.out.trans (hq2.mono HBF.out.size)
    have HB2 := hid (HB1.out.trans (hq3.mono HB1.out.size))
    have HR2 := hid ((hq3.block w.heap.size (Array.getElem?_eq_some_iff.1 HR1.out).1).trans HR1.out)
    clear hq2 hq3
    go_wp2_with (refine wpList_store_row rfl 39 (.tmp 2) (.tmp 22) rfl w.heap.size (ndC (root ls)).toArray rfl rfl 39 _ HR2.out HS1.out HS2.out (ndC_one _) ?_)
    have hr := setRow_heap W2 w.heap.size _ (ndC (root ls)).toArray _ _ HR2.out
    have hl := run_loadVar_row (P := Tryz.prog) (W2.setRow w.heap.size (ndC (root ls)).toArray) w.heap.size 39 39 (ndC (root ls)).toArray (0, 0) _ hr Tryz.underlying39 rfl HS1.out
    refine bodyPost_ret (v := .tuple #[ndV (root ls), .int .i64 0]) ?_ rfl ⟨by rw [HE.out.1, HE.out.2], below_setRow HB2.out (Nat.le_refl _) _⟩
    unfold ndV
    simp [results, Tryz.results78, asAddr, hl]
  ·have hv2 : vL ls = false := by simpa using hv
   rw [hv2]
   have HE := hid (rootR_no (ls := ls) (fun hh => hv hh.2))
   go_wp2_with (first | (refine wpList_load_row rfl 39 (.tmp 2) rfl w.heap.size rfl 39 _ (0, 0) _ HR1.out Tryz.underlying39 rfl HSZ.out ?_) | (refine wpList_store_row rfl 39 (.tmp 2) (.tmp 13) rfl w.heap.size (ndC zeroN).toArray rfl rfl 39 _ HR1.out HSZ.out rfl (ndC_one zeroN) ?_))
   rw [← zeroN_cells] at HR1
   have hr := setRow_heap W1 w.heap.size _ (ndC zeroN).toArray _ _ HR1.out
   have hl := run_loadVar_row (P := Tryz.prog) (W1.setRow w.heap.size (ndC zeroN).toArray) w.heap.size 39 39 (ndC zeroN).toArray (0, 0) _ hr Tryz.underlying39 rfl HSZ.out
   refine bodyPost_ret (v := .tuple #[ndV zeroN, .int .i64 410]) ?_ rfl ⟨by rw [HE.out.1, HE.out.2], below_setRow HB1.out (Nat.le_refl _) _⟩
   unfold ndV
   simp [results, Tryz.results78, asAddr, hl]
section
variable {P : Program} {ops : Array Oper}
def waitsB (l : List Oper) (m j : Nat) : Bool := (l[m]?.map fun o => o.after.any fun e => Region.binds .any e && Nat.beq e.on j).getD false
def FlowAll4 (P : Program) (ops : Array Oper) (E : Nat → Bool) (l0 : List Oper) (k : Nat → Nat) (build : (Nat → Value) → Array Value) (df : List Deferred) (C : (Nat → Bool) → (Nat → Value) → World → Prop) (S : Nat → Value → Value → World → Prop) : Nat → List Oper → Prop
 | _, [] => True
 | i, o :: l => (∀ L x w, C L x w → L i = false → (∀ m j, L m = true → waitsB l0 m j = true → L j = true) → (∀ m, waitsB l0 i m = true → L m = true) → Deps3 k S x w o.after.toList → wpList P ops (FlowPost3 E l0 k build df C S i L x w) [o] ⟨build x, df⟩ w) ∧ FlowAll4 P ops E l0 k build df C S (i + 1) l
theorem FlowAll4.at {l0 : List Oper} {E : Nat → Bool} {k : Nat → Nat} {build : (Nat → Value) → Array Value} {df : List Deferred} {C : (Nat → Bool) → (Nat → Value) → World → Prop} {S : Nat → Value → Value → World → Prop} :
  ∀ (l : List Oper) (m i : Nat) (o : Oper), FlowAll4 P ops E l0 k build df C S m l → l[i]? = some o → ∀ L x w, C L x w → L (m + i) = false → (∀ m' j, L m' = true → waitsB l0 m' j = true → L j = true) → (∀ m', waitsB l0 (m + i) m' = true → L m' = true) → Deps3 k S x w o.after.toList → wpList P ops (FlowPost3 E l0 k build df C S (m + i) L x w) [o] ⟨build x, df⟩ w
 | [], m, i, o, _, h => by simp at h
 | o' :: l, m, 0, o, h, ho => by
  have : o' = o := by simpa using ho
  subst this
  exact h.1
 | o' :: l, m, i + 1, o, h, ho => by
  have := FlowAll4.at l (m + 1) i o h.2 (by simpa using ho)
  rw [show m + (i + 1) = m + 1 + i by omega]
  exact this
theorem any_flow4 {E : Nat → Bool} {k : Nat → Nat} {l : List Oper} {Q : Exit → Act → World → Prop} {build : (Nat → Value) → Array Value} {df : List Deferred} {C : (Nat → Bool) → (Nat → Value) → World → Prop} {S : Nat → Value → Value → World → Prop} (hB : flowB l = true) (hk : tiedB k l = true) (hall : FlowAll4 P l.toArray E l k build df C S 0 l)
  (hend : ∀ L x w, C L x w → (∀ i, i < l.length → E i = true → S i (x i) (x (k i)) w) → Q .normal ⟨build x, df⟩ w) :
  ∀ (f : Nat) (listed : Array Bool) (x : Nat → Value) (w : World), listed.size = l.length → cnt listed l.length ≤ f → C (fun j => listed.getD j false) x w → (∀ i, listed.getD i false = true → (E i = true ∨ ∃ m, m < l.length ∧ listed.getD m true = false ∧ usesB l m i = true) → S i (x i) (x (k i)) w) → (∀ i, listed.getD i false = true → listed.getD (k i) false = true) → (∀ m j, listed.getD m false = true → waitsB l m j = true → listed.getD j false = true) → wpAny P .any l.toArray Q f listed ⟨build x, df⟩ w := by
 have hfull : ∀ (listed : Array Bool) (x : Nat → Value) (w : World), listed.size = l.length → C (fun j => listed.getD j false) x w → (∀ i, listed.getD i false = true → (E i = true ∨ ∃ m, m < l.length ∧ listed.getD m true = false ∧ usesB l m i = true) → S i (x i) (x (k i)) w) → Region.ready .any l.toArray listed = [] → Q .normal ⟨build x, df⟩ w := by
  intro listed x w hs hC hS hr
  have hlt : ∀ n i, i < n → i < l.length → listed.getD i true = true := by
   intro n
   induction n with
   | zero => intro i hi; omega
   | succ n ih =>
    intro i hi hil
    rcases Nat.lt_or_ge i n with h | h
    ·exact ih i h hil
    ·obtain rfl : i = n := by omega
     apply Classical.byContradiction
     intro hne
     have hf : listed.getD i true = false := by simpa using hne
     have : i ∈ Region.ready .any l.toArray listed := by
      refine mem_ready.2 ⟨hf, l[i], by simp [hil], fun e he hbd => ?_⟩
      have h1 := List.all_eq_true.1 hB i (by simpa using hil)
      simp only [List.getElem?_eq_getElem hil, Option.map_some, Option.getD_some] at h1
      have h2 := Array.all_eq_true_iff_forall_mem.1 h1 e he
      have h3 : e.on < i := by rw [hbd] at h2; simpa using h2
      have h4 := ih e.on h3 (by omega)
      have h5 : e.on < listed.size := by omega
      simp only [Array.getD, h5, dite_true] at h4 ⊢
      exact h4
     rw [hr] at this
     cases this
  refine hend _ x w hC fun i hi hE => hS i ?_ (.inl hE)
  have h4 := hlt (i + 1) i (by omega) hi
  have h5 : i < listed.size := by omega
  simp only [Array.getD, h5, dite_true] at h4 ⊢
  exact h4
 intro f
 induction f with
 | zero =>
  intro listed x w hs hc hC hS hT hD
  have hr : Region.ready .any l.toArray listed = [] := by
   rw [List.eq_nil_iff_forall_not_mem]
   intro i hi
   obtain ⟨hu, o, ho, _⟩ := mem_ready.1 hi
   have hil : i < l.length := by have := (Array.getElem?_eq_some_iff.1 ho).1; simpa using this
   have : 0 < cnt listed l.length := List.countP_pos_iff.2 ⟨i, by simpa using hil, by rw [hu]; rfl⟩
   omega
  exact ⟨hr, hfull listed x w hs hC hS hr⟩
 | succ f ih =>
  intro listed x w hs hc hC hS hT hD
  refine ⟨fun hr => hfull listed x w hs hC hS hr, fun i hi => ?_⟩
  obtain ⟨hu, o, ho, hd⟩ := mem_ready.1 hi
  have hil : i < l.length := by have := (Array.getElem?_eq_some_iff.1 ho).1; simpa using this
  have hol : l[i]? = some o := by simpa using ho
  have hui : listed.getD i false = false := by
   have : i < listed.size := by omega
   simp only [Array.getD, this, dite_true] at hu ⊢
   exact hu
  have hdn : ∀ j, waitsB l (0 + i) j = true → listed.getD j false = true := fun j huse => by
   rw [Nat.zero_add] at huse
   unfold waitsB at huse
   rw [hol, Option.map_some, Option.getD_some] at huse
   obtain ⟨q, hq, h2⟩ := Array.any_eq_true.1 huse
   simp only [Bool.and_eq_true] at h2
   have h3 := hd _ (Array.getElem_mem hq) h2.1
   rw [Nat.eq_of_beq_eq_true h2.2] at h3
   exact h3
  have hstep := hall.at l 0 i o hol (fun j => listed.getD j false) x w hC (by rw [Nat.zero_add]; exact hui) hD hdn (deps3_of _ fun e he hb => hS e.on (hd e (by simpa using he) (dataE_binds hb)) (.inr ⟨i, hil, hu, by
   unfold usesB
   rw [hol, Option.map_some, Option.getD_some]
   exact Array.any_eq_true'.2 ⟨e, by simpa using he, by rw [hb]; simp⟩⟩))
  rw [Nat.zero_add] at hstep
  refine wpOp_flow ho (fun e a w he h => ?_) (fun a' w' h => ?_) hstep
  ·cases e <;> first | exact he rfl | exact h
  ·obtain ⟨v, rfl, hC', hS', hk'⟩ := h
   have hfe : (fun j => (listed.setIfInBounds i true).getD j false) = updB (fun j => listed.getD j false) i := by
    funext j
    by_cases e : j = i
    ·subst e
     have h1 : j < (listed.setIfInBounds j true).size := by simp; omega
     rw [updB_same]
     simp only [Array.getD, h1, dite_true]; simp
    ·rw [getD_set_ne false (Ne.symm e)]
     unfold updB
     rw [show Nat.beq j i = false by cases hb : Nat.beq j i; rfl; exact absurd (Nat.eq_of_beq_eq_true hb) e]; rfl
   have hset0 : ∀ m, listed.getD m false = true → (listed.setIfInBounds i true).getD m false = true := fun m hm => by
    have := congrFun hfe m
    rw [this]; unfold updB; simp only [hm, Bool.or_true]
   refine ih _ _ _ (by simp [hs]) ?_ (by rw [hfe]; exact hC') (fun j hj hn => ?_) (fun j hj => ?_) fun m j hm huse => ?_
   ·have h1 := countP_drop (p := fun k => !listed.getD k true) (q := fun k => !(listed.setIfInBounds i true).getD k true) (i := i) (List.range l.length) List.nodup_range (by simpa using hil) (by rw [hu]; rfl)
     (by have : i < (listed.setIfInBounds i true).size := by simp; omega
         simp only [Array.getD, this, dite_true]; simp) (fun j hj => by rw [getD_set_ne true (Ne.symm hj)])
    have h2 : cnt listed l.length ≤ f + 1 := hc
    unfold cnt at h2 ⊢
    omega
   ·by_cases e : j = i
    ·subst e; rw [upd_same]; exact hS'
    ·rw [getD_set_ne false (Ne.symm e)] at hj
     have hki : k j ≠ i := fun e2 => by
      have := hT j hj
      rw [e2, getD_both hu] at this
      cases this
     rw [upd_ne x v e, upd_ne x v hki]
     have hn' : E j = true ∨ ∃ m, m < l.length ∧ m ≠ i ∧ listed.getD m true = false ∧ usesB l m j = true := by
      rcases hn with h | ⟨m, h1, h2, h3⟩
      ·exact .inl h
      ·refine .inr ⟨m, h1, ?_, ?_, h3⟩
       ·intro em
        subst em
        have : m < (listed.setIfInBounds m true).size := by simp; omega
        simp only [Array.getD, this, dite_true] at h2
        simp at h2
       ·by_cases em : m = i
        ·subst em
         have : m < (listed.setIfInBounds m true).size := by simp; omega
         simp only [Array.getD, this, dite_true] at h2
         simp at h2
        ·rwa [getD_set_ne true (Ne.symm em)] at h2
     refine hk' j _ _ hj ?_ (hS j hj ?_)
     ·rcases hn' with h | ⟨m, h1, h2, h4, h3⟩
      ·exact .inl h
      ·refine .inr ⟨m, mem_users h1 h3, h2, ?_⟩
       have : m < listed.size := by omega
       simp only [Array.getD, this, dite_true] at h4 ⊢
       exact h4
     ·rcases hn' with h | ⟨m, h1, _, h2, h3⟩
      ·exact .inl h
      ·exact .inr ⟨m, h1, h2, h3⟩
   ·have hset : ∀ m, listed.getD m false = true → (listed.setIfInBounds i true).getD m false = true := fun m hm => by
     by_cases e : m = i
     ·subst e; rw [getD_both hu] at hm; cases hm
     ·rw [getD_set_ne false (Ne.symm e)]; exact hm
    by_cases e : j = i
    ·subst e
     have h1 := List.all_eq_true.1 hk j (by simpa using hil)
     simp only [Bool.or_eq_true] at h1
     rcases h1 with h1 | h1
     ·rw [Nat.eq_of_beq_eq_true h1]; exact hj
     ·have ho' : l[j]? = some o := by simpa using ho
      rw [ho', Option.map_some, Option.getD_some] at h1
      obtain ⟨m, hm, h2⟩ := Array.any_eq_true.1 h1
      obtain ⟨e, he, h2⟩ : ∃ e ∈ o.after, (Region.binds .any e && Nat.beq e.on (k j)) = true := ⟨_, Array.getElem_mem hm, h2⟩
      simp only [Bool.and_eq_true] at h2
      rw [← Nat.eq_of_beq_eq_true h2.2]
      exact hset _ (hd e he h2.1)
    ·rw [getD_set_ne false (Ne.symm e)] at hj
     exact hset _ (hT j hj)
   ·by_cases e : m = i
    ·subst e
     unfold waitsB at huse
     rw [hol, Option.map_some, Option.getD_some] at huse
     obtain ⟨q, hq, h2⟩ := Array.any_eq_true.1 huse
     simp only [Bool.and_eq_true] at h2
     have h3 := hd _ (Array.getElem_mem hq) h2.1
     rw [Nat.eq_of_beq_eq_true h2.2] at h3
     exact hset0 _ h3
    ·rw [getD_set_ne false (Ne.symm e)] at hm
     exact hset0 _ (hD m j hm huse)
/-- the region -/
theorem region_flow4 {l : List Oper} {Q : Exit → Act → World → Prop} {id : Nat} {df : List Deferred} {w : World} (hm : P.follows .mixedOrders = true) (hB : flowB l = true) (E : Nat → Bool)
  (k : Nat → Nat) (hk : tiedB k l = true) (build : (Nat → Value) → Array Value) (x0 : Nat → Value) (C : (Nat → Bool) → (Nat → Value) → World → Prop) (S : Nat → Value → Value → World → Prop) (hC : C (fun _ => false) x0 w.drew) (hall : FlowAll4 P l.toArray E l k build df C S 0 l)
  (hend : ∀ L x w, C L x w → (∀ i, i < l.length → E i = true → S i (x i) (x (k i)) w) → Q .normal ⟨build x, df⟩ w) : (Code.region id l.toArray true).wp P Q ⟨build x0, df⟩ w := by
 have hf : (fun j => (Array.replicate l.toArray.size false).getD j false) = fun _ => false := by funext j; exact getD_replicate_false _ _
 refine wp_region_any hm (any_flow4 hB hk hall hend _ _ _ _ (by simp) ?_ (by rw [hf]; exact hC) (fun i hi => ?_) (fun i hi => ?_) fun m j hm _ => ?_)
 ·have : cnt (Array.replicate l.toArray.size false) l.length ≤ (List.range l.length).length := List.countP_le_length
  simpa using this
 ·rw [getD_replicate_false] at hi; cases hi
 ·rw [getD_replicate_false] at hi; cases hi
 ·rw [getD_replicate_false] at hm; cases hm
end
section
variable {F : Fence} {nF : Nat} {P : Program} {ops : Array Oper} {rest : List Oper} {o : Oper} {a : Act} {w : World} {Q : Exit → Act → World → Prop}
theorem wpListIn_load_row (hgd : o.guard = none) (ty : TypeId) (x : Operand) (ho : o.op = .load ty x)
  (g : Nat) (hx : a.eval x = .pointer (some ⟨g, 0, none⟩)) (t : TypeId) (cs : Array Value) (fr : Nat × Nat) (d : TypeDesc) (hg : w.heap[g]? = some (.cells cs t fr))
  (hu : P.underlying ty = some d) (hd : (match d with | .struct _ | .array _ _ => true | _ => false) = true) (hi : (P.info? ty).map (·.size) = some cs.size)
  (h : wpListIn F nF P ops Q rest (a.put o.dst (.agg cs)) w) : wpListIn F nF P ops Q (o :: rest) a w := by
 refine wpListIn_plain hgd fun K hK => ?_
 unfold Oper.wpIn
 refine ⟨by simp [Oper.about, ho], ?_⟩
 rw [Oper.semAt_plain F _ _ (by rw [ho]; intro c hc'; cases hc')]
 unfold execOp
 simp only [ho, hx, Instr.loadAt, Instr.sureAddr, Sem.run_bind, Sem.run_pure, Result.andThen_ok, run_loadVar_row w g t ty cs fr d hg hu hd hi]
 exact hK _ _ h
theorem wpListIn_store_row (hgd : o.guard = none) (ty : TypeId) (x y : Operand) (ho : o.op = .store ty x y)
  (g : Nat) (cells : Array Value) (hx : a.eval x = .pointer (some ⟨g, 0, none⟩)) (hy : a.eval y = .agg cells)
  (t : TypeId) (old : Array Value) (hg : w.heap[g]? = some (.cells old t (0, 0))) (hi : (P.info? ty).map (·.size) = some cells.size)
  (hold : old.size = cells.size) (h1 : cells.all (·.oneCell') = true)
  (h : wpListIn F nF P ops Q rest (a.put o.dst undef) (w.setRow g cells)) : wpListIn F nF P ops Q (o :: rest) a w := by
 refine wpListIn_plain hgd fun K hK => ?_
 unfold Oper.wpIn
 refine ⟨by simp [Oper.about, ho], ?_⟩
 rw [Oper.semAt_plain F _ _ (by rw [ho]; intro c hc'; cases hc')]
 unfold execOp
 simp only [ho, hx, hy, Instr.storeAt, Instr.sureAddr, Sem.run_bind, Sem.run_pure, Result.andThen_ok, run_storeVar_row w g t ty old cells hg hi hold h1]
 exact hK _ _ h
theorem wpListIn_buildSlice (hgd : o.guard = none) (t e : TypeId) (len : Nat) (parts : Array (Nat × Operand)) (ho : o.op = .buildSlice t len parts)
  (cells : Array Value) (ie : TypeInfo) (z : Value)
  (hu : P.underlying t = some (.slice e)) (hie : P.info? e = some ie) (hz : ie.zero = some z) (hsmall : ¬ len * ie.size > 2 ^ 24) (hpos : ¬ len * ie.size = 0)
  (hf : Instr.fill (fun i => some (i * ie.size, ie.size)) ((Array.range (len * ie.size)).map (z.cells[· % z.cells.size]!)) (parts.map fun (i, x) => (i, a.eval x)).toList = some cells)
  (h : wpListIn F nF P ops Q rest (a.put o.dst (.slice (some ⟨w.heap.size, 0, none⟩) len len)) (w.alloc (.cells cells e))) : wpListIn F nF P ops Q (o :: rest) a w := by
 refine wpListIn_plain hgd fun K hK => ?_
 unfold Oper.wpIn
 refine ⟨by simp [Oper.about, ho], ?_⟩
 rw [Oper.semAt_plain F _ _ (by rw [ho]; intro c hc'; cases hc')]
 unfold execOp
 simp only [ho, Sem.run_bind, run_buildSlice w t e len _ cells ie z hu hie hz hsmall hpos hf, Result.andThen_ok]
 exact hK _ _ h
end
theorem info_node : ∃ i, Tryz.prog.info? 39 = some i ∧ i.zero = some (.agg (Array.replicate 32 (.int .u8 0) ++ #[.int .i64 0, .int .i64 0])) ∧ i.size = 34 ∧ i.bytes = 48 := by
 refine ⟨_, rfl, ?_, ?_, ?_⟩ <;> kernel_rfl
theorem fill_node1 {n : Nd} (hn : NdOk n) {i : TypeInfo} {z : Value} (hs : i.size = 34) : Instr.fill (fun j => some (j * i.size, i.size)) ((Array.range (1 * i.size)).map (z.cells[· % z.cells.size]!)) [(0, ndV n)] = some (flatN [n]).toArray := by
 rw [hs]
 have e1 : ([(0, ndV n)] : List (Nat × Value)) = (([ndV n] : List Value).zipIdx 0).map fun x => (x.2, x.1) := by simp
 rw [e1, Great.fill_whole (by omega) [ndV n] _ (fun v hv => by
  simp only [List.mem_cons, List.not_mem_nil, or_false] at hv
  subst hv
  rw [nd_cells]; simpa using ndC_length hn) (by simp)]
 rfl
theorem wpList_build_nodes1 {w : World} {ops : Array Oper} {rest : List Oper} {o : Oper} {a : Act} {Q : Exit → Act → World → Prop} (hg : o.guard = none) (x : Operand)
  (ho : o.op = .buildSlice 30 1 #[(0, x)]) (n : Nd) (hx : a.eval x = ndV n) (hn : NdOk n)
  (h : wpList Tryz.prog ops Q rest (a.put o.dst (.slice (some ⟨w.heap.size, 0, none⟩) 1 1)) (w.alloc (.cells (flatN [n]).toArray 39))) : wpList Tryz.prog ops Q (o :: rest) a w := by
 obtain ⟨i0, hi, hz, hs, _⟩ := info_node
 refine wpList_buildSlice hg 30 39 1 _ ho _ i0 _ Tryz.underlying30 hi hz (by rw [hs]; omega) (by rw [hs]; omega) ?_ h
 have e1 : (#[(0, x)].map fun (i, x) => (i, a.eval x)).toList = [(0, ndV n)] := by simp [hx]
 rw [e1]; exact fill_node1 hn hs
theorem wpListIn_build_nodes1 {F : Fence} {nF : Nat} {w : World} {ops : Array Oper} {rest : List Oper} {o : Oper} {a : Act} {Q : Exit → Act → World → Prop} (hg : o.guard = none) (x : Operand)
  (ho : o.op = .buildSlice 30 1 #[(0, x)]) (n : Nd) (hx : a.eval x = ndV n) (hn : NdOk n)
  (h : wpListIn F nF Tryz.prog ops Q rest (a.put o.dst (.slice (some ⟨w.heap.size, 0, none⟩) 1 1)) (w.alloc (.cells (flatN [n]).toArray 39))) : wpListIn F nF Tryz.prog ops Q (o :: rest) a w := by
 obtain ⟨i0, hi, hz, hs, _⟩ := info_node
 refine wpListIn_buildSlice hg 30 39 1 _ ho _ i0 _ Tryz.underlying30 hi hz (by rw [hs]; omega) (by rw [hs]; omega) ?_ h
 have e1 : (#[(0, x)].map fun (i, x) => (i, a.eval x)).toList = [(0, ndV n)] := by simp [hx]
 rw [e1]; exact fill_node1 hn hs
/-- a slice of nodes that the call made -/
def OwnN (w : World) (base : Nat) (v : Value) (ls : List Nd) : Prop := w.ownsRow base 39 34 v ls.length (flatN ls)
theorem OwnN.nil (w : World) (base : Nat) : OwnN w base (.slice none 0 0) [] := ⟨rfl, .inl ⟨rfl, rfl⟩⟩
theorem flatN_append (a b : List Nd) : flatN (a ++ b) = flatN a ++ flatN b := by unfold flatN; rw [List.flatMap_append]
theorem flatN_one (ls : List Nd) : ∀ u ∈ flatN ls, u.oneCell' = true := fun u hu => by
 obtain ⟨n, _, h⟩ := List.mem_flatMap.1 hu
 have := ndC_one n
 rw [Array.all_eq_true_iff_forall_mem] at this
 exact this u (by simpa using h)
theorem there_row {w : World} {g : Nat} {cur : Array Value} {t : TypeId} (h : w.heap[g]? = some (.cells cur t (0, 0))) {m : Nat} (hm : m ≤ cur.size) : w.there g 0 m := fun j hj => by
 rw [Nat.zero_add]
 exact ⟨by rw [cell_of_row w g j cur _ _ h]; simp; omega, by simp [World.frozen?, h]⟩
theorem OwnN.kept {w w' : World} {base : Nat} {v : Value} {ls : List Nd} (h : OwnN w base v ls) (hk : ∀ g, v.ownBlock = some g → w'.heap[g]? = w.heap[g]?) : OwnN w' base v ls := by
 refine ⟨h.1, ?_⟩
 rcases h.2 with h0 | ⟨g, cap, cur, rfl, hb, hh, r⟩
 ·exact .inl h0
 ·exact .inr ⟨g, cap, cur, rfl, hb, (hk g rfl).trans hh, r⟩
theorem OwnN.block {w : World} {base : Nat} {v : Value} {ls : List Nd} (h : OwnN w base v ls) (g : Nat) (hg : v.ownBlock = some g) : base ≤ g ∧ g < w.heap.size ∧ ∃ cur, w.heap[g]? = some (.cells cur 39 (0, 0)) := by
 rcases h.2 with ⟨rfl, h0⟩ | ⟨g', cap, cur, rfl, hb, hh, r⟩
 ·cases hg
 ·have : g' = g := by simpa [Value.ownBlock] using hg
  subst this
  exact ⟨hb, (Array.getElem?_eq_some_iff.1 hh).1, cur, hh⟩
theorem OwnN.below {w w' : World} {base : Nat} {v : Value} {ls : List Nd} (h : OwnN w base v ls) (hb : Below w.heap.size w w') : OwnN w' base v ls := h.kept fun g hg => hb.block g (h.block g hg).2.1
theorem OwnN.form {w : World} {base : Nat} {v : Value} {ls : List Nd} (h : OwnN w base v ls) : ∃ A n c, v = .slice A n c := by
 rcases h.2 with ⟨rfl, h0⟩ | ⟨g, cap, cur, rfl, r⟩
 ·exact ⟨_, _, _, rfl⟩
 ·exact ⟨_, _, _, rfl⟩
/-- the slice, read -/
theorem OwnN.slice {w : World} {base : Nat} {v : Value} {ls : List Nd} (h : OwnN w base v ls) (ho : ∀ x ∈ ls, NdOk x) : ∃ A n c, v = .slice A n c ∧ InN w A n c ls ∧ (∀ x, A = some x → ∃ g, x = ⟨g, 0, none⟩ ∧ base ≤ g ∧ w.there g 0 (n * 34)) := by
 rcases h.2 with ⟨rfl, h0⟩ | ⟨g, cap, cur, rfl, hb, hh, hc, hm, hs, ht⟩
 ·exact ⟨none, 0, 0, rfl, ⟨h0, Nat.le_refl _, fun _ => rfl, ho, fun h1 => by omega⟩, fun x hx => by cases hx⟩
 ·refine ⟨_, _, cap, rfl, ⟨rfl, hc, (fun e => by cases e), ho, fun _ => ⟨g, 0, rfl, (Array.getElem?_eq_some_iff.1 hh).1, fun j u hj => ?_⟩⟩, fun x hx => by cases hx; exact ⟨g, rfl, hb, there_row hh (by rw [hs]; exact Nat.mul_le_mul_right 34 hc)⟩⟩
  have hj2 : j < ls.length * 34 := by rw [← flatN_length ls ho]; exact (List.getElem?_eq_some_iff.1 hj).1
  rw [Nat.zero_add, cell_of_row w g j cur _ _ hh]
  rw [← ht, List.getElem?_take_of_lt hj2] at hj
  simpa using hj
/-- append of a node to a slice of the call's own -/
theorem append_node_post {base : Nat} {w w' : World} {v v' : Value} {ls : List Nd} {n : Nd} (hown : OwnN w base v ls) (h1 : w'.ownsRow base 39 34 v' (ls.length + 1) (flatN ls ++ flatN [n])) (h2 : w.grownBy w' v.ownBlock) (hbase : base ≤ w.heap.size) : OwnN w' base v' (ls ++ [n]) := by
 unfold OwnN
 rw [flatN_append, List.length_append]; exact h1
theorem wpListIn_append_node {F : Fence} {nF : Nat} {w : World} {ops : Array Oper} {rest : List Oper} {o : Oper} {a : Act} {Q : Exit → Act → World → Prop} (hgd : o.guard = none) (s x : Operand)
  (ho : o.op = .call { callee := .builtin .append, args := #[s, x], argTypes := #[30, 30] })
  (base : Nat) (v : Value) (ls : List Nd) (n : Nd) (hs : a.eval s = v) (hown : Hid (OwnN w base v ls)) (hn : NdOk n) (g : Nat) (hx : a.eval x = .slice (some ⟨g, 0, none⟩) 1 1)
  (hr : Hid (w.heap[g]? = some (.cells (flatN [n]).toArray 39 (0, 0)))) (hlen : ls.length ≤ 100000) (hbase : base ≤ w.heap.size)
  (h : ∀ v' w', Hid (OwnN w' base v' (ls ++ [n])) → Hid (w.grownBy w' v.ownBlock) → wpListIn F nF Tryz.prog ops Q rest (a.put o.dst v') w') : wpListIn F nF Tryz.prog ops Q (o :: rest) a w := by
 obtain ⟨i0, hi, hz, hz1, hz2⟩ := info_node
 refine wpListIn_append_own_at _ hgd s x _ ho base _ i0 _ 34 48 Tryz.underlying30 hi hz hz1 hz2 (by simp [Value.cells]) (by omega) v _ _ hs hown.out ⟨g, 0, none⟩ 1 1 (flatN [n]) hx (by rw [flatN_length _ (fun y hy => by simp at hy; subst hy; exact hn)]; rfl) (fun j u hu => by rw [add_row]; exact range_row hr.out j u hu) (flatN_one _) (by unfold maxLen; omega) (by omega) hbase ?_
 intro v' w' h1 h2 h3 h4
 have := append_node_post hown.out h1 h2 hbase
 exact h v' w' (hid this) (hid h2)
theorem wpList_append_node {w : World} {ops : Array Oper} {rest : List Oper} {o : Oper} {a : Act} {Q : Exit → Act → World → Prop} (hgd : o.guard = none) (s x : Operand)
  (ho : o.op = .call { callee := .builtin .append, args := #[s, x], argTypes := #[30, 30] })
  (base : Nat) (v : Value) (ls : List Nd) (n : Nd) (hs : a.eval s = v) (hown : Hid (OwnN w base v ls)) (hn : NdOk n) (g : Nat) (hx : a.eval x = .slice (some ⟨g, 0, none⟩) 1 1)
  (hr : Hid (w.heap[g]? = some (.cells (flatN [n]).toArray 39 (0, 0)))) (hlen : ls.length ≤ 100000) (hbase : base ≤ w.heap.size)
  (h : ∀ v' w', Hid (OwnN w' base v' (ls ++ [n])) → Hid (w.grownBy w' v.ownBlock) → wpList Tryz.prog ops Q rest (a.put o.dst v') w') : wpList Tryz.prog ops Q (o :: rest) a w := by
 obtain ⟨i0, hi, hz, hz1, hz2⟩ := info_node
 refine wpList_append_own_at _ hgd s x _ ho base _ i0 _ 34 48 Tryz.underlying30 hi hz hz1 hz2 (by simp [Value.cells]) (by omega) v _ _ hs hown.out ⟨g, 0, none⟩ 1 1 (flatN [n]) hx (by rw [flatN_length _ (fun y hy => by simp at hy; subst hy; exact hn)]; rfl) (fun j u hu => by rw [add_row]; exact range_row hr.out j u hu) (flatN_one _) (by unfold maxLen; omega) (by omega) hbase ?_
 intro v' w' h1 h2 h3 h4
 have := append_node_post hown.out h1 h2 hbase
 exact h v' w' (hid this) (hid h2)
theorem row_own (b : Nat) (t : TypeId) (cs : Array Value) {β : Type} : Own (fun (_ : β) W => W.heap[b]? = some (.cells cs t (0, 0))) := fun s W W' row hs hg hrow => by
 refine (hg.block b (Array.getElem?_eq_some_iff.1 hs).1 fun e => ?_).trans hs
 obtain ⟨o, ho, hc2⟩ := hrow b e.symm
 rw [hs] at ho; cases ho; cases hc2
def saltTag : ByteArray := ⟨#[115, 97, 108, 116]⟩
def saltT : List Nat := [115, 97, 108, 116]
theorem saltTag_eq : strL saltTag = saltT := rfl
/-- the salt of a leaf -/
def saltN (l : List Nat) (k at_ : Int) : List Nat := hashT saltT l [k, at_]
theorem saltN_length (l : List Nat) (k at_ : Int) : (saltN l k at_).length = 32 := tagged_length _ _
theorem salt_d (l : List Nat) (k z : Int) : dgV (hashT (strL saltTag) l [k, z]) = dgV (saltN l k z) := by rw [saltTag_eq]; simp only [saltN]
theorem two_rows2 (w : World) (X Y : Array Value) (t : Nat) (o : Obj) : Below w.heap.size w (((w.alloc (.cells X t)).alloc (.cells Y t)).alloc o) ∧ (((w.alloc (.cells X t)).alloc (.cells Y t)).alloc o).heap[w.heap.size]? = some (.cells X t (0, 0)) ∧ (((w.alloc (.cells X t)).alloc (.cells Y t)).alloc o).heap[w.heap.size + 1]? = some (.cells Y t (0, 0)) ∧ (((w.alloc (.cells X t)).alloc (.cells Y t)).alloc o).heap[w.heap.size + 1 + 1]? = some o ∧ (((w.alloc (.cells X t)).alloc (.cells Y t)).alloc o).heap.size = w.heap.size + 1 + 1 + 1 := by
 have h1 := heap_alloc_new (w.alloc (.cells X t)) (.cells Y t)
 have h2 := heap_alloc_new ((w.alloc (.cells X t)).alloc (.cells Y t)) o
 simp only [World.size_alloc] at h1 h2
 exact ⟨(((Below.refl _ w).alloc (Nat.le_refl _) _).alloc (by simp) _).alloc (by simp; omega) _, by rw [Below.heap_alloc _ _ _ (by simp; omega), Below.heap_alloc _ _ _ (by simp)]; exact heap_alloc_new w _, by rw [Below.heap_alloc _ _ _ (by simp)]; exact h1, h2, by simp⟩
theorem salt_any (l : List Nat) (k z : Int) (w : World) (hl : Hid (l.length = 32)) (hb : Hid (Bytes l)) (hk1 : -9223372036854775808 ≤ k) (hk2 : k ≤ 9223372036854775807) (hz1 : -9223372036854775808 ≤ z) (hz2 : z ≤ 9223372036854775807) (hT : Hid (Tabs w)) :
  Calls Tryz.prog 97 #[dgV l, .int .i64 k, .int .i64 z] w fun e w' => e = .returned (dgV (saltN l k z)) ∧ Below w.heap.size w w' := by
 have HZS : Hid (∀ y ∈ ([k, z] : List Int), -9223372036854775808 ≤ y ∧ y ≤ 9223372036854775807) := hid (fun y hy => by
  simp only [List.mem_cons, List.not_mem_nil, or_false] at hy
  rcases hy with rfl | rfl <;> omega)
 clear hk1 hk2 hz1 hz2
 obtain ⟨X, HX⟩ : ∃ X, Hid ((l.map fun x => Value.int .u8 (x : Nat)).toArray = X) := ⟨_, hid rfl⟩
 have e0 : dgV l = .agg X := by unfold dgV; rw [HX.out]
 rw [e0]
 clear e0
 obtain ⟨t1, t2, t3, t4, t5⟩ := two_rows2 w X #[.int .u8 0, .int .u8 0, .int .u8 0, .int .u8 0, .int .u8 0, .int .u8 0, .int .u8 0, .int .u8 0, .int .u8 0, .int .u8 0, .int .u8 0, .int .u8 0, .int .u8 0, .int .u8 0, .int .u8 0, .int .u8 0, .int .u8 0, .int .u8 0, .int .u8 0, .int .u8 0, .int .u8 0, .int .u8 0, .int .u8 0, .int .u8 0, .int .u8 0, .int .u8 0, .int .u8 0, .int .u8 0, .int .u8 0, .int .u8 0, .int .u8 0, .int .u8 0] 25 (.cells #[.int .i64 k, .int .i64 z] 3)
 have T1 := hid t1
 have T3 := hid t3
 have T4 := hid t4
 have T5 := hid t5
 have HIN : Hid (In (((w.alloc (.cells X 25)).alloc (.cells #[.int .u8 0, .int .u8 0, .int .u8 0, .int .u8 0, .int .u8 0, .int .u8 0, .int .u8 0, .int .u8 0, .int .u8 0, .int .u8 0, .int .u8 0, .int .u8 0, .int .u8 0, .int .u8 0, .int .u8 0, .int .u8 0, .int .u8 0, .int .u8 0, .int .u8 0, .int .u8 0, .int .u8 0, .int .u8 0, .int .u8 0, .int .u8 0, .int .u8 0, .int .u8 0, .int .u8 0, .int .u8 0, .int .u8 0, .int .u8 0, .int .u8 0, .int .u8 0] 25)).alloc (.cells #[.int .i64 k, .int .i64 z] 3)) (some ⟨w.heap.size, 0, none⟩) 32 32 l) := hid ⟨hl.out, Nat.le_refl _, (fun h => by cases h), hb.out, fun _ => ⟨_, 0, rfl, by rw [t5]; omega, bytesAt_arr (by rw [HX.out]; exact t2)⟩⟩
 clear t1 t2 t3 t4 t5
 go_enter Tryz.func97, Tryz.ntmps97
 go_wp2_with fail
 refine (thash_any saltTag [k, z] (w.heap.size + 1 + 1) 2 2 _ 32 32 l _ (by decide) HZS rfl (by omega) (hid (fun i hi => ?_)) (by rw [T5.out]; omega) (by omega) (hid (hT.out.below T1.out)) HIN).mono ?_
 ·have : i = 0 ∨ i = 1 := by omega
  rcases this with rfl | rfl <;> (rw [cell_of_row _ _ _ _ _ _ T4.out]; rfl)
 rintro e w2 ⟨rfl, hq⟩
 rw [salt_d]
 have HB2 := hid (T1.out.trans (hq.mono T1.out.size))
 have HR2 := hid ((hq.block (w.heap.size + 1) (by rw [T5.out]; omega)).trans T3.out)
 obtain ⟨Y, HY⟩ : ∃ Y, Hid (((saltN l k z).map fun x => Value.int .u8 (x : Nat)).toArray = Y) := ⟨_, hid rfl⟩
 have HEX : Hid (dgV (saltN l k z) = .agg Y) := hid (by unfold dgV; rw [HY.out])
 have hYs : Hid (32 = Y.size) := hid (by rw [← HY.out]; simp [saltN_length])
 have hsz : Hid ((Tryz.prog.info? 25).map (·.size) = some Y.size) := hid (by rw [← HY.out]; exact size32 _ (saltN_length _ _ _))
 have hone : Hid (Y.all (·.oneCell') = true) := hid (by rw [← HY.out]; exact oneCells _)
 rw [HEX.out]
 clear hq
 go_wp2_with (refine wpList_store_row rfl 25 (.tmp 6) (.tmp 11) rfl (w.heap.size + 1) Y rfl rfl 25 _ HR2.out hsz.out hYs.out hone.out ?_)
 refine bodyPost_ret (results_cell_row rfl _ _ (w.heap.size + 1) 25 _ (0, 0) _ rfl (setRow_heap w2 (w.heap.size + 1) _ _ _ _ HR2.out) Tryz.underlying25 rfl hsz.out) rfl ?_
 exact ⟨by rw [HEX.out], below_setRow HB2.out (Nat.le_succ _) _⟩
def lineTag : ByteArray := ⟨#[108, 105, 110, 101]⟩
def lineT : List Nat := [108, 105, 110, 101]
theorem lineTag_eq : strL lineTag = lineT := rfl
/-- the leaf of a line -/
def leafN (c0 c1 c2 c3 c4 : Int) (l : List Nat) : Nd := ⟨hashT lineT l [c0, c1, c2, c3, c4], c3, c2 * c3⟩
theorem leaf_d (c0 c1 c2 c3 c4 : Int) (l : List Nat) : dgV (hashT (strL lineTag) l [c0, c1, c2, c3, c4]) = dgV (leafN c0 c1 c2 c3 c4 l).d := by rw [lineTag_eq]; simp only [leafN]
theorem five_cells {w : World} {g t : Nat} {a b c d e : Int} (h : w.heap[g]? = some (.cells #[.int .i64 a, .int .i64 b, .int .i64 c, .int .i64 d, .int .i64 e] t (0, 0))) (i : Nat) (hi : i < 5) : w.cell? ⟨g, i, none⟩ = some (.int .i64 (([a, b, c, d, e] : List Int).getD i 0)) := by
 have : i = 0 ∨ i = 1 ∨ i = 2 ∨ i = 3 ∨ i = 4 := by omega
 rcases this with rfl | rfl | rfl | rfl | rfl <;> (rw [cell_of_row _ _ _ _ _ _ h]; rfl)
theorem mul_leaf {a b : Int} (h1 : 0 ≤ a) (h2 : a ≤ 12) (h3 : 0 ≤ b) (h4 : b ≤ 60) : 0 ≤ a * b ∧ a * b ≤ 12 * b := ⟨Int.mul_nonneg h1 h3, Int.mul_le_mul_of_nonneg_right h2 h3⟩
theorem three_rows3 (w : World) (X Y Z : Array Value) (t u v : Nat) : Below w.heap.size w (((w.alloc (.cells X t)).alloc (.cells Y u)).alloc (.cells Z v)) ∧ (((w.alloc (.cells X t)).alloc (.cells Y u)).alloc (.cells Z v)).heap[w.heap.size]? = some (.cells X t (0, 0)) ∧ (((w.alloc (.cells X t)).alloc (.cells Y u)).alloc (.cells Z v)).heap[w.heap.size + 1]? = some (.cells Y u (0, 0)) ∧ (((w.alloc (.cells X t)).alloc (.cells Y u)).alloc (.cells Z v)).heap[w.heap.size + 1 + 1]? = some (.cells Z v (0, 0)) := by
 have h1 := heap_alloc_new (w.alloc (.cells X t)) (.cells Y u)
 have h2 := heap_alloc_new ((w.alloc (.cells X t)).alloc (.cells Y u)) (.cells Z v)
 simp only [World.size_alloc] at h1 h2
 exact ⟨(((Below.refl _ w).alloc (Nat.le_refl _) _).alloc (by simp) _).alloc (by simp; omega) _, by rw [Below.heap_alloc _ _ _ (by simp; omega), Below.heap_alloc _ _ _ (by simp)]; exact heap_alloc_new w _, by rw [Below.heap_alloc _ _ _ (by simp)]; exact h1, h2⟩
def wF (W0 : World) (ba : Nat) (bs : Nat) (br : Nat) (c0 : Int) (c1 : Int) (c2 : Int) (c3 : Int) (c4 : Int) (l : List Nat) : Nat → Value → World → Prop
 | 0, fv, _ => fv = .slice (some ⟨bs, 0, none⟩) 32 32
 | 1, fv, _ => fv = .pointer (some ⟨ba, 0, none⟩)
 | 2, fv, _ => fv = .int .i64 (c0)
 | 3, fv, _ => fv = .pointer (some ⟨ba, 1, none⟩)
 | 4, fv, _ => fv = .int .i64 (c1)
 | 5, fv, _ => fv = .pointer (some ⟨ba, 2, none⟩)
 | 6, fv, _ => fv = .int .i64 (c2)
 | 7, fv, _ => fv = .pointer (some ⟨ba, 3, none⟩)
 | 8, fv, _ => fv = .int .i64 (c3)
 | 9, fv, _ => fv = .pointer (some ⟨ba, 4, none⟩)
 | 10, fv, _ => fv = .int .i64 (c4)
 | 11, fv, fw => ∃ g, fv = .slice (some ⟨g, 0, none⟩) 5 5 ∧ g < fw.heap.size ∧ ∀ i, i < 5 → fw.cell? ⟨g, i, none⟩ = some (.int .i64 (([c0, c1, c2, c3, c4] : List Int).getD i 0))
 | 12, fv, _ => fv = dgV (leafN c0 c1 c2 c3 c4 l).d
 | 13, fv, _ => fv = .pointer (some ⟨ba, 3, none⟩)
 | 14, fv, _ => fv = .int .i64 (c3)
 | 15, fv, _ => fv = .pointer (some ⟨ba, 2, none⟩)
 | 16, fv, _ => fv = .int .i64 (c2)
 | 17, fv, _ => fv = .pointer (some ⟨ba, 3, none⟩)
 | 18, fv, _ => fv = .int .i64 (c3)
 | 19, fv, _ => fv = .int .i64 (c2 * c3)
 | 20, fv, _ => fv = ndV (leafN c0 c1 c2 c3 c4 l)
 | 21, fv, fw => fw.heap[br]? = some (.cells (ndC (leafN c0 c1 c2 c3 c4 l)).toArray 39 (0, 0)) ∧ Below W0.heap.size W0 fw
 | 22, fv, _ => fv = .int .i64 (0)
 | _, _, _ => True
theorem wF_below {W0 : World} {ba : Nat} {bs : Nat} {br : Nat} {c0 : Int} {c1 : Int} {c2 : Int} {c3 : Int} {c4 : Int} {l : List Nat} {w w' : World} (hb : Below w.heap.size w w') : ∀ j v, wF W0 ba bs br c0 c1 c2 c3 c4 l j v w → wF W0 ba bs br c0 c1 c2 c3 c4 l j v w'
 | 0, v, h => h
 | 1, v, h => h
 | 2, v, h => h
 | 3, v, h => h
 | 4, v, h => h
 | 5, v, h => h
 | 6, v, h => h
 | 7, v, h => h
 | 8, v, h => h
 | 9, v, h => h
 | 10, v, h => h
 | 11, v, ⟨g, h1, h2, h3⟩ => ⟨g, h1, Nat.lt_of_lt_of_le h2 hb.size, fun i hi => (hb.cell (p := ⟨g, i, none⟩) h2).trans (h3 i hi)⟩
 | 12, v, h => h
 | 13, v, h => h
 | 14, v, h => h
 | 15, v, h => h
 | 16, v, h => h
 | 17, v, h => h
 | 18, v, h => h
 | 19, v, h => h
 | 20, v, h => h
 | 21, v, h => ⟨(hb.block br (Array.getElem?_eq_some_iff.1 h.1).1).trans h.1, h.2.trans (hb.mono h.2.size)⟩
 | 22, v, h => h
 | n + 23, v, h => trivial
theorem wF_pure {W0 : World} {ba : Nat} {bs : Nat} {br : Nat} {c0 : Int} {c1 : Int} {c2 : Int} {c3 : Int} {c4 : Int} {l : List Nat} {w w' : World} : ∀ j v, j ≠ 11 → j ≠ 21 → wF W0 ba bs br c0 c1 c2 c3 c4 l j v w → wF W0 ba bs br c0 c1 c2 c3 c4 l j v w'
 | 0, v, _, _, h => h
 | 1, v, _, _, h => h
 | 2, v, _, _, h => h
 | 3, v, _, _, h => h
 | 4, v, _, _, h => h
 | 5, v, _, _, h => h
 | 6, v, _, _, h => h
 | 7, v, _, _, h => h
 | 8, v, _, _, h => h
 | 9, v, _, _, h => h
 | 10, v, _, _, h => h
 | 11, v, hh, _, _ => absurd rfl hh
 | 12, v, _, _, h => h
 | 13, v, _, _, h => h
 | 14, v, _, _, h => h
 | 15, v, _, _, h => h
 | 16, v, _, _, h => h
 | 17, v, _, _, h => h
 | 18, v, _, _, h => h
 | 19, v, _, _, h => h
 | 20, v, _, _, h => h
 | 21, v, _, hh, _ => absurd rfl hh
 | 22, v, _, _, h => h
 | n + 23, v, _, _, h => trivial
theorem leaf_yes (c0 c1 c2 c3 c4 : Int) (l : List Nat) (w : World) (hv : 0 ≤ c0 ∧ c0 < 4096 ∧ 0 ≤ c1 ∧ c1 < 1024 ∧ 0 ≤ c2 ∧ c2 ≤ 12 ∧ 0 ≤ c3 ∧ c3 ≤ 60 ∧ 0 ≤ c4 ∧ c4 < 7) (hl : Hid (l.length = 32)) (hb : Hid (Bytes l)) (hT : Hid (Tabs w)) :
  Calls Tryz.prog 41 #[.agg #[.int .i64 c0, .int .i64 c1, .int .i64 c2, .int .i64 c3, .int .i64 c4], dgV l] w fun e w' => e = .returned (.tuple #[ndV (leafN c0 c1 c2 c3 c4 l), .int .i64 0]) ∧ Below w.heap.size w w' := by
 have hm := mul_leaf (a := c2) (b := c3) (by omega) (by omega) (by omega) (by omega)
 have HJ : Hid (NdOk (leafN c0 c1 c2 c3 c4 l)) := hid ⟨tagged_length _ _, tagged_bytes _ _, by simp only [leafN]; omega, by simp only [leafN]; omega⟩
 have HW1 : Hid (IntKind.i64.wrap (c2 * c3) = c2 * c3) := hid (IntWalk.i64_in _ (by omega))
 have HZS : Hid (∀ z ∈ ([c0, c1, c2, c3, c4] : List Int), -9223372036854775808 ≤ z ∧ z ≤ 9223372036854775807) := hid (fun z hz => by
  simp only [List.mem_cons, List.not_mem_nil, or_false] at hz
  rcases hz with rfl | rfl | rfl | rfl | rfl <;> omega)
 have HS1 : Hid ((Tryz.prog.info? 39).map (·.size) = some (ndC (leafN c0 c1 c2 c3 c4 l)).toArray.size) := hid (by rw [size34 HJ.out]; simp)
 have HS2 : Hid (34 = (ndC (leafN c0 c1 c2 c3 c4 l)).toArray.size) := hid (by simp [ndC_length HJ.out])
 have d0 : decide (c0 < 0) = false := dQ (by omega)
 have d1 : decide (4096 ≤ c0) = false := dQ (by omega)
 have d2 : decide (c1 < 0) = false := dQ (by omega)
 have d3 : decide (1024 ≤ c1) = false := dQ (by omega)
 have d4 : decide (c2 < 0) = false := dQ (by omega)
 have d5 : decide (12 < c2) = false := dQ (by omega)
 have d6 : decide (c3 < 0) = false := dQ (by omega)
 have d7 : decide (60 < c3) = false := dQ (by omega)
 have d8 : decide (c4 < 0) = false := dQ (by omega)
 have d9 : decide (7 ≤ c4) = false := dQ (by omega)
 clear hv hm
 obtain ⟨X, HX⟩ : ∃ X, Hid ((l.map fun x => Value.int .u8 (x : Nat)).toArray = X) := ⟨_, hid rfl⟩
 have e0 : dgV l = .agg X := by unfold dgV; rw [HX.out]
 rw [e0]
 clear e0
 obtain ⟨t1, t2, t3, t4⟩ := three_rows3 w #[.int .i64 c0, .int .i64 c1, .int .i64 c2, .int .i64 c3, .int .i64 c4] X #[.int .u8 0, .int .u8 0, .int .u8 0, .int .u8 0, .int .u8 0, .int .u8 0, .int .u8 0, .int .u8 0, .int .u8 0, .int .u8 0, .int .u8 0, .int .u8 0, .int .u8 0, .int .u8 0, .int .u8 0, .int .u8 0, .int .u8 0, .int .u8 0, .int .u8 0, .int .u8 0, .int .u8 0, .int .u8 0, .int .u8 0, .int .u8 0, .int .u8 0, .int .u8 0, .int .u8 0, .int .u8 0, .int .u8 0, .int .u8 0, .int .u8 0, .int .u8 0, .int .i64 0, .int .i64 0] 45 25 39
 have HB1 := hid t1
 have HRL := hid t2
 have HRS := hid t3
 have HRR := hid t4
 have hT1 := hid (hT.out.below HB1.out)
 have k0 := five_cells t2 0 (by omega)
 have k1 := five_cells t2 1 (by omega)
 have k2 := five_cells t2 2 (by omega)
 have k3 := five_cells t2 3 (by omega)
 have k4 := five_cells t2 4 (by omega)
 clear t1 t2 t3 t4
 go_enter Tryz.func41, Tryz.ntmps41
 go_wp2_with fail
 clear k0 k1 k2 k3 k4
 generalize (((w.alloc (.cells #[.int .i64 c0, .int .i64 c1, .int .i64 c2, .int .i64 c3, .int .i64 c4] 45)).alloc (.cells X 25)).alloc (.cells #[.int .u8 0, .int .u8 0, .int .u8 0, .int .u8 0, .int .u8 0, .int .u8 0, .int .u8 0, .int .u8 0, .int .u8 0, .int .u8 0, .int .u8 0, .int .u8 0, .int .u8 0, .int .u8 0, .int .u8 0, .int .u8 0, .int .u8 0, .int .u8 0, .int .u8 0, .int .u8 0, .int .u8 0, .int .u8 0, .int .u8 0, .int .u8 0, .int .u8 0, .int .u8 0, .int .u8 0, .int .u8 0, .int .u8 0, .int .u8 0, .int .u8 0, .int .u8 0, .int .i64 0, .int .i64 0] 39)) = W1 at *
 refine region_flow3 (by kernel_rfl) (by kernel_rfl) (fun i => Nat.beq i 21 || Nat.beq i 22) (fun i => i) (by kernel_rfl) (fun fx => #[.agg #[.int IntKind.i64 c0, .int IntKind.i64 c1, .int IntKind.i64 c2, .int IntKind.i64 c3, .int IntKind.i64 c4], .agg X, .pointer (some { block := w.heap.size, off := 0 }), .pointer (some { block := w.heap.size + 1, off := 0 }), .pointer (some { block := w.heap.size + 1 + 1, off := 0 }), fx 22, .pointer (some { block := w.heap.size, off := 0 }), .int IntKind.i64 c0, .bool false, .bool false, .pointer (some { block := w.heap.size, off := 0 }), .int IntKind.i64 c0, .bool false, .bool false, .bool false, .pointer (some { block := w.heap.size, off := 1 }), .int IntKind.i64 c1, .bool false, .bool false, .bool false, .pointer (some { block := w.heap.size, off := 1 }), .int IntKind.i64 c1, .bool false, .bool false, .bool false, .pointer (some { block := w.heap.size, off := 2 }), .int IntKind.i64 c2, .bool false, .bool false, .bool false, .pointer (some { block := w.heap.size, off := 2 }), .int IntKind.i64 c2, .bool false, .bool false, .bool false, .pointer (some { block := w.heap.size, off := 3 }), .int IntKind.i64 c3, .bool false, .bool false, .bool false, .pointer (some { block := w.heap.size, off := 3 }), .int IntKind.i64 c3, .bool false, .bool false, .bool false, .pointer (some { block := w.heap.size, off := 4 }), .int IntKind.i64 c4, .bool false, .bool false, .bool false, .pointer (some { block := w.heap.size, off := 4 }), .int IntKind.i64 c4, .bool false, .bool false, undef, fx 0, fx 1, fx 2, fx 3, fx 4, fx 5, fx 6, fx 7, fx 8, fx 9, fx 10, fx 11, fx 12, fx 13, fx 14, fx 15, fx 16, fx 17, fx 18, fx 19, fx 20]) (fun i => bif Nat.beq i 22 then Value.int IntKind.i64 0 else undef) (fun L fx w' => (L 21 = false → Below W1.heap.size W1 w')) (fun fi fv _ fw => wF w w.heap.size (w.heap.size + 1) (w.heap.size + 1 + 1) c0 c1 c2 c3 c4 l fi fv fw) (fun _ => (Below.refl _ _).drew) ?_ ?_
 ·refine ⟨?_, ?_, ?_, ?_, ?_, ?_, ?_, ?_, ?_, ?_, ?_, ?_, ?_, ?_, ?_, ?_, ?_, ?_, ?_, ?_, ?_, ?_, ?_, trivial⟩
  all_goals intro L fx w' hC hi hcl hdn hd
  ·have hnd : L 21 = false := nQ hi (fun h => (hcl 12 0 (hcl 20 12 (hcl 21 20 h (by kernel_rfl)) (by kernel_rfl)) (by kernel_rfl)))
   go_wp2_with fail
   exact ⟨_, rfl, (fun _ => hC hnd), rfl, kP⟩
  ·have hnd : L 21 = false := nQ hi (fun h => (hcl 2 1 (hcl 11 2 (hcl 12 11 (hcl 20 12 (hcl 21 20 h (by kernel_rfl)) (by kernel_rfl)) (by kernel_rfl)) (by kernel_rfl)) (by kernel_rfl)))
   go_wp2_with fail
   exact ⟨_, rfl, (fun _ => hC hnd), rfl, kP⟩
  ·have h1 : fx 1 = .pointer (some ⟨w.heap.size, 0, none⟩) := hd.1 rfl
   have hnd : L 21 = false := nQ hi (fun h => (hcl 11 2 (hcl 12 11 (hcl 20 12 (hcl 21 20 h (by kernel_rfl)) (by kernel_rfl)) (by kernel_rfl)) (by kernel_rfl)))
   have hc : w'.cell? ⟨w.heap.size, 0, none⟩ = some (.int .i64 c0) := five_cells (((hC hnd).block _ (Array.getElem?_eq_some_iff.1 HRL.out).1).trans HRL.out) 0 (by omega)
   go_wp2_with fail
   exact ⟨_, by rw [← h1]; rfl, (fun _ => hC hnd), rfl, kP⟩
  ·have hnd : L 21 = false := nQ hi (fun h => (hcl 4 3 (hcl 11 4 (hcl 12 11 (hcl 20 12 (hcl 21 20 h (by kernel_rfl)) (by kernel_rfl)) (by kernel_rfl)) (by kernel_rfl)) (by kernel_rfl)))
   go_wp2_with fail
   exact ⟨_, rfl, (fun _ => hC hnd), rfl, kP⟩
  ·have h3 : fx 3 = .pointer (some ⟨w.heap.size, 1, none⟩) := hd.1 rfl
   have hnd : L 21 = false := nQ hi (fun h => (hcl 11 4 (hcl 12 11 (hcl 20 12 (hcl 21 20 h (by kernel_rfl)) (by kernel_rfl)) (by kernel_rfl)) (by kernel_rfl)))
   have hc : w'.cell? ⟨w.heap.size, 1, none⟩ = some (.int .i64 c1) := five_cells (((hC hnd).block _ (Array.getElem?_eq_some_iff.1 HRL.out).1).trans HRL.out) 1 (by omega)
   go_wp2_with fail
   exact ⟨_, by rw [← h3]; rfl, (fun _ => hC hnd), rfl, kP⟩
  ·have hnd : L 21 = false := nQ hi (fun h => (hcl 6 5 (hcl 11 6 (hcl 12 11 (hcl 20 12 (hcl 21 20 h (by kernel_rfl)) (by kernel_rfl)) (by kernel_rfl)) (by kernel_rfl)) (by kernel_rfl)))
   go_wp2_with fail
   exact ⟨_, rfl, (fun _ => hC hnd), rfl, kP⟩
  ·have h5 : fx 5 = .pointer (some ⟨w.heap.size, 2, none⟩) := hd.1 rfl
   have hnd : L 21 = false := nQ hi (fun h => (hcl 11 6 (hcl 12 11 (hcl 20 12 (hcl 21 20 h (by kernel_rfl)) (by kernel_rfl)) (by kernel_rfl)) (by kernel_rfl)))
   have hc : w'.cell? ⟨w.heap.size, 2, none⟩ = some (.int .i64 c2) := five_cells (((hC hnd).block _ (Array.getElem?_eq_some_iff.1 HRL.out).1).trans HRL.out) 2 (by omega)
   go_wp2_with fail
   exact ⟨_, by rw [← h5]; rfl, (fun _ => hC hnd), rfl, kP⟩
  ·have hnd : L 21 = false := nQ hi (fun h => (hcl 8 7 (hcl 11 8 (hcl 12 11 (hcl 20 12 (hcl 21 20 h (by kernel_rfl)) (by kernel_rfl)) (by kernel_rfl)) (by kernel_rfl)) (by kernel_rfl)))
   go_wp2_with fail
   exact ⟨_, rfl, (fun _ => hC hnd), rfl, kP⟩
  ·have h7 : fx 7 = .pointer (some ⟨w.heap.size, 3, none⟩) := hd.1 rfl
   have hnd : L 21 = false := nQ hi (fun h => (hcl 11 8 (hcl 12 11 (hcl 20 12 (hcl 21 20 h (by kernel_rfl)) (by kernel_rfl)) (by kernel_rfl)) (by kernel_rfl)))
   have hc : w'.cell? ⟨w.heap.size, 3, none⟩ = some (.int .i64 c3) := five_cells (((hC hnd).block _ (Array.getElem?_eq_some_iff.1 HRL.out).1).trans HRL.out) 3 (by omega)
   go_wp2_with fail
   exact ⟨_, by rw [← h7]; rfl, (fun _ => hC hnd), rfl, kP⟩
  ·have hnd : L 21 = false := nQ hi (fun h => (hcl 10 9 (hcl 11 10 (hcl 12 11 (hcl 20 12 (hcl 21 20 h (by kernel_rfl)) (by kernel_rfl)) (by kernel_rfl)) (by kernel_rfl)) (by kernel_rfl)))
   go_wp2_with fail
   exact ⟨_, rfl, (fun _ => hC hnd), rfl, kP⟩
  ·have h9 : fx 9 = .pointer (some ⟨w.heap.size, 4, none⟩) := hd.1 rfl
   have hnd : L 21 = false := nQ hi (fun h => (hcl 11 10 (hcl 12 11 (hcl 20 12 (hcl 21 20 h (by kernel_rfl)) (by kernel_rfl)) (by kernel_rfl)) (by kernel_rfl)))
   have hc : w'.cell? ⟨w.heap.size, 4, none⟩ = some (.int .i64 c4) := five_cells (((hC hnd).block _ (Array.getElem?_eq_some_iff.1 HRL.out).1).trans HRL.out) 4 (by omega)
   go_wp2_with fail
   exact ⟨_, by rw [← h9]; rfl, (fun _ => hC hnd), rfl, kP⟩
  ·have h2 : fx 2 = .int .i64 (c0) := hd.1 rfl
   have h4 : fx 4 = .int .i64 (c1) := hd.2.1 rfl
   have h6 : fx 6 = .int .i64 (c2) := hd.2.2.1 rfl
   have h8 : fx 8 = .int .i64 (c3) := hd.2.2.2.1 rfl
   have h10 : fx 10 = .int .i64 (c4) := hd.2.2.2.2.1 rfl
   have hnd : L 21 = false := nQ hi (fun h => (hcl 12 11 (hcl 20 12 (hcl 21 20 h (by kernel_rfl)) (by kernel_rfl)) (by kernel_rfl)))
   go_wp2_with fail
   have hbb : Below w'.heap.size w' (w'.alloc (.cells #[.int .i64 c0, .int .i64 c1, .int .i64 c2, .int .i64 c3, .int .i64 c4] 3)) := (Below.refl _ _).alloc (Nat.le_refl _) _
   have hq := heap_alloc_new w' (.cells #[.int .i64 c0, .int .i64 c1, .int .i64 c2, .int .i64 c3, .int .i64 c4] 3)
   exact ⟨_, by rw [← h2, ← h4, ← h6, ← h8, ← h10]; rfl, fun _ => (hC hnd).trans (hbb.mono (hC hnd).size), ⟨_, rfl, by simp, fun i hi5 => five_cells hq i hi5⟩, fun j v t _ _ h => wF_below hbb j v h⟩
  ·have h0 : fx 0 = .slice (some ⟨w.heap.size + 1, 0, none⟩) 32 32 := hd.1 rfl
   have H11 := hid (hd.2.1 rfl)
   have hnd : L 21 = false := nQ hi (fun h => (hcl 20 12 (hcl 21 20 h (by kernel_rfl)) (by kernel_rfl)))
   obtain ⟨g, h11, hg, hcs⟩ := H11.out
   have hb12 := hC hnd
   have HCS := hid hcs
   clear hcs
   have HIN : Hid (In w' (some ⟨w.heap.size + 1, 0, none⟩) 32 32 l) := hid ⟨hl.out, Nat.le_refl _, (fun h => by cases h), hb.out, fun _ => ⟨_, 0, rfl, Nat.lt_of_lt_of_le (Array.getElem?_eq_some_iff.1 HRS.out).1 hb12.size, bytesAt_arr (by rw [HX.out]; exact ((hC hnd).block _ (Array.getElem?_eq_some_iff.1 HRS.out).1).trans HRS.out)⟩⟩
   go_wp2_with fail
   refine (thash_any lineTag [c0, c1, c2, c3, c4] g 5 5 _ 32 32 l w' (by decide) HZS rfl (by omega) HCS hg (by omega) (hid (hT1.out.below hb12)) HIN).mono ?_
   rintro e w2 ⟨rfl, hq⟩
   have HQ := hid hq
   clear hq
   rw [leaf_d]
   go_wp2_with fail
   exact ⟨_, by rw [← h0, ← h11]; rfl, fun _ => hb12.trans (HQ.out.mono hb12.size), rfl, fun j v t _ _ h => wF_below HQ.out j v h⟩
  ·have hnd : L 21 = false := nQ hi (fun h => (hcl 14 13 (hcl 20 14 (hcl 21 20 h (by kernel_rfl)) (by kernel_rfl)) (by kernel_rfl)))
   go_wp2_with fail
   exact ⟨_, rfl, (fun _ => hC hnd), rfl, kP⟩
  ·have h13 : fx 13 = .pointer (some ⟨w.heap.size, 3, none⟩) := hd.1 rfl
   have hnd : L 21 = false := nQ hi (fun h => (hcl 20 14 (hcl 21 20 h (by kernel_rfl)) (by kernel_rfl)))
   have hc : w'.cell? ⟨w.heap.size, 3, none⟩ = some (.int .i64 c3) := five_cells (((hC hnd).block _ (Array.getElem?_eq_some_iff.1 HRL.out).1).trans HRL.out) 3 (by omega)
   go_wp2_with fail
   exact ⟨_, by rw [← h13]; rfl, (fun _ => hC hnd), rfl, kP⟩
  ·have hnd : L 21 = false := nQ hi (fun h => (hcl 16 15 (hcl 19 16 (hcl 20 19 (hcl 21 20 h (by kernel_rfl)) (by kernel_rfl)) (by kernel_rfl)) (by kernel_rfl)))
   go_wp2_with fail
   exact ⟨_, rfl, (fun _ => hC hnd), rfl, kP⟩
  ·have h15 : fx 15 = .pointer (some ⟨w.heap.size, 2, none⟩) := hd.1 rfl
   have hnd : L 21 = false := nQ hi (fun h => (hcl 19 16 (hcl 20 19 (hcl 21 20 h (by kernel_rfl)) (by kernel_rfl)) (by kernel_rfl)))
   have hc : w'.cell? ⟨w.heap.size, 2, none⟩ = some (.int .i64 c2) := five_cells (((hC hnd).block _ (Array.getElem?_eq_some_iff.1 HRL.out).1).trans HRL.out) 2 (by omega)
   go_wp2_with fail
   exact ⟨_, by rw [← h15]; rfl, (fun _ => hC hnd), rfl, kP⟩
  ·have hnd : L 21 = false := nQ hi (fun h => (hcl 18 17 (hcl 19 18 (hcl 20 19 (hcl 21 20 h (by kernel_rfl)) (by kernel_rfl)) (by kernel_rfl)) (by kernel_rfl)))
   go_wp2_with fail
   exact ⟨_, rfl, (fun _ => hC hnd), rfl, kP⟩
  ·have h17 : fx 17 = .pointer (some ⟨w.heap.size, 3, none⟩) := hd.1 rfl
   have hnd : L 21 = false := nQ hi (fun h => (hcl 19 18 (hcl 20 19 (hcl 21 20 h (by kernel_rfl)) (by kernel_rfl)) (by kernel_rfl)))
   have hc : w'.cell? ⟨w.heap.size, 3, none⟩ = some (.int .i64 c3) := five_cells (((hC hnd).block _ (Array.getElem?_eq_some_iff.1 HRL.out).1).trans HRL.out) 3 (by omega)
   go_wp2_with fail
   exact ⟨_, by rw [← h17]; rfl, (fun _ => hC hnd), rfl, kP⟩
  ·have h16 : fx 16 = .int .i64 (c2) := hd.1 rfl
   have h18 : fx 18 = .int .i64 (c3) := hd.2.1 rfl
   have hnd : L 21 = false := nQ hi (fun h => (hcl 20 19 (hcl 21 20 h (by kernel_rfl)) (by kernel_rfl)))
   have hw : IntKind.i64.wrap (c2 * c3) = c2 * c3 := HW1.out
   go_wp2_with fail
   exact ⟨_, by rw [← h16, ← h18]; rfl, (fun _ => hC hnd), rfl, kP⟩
  ·have h12 : fx 12 = dgV (leafN c0 c1 c2 c3 c4 l).d := hd.1 rfl
   have h14 : fx 14 = .int .i64 (c3) := hd.2.1 rfl
   have h19 : fx 19 = .int .i64 (c2 * c3) := hd.2.2.1 rfl
   have hnd : L 21 = false := nQ hi (fun h => (hcl 21 20 h (by kernel_rfl)))
   refine wpList_build_node rfl (.tmp 67) (.tmp 69) (.tmp 74) rfl (leafN c0 c1 c2 c3 c4 l).d c3 (c2 * c3) HJ.out.len h12 h14 h19 ?_
   clear hd
   go_wp2_with fail
   exact ⟨_, by rw [← h12, ← h19, ← h14]; rfl, fun _ => hC hnd, rfl, kP⟩
  ·have h20 : fx 20 = ndV (leafN c0 c1 c2 c3 c4 l) := hd.1 rfl
   have hb21 := hC hi
   have hrow := (hb21.block _ (Array.getElem?_eq_some_iff.1 HRR.out).1).trans HRR.out
   refine wpList_store_row rfl 39 (.tmp 4) (.tmp 75) rfl (w.heap.size + 1 + 1) (ndC (leafN c0 c1 c2 c3 c4 l)).toArray rfl h20 39 _ hrow HS1.out HS2.out (ndC_one _) ?_
   clear hd
   go_wp2_with fail
   refine ⟨undef, by rw [← h20]; rfl, fun h => (updB_self h).elim, ⟨setRow_heap _ _ _ _ _ _ hrow, below_setRow (HB1.out.trans (hb21.mono HB1.out.size)) (by omega) _⟩, fun j v t hj hu h => ?_⟩
   refine wF_pure j v ?_ ?_ h <;> intro e <;> subst e
   ·refine absurd hu (not_needed (E := fun i => Nat.beq i 21 || Nat.beq i 22) (j := 11) [12] ?_ ?_ ?_)
    ·kernel_rfl
    ·kernel_rfl
    ·intro m hm hne; simp at hm; subst hm; exact hcl 20 12 (hdn 20 (by kernel_rfl)) (by kernel_rfl)
   ·rw [hi] at hj; cases hj
  ·go_wp2_with fail
   exact ⟨_, rfl, fun h => hC h, rfl, kP⟩
 ·intro L fx w' hC hS
  have H21 := hid (hS 21 (by decide) rfl)
  have H22 := hid (hS 22 (by decide) rfl)
  have h22 : fx 22 = .int .i64 0 := H22.out
  rw [h22]
  clear hS h22 H22
  go_wp2_with fail
  have hl := run_loadVar_row (P := Tryz.prog) w' (w.heap.size + 1 + 1) 39 39 (ndC (leafN c0 c1 c2 c3 c4 l)).toArray (0, 0) _ H21.out.1 Tryz.underlying39 rfl HS1.out
  refine bodyPost_ret (v := .tuple #[ndV (leafN c0 c1 c2 c3 c4 l), .int .i64 0]) ?_ rfl ⟨rfl, H21.out.2⟩
  unfold ndV
  simp [results, Tryz.results41, asAddr, hl]
/-- a line is valid -/
def lOk (c0 c1 c2 c3 c4 : Int) : Prop := 0 ≤ c0 ∧ c0 < 4096 ∧ 0 ≤ c1 ∧ c1 < 1024 ∧ 0 ≤ c2 ∧ c2 ≤ 12 ∧ 0 ≤ c3 ∧ c3 ≤ 60 ∧ 0 ≤ c4 ∧ c4 < 7
theorem zeros34 : (#[.int .u8 0, .int .u8 0, .int .u8 0, .int .u8 0, .int .u8 0, .int .u8 0, .int .u8 0, .int .u8 0, .int .u8 0, .int .u8 0, .int .u8 0, .int .u8 0, .int .u8 0, .int .u8 0, .int .u8 0, .int .u8 0, .int .u8 0, .int .u8 0, .int .u8 0, .int .u8 0, .int .u8 0, .int .u8 0, .int .u8 0, .int .u8 0, .int .u8 0, .int .u8 0, .int .u8 0, .int .u8 0, .int .u8 0, .int .u8 0, .int .u8 0, .int .u8 0, .int .i64 0, .int .i64 0] : Array Value) = (ndC zeroN).toArray := zeroN_cells.symm
theorem leaf_no (c0 c1 c2 c3 c4 : Int) (l : List Nat) (w : World) (h : ¬ lOk c0 c1 c2 c3 c4) :
  Calls Tryz.prog 41 #[.agg #[.int .i64 c0, .int .i64 c1, .int .i64 c2, .int .i64 c3, .int .i64 c4], dgV l] w fun e w' => e = .returned (.tuple #[ndV zeroN, .int .i64 410]) ∧ Below w.heap.size w w' := by
 have HSZ : Hid ((Tryz.prog.info? 39).map (·.size) = some (ndC zeroN).toArray.size) := hid (by rw [size34 zeroN_ok]; simp)
 obtain ⟨X, HX⟩ : ∃ X, Hid ((l.map fun x => Value.int .u8 (x : Nat)).toArray = X) := ⟨_, hid rfl⟩
 have e0 : dgV l = .agg X := by unfold dgV; rw [HX.out]
 rw [e0]
 clear e0
 obtain ⟨t1, t2, t3, t4⟩ := three_rows3 w #[.int .i64 c0, .int .i64 c1, .int .i64 c2, .int .i64 c3, .int .i64 c4] X #[.int .u8 0, .int .u8 0, .int .u8 0, .int .u8 0, .int .u8 0, .int .u8 0, .int .u8 0, .int .u8 0, .int .u8 0, .int .u8 0, .int .u8 0, .int .u8 0, .int .u8 0, .int .u8 0, .int .u8 0, .int .u8 0, .int .u8 0, .int .u8 0, .int .u8 0, .int .u8 0, .int .u8 0, .int .u8 0, .int .u8 0, .int .u8 0, .int .u8 0, .int .u8 0, .int .u8 0, .int .u8 0, .int .u8 0, .int .u8 0, .int .u8 0, .int .u8 0, .int .i64 0, .int .i64 0] 45 25 39
 have HB1 := hid t1
 have HRR := hid t4
 have k0 := five_cells t2 0 (by omega)
 have k1 := five_cells t2 1 (by omega)
 have k2 := five_cells t2 2 (by omega)
 have k3 := five_cells t2 3 (by omega)
 have k4 := five_cells t2 4 (by omega)
 have HSZ2 := HSZ
 have HON := hid (ndC_one zeroN)
 rw [← zeros34] at HSZ2 HON
 clear t1 t2 t3 t4
 have HNO := hid h
 clear h
 by_cases b0 : c0 < 0; rotate_left
 by_cases b1 : 4096 ≤ c0; rotate_left
 by_cases b2 : c1 < 0; rotate_left
 by_cases b3 : 1024 ≤ c1; rotate_left
 by_cases b4 : c2 < 0; rotate_left
 by_cases b5 : 12 < c2; rotate_left
 by_cases b6 : c3 < 0; rotate_left
 by_cases b7 : 60 < c3; rotate_left
 by_cases b8 : c4 < 0; rotate_left
 by_cases b9 : 7 ≤ c4; rotate_left
 ·exact absurd (show lOk c0 c1 c2 c3 c4 by unfold lOk; omega) HNO.out
 all_goals first | have d0 := eQ b0 | have d0 := dQ b0 | skip
 all_goals first | have d1 := eQ b1 | have d1 := dQ b1 | skip
 all_goals first | have d2 := eQ b2 | have d2 := dQ b2 | skip
 all_goals first | have d3 := eQ b3 | have d3 := dQ b3 | skip
 all_goals first | have d4 := eQ b4 | have d4 := dQ b4 | skip
 all_goals first | have d5 := eQ b5 | have d5 := dQ b5 | skip
 all_goals first | have d6 := eQ b6 | have d6 := dQ b6 | skip
 all_goals first | have d7 := eQ b7 | have d7 := dQ b7 | skip
 all_goals first | have d8 := eQ b8 | have d8 := dQ b8 | skip
 all_goals first | have d9 := eQ b9 | have d9 := dQ b9 | skip
 all_goals
  go_enter Tryz.func41, Tryz.ntmps41
  go_wp2_with (first | (refine wpList_load_row rfl 39 (.tmp 4) rfl (w.heap.size + 1 + 1) rfl 39 _ (0, 0) _ HRR.out Tryz.underlying39 rfl HSZ2.out ?_) | (refine wpList_store_row rfl 39 (.tmp 4) (.tmp 54) rfl (w.heap.size + 1 + 1) #[.int .u8 0, .int .u8 0, .int .u8 0, .int .u8 0, .int .u8 0, .int .u8 0, .int .u8 0, .int .u8 0, .int .u8 0, .int .u8 0, .int .u8 0, .int .u8 0, .int .u8 0, .int .u8 0, .int .u8 0, .int .u8 0, .int .u8 0, .int .u8 0, .int .u8 0, .int .u8 0, .int .u8 0, .int .u8 0, .int .u8 0, .int .u8 0, .int .u8 0, .int .u8 0, .int .u8 0, .int .u8 0, .int .u8 0, .int .u8 0, .int .u8 0, .int .u8 0, .int .i64 0, .int .i64 0] (by rfl) (by rfl) 39 _ HRR.out HSZ2.out rfl HON.out ?_))
  rw [zeros34] at HB1 HRR
  rw [zeros34]
  have hr := setRow_heap _ (w.heap.size + 1 + 1) _ (ndC zeroN).toArray _ _ HRR.out
  have hl := run_loadVar_row (P := Tryz.prog) _ (w.heap.size + 1 + 1) 39 39 (ndC zeroN).toArray (0, 0) _ hr Tryz.underlying39 rfl HSZ.out
  refine bodyPost_ret (v := .tuple #[ndV zeroN, .int .i64 410]) ?_ rfl ⟨rfl, below_setRow HB1.out (by omega) _⟩
  unfold ndV
  simp [results, Tryz.results41, asAddr, hl]
instance (c0 c1 c2 c3 c4 : Int) : Decidable (lOk c0 c1 c2 c3 c4) := by unfold lOk; infer_instance
/-- Leaf -/
def leafR (c0 c1 c2 c3 c4 : Int) (l : List Nat) : Nd := if lOk c0 c1 c2 c3 c4 then leafN c0 c1 c2 c3 c4 l else zeroN
def leafE (c0 c1 c2 c3 c4 : Int) : Int := if lOk c0 c1 c2 c3 c4 then 0 else 410
theorem leafN_ok {c0 c1 c2 c3 c4 : Int} (l : List Nat) (h : lOk c0 c1 c2 c3 c4) : NdOk (leafN c0 c1 c2 c3 c4 l) := by
 unfold lOk at h
 have hm := mul_leaf (a := c2) (b := c3) (by omega) (by omega) (by omega) (by omega)
 exact ⟨tagged_length _ _, tagged_bytes _ _, by simp only [leafN]; omega, by simp only [leafN]; omega⟩
theorem leafN_v {c0 c1 c2 c3 c4 : Int} (l : List Nat) (h : lOk c0 c1 c2 c3 c4) : vN (leafN c0 c1 c2 c3 c4 l) = true := by
 unfold lOk at h
 have hm := mul_leaf (a := c2) (b := c3) (by omega) (by omega) (by omega) (by omega)
 have hh : 0 ≤ (leafN c0 c1 c2 c3 c4 l).c ∧ (leafN c0 c1 c2 c3 c4 l).c ≤ 1073741824 ∧ 0 ≤ (leafN c0 c1 c2 c3 c4 l).p ∧ (leafN c0 c1 c2 c3 c4 l).p ≤ 12 * (leafN c0 c1 c2 c3 c4 l).c := by simp only [leafN]; omega
 simp only [vN, Bool.and_eq_true, decide_eq_true_eq]
 omega
theorem leaf_any (c0 c1 c2 c3 c4 : Int) (l : List Nat) (w : World) (hl : Hid (l.length = 32)) (hb : Hid (Bytes l)) (hT : Hid (Tabs w)) :
  Calls Tryz.prog 41 #[.agg #[.int .i64 c0, .int .i64 c1, .int .i64 c2, .int .i64 c3, .int .i64 c4], dgV l] w fun e w' => e = .returned (.tuple #[ndV (leafR c0 c1 c2 c3 c4 l), .int .i64 (leafE c0 c1 c2 c3 c4)]) ∧ Below w.heap.size w w' := by
 by_cases h : lOk c0 c1 c2 c3 c4
 ·rw [leafR, leafE, if_pos h, if_pos h]
  exact leaf_yes c0 c1 c2 c3 c4 l w (by unfold lOk at h; exact h) hl hb hT
 ·rw [leafR, leafE, if_neg h, if_neg h]
  exact leaf_no c0 c1 c2 c3 c4 l w h
theorem sizeOf_u8 (w : World) : (sizeOf 5).run Tryz.prog w = .ok 1 w := by
 obtain ⟨i0, hi, hz0, hz1, hz2⟩ := info_parts info_u8
 simp [sizeOf, typeInfo, hi, hz1]
theorem dg_cells8 (l : List Nat) (hb : Bytes l) : dgV l = .agg ((l.map UInt8.ofNat).map Extern.Stop.cell).toArray := by
 unfold dgV
 rw [List.map_map]
 congr 2
 apply List.map_congr_left
 intro x hx
 show Value.int .u8 (x : Nat) = Extern.Stop.cell (UInt8.ofNat x)
 have := hb x hx
 unfold Extern.Stop.cell
 rw [UInt8.toNat_ofNat', Nat.mod_eq_of_lt (by omega)]; rfl
theorem ofNat_inj : ∀ (l m : List Nat), Bytes l → Bytes m → (l.map UInt8.ofNat == m.map UInt8.ofNat) = (l == m)
 | [], [], _, _ => rfl
 | [], _ :: _, _, _ => rfl
 | _ :: _, [], _, _ => rfl
 | x :: l, y :: m, hl, hm => by
  have ih := ofNat_inj l m (fun z hz => hl z (List.mem_cons_of_mem _ hz)) (fun z hz => hm z (List.mem_cons_of_mem _ hz))
  have hx := hl x (by simp)
  have hy := hm y (by simp)
  simp only [List.map_cons, List.cons_beq_cons, ih]
  congr 1
  rw [Bool.eq_iff_iff]
  simp only [beq_iff_eq, ← UInt8.toNat_inj, UInt8.toNat_ofNat', Nat.mod_eq_of_lt (show x < 2 ^ 8 by omega), Nat.mod_eq_of_lt (show y < 2 ^ 8 by omega)]
theorem equal_dg (d : Nat) (l m : List Nat) (hl : l.length = 32) (hm : m.length = 32) (bl : Bytes l) (bm : Bytes m) (w : World) : (Op.equalIn (d + 2) 25 (dgV l) (dgV m)).run Tryz.prog w = .ok (l == m) w := by
 rw [dg_cells8 l bl, dg_cells8 m bm, run_equalIn_bytes w d 25 5 32 Tryz.underlying25 Tryz.underlying5 sizeOf_u8 _ _ (by simpa using hl) (by simpa using hm), ofNat_inj l m bl bm]
/-- equality of nodes -/
def ndEq (a b : Nd) : Bool := a.d == b.d && (a.c == b.c && a.p == b.p)
theorem ndEq_iff (a b : Nd) : ndEq a b = true ↔ a = b := by
 cases a; cases b
 simp [ndEq]
theorem ndEq_refl (a : Nd) : ndEq a a = true := (ndEq_iff a a).2 rfl
theorem part_d {n : Nd} (h : NdOk n) (w : World) : (part 25 (ndC n).toArray 0).run Tryz.prog w = .ok (dgV n.d) w := by
 have e : (ndC n).take 32 = n.d.map fun x => Value.int .u8 (x : Nat) := by unfold ndC; rw [List.take_left' (by simp [h.len])]
 have hu := Tryz.underlying25
 simp [part, isAgg, run_underlying hu, dgV, ← e]
theorem part_c {n : Nd} (h : NdOk n) (w : World) : (part 3 (ndC n).toArray 32).run Tryz.prog w = .ok (.int .i64 n.c) w := by
 have hu := Tryz.underlying3
 have hc := ndC_c h
 simp [part, isAgg, run_underlying hu, hc]
theorem part_p {n : Nd} (h : NdOk n) (w : World) : (part 3 (ndC n).toArray 33).run Tryz.prog w = .ok (.int .i64 n.p) w := by
 have hu := Tryz.underlying3
 have hc := ndC_p h
 simp [part, isAgg, run_underlying hu, hc]
theorem equal_nd (a b : Nd) (ha : NdOk a) (hb : NdOk b) (w : World) : (Op.equalIn 10000 39 (ndV a) (ndV b)).run Tryz.prog w = .ok (ndEq a b) w := by
 have hf : (Tryz.prog.fieldsOf 39).toList.map (fun f => (f.name != "_", f.type, f.offset)) = [(true, 25, 0), (true, 3, 32), (true, 3, 33)] := by kernel_rfl
 have hS : Tryz.prog.underlying 39 = some (.struct (Tryz.prog.fieldsOf 39)) := by kernel_rfl
 have hp : Tryz.prog.stoodInHeld 39 = false := by kernel_rfl
 unfold ndV
 rw [show (10000 : Nat) = 9999 + 1 from rfl, run_equalIn_agg w 9999 _ _ _ hS hp]
 generalize (Tryz.prog.fieldsOf 39).toList = fs at hf
 obtain ⟨f1, f2, f3, rfl⟩ : ∃ f1 f2 f3, fs = [f1, f2, f3] := by
  have hl := congrArg List.length hf
  simp only [List.length_map, List.length_cons, List.length_nil] at hl
  rcases fs with _ | ⟨f1, fs⟩
  ·simp at hl
  rcases fs with _ | ⟨f2, fs⟩
  ·simp at hl
  rcases fs with _ | ⟨f3, fs⟩
  ·simp at hl
  rcases fs with _ | ⟨f4, fs⟩
  ·exact ⟨f1, f2, f3, rfl⟩
  ·simp at hl
 simp only [List.map_cons, List.map_nil, List.cons.injEq, Prod.mk.injEq, and_true, bne_iff_ne, ne_eq] at hf
 obtain ⟨⟨n1, t1, o1⟩, ⟨n2, t2, o2⟩, n3, t3, o3⟩ := hf
 have q1 := equal_dg 9997 a.d b.d ha.len hb.len ha.bytes hb.bytes w
 have q2 := run_equalIn_int (P := Tryz.prog) w 9998 3 .i64 _ a.c b.c Tryz.underlying3
 have q3 := run_equalIn_int (P := Tryz.prog) w 9998 3 .i64 _ a.p b.p Tryz.underlying3
 simp only [Nat.reduceAdd] at q1 q2 q3
 have e3 : (Op.eqFields 9999 (ndC a).toArray (ndC b).toArray [f3]).run Tryz.prog w = .ok (a.p == b.p) w := by
  simp only [Op.eqFields, n3, t3, o3, not_false_eq_true, ne_eq, if_true, Sem.run_bind, part_p ha, part_p hb, Result.andThen_ok, q3]
  cases a.p == b.p <;> rfl
 have e2 : (Op.eqFields 9999 (ndC a).toArray (ndC b).toArray [f2, f3]).run Tryz.prog w = .ok (a.c == b.c && a.p == b.p) w := by
  rw [Op.eqFields]
  simp only [n2, t2, o2, not_false_eq_true, ne_eq, if_true, Sem.run_bind, part_c ha, part_c hb, Result.andThen_ok, q2]
  cases a.c == b.c
  ·rfl
  ·exact e3
 rw [Op.eqFields]
 simp only [n1, t1, o1, not_false_eq_true, ne_eq, if_true, Sem.run_bind, part_d ha, part_d hb, Result.andThen_ok, q1]
 unfold ndEq
 cases a.d == b.d
 ·rfl
 ·exact e2
theorem eql_nd (a b : Nd) (ha : NdOk a) (hb : NdOk b) (w : World) : (binOp .eql 39 (ndV a) (ndV b)).run Tryz.prog w = .ok (.bool (ndEq a b)) w := by
 have := equal_nd a b ha hb w
 unfold ndV at this ⊢
 rw [run_eql_struct, this]; rfl
theorem neq_nd (a b : Nd) (ha : NdOk a) (hb : NdOk b) (w : World) : (binOp .neq 39 (ndV a) (ndV b)).run Tryz.prog w = .ok (.bool (!(ndEq a b))) w := by
 have := equal_nd a b ha hb w
 unfold ndV at this ⊢
 rw [run_neq_struct, this]; rfl
theorem guard_nd (op : BinOp) (x y : Operand) (a b : Nd) (w : World) : (eqGuard op 39 x y (ndV a) (ndV b)).run Tryz.prog w = .ok () w := by
 unfold ndV
 exact run_eqGuard_agg w op _ x y _ _ (by kernel_rfl)
theorem wpList_eql_nd {w : World} {ops : Array Oper} {rest : List Oper} {o : Oper} {a : Act} {Q : Exit → Act → World → Prop} (hg : o.guard = none) (x y : Operand) (t : TypeId)
  (ho : o.op = .binOp .eql 39 x y t) (m n : Nd) (hx : a.eval x = ndV m) (hy : a.eval y = ndV n) (hm : NdOk m) (hn : NdOk n)
  (h : wpList Tryz.prog ops Q rest (a.put o.dst (.bool (ndEq m n))) w) : wpList Tryz.prog ops Q (o :: rest) a w :=
 wpList_plain hg fun _ hK => by
  unfold Oper.wp execOp
  simp only [ho, hx, hy, Sem.run_bind, guard_nd, eql_nd m n hm hn, Result.andThen_ok]
  exact hK _ _ h
theorem wpList_neq_nd {w : World} {ops : Array Oper} {rest : List Oper} {o : Oper} {a : Act} {Q : Exit → Act → World → Prop} (hg : o.guard = none) (x y : Operand) (t : TypeId)
  (ho : o.op = .binOp .neq 39 x y t) (m n : Nd) (hx : a.eval x = ndV m) (hy : a.eval y = ndV n) (hm : NdOk m) (hn : NdOk n)
  (h : wpList Tryz.prog ops Q rest (a.put o.dst (.bool (!(ndEq m n)))) w) : wpList Tryz.prog ops Q (o :: rest) a w :=
 wpList_plain hg fun _ hK => by
  unfold Oper.wp execOp
  simp only [ho, hx, hy, Sem.run_bind, guard_nd, neq_nd m n hm hn, Result.andThen_ok]
  exact hK _ _ h
open Go.ChangeShapes Go.WideShapes Go.ChangeAt
def natOf : Value → Nat
 | .int _ z => z.toNat
 | _ => 0
open Go.Deep
section
variable {H : Type} {enc : TypeId × Value → H} {W : World} {base : Nat} {spare : Nat → Bool} {held : Bool} {fuel : Nat}
theorem cells_nd : Tryz.prog.cellsOf 39 = 34 := by kernel_rfl
theorem cells_dg : Tryz.prog.cellsOf 25 = 32 := by kernel_rfl
theorem cells_it : Tryz.prog.cellsOf 3 = 1 := by kernel_rfl
theorem trod_dg {cs : List Value} {x : DataW H × List MemPlace} (hf : DataW.trod enc Tryz.prog W base spare held fuel 25 cs = some x) : ∃ l : List Nat, cs = l.map (fun y => Value.int .u8 (y : Nat)) ∧ l.length = 32 ∧ Bytes l := by
 obtain ⟨xs, m, rfl, hx, hlen, hxl, hget⟩ := DataW.trod_array Tryz.underlying25 hf
 rw [cells_dg] at hlen
 have key : ∀ i (hi : i < cs.length), ∃ z : Nat, z < 256 ∧ cs[i] = .int .u8 (z : Nat) := fun i hi => by
  have h1 := hget i (by omega)
  rw [cells8, Nat.mul_one] at h1
  have hxi : i < xs.length := by omega
  rw [List.getElem?_eq_getElem hxi] at h1
  obtain ⟨z, hc, _, hw⟩ := DataW.trod_int Tryz.underlying5 h1
  have hb := bounds_u8 hw
  refine ⟨z.toNat, by omega, ?_⟩
  have h2 := congrArg (·[0]?) hc
  rw [Int.toNat_of_nonneg hb.1]
  simpa [List.getElem?_take, List.getElem?_drop, hi] using h2
 refine ⟨cs.map natOf, ?_, by simp [hlen], fun x hx => ?_⟩
 ·rw [List.map_map]
  apply List.ext_getElem
  ·simp
  ·intro i h1 h2
   obtain ⟨z, hz, e⟩ := key i h1
   rw [List.getElem_map, e]
   simp [natOf]
 ·obtain ⟨u, hu, rfl⟩ := List.mem_map.1 hx
  obtain ⟨i, hi, rfl⟩ := List.mem_iff_getElem.1 hu
  obtain ⟨z, hz, e⟩ := key i hi
  rw [e]
  simpa [natOf] using hz
theorem trod_it {cs : List Value} {x : DataW H × List MemPlace} (hf : DataW.trod enc Tryz.prog W base spare held fuel 3 cs = some x) : ∃ z : Int, cs = [.int .i64 z] ∧ -9223372036854775808 ≤ z ∧ z ≤ 9223372036854775807 := by
 obtain ⟨z, hc, _, hw⟩ := DataW.trod_int Tryz.underlying3 hf
 exact ⟨z, hc, bounds_i64 hw⟩
theorem nd_fields : ∃ f0 f1 f2 : Field, Tryz.prog.underlying 39 = some (.struct #[f0, f1, f2]) ∧ f0.type = 25 ∧ f0.offset = 0 ∧ f1.type = 3 ∧ f1.offset = 32 ∧ f2.type = 3 ∧ f2.offset = 33 :=
 ⟨_, _, _, Tryz.underlying39, rfl, rfl, rfl, rfl, rfl, rfl⟩
theorem trod_nd {cs : List Value} {x : DataW H × List MemPlace} (hf : DataW.trod enc Tryz.prog W base spare held fuel 39 cs = some x) : ∃ n : Nd, cs = ndC n ∧ NdOk n := by
 obtain ⟨f0, f1, f2, hu, t0, o0, t1, o1, t2, o2⟩ := nd_fields
 obtain ⟨xs, m, rfl, hx, hlen, hxl, hget⟩ := DataW.trod_struct hu hf
 rw [cells_nd] at hlen
 have hxl' : xs.length = 3 := hxl
 have g0 := hget 0 f0 rfl
 have g1 := hget 1 f1 rfl
 have g2 := hget 2 f2 rfl
 rw [t0, o0, cells_dg, List.getElem?_eq_getElem (by omega)] at g0
 rw [t1, o1, cells_it, List.getElem?_eq_getElem (by omega)] at g1
 rw [t2, o2, cells_it, List.getElem?_eq_getElem (by omega)] at g2
 obtain ⟨l, e0, hl, hb⟩ := trod_dg g0
 obtain ⟨c, e1, hc⟩ := trod_it g1
 obtain ⟨p, e2, hp⟩ := trod_it g2
 refine ⟨⟨l, c, p⟩, ?_, ⟨hl, hb, hc, hp⟩⟩
 have s1 : cs = cs.take 32 ++ (cs.drop 32).take 1 ++ (cs.drop 33).take 1 := by
  have a1 : (cs.drop 33).take 1 = cs.drop 33 := List.take_of_length_le (by simp [hlen])
  have a2 : cs.drop 33 = (cs.drop 32).drop 1 := by rw [List.drop_drop]
  rw [a1, a2, List.append_assoc, List.take_append_drop, List.take_append_drop]
 rw [s1, e1, e2]
 rw [List.drop_zero] at e0
 rw [e0]
 unfold ndC
 simp
/-- a line -/
structure Ln where
 c0 : Int
 c1 : Int
 c2 : Int
 c3 : Int
 c4 : Int
def lnC (l : Ln) : List Value := [.int .i64 l.c0, .int .i64 l.c1, .int .i64 l.c2, .int .i64 l.c3, .int .i64 l.c4]
def I64 (z : Int) : Prop := -9223372036854775808 ≤ z ∧ z ≤ 9223372036854775807
structure LnOk (l : Ln) : Prop where
 b0 : I64 l.c0
 b1 : I64 l.c1
 b2 : I64 l.c2
 b3 : I64 l.c3
 b4 : I64 l.c4
theorem rangeAt_flat {α : Type} {cells : α → List Value} {k : Nat} {w : World} {g : Nat} : ∀ (ls : List α) (off : Nat), (∀ x ∈ ls, (cells x).length = k) → (∀ i (hi : i < ls.length), w.rangeAt g (off + i * k) (cells ls[i])) → w.rangeAt g off (ls.flatMap cells)
 | [], off, _, _ => fun j v hj => by simp at hj
 | x :: ls, off, hl, h => fun j v hj => by
  rw [List.flatMap_cons] at hj
  have hx := hl x (by simp)
  by_cases hjk : j < k
  ·rw [List.getElem?_append_left (by omega)] at hj
   have := h 0 (by simp) j v hj
   rwa [Nat.zero_mul, Nat.add_zero] at this
  ·rw [List.getElem?_append_right (by omega), hx] at hj
   have ih := rangeAt_flat ls (off + k) (fun y hy => hl y (List.mem_cons_of_mem _ hy)) (fun i hi => by
    have := h (i + 1) (by simpa using hi)
    rw [Nat.succ_mul, Nat.add_comm (i * k), ← Nat.add_assoc] at this
    exact this)
   have := ih (j - k) v hj
   rwa [show off + k + (j - k) = off + j by omega] at this
instance : Inhabited Nd := ⟨⟨[], 0, 0⟩⟩
instance : Inhabited Ln := ⟨⟨0, 0, 0, 0, 0⟩⟩
/-- a slice of lines that came in -/
structure InLn (w : World) (A : Option Addr) (n c : Nat) (ls : List Ln) : Prop where
 len : ls.length = n
 cap : n ≤ c
 none_ : A = none → c = 0
 ok : ∀ x ∈ ls, LnOk x
 rd : 0 < ls.length → ∃ g off, A = some ⟨g, off, none⟩ ∧ g < w.heap.size ∧ w.rangeAt g off (ls.flatMap lnC)
end
end Go.Proofs.YtmfmgeapecapiaaGreatDoor
