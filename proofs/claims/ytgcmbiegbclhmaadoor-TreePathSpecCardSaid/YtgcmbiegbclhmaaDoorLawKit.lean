/- What every law of a seat with laid tables needs: the tables' cells, the arguments opened, the row's last step. -/
import Derived.Test.YtgcmbiegbclhmaaDoorRows
import Derived.Test.YtgcmbiegbclhmaaDoorTagged
import Derived.ReadAgain
import Derived.SizedLaws
import Derived.ProofKit
import Derived.OpenShut
import Derived.LaidMore
import Derived.LaidLaws
import Derived.Lib.LaidTab
import Derived.ChangeMaps5
import Derived.ChangeBears
import Derived.Stop.Joined
import Derived.Stop.BytesEq
import Derived.MakeChecks
import Derived.SevenTiedAt
namespace Go.Proofs.YtgcmbiegbclhmaaDoor
open Go.ChangeShapes Go.WideShapes Go.ChangeAt Go.RowKit SzSha
set_option linter.unusedVariables false
set_option maxRecDepth 100000
theorem own : ownKnob Tryd.prog.godebug = none := by kernel_rfl
theorem laidOut : laidOutB Tryd.prog = true := by kernel_rfl
theorem mapsIn : mapsRowed Tryd.prog = true := by kernel_rfl
theorem slicesFull : ∀ t e, t < Tryd.prog.types.size → Tryd.prog.underlying t = some (.slice e) → 0 < Tryd.prog.cellsOf e := slices_full_of Tryd.prog (by kernel_rfl)
theorem gS : Tryd.prog.globalNamed "sizar/digest.start" = some 0 := by kernel_rfl
theorem gN : Tryd.prog.globalNamed "sizar/digest.numbers" = some 1 := by kernel_rfl
theorem tS : (Tryd.prog.globals[0]?).map (·.type) = some 92 := by kernel_rfl
theorem tN : (Tryd.prog.globals[1]?).map (·.type) = some 108 := by kernel_rfl
theorem cellsE : Tryd.prog.cellsOf 91 = 1 := by kernel_rfl
theorem cellsS : Tryd.prog.cellsOf 92 = 8 := by kernel_rfl
theorem cellsN : Tryd.prog.cellsOf 108 = 64 := by kernel_rfl
theorem cells8 : Tryd.prog.cellsOf 5 = 1 := by kernel_rfl
theorem bytes8 : Tryd.prog.bytesOf 5 = 1 := by kernel_rfl
/-- the tables as the rows list them -/
def laidL : List (String × DataW Unit) := [("sizar/digest.start", Rows.laid_sizar_digest_start), ("sizar/digest.numbers", Rows.laid_sizar_digest_numbers)]
theorem door_met (os : Os) (args : Array Value) : laidMetH Tryd.prog laidL ((World.doorLaid Tryd.prog 400 os).forCall (fun _ _ => 0) ⟨#[], args, []⟩).memory :=
  laidMetH_of_parts3 (fuel := 8) (laidMet_of_run' 8 (by kernel_rfl) (by kernel_rfl)) (by kernel_rfl) (by kernel_rfl)
theorem tabS : (Rows.laid_sizar_digest_start : DataW Unit) = Lib.tabData .u32 (hs.map fun x : Nat => (x : Int)) := by rfl
theorem tabN : (Rows.laid_sizar_digest_numbers : DataW Unit) = Lib.tabData .u32 (ks.map fun x : Nat => (x : Int)) := by rfl
theorem tabs_of {W : World} (h : laidMetH Tryd.prog laidL W) : Tabs W := by
  rw [MakeChecks.laidMetH_plain _ _ _ (by kernel_rfl)] at h
  obtain ⟨ps, ⟨g0, t0, cs0, f0, p0, q0, hg0, ht0, hv0, hd0, ⟨g1, t1, cs1, f1, p1, q1, hg1, ht1, hv1, hd1, _, _⟩, _⟩, _, _⟩ := h
  obtain rfl := Option.some.inj (gS.symm.trans hg0)
  obtain rfl := Option.some.inj (gN.symm.trans hg1)
  obtain rfl := Option.some.inj (tS.symm.trans ht0)
  obtain rfl := Option.some.inj (tN.symm.trans ht1)
  rw [tabS] at hd0
  rw [tabN] at hd1
  have e0 := Lib.cells_of_tab Tryd.underlying92 Tryd.underlying91 cellsE cellsS hd0
  have e1 := Lib.cells_of_tab Tryd.underlying108 Tryd.underlying91 cellsE cellsN hd1
  have c0 : ∀ t, t < 8 → W.cell? ⟨0, t, none⟩ = some (.int .u32 (hf t : Nat)) := fun t ht => by
    have := World.var?_cell gS hv0 t
    rw [this, ← Array.getElem?_toList, e0]
    have hl : t < hs.length := ht
    simp only [List.map_map, List.getElem?_map, List.getElem?_eq_getElem hl, Option.map_some, hf, List.getD_eq_getElem?_getD, Option.getD_some]; rfl
  have c1 : ∀ t, t < 64 → W.cell? ⟨1, t, none⟩ = some (.int .u32 (kf t : Nat)) := fun t ht => by
    have := World.var?_cell gN hv1 t
    rw [this, ← Array.getElem?_toList, e1]
    have hl : t < ks.length := ht
    simp only [List.map_map, List.getElem?_map, List.getElem?_eq_getElem hl, Option.map_some, kf, List.getD_eq_getElem?_getD, Option.getD_some]; rfl
  exact ⟨block_lt_of_cell (c0 0 (by omega)), block_lt_of_cell (c1 0 (by omega)), c0, c1⟩
theorem stands_of {ps : Array TypeId} (h : ps.all (fun t => !Tryd.prog.wantsStandIn t) = true) {j : Nat} {t : TypeId} (ht : ps[j]? = some t) : Tryd.prog.wantsStandIn t = false := by
  have := Array.all_eq_true_iff_forall_mem.1 h t (Array.mem_of_getElem? ht)
  simpa using this
/-- what a slice of bytes brings -/
structure In (w : World) (A : Option Addr) (n c : Nat) (l : List Nat) : Prop where
  len : l.length = n
  cap : n ≤ c
  none_ : A = none → c = 0
  bytes : Bytes l
  rd : Rd w w.heap.size A l
theorem In.below {w w' : World} {A : Option Addr} {n c : Nat} {l : List Nat} (h : In w A n c l) (hb : Below w.heap.size w w') : In w' A n c l :=
  ⟨h.len, h.cap, h.none_, h.bytes, (h.rd.below hb (Nat.le_refl _)).mono hb.size⟩
section
variable {H : Type} {enc : TypeId × Value → H}
theorem trodAll_carry {W W' : World} (hb : Below W.heap.size W W') : ∀ {ts : List TypeId} {vs : List Value} {ds : List (DataW H)} {ps : List MemPlace},
    DataW.TrodAll enc Tryd.prog W 0 (fun _ => true) true ts vs ds ps → DataW.TrodAll enc Tryd.prog W' 0 (fun _ => true) true ts vs ds ps
  | [], [], [], _, h => h
  | _ :: _, _ :: _, _ :: _, ps, h => by
    have hlt := DataW.TrodAll.lt h
    obtain ⟨p, q, ⟨n, h1⟩, h2, e⟩ := h
    refine ⟨p, q, ⟨n, DataW.trod_carry n _ _ _ h1 (fun x hx => ?_)⟩, trodAll_carry hb h2, e⟩
    have := hlt x (by rw [e]; exact List.mem_append_left _ hx)
    cases x with
    | cell b off => exact hb.cell (p := ⟨b, off, none⟩) this
    | map b => exact hb.block b this
/-- the last step of a law: true, and the arguments read as they did -/
theorem law_post {f : Func} {s : ChangeSpec} {W W' : World} {args : Array Value} {ds gs : List (DataW H)} {before : List MemPlace}
    (hts : f.params.toList.all (fun t => decide (t < Tryd.prog.types.size)) = true) (hvars : s.vars = []) (hrt : f.resultTypes = #[4])
    (hfn : gs = [] → (s.fn H ds).results = [.lit (.bool true)] ∧ (s.fn H ds).args = ds ∧ (s.fn H ds).vars = [])
    (hW : DataW.Whole enc Tryd.prog f.params.toList s.vars false W args.toList ds gs before) (hb : Below W.heap.size W W') :
    s.post enc Tryd.prog f false true false false W args (.bool true) W' := by
  have hW' := hW
  obtain ⟨p, q, hA, hV, rfl, hfz, hnd⟩ := hW
  rw [hvars] at hV
  obtain ⟨rfl, rfl⟩ := trodVars_none hV
  obtain ⟨e1, e2, e3⟩ := hfn rfl
  have hlt := DataW.TrodAll.lt hA
  have hA2 := DataW.TrodAll.respare (kids_rows laidOut mapsIn) (fun t e ht => slicesFull t e ht) (fun t ht => of_decide_eq_true (List.all_eq_true.1 hts t ht)) (trodAll_carry hb hA) (spare' := fun b => decide (b < W.heap.size)) (fun x hx => decide_eq_true (hlt x hx))
  refine ⟨ds, [], p ++ [], [], p, [], hW', ?_, ?_, ?_, World.keptBut_mono (fun x hx => ⟨hx, .inr (.inl (by simpa using hx))⟩) (hb.frame (· ∈ p ++ [])), fun h => by cases h⟩
  · rw [hrt, List.append_nil, e1]
    exact trodAll_cons_mk (shut_bool Tryd.underlying4 _) trodAll_mk0
  · rw [List.append_nil, e2]; exact hA2
  · rw [List.append_nil, e3, hvars]; rfl
/-- a slice of bytes that came in -/
theorem arg_bytes {W : World} {base : Nat} {v : Value} {d : DataW H} {p : List MemPlace} (hval : Value.okWide Tryd.prog W .any base 43 v) (h : DataW.Trod enc Tryd.prog W 0 (fun _ => true) true 43 v d p) :
    ∃ (A : Option Addr) (n c : Nat) (l : List Nat), v = .slice A n c ∧ l.length = n ∧ n ≤ c ∧ (A = none → c = 0) ∧ Bytes l ∧ Rd W W.heap.size A l ∧ (d = .nil ∧ n = 0 ∨ ∃ elems spare, d = .slice elems spare ∧ elems.length + spare.length = c) := by
  obtain ⟨a1, len, cap, rfl⟩ := okWide_slice Tryd.underlying43 hval
  obtain ⟨fuel, hf⟩ := h
  rcases open_ints Tryd.underlying43 Tryd.underlying5 cells8 hf with ⟨hcs, hx⟩ | ⟨a, len', cap', zs, hcs, _, hl, hm, hz, hx, hcell, hwz⟩
  · simp [Value.cells] at hcs
    obtain ⟨rfl, rfl, rfl⟩ := hcs
    simp only [Prod.mk.injEq] at hx
    exact ⟨none, 0, 0, [], rfl, rfl, Nat.le_refl _, fun _ => rfl, (fun x hx => by cases hx), fun h => absurd h (by simp), .inl ⟨hx.1, rfl⟩⟩
  · simp [Value.cells] at hcs
    obtain ⟨rfl, rfl, rfl⟩ := hcs
    simp only [Prod.mk.injEq] at hx
    simp only [if_true] at hz
    refine ⟨some a, len, cap, (zs.take len).map Int.toNat, rfl, by simp; omega, hl, (fun h => by cases h), ?_, ?_, .inr ⟨_, _, hx.1, by simp [lits]; omega⟩⟩
    · intro x hx
      simp only [List.mem_map] at hx
      obtain ⟨z, hz', rfl⟩ := hx
      have := hwz z (List.mem_of_mem_take hz')
      have := bounds_u8 this
      omega
    · intro hpos
      obtain ⟨ab, ao, spot⟩ := a
      have h0 : 0 < zs.length := by simp at hpos; omega
      have hspot : spot = none := by simpa [Addr.add] using World.cell?_spot (hcell 0 h0)
      subst hspot
      refine ⟨ab, ao, rfl, ?_, fun i hi => ?_⟩
      · have := hcell 0 h0
        exact block_lt_of_cell (a := (⟨ab, ao, none⟩ : Addr).add 0) this
      · have hi' : i < zs.length := by simp at hi; omega
        have := hcell i hi'
        rw [Addr.add_lit] at this
        rw [this]
        have hi2 : i < len := by simp at hi; omega
        have hb0 := bounds_u8 (hwz _ (List.getElem_mem hi'))
        simp only [List.getD_eq_getElem?_getD, List.getElem?_eq_getElem hi', Option.getD_some, List.getElem?_map, List.getElem?_take_of_lt hi2, Option.map_some]
        rw [Int.toNat_of_nonneg hb0.1]
end
end Go.Proofs.YtgcmbiegbclhmaaDoor
