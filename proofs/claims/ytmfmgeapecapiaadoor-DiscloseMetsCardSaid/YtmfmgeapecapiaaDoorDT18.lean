/- More theorems. -/
import Derived.Test.YtmfmgeapecapiaaDoorDT17
import Derived.Test.YtmfmgeapecapiaaDoorDT11
import Derived.Test.YtmfmgeapecapiaaDoorDT14
import Derived.Test.YtmfmgeapecapiaaDoorDT6
import Derived.Test.YtmfmgeapecapiaaDoorDT2
import Derived.Test.YtmfmgeapecapiaaDoorDT4
import Derived.Deep.MidRow
namespace Go.Proofs.YtmfmgeapecapiaaDoor
open Go.RowKit SzSha SzTree
set_option linter.unusedVariables false
set_option maxRecDepth 100000
theorem clEq_iff (a b : Cl) : clEq a b = true ↔ a = b := by
  cases a; cases b
  simp [clEq]
end Go.Proofs.YtmfmgeapecapiaaDoor
namespace Go.Proofs.YtmfmgeapecapiaaDoor
open Go.RowKit SzSha SzTree
set_option linter.unusedVariables false
set_option maxRecDepth 100000
theorem clC_one (x : Cl) : (clC x).toArray.all (·.oneCell') = true := by simp [clC, Value.oneCell']
end Go.Proofs.YtmfmgeapecapiaaDoor
namespace Go.Proofs.YtmfmgeapecapiaaDoor
open Go.ChangeShapes Go.WideShapes Go.ChangeAt Go.RowKit SzSha SzTree Go.Deep
set_option linter.unusedVariables false
set_option maxRecDepth 100000
section
variable {H : Type} {enc : TypeId × Value → H} {W : World} {base : Nat} {fuel : Nat}
theorem cells_cl2 : Tryd.prog.cellsOf 49 = 3 := by kernel_rfl
theorem cells_shK : Tryd.prog.cellsOf 51 = 37 := by kernel_rfl
theorem shK_fields : ∃ f0 f1 f2 f3 : Field, Tryd.prog.underlying 51 = some (.struct #[f0, f1, f2, f3]) ∧ (f0.type = 3 ∧ f0.offset = 0) ∧ (f1.type = 49 ∧ f1.offset = 1) ∧ (f2.type = 25 ∧ f2.offset = 4) ∧ f3.type = 42 ∧ f3.offset = 36 :=
  ⟨_, _, _, _, Tryd.underlying51, ⟨rfl, rfl⟩, ⟨rfl, rfl⟩, ⟨rfl, rfl⟩, rfl, rfl⟩
theorem arg_shK {v : Value} {d : DataW H} {p : List MemPlace} (hval : Value.okWide Tryd.prog W .any base 51 v) (h : DataW.Trod enc Tryd.prog W 0 (fun _ => true) true 51 v d p) : ∃ (i : Int) (x : Cl) (s : List Nat) (A : Option Addr) (n c : Nat) (ps : List Dg), v = .agg (shCK i x s A n c).toArray ∧ I64 i ∧ ClOk x ∧ DgOk s ∧ InD W A n c ps ∧ c ≤ maxLen := by
  obtain ⟨f0, f1, f2, f3, hu, ⟨t0, o0⟩, ⟨t1, o1⟩, ⟨t2, o2⟩, t3, o3⟩ := shK_fields
  obtain ⟨cs, rfl, hsz⟩ := okWide_struct hu hval
  obtain ⟨fuel, hf⟩ := h
  obtain ⟨xs, m, rfl, hx, hlen, hxl, hget⟩ := DataW.trod_struct hu hf
  rw [cells_shK] at hlen
  have hxl' : xs.length = 4 := hxl
  have g0 := hget 0 f0 rfl
  have g1 := hget 1 f1 rfl
  have g2 := hget 2 f2 rfl
  have g3 := hget 3 f3 rfl
  rw [t0, o0, cells_it, List.getElem?_eq_getElem (by omega)] at g0
  rw [t1, o1, cells_cl2, List.getElem?_eq_getElem (by omega)] at g1
  rw [t2, o2, cells_dg, List.getElem?_eq_getElem (by omega)] at g2
  rw [t3, o3, cells_dgs, List.getElem?_eq_getElem (by omega)] at g3
  obtain ⟨z0, e0, h0⟩ := trod_it g0
  obtain ⟨x, e1, h1⟩ := trod_cl g1
  obtain ⟨s, e2, hs, hb⟩ := trod_dg g2
  obtain ⟨A, n, c, ps, e3, l1, l2, l3, l4, l5, l6⟩ := trod_rows (cells := dgC) (ok := DgOk) (k := 32) (by omega) Tryd.underlying42 cells_dg (fun x hx => dgC_len32 hx) (fun n cs y hy => by
    obtain ⟨l, el, hl, hbl⟩ := trod_dg hy
    exact ⟨l, el, hl, hbl⟩) g3
  refine ⟨z0, x, s, A, n, c, ps, ?_, h0, h1, ⟨hs, hb⟩, ⟨l1, l2, l3, l4, l5⟩, l6⟩
  congr 1
  rw [← Array.toArray_toList (xs := cs)]
  congr 1
  unfold shCK
  obtain ⟨L, hL⟩ : ∃ L, cs.toList = L := ⟨_, rfl⟩
  have hLl : L.length = 37 := by rw [← hL]; exact hlen
  simp only [Value.cells, hL] at e0 e1 e2 e3 ⊢
  have k1 : L = L.take 1 ++ ((L.drop 1).take 3 ++ ((L.drop 4).take 32 ++ L.drop 36)) := by
    have a1 := List.take_append_drop 1 L
    have a2 := List.take_append_drop 3 (L.drop 1)
    have a3 := List.take_append_drop 32 (L.drop 4)
    rw [List.drop_drop] at a2 a3
    rw [a3, a2, a1]
  have k2 : L.drop 36 = (L.drop 36).take 1 := by rw [List.take_of_length_le (by rw [List.length_drop]; omega)]
  rw [List.drop_zero] at e0
  rw [k1, k2, e0, e1, e2, e3]
  rfl
end
end Go.Proofs.YtmfmgeapecapiaaDoor
namespace Go.Proofs.YtmfmgeapecapiaaDoor
open Go.RowKit SzSha SzTree
set_option linter.unusedVariables false
set_option maxRecDepth 100000
def flagN (b : Bool) : Int := bif b then 1 else 0
theorem flag_any (b : Bool) (w : World) : Calls Tryd.prog 25 #[.bool b] w fun e w' => e = .returned (.int .i64 (flagN b)) ∧ w = w' := by
  cases b
  · go_enter Tryd.func25, Tryd.ntmps25
    go_wp2_with fail
    go_ret
    exact ⟨rfl, rfl⟩
  · go_enter Tryd.func25, Tryd.ntmps25
    go_wp2_with fail
    go_ret
    exact ⟨rfl, rfl⟩
end Go.Proofs.YtmfmgeapecapiaaDoor
namespace Go.Proofs.YtmfmgeapecapiaaDoor
open Go.ChangeShapes Go.WideShapes Go.ChangeAt Go.RowKit SzSha SzTree
set_option linter.unusedVariables false
theorem wpList_load_mid_g {P : Program} {ops : Array Oper} {rest : List Oper} {op : Oper} {a : Act} {w : World} {Q : Exit → Act → World → Prop} (ty : TypeId) (x : Operand) (ho : op.op = .load ty x)
    (hw : Region.wanted op (yielded ops a.tmps) = true)
    (b o : Nat) (hx : a.eval x = .pointer (some ⟨b, o, none⟩)) (cs : List Value) (d : TypeDesc) (hc : w.rangeAt b o cs)
    (hu : P.underlying ty = some d) (hd : d.isRow = true) (hi : (P.info? ty).map (·.size) = some cs.length)
    (h : wpList P ops Q rest (a.put op.dst (.agg cs.toArray)) w) : wpList P ops Q (op :: rest) a w :=
  wpList_unguard hw (wpList_load_mid rfl ty x ho b o hx cs d hc hu hd hi h)
end Go.Proofs.YtmfmgeapecapiaaDoor
