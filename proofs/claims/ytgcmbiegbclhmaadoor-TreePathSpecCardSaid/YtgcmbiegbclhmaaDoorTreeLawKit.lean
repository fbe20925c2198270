/- What the laws of layer 41 share. -/
import Derived.Test.YtgcmbiegbclhmaaDoorTreeSane
namespace Go.Proofs.YtgcmbiegbclhmaaDoor
open Go.RowKit SzSha SzTree
set_option linter.unusedVariables false
set_option maxRecDepth 100000
theorem vL_pair (a b : Nd) : vL [a, b] = true ↔ (vN a = true ∧ vN b = true) ∧ a.c + b.c ≤ 1073741824 := by
  have h : sumC [a, b] = a.c + b.c := by simp [sumC]
  unfold vL
  rw [Bool.and_eq_true, decide_eq_true_eq, h]
  simp
theorem vL_comm (a b : Nd) : vL [b, a] = vL [a, b] := by
  rw [Bool.eq_iff_iff, vL_pair, vL_pair, Int.add_comm]
  exact ⟨fun h => ⟨⟨h.1.2, h.1.1⟩, h.2⟩, fun h => ⟨⟨h.1.2, h.1.1⟩, h.2⟩⟩
theorem joinR_yes {a b : Nd} (h : vL [a, b] = true) : joinR a b = joinN a b ∧ joinE a b = 0 := by unfold joinR joinE; rw [if_pos h, if_pos h]; exact ⟨rfl, rfl⟩
theorem joinR_no {a b : Nd} (h : vL [a, b] = false) : joinR a b = zeroN ∧ joinE a b = 410 := by unfold joinR joinE; rw [h]; exact ⟨rfl, rfl⟩
theorem vN_join {a b : Nd} (h : vL [a, b] = true) : vN (joinN a b) = true := by
  have h2 := (vL_pair a b).1 h
  have h3 := vN_bd h2.1.1
  have h4 := vN_bd h2.1.2
  have e1 : (joinN a b).c = a.c + b.c := rfl
  have e2 : (joinN a b).p = a.p + b.p := rfl
  simp only [vN, Bool.and_eq_true, decide_eq_true_eq, e1, e2]; omega
theorem wpList_zero_nd {w : World} {ops : Array Oper} {rest : List Oper} {o : Oper} {a : Act} {Q : Exit → Act → World → Prop} (hg : o.guard = none)
    {parts : Array (Nat × Operand)} (ho : o.op = .build 26 parts := by rfl) (hp : parts = #[] := by rfl)
    (h : wpList Tryd.prog ops Q rest (a.put o.dst (ndV zeroN)) w) : wpList Tryd.prog ops Q (o :: rest) a w := by
  subst hp
  have e1 : Tryd.prog.built 26 [] = some (ndC zeroN).toArray := by rw [zeroN_cells]; kernel_rfl
  have e0 : ((#[] : Array (Nat × Operand)).map fun (i, x) => (i, a.eval x)).toList = [] := by simp
  refine wpList_build hg 26 _ ho (by rw [e0, e1]; rfl) ?_
  rw [e0, e1]; exact h
end Go.Proofs.YtgcmbiegbclhmaaDoor
