/- sizarref41.Same. -/
import Derived.Test.YtgcmbiegbclhmaaDoorNdEq
import Derived.Test.YtgcmbiegbclhmaaDoorTreeRoot2
namespace Go.Proofs.YtgcmbiegbclhmaaDoor
open Go.RowKit SzSha SzTree
set_option linter.unusedVariables false
set_option maxRecDepth 100000
def sameN : List Nd → List Nd → Bool
  | [], [] => true
  | x :: a, y :: b => ndEq x y && sameN a b
  | _, _ => false
theorem sameN_iff : ∀ a b : List Nd, sameN a b = true ↔ a = b
  | [], [] => by simp [sameN]
  | [], _ :: _ => by simp [sameN]
  | _ :: _, [] => by simp [sameN]
  | x :: a, y :: b => by
    unfold sameN
    rw [Bool.and_eq_true, ndEq_iff, sameN_iff a b, List.cons.injEq]
theorem sameN_refl (a : List Nd) : sameN a a = true := (sameN_iff a a).2 rfl
theorem sameN_no {a b : List Nd} (h : a ≠ b) : sameN a b = false := by
  cases hb : sameN a b
  · rfl
  · exact absurd ((sameN_iff a b).1 hb) h

def wSm (g : Nat) (off : Nat) (h : Nat) (oh : Nat) (n : Nat) (c : Nat) (d : Nat) (z : Nat) (x : Nd) (y : Nd) : Nat → Value → World → Prop
  | 0, fv, _ => fv = Value.slice (some ⟨g, off, none⟩) n c
  | 1, fv, _ => fv = Value.int .i64 ((z : Nat))
  | 2, fv, _ => fv = Value.pointer (some ⟨g, off + z * 34, none⟩)
  | 3, fv, _ => fv = ndV x
  | 4, fv, _ => fv = Value.slice (some ⟨h, oh, none⟩) n d
  | 5, fv, _ => fv = Value.int .i64 ((z : Nat))
  | 6, fv, _ => fv = Value.pointer (some ⟨h, oh + z * 34, none⟩)
  | 7, fv, _ => fv = ndV y
  | 8, fv, _ => fv = Value.bool (!(ndEq x y))
  | _, _, _ => True

set_option maxHeartbeats 4000000 in
theorem same_any (p q : List Nd) (A A2 : Option Addr) (n c m d : Nat) (w : World) (hn : n ≤ 1000000) (hm : m ≤ 1000000) (hp : Hid (InN w A n c p)) (hq : Hid (InN w A2 m d q)) :
    Calls Tryd.prog 20 #[.slice A n c, .slice A2 m d] w fun e w' => e = .returned (.bool (sameN p q)) ∧ Below w.heap.size w w' := by
  have HP := Lib.hid (show p.length = n from hp.out.len)
  have HQ := Lib.hid (show q.length = m from hq.out.len)
  go_enter Tryd.func20, Tryd.ntmps20
  by_cases hnm : n = m
  · subst hnm
    have d1 : decide ((n : Int) = (n : Int)) = true := decide_eq_true rfl
    go_wp2_with fail
    go_loopw [5] (fun i wr => ∃ j : Nat, j ≤ n ∧ i = .int .i64 (j : Nat) ∧ Hid (p.take j = q.take j) ∧ Hid (Below w.heap.size w wr)) (fun i _ => n - (intOf i).toNat)
    case atStart => exact ⟨0, by omega, rfl, Lib.hid rfl, Lib.hid (Below.refl _ _)⟩
    case round =>
      obtain ⟨j, hj, rfl, HTK, HB⟩ := hrel
      by_cases hlt : j < n
      · have d2 : decide ((j : Int) < (n : Int)) = true := decide_eq_true (by omega)
        have d3 : decide (j < n) = true := decide_eq_true hlt
        obtain ⟨g, off, rfl, hg, hr⟩ := hp.out.rd (by rw [HP.out]; omega)
        obtain ⟨h, oh, rfl, hh, hr2⟩ := hq.out.rd (by rw [HQ.out]; omega)
        have hcap := hp.out.cap
        have hcap2 := hq.out.cap
        obtain ⟨x, HX⟩ : ∃ x, Hid (p[j]'(by rw [HP.out]; exact hlt) = x) := ⟨_, Lib.hid rfl⟩
        obtain ⟨y, HY⟩ : ∃ y, Hid (q[j]'(by rw [HQ.out]; exact hlt) = y) := ⟨_, Lib.hid rfl⟩
        have HOX : Hid (NdOk x) := Lib.hid (by rw [← HX.out]; exact hp.out.ok _ (List.getElem_mem _))
        have HOY : Hid (NdOk y) := Lib.hid (by rw [← HY.out]; exact hq.out.ok _ (List.getElem_mem _))
        have HRX : Hid (w.rangeAt g (off + j * 34) (ndC x)) := Lib.hid (by rw [← HX.out]; exact range_one hr hp.out.ok j (by rw [HP.out]; exact hlt))
        have HRY : Hid (w.rangeAt h (oh + j * 34) (ndC y)) := Lib.hid (by rw [← HY.out]; exact range_one hr2 hq.out.ok j (by rw [HQ.out]; exact hlt))
        have HGL := Lib.hid hg
        have HHL := Lib.hid hh
        clear hr hr2 hg hh
        go_wp2_with fail
        refine region_flow3 (by kernel_rfl) (by kernel_rfl) (fun i => Nat.beq i 8) (fun i => i) (by kernel_rfl) (fun fx => #[Value.slice (some ⟨g, off, none⟩) n c, Value.slice (some ⟨h, oh, none⟩) n d, undef, undef, u4, Value.int .i64 ((j : Nat)), Value.slice (some ⟨g, off, none⟩) n c, Value.int .i64 ((n : Nat)), Value.slice (some ⟨h, oh, none⟩) n d, Value.int .i64 ((n : Nat)), Value.bool false, Value.int .i64 ((j : Nat)), Value.slice (some ⟨g, off, none⟩) n c, Value.int .i64 ((n : Nat)), Value.bool true, u15, u16, fx 0, fx 1, fx 2, fx 3, fx 4, fx 5, fx 6, fx 7, fx 8]) (fun i => bif Nat.beq i 0 then u17 else bif Nat.beq i 1 then u18 else bif Nat.beq i 2 then u19 else bif Nat.beq i 3 then u20 else bif Nat.beq i 4 then u21 else bif Nat.beq i 5 then u22 else bif Nat.beq i 6 then u23 else bif Nat.beq i 7 then u24 else bif Nat.beq i 8 then u25 else undef) (fun L fx w' => Below w.heap.size w w') (fun fi fv _ fw => wSm g off h oh n c d j x y fi fv fw) HB.out.drew ?_ ?_
        · refine ⟨?_, ?_, ?_, ?_, ?_, ?_, ?_, ?_, ?_, trivial⟩
          all_goals intro L fx w' hC hi hcl hdn hd
          · go_wp2_with fail
            exact ⟨_, rfl, hC, rfl, fun _ _ _ _ _ h => h⟩
          · go_wp2_with fail
            exact ⟨_, rfl, hC, rfl, fun _ _ _ _ _ h => h⟩
          · have h0 : fx 0 = Value.slice (some ⟨g, off, none⟩) n c := hd.1 rfl
            have h1 : fx 1 = Value.int .i64 ((j : Nat)) := hd.2.1 rfl
            go_wp2_with fail
            exact ⟨_, by rw [← h0, ← h1]; rfl, hC, rfl, fun _ _ _ _ _ h => h⟩
          · have h2 : fx 2 = Value.pointer (some ⟨g, off + j * 34, none⟩) := hd.1 rfl
            have HR := Lib.hid (rangeAt_below HRX.out HGL.out hC)
            refine wpList_load_mid rfl 26 (.tmp 19) rfl g (off + j * 34) h2 (ndC x) _ HR.out Tryd.underlying26 rfl (size34 HOX.out) ?_
            clear hd
            go_wp2_with fail
            exact ⟨_, by rw [← h2]; rfl, hC, rfl, fun _ _ _ _ _ h => h⟩
          · go_wp2_with fail
            exact ⟨_, rfl, hC, rfl, fun _ _ _ _ _ h => h⟩
          · go_wp2_with fail
            exact ⟨_, rfl, hC, rfl, fun _ _ _ _ _ h => h⟩
          · have h4 : fx 4 = Value.slice (some ⟨h, oh, none⟩) n d := hd.1 rfl
            have h5 : fx 5 = Value.int .i64 ((j : Nat)) := hd.2.1 rfl
            go_wp2_with fail
            exact ⟨_, by rw [← h4, ← h5]; rfl, hC, rfl, fun _ _ _ _ _ h => h⟩
          · have h6 : fx 6 = Value.pointer (some ⟨h, oh + j * 34, none⟩) := hd.1 rfl
            have HR := Lib.hid (rangeAt_below HRY.out HHL.out hC)
            refine wpList_load_mid rfl 26 (.tmp 23) rfl h (oh + j * 34) h6 (ndC y) _ HR.out Tryd.underlying26 rfl (size34 HOY.out) ?_
            clear hd
            go_wp2_with fail
            exact ⟨_, by rw [← h6]; rfl, hC, rfl, fun _ _ _ _ _ h => h⟩
          · have h3 : fx 3 = ndV x := hd.1 rfl
            have h7 : fx 7 = ndV y := hd.2.1 rfl
            refine wpList_neq_nd rfl (.tmp 20) (.tmp 24) _ rfl x y h3 h7 HOX.out HOY.out ?_
            clear hd
            go_wp2_with fail
            exact ⟨_, by rw [← h3, ← h7]; rfl, hC, rfl, fun _ _ _ _ _ h => h⟩
        · intro L fx w' hC hS
          have H8 := Lib.hid (hS 8 (by decide) rfl)

          have h8 : fx 8 = .bool (!(ndEq x y)) := H8.out
          rw [h8]
          have HB9 := Lib.hid hC
          clear hS hC H8 h8
          by_cases he : ndEq x y = true
          · rw [he]
            have HNX : Hid (p.take (j + 1) = q.take (j + 1)) := Lib.hid (by
              have := (ndEq_iff x y).1 he
              rw [List.take_succ_eq_append_getElem (by rw [HP.out]; exact hlt), List.take_succ_eq_append_getElem (by rw [HQ.out]; exact hlt), HX.out, HY.out, HTK.out, this])
            go_wp2_with fail
            go_roundw
            case rel => exact ⟨j + 1, by omega, by go_num, HNX, HB9⟩
            case measure => first | (simp [intOf]; done) | (simp [intOf]; omega)
          · have he2 : ndEq x y = false := by simpa using he
            rw [he2]
            have HE : Hid (sameN p q = false) := Lib.hid (sameN_no (fun e => he ((ndEq_iff x y).2 (by rw [← HX.out, ← HY.out]; congr 1))))
            go_wp2_with fail
            go_ret
            exact ⟨by rw [HE.out]; rfl, HB9.out⟩
      · have d2 : decide ((j : Int) < (n : Int)) = false := decide_eq_false (by omega)
        have d3 : decide (j < n) = false := decide_eq_false hlt
        have HE : Hid (sameN p q = true) := Lib.hid (by
          have := HTK.out
          rw [List.take_of_length_le (by rw [HP.out]; omega), List.take_of_length_le (by rw [HQ.out]; omega)] at this
          exact (sameN_iff p q).2 this)
        go_wp2_with fail
        go_ret
        exact ⟨by rw [HE.out]; rfl, HB.out⟩
  · have d1 : decide ((n : Int) = (m : Int)) = false := decide_eq_false (by omega)
    have d2 : decide (n = m) = false := decide_eq_false hnm
    have HE : Hid (sameN p q = false) := Lib.hid (sameN_no (fun e => hnm (by rw [← HP.out, ← HQ.out, e])))
    go_wp2_with fail
    go_ret
    exact ⟨by rw [HE.out]; rfl, Below.refl _ _⟩
end Go.Proofs.YtgcmbiegbclhmaaDoor
