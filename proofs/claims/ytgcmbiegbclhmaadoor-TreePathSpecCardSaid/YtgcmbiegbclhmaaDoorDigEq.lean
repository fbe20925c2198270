/- Digests compared. -/
import Derived.Test.YtgcmbiegbclhmaaDoorTagged
import Derived.Stop.BytesEq
namespace Go.Proofs.YtgcmbiegbclhmaaDoor
open Go.RowKit SzSha
set_option linter.unusedVariables false
theorem sizeOf_u8 (w : World) : (sizeOf 5).run Tryd.prog w = .ok 1 w := by
  obtain ⟨i0, hi, hz0, hz1, hz2⟩ := info_parts info_u8
  simp [sizeOf, typeInfo, hi, hz1]
theorem dg_cells8 (l : List Nat) (hb : Bytes l) : dgV l = .agg ((l.map UInt8.ofNat).map Extern.Stop.cell).toArray := by
  unfold dgV
  rw [List.map_map]
  congr 2
  apply List.map_congr_left
  intro x hx
  show Value.int .u8 (x : Nat) = Extern.Stop.cell (UInt8.ofNat x)
  have := hb x hx
  unfold Extern.Stop.cell
  rw [UInt8.toNat_ofNat', Nat.mod_eq_of_lt (by omega)]; rfl
theorem ofNat_inj : ∀ (l m : List Nat), Bytes l → Bytes m → (l.map UInt8.ofNat == m.map UInt8.ofNat) = (l == m)
  | [], [], _, _ => rfl
  | [], _ :: _, _, _ => rfl
  | _ :: _, [], _, _ => rfl
  | x :: l, y :: m, hl, hm => by
    have ih := ofNat_inj l m (fun z hz => hl z (List.mem_cons_of_mem _ hz)) (fun z hz => hm z (List.mem_cons_of_mem _ hz))
    have hx := hl x (by simp)
    have hy := hm y (by simp)
    simp only [List.map_cons, List.cons_beq_cons, ih]
    congr 1
    rw [Bool.eq_iff_iff]
    simp only [beq_iff_eq, ← UInt8.toNat_inj, UInt8.toNat_ofNat', Nat.mod_eq_of_lt (show x < 2 ^ 8 by omega), Nat.mod_eq_of_lt (show y < 2 ^ 8 by omega)]
theorem equal_dg (d : Nat) (l m : List Nat) (hl : l.length = 32) (hm : m.length = 32) (bl : Bytes l) (bm : Bytes m) (w : World) : (Op.equalIn (d + 2) 24 (dgV l) (dgV m)).run Tryd.prog w = .ok (l == m) w := by
  rw [dg_cells8 l bl, dg_cells8 m bm, run_equalIn_bytes w d 24 5 32 Tryd.underlying24 Tryd.underlying5 sizeOf_u8 _ _ (by simpa using hl) (by simpa using hm), ofNat_inj l m bl bm]
theorem eql_dg (l m : List Nat) (hl : l.length = 32) (hm : m.length = 32) (bl : Bytes l) (bm : Bytes m) (w : World) : (binOp .eql 24 (dgV l) (dgV m)).run Tryd.prog w = .ok (.bool (l == m)) w := by
  have := equal_dg 9998 l m hl hm bl bm w
  unfold dgV at this ⊢
  rw [run_eql_struct, this]; rfl
theorem neq_dg (l m : List Nat) (hl : l.length = 32) (hm : m.length = 32) (bl : Bytes l) (bm : Bytes m) (w : World) : (binOp .neq 24 (dgV l) (dgV m)).run Tryd.prog w = .ok (.bool (!(l == m))) w := by
  have := equal_dg 9998 l m hl hm bl bm w
  unfold dgV at this ⊢
  rw [run_neq_struct, this]; rfl
theorem guard_dg (op : BinOp) (x y : Operand) (l m : List Nat) (w : World) : (eqGuard op 24 x y (dgV l) (dgV m)).run Tryd.prog w = .ok () w := by
  unfold dgV
  exact run_eqGuard_agg w op _ x y _ _ (by kernel_rfl)
end Go.Proofs.YtgcmbiegbclhmaaDoor
