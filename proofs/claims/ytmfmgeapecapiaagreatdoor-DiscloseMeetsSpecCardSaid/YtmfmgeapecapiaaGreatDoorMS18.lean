/- sizarref02: length, climb. sizarref02.Climb. sizarref42: Listed, Claimed. A transcript with another salt; cells stored in the middle of a row. sizarref42.Root. sizarref42.Show. -/
import Derived.Test.YtmfmgeapecapiaaGreatDoorMS17
import Derived.Test.YtmfmgeapecapiaaGreatDoorMS5
import Derived.Test.YtmfmgeapecapiaaGreatDoorMS9
import Derived.Test.YtmfmgeapecapiaaGreatDoorMS11
import Derived.Laws.AppendOwnNone
import Derived.Test.YtmfmgeapecapiaaGreatDoorMS8
import Derived.Test.YtmfmgeapecapiaaGreatDoorMS10
set_option maxHeartbeats 64000001
open Go.Lib (hid)
namespace Go.Proofs.YtmfmgeapecapiaaGreatDoor
open Go.RowKit SzSha SzTree
set_option linter.unusedVariables false
set_option maxRecDepth 100000
theorem cd_left {y p : Dg} {i m : Nat} {qs : List Dg} (h : 2 ≤ m) (hi : i < half m) (hl : (dirsD i (half m)).length = qs.length) : climbD (dirsD i m).reverse (qs ++ [p]) y = nodeD (climbD (dirsD i (half m)).reverse qs y) p := by
 rw [dirsD_left h hi, List.reverse_cons, climbD_snoc _ _ _ _ _ (by rw [List.length_reverse]; exact hl)]; rfl
theorem cd_right {y p : Dg} {i m : Nat} {qs : List Dg} (h : 2 ≤ m) (hi : ¬ i < half m) (hl : (dirsD (i - half m) (m - half m)).length = qs.length) : climbD (dirsD i m).reverse (qs ++ [p]) y = nodeD p (climbD (dirsD (i - half m) (m - half m)).reverse qs y) := by
 rw [dirsD_right h hi, List.reverse_cons, climbD_snoc _ _ _ _ _ (by rw [List.length_reverse]; exact hl)]; rfl
theorem dirsD_40 (i : Nat) {m : Nat} (h : m ≤ 1099511627776) : (dirsD i m).length ≤ 40 := dirsD_small 40 i m h (by omega)
theorem rlen02_any : ∀ (f i m : Nat) (w : World), m ≤ f → 1 ≤ m → m ≤ 1099511627776 → i < m →
  Calls Tryz.prog 116 #[.int .i64 (i : Nat), .int .i64 (m : Nat)] w fun e w' => e = .returned (.int .i64 ((dirsD i m).length : Nat)) ∧ w = w' := by
 intro f
 induction f with
 | zero => intro i m w h1 h2; omega
 | succ f ih =>
  intro i m w hf h1 h4 him
  by_cases h2 : 2 ≤ m
  ·have d1 : decide ((m : Int) = 1) = false := dQ (by omega)
   have d11 : ((m : Int) == 1) = false := beq_false_of_ne (by omega)
   obtain ⟨k, HK⟩ : ∃ k, Hid (half m = k) := ⟨_, hid rfl⟩
   have hkb := half_bd h2
   rw [HK.out] at hkb
   go_enter Tryz.func116, Tryz.ntmps116
   go_wp2_with fail
   refine (half02_any m _ (by omega)).mono ?_
   rintro e w2 ⟨rfl, rfl⟩
   rw [HK.out]
   by_cases hik : i < k
   ·have d2 : decide ((i : Int) < (k : Int)) = true := eQ (by omega)
    have d3 : decide (i < k) = true := eQ hik
    obtain ⟨s, HS⟩ : ∃ s, Hid ((dirsD i k).length = s) := ⟨_, hid rfl⟩
    have HE : Hid ((dirsD i m).length = s + 1) := hid (by rw [dirsD_left h2 (by rw [HK.out]; exact hik), HK.out, List.length_cons, HS.out])
    have hsb : s ≤ 40 := by rw [← HS.out]; exact dirsD_40 i (by omega)
    have hw : IntKind.i64.wrap (1 + (s : Int)) = (s : Int) + 1 := by rw [IntWalk.i64_in _ (by omega)]; omega
    go_wp2_with fail
    refine (ih i k _ (by omega) hkb.1 (by omega) hik).mono ?_
    rintro e w2 ⟨rfl, rfl⟩
    rw [HS.out]
    go_wp2_with fail
    go_ret
    exact ⟨by rw [HE.out]; rfl, rfl⟩
   ·have d2 : decide ((i : Int) < (k : Int)) = false := dQ (by omega)
    have d3 : decide (i < k) = false := dQ hik
    obtain ⟨d, HD⟩ : ∃ d : Nat, Hid (i - k = d) := ⟨_, hid rfl⟩
    obtain ⟨d2', HD2⟩ : ∃ d : Nat, Hid (m - k = d) := ⟨_, hid rfl⟩
    have hw1 : IntKind.i64.wrap ((i : Int) - (k : Int)) = (d : Int) := by rw [IntWalk.i64_in _ (by omega), ← HD.out]; omega
    have hw2 : IntKind.i64.wrap ((m : Int) - (k : Int)) = (d2' : Int) := by rw [IntWalk.i64_in _ (by omega), ← HD2.out]; omega
    obtain ⟨s, HS⟩ : ∃ s, Hid ((dirsD d d2').length = s) := ⟨_, hid rfl⟩
    have HE : Hid ((dirsD i m).length = s + 1) := hid (by rw [dirsD_right h2 (by rw [HK.out]; exact hik), HK.out, List.length_cons, HD.out, HD2.out, HS.out])
    have hsb : s ≤ 40 := by rw [← HS.out]; exact dirsD_40 d (by have := HD2.out; omega)
    have hw : IntKind.i64.wrap (1 + (s : Int)) = (s : Int) + 1 := by rw [IntWalk.i64_in _ (by omega)]; omega
    have hdd : d2' ≤ f ∧ 1 ≤ d2' ∧ d2' ≤ 1099511627776 ∧ d < d2' := by rw [← HD2.out, ← HD.out]; omega
    go_wp2_with fail
    refine (ih d d2' _ hdd.1 hdd.2.1 hdd.2.2.1 hdd.2.2.2).mono ?_
    rintro e w2 ⟨rfl, rfl⟩
    rw [HS.out]
    go_wp2_with fail
    go_ret
    exact ⟨by rw [HE.out]; rfl, rfl⟩
  ·have hm1 : m = 1 := by omega
   subst hm1
   have HE : Hid (dirsD i 1 = []) := hid (dirsD_one i (Nat.le_refl _))
   go_enter Tryz.func116, Tryz.ntmps116
   go_wp2_with fail
   go_ret
   exact ⟨by rw [HE.out]; rfl, rfl⟩
def wCl (W0 : World) (br : Nat) (nd : Dg) (g : Nat) (off : Nat) (n : Nat) (c : Nat) (i : Nat) (k : Nat) (m : Nat) (d : Nat) (d2 : Nat) (l : Nat) (x : Dg) (p : Dg) (r : Dg) : Nat → Value → World → Prop
 | 0, fv, _ => fv = dgV nd
 | 1, fv, _ => fv = .int .i64 ((i : Nat))
 | 2, fv, _ => fv = .int .i64 ((k : Nat))
 | 3, fv, _ => fv = .slice (some ⟨g, off, none⟩) n c
 | 4, fv, _ => fv = .slice (some ⟨g, off, none⟩) n c
 | 5, fv, _ => fv = .int .i64 ((n : Nat))
 | 6, fv, _ => fv = .int .i64 ((l : Nat))
 | 7, fv, _ => fv = .slice (some ⟨g, off, none⟩) l c
 | 8, fv, _ => fv = dgV x
 | 9, fv, _ => fv = dgV p
 | 10, fv, _ => fv = dgV r
 | 11, fv, fw => fw.heap[br]? = some (.cells (dgC r).toArray 25 (0, 0)) ∧ Below W0.heap.size W0 fw
 | _, _, _ => True
theorem wCl_below {W0 : World} {br : Nat} {nd : Dg} {g : Nat} {off : Nat} {n : Nat} {c : Nat} {i : Nat} {k : Nat} {m : Nat} {d : Nat} {d2 : Nat} {l : Nat} {x : Dg} {p : Dg} {r : Dg} {w w' : World} (hb : Below w.heap.size w w') : ∀ j v, wCl W0 br nd g off n c i k m d d2 l x p r j v w → wCl W0 br nd g off n c i k m d d2 l x p r j v w'
 | 0, v, h => h
 | 1, v, h => h
 | 2, v, h => h
 | 3, v, h => h
 | 4, v, h => h
 | 5, v, h => h
 | 6, v, h => h
 | 7, v, h => h
 | 8, v, h => h
 | 9, v, h => h
 | 10, v, h => h
 | 11, v, h => ⟨row_kept h.1 hb, h.2.trans (hb.mono h.2.size)⟩
 | n + 12, v, h => trivial
theorem wCl_pure {W0 : World} {br : Nat} {nd : Dg} {g : Nat} {off : Nat} {n : Nat} {c : Nat} {i : Nat} {k : Nat} {m : Nat} {d : Nat} {d2 : Nat} {l : Nat} {x : Dg} {p : Dg} {r : Dg} {w w' : World} : ∀ j v, j ≠ 11 → wCl W0 br nd g off n c i k m d d2 l x p r j v w → wCl W0 br nd g off n c i k m d d2 l x p r j v w'
 | 0, v, _, h => h
 | 1, v, _, h => h
 | 2, v, _, h => h
 | 3, v, _, h => h
 | 4, v, _, h => h
 | 5, v, _, h => h
 | 6, v, _, h => h
 | 7, v, _, h => h
 | 8, v, _, h => h
 | 9, v, _, h => h
 | 10, v, _, h => h
 | 11, v, hh, _ => absurd rfl hh
 | n + 12, v, _, h => trivial
def wCr (W0 : World) (br : Nat) (nd : Dg) (g : Nat) (off : Nat) (n : Nat) (c : Nat) (i : Nat) (k : Nat) (m : Nat) (d : Nat) (d2 : Nat) (l : Nat) (x : Dg) (p : Dg) (r : Dg) : Nat → Value → World → Prop
 | 0, fv, _ => fv = dgV p
 | 1, fv, _ => fv = dgV nd
 | 2, fv, _ => fv = .int .i64 ((i : Nat))
 | 3, fv, _ => fv = .int .i64 ((k : Nat))
 | 4, fv, _ => fv = .int .i64 ((d : Nat))
 | 5, fv, _ => fv = .int .i64 ((m : Nat))
 | 6, fv, _ => fv = .int .i64 ((k : Nat))
 | 7, fv, _ => fv = .int .i64 ((d2 : Nat))
 | 8, fv, _ => fv = .slice (some ⟨g, off, none⟩) n c
 | 9, fv, _ => fv = .slice (some ⟨g, off, none⟩) n c
 | 10, fv, _ => fv = .int .i64 ((n : Nat))
 | 11, fv, _ => fv = .int .i64 ((l : Nat))
 | 12, fv, _ => fv = .slice (some ⟨g, off, none⟩) l c
 | 13, fv, _ => fv = dgV x
 | 14, fv, _ => fv = dgV r
 | 15, fv, fw => fw.heap[br]? = some (.cells (dgC r).toArray 25 (0, 0)) ∧ Below W0.heap.size W0 fw
 | _, _, _ => True
theorem wCr_below {W0 : World} {br : Nat} {nd : Dg} {g : Nat} {off : Nat} {n : Nat} {c : Nat} {i : Nat} {k : Nat} {m : Nat} {d : Nat} {d2 : Nat} {l : Nat} {x : Dg} {p : Dg} {r : Dg} {w w' : World} (hb : Below w.heap.size w w') : ∀ j v, wCr W0 br nd g off n c i k m d d2 l x p r j v w → wCr W0 br nd g off n c i k m d d2 l x p r j v w'
 | 0, v, h => h
 | 1, v, h => h
 | 2, v, h => h
 | 3, v, h => h
 | 4, v, h => h
 | 5, v, h => h
 | 6, v, h => h
 | 7, v, h => h
 | 8, v, h => h
 | 9, v, h => h
 | 10, v, h => h
 | 11, v, h => h
 | 12, v, h => h
 | 13, v, h => h
 | 14, v, h => h
 | 15, v, h => ⟨row_kept h.1 hb, h.2.trans (hb.mono h.2.size)⟩
 | n + 16, v, h => trivial
theorem wCr_pure {W0 : World} {br : Nat} {nd : Dg} {g : Nat} {off : Nat} {n : Nat} {c : Nat} {i : Nat} {k : Nat} {m : Nat} {d : Nat} {d2 : Nat} {l : Nat} {x : Dg} {p : Dg} {r : Dg} {w w' : World} : ∀ j v, j ≠ 15 → wCr W0 br nd g off n c i k m d d2 l x p r j v w → wCr W0 br nd g off n c i k m d d2 l x p r j v w'
 | 0, v, _, h => h
 | 1, v, _, h => h
 | 2, v, _, h => h
 | 3, v, _, h => h
 | 4, v, _, h => h
 | 5, v, _, h => h
 | 6, v, _, h => h
 | 7, v, _, h => h
 | 8, v, _, h => h
 | 9, v, _, h => h
 | 10, v, _, h => h
 | 11, v, _, h => h
 | 12, v, _, h => h
 | 13, v, _, h => h
 | 14, v, _, h => h
 | 15, v, hh, _ => absurd rfl hh
 | n + 16, v, _, h => trivial
theorem rclimb02_any : ∀ (f : Nat) (nd : Dg) (i m : Nat) (ps : List Dg) (A : Option Addr) (n c : Nat) (w : World), m ≤ f → 1 ≤ m → m ≤ 1099511627776 → i < m → n = (dirsD i m).length → Hid (InD w A n c ps) → Hid (DgOk nd) →
  Calls Tryz.prog 117 #[dgV nd, .int .i64 (i : Nat), .int .i64 (m : Nat), .slice A n c] w fun e w' => e = .returned (dgV (climbD (dirsD i m).reverse ps (leafD nd))) ∧ Below w.heap.size w w' := by
 intro f
 induction f with
 | zero => intro nd i m ps A n c w h1 h2; omega
 | succ f ih =>
  intro nd i m ps A n c w hf h1 h4 him hnl h HND
  have HNL := hid hnl
  have HNE := hid (show ps.length = n from h.out.len)
  have HSN := hid (dgC_info HND.out)
  have hb0 := ((Below.refl _ w).alloc (Nat.le_refl _) (.cells (dgC nd).toArray 25)).alloc (by simp) (.cells #[.int .u8 0, .int .u8 0, .int .u8 0, .int .u8 0, .int .u8 0, .int .u8 0, .int .u8 0, .int .u8 0, .int .u8 0, .int .u8 0, .int .u8 0, .int .u8 0, .int .u8 0, .int .u8 0, .int .u8 0, .int .u8 0, .int .u8 0, .int .u8 0, .int .u8 0, .int .u8 0, .int .u8 0, .int .u8 0, .int .u8 0, .int .u8 0, .int .u8 0, .int .u8 0, .int .u8 0, .int .u8 0, .int .u8 0, .int .u8 0, .int .u8 0, .int .u8 0] 25)
  have hr0 := (Below.heap_alloc (w.alloc (.cells (dgC nd).toArray 25)) (.cells #[.int .u8 0, .int .u8 0, .int .u8 0, .int .u8 0, .int .u8 0, .int .u8 0, .int .u8 0, .int .u8 0, .int .u8 0, .int .u8 0, .int .u8 0, .int .u8 0, .int .u8 0, .int .u8 0, .int .u8 0, .int .u8 0, .int .u8 0, .int .u8 0, .int .u8 0, .int .u8 0, .int .u8 0, .int .u8 0, .int .u8 0, .int .u8 0, .int .u8 0, .int .u8 0, .int .u8 0, .int .u8 0, .int .u8 0, .int .u8 0, .int .u8 0, .int .u8 0] 25) w.heap.size (by simp)).trans (heap_alloc_new w (.cells (dgC nd).toArray 25))
  have hr1 := heap_alloc_new (w.alloc (.cells (dgC nd).toArray 25)) (.cells #[.int .u8 0, .int .u8 0, .int .u8 0, .int .u8 0, .int .u8 0, .int .u8 0, .int .u8 0, .int .u8 0, .int .u8 0, .int .u8 0, .int .u8 0, .int .u8 0, .int .u8 0, .int .u8 0, .int .u8 0, .int .u8 0, .int .u8 0, .int .u8 0, .int .u8 0, .int .u8 0, .int .u8 0, .int .u8 0, .int .u8 0, .int .u8 0, .int .u8 0, .int .u8 0, .int .u8 0, .int .u8 0, .int .u8 0, .int .u8 0, .int .u8 0, .int .u8 0] 25)
  rw [World.size_alloc] at hr1
  have HB1 := hid hb0
  have R4 := hid hr0
  have R8 := hid hr1
  have HI1 := hid (h.out.below hb0)
  have HRO : Hid (DgOk (climbD (dirsD i m).reverse ps (leafD nd))) := hid (climbD_dg (leafD_ok nd))
  clear hb0 hr0 hr1 hnl
  obtain ⟨r, HR⟩ : ∃ r, Hid (climbD (dirsD i m).reverse ps (leafD nd) = r) := ⟨_, hid rfl⟩
  rw [HR.out] at HRO
  rw [HR.out]
  have HS1 := hid (dgC_info HRO.out)
  have HS2 := hid (dgC_size HRO.out)
  by_cases h2 : 2 ≤ m
  ·have d1 : decide ((m : Int) = 1) = false := dQ (by omega)
   have d11 : ((m : Int) == 1) = false := beq_false_of_ne (by omega)
   obtain ⟨k, HK⟩ : ∃ k, Hid (half m = k) := ⟨_, hid rfl⟩
   have hkb := half_bd h2
   rw [HK.out] at hkb
   have hn1 : 1 ≤ n := by
    rw [HNL.out]
    by_cases hq : i < half m
    ·rw [dirsD_left h2 hq]; simp
    ·rw [dirsD_right h2 hq]; simp
   have hn4 : n ≤ 40 := by rw [HNL.out]; exact dirsD_40 i h4
   obtain ⟨l, HL⟩ : ∃ l : Nat, Hid (n - 1 = l) := ⟨_, hid rfl⟩
   have hl1 : l + 1 = n := by rw [← HL.out]; omega
   have hwl : IntKind.i64.wrap ((n : Int) - 1) = (l : Int) := by rw [IntWalk.i64_in _ (by omega)]; omega
   obtain ⟨g, off, rfl, hg, hr⟩ := HI1.out.rd (by rw [HI1.out.len]; omega)
   have HG1 := hid hg
   have hll : l < ps.length := by rw [HNE.out]; omega
   obtain ⟨p, HP⟩ : ∃ p, Hid (ps[l] = p) := ⟨_, hid rfl⟩
   have HPO : Hid (DgOk p) := hid (by rw [← HP.out]; exact HI1.out.ok _ (List.getElem_mem _))
   have HRP := hid (rangeD_one hr HI1.out.ok l hll)
   rw [HP.out] at HRP
   have HPS : Hid (ps = ps.take l ++ [p]) := hid (by
    conv => lhs; rw [← List.take_length (l := ps), show ps.length = l + 1 by rw [HNE.out]; omega, List.take_succ_eq_append_getElem hll, HP.out])
   have HTL : Hid ((ps.take l).length = l) := hid (by rw [List.length_take]; omega)
   have hcap := HI1.out.cap
   have HIT := hid (HI1.out.take l (by omega))
   have hlc : l ≤ c := by omega
   have HPI := hid (dgC_infoL HPO.out)
   have HP1 := hid (dgC_info HPO.out)
   have HP2 := hid (dgC_size HPO.out)
   have hln : l < n := by omega
   have hlnd : decide (l < n) = true := eQ hln
   clear hr hg
   go_enter Tryz.func117, Tryz.ntmps117
   rw [dgV_agg nd]
   go_wp2_with fail
   generalize (w.alloc (.cells (dgC nd).toArray 25)).alloc (.cells #[.int .u8 0, .int .u8 0, .int .u8 0, .int .u8 0, .int .u8 0, .int .u8 0, .int .u8 0, .int .u8 0, .int .u8 0, .int .u8 0, .int .u8 0, .int .u8 0, .int .u8 0, .int .u8 0, .int .u8 0, .int .u8 0, .int .u8 0, .int .u8 0, .int .u8 0, .int .u8 0, .int .u8 0, .int .u8 0, .int .u8 0, .int .u8 0, .int .u8 0, .int .u8 0, .int .u8 0, .int .u8 0, .int .u8 0, .int .u8 0, .int .u8 0, .int .u8 0] 25) = W1 at *
   refine (half02_any m _ (by omega)).mono ?_
   rintro e w2 ⟨rfl, hw1⟩
   subst hw1
   rw [HK.out]
   have hw := setRow_heap (W1.alloc (.cells #[.int .u8 0, .int .u8 0, .int .u8 0, .int .u8 0, .int .u8 0, .int .u8 0, .int .u8 0, .int .u8 0, .int .u8 0, .int .u8 0, .int .u8 0, .int .u8 0, .int .u8 0, .int .u8 0, .int .u8 0, .int .u8 0, .int .u8 0, .int .u8 0, .int .u8 0, .int .u8 0, .int .u8 0, .int .u8 0, .int .u8 0, .int .u8 0, .int .u8 0, .int .u8 0, .int .u8 0, .int .u8 0, .int .u8 0, .int .u8 0, .int .u8 0, .int .u8 0] 25)) W1.heap.size _ (dgC p).toArray _ _ (heap_alloc_new W1 _)
   have hb := below_setRow ((Below.refl _ W1).alloc (Nat.le_refl _) (.cells #[.int .u8 0, .int .u8 0, .int .u8 0, .int .u8 0, .int .u8 0, .int .u8 0, .int .u8 0, .int .u8 0, .int .u8 0, .int .u8 0, .int .u8 0, .int .u8 0, .int .u8 0, .int .u8 0, .int .u8 0, .int .u8 0, .int .u8 0, .int .u8 0, .int .u8 0, .int .u8 0, .int .u8 0, .int .u8 0, .int .u8 0, .int .u8 0, .int .u8 0, .int .u8 0, .int .u8 0, .int .u8 0, .int .u8 0, .int .u8 0, .int .u8 0, .int .u8 0] 25)) (Nat.le_refl _) (dgC p).toArray
   obtain ⟨W2, HW2⟩ : ∃ V, Hid ((W1.alloc (.cells #[.int .u8 0, .int .u8 0, .int .u8 0, .int .u8 0, .int .u8 0, .int .u8 0, .int .u8 0, .int .u8 0, .int .u8 0, .int .u8 0, .int .u8 0, .int .u8 0, .int .u8 0, .int .u8 0, .int .u8 0, .int .u8 0, .int .u8 0, .int .u8 0, .int .u8 0, .int .u8 0, .int .u8 0, .int .u8 0, .int .u8 0, .int .u8 0, .int .u8 0, .int .u8 0, .int .u8 0, .int .u8 0, .int .u8 0, .int .u8 0, .int .u8 0, .int .u8 0] 25)).setRow W1.heap.size (dgC p).toArray = V) := ⟨_, hid rfl⟩
   rw [HW2.out] at hw hb
   have HBX := hid (HB1.out.trans (hb.mono HB1.out.size))
   have R4x := hid (row_kept R4.out hb)
   have R8x := hid (row_kept R8.out hb)
   have R10 := hid hw
   have HITx := hid (HIT.out.below hb)
   clear hw hb
   by_cases hik : i < k
   ·have d2 : decide ((i : Int) < (k : Int)) = true := eQ (by omega)
    have d3 : decide (i < k) = true := eQ hik
    obtain ⟨d, HD⟩ : ∃ d : Nat, Hid (d = 0) := ⟨0, hid rfl⟩
    obtain ⟨d2', HD2⟩ : ∃ d : Nat, Hid (d = 0) := ⟨0, hid rfl⟩
    have HN2 : Hid ((dirsD i k).length = l) := hid (by
     have := HNL.out
     rw [dirsD_left h2 (by rw [HK.out]; exact hik), HK.out, List.length_cons] at this; omega)
    obtain ⟨x, HX⟩ : ∃ x, Hid (climbD (dirsD i k).reverse (ps.take l) (leafD nd) = x) := ⟨_, hid rfl⟩
    have HXO : Hid (DgOk x) := hid (by rw [← HX.out]; exact climbD_dg (leafD_ok nd))
    have HRE : Hid (nodeD x p = r) := hid (by
     rw [← HR.out, HPS.out, cd_left h2 (by rw [HK.out]; exact hik) (by rw [HK.out, HN2.out, HTL.out]), HK.out, HX.out])
    go_wp2_with (first | (with_reducible refine wpList_load_mid rfl 25 (.tmp 21) rfl g (off + l * 32) rfl (dgC p) _ HRP.out Tryz.underlying25 rfl HPI.out ?_) | (refine wpList_store_row rfl 25 (.tmp 10) (.tmp 22) rfl W1.heap.size (dgC p).toArray rfl rfl 25 _ (heap_alloc_new W1 _) HP1.out HP2.out (dgC_one _) ?_; rw [HW2.out]))
    refine region_flow3 (by kernel_rfl) (by kernel_rfl) (fun i => Nat.beq i 11) (fun i => i) (by kernel_rfl) (fun fx => #[.agg (dgC nd).toArray, .int IntKind.i64 ↑i, .int IntKind.i64 ↑m, .slice (some { block := g, off := off }) n c, .pointer (some { block := w.heap.size, off := 0 }), undef, undef, undef, .pointer (some { block := w.heap.size + 1, off := 0 }), .int IntKind.i64 ↑k, .pointer (some { block := W1.heap.size, off := 0 }), .int IntKind.i64 ↑m, .bool false, undef, undef, .int IntKind.i64 ↑m, .int IntKind.i64 ↑k, .slice (some { block := g, off := off }) n c, .slice (some { block := g, off := off }) n c, .int IntKind.i64 ↑n, .int IntKind.i64 ↑l, .pointer (some { block := g, off := off + l * 32 }), .agg (dgC p).toArray, .int IntKind.i64 ↑i, .int IntKind.i64 ↑k, .bool true, fx 0, fx 1, fx 2, fx 3, fx 4, fx 5, fx 6, fx 7, fx 8, fx 9, fx 10, undef, undef, undef, undef, undef, undef, undef, undef, undef, undef, undef, undef, undef, undef, undef]) (fun _ => undef) (fun L fx w' => (L 11 = false → Below W2.heap.size W2 w')) (fun fi fv _ fw => wCl w (w.heap.size + 1) nd g off n c i k m d d2' l x p r fi fv fw) (fun _ => (Below.refl _ _).drew) ?_ ?_
    ·refine ⟨?_, ?_, ?_, ?_, ?_, ?_, ?_, ?_, ?_, ?_, ?_, ?_, trivial⟩
     all_goals intro L fx w' hC hi hcl hdn hd
     ·have hnd : L 11 = false := nQ hi (fun h => (hcl 8 0 (hcl 10 8 (hcl 11 10 h (by kernel_rfl)) (by kernel_rfl)) (by kernel_rfl)))
      have hrow := row_kept R4x.out (hC hnd)
      refine wpList_load_row rfl 25 (.tmp 4) rfl (w.heap.size) rfl 25 _ (0, 0) _ hrow Tryz.underlying25 rfl (dgC_info HND.out) ?_
      clear hd
      go_wp2_with fail
      exact ⟨_, rfl, fun _ => hC hnd, rfl, kP⟩
     ·have hnd : L 11 = false := nQ hi (fun h => (hcl 8 1 (hcl 10 8 (hcl 11 10 h (by kernel_rfl)) (by kernel_rfl)) (by kernel_rfl)))
      go_wp2_with fail
      exact ⟨_, rfl, (fun _ => hC hnd), rfl, kP⟩
     ·have hnd : L 11 = false := nQ hi (fun h => (hcl 8 2 (hcl 10 8 (hcl 11 10 h (by kernel_rfl)) (by kernel_rfl)) (by kernel_rfl)))
      go_wp2_with fail
      exact ⟨_, rfl, (fun _ => hC hnd), rfl, kP⟩
     ·have hnd : L 11 = false := nQ hi (fun h => (hcl 7 3 (hcl 8 7 (hcl 10 8 (hcl 11 10 h (by kernel_rfl)) (by kernel_rfl)) (by kernel_rfl)) (by kernel_rfl)))
      go_wp2_with fail
      exact ⟨_, rfl, (fun _ => hC hnd), rfl, kP⟩
     ·have hnd : L 11 = false := nQ hi (fun h => (hcl 5 4 (hcl 6 5 (hcl 7 6 (hcl 8 7 (hcl 10 8 (hcl 11 10 h (by kernel_rfl)) (by kernel_rfl)) (by kernel_rfl)) (by kernel_rfl)) (by kernel_rfl)) (by kernel_rfl)))
      go_wp2_with fail
      exact ⟨_, rfl, (fun _ => hC hnd), rfl, kP⟩
     ·have h4 : fx 4 = .slice (some ⟨g, off, none⟩) n c := hd.1 rfl
      have hnd : L 11 = false := nQ hi (fun h => (hcl 6 5 (hcl 7 6 (hcl 8 7 (hcl 10 8 (hcl 11 10 h (by kernel_rfl)) (by kernel_rfl)) (by kernel_rfl)) (by kernel_rfl)) (by kernel_rfl)))
      go_wp2_with fail
      exact ⟨_, by simp only [upd, h4]; rfl, (fun _ => hC hnd), rfl, kP⟩
     ·have h5 : fx 5 = .int .i64 ((n : Nat)) := hd.1 rfl
      have hnd : L 11 = false := nQ hi (fun h => (hcl 7 6 (hcl 8 7 (hcl 10 8 (hcl 11 10 h (by kernel_rfl)) (by kernel_rfl)) (by kernel_rfl)) (by kernel_rfl)))
      go_wp2_with fail
      exact ⟨_, by simp only [upd, h5]; rfl, (fun _ => hC hnd), rfl, kP⟩
     ·have h3 : fx 3 = .slice (some ⟨g, off, none⟩) n c := hd.1 rfl
      have h6 : fx 6 = .int .i64 ((l : Nat)) := hd.2.1 rfl
      have hnd : L 11 = false := nQ hi (fun h => (hcl 8 7 (hcl 10 8 (hcl 11 10 h (by kernel_rfl)) (by kernel_rfl)) (by kernel_rfl)))
      go_wp2_with fail
      exact ⟨_, by simp only [upd, h3, h6]; rfl, (fun _ => hC hnd), rfl, kP⟩
     ·have h0 : fx 0 = dgV nd := hd.1 rfl
      have h1 : fx 1 = .int .i64 ((i : Nat)) := hd.2.1 rfl
      have h2 : fx 2 = .int .i64 ((k : Nat)) := hd.2.2.1 rfl
      have h7 : fx 7 = .slice (some ⟨g, off, none⟩) l c := hd.2.2.2.1 rfl
      have hnd : L 11 = false := nQ hi (fun h => (hcl 10 8 (hcl 11 10 h (by kernel_rfl)) (by kernel_rfl)))
      have hb12 := hC hnd
      have HIk := hid (HITx.out.below hb12)
      go_wp2_with fail
      refine (ih nd i k (ps.take l) _ l c w' (by omega) hkb.1 (by omega) hik HN2.out.symm HIk HND).mono ?_
      rintro e w2 ⟨rfl, hq⟩
      rw [HX.out]
      go_wp2_with fail
      exact ⟨_, by simp only [upd, h0, h1, h2, h7]; rfl, fun _ => hb12.trans (hq.mono hb12.size), rfl, fun j v t _ _ h => wCl_below hq j v h⟩
     ·have hnd : L 11 = false := nQ hi (fun h => (hcl 10 9 (hcl 11 10 h (by kernel_rfl)) (by kernel_rfl)))
      have hrow := row_kept R10.out (hC hnd)
      refine wpList_load_row rfl 25 (.tmp 10) rfl (W1.heap.size) rfl 25 _ (0, 0) _ hrow Tryz.underlying25 rfl (dgC_info HPO.out) ?_
      clear hd
      go_wp2_with fail
      exact ⟨_, rfl, fun _ => hC hnd, rfl, kP⟩
     ·have h8 : fx 8 = dgV x := hd.1 rfl
      have h9 : fx 9 = dgV p := hd.2.1 rfl
      have hnd : L 11 = false := nQ hi (fun h => (hcl 11 10 h (by kernel_rfl)))
      have hb12 := hC hnd
      go_wp2_with fail
      refine (rnode_any x p w' HXO HPO).mono ?_
      rintro e w2 ⟨rfl, hq⟩
      rw [HRE.out]
      go_wp2_with fail
      exact ⟨_, by simp only [upd, h8, h9]; rfl, fun _ => hb12.trans (hq.mono hb12.size), rfl, fun j v t _ _ h => wCl_below hq j v h⟩
     ·have h10 : fx 10 = dgV r := hd.1 rfl
      have hb21 := hC hi
      have hrow := row_kept R8x.out hb21
      refine wpList_store_row rfl 25 (.tmp 8) (.tmp 36) rfl (w.heap.size + 1) (dgC r).toArray rfl h10 25 _ hrow HS1.out HS2.out (dgC_one _) ?_
      clear hd
      go_wp2_with fail
      refine ⟨undef, by rw [← h10]; rfl, fun h => (updB_self h).elim, ⟨setRow_heap _ _ _ _ _ _ hrow, below_setRow (HBX.out.trans (hb21.mono HBX.out.size)) (Nat.le_succ _) _⟩, fun j v t hj hu h => ?_⟩
      refine wCl_pure j v ?_ h
      intro e
      subst e
      rw [hi] at hj; cases hj
    ·intro L fo w' hC hS
     have H11 := hid (hS 11 (by decide) rfl)
     clear hS hC
     go_wp2_with fail
     refine bodyPost_ret (results_cell_row rfl _ _ (w.heap.size + 1) 25 _ (0, 0) _ rfl H11.out.1 Tryz.underlying25 rfl HS1.out) rfl ?_
     exact ⟨rfl, H11.out.2⟩
   ·have d2 : decide ((i : Int) < (k : Int)) = false := dQ (by omega)
    have d3 : decide (i < k) = false := dQ hik
    obtain ⟨d, HD⟩ : ∃ d : Nat, Hid (i - k = d) := ⟨_, hid rfl⟩
    obtain ⟨d2', HD2⟩ : ∃ d : Nat, Hid (m - k = d) := ⟨_, hid rfl⟩
    have HWD : Hid (IntKind.i64.wrap ((i : Int) - (k : Int)) = (d : Int)) := hid (by rw [IntWalk.i64_in _ (by omega), ← HD.out]; omega)
    have HWD2 : Hid (IntKind.i64.wrap ((m : Int) - (k : Int)) = (d2' : Int)) := hid (by rw [IntWalk.i64_in _ (by omega), ← HD2.out]; omega)
    have hdd : d2' ≤ f ∧ 1 ≤ d2' ∧ d2' ≤ 1099511627776 ∧ d < d2' := by rw [← HD2.out, ← HD.out]; omega
    have HDD := hid hdd
    clear hdd
    have HN2 : Hid ((dirsD d d2').length = l) := hid (by
     have := HNL.out
     rw [dirsD_right h2 (by rw [HK.out]; exact hik), HK.out, List.length_cons, HD.out, HD2.out] at this; omega)
    obtain ⟨x, HX⟩ : ∃ x, Hid (climbD (dirsD d d2').reverse (ps.take l) (leafD nd) = x) := ⟨_, hid rfl⟩
    have HXO : Hid (DgOk x) := hid (by rw [← HX.out]; exact climbD_dg (leafD_ok nd))
    have HRE : Hid (nodeD p x = r) := hid (by
     rw [← HR.out, HPS.out, cd_right h2 (by rw [HK.out]; exact hik) (by rw [HK.out, HD.out, HD2.out, HN2.out, HTL.out]), HK.out, HD.out, HD2.out, HX.out])
    go_wp2_with (first | (with_reducible refine wpList_load_mid rfl 25 (.tmp 21) rfl g (off + l * 32) rfl (dgC p) _ HRP.out Tryz.underlying25 rfl HPI.out ?_) | (refine wpList_store_row rfl 25 (.tmp 10) (.tmp 22) rfl W1.heap.size (dgC p).toArray rfl rfl 25 _ (heap_alloc_new W1 _) HP1.out HP2.out (dgC_one _) ?_; rw [HW2.out]))
    refine region_flow3 (by kernel_rfl) (by kernel_rfl) (fun i => Nat.beq i 15) (fun i => i) (by kernel_rfl) (fun fx => #[.agg (dgC nd).toArray, .int IntKind.i64 ↑i, .int IntKind.i64 ↑m, .slice (some { block := g, off := off }) n c, .pointer (some { block := w.heap.size, off := 0 }), undef, undef, undef, .pointer (some { block := w.heap.size + 1, off := 0 }), .int IntKind.i64 ↑k, .pointer (some { block := W1.heap.size, off := 0 }), .int IntKind.i64 ↑m, .bool false, undef, undef, .int IntKind.i64 ↑m, .int IntKind.i64 ↑k, .slice (some { block := g, off := off }) n c, .slice (some { block := g, off := off }) n c, .int IntKind.i64 ↑n, .int IntKind.i64 ↑l, .pointer (some { block := g, off := off + l * 32 }), .agg (dgC p).toArray, .int IntKind.i64 ↑i, .int IntKind.i64 ↑k, .bool false, undef, undef, undef, undef, undef, undef, undef, undef, undef, undef, undef, fx 0, fx 1, fx 2, fx 3, fx 4, fx 5, fx 6, fx 7, fx 8, fx 9, fx 10, fx 11, fx 12, fx 13, fx 14]) (fun _ => undef) (fun L fx w' => (L 15 = false → Below W2.heap.size W2 w')) (fun fi fv _ fw => wCr w (w.heap.size + 1) nd g off n c i k m d d2' l x p r fi fv fw) (fun _ => (Below.refl _ _).drew) ?_ ?_
    ·refine ⟨?_, ?_, ?_, ?_, ?_, ?_, ?_, ?_, ?_, ?_, ?_, ?_, ?_, ?_, ?_, ?_, trivial⟩
     all_goals intro L fx w' hC hi hcl hdn hd
     ·have hnd : L 15 = false := nQ hi (fun h => (hcl 14 0 (hcl 15 14 h (by kernel_rfl)) (by kernel_rfl)))
      have hrow := row_kept R10.out (hC hnd)
      refine wpList_load_row rfl 25 (.tmp 10) rfl (W1.heap.size) rfl 25 _ (0, 0) _ hrow Tryz.underlying25 rfl (dgC_info HPO.out) ?_
      clear hd
      go_wp2_with fail
      exact ⟨_, rfl, fun _ => hC hnd, rfl, kP⟩
     ·have hnd : L 15 = false := nQ hi (fun h => (hcl 13 1 (hcl 14 13 (hcl 15 14 h (by kernel_rfl)) (by kernel_rfl)) (by kernel_rfl)))
      have hrow := row_kept R4x.out (hC hnd)
      refine wpList_load_row rfl 25 (.tmp 4) rfl (w.heap.size) rfl 25 _ (0, 0) _ hrow Tryz.underlying25 rfl (dgC_info HND.out) ?_
      clear hd
      go_wp2_with fail
      exact ⟨_, rfl, fun _ => hC hnd, rfl, kP⟩
     ·have hnd : L 15 = false := nQ hi (fun h => (hcl 4 2 (hcl 13 4 (hcl 14 13 (hcl 15 14 h (by kernel_rfl)) (by kernel_rfl)) (by kernel_rfl)) (by kernel_rfl)))
      go_wp2_with fail
      exact ⟨_, rfl, (fun _ => hC hnd), rfl, kP⟩
     ·have hnd : L 15 = false := nQ hi (fun h => (hcl 4 3 (hcl 13 4 (hcl 14 13 (hcl 15 14 h (by kernel_rfl)) (by kernel_rfl)) (by kernel_rfl)) (by kernel_rfl)))
      go_wp2_with fail
      exact ⟨_, rfl, (fun _ => hC hnd), rfl, kP⟩
     ·have h2 : fx 2 = .int .i64 ((i : Nat)) := hd.1 rfl
      have h3 : fx 3 = .int .i64 ((k : Nat)) := hd.2.1 rfl
      have hnd : L 15 = false := nQ hi (fun h => (hcl 13 4 (hcl 14 13 (hcl 15 14 h (by kernel_rfl)) (by kernel_rfl)) (by kernel_rfl)))
      have hw := HWD.out
      go_wp2_with fail
      exact ⟨_, by simp only [upd, h2, h3]; rfl, (fun _ => hC hnd), rfl, kP⟩
     ·have hnd : L 15 = false := nQ hi (fun h => (hcl 7 5 (hcl 13 7 (hcl 14 13 (hcl 15 14 h (by kernel_rfl)) (by kernel_rfl)) (by kernel_rfl)) (by kernel_rfl)))
      go_wp2_with fail
      exact ⟨_, rfl, (fun _ => hC hnd), rfl, kP⟩
     ·have hnd : L 15 = false := nQ hi (fun h => (hcl 7 6 (hcl 13 7 (hcl 14 13 (hcl 15 14 h (by kernel_rfl)) (by kernel_rfl)) (by kernel_rfl)) (by kernel_rfl)))
      go_wp2_with fail
      exact ⟨_, rfl, (fun _ => hC hnd), rfl, kP⟩
     ·have h5 : fx 5 = .int .i64 ((m : Nat)) := hd.1 rfl
      have h6 : fx 6 = .int .i64 ((k : Nat)) := hd.2.1 rfl
      have hnd : L 15 = false := nQ hi (fun h => (hcl 13 7 (hcl 14 13 (hcl 15 14 h (by kernel_rfl)) (by kernel_rfl)) (by kernel_rfl)))
      have hw := HWD2.out
      go_wp2_with fail
      exact ⟨_, by simp only [upd, h5, h6]; rfl, (fun _ => hC hnd), rfl, kP⟩
     ·have hnd : L 15 = false := nQ hi (fun h => (hcl 12 8 (hcl 13 12 (hcl 14 13 (hcl 15 14 h (by kernel_rfl)) (by kernel_rfl)) (by kernel_rfl)) (by kernel_rfl)))
      go_wp2_with fail
      exact ⟨_, rfl, (fun _ => hC hnd), rfl, kP⟩
     ·have hnd : L 15 = false := nQ hi (fun h => (hcl 10 9 (hcl 11 10 (hcl 12 11 (hcl 13 12 (hcl 14 13 (hcl 15 14 h (by kernel_rfl)) (by kernel_rfl)) (by kernel_rfl)) (by kernel_rfl)) (by kernel_rfl)) (by kernel_rfl)))
      go_wp2_with fail
      exact ⟨_, rfl, (fun _ => hC hnd), rfl, kP⟩
     ·have h9 : fx 9 = .slice (some ⟨g, off, none⟩) n c := hd.1 rfl
      have hnd : L 15 = false := nQ hi (fun h => (hcl 11 10 (hcl 12 11 (hcl 13 12 (hcl 14 13 (hcl 15 14 h (by kernel_rfl)) (by kernel_rfl)) (by kernel_rfl)) (by kernel_rfl)) (by kernel_rfl)))
      go_wp2_with fail
      exact ⟨_, by simp only [upd, h9]; rfl, (fun _ => hC hnd), rfl, kP⟩
     ·have h10 : fx 10 = .int .i64 ((n : Nat)) := hd.1 rfl
      have hnd : L 15 = false := nQ hi (fun h => (hcl 12 11 (hcl 13 12 (hcl 14 13 (hcl 15 14 h (by kernel_rfl)) (by kernel_rfl)) (by kernel_rfl)) (by kernel_rfl)))
      go_wp2_with fail
      exact ⟨_, by simp only [upd, h10]; rfl, (fun _ => hC hnd), rfl, kP⟩
     ·have h8 : fx 8 = .slice (some ⟨g, off, none⟩) n c := hd.1 rfl
      have h11 : fx 11 = .int .i64 ((l : Nat)) := hd.2.1 rfl
      have hnd : L 15 = false := nQ hi (fun h => (hcl 13 12 (hcl 14 13 (hcl 15 14 h (by kernel_rfl)) (by kernel_rfl)) (by kernel_rfl)))
      go_wp2_with fail
      exact ⟨_, by simp only [upd, h8, h11]; rfl, (fun _ => hC hnd), rfl, kP⟩
     ·have h1 : fx 1 = dgV nd := hd.1 rfl
      have h4 : fx 4 = .int .i64 ((d : Nat)) := hd.2.1 rfl
      have h7 : fx 7 = .int .i64 ((d2' : Nat)) := hd.2.2.1 rfl
      have h12 : fx 12 = .slice (some ⟨g, off, none⟩) l c := hd.2.2.2.1 rfl
      have hnd : L 15 = false := nQ hi (fun h => (hcl 14 13 (hcl 15 14 h (by kernel_rfl)) (by kernel_rfl)))
      have hb12 := hC hnd
      have HIk := hid (HITx.out.below hb12)
      go_wp2_with fail
      refine (ih nd d d2' (ps.take l) _ l c w' HDD.out.1 HDD.out.2.1 HDD.out.2.2.1 HDD.out.2.2.2 HN2.out.symm HIk HND).mono ?_
      rintro e w2 ⟨rfl, hq⟩
      rw [HX.out]
      go_wp2_with fail
      exact ⟨_, by simp only [upd, h1, h4, h7, h12]; rfl, fun _ => hb12.trans (hq.mono hb12.size), rfl, fun j v t _ _ h => wCr_below hq j v h⟩
     ·have h0 : fx 0 = dgV p := hd.1 rfl
      have h13 : fx 13 = dgV x := hd.2.1 rfl
      have hnd : L 15 = false := nQ hi (fun h => (hcl 15 14 h (by kernel_rfl)))
      have hb12 := hC hnd
      go_wp2_with fail
      refine (rnode_any p x w' HPO HXO).mono ?_
      rintro e w2 ⟨rfl, hq⟩
      rw [HRE.out]
      go_wp2_with fail
      exact ⟨_, by simp only [upd, h0, h13]; rfl, fun _ => hb12.trans (hq.mono hb12.size), rfl, fun j v t _ _ h => wCr_below hq j v h⟩
     ·have h14 : fx 14 = dgV r := hd.1 rfl
      have hb21 := hC hi
      have hrow := row_kept R8x.out hb21
      refine wpList_store_row rfl 25 (.tmp 8) (.tmp 51) rfl (w.heap.size + 1) (dgC r).toArray rfl h14 25 _ hrow HS1.out HS2.out (dgC_one _) ?_
      clear hd
      go_wp2_with fail
      refine ⟨undef, by rw [← h14]; rfl, fun h => (updB_self h).elim, ⟨setRow_heap _ _ _ _ _ _ hrow, below_setRow (HBX.out.trans (hb21.mono HBX.out.size)) (Nat.le_succ _) _⟩, fun j v t hj hu h => ?_⟩
      refine wCr_pure j v ?_ h
      intro e
      subst e
      rw [hi] at hj; cases hj
    ·intro L fo w' hC hS
     have H15 := hid (hS 15 (by decide) rfl)
     clear hS hC
     go_wp2_with fail
     refine bodyPost_ret (results_cell_row rfl _ _ (w.heap.size + 1) 25 _ (0, 0) _ rfl H15.out.1 Tryz.underlying25 rfl HS1.out) rfl ?_
     exact ⟨rfl, H15.out.2⟩
  ·have hm1 : m = 1 := by omega
   subst hm1
   have HE : Hid (leafD nd = r) := hid (by rw [← HR.out, dirsD_one i (Nat.le_refl _)]; rfl)
   have HDL : Hid (nd.length = 32) := hid HND.out.len
   have HRX := hid (rd_row R4.out)
   go_enter Tryz.func117, Tryz.ntmps117
   rw [dgV_agg nd]
   go_wp2_with fail
   refine (rtagged_any leafTag (some ⟨w.heap.size, 0, none⟩) 32 32 nd _ (by decide) HDL (Nat.le_refl _) (fun h => by cases h) (by omega) (hid HND.out.bytes) HRX).mono ?_
   rintro e w2 ⟨rfl, hq⟩
   have HB2 := hid (HB1.out.trans (hq.mono HB1.out.size))
   have HR2 := hid (row_kept R8.out hq)
   clear hq
   rw [leafTag_d, HE.out, dgV_agg]
   go_wp2_with (refine wpList_store_row rfl 25 (.tmp 8) (.tmp 14) rfl (w.heap.size + 1) (dgC r).toArray rfl rfl 25 _ HR2.out HS1.out HS2.out (dgC_one _) ?_)
   refine bodyPost_ret (results_cell_row rfl _ _ (w.heap.size + 1) 25 _ (0, 0) _ rfl (setRow_heap w2 (w.heap.size + 1) _ _ _ _ HR2.out) Tryz.underlying25 rfl HS1.out) rfl ?_
   exact ⟨rfl, below_setRow HB2.out (Nat.le_succ _) _⟩
theorem built_zD2 : Tryz.prog.built 25 [] = some (dgC zeroD).toArray := by kernel_rfl
theorem rClimb02_a (d : Dg) (i m : Int) (ps : List Dg) (A : Option Addr) (n c : Nat) (w : World) (hn : n ≤ 9223372036854775807) (h : Hid (InD w A n c ps)) (HND : Hid (DgOk d)) (g : m < 1 ∨ 1099511627776 < m ∨ i < 0 ∨ m ≤ i) :
  Calls Tryz.prog 64 #[dgV d, .int .i64 i, .int .i64 m, .slice A n c] w fun e w' => e = .returned (.tuple #[dgV (dclR d i m ps), .int .i64 (dclE i m ps.length)]) ∧ Below w.heap.size w w' := by
 have HNE := hid (show ps.length = n from h.out.len)
 have HSN := hid (dgC_info HND.out)
 have HSZ := hid (dgC_info zeroD_ok)
 have hb0 := ((Below.refl _ w).alloc (Nat.le_refl _) (.cells (dgC d).toArray 25)).alloc (by simp) (.cells #[.int .u8 0, .int .u8 0, .int .u8 0, .int .u8 0, .int .u8 0, .int .u8 0, .int .u8 0, .int .u8 0, .int .u8 0, .int .u8 0, .int .u8 0, .int .u8 0, .int .u8 0, .int .u8 0, .int .u8 0, .int .u8 0, .int .u8 0, .int .u8 0, .int .u8 0, .int .u8 0, .int .u8 0, .int .u8 0, .int .u8 0, .int .u8 0, .int .u8 0, .int .u8 0, .int .u8 0, .int .u8 0, .int .u8 0, .int .u8 0, .int .u8 0, .int .u8 0] 25)
 have hr0 := (Below.heap_alloc (w.alloc (.cells (dgC d).toArray 25)) (.cells #[.int .u8 0, .int .u8 0, .int .u8 0, .int .u8 0, .int .u8 0, .int .u8 0, .int .u8 0, .int .u8 0, .int .u8 0, .int .u8 0, .int .u8 0, .int .u8 0, .int .u8 0, .int .u8 0, .int .u8 0, .int .u8 0, .int .u8 0, .int .u8 0, .int .u8 0, .int .u8 0, .int .u8 0, .int .u8 0, .int .u8 0, .int .u8 0, .int .u8 0, .int .u8 0, .int .u8 0, .int .u8 0, .int .u8 0, .int .u8 0, .int .u8 0, .int .u8 0] 25) w.heap.size (by simp)).trans (heap_alloc_new w (.cells (dgC d).toArray 25))
 have hr1 := heap_alloc_new (w.alloc (.cells (dgC d).toArray 25)) (.cells #[.int .u8 0, .int .u8 0, .int .u8 0, .int .u8 0, .int .u8 0, .int .u8 0, .int .u8 0, .int .u8 0, .int .u8 0, .int .u8 0, .int .u8 0, .int .u8 0, .int .u8 0, .int .u8 0, .int .u8 0, .int .u8 0, .int .u8 0, .int .u8 0, .int .u8 0, .int .u8 0, .int .u8 0, .int .u8 0, .int .u8 0, .int .u8 0, .int .u8 0, .int .u8 0, .int .u8 0, .int .u8 0, .int .u8 0, .int .u8 0, .int .u8 0, .int .u8 0] 25)
 rw [World.size_alloc] at hr1
 have HB1 := hid hb0
 have R4 := hid hr0
 have R8 := hid hr1
 have HI1 := hid (h.out.below hb0)
 clear hb0 hr0 hr1
 have HE := hid (dcl_arg (d := d) (i := i) (n := m) (ps := ps) (by unfold dArg; omega))
 by_cases g0 : m < 1; rotate_left
 by_cases g1 : 1099511627776 < m; rotate_left
 by_cases g2 : i < 0; rotate_left
 by_cases g3 : m ≤ i; rotate_left
 ·omega
 all_goals first | have d0 := eQ g0 | have d0 := dQ g0 | skip
 all_goals first | have d1 := eQ g1 | have d1 := dQ g1 | skip
 all_goals first | have d2 := eQ g2 | have d2 := dQ g2 | skip
 all_goals first | have d3 := eQ g3 | have d3 := dQ g3 | skip
 all_goals
  go_enter Tryz.func64, Tryz.ntmps64
  rw [dgV_agg d]
  go_wp2_with (first | (refine wpList_build rfl _ _ rfl built_zD2 ?_) | (refine wpList_store_row rfl 25 (.tmp 8) (.tmp 33) rfl (w.heap.size + 1) (dgC zeroD).toArray rfl rfl 25 _ R8.out HSZ.out rfl (dgC_one _) ?_))
  have hl := run_loadVar_row (P := Tryz.prog) (World.setRow ((w.alloc (.cells (dgC d).toArray 25)).alloc (.cells #[.int .u8 0, .int .u8 0, .int .u8 0, .int .u8 0, .int .u8 0, .int .u8 0, .int .u8 0, .int .u8 0, .int .u8 0, .int .u8 0, .int .u8 0, .int .u8 0, .int .u8 0, .int .u8 0, .int .u8 0, .int .u8 0, .int .u8 0, .int .u8 0, .int .u8 0, .int .u8 0, .int .u8 0, .int .u8 0, .int .u8 0, .int .u8 0, .int .u8 0, .int .u8 0, .int .u8 0, .int .u8 0, .int .u8 0, .int .u8 0, .int .u8 0, .int .u8 0] 25)) (w.heap.size + 1) (dgC zeroD).toArray) (w.heap.size + 1) 25 25 (dgC zeroD).toArray (0, 0) _ (setRow_heap ((w.alloc (.cells (dgC d).toArray 25)).alloc (.cells #[.int .u8 0, .int .u8 0, .int .u8 0, .int .u8 0, .int .u8 0, .int .u8 0, .int .u8 0, .int .u8 0, .int .u8 0, .int .u8 0, .int .u8 0, .int .u8 0, .int .u8 0, .int .u8 0, .int .u8 0, .int .u8 0, .int .u8 0, .int .u8 0, .int .u8 0, .int .u8 0, .int .u8 0, .int .u8 0, .int .u8 0, .int .u8 0, .int .u8 0, .int .u8 0, .int .u8 0, .int .u8 0, .int .u8 0, .int .u8 0, .int .u8 0, .int .u8 0] 25)) (w.heap.size + 1) _ (dgC zeroD).toArray _ _ R8.out) Tryz.underlying25 rfl HSZ.out
  refine bodyPost_ret (v := .tuple #[dgV zeroD, .int .i64 1]) ?_ rfl ⟨by rw [HE.out.1, HE.out.2], below_setRow HB1.out (Nat.le_succ _) _⟩
  rw [dgV_agg]
  simp [results, Tryz.results64, asAddr, hl]
theorem rClimb02_len (d : Dg) (i m : Int) (ps : List Dg) (A : Option Addr) (n c : Nat) (w : World) (hn : n ≤ 9223372036854775807) (h : Hid (InD w A n c ps)) (HND : Hid (DgOk d)) (g : 1 ≤ m ∧ m ≤ 1099511627776 ∧ 0 ≤ i ∧ i < m) (g4 : n ≠ (dirsD i.toNat m.toNat).length) :
  Calls Tryz.prog 64 #[dgV d, .int .i64 i, .int .i64 m, .slice A n c] w fun e w' => e = .returned (.tuple #[dgV (dclR d i m ps), .int .i64 (dclE i m ps.length)]) ∧ Below w.heap.size w w' := by
 have HNE := hid (show ps.length = n from h.out.len)
 have HSN := hid (dgC_info HND.out)
 have HSZ := hid (dgC_info zeroD_ok)
 have hb0 := ((Below.refl _ w).alloc (Nat.le_refl _) (.cells (dgC d).toArray 25)).alloc (by simp) (.cells #[.int .u8 0, .int .u8 0, .int .u8 0, .int .u8 0, .int .u8 0, .int .u8 0, .int .u8 0, .int .u8 0, .int .u8 0, .int .u8 0, .int .u8 0, .int .u8 0, .int .u8 0, .int .u8 0, .int .u8 0, .int .u8 0, .int .u8 0, .int .u8 0, .int .u8 0, .int .u8 0, .int .u8 0, .int .u8 0, .int .u8 0, .int .u8 0, .int .u8 0, .int .u8 0, .int .u8 0, .int .u8 0, .int .u8 0, .int .u8 0, .int .u8 0, .int .u8 0] 25)
 have hr0 := (Below.heap_alloc (w.alloc (.cells (dgC d).toArray 25)) (.cells #[.int .u8 0, .int .u8 0, .int .u8 0, .int .u8 0, .int .u8 0, .int .u8 0, .int .u8 0, .int .u8 0, .int .u8 0, .int .u8 0, .int .u8 0, .int .u8 0, .int .u8 0, .int .u8 0, .int .u8 0, .int .u8 0, .int .u8 0, .int .u8 0, .int .u8 0, .int .u8 0, .int .u8 0, .int .u8 0, .int .u8 0, .int .u8 0, .int .u8 0, .int .u8 0, .int .u8 0, .int .u8 0, .int .u8 0, .int .u8 0, .int .u8 0, .int .u8 0] 25) w.heap.size (by simp)).trans (heap_alloc_new w (.cells (dgC d).toArray 25))
 have hr1 := heap_alloc_new (w.alloc (.cells (dgC d).toArray 25)) (.cells #[.int .u8 0, .int .u8 0, .int .u8 0, .int .u8 0, .int .u8 0, .int .u8 0, .int .u8 0, .int .u8 0, .int .u8 0, .int .u8 0, .int .u8 0, .int .u8 0, .int .u8 0, .int .u8 0, .int .u8 0, .int .u8 0, .int .u8 0, .int .u8 0, .int .u8 0, .int .u8 0, .int .u8 0, .int .u8 0, .int .u8 0, .int .u8 0, .int .u8 0, .int .u8 0, .int .u8 0, .int .u8 0, .int .u8 0, .int .u8 0, .int .u8 0, .int .u8 0] 25)
 rw [World.size_alloc] at hr1
 have HB1 := hid hb0
 have R4 := hid hr0
 have R8 := hid hr1
 have HI1 := hid (h.out.below hb0)
 clear hb0 hr0 hr1
 have HE := hid (dcl_arg (d := d) (i := i) (n := m) (ps := ps) (by unfold dArg; rw [HNE.out]; omega))
 have d0 : decide (m < 1) = false := dQ (by omega)
 have d1 : decide (1099511627776 < m) = false := dQ (by omega)
 have d2 : decide (i < 0) = false := dQ (by omega)
 have d3 : decide (m ≤ i) = false := dQ (by omega)
 obtain ⟨iN, HIN⟩ : ∃ k : Nat, Hid (i = (k : Int)) := ⟨i.toNat, hid (by omega)⟩
 obtain ⟨mN, HMN⟩ : ∃ k : Nat, Hid (m = (k : Int)) := ⟨m.toNat, hid (by omega)⟩
 have hM : 1 ≤ mN ∧ mN ≤ 1099511627776 ∧ iN < mN := by have := HIN.out; have := HMN.out; omega
 obtain ⟨s, HSL⟩ : ∃ s, Hid ((dirsD iN mN).length = s) := ⟨_, hid rfl⟩
 have hs : s ≤ 40 := by rw [← HSL.out]; exact dirsD_40 iN hM.2.1
 go_enter Tryz.func64, Tryz.ntmps64
 rw [dgV_agg d]
 go_wp2_with fail
 generalize (w.alloc (.cells (dgC d).toArray 25)).alloc (.cells #[.int .u8 0, .int .u8 0, .int .u8 0, .int .u8 0, .int .u8 0, .int .u8 0, .int .u8 0, .int .u8 0, .int .u8 0, .int .u8 0, .int .u8 0, .int .u8 0, .int .u8 0, .int .u8 0, .int .u8 0, .int .u8 0, .int .u8 0, .int .u8 0, .int .u8 0, .int .u8 0, .int .u8 0, .int .u8 0, .int .u8 0, .int .u8 0, .int .u8 0, .int .u8 0, .int .u8 0, .int .u8 0, .int .u8 0, .int .u8 0, .int .u8 0, .int .u8 0] 25) = W1 at *
 rw [HIN.out, HMN.out]
 refine (rlen02_any mN iN mN _ (Nat.le_refl _) hM.1 hM.2.1 hM.2.2).mono ?_
 rintro e w2 ⟨rfl, hw1⟩
 subst hw1
 rw [HSL.out, ← HIN.out, ← HMN.out]
 have hne : n ≠ s := by rw [← HSL.out]; have h := g4; rw [HIN.out, HMN.out, Int.toNat_natCast, Int.toNat_natCast] at h; exact h
 have dn : ((n : Int) == (s : Int)) = false := beq_false_of_ne (by omega)
 have dn2 : ((n : Int) != (s : Int)) = true := by simp [bne, dn]
 have dn3 : decide ((n : Int) = (s : Int)) = false := dQ (by omega)
 go_wp2_with (first | (refine wpList_build rfl _ _ rfl built_zD2 ?_) | (refine wpList_store_row rfl 25 (.tmp 8) (.tmp 33) rfl (w.heap.size + 1) (dgC zeroD).toArray rfl rfl 25 _ R8.out HSZ.out rfl (dgC_one _) ?_))
 have hl := run_loadVar_row (P := Tryz.prog) (World.setRow W1 (w.heap.size + 1) (dgC zeroD).toArray) (w.heap.size + 1) 25 25 (dgC zeroD).toArray (0, 0) _ (setRow_heap W1 (w.heap.size + 1) _ (dgC zeroD).toArray _ _ R8.out) Tryz.underlying25 rfl HSZ.out
 refine bodyPost_ret (v := .tuple #[dgV zeroD, .int .i64 1]) ?_ rfl ⟨by rw [HE.out.1, HE.out.2], below_setRow HB1.out (Nat.le_succ _) _⟩
 rw [dgV_agg]
 simp [results, Tryz.results64, asAddr, hl]
theorem rClimb02_yes (d : Dg) (i m : Int) (ps : List Dg) (A : Option Addr) (n c : Nat) (w : World) (hn : n ≤ 9223372036854775807) (h : Hid (InD w A n c ps)) (HND : Hid (DgOk d)) (g : 1 ≤ m ∧ m ≤ 1099511627776 ∧ 0 ≤ i ∧ i < m) (G4 : Hid (n = (dirsD i.toNat m.toNat).length)) :
  Calls Tryz.prog 64 #[dgV d, .int .i64 i, .int .i64 m, .slice A n c] w fun e w' => e = .returned (.tuple #[dgV (dclR d i m ps), .int .i64 (dclE i m ps.length)]) ∧ Below w.heap.size w w' := by
 have HNE := hid (show ps.length = n from h.out.len)
 have HSN := hid (dgC_info HND.out)
 have HSZ := hid (dgC_info zeroD_ok)
 have hb0 := ((Below.refl _ w).alloc (Nat.le_refl _) (.cells (dgC d).toArray 25)).alloc (by simp) (.cells #[.int .u8 0, .int .u8 0, .int .u8 0, .int .u8 0, .int .u8 0, .int .u8 0, .int .u8 0, .int .u8 0, .int .u8 0, .int .u8 0, .int .u8 0, .int .u8 0, .int .u8 0, .int .u8 0, .int .u8 0, .int .u8 0, .int .u8 0, .int .u8 0, .int .u8 0, .int .u8 0, .int .u8 0, .int .u8 0, .int .u8 0, .int .u8 0, .int .u8 0, .int .u8 0, .int .u8 0, .int .u8 0, .int .u8 0, .int .u8 0, .int .u8 0, .int .u8 0] 25)
 have hr0 := (Below.heap_alloc (w.alloc (.cells (dgC d).toArray 25)) (.cells #[.int .u8 0, .int .u8 0, .int .u8 0, .int .u8 0, .int .u8 0, .int .u8 0, .int .u8 0, .int .u8 0, .int .u8 0, .int .u8 0, .int .u8 0, .int .u8 0, .int .u8 0, .int .u8 0, .int .u8 0, .int .u8 0, .int .u8 0, .int .u8 0, .int .u8 0, .int .u8 0, .int .u8 0, .int .u8 0, .int .u8 0, .int .u8 0, .int .u8 0, .int .u8 0, .int .u8 0, .int .u8 0, .int .u8 0, .int .u8 0, .int .u8 0, .int .u8 0] 25) w.heap.size (by simp)).trans (heap_alloc_new w (.cells (dgC d).toArray 25))
 have hr1 := heap_alloc_new (w.alloc (.cells (dgC d).toArray 25)) (.cells #[.int .u8 0, .int .u8 0, .int .u8 0, .int .u8 0, .int .u8 0, .int .u8 0, .int .u8 0, .int .u8 0, .int .u8 0, .int .u8 0, .int .u8 0, .int .u8 0, .int .u8 0, .int .u8 0, .int .u8 0, .int .u8 0, .int .u8 0, .int .u8 0, .int .u8 0, .int .u8 0, .int .u8 0, .int .u8 0, .int .u8 0, .int .u8 0, .int .u8 0, .int .u8 0, .int .u8 0, .int .u8 0, .int .u8 0, .int .u8 0, .int .u8 0, .int .u8 0] 25)
 rw [World.size_alloc] at hr1
 have HB1 := hid hb0
 have R4 := hid hr0
 have R8 := hid hr1
 have HI1 := hid (h.out.below hb0)
 clear hb0 hr0 hr1
 have HE := hid (dcl_yes (d := d) (i := i) (n := m) (ps := ps) (by unfold dArg; rw [HNE.out]; have := G4.out; omega))
 have d0 : decide (m < 1) = false := dQ (by omega)
 have d1 : decide (1099511627776 < m) = false := dQ (by omega)
 have d2 : decide (i < 0) = false := dQ (by omega)
 have d3 : decide (m ≤ i) = false := dQ (by omega)
 obtain ⟨iN, HIN⟩ : ∃ k : Nat, Hid (i = (k : Int)) := ⟨i.toNat, hid (by omega)⟩
 obtain ⟨mN, HMN⟩ : ∃ k : Nat, Hid (m = (k : Int)) := ⟨m.toNat, hid (by omega)⟩
 have hM : 1 ≤ mN ∧ mN ≤ 1099511627776 ∧ iN < mN := by have := HIN.out; have := HMN.out; omega
 obtain ⟨s, HSL⟩ : ∃ s, Hid ((dirsD iN mN).length = s) := ⟨_, hid rfl⟩
 have hs : s ≤ 40 := by rw [← HSL.out]; exact dirsD_40 iN hM.2.1
 go_enter Tryz.func64, Tryz.ntmps64
 rw [dgV_agg d]
 go_wp2_with fail
 generalize (w.alloc (.cells (dgC d).toArray 25)).alloc (.cells #[.int .u8 0, .int .u8 0, .int .u8 0, .int .u8 0, .int .u8 0, .int .u8 0, .int .u8 0, .int .u8 0, .int .u8 0, .int .u8 0, .int .u8 0, .int .u8 0, .int .u8 0, .int .u8 0, .int .u8 0, .int .u8 0, .int .u8 0, .int .u8 0, .int .u8 0, .int .u8 0, .int .u8 0, .int .u8 0, .int .u8 0, .int .u8 0, .int .u8 0, .int .u8 0, .int .u8 0, .int .u8 0, .int .u8 0, .int .u8 0, .int .u8 0, .int .u8 0] 25) = W1 at *
 rw [HIN.out, HMN.out]
 refine (rlen02_any mN iN mN _ (Nat.le_refl _) hM.1 hM.2.1 hM.2.2).mono ?_
 rintro e w2 ⟨rfl, hw1⟩
 subst hw1
 rw [HSL.out, ← HIN.out, ← HMN.out]
 have hse : n = s := by rw [← HSL.out]; have h := G4.out; rw [HIN.out, HMN.out, Int.toNat_natCast, Int.toNat_natCast] at h; exact h
 obtain ⟨hq⟩ : Nonempty (Hid (s = n)) := ⟨hid hse.symm⟩
 subst hse
 have dn2 : ((n : Int) != (n : Int)) = false := by simp
 obtain ⟨r, HR⟩ : ∃ r, Hid (climbD (dirsD iN mN).reverse ps (leafD d) = r) := ⟨_, hid rfl⟩
 have HRO : Hid (DgOk r) := hid (by rw [← HR.out]; exact climbD_dg (leafD_ok d))
 have HS1 := hid (dgC_info HRO.out)
 have HS2 := hid (dgC_size HRO.out)
 go_wp2_with (refine wpList_load_row rfl 25 (.tmp 4) rfl w.heap.size rfl 25 _ (0, 0) _ R4.out Tryz.underlying25 rfl HSN.out ?_)
 rw [← dgV_agg, HIN.out, HMN.out]
 refine (rclimb02_any mN d iN mN ps A n c _ (Nat.le_refl _) hM.1 hM.2.1 hM.2.2 HSL.out.symm HI1 HND).mono ?_
 rintro e W3 ⟨rfl, hq3⟩
 rw [HR.out, ← HIN.out, ← HMN.out]
 have HB1 := hid (HB1.out.trans (hq3.mono HB1.out.size))
 have R8 := hid (row_kept R8.out hq3)
 clear hq3
 rw [dgV_agg]
 go_wp2_with (refine wpList_store_row rfl 25 (.tmp 8) (.tmp 38) rfl (w.heap.size + 1) (dgC r).toArray rfl rfl 25 _ R8.out HS1.out HS2.out (dgC_one _) ?_)
 have hl := run_loadVar_row (P := Tryz.prog) (W3.setRow (w.heap.size + 1) (dgC r).toArray) (w.heap.size + 1) 25 25 (dgC r).toArray (0, 0) _ (setRow_heap W3 (w.heap.size + 1) _ (dgC r).toArray _ _ R8.out) Tryz.underlying25 rfl HS1.out
 refine bodyPost_ret (v := .tuple #[dgV r, .int .i64 0]) ?_ rfl ⟨by rw [HE.out.1, HE.out.2, HIN.out, HMN.out, Int.toNat_natCast, Int.toNat_natCast, HR.out], below_setRow HB1.out (Nat.le_succ _) _⟩
 simp [results, Tryz.results64, asAddr, hl, dgV_agg]
theorem rClimb02_any (d : Dg) (i m : Int) (ps : List Dg) (A : Option Addr) (n c : Nat) (w : World) (hn : n ≤ 9223372036854775807) (h : Hid (InD w A n c ps)) (HND : Hid (DgOk d)) :
  Calls Tryz.prog 64 #[dgV d, .int .i64 i, .int .i64 m, .slice A n c] w fun e w' => e = .returned (.tuple #[dgV (dclR d i m ps), .int .i64 (dclE i m ps.length)]) ∧ Below w.heap.size w w' := by
 by_cases g : m < 1 ∨ 1099511627776 < m ∨ i < 0 ∨ m ≤ i
 ·exact rClimb02_a d i m ps A n c w hn h HND g
 by_cases g4 : n = (dirsD i.toNat m.toNat).length
 ·exact rClimb02_yes d i m ps A n c w hn h HND (by omega) (hid g4)
 ·exact rClimb02_len d i m ps A n c w hn h HND (by omega) g4
theorem rlisted_any (t : Tr) (p : TrP) (w : World) (h : Hid (TrOk w t p)) :
  Calls Tryz.prog 13 #[trV t p] w fun e w' => e = .returned (.tuple #[dgV (lstL t), .int .i64 (trE t)]) ∧ Below w.heap.size w w' := by
 have HIT := hid (trV_info t p h.out.len)
 have HSZ := hid (dgC_info zeroD_ok)
 have hb0 := ((Below.refl _ w).alloc (Nat.le_refl _) (.cells (trC t p).toArray 27)).alloc (by simp) (.cells #[.int .u8 0, .int .u8 0, .int .u8 0, .int .u8 0, .int .u8 0, .int .u8 0, .int .u8 0, .int .u8 0, .int .u8 0, .int .u8 0, .int .u8 0, .int .u8 0, .int .u8 0, .int .u8 0, .int .u8 0, .int .u8 0, .int .u8 0, .int .u8 0, .int .u8 0, .int .u8 0, .int .u8 0, .int .u8 0, .int .u8 0, .int .u8 0, .int .u8 0, .int .u8 0, .int .u8 0, .int .u8 0, .int .u8 0, .int .u8 0, .int .u8 0, .int .u8 0] 25)
 have hr0 := (Below.heap_alloc (w.alloc (.cells (trC t p).toArray 27)) (.cells #[.int .u8 0, .int .u8 0, .int .u8 0, .int .u8 0, .int .u8 0, .int .u8 0, .int .u8 0, .int .u8 0, .int .u8 0, .int .u8 0, .int .u8 0, .int .u8 0, .int .u8 0, .int .u8 0, .int .u8 0, .int .u8 0, .int .u8 0, .int .u8 0, .int .u8 0, .int .u8 0, .int .u8 0, .int .u8 0, .int .u8 0, .int .u8 0, .int .u8 0, .int .u8 0, .int .u8 0, .int .u8 0, .int .u8 0, .int .u8 0, .int .u8 0, .int .u8 0] 25) w.heap.size (by simp)).trans (heap_alloc_new w (.cells (trC t p).toArray 27))
 have hr1 := heap_alloc_new (w.alloc (.cells (trC t p).toArray 27)) (.cells #[.int .u8 0, .int .u8 0, .int .u8 0, .int .u8 0, .int .u8 0, .int .u8 0, .int .u8 0, .int .u8 0, .int .u8 0, .int .u8 0, .int .u8 0, .int .u8 0, .int .u8 0, .int .u8 0, .int .u8 0, .int .u8 0, .int .u8 0, .int .u8 0, .int .u8 0, .int .u8 0, .int .u8 0, .int .u8 0, .int .u8 0, .int .u8 0, .int .u8 0, .int .u8 0, .int .u8 0, .int .u8 0, .int .u8 0, .int .u8 0, .int .u8 0, .int .u8 0] 25)
 rw [World.size_alloc] at hr1
 obtain ⟨W1, HW1⟩ : ∃ V, Hid ((w.alloc (.cells (trC t p).toArray 27)).alloc (.cells #[.int .u8 0, .int .u8 0, .int .u8 0, .int .u8 0, .int .u8 0, .int .u8 0, .int .u8 0, .int .u8 0, .int .u8 0, .int .u8 0, .int .u8 0, .int .u8 0, .int .u8 0, .int .u8 0, .int .u8 0, .int .u8 0, .int .u8 0, .int .u8 0, .int .u8 0, .int .u8 0, .int .u8 0, .int .u8 0, .int .u8 0, .int .u8 0, .int .u8 0, .int .u8 0, .int .u8 0, .int .u8 0, .int .u8 0, .int .u8 0, .int .u8 0, .int .u8 0] 25) = V) := ⟨_, hid rfl⟩
 rw [HW1.out] at hb0 hr0 hr1
 have HB1 := hid hb0
 have RT := hid hr0
 have RZ := hid hr1
 have HO1 := hid (h.out.below hb0)
 clear hb0 hr0 hr1
 rw [show trV t p = .agg (trC t p).toArray from rfl]
 go_enter Tryz.func13, Tryz.ntmps13
 go_wp2_with (first | (rw [HW1.out]) | (refine wpList_load_row rfl 27 (.tmp 1) rfl w.heap.size rfl 27 _ (0, 0) _ RT.out Tryz.underlying27 rfl HIT.out ?_))
 rw [show Value.agg (trC t p).toArray = trV t p from rfl]
 cases hg0 : trG t
 ·have hg := hid hg0
  have HE : Hid (lstL t = zeroD ∧ trE t = 420) := hid ⟨by unfold lstL; rw [hg.out]; rfl, trE_no hg.out⟩
  refine (rnodes_no t p W1 HO1 hg).mono ?_
  rintro e W2 ⟨rfl, hq⟩
  have HB2 := hid (HB1.out.trans (hq.mono HB1.out.size))
  have RZ2 := hid (row_kept RZ.out hq)
  clear hq
  go_wp2_with (first | (refine wpList_build rfl _ _ rfl built_zD2 ?_) | (refine wpList_store_row rfl 25 (.tmp 2) (.tmp 13) rfl (w.heap.size + 1) (dgC zeroD).toArray rfl rfl 25 _ RZ2.out HSZ.out rfl (dgC_one _) ?_))
  have hl := run_loadVar_row (P := Tryz.prog) (World.setRow W2 (w.heap.size + 1) (dgC zeroD).toArray) (w.heap.size + 1) 25 25 (dgC zeroD).toArray (0, 0) _ (setRow_heap W2 (w.heap.size + 1) _ (dgC zeroD).toArray _ _ RZ2.out) Tryz.underlying25 rfl HSZ.out
  refine bodyPost_ret (v := .tuple #[dgV zeroD, .int .i64 420]) ?_ rfl ⟨by rw [HE.out.1, HE.out.2], below_setRow HB2.out (Nat.le_succ _) _⟩
  rw [dgV_agg]
  simp [results, Tryz.results13, asAddr, hl]
 ·have hg := hid hg0
  have HNL : Hid (p.n ≤ 100000) := hid (by have := trG_lns hg.out; rw [h.out.ln.len] at this; exact this)
  obtain ⟨r, HR⟩ : ∃ r, Hid (treeD (t.ln.map (lvL t.salt)) = r) := ⟨_, hid rfl⟩
  have HRO : Hid (DgOk r) := hid (by rw [← HR.out]; exact treeD_okD _)
  have HE : Hid (lstL t = r ∧ trE t = 0) := hid ⟨by unfold lstL; rw [hg.out, ← HR.out]; rfl, trE_yes hg.out⟩
  have HS1 := hid (dgC_info HRO.out)
  have HS2 := hid (dgC_size HRO.out)
  refine (rnodes_yes t p W1 HO1 hg).mono ?_
  rintro e W2 ⟨A2, n2, c2, rfl, hin, hq⟩
  have HB2 := hid (HB1.out.trans (hq.mono HB1.out.size))
  have RZ2 := hid (row_kept RZ.out hq)
  have HI2 := hid hin
  have HN2 : Hid (n2 ≤ 100000) := hid (by rw [← hin.len, List.length_map]; exact trG_lns hg.out)
  clear hq hin
  go_wp2_with fail
  refine (rdigests_any _ A2 n2 c2 W2 HN2.out HI2).mono ?_
  rintro e W3 ⟨A3, n3, c3, rfl, hin, hq⟩
  have HB3 := hid (HB2.out.trans (hq.mono HB2.out.size))
  have RZ3 := hid (row_kept RZ2.out hq)
  rw [List.map_map, show ((fun x : Nd => x.d) ∘ ndL t.salt) = lvL t.salt from funext (fun x => ndL_d t.salt x)] at hin
  have HI3 := hid hin
  have HN3 : Hid (n3 ≤ 100000) := hid (by rw [← hin.len, List.length_map]; exact trG_lns hg.out)
  clear hq hin
  go_wp2_with fail
  refine (rtree_any n3 _ A3 n3 c3 W3 (Nat.le_refl _) (by have := HN3.out; omega) HI3).mono ?_
  rintro e W4 ⟨rfl, hq⟩
  rw [HR.out]
  have HB4 := hid (HB3.out.trans (hq.mono HB3.out.size))
  have RZ4 := hid (row_kept RZ3.out hq)
  clear hq
  rw [dgV_agg]
  go_wp2_with (refine wpList_store_row rfl 25 (.tmp 2) (.tmp 17) rfl (w.heap.size + 1) (dgC r).toArray rfl rfl 25 _ RZ4.out HS1.out HS2.out (dgC_one _) ?_)
  have hl := run_loadVar_row (P := Tryz.prog) (World.setRow W4 (w.heap.size + 1) (dgC r).toArray) (w.heap.size + 1) 25 25 (dgC r).toArray (0, 0) _ (setRow_heap W4 (w.heap.size + 1) _ (dgC r).toArray _ _ RZ4.out) Tryz.underlying25 rfl HS1.out
  refine bodyPost_ret (v := .tuple #[dgV r, .int .i64 0]) ?_ rfl ⟨by rw [HE.out.1, HE.out.2], below_setRow HB4.out (Nat.le_succ _) _⟩
  simp [results, Tryz.results13, asAddr, hl, dgV_agg]
theorem rclaimed_any (t : Tr) (p : TrP) (w : World) (h : Hid (TrOk w t p)) :
  Calls Tryz.prog 15 #[trV t p] w fun e w' => e = .returned (.tuple #[dgV (lstK t), .int .i64 (trE t)]) ∧ Below w.heap.size w w' := by
 have HIT := hid (trV_info t p h.out.len)
 have HSZ := hid (dgC_info zeroD_ok)
 have hb0 := ((Below.refl _ w).alloc (Nat.le_refl _) (.cells (trC t p).toArray 27)).alloc (by simp) (.cells #[.int .u8 0, .int .u8 0, .int .u8 0, .int .u8 0, .int .u8 0, .int .u8 0, .int .u8 0, .int .u8 0, .int .u8 0, .int .u8 0, .int .u8 0, .int .u8 0, .int .u8 0, .int .u8 0, .int .u8 0, .int .u8 0, .int .u8 0, .int .u8 0, .int .u8 0, .int .u8 0, .int .u8 0, .int .u8 0, .int .u8 0, .int .u8 0, .int .u8 0, .int .u8 0, .int .u8 0, .int .u8 0, .int .u8 0, .int .u8 0, .int .u8 0, .int .u8 0] 25)
 have hr0 := (Below.heap_alloc (w.alloc (.cells (trC t p).toArray 27)) (.cells #[.int .u8 0, .int .u8 0, .int .u8 0, .int .u8 0, .int .u8 0, .int .u8 0, .int .u8 0, .int .u8 0, .int .u8 0, .int .u8 0, .int .u8 0, .int .u8 0, .int .u8 0, .int .u8 0, .int .u8 0, .int .u8 0, .int .u8 0, .int .u8 0, .int .u8 0, .int .u8 0, .int .u8 0, .int .u8 0, .int .u8 0, .int .u8 0, .int .u8 0, .int .u8 0, .int .u8 0, .int .u8 0, .int .u8 0, .int .u8 0, .int .u8 0, .int .u8 0] 25) w.heap.size (by simp)).trans (heap_alloc_new w (.cells (trC t p).toArray 27))
 have hr1 := heap_alloc_new (w.alloc (.cells (trC t p).toArray 27)) (.cells #[.int .u8 0, .int .u8 0, .int .u8 0, .int .u8 0, .int .u8 0, .int .u8 0, .int .u8 0, .int .u8 0, .int .u8 0, .int .u8 0, .int .u8 0, .int .u8 0, .int .u8 0, .int .u8 0, .int .u8 0, .int .u8 0, .int .u8 0, .int .u8 0, .int .u8 0, .int .u8 0, .int .u8 0, .int .u8 0, .int .u8 0, .int .u8 0, .int .u8 0, .int .u8 0, .int .u8 0, .int .u8 0, .int .u8 0, .int .u8 0, .int .u8 0, .int .u8 0] 25)
 rw [World.size_alloc] at hr1
 obtain ⟨W1, HW1⟩ : ∃ V, Hid ((w.alloc (.cells (trC t p).toArray 27)).alloc (.cells #[.int .u8 0, .int .u8 0, .int .u8 0, .int .u8 0, .int .u8 0, .int .u8 0, .int .u8 0, .int .u8 0, .int .u8 0, .int .u8 0, .int .u8 0, .int .u8 0, .int .u8 0, .int .u8 0, .int .u8 0, .int .u8 0, .int .u8 0, .int .u8 0, .int .u8 0, .int .u8 0, .int .u8 0, .int .u8 0, .int .u8 0, .int .u8 0, .int .u8 0, .int .u8 0, .int .u8 0, .int .u8 0, .int .u8 0, .int .u8 0, .int .u8 0, .int .u8 0] 25) = V) := ⟨_, hid rfl⟩
 rw [HW1.out] at hb0 hr0 hr1
 have HB1 := hid hb0
 have RT := hid hr0
 have RZ := hid hr1
 have HO1 := hid (h.out.below hb0)
 clear hb0 hr0 hr1
 rw [show trV t p = .agg (trC t p).toArray from rfl]
 go_enter Tryz.func15, Tryz.ntmps15
 go_wp2_with (first | (rw [HW1.out]) | (refine wpList_load_row rfl 27 (.tmp 1) rfl w.heap.size rfl 27 _ (0, 0) _ RT.out Tryz.underlying27 rfl HIT.out ?_))
 rw [show Value.agg (trC t p).toArray = trV t p from rfl]
 cases hg0 : trG t
 ·have hg := hid hg0
  have HE : Hid (lstK t = zeroD ∧ trE t = 420) := hid ⟨by unfold lstK; rw [hg.out]; rfl, trE_no hg.out⟩
  refine (rcheck42_any t p W1 HO1).mono ?_
  rintro e W2 ⟨rfl, hq⟩
  rw [HE.out.2]
  have HB2 := hid (HB1.out.trans (hq.mono HB1.out.size))
  have RZ2 := hid (row_kept RZ.out hq)
  clear hq
  go_wp2_with (first | (refine wpList_build rfl _ _ rfl built_zD2 ?_) | (refine wpList_store_row rfl 25 (.tmp 2) (.tmp 7) rfl (w.heap.size + 1) (dgC zeroD).toArray rfl rfl 25 _ RZ2.out HSZ.out rfl (dgC_one _) ?_))
  have hl := run_loadVar_row (P := Tryz.prog) (World.setRow W2 (w.heap.size + 1) (dgC zeroD).toArray) (w.heap.size + 1) 25 25 (dgC zeroD).toArray (0, 0) _ (setRow_heap W2 (w.heap.size + 1) _ (dgC zeroD).toArray _ _ RZ2.out) Tryz.underlying25 rfl HSZ.out
  refine bodyPost_ret (v := .tuple #[dgV zeroD, .int .i64 420]) ?_ rfl ⟨by rw [HE.out.1, HE.out.2], below_setRow HB2.out (Nat.le_succ _) _⟩
  rw [dgV_agg]
  simp [results, Tryz.results15, asAddr, hl]
 ·have hg := hid hg0
  have HNL : Hid (p.n2 ≤ 100000) := hid (by have := trG_cls hg.out; rw [h.out.cl.len] at this; exact this)
  obtain ⟨r, HR⟩ : ∃ r, Hid (treeD (t.cl.map (lvK t.salt)) = r) := ⟨_, hid rfl⟩
  have HRO : Hid (DgOk r) := hid (by rw [← HR.out]; exact treeD_okD _)
  have HE : Hid (lstK t = r ∧ trE t = 0) := hid ⟨by unfold lstK; rw [hg.out, ← HR.out]; rfl, trE_yes hg.out⟩
  have HS1 := hid (dgC_info HRO.out)
  have HS2 := hid (dgC_size HRO.out)
  refine (rcheck42_any t p W1 HO1).mono ?_
  rintro e W2 ⟨rfl, hq⟩
  rw [HE.out.2]
  have HB2 := hid (HB1.out.trans (hq.mono HB1.out.size))
  have RZ2 := hid (row_kept RZ.out hq)
  have RT2 := hid (row_kept RT.out hq)
  have HO2 := hid (HO1.out.below hq)
  clear hq
  go_wp2_with (refine wpList_load_row rfl 27 (.tmp 1) rfl w.heap.size rfl 27 _ (0, 0) _ RT2.out Tryz.underlying27 rfl HIT.out ?_)
  rw [show Value.agg (trC t p).toArray = trV t p from rfl]
  refine (rcleaves_any t p W2 HO2 HNL.out).mono ?_
  rintro e W3 ⟨A3, n3, c3, rfl, hin, hq⟩
  have HB3 := hid (HB2.out.trans (hq.mono HB2.out.size))
  have RZ3 := hid (row_kept RZ2.out hq)
  have HI3 := hid hin
  have HN3 : Hid (n3 ≤ 100000) := hid (by rw [← hin.len, List.length_map]; exact trG_cls hg.out)
  clear hq hin
  go_wp2_with fail
  refine (rtree_any n3 _ A3 n3 c3 W3 (Nat.le_refl _) (by have := HN3.out; omega) HI3).mono ?_
  rintro e W4 ⟨rfl, hq⟩
  rw [HR.out]
  have HB4 := hid (HB3.out.trans (hq.mono HB3.out.size))
  have RZ4 := hid (row_kept RZ3.out hq)
  clear hq
  rw [dgV_agg]
  go_wp2_with (refine wpList_store_row rfl 25 (.tmp 2) (.tmp 10) rfl (w.heap.size + 1) (dgC r).toArray rfl rfl 25 _ RZ4.out HS1.out HS2.out (dgC_one _) ?_)
  have hl := run_loadVar_row (P := Tryz.prog) (World.setRow W4 (w.heap.size + 1) (dgC r).toArray) (w.heap.size + 1) 25 25 (dgC r).toArray (0, 0) _ (setRow_heap W4 (w.heap.size + 1) _ (dgC r).toArray _ _ RZ4.out) Tryz.underlying25 rfl HS1.out
  refine bodyPost_ret (v := .tuple #[dgV r, .int .i64 0]) ?_ rfl ⟨by rw [HE.out.1, HE.out.2], below_setRow HB4.out (Nat.le_succ _) _⟩
  simp [results, Tryz.results15, asAddr, hl, dgV_agg]
theorem setCells_row (g : Nat) (ty : TypeId) (post : List Value) : ∀ (vs pre old : List Value) (w : World), old.length = vs.length → w.heap[g]? = some (.cells (pre ++ (old ++ post)).toArray ty (0, 0)) →
  (w.setCells g pre.length vs).heap[g]? = some (.cells (pre ++ (vs ++ post)).toArray ty (0, 0)) ∧ ∀ (B : Nat) (a : World), Below B a w → B ≤ g → Below B a (w.setCells g pre.length vs)
 | [], pre, old, w, hl, h => by
  have : old = [] := List.eq_nil_of_length_eq_zero hl
  subst this
  exact ⟨h, fun B a hb _ => hb⟩
 | v :: vs, pre, [], w, hl, h => by simp at hl
 | v :: vs, pre, o :: old, w, hl, h => by
  have e := setCell_eq_setRow w g pre.length _ _ _ v h
  have hr := setRow_heap w g _ ((pre ++ (o :: old ++ post)).toArray.setIfInBounds pre.length v) _ _ h
  have es : (pre ++ (o :: old ++ post)).toArray.setIfInBounds pre.length v = ((pre ++ [v]) ++ (old ++ post)).toArray := by
   simp
  have hb : ∀ (B : Nat) (a : World), Below B a w → B ≤ g → Below B a (w.setCell ⟨g, pre.length, none⟩ v) := fun B a hb hg => by rw [e]; exact below_setRow hb hg _
  rw [← e, es] at hr
  have ih := setCells_row g ty post vs (pre ++ [v]) old (w.setCell ⟨g, pre.length, none⟩ v) (by simpa using hl) hr
  rw [List.length_append, List.length_singleton] at ih
  refine ⟨?_, fun B a h1 h2 => ih.2 B a (hb B a h1 h2) h2⟩
  have := ih.1
  simpa [World.setCells] using this
theorem rtZ_size : (Tryz.zeroCells43 : Array Value).size = 138 := by kernel_rfl
theorem built_rt0 (a b : Int) : Tryz.prog.built 43 [(4, .int .i64 a), (5, .int .i64 b)] = some (rtC (rtOf a b zeroD zeroD)).toArray := by kernel_rfl
theorem wpList_build_rt0 {w : World} {ops : Array Oper} {rest : List Oper} {o : Oper} {a : Act} {Q : Exit → Act → World → Prop} (hg : o.guard = none) (u4 u5 : Operand)
  (ho : o.op = .build 43 #[(4, u4), (5, u5)]) (m n : Int) (h4 : a.eval u4 = .int .i64 m) (h5 : a.eval u5 = .int .i64 n)
  (h : wpList Tryz.prog ops Q rest (a.put o.dst (.agg (rtC (rtOf m n zeroD zeroD)).toArray)) w) : wpList Tryz.prog ops Q (o :: rest) a w := by
 have e1 : (#[(4, u4), (5, u5)].map fun (i, x) => (i, a.eval x)).toList = [(4, .int .i64 m), (5, .int .i64 n)] := by simp [h4, h5]
 refine wpList_build hg 43 _ ho (by rw [e1, built_rt0 m n]; rfl) ?_
 rw [e1, built_rt0 m n]
 exact h
def rtPre (a b : Int) : List Value := [.int .i64 0, .int .i64 0, .int .i64 0, .int .i64 0, .int .i64 a, .int .i64 b] ++ ndC zeroN
theorem rtPre_len (a b : Int) : (rtPre a b).length = 40 := by simp [rtPre, ndC_length zeroN_ok]
theorem rt_set1 {w : World} {g : Nat} {ty : TypeId} {a b : Int} {x y z : List Nat} (hx : x.length = 32) (hz : z.length = 32) (h : w.heap[g]? = some (.cells (rtC (rtOf a b x y)).toArray ty (0, 0))) :
  (w.setCells g 40 (dgC z)).heap[g]? = some (.cells (rtC (rtOf a b z y)).toArray ty (0, 0)) ∧ ∀ (B : Nat) (a : World), Below B a w → B ≤ g → Below B a (w.setCells g 40 (dgC z)) := by
 have e : ∀ u : List Nat, rtC (rtOf a b u y) = rtPre a b ++ (dgC u ++ (dgC y ++ (dgC zeroD ++ [.int .i64 0, .int .i64 0]))) := fun u => by unfold rtC rtOf rtPre; rw [List.append_assoc]
 have h2 := setCells_row g ty (dgC y ++ (dgC zeroD ++ [.int .i64 0, .int .i64 0])) (dgC z) (rtPre a b) (dgC x) w (by rw [dgC_length, dgC_length, hx, hz]) (by rw [← e]; exact h)
 rw [rtPre_len, ← e] at h2
 exact h2
theorem rt_set2 {w : World} {g : Nat} {ty : TypeId} {a b : Int} {x y z : List Nat} (hx : x.length = 32) (hy : y.length = 32) (hz : z.length = 32) (h : w.heap[g]? = some (.cells (rtC (rtOf a b x y)).toArray ty (0, 0))) :
  (w.setCells g 72 (dgC z)).heap[g]? = some (.cells (rtC (rtOf a b x z)).toArray ty (0, 0)) ∧ ∀ (B : Nat) (a : World), Below B a w → B ≤ g → Below B a (w.setCells g 72 (dgC z)) := by
 have e : ∀ u : List Nat, rtC (rtOf a b x u) = (rtPre a b ++ dgC x) ++ (dgC u ++ (dgC zeroD ++ [.int .i64 0, .int .i64 0])) := fun u => by unfold rtC rtOf rtPre; rw [List.append_assoc, List.append_assoc]
 have h2 := setCells_row g ty (dgC zeroD ++ [.int .i64 0, .int .i64 0]) (dgC z) (rtPre a b ++ dgC x) (dgC y) w (by rw [dgC_length, dgC_length, hy, hz]) (by rw [← e]; exact h)
 rw [List.length_append, rtPre_len, dgC_length, hx, ← e] at h2
 exact h2
theorem range_there {w : World} {g o ty : Nat} {cs cells : List Value} (h : w.rangeAt g o cs) (hr : w.heap[g]? = some (.cells cells.toArray ty (0, 0))) : w.there g o cs.length := fun j hj => by
 have := h j _ (List.getElem?_eq_getElem hj)
 exact ⟨by rw [this]; rfl, frozen_of_row _ _ _ _ _ hr⟩
theorem rroot42_any (t : Tr) (p : TrP) (w : World) (h : Hid (TrOk w t p)) :
  Calls Tryz.prog 24 #[trV t p] w fun e w' => e = .returned (.agg (rtC (rtOf (p.n : Nat) (p.n2 : Nat) (lstL t) (lstK t))).toArray) ∧ Below w.heap.size w w' := by
 obtain ⟨X, HX⟩ : ∃ x, Hid (lstL t = x) := ⟨_, hid rfl⟩
 obtain ⟨Y, HY⟩ : ∃ x, Hid (lstK t = x) := ⟨_, hid rfl⟩
 have HXO : Hid (DgOk X) := hid (by rw [← HX.out]; exact lstL_ok t)
 have HYO : Hid (DgOk Y) := hid (by rw [← HY.out]; exact lstK_ok t)
 have HIA : Hid (I64 (p.n : Int) ∧ I64 (p.n2 : Int)) := hid (by have h1 := h.out.mn; have h2 := h.out.mc; unfold I64; unfold maxLen at h1 h2; omega)
 have HK0 : Hid (RtOk (rtOf (p.n : Nat) (p.n2 : Nat) zeroD zeroD)) := hid (rtOf_ok HIA.out.1 HIA.out.2 zeroD_ok zeroD_ok)
 have HK1 : Hid (RtOk (rtOf (p.n : Nat) (p.n2 : Nat) X zeroD)) := hid (rtOf_ok HIA.out.1 HIA.out.2 HXO.out zeroD_ok)
 have HK2 : Hid (RtOk (rtOf (p.n : Nat) (p.n2 : Nat) X Y)) := hid (rtOf_ok HIA.out.1 HIA.out.2 HXO.out HYO.out)
 have HRI0 := hid (rtC_info HK0.out)
 have HRI2 := hid (rtC_info HK2.out)
 have HRS0 : Hid ((Tryz.zeroCells43 : Array Value).size = (rtC (rtOf (p.n : Nat) (p.n2 : Nat) zeroD zeroD)).toArray.size) := hid (by rw [rtZ_size]; simp [rtC, rtOf, ndC_length zeroN_ok, dgC_len32 zeroD_ok])
 have HRS2 : Hid ((Tryz.zeroCells43 : Array Value).size = (rtC (rtOf (p.n : Nat) (p.n2 : Nat) X Y)).toArray.size) := hid (by rw [rtZ_size]; simp [rtC, rtOf, ndC_length zeroN_ok, dgC_len32 HXO.out, dgC_len32 HYO.out, dgC_len32 zeroD_ok])
 have HIX := hid (dgC_info HXO.out)
 have HIY := hid (dgC_info HYO.out)
 have HIT := hid (trV_info t p h.out.len)
 rw [HX.out, HY.out]
 have hb0 := ((Below.refl _ w).alloc (Nat.le_refl _) (.cells (trC t p).toArray 27)).alloc (by simp) (.cells Tryz.zeroCells43 43)
 have hr0 := (Below.heap_alloc (w.alloc (.cells (trC t p).toArray 27)) (.cells Tryz.zeroCells43 43) w.heap.size (by simp)).trans (heap_alloc_new w (.cells (trC t p).toArray 27))
 have hr1 := heap_alloc_new (w.alloc (.cells (trC t p).toArray 27)) (.cells Tryz.zeroCells43 43)
 rw [World.size_alloc] at hr1
 obtain ⟨VA, HVA⟩ : ∃ V, Hid ((w.alloc (.cells (trC t p).toArray 27)).alloc (.cells Tryz.zeroCells43 43) = V) := ⟨_, hid rfl⟩
 rw [HVA.out] at hb0 hr0 hr1
 have HB0 := hid hb0
 have RT0 := hid hr0
 have RZ0 := hid hr1
 have KO0 := hid (h.out.below hb0)
 have HTB : Hid (w.heap.size < VA.heap.size ∧ w.heap.size + 1 < VA.heap.size) := hid ⟨(Array.getElem?_eq_some_iff.1 hr0).1, (Array.getElem?_eq_some_iff.1 hr1).1⟩
 have HVS : Hid (w.heap.size ≤ VA.heap.size) := hid hb0.size
 have k1 : VA.cell? ⟨w.heap.size, 4, none⟩ = some (.slice p.A p.n p.c) := by rw [cell_of_row _ _ _ _ _ _ hr0]; rfl
 have k2 : VA.cell? ⟨w.heap.size, 5, none⟩ = some (.slice p.A2 p.n2 p.c2) := by rw [cell_of_row _ _ _ _ _ _ hr0]; rfl
 clear hb0 hr0 hr1
 rw [show trV t p = .agg (trC t p).toArray from rfl]
 go_enter Tryz.func24, Tryz.ntmps24
 obtain ⟨V1, HV1, hw, hb⟩ := lay_row VA 43 Tryz.zeroCells43 (rtC (rtOf (p.n : Nat) (p.n2 : Nat) zeroD zeroD)).toArray
 have HB2 := hid (HB0.out.trans (hb.mono HB0.out.size))
 have RT2 := hid (row_kept RT0.out hb)
 have RZ2 := hid (row_kept RZ0.out hb)
 have KO2 := hid (KO0.out.below hb)
 have RN1 := hid hw
 clear hw hb HB0 RT0 RZ0 KO0
 go_wp2_with (first | (rw [HVA.out]) | (refine wpList_build_rt0 rfl (.tmp 6) (.tmp 9) rfl (p.n : Nat) (p.n2 : Nat) rfl rfl ?_) | (refine wpList_store_row rfl 43 (.tmp 3) (.tmp 10) rfl VA.heap.size (rtC (rtOf (p.n : Nat) (p.n2 : Nat) zeroD zeroD)).toArray rfl rfl 43 _ (heap_alloc_new VA _) HRI0.out HRS0.out (rtC_one _) ?_; rw [HV1.out]) | (refine wpList_load_row rfl 27 (.tmp 1) rfl (w.heap.size) rfl 27 _ (0, 0) _ RT2.out Tryz.underlying27 rfl HIT.out ?_))
 clear k1 k2
 rw [show Value.agg (trC t p).toArray = trV t p from rfl]
 refine (rlisted_any t p _ KO2).mono ?_
 rintro e U3 ⟨rfl, hq⟩
 rw [HX.out, dgV_agg X]
 have HB4 := hid (HB2.out.trans (hq.mono HB2.out.size))
 have RT4 := hid (row_kept RT2.out hq)
 have RZ4 := hid (row_kept RZ2.out hq)
 have RN4 := hid (row_kept RN1.out hq)
 have KO4 := hid (KO2.out.below hq)
 clear hq HB2 RT2 RZ2 RN1 KO2
 have HTH := hid (range_there (rt_listed HK0.out RN4.out) RN4.out)
 rw [dgC_len32 HK0.out.listed] at HTH
 have hs := rt_set1 zeroD_ok.len HXO.out.len RN4.out
 obtain ⟨W20, HW20⟩ : ∃ V, Hid (U3.setCells VA.heap.size 40 (dgC X) = V) := ⟨_, hid rfl⟩
 rw [HW20.out] at hs
 have hbk : Below VA.heap.size U3 W20 := hs.2 VA.heap.size U3 (Below.refl _ _) (Nat.le_refl _)
 have hnew := hs.1
 clear hs
 have RTx20 := hid ((hbk.block w.heap.size HTB.out.1).trans RT4.out)
 have RZx20 := hid ((hbk.block (w.heap.size + 1) HTB.out.2).trans RZ4.out)
 have HBx20 := hid (HB4.out.trans (hbk.mono HVS.out))
 have KOx20 := hid (h.out.below HBx20.out)
 have RNx20 := hid hnew
 clear hnew hbk
 go_wp2_with (first | (refine wpList_store_mid rfl 25 (.tmp 16) (.tmp 14) rfl (VA.heap.size) 40 (dgC X).toArray rfl rfl (by rw [← dgC_size HXO.out]; exact HTH.out) HIX.out (dgC_one _) ?_; rw [HW20.out]) | (refine wpList_load_row rfl 27 (.tmp 1) rfl (w.heap.size) rfl 27 _ (0, 0) _ RTx20.out Tryz.underlying27 rfl HIT.out ?_))
 clear HTH
 rw [show Value.agg (trC t p).toArray = trV t p from rfl]
 refine (rclaimed_any t p _ KOx20).mono ?_
 rintro e U5 ⟨rfl, hq⟩
 rw [HY.out, dgV_agg Y]
 have HB6 := hid (HBx20.out.trans (hq.mono HBx20.out.size))
 have RT6 := hid (row_kept RTx20.out hq)
 have RZ6 := hid (row_kept RZx20.out hq)
 have RN6 := hid (row_kept RNx20.out hq)
 have KO6 := hid (KOx20.out.below hq)
 clear hq HBx20 RTx20 RZx20 RNx20 KOx20
 have HTH := hid (range_there (rt_claimed HK1.out RN6.out) RN6.out)
 rw [dgC_len32 HK1.out.claimed] at HTH
 have hs := rt_set2 HXO.out.len zeroD_ok.len HYO.out.len RN6.out
 obtain ⟨W30, HW30⟩ : ∃ V, Hid (U5.setCells VA.heap.size 72 (dgC Y) = V) := ⟨_, hid rfl⟩
 rw [HW30.out] at hs
 have hbk : Below VA.heap.size U5 W30 := hs.2 VA.heap.size U5 (Below.refl _ _) (Nat.le_refl _)
 have hnew := hs.1
 clear hs
 have RTx30 := hid ((hbk.block w.heap.size HTB.out.1).trans RT6.out)
 have RZx30 := hid ((hbk.block (w.heap.size + 1) HTB.out.2).trans RZ6.out)
 have HBx30 := hid (HB6.out.trans (hbk.mono HVS.out))
 have KOx30 := hid (h.out.below HBx30.out)
 have RNx30 := hid hnew
 clear hnew hbk
 go_wp2_with (first | (refine wpList_store_mid rfl 25 (.tmp 22) (.tmp 20) rfl (VA.heap.size) 72 (dgC Y).toArray rfl rfl (by rw [← dgC_size HYO.out]; exact HTH.out) HIY.out (dgC_one _) ?_; rw [HW30.out]) | (refine wpList_load_row rfl 43 (.tmp 3) rfl (VA.heap.size) rfl 43 _ (0, 0) _ RNx30.out Tryz.underlying43 rfl HRI2.out ?_) | (refine wpList_store_row rfl 43 (.tmp 2) (.tmp 23) rfl (w.heap.size + 1) (rtC (rtOf (p.n : Nat) (p.n2 : Nat) X Y)).toArray rfl rfl 43 _ RZx30.out HRI2.out HRS2.out (rtC_one _) ?_))
 refine bodyPost_ret (results_cell_row rfl _ _ (w.heap.size + 1) 43 _ (0, 0) _ rfl (setRow_heap W30 (w.heap.size + 1) _ _ _ _ RZx30.out) Tryz.underlying43 rfl HRI2.out) rfl ?_
 exact ⟨rfl, below_setRow HBx30.out (Nat.le_succ _) _⟩
theorem ownD_setRow {w : World} {base B : Nat} {A : Option Addr} {n c : Nat} {ls : List Dg} (hB : B < base) (h : OwnD w base (.slice A n c) ls) (ho : ∀ x ∈ ls, DgOk x) (cs : Array Value) : InD (w.setRow B cs) A n c ls := by
 have h2 : OwnD (w.setRow B cs) base (.slice A n c) ls := h.kept (fun g hg => setRow_other w B g cs (by have := (h.block g hg).1; omega))
 obtain ⟨A', n', c', e, hi, _⟩ := h2.slice ho
 cases e; exact hi
theorem rPath02_own (ls : List Dg) (A : Option Addr) (n c : Nat) (i : Nat) (w : World) (hn : n ≤ 100000) (hin : i < n) (h : Hid (InD w A n c ls)) :
  Calls Tryz.prog 61 #[.slice A n c, .int .i64 (i : Nat)] w fun e w' => ∃ A' n' c', e = .returned (.tuple #[.slice A' n' c', .int .i64 0]) ∧ OwnD w' w.heap.size (.slice A' n' c') (pathD ls i) ∧ Below w.heap.size w w' := by
 have d0 : decide ((i : Int) < 0) = false := dQ (by omega)
 have d1 : decide ((n : Int) ≤ (i : Int)) = false := dQ (by omega)
 have d11 : decide (n ≤ i) = false := dQ (by omega)
 go_enter Tryz.func61, Tryz.ntmps61
 go_wp2_with fail
 refine (rpath02_any n ls A n c i _ (Nat.le_refl _) (by omega) hn h hin).mono ?_
 rintro e W2 ⟨v2, rfl, ho, hq⟩
 obtain ⟨A2, n2, c2, rfl⟩ := ho.form
 have HO := hid ho
 have HB2 := hid hq
 clear ho hq
 go_wp2_with fail
 go_ret2
 exact ⟨_, _, _, rfl, HO.out, HB2.out⟩
end Go.Proofs.YtmfmgeapecapiaaGreatDoor
