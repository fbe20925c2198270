/- sizarlaw42.collide. Two climbs to one root: the same leaf and the same path, or two inputs with one hash. Plain functions. -/
import Derived.Test.YtmfmgeapecapiaaDoorDT15
import Derived.Lib.SlBytesRow
import Derived.Test.YtmfmgeapecapiaaDoorDT2
namespace Go.Proofs.YtmfmgeapecapiaaDoor
open Go.RowKit SzSha SzTree
set_option linter.unusedVariables false
set_option maxRecDepth 100000
/-- a string out of bytes -/
def bstr (l : List Nat) : ByteArray := ⟨(l.map UInt8.ofNat).toArray⟩
theorem bstr_size (l : List Nat) : (bstr l).size = l.length := by simp [bstr, ByteArray.size]
theorem strL_bstr {l : List Nat} (h : Bytes l) : strL (bstr l) = l := by
  unfold strL bstr
  simp only [List.map_map]
  conv => rhs; rw [← List.map_id l]
  refine List.map_congr_left fun x hx => ?_
  have := h x hx
  simp [Nat.mod_eq_of_lt this]
theorem conv_str {P : Program} {w : World} {src dst e : TypeId} (hs : P.underlying src = some (.slice e)) (he : P.underlying e = some (.int .u8)) (hd : P.underlying dst = some .string) {g off n cap : Nat} {l : List Nat} (hl : l.length = n) (hb : Bytes l) (hr : BytesAt w g off l) :
    (convert src dst (.slice (some ⟨g, off, none⟩) n cap)).run P w = .ok (.string (bstr l)) w := by
  have h := Lib.run_convert_whole (P := P) w src e dst hs he hd g off (bstr l) (fun i hi => by
    have hi' : i < l.length := by rw [bstr_size] at hi; exact hi
    rw [hr i hi']
    have e1 : ((bstr l)[i]).toNat = l.getD i 0 := by
      have e2 : strL (bstr l) = l := strL_bstr hb
      have e3 : (strL (bstr l))[i]? = some ((bstr l)[i]).toNat := by
        unfold strL
        rw [List.getElem?_map, Array.getElem?_toList, Array.getElem?_eq_getElem (by exact hi)]; rfl
      rw [e2] at e3
      simp [List.getD_eq_getElem?_getD, e3]
    rw [e1]) cap
  rw [bstr_size, hl] at h
  exact h
theorem bstr_ne {a b : List Nat} (ha : Bytes a) (hb : Bytes b) (h : a ≠ b) : bstr a ≠ bstr b := fun e => h (by rw [← strL_bstr ha, ← strL_bstr hb, e])
/-- a slice of slices of bytes -/
def IsS (w : World) (M : Nat) (v : Value) (xs : List (List Nat)) : Prop := ∃ A c cells, v = .slice A xs.length c ∧ OwnY w M v cells ∧ SlsAt w (fun _ => False) cells xs
theorem IsS.below {w w' : World} {M : Nat} {v : Value} {xs : List (List Nat)} (h : IsS w M v xs) (hb : Below w.heap.size w w') : IsS w' M v xs := by
  obtain ⟨A, c, cells, e, h1, h2⟩ := h
  exact ⟨A, c, cells, e, h1.below hb, h2.below hb⟩
/-- element j of such a slice -/
theorem IsS.at_ {w : World} {M : Nat} {A : Option Addr} {n c : Nat} {xs : List (List Nat)} (h : IsS w M (.slice A n c) xs) {j : Nat} {x : List Nat} (hx : xs[j]? = some x) : ∃ g ga ca, A = some ⟨g, 0, none⟩ ∧ n = xs.length ∧ n ≤ c ∧ g < w.heap.size ∧ w.cell? ⟨g, j, none⟩ = some (.slice (some ⟨ga, 0, none⟩) x.length ca) ∧ x.length ≤ ca ∧ Bytes x ∧ ga < w.heap.size ∧ BytesAt w ga 0 x := by
  obtain ⟨A', c', cells, e, h1, h2⟩ := h
  cases e
  have hj : j < cells.length := by rw [h2.len]; exact (List.getElem?_eq_some_iff.1 hx).1
  obtain ⟨g, rfl, _, hg, hn, hc, hcell⟩ := h1.cell hj
  obtain ⟨ga, na, ca, e1, e2, e3, e4, e5, _, e6⟩ := h2.at_ j x hx
  subst e2
  exact ⟨g, ga, ca, rfl, rfl, hc, hg, by rw [hcell, e1], e3, e4, e5, e6⟩
abbrev LL := List (List Nat)
/-- two inputs with one hash -/
def hitN (XS YS : List (List Nat)) (i : Nat) : Prop := ∃ a b, XS[i]? = some a ∧ YS[i]? = some b ∧ a ≠ b ∧ tagged (if i = 0 then leafT else nodeT) a = tagged (if i = 0 then leafT else nodeT) b
def wC4 (M : Nat) (As : Option Addr) (m : Nat) (cs : Nat) (A2 : Option Addr) (c2 : Nat) (A3 : Option Addr) (c3 : Nat) (d : List Nat) (e : List Nat) (XS : LL) (YS : LL) : Nat → Value → World → Prop
  | 0, fv, _ => fv = dgV d
  | 1, fv, _ => fv = Value.slice As m cs
  | 2, fv, _ => fv = Value.slice A2 m c2
  | 3, fv, fw => IsS fw M fv XS
  | 4, fv, _ => fv = dgV e
  | 5, fv, _ => fv = Value.slice As m cs
  | 6, fv, _ => fv = Value.slice A3 m c3
  | 7, fv, fw => IsS fw M fv YS
  | 8, fv, fw => IsS fw M fv XS
  | 9, fv, fw => IsS fw M fv YS
  | _, _, _ => True
theorem wC4_below {M : Nat} {As : Option Addr} {m : Nat} {cs : Nat} {A2 : Option Addr} {c2 : Nat} {A3 : Option Addr} {c3 : Nat} {d : List Nat} {e : List Nat} {XS : LL} {YS : LL} {w w' : World} (hb : Below w.heap.size w w') : ∀ j v, wC4 M As m cs A2 c2 A3 c3 d e XS YS j v w → wC4 M As m cs A2 c2 A3 c3 d e XS YS j v w'
  | 0, v, h => h
  | 1, v, h => h
  | 2, v, h => h
  | 3, v, h => h.below hb
  | 4, v, h => h
  | 5, v, h => h
  | 6, v, h => h
  | 7, v, h => h.below hb
  | 8, v, h => h.below hb
  | 9, v, h => h.below hb
  | n + 10, v, h => trivial
def wE0 (j : Nat) (lx0 : Nat) (gx : Nat) (cx : Nat) (gy : Nat) (cy : Nat) (ga : Nat) (na : Nat) (ca : Nat) (gb : Nat) (nb : Nat) (cb : Nat) (sA : ByteArray) (sB : ByteArray) (hA : List Nat) (hB : List Nat) (hh : Bool) : Nat → Value → World → Prop
  | 0, fv, _ => fv = Value.int .i64 (j : Nat)
  | 1, fv, _ => fv = Value.slice (some ⟨gy, 0, none⟩) (lx0 + 1) cy
  | 2, fv, _ => fv = Value.int .i64 ((lx0 : Int) + 1)
  | 3, fv, _ => fv = Value.bool true
  | 4, fv, _ => fv = Value.bool true
  | 5, fv, _ => fv = Value.slice (some ⟨gx, 0, none⟩) (lx0 + 1) cx
  | 6, fv, _ => fv = Value.int .i64 (j : Nat)
  | 7, fv, _ => fv = Value.pointer (some ⟨gx, j, none⟩)
  | 8, fv, _ => fv = Value.slice (some ⟨ga, 0, none⟩) na ca
  | 9, fv, _ => fv = Value.string sA
  | 10, fv, _ => fv = Value.slice (some ⟨gy, 0, none⟩) (lx0 + 1) cy
  | 11, fv, _ => fv = Value.int .i64 (j : Nat)
  | 12, fv, _ => fv = Value.pointer (some ⟨gy, j, none⟩)
  | 13, fv, _ => fv = Value.slice (some ⟨gb, 0, none⟩) nb cb
  | 14, fv, _ => fv = Value.string sB
  | 15, fv, _ => fv = Value.bool false
  | 16, fv, _ => fv = Value.bool false
  | 17, fv, _ => fv = Value.bool false
  | 18, fv, _ => fv = undef
  | 19, fv, _ => fv = undef
  | 20, fv, _ => fv = undef
  | 21, fv, _ => fv = undef
  | 22, fv, _ => fv = undef
  | 23, fv, _ => fv = undef
  | 24, fv, _ => fv = undef
  | 25, fv, _ => fv = undef
  | 26, fv, _ => fv = undef
  | 27, fv, _ => fv = undef
  | 28, fv, _ => fv = undef
  | 29, fv, _ => fv = undef
  | 30, fv, _ => fv = undef
  | 31, fv, _ => fv = Value.bool false
  | _, _, _ => True
def wE1 (j : Nat) (lx0 : Nat) (gx : Nat) (cx : Nat) (gy : Nat) (cy : Nat) (ga : Nat) (na : Nat) (ca : Nat) (gb : Nat) (nb : Nat) (cb : Nat) (sA : ByteArray) (sB : ByteArray) (hA : List Nat) (hB : List Nat) (hh : Bool) : Nat → Value → World → Prop
  | 0, fv, _ => fv = Value.int .i64 (j : Nat)
  | 1, fv, _ => fv = Value.slice (some ⟨gy, 0, none⟩) (lx0 + 1) cy
  | 2, fv, _ => fv = Value.int .i64 ((lx0 : Int) + 1)
  | 3, fv, _ => fv = Value.bool true
  | 4, fv, _ => fv = Value.bool true
  | 5, fv, _ => fv = Value.slice (some ⟨gx, 0, none⟩) (lx0 + 1) cx
  | 6, fv, _ => fv = Value.int .i64 (j : Nat)
  | 7, fv, _ => fv = Value.pointer (some ⟨gx, j, none⟩)
  | 8, fv, _ => fv = Value.slice (some ⟨ga, 0, none⟩) na ca
  | 9, fv, _ => fv = Value.string sA
  | 10, fv, _ => fv = Value.slice (some ⟨gy, 0, none⟩) (lx0 + 1) cy
  | 11, fv, _ => fv = Value.int .i64 (j : Nat)
  | 12, fv, _ => fv = Value.pointer (some ⟨gy, j, none⟩)
  | 13, fv, _ => fv = Value.slice (some ⟨gb, 0, none⟩) nb cb
  | 14, fv, _ => fv = Value.string sB
  | 15, fv, _ => fv = Value.bool false
  | 16, fv, _ => fv = Value.bool false
  | 17, fv, _ => fv = Value.bool false
  | 18, fv, _ => fv = undef
  | 19, fv, _ => fv = undef
  | 20, fv, _ => fv = undef
  | 21, fv, _ => fv = undef
  | 22, fv, _ => fv = undef
  | 23, fv, _ => fv = undef
  | 24, fv, _ => fv = undef
  | 25, fv, _ => fv = undef
  | 26, fv, _ => fv = undef
  | 27, fv, _ => fv = undef
  | 28, fv, _ => fv = undef
  | 29, fv, _ => fv = undef
  | 30, fv, _ => fv = undef
  | 31, fv, _ => fv = Value.bool false
  | _, _, _ => True
def wN0 (j : Nat) (lx0 : Nat) (gx : Nat) (cx : Nat) (gy : Nat) (cy : Nat) (ga : Nat) (na : Nat) (ca : Nat) (gb : Nat) (nb : Nat) (cb : Nat) (sA : ByteArray) (sB : ByteArray) (hA : List Nat) (hB : List Nat) (hh : Bool) : Nat → Value → World → Prop
  | 0, fv, _ => fv = Value.int .i64 (j : Nat)
  | 1, fv, _ => fv = Value.slice (some ⟨gy, 0, none⟩) (lx0 + 1) cy
  | 2, fv, _ => fv = Value.int .i64 ((lx0 : Int) + 1)
  | 3, fv, _ => fv = Value.bool true
  | 4, fv, _ => fv = Value.bool true
  | 5, fv, _ => fv = Value.slice (some ⟨gx, 0, none⟩) (lx0 + 1) cx
  | 6, fv, _ => fv = Value.int .i64 (j : Nat)
  | 7, fv, _ => fv = Value.pointer (some ⟨gx, j, none⟩)
  | 8, fv, _ => fv = Value.slice (some ⟨ga, 0, none⟩) na ca
  | 9, fv, _ => fv = Value.string sA
  | 10, fv, _ => fv = Value.slice (some ⟨gy, 0, none⟩) (lx0 + 1) cy
  | 11, fv, _ => fv = Value.int .i64 (j : Nat)
  | 12, fv, _ => fv = Value.pointer (some ⟨gy, j, none⟩)
  | 13, fv, _ => fv = Value.slice (some ⟨gb, 0, none⟩) nb cb
  | 14, fv, _ => fv = Value.string sB
  | 15, fv, _ => fv = Value.bool true
  | 16, fv, _ => fv = Value.bool true
  | 17, fv, _ => fv = Value.bool true
  | 18, fv, _ => fv = Value.string leafTag
  | 19, fv, _ => fv = Value.slice (some ⟨gx, 0, none⟩) (lx0 + 1) cx
  | 20, fv, _ => fv = Value.int .i64 (j : Nat)
  | 21, fv, _ => fv = Value.pointer (some ⟨gx, j, none⟩)
  | 22, fv, _ => fv = Value.slice (some ⟨ga, 0, none⟩) na ca
  | 23, fv, _ => fv = dgV hA
  | 24, fv, _ => fv = Value.string leafTag
  | 25, fv, _ => fv = Value.slice (some ⟨gy, 0, none⟩) (lx0 + 1) cy
  | 26, fv, _ => fv = Value.int .i64 (j : Nat)
  | 27, fv, _ => fv = Value.pointer (some ⟨gy, j, none⟩)
  | 28, fv, _ => fv = Value.slice (some ⟨gb, 0, none⟩) nb cb
  | 29, fv, _ => fv = dgV hB
  | 30, fv, _ => fv = Value.bool hh
  | 31, fv, _ => fv = Value.bool hh
  | _, _, _ => True
theorem wN0_any {j : Nat} {lx0 : Nat} {gx : Nat} {cx : Nat} {gy : Nat} {cy : Nat} {ga : Nat} {na : Nat} {ca : Nat} {gb : Nat} {nb : Nat} {cb : Nat} {sA : ByteArray} {sB : ByteArray} {hA : List Nat} {hB : List Nat} {hh : Bool} {w w' : World} : ∀ i v, wN0 j lx0 gx cx gy cy ga na ca gb nb cb sA sB hA hB hh i v w → wN0 j lx0 gx cx gy cy ga na ca gb nb cb sA sB hA hB hh i v w'
  | 0, _, h => h
  | 1, _, h => h
  | 2, _, h => h
  | 3, _, h => h
  | 4, _, h => h
  | 5, _, h => h
  | 6, _, h => h
  | 7, _, h => h
  | 8, _, h => h
  | 9, _, h => h
  | 10, _, h => h
  | 11, _, h => h
  | 12, _, h => h
  | 13, _, h => h
  | 14, _, h => h
  | 15, _, h => h
  | 16, _, h => h
  | 17, _, h => h
  | 18, _, h => h
  | 19, _, h => h
  | 20, _, h => h
  | 21, _, h => h
  | 22, _, h => h
  | 23, _, h => h
  | 24, _, h => h
  | 25, _, h => h
  | 26, _, h => h
  | 27, _, h => h
  | 28, _, h => h
  | 29, _, h => h
  | 30, _, h => h
  | 31, _, h => h
  | _ + 32, _, _ => trivial
def wN1 (j : Nat) (lx0 : Nat) (gx : Nat) (cx : Nat) (gy : Nat) (cy : Nat) (ga : Nat) (na : Nat) (ca : Nat) (gb : Nat) (nb : Nat) (cb : Nat) (sA : ByteArray) (sB : ByteArray) (hA : List Nat) (hB : List Nat) (hh : Bool) : Nat → Value → World → Prop
  | 0, fv, _ => fv = Value.int .i64 (j : Nat)
  | 1, fv, _ => fv = Value.slice (some ⟨gy, 0, none⟩) (lx0 + 1) cy
  | 2, fv, _ => fv = Value.int .i64 ((lx0 : Int) + 1)
  | 3, fv, _ => fv = Value.bool true
  | 4, fv, _ => fv = Value.bool true
  | 5, fv, _ => fv = Value.slice (some ⟨gx, 0, none⟩) (lx0 + 1) cx
  | 6, fv, _ => fv = Value.int .i64 (j : Nat)
  | 7, fv, _ => fv = Value.pointer (some ⟨gx, j, none⟩)
  | 8, fv, _ => fv = Value.slice (some ⟨ga, 0, none⟩) na ca
  | 9, fv, _ => fv = Value.string sA
  | 10, fv, _ => fv = Value.slice (some ⟨gy, 0, none⟩) (lx0 + 1) cy
  | 11, fv, _ => fv = Value.int .i64 (j : Nat)
  | 12, fv, _ => fv = Value.pointer (some ⟨gy, j, none⟩)
  | 13, fv, _ => fv = Value.slice (some ⟨gb, 0, none⟩) nb cb
  | 14, fv, _ => fv = Value.string sB
  | 15, fv, _ => fv = Value.bool true
  | 16, fv, _ => fv = Value.bool true
  | 17, fv, _ => fv = Value.bool true
  | 18, fv, _ => fv = Value.string nodeTag
  | 19, fv, _ => fv = Value.slice (some ⟨gx, 0, none⟩) (lx0 + 1) cx
  | 20, fv, _ => fv = Value.int .i64 (j : Nat)
  | 21, fv, _ => fv = Value.pointer (some ⟨gx, j, none⟩)
  | 22, fv, _ => fv = Value.slice (some ⟨ga, 0, none⟩) na ca
  | 23, fv, _ => fv = dgV hA
  | 24, fv, _ => fv = Value.string nodeTag
  | 25, fv, _ => fv = Value.slice (some ⟨gy, 0, none⟩) (lx0 + 1) cy
  | 26, fv, _ => fv = Value.int .i64 (j : Nat)
  | 27, fv, _ => fv = Value.pointer (some ⟨gy, j, none⟩)
  | 28, fv, _ => fv = Value.slice (some ⟨gb, 0, none⟩) nb cb
  | 29, fv, _ => fv = dgV hB
  | 30, fv, _ => fv = Value.bool hh
  | 31, fv, _ => fv = Value.bool hh
  | _, _, _ => True
theorem wN1_any {j : Nat} {lx0 : Nat} {gx : Nat} {cx : Nat} {gy : Nat} {cy : Nat} {ga : Nat} {na : Nat} {ca : Nat} {gb : Nat} {nb : Nat} {cb : Nat} {sA : ByteArray} {sB : ByteArray} {hA : List Nat} {hB : List Nat} {hh : Bool} {w w' : World} : ∀ i v, wN1 j lx0 gx cx gy cy ga na ca gb nb cb sA sB hA hB hh i v w → wN1 j lx0 gx cx gy cy ga na ca gb nb cb sA sB hA hB hh i v w'
  | 0, _, h => h
  | 1, _, h => h
  | 2, _, h => h
  | 3, _, h => h
  | 4, _, h => h
  | 5, _, h => h
  | 6, _, h => h
  | 7, _, h => h
  | 8, _, h => h
  | 9, _, h => h
  | 10, _, h => h
  | 11, _, h => h
  | 12, _, h => h
  | 13, _, h => h
  | 14, _, h => h
  | 15, _, h => h
  | 16, _, h => h
  | 17, _, h => h
  | 18, _, h => h
  | 19, _, h => h
  | 20, _, h => h
  | 21, _, h => h
  | 22, _, h => h
  | 23, _, h => h
  | 24, _, h => h
  | 25, _, h => h
  | 26, _, h => h
  | 27, _, h => h
  | 28, _, h => h
  | 29, _, h => h
  | 30, _, h => h
  | 31, _, h => h
  | _ + 32, _, _ => trivial
set_option maxHeartbeats 32000000 in
theorem collide_yes (d e : List Nat) (i n m : Nat) (ps qs : List Dg) (A2 A3 : Option Addr) (c2 c3 : Nat) (w : World) (hd : Hid (DgOk d)) (he : Hid (DgOk e)) (hin : i < n) (hn : n ≤ 100) (hmi : m ≤ 1000 ∧ (dirsD i n).length = m ∧ ps.length = m ∧ qs.length = m) (hp : Hid (InD w A2 m c2 ps)) (hq : Hid (InD w A3 m c3 qs)) (hT : Hid (Tabs w))
    (hit : ∃ k, hitN (d :: insD (dirsD i n).reverse ps (leafD d)) (e :: insD (dirsD i n).reverse qs (leafD e)) k) :
    Calls Tryd.prog 24 #[dgV d, dgV e, .int .i64 (i : Nat), .int .i64 (n : Nat), .slice A2 m c2, .slice A3 m c3] w fun e w' => e = .returned (.bool true) ∧ Below w.heap.size w w' := by
  have HMI := Lib.hid hmi
  have hm := hmi.1
  obtain ⟨XS, HXS⟩ : ∃ x, Hid (d :: insD (dirsD i n).reverse ps (leafD d) = x) := ⟨_, Lib.hid rfl⟩
  obtain ⟨YS, HYS⟩ : ∃ x, Hid (e :: insD (dirsD i n).reverse qs (leafD e) = x) := ⟨_, Lib.hid rfl⟩
  rw [HXS.out, HYS.out] at hit
  have HIT := Lib.hid hit
  clear hit
  have HLX : Hid (XS.length = m + 1) := Lib.hid (by rw [← HXS.out, List.length_cons, insD_length _ _ _ (by rw [List.length_reverse, hmi.2.1, hmi.2.2.1]), hmi.2.2.1])
  have HLY : Hid (YS.length = m + 1) := Lib.hid (by rw [← HYS.out, List.length_cons, insD_length _ _ _ (by rw [List.length_reverse, hmi.2.1, hmi.2.2.2]), hmi.2.2.2])
  have HRL : Hid ((dirsD i n).reverse.length = m) := Lib.hid (by rw [List.length_reverse]; exact hmi.2.1)
  have HM1 : Hid (m ≤ 1000) := Lib.hid hm
  have HID := Lib.hid (dgC_info hd.out)
  have HIE := Lib.hid (dgC_info he.out)
  have hb0 := (Below.refl _ w).alloc (Nat.le_refl _) (.cells (dgC d).toArray 25)
  have hr0 := heap_alloc_new w (.cells (dgC d).toArray 25)
  have hs0 : (w.alloc (.cells (dgC d).toArray 25)).heap.size = w.heap.size + 1 := by simp
  obtain ⟨W1, HW1⟩ : ∃ V, Hid (w.alloc (.cells (dgC d).toArray 25) = V) := ⟨_, Lib.hid rfl⟩
  rw [HW1.out] at hb0 hr0 hs0
  have hb1 := (Below.refl _ W1).alloc (Nat.le_refl _) (.cells (dgC e).toArray 25)
  have hr1 := heap_alloc_new W1 (.cells (dgC e).toArray 25)
  obtain ⟨W2, HW2⟩ : ∃ V, Hid (W1.alloc (.cells (dgC e).toArray 25) = V) := ⟨_, Lib.hid rfl⟩
  rw [HW2.out] at hb1 hr1
  have HB0 := Lib.hid (hb0.trans (hb1.mono hb0.size))
  have RD0 := Lib.hid (row_kept hr0 hb1)
  have RE0 := Lib.hid hr1
  clear hb0 hr0 hb1 hr1 hs0 hmi hm
  have c1 : decide ((i : Int) < 0) = false := decide_eq_false (by omega)
  have c2 : decide ((n : Int) ≤ (i : Int)) = false := decide_eq_false (by omega)
  have c2n : decide (n ≤ i) = false := decide_eq_false (by omega)
  have c3 : decide ((100 : Int) < (n : Int)) = false := decide_eq_false (by omega)
  have c3n : decide (100 < n) = false := decide_eq_false (by omega)
  rw [dgV_agg d, dgV_agg e]
  go_enter Tryd.func24, Tryd.ntmps24
  go_wp2_with (first | (rw [HW1.out]) | (rw [HW2.out]))
  refine (right_any n i n (Nat.le_refl _) (by omega) hin W2).mono ?_
  rintro e1 W3 ⟨As, ms, cs, rfl, hos, hq3⟩
  obtain rfl : ms = m := by
    rcases hos.2 with ⟨e0, h0⟩ | ⟨g', cap, cur, e0, _⟩
    · rw [rightN_length, HMI.out.2.1] at h0; cases e0; exact h0.symm
    · cases e0; rw [rightN_length, HMI.out.2.1]
  have HOS := Lib.hid (show OwnL W3 W2.heap.size (.slice As ms cs) ((dirsD i n).reverse.map (!·)) from hos)
  have HB3 := Lib.hid (HB0.out.trans (hq3.mono HB0.out.size))
  have RD3 := Lib.hid (row_kept RD0.out hq3)
  have RE3 := Lib.hid (row_kept RE0.out hq3)
  have HP3 := Lib.hid (hp.out.below HB3.out)
  have HQ3 := Lib.hid (hq.out.below HB3.out)
  have HT3 := Lib.hid (hT.out.below HB3.out)
  clear hos hq3 RD0 RE0 HB0 HW1 HW2 c1 c2 c2n c3 c3n
  go_wp2_with fail
  have hd0 := hd
  have he0 := he
  have HC0 := Lib.hid (Below.refl W3.heap.size W3).drew
  refine region_flow3 (by kernel_rfl) (by kernel_rfl) (fun i => Nat.beq i 8 || Nat.beq i 9) (fun i => i) (by kernel_rfl) (fun fx => #[Value.agg (dgC d).toArray, Value.agg (dgC e).toArray, Value.int IntKind.i64 ↑i, Value.int IntKind.i64 ↑n, Value.slice A2 ms c2, Value.slice A3 ms c3, Value.pointer (some { block := w.heap.size, off := 0 }), Value.pointer (some { block := W1.heap.size, off := 0 }), undef, undef, undef, undef, Value.bool false, Value.slice As ms cs, fx 8, fx 9, undef, undef, Value.int IntKind.i64 ↑i, Value.bool false, Value.bool false, Value.int IntKind.i64 ↑i, Value.int IntKind.i64 ↑n, Value.bool false, Value.bool false, Value.bool false, Value.int IntKind.i64 ↑n, Value.bool false, Value.bool false, Value.int IntKind.i64 ↑i, Value.int IntKind.i64 ↑n, Value.slice As ms cs, fx 0, fx 1, fx 2, fx 3, fx 4, fx 5, fx 6, fx 7, undef, undef, undef, undef, undef, undef, undef, undef, undef, undef, undef, undef, undef, undef, undef, undef, undef, undef, undef, undef, undef, undef, undef, undef, undef, undef, undef, undef, undef, undef, undef, undef, undef, undef, undef, undef, undef, undef, undef, undef]) (fun _ => undef) (fun _ _ w' => Below W3.heap.size W3 w') (fun fi fv _ fw => wC4 W3.heap.size As ms cs A2 c2 A3 c3 d e XS YS fi fv fw) HC0.out ?_ ?_
  · refine ⟨?_, ?_, ?_, ?_, ?_, ?_, ?_, ?_, ?_, ?_, trivial⟩
    all_goals intro L fx w' hC hi hcl hdn hd
    · have hrow := row_kept RD3.out hC
      refine wpList_load_row rfl 25 (.tmp 6) rfl (w.heap.size) rfl 25 _ (0, 0) _ hrow Tryd.underlying25 rfl HID.out ?_
      rw [show Value.agg (dgC d).toArray = dgV d from rfl]
      clear hd hrow
      go_wp2_with fail
      exact ⟨_, rfl, hC, rfl, fun _ _ _ _ _ h => h⟩
    · clear hd
      go_wp2_with fail
      exact ⟨_, rfl, hC, rfl, fun _ _ _ _ _ h => h⟩
    · clear hd
      go_wp2_with fail
      exact ⟨_, rfl, hC, rfl, fun _ _ _ _ _ h => h⟩
    · have h0 : fx 0 = dgV d := hd.1 rfl
      have h1 : fx 1 = Value.slice As ms cs := hd.2.1 rfl
      have h2 : fx 2 = Value.slice A2 ms c2 := hd.2.2.1 rfl
      clear hd
      go_wp2_with fail
      refine (inputs_any d (dirsD i n).reverse ps As cs W2.heap.size _ ms _ w' hd0 (Lib.hid (HOS.out.below hC)) HRL (Lib.hid (HP3.out.below hC)) HM1.out (Lib.hid (HT3.out.below hC))).mono ?_
      rintro e2 w2 ⟨A', n', c', cells, rfl, ho, hs, hq2⟩
      rw [HXS.out] at hs
      have hn' : n' = XS.length := by
            rw [← hs.len]
            rcases ho.2 with ⟨e0, h0⟩ | ⟨g', cap, cur, e0, _⟩
            · cases e0; exact h0.symm
            · cases e0; rfl
      have ho2 := ho.low hC.size
      clear ho
      go_wp2_with fail
      subst hn'
      exact ⟨_, by simp only [upd, h0, h1, h2]; rfl, hC.trans (hq2.mono hC.size), ⟨_, _, _, rfl, ho2, hs⟩, fun j v t _ _ h => wC4_below hq2 j v h⟩
    · have hrow := row_kept RE3.out hC
      refine wpList_load_row rfl 25 (.tmp 7) rfl (W1.heap.size) rfl 25 _ (0, 0) _ hrow Tryd.underlying25 rfl HIE.out ?_
      rw [show Value.agg (dgC e).toArray = dgV e from rfl]
      clear hd hrow
      go_wp2_with fail
      exact ⟨_, rfl, hC, rfl, fun _ _ _ _ _ h => h⟩
    · clear hd
      go_wp2_with fail
      exact ⟨_, rfl, hC, rfl, fun _ _ _ _ _ h => h⟩
    · clear hd
      go_wp2_with fail
      exact ⟨_, rfl, hC, rfl, fun _ _ _ _ _ h => h⟩
    · have h4 : fx 4 = dgV e := hd.1 rfl
      have h5 : fx 5 = Value.slice As ms cs := hd.2.1 rfl
      have h6 : fx 6 = Value.slice A3 ms c3 := hd.2.2.1 rfl
      clear hd
      go_wp2_with fail
      refine (inputs_any e (dirsD i n).reverse qs As cs W2.heap.size _ ms _ w' he0 (Lib.hid (HOS.out.below hC)) HRL (Lib.hid (HQ3.out.below hC)) HM1.out (Lib.hid (HT3.out.below hC))).mono ?_
      rintro e2 w2 ⟨A', n', c', cells, rfl, ho, hs, hq2⟩
      rw [HYS.out] at hs
      have hn' : n' = YS.length := by
            rw [← hs.len]
            rcases ho.2 with ⟨e0, h0⟩ | ⟨g', cap, cur, e0, _⟩
            · cases e0; exact h0.symm
            · cases e0; rfl
      have ho2 := ho.low hC.size
      clear ho
      go_wp2_with fail
      subst hn'
      exact ⟨_, by simp only [upd, h4, h5, h6]; rfl, hC.trans (hq2.mono hC.size), ⟨_, _, _, rfl, ho2, hs⟩, fun j v t _ _ h => wC4_below hq2 j v h⟩
    · have H3 := Lib.hid (hd.1 rfl)
      clear hd
      go_wp2_with fail
      exact ⟨fx 3, rfl, hC, H3.out, fun _ _ _ _ _ h => h⟩
    · have H7 := Lib.hid (hd.1 rfl)
      clear hd
      go_wp2_with fail
      exact ⟨fx 7, rfl, hC, H7.out, fun _ _ _ _ _ h => h⟩
  · intro L fo w' hC hS
    have H8 := Lib.hid (hS 8 (by decide) rfl)
    have H9 := Lib.hid (hS 9 (by decide) rfl)
    rename World => W6
    obtain ⟨A8, c8, cel8, e8, _, _⟩ := H8.out
    obtain ⟨A9, c9, cel9, e9, _, _⟩ := H9.out
    have HS8 : Hid (IsS W6 W3.heap.size (.slice A8 (ms + 1) c8) XS) := Lib.hid (by have := H8.out; rw [e8, HLX.out] at this; exact this)
    have HS9 : Hid (IsS W6 W3.heap.size (.slice A9 (ms + 1) c9) YS) := Lib.hid (by have := H9.out; rw [e9, HLY.out] at this; exact this)
    rw [e8, e9, HLX.out, HLY.out]
    have HB6 := Lib.hid (HB3.out.trans (hC.mono HB3.out.size))
    clear hS hC H8 H9 e8 e9 hd0 he0
    go_wp2_with fail
    go_loopw [42] (fun iv wr => ∃ j : Nat, j ≤ ms + 1 ∧ iv = .int .i64 (j : Nat) ∧ Hid (∀ k, k < j → ¬ hitN XS YS k) ∧ Hid (Below W6.heap.size W6 wr)) (fun iv _ => ms + 1 - (intOf iv).toNat)
    case atStart => exact ⟨0, by omega, rfl, Lib.hid (fun k hk => by omega), Lib.hid (Below.refl _ _)⟩
    case round =>
      obtain ⟨j, hj, rfl, HNO, HBw⟩ := hrel
      by_cases hlt : j < ms + 1
      · have hjx : j < XS.length := by rw [HLX.out]; exact hlt
        have hjy : j < YS.length := by rw [HLY.out]; exact hlt
        obtain ⟨a, HA⟩ : ∃ a, Hid (XS[j]? = some a) := ⟨_, Lib.hid (List.getElem?_eq_getElem hjx)⟩
        obtain ⟨b, HB⟩ : ∃ a, Hid (YS[j]? = some a) := ⟨_, Lib.hid (List.getElem?_eq_getElem hjy)⟩
        obtain ⟨gx, ga, ca, rfl, hnx, hcx, hgx, hcellx, hca, hba, hga, hbya⟩ := HS8.out.at_ HA.out
        obtain ⟨gy, gb, cb, rfl, hny, hcy, hgy, hcelly, hcb, hbb, hgb, hbyb⟩ := HS9.out.at_ HB.out
        obtain ⟨lx, HLXE⟩ : ∃ q, Hid (ms + 1 = q) := ⟨_, Lib.hid rfl⟩
        obtain ⟨na, HNA⟩ : ∃ q, Hid (a.length = q) := ⟨_, Lib.hid rfl⟩
        obtain ⟨nb, HNB⟩ : ∃ q, Hid (b.length = q) := ⟨_, Lib.hid rfl⟩
        rw [HNA.out] at hcellx hca
        rw [HNB.out] at hcelly hcb
        obtain ⟨sA, HSA⟩ : ∃ s, Hid (bstr a = s) := ⟨_, Lib.hid rfl⟩
        obtain ⟨sB, HSB⟩ : ∃ s, Hid (bstr b = s) := ⟨_, Lib.hid rfl⟩
        have HCX := Lib.hid ((HBw.out.cell (p := ⟨gx, j, none⟩) hgx).trans hcellx)
        have HCY := Lib.hid ((HBw.out.cell (p := ⟨gy, j, none⟩) hgy).trans hcelly)
        have HYA := Lib.hid (bytesAt_kept hbya (HBw.out.block ga hga))
        have HYB := Lib.hid (bytesAt_kept hbyb (HBw.out.block gb hgb))
        have HGX := Lib.hid (Nat.lt_of_lt_of_le hgx HBw.out.size)
        have HGY := Lib.hid (Nat.lt_of_lt_of_le hgy HBw.out.size)
        have HGA := Lib.hid (Nat.lt_of_lt_of_le hga HBw.out.size)
        have HGB := Lib.hid (Nat.lt_of_lt_of_le hgb HBw.out.size)
        have HBA := Lib.hid hba
        have HBB := Lib.hid hbb
        have HCA := Lib.hid hca
        have HCB := Lib.hid hcb
        have HTw := Lib.hid (hT.out.below (HB6.out.trans (HBw.out.mono HB6.out.size)))
        have HLAS : Hid (na ≤ 2147483648 ∧ nb ≤ 2147483648) := Lib.hid (by
          have hx : ∀ (z : List Nat) (ps : List Dg) (k : Nat) (x : List Nat), DgOk z → (∀ p ∈ ps, DgOk p) → (z :: insD (dirsD i n).reverse ps (leafD z))[k]? = some x → x.length ≤ 2147483648 := fun z ps k x hz hps h => by
            cases k with
            | zero =>
              have e0 : z = x := by simpa using h
              rw [← e0, hz.len]; omega
            | succ k =>
              have h2 : (insD (dirsD i n).reverse ps (leafD z))[k]? = some x := by simpa using h
              rw [(insD_ok _ _ _ hps (leafD_ok z) x (List.mem_of_getElem? h2)).1]; omega
          refine ⟨?_, ?_⟩
          · rw [← HNA.out]; exact hx d ps j a hd.out HP3.out.ok (by rw [HXS.out]; exact HA.out)
          · rw [← HNB.out]; exact hx e qs j b he.out HQ3.out.ok (by rw [HYS.out]; exact HB.out))
        have hms := HM1.out
        have dl : decide ((j : Int) < ((ms : Int) + 1)) = true := decide_eq_true (by omega)
        have dl2 : decide (j < ms + 1) = true := decide_eq_true hlt
        have dl3 : decide (j < lx) = true := by rw [← HLXE.out]; exact dl2
        have dl4 : decide ((j : Int) < (lx : Int)) = true := decide_eq_true (by have := HLXE.out; omega)
        clear hnx hny hcellx hcelly hbya hbyb hca hcb hba hbb hgx hgy hga hgb hjx hjy
        by_cases h0 : j = 0
        · subst h0
          go_wp2_with fail
          by_cases hab : a = b
          · subst hab
            obtain rfl : sA = sB := HSA.out.symm.trans HSB.out
            have HHA : Hid (True) := Lib.hid trivial
            have HC0 := Lib.hid (Below.refl wr.heap.size wr).drew
            refine region_flow3 (by kernel_rfl) (by kernel_rfl) (fun i => Nat.beq i 31) (fun i => i) (by kernel_rfl) (fun fx => #[Value.agg (dgC d).toArray, Value.agg (dgC e).toArray, Value.int IntKind.i64 ↑i, Value.int IntKind.i64 ↑n, Value.slice A2 ms c2, Value.slice A3 ms c3, Value.pointer (some { block := w.heap.size, off := 0 }), Value.pointer (some { block := W1.heap.size, off := 0 }), undef, undef, undef, undef, u12, Value.slice As ms cs, Value.slice (some { block := gx, off := 0 }) (ms + 1) c8, Value.slice (some { block := gy, off := 0 }) (ms + 1) c9, Value.int IntKind.i64 ((0 : Nat) : Int), Value.string { data := #[108, 101, 97, 102] }, Value.int IntKind.i64 ↑i, Value.bool false, Value.bool false, Value.int IntKind.i64 ↑i, Value.int IntKind.i64 ↑n, Value.bool false, Value.bool false, Value.bool false, Value.int IntKind.i64 ↑n, Value.bool false, Value.bool false, Value.int IntKind.i64 ↑i, Value.int IntKind.i64 ↑n, Value.slice As ms cs, fo 0, fo 1, fo 2, fo 3, fo 4, fo 5, fo 6, fo 7, Value.slice (some { block := gx, off := 0 }) (ms + 1) c8, Value.int IntKind.i64 (↑ms + 1), Value.int IntKind.i64 ((0 : Nat) : Int), Value.bool true, Value.int IntKind.i64 ((0 : Nat) : Int), Value.int IntKind.i64 ((0 : Nat) : Int), Value.bool true, fx 0, fx 1, fx 2, fx 3, fx 4, fx 5, fx 6, fx 7, fx 8, fx 9, fx 10, fx 11, fx 12, fx 13, fx 14, fx 15, fx 16, fx 17, fx 18, fx 19, fx 20, fx 21, fx 22, fx 23, fx 24, fx 25, fx 26, fx 27, fx 28, fx 29, fx 30, fx 31, u79]) (fun i => bif Nat.beq i 0 then u47 else bif Nat.beq i 1 then u48 else bif Nat.beq i 2 then u49 else bif Nat.beq i 3 then u50 else bif Nat.beq i 4 then u51 else bif Nat.beq i 5 then u52 else bif Nat.beq i 6 then u53 else bif Nat.beq i 7 then u54 else bif Nat.beq i 8 then u55 else bif Nat.beq i 9 then u56 else bif Nat.beq i 10 then u57 else bif Nat.beq i 11 then u58 else bif Nat.beq i 12 then u59 else bif Nat.beq i 13 then u60 else bif Nat.beq i 14 then u61 else bif Nat.beq i 15 then u62 else bif Nat.beq i 16 then u63 else bif Nat.beq i 17 then u64 else bif Nat.beq i 18 then u65 else bif Nat.beq i 19 then u66 else bif Nat.beq i 20 then u67 else bif Nat.beq i 21 then u68 else bif Nat.beq i 22 then u69 else bif Nat.beq i 23 then u70 else bif Nat.beq i 24 then u71 else bif Nat.beq i 25 then u72 else bif Nat.beq i 26 then u73 else bif Nat.beq i 27 then u74 else bif Nat.beq i 28 then u75 else bif Nat.beq i 29 then u76 else bif Nat.beq i 30 then u77 else bif Nat.beq i 31 then u78 else undef) (fun _ _ w' => Below wr.heap.size wr w') (fun fi fv _ fw => wE0 0 ms gx c8 gy c9 ga na ca gb nb cb sA sA [] [] false fi fv fw) HC0.out ?_ ?_
            · refine ⟨?_, ?_, ?_, ?_, ?_, ?_, ?_, ?_, ?_, ?_, ?_, ?_, ?_, ?_, ?_, ?_, ?_, ?_, ?_, ?_, ?_, ?_, ?_, ?_, ?_, ?_, ?_, ?_, ?_, ?_, ?_, ?_, trivial⟩
              all_goals intro L fx w' hC hi hcl hdn hd
              · clear hd
                go_wp2_with fail
                exact ⟨_, rfl, hC, rfl, fun _ _ _ _ _ h => h⟩
              · clear hd
                go_wp2_with fail
                exact ⟨_, rfl, hC, rfl, fun _ _ _ _ _ h => h⟩
              · have h1 : fx 1 = Value.slice (some ⟨gy, 0, none⟩) (ms + 1) c9 := hd.1 rfl
                clear hd
                go_wp2_with fail
                exact ⟨_, by simp only [upd, h1]; rfl, hC, rfl, fun _ _ _ _ _ h => h⟩
              · have h0 : fx 0 = Value.int .i64 0 := hd.1 rfl
                have h2 : fx 2 = Value.int .i64 ((ms : Int) + 1) := hd.2.1 rfl
                clear hd
                go_wp2_with fail
                exact ⟨_, by simp only [upd, h0, h2]; rfl, hC, rfl, fun _ _ _ _ _ h => h⟩
              · have h3 : fx 3 = Value.bool true := hd.1 rfl
                clear hd
                go_wp2_with fail
                exact ⟨_, by simp only [upd, h3]; rfl, hC, rfl, fun _ _ _ _ _ h => h⟩
              · have h4 : fx 4 = Value.bool true := hd.1 rfl
                clear hd
                go_wp2_with fail
                exact ⟨_, by simp only [upd, h4]; rfl, hC, rfl, fun _ _ _ _ _ h => h⟩
              · have h4 : fx 4 = Value.bool true := hd.1 rfl
                clear hd
                go_wp2_with fail
                exact ⟨_, by simp only [upd, h4]; rfl, hC, rfl, fun _ _ _ _ _ h => h⟩
              · have h5 : fx 5 = Value.slice (some ⟨gx, 0, none⟩) (ms + 1) c8 := hd.1 rfl
                have h6 : fx 6 = Value.int .i64 0 := hd.2.1 rfl
                have h4 : fx 4 = Value.bool true := hd.2.2.1 rfl
                clear hd
                go_wp2_with fail
                exact ⟨_, by simp only [upd, h5, h6, h4]; rfl, hC, rfl, fun _ _ _ _ _ h => h⟩
              · have h7 : fx 7 = Value.pointer (some ⟨gx, 0, none⟩) := hd.1 rfl
                have h4 : fx 4 = Value.bool true := hd.2.1 rfl
                have hcc : w'.cell? ⟨gx, 0, none⟩ = some (.slice (some ⟨ga, 0, none⟩) na ca) := (hC.cell (p := ⟨gx, 0, none⟩) HGX.out).trans HCX.out
                clear hd
                go_wp2_with fail
                exact ⟨_, by simp only [upd, h7, h4]; rfl, hC, rfl, fun _ _ _ _ _ h => h⟩
              · have h8 : fx 8 = Value.slice (some ⟨ga, 0, none⟩) na ca := hd.1 rfl
                have h4 : fx 4 = Value.bool true := hd.2.1 rfl
                have kc := conv_str (P := Tryd.prog) (w := w') (src := 55) (dst := 9) (cap := ca) Tryd.underlying55 Tryd.underlying5 Tryd.underlying9 HNA.out HBA.out (bytesAt_kept HYA.out (hC.block ga HGA.out))
                rw [HSA.out] at kc
                clear hd
                go_wp2_with fail
                exact ⟨_, by simp only [upd, h8, h4]; rfl, hC, rfl, fun _ _ _ _ _ h => h⟩
              · have h4 : fx 4 = Value.bool true := hd.1 rfl
                clear hd
                go_wp2_with fail
                exact ⟨_, by simp only [upd, h4]; rfl, hC, rfl, fun _ _ _ _ _ h => h⟩
              · have h4 : fx 4 = Value.bool true := hd.1 rfl
                clear hd
                go_wp2_with fail
                exact ⟨_, by simp only [upd, h4]; rfl, hC, rfl, fun _ _ _ _ _ h => h⟩
              · have h10 : fx 10 = Value.slice (some ⟨gy, 0, none⟩) (ms + 1) c9 := hd.1 rfl
                have h11 : fx 11 = Value.int .i64 0 := hd.2.1 rfl
                have h4 : fx 4 = Value.bool true := hd.2.2.1 rfl
                clear hd
                go_wp2_with fail
                exact ⟨_, by simp only [upd, h10, h11, h4]; rfl, hC, rfl, fun _ _ _ _ _ h => h⟩
              · have h12 : fx 12 = Value.pointer (some ⟨gy, 0, none⟩) := hd.1 rfl
                have h4 : fx 4 = Value.bool true := hd.2.1 rfl
                have hcc : w'.cell? ⟨gy, 0, none⟩ = some (.slice (some ⟨gb, 0, none⟩) nb cb) := (hC.cell (p := ⟨gy, 0, none⟩) HGY.out).trans HCY.out
                clear hd
                go_wp2_with fail
                exact ⟨_, by simp only [upd, h12, h4]; rfl, hC, rfl, fun _ _ _ _ _ h => h⟩
              · have h13 : fx 13 = Value.slice (some ⟨gb, 0, none⟩) nb cb := hd.1 rfl
                have h4 : fx 4 = Value.bool true := hd.2.1 rfl
                have kc := conv_str (P := Tryd.prog) (w := w') (src := 55) (dst := 9) (cap := cb) Tryd.underlying55 Tryd.underlying5 Tryd.underlying9 HNB.out HBB.out (bytesAt_kept HYB.out (hC.block gb HGB.out))
                rw [HSA.out] at kc
                clear hd
                go_wp2_with fail
                exact ⟨_, by simp only [upd, h13, h4]; rfl, hC, rfl, fun _ _ _ _ _ h => h⟩
              · have h9 : fx 9 = Value.string sA := hd.1 rfl
                have h14 : fx 14 = Value.string sA := hd.2.1 rfl
                have h4 : fx 4 = Value.bool true := hd.2.2.1 rfl
                clear hd
                go_wp2_with fail
                exact ⟨_, by simp only [upd, h9, h14, h4]; rfl, hC, rfl, fun _ _ _ _ _ h => h⟩
              · have h4 : fx 4 = Value.bool true := hd.1 rfl
                have h15 : fx 15 = Value.bool false := hd.2.1 rfl
                clear hd
                go_wp2_with fail
                exact ⟨_, by simp only [upd, h4, h15]; rfl, hC, rfl, fun _ _ _ _ _ h => h⟩
              · have h16 : fx 16 = Value.bool false := hd.1 rfl
                clear hd
                go_wp2_with fail
                exact ⟨_, by simp only [upd, h16]; rfl, hC, rfl, fun _ _ _ _ _ h => h⟩
              · have h17 : fx 17 = Value.bool false := hd.1 rfl
                clear hd
                go_wp2_with fail
                exact ⟨_, by simp only [upd, h17]; rfl, hC, rfl, fun _ _ _ _ _ h => h⟩
              · have h17 : fx 17 = Value.bool false := hd.1 rfl
                clear hd
                go_wp2_with fail
                exact ⟨_, by simp only [upd, h17]; rfl, hC, rfl, fun _ _ _ _ _ h => h⟩
              · have h17 : fx 17 = Value.bool false := hd.1 rfl
                clear hd
                go_wp2_with fail
                exact ⟨_, by simp only [upd, h17]; rfl, hC, rfl, fun _ _ _ _ _ h => h⟩
              · have h19 : fx 19 = undef := hd.1 rfl
                have h20 : fx 20 = undef := hd.2.1 rfl
                have h17 : fx 17 = Value.bool false := hd.2.2.1 rfl
                clear hd
                go_wp2_with fail
                exact ⟨_, by simp only [upd, h19, h20, h17]; rfl, hC, rfl, fun _ _ _ _ _ h => h⟩
              · have h21 : fx 21 = undef := hd.1 rfl
                have h17 : fx 17 = Value.bool false := hd.2.1 rfl
                clear hd
                go_wp2_with fail
                exact ⟨_, by simp only [upd, h21, h17]; rfl, hC, rfl, fun _ _ _ _ _ h => h⟩
              · have h18 : fx 18 = undef := hd.1 rfl
                have h22 : fx 22 = undef := hd.2.1 rfl
                have h17 : fx 17 = Value.bool false := hd.2.2.2.1 rfl
                clear hd
                go_wp2_with fail
                exact ⟨_, by simp only [upd, h18, h22, h17]; rfl, hC, rfl, fun _ _ _ _ _ h => h⟩
              · have h17 : fx 17 = Value.bool false := hd.1 rfl
                clear hd
                go_wp2_with fail
                exact ⟨_, by simp only [upd, h17]; rfl, hC, rfl, fun _ _ _ _ _ h => h⟩
              · have h17 : fx 17 = Value.bool false := hd.1 rfl
                clear hd
                go_wp2_with fail
                exact ⟨_, by simp only [upd, h17]; rfl, hC, rfl, fun _ _ _ _ _ h => h⟩
              · have h17 : fx 17 = Value.bool false := hd.1 rfl
                clear hd
                go_wp2_with fail
                exact ⟨_, by simp only [upd, h17]; rfl, hC, rfl, fun _ _ _ _ _ h => h⟩
              · have h25 : fx 25 = undef := hd.1 rfl
                have h26 : fx 26 = undef := hd.2.1 rfl
                have h17 : fx 17 = Value.bool false := hd.2.2.1 rfl
                clear hd
                go_wp2_with fail
                exact ⟨_, by simp only [upd, h25, h26, h17]; rfl, hC, rfl, fun _ _ _ _ _ h => h⟩
              · have h27 : fx 27 = undef := hd.1 rfl
                have h17 : fx 17 = Value.bool false := hd.2.1 rfl
                clear hd
                go_wp2_with fail
                exact ⟨_, by simp only [upd, h27, h17]; rfl, hC, rfl, fun _ _ _ _ _ h => h⟩
              · have h24 : fx 24 = undef := hd.1 rfl
                have h28 : fx 28 = undef := hd.2.1 rfl
                have h17 : fx 17 = Value.bool false := hd.2.2.2.1 rfl
                clear hd
                go_wp2_with fail
                exact ⟨_, by simp only [upd, h24, h28, h17]; rfl, hC, rfl, fun _ _ _ _ _ h => h⟩
              · have h23 : fx 23 = undef := hd.1 rfl
                have h29 : fx 29 = undef := hd.2.1 rfl
                have h17 : fx 17 = Value.bool false := hd.2.2.1 rfl
                clear hd
                go_wp2_with fail
                exact ⟨_, by simp only [upd, h23, h29, h17]; rfl, hC, rfl, fun _ _ _ _ _ h => h⟩
              · have h17 : fx 17 = Value.bool false := hd.1 rfl
                have h30 : fx 30 = undef := hd.2.1 rfl
                clear hd
                go_wp2_with fail
                exact ⟨_, by simp only [upd, h17, h30]; rfl, hC, rfl, fun _ _ _ _ _ h => h⟩
            · intro L fp w' hC hS
              have H31 := Lib.hid (hS 31 (by decide) rfl)
              rename World => W9
              have h31 : fp 31 = Value.bool false := H31.out
              rw [h31]
              have HB9 := Lib.hid (HBw.out.trans (hC.mono HBw.out.size))
              clear hS hC H31 h31
              have HN2 : Hid (∀ k, k < 0 + 1 → ¬ hitN XS YS k) := Lib.hid (fun k hk => by
                by_cases h : k < 0
                · exact HNO.out k h
                · obtain rfl : k = 0 := by omega
                  rintro ⟨x, y, e1, e2, e3, _⟩
                  rw [HA.out] at e1
                  rw [HB.out] at e2
                  cases e1; cases e2
                  exact e3 rfl)
              go_wp2_with fail
              go_roundw
              case rel => exact ⟨0 + 1, by omega, by go_num, HN2, HB9⟩
              case measure => first | (simp [intOf]; done) | (simp [intOf]; omega)
          · obtain ⟨hA, HHA⟩ : ∃ x, Hid (tagged (strL leafTag) a = x) := ⟨_, Lib.hid rfl⟩
            obtain ⟨hB, HHB⟩ : ∃ x, Hid (tagged (strL leafTag) b = x) := ⟨_, Lib.hid rfl⟩
            obtain ⟨hh, HHH⟩ : ∃ x, Hid ((hA == hB) = x) := ⟨_, Lib.hid rfl⟩
            have HAO : Hid (hA.length = 32 ∧ Bytes hA) := Lib.hid (by rw [← HHA.out]; exact ⟨tagged_length _ _, tagged_bytes _ _⟩)
            have HBO : Hid (hB.length = 32 ∧ Bytes hB) := Lib.hid (by rw [← HHB.out]; exact ⟨tagged_length _ _, tagged_bytes _ _⟩)
            have hss : ¬ sA = sB := by rw [← HSA.out, ← HSB.out]; exact bstr_ne HBA.out HBB.out hab
            have hds : (sA.toList == sB.toList) = false := by
              rw [ByteArray.toList_eq, ByteArray.toList_eq]
              exact beq_false_of_ne (fun h => hss (ByteArray.ext (Array.toList_inj.1 h)))
            have HC0 := Lib.hid (Below.refl wr.heap.size wr).drew
            refine region_flow3 (by kernel_rfl) (by kernel_rfl) (fun i => Nat.beq i 31) (fun i => i) (by kernel_rfl) (fun fx => #[Value.agg (dgC d).toArray, Value.agg (dgC e).toArray, Value.int IntKind.i64 ↑i, Value.int IntKind.i64 ↑n, Value.slice A2 ms c2, Value.slice A3 ms c3, Value.pointer (some { block := w.heap.size, off := 0 }), Value.pointer (some { block := W1.heap.size, off := 0 }), undef, undef, undef, undef, u12, Value.slice As ms cs, Value.slice (some { block := gx, off := 0 }) (ms + 1) c8, Value.slice (some { block := gy, off := 0 }) (ms + 1) c9, Value.int IntKind.i64 ((0 : Nat) : Int), Value.string { data := #[108, 101, 97, 102] }, Value.int IntKind.i64 ↑i, Value.bool false, Value.bool false, Value.int IntKind.i64 ↑i, Value.int IntKind.i64 ↑n, Value.bool false, Value.bool false, Value.bool false, Value.int IntKind.i64 ↑n, Value.bool false, Value.bool false, Value.int IntKind.i64 ↑i, Value.int IntKind.i64 ↑n, Value.slice As ms cs, fo 0, fo 1, fo 2, fo 3, fo 4, fo 5, fo 6, fo 7, Value.slice (some { block := gx, off := 0 }) (ms + 1) c8, Value.int IntKind.i64 (↑ms + 1), Value.int IntKind.i64 ((0 : Nat) : Int), Value.bool true, Value.int IntKind.i64 ((0 : Nat) : Int), Value.int IntKind.i64 ((0 : Nat) : Int), Value.bool true, fx 0, fx 1, fx 2, fx 3, fx 4, fx 5, fx 6, fx 7, fx 8, fx 9, fx 10, fx 11, fx 12, fx 13, fx 14, fx 15, fx 16, fx 17, fx 18, fx 19, fx 20, fx 21, fx 22, fx 23, fx 24, fx 25, fx 26, fx 27, fx 28, fx 29, fx 30, fx 31, u79]) (fun i => bif Nat.beq i 0 then u47 else bif Nat.beq i 1 then u48 else bif Nat.beq i 2 then u49 else bif Nat.beq i 3 then u50 else bif Nat.beq i 4 then u51 else bif Nat.beq i 5 then u52 else bif Nat.beq i 6 then u53 else bif Nat.beq i 7 then u54 else bif Nat.beq i 8 then u55 else bif Nat.beq i 9 then u56 else bif Nat.beq i 10 then u57 else bif Nat.beq i 11 then u58 else bif Nat.beq i 12 then u59 else bif Nat.beq i 13 then u60 else bif Nat.beq i 14 then u61 else bif Nat.beq i 15 then u62 else bif Nat.beq i 16 then u63 else bif Nat.beq i 17 then u64 else bif Nat.beq i 18 then u65 else bif Nat.beq i 19 then u66 else bif Nat.beq i 20 then u67 else bif Nat.beq i 21 then u68 else bif Nat.beq i 22 then u69 else bif Nat.beq i 23 then u70 else bif Nat.beq i 24 then u71 else bif Nat.beq i 25 then u72 else bif Nat.beq i 26 then u73 else bif Nat.beq i 27 then u74 else bif Nat.beq i 28 then u75 else bif Nat.beq i 29 then u76 else bif Nat.beq i 30 then u77 else bif Nat.beq i 31 then u78 else undef) (fun _ _ w' => Below wr.heap.size wr w') (fun fi fv _ fw => wN0 0 ms gx c8 gy c9 ga na ca gb nb cb sA sB hA hB hh fi fv fw) HC0.out ?_ ?_
            · refine ⟨?_, ?_, ?_, ?_, ?_, ?_, ?_, ?_, ?_, ?_, ?_, ?_, ?_, ?_, ?_, ?_, ?_, ?_, ?_, ?_, ?_, ?_, ?_, ?_, ?_, ?_, ?_, ?_, ?_, ?_, ?_, ?_, trivial⟩
              all_goals intro L fx w' hC hi hcl hdn hd
              · clear hd
                go_wp2_with fail
                exact ⟨_, rfl, hC, rfl, fun _ _ _ _ _ h => h⟩
              · clear hd
                go_wp2_with fail
                exact ⟨_, rfl, hC, rfl, fun _ _ _ _ _ h => h⟩
              · have h1 : fx 1 = Value.slice (some ⟨gy, 0, none⟩) (ms + 1) c9 := hd.1 rfl
                clear hd
                go_wp2_with fail
                exact ⟨_, by simp only [upd, h1]; rfl, hC, rfl, fun _ _ _ _ _ h => h⟩
              · have h0 : fx 0 = Value.int .i64 0 := hd.1 rfl
                have h2 : fx 2 = Value.int .i64 ((ms : Int) + 1) := hd.2.1 rfl
                clear hd
                go_wp2_with fail
                exact ⟨_, by simp only [upd, h0, h2]; rfl, hC, rfl, fun _ _ _ _ _ h => h⟩
              · have h3 : fx 3 = Value.bool true := hd.1 rfl
                clear hd
                go_wp2_with fail
                exact ⟨_, by simp only [upd, h3]; rfl, hC, rfl, fun _ _ _ _ _ h => h⟩
              · have h4 : fx 4 = Value.bool true := hd.1 rfl
                clear hd
                go_wp2_with fail
                exact ⟨_, by simp only [upd, h4]; rfl, hC, rfl, fun _ _ _ _ _ h => h⟩
              · have h4 : fx 4 = Value.bool true := hd.1 rfl
                clear hd
                go_wp2_with fail
                exact ⟨_, by simp only [upd, h4]; rfl, hC, rfl, fun _ _ _ _ _ h => h⟩
              · have h5 : fx 5 = Value.slice (some ⟨gx, 0, none⟩) (ms + 1) c8 := hd.1 rfl
                have h6 : fx 6 = Value.int .i64 0 := hd.2.1 rfl
                have h4 : fx 4 = Value.bool true := hd.2.2.1 rfl
                clear hd
                go_wp2_with fail
                exact ⟨_, by simp only [upd, h5, h6, h4]; rfl, hC, rfl, fun _ _ _ _ _ h => h⟩
              · have h7 : fx 7 = Value.pointer (some ⟨gx, 0, none⟩) := hd.1 rfl
                have h4 : fx 4 = Value.bool true := hd.2.1 rfl
                have hcc : w'.cell? ⟨gx, 0, none⟩ = some (.slice (some ⟨ga, 0, none⟩) na ca) := (hC.cell (p := ⟨gx, 0, none⟩) HGX.out).trans HCX.out
                clear hd
                go_wp2_with fail
                exact ⟨_, by simp only [upd, h7, h4]; rfl, hC, rfl, fun _ _ _ _ _ h => h⟩
              · have h8 : fx 8 = Value.slice (some ⟨ga, 0, none⟩) na ca := hd.1 rfl
                have h4 : fx 4 = Value.bool true := hd.2.1 rfl
                have kc := conv_str (P := Tryd.prog) (w := w') (src := 55) (dst := 9) (cap := ca) Tryd.underlying55 Tryd.underlying5 Tryd.underlying9 HNA.out HBA.out (bytesAt_kept HYA.out (hC.block ga HGA.out))
                rw [HSA.out] at kc
                clear hd
                go_wp2_with fail
                exact ⟨_, by simp only [upd, h8, h4]; rfl, hC, rfl, fun _ _ _ _ _ h => h⟩
              · have h4 : fx 4 = Value.bool true := hd.1 rfl
                clear hd
                go_wp2_with fail
                exact ⟨_, by simp only [upd, h4]; rfl, hC, rfl, fun _ _ _ _ _ h => h⟩
              · have h4 : fx 4 = Value.bool true := hd.1 rfl
                clear hd
                go_wp2_with fail
                exact ⟨_, by simp only [upd, h4]; rfl, hC, rfl, fun _ _ _ _ _ h => h⟩
              · have h10 : fx 10 = Value.slice (some ⟨gy, 0, none⟩) (ms + 1) c9 := hd.1 rfl
                have h11 : fx 11 = Value.int .i64 0 := hd.2.1 rfl
                have h4 : fx 4 = Value.bool true := hd.2.2.1 rfl
                clear hd
                go_wp2_with fail
                exact ⟨_, by simp only [upd, h10, h11, h4]; rfl, hC, rfl, fun _ _ _ _ _ h => h⟩
              · have h12 : fx 12 = Value.pointer (some ⟨gy, 0, none⟩) := hd.1 rfl
                have h4 : fx 4 = Value.bool true := hd.2.1 rfl
                have hcc : w'.cell? ⟨gy, 0, none⟩ = some (.slice (some ⟨gb, 0, none⟩) nb cb) := (hC.cell (p := ⟨gy, 0, none⟩) HGY.out).trans HCY.out
                clear hd
                go_wp2_with fail
                exact ⟨_, by simp only [upd, h12, h4]; rfl, hC, rfl, fun _ _ _ _ _ h => h⟩
              · have h13 : fx 13 = Value.slice (some ⟨gb, 0, none⟩) nb cb := hd.1 rfl
                have h4 : fx 4 = Value.bool true := hd.2.1 rfl
                have kc := conv_str (P := Tryd.prog) (w := w') (src := 55) (dst := 9) (cap := cb) Tryd.underlying55 Tryd.underlying5 Tryd.underlying9 HNB.out HBB.out (bytesAt_kept HYB.out (hC.block gb HGB.out))
                rw [HSB.out] at kc
                clear hd
                go_wp2_with fail
                exact ⟨_, by simp only [upd, h13, h4]; rfl, hC, rfl, fun _ _ _ _ _ h => h⟩
              · have h9 : fx 9 = Value.string sA := hd.1 rfl
                have h14 : fx 14 = Value.string sB := hd.2.1 rfl
                have h4 : fx 4 = Value.bool true := hd.2.2.1 rfl
                clear hd
                go_wp2_with fail
                exact ⟨_, by simp only [upd, h9, h14, h4]; rfl, hC, rfl, fun _ _ _ _ _ h => h⟩
              · have h4 : fx 4 = Value.bool true := hd.1 rfl
                have h15 : fx 15 = Value.bool true := hd.2.1 rfl
                clear hd
                go_wp2_with fail
                exact ⟨_, by simp only [upd, h4, h15]; rfl, hC, rfl, fun _ _ _ _ _ h => h⟩
              · have h16 : fx 16 = Value.bool true := hd.1 rfl
                clear hd
                go_wp2_with fail
                exact ⟨_, by simp only [upd, h16]; rfl, hC, rfl, fun _ _ _ _ _ h => h⟩
              · have h17 : fx 17 = Value.bool true := hd.1 rfl
                clear hd
                go_wp2_with fail
                exact ⟨_, by simp only [upd, h17]; rfl, hC, rfl, fun _ _ _ _ _ h => h⟩
              · have h17 : fx 17 = Value.bool true := hd.1 rfl
                clear hd
                go_wp2_with fail
                exact ⟨_, by simp only [upd, h17]; rfl, hC, rfl, fun _ _ _ _ _ h => h⟩
              · have h17 : fx 17 = Value.bool true := hd.1 rfl
                clear hd
                go_wp2_with fail
                exact ⟨_, by simp only [upd, h17]; rfl, hC, rfl, fun _ _ _ _ _ h => h⟩
              · have h19 : fx 19 = Value.slice (some ⟨gx, 0, none⟩) (ms + 1) c8 := hd.1 rfl
                have h20 : fx 20 = Value.int .i64 0 := hd.2.1 rfl
                have h17 : fx 17 = Value.bool true := hd.2.2.1 rfl
                clear hd
                go_wp2_with fail
                exact ⟨_, by simp only [upd, h19, h20, h17]; rfl, hC, rfl, fun _ _ _ _ _ h => h⟩
              · have h21 : fx 21 = Value.pointer (some ⟨gx, 0, none⟩) := hd.1 rfl
                have h17 : fx 17 = Value.bool true := hd.2.1 rfl
                have hcc : w'.cell? ⟨gx, 0, none⟩ = some (.slice (some ⟨ga, 0, none⟩) na ca) := (hC.cell (p := ⟨gx, 0, none⟩) HGX.out).trans HCX.out
                clear hd
                go_wp2_with fail
                exact ⟨_, by simp only [upd, h21, h17]; rfl, hC, rfl, fun _ _ _ _ _ h => h⟩
              · have h18 : fx 18 = Value.string leafTag := hd.1 rfl
                have h22 : fx 22 = Value.slice (some ⟨ga, 0, none⟩) na ca := hd.2.1 rfl
                have h17 : fx 17 = Value.bool true := hd.2.2.2.1 rfl
                clear hd
                go_wp2_with fail
                refine (tagged_any leafTag (some ⟨ga, 0, none⟩) na ca a w' (by decide) HNA HCA.out (fun h => by cases h) HLAS.out.1 HBA (Lib.hid (HTw.out.below hC)) (Lib.hid (fun _ => ⟨_, 0, rfl, Nat.lt_of_lt_of_le HGA.out hC.size, bytesAt_kept HYA.out (hC.block ga HGA.out)⟩))).mono ?_
                rintro e2 w2 ⟨rfl, hq2⟩
                rw [HHA.out]
                go_wp2_with fail
                exact ⟨_, by simp only [upd, h18, h22, h17]; rfl, hC.trans (hq2.mono hC.size), rfl, fun j v t _ _ h => wN0_any j v h⟩
              · have h17 : fx 17 = Value.bool true := hd.1 rfl
                clear hd
                go_wp2_with fail
                exact ⟨_, by simp only [upd, h17]; rfl, hC, rfl, fun _ _ _ _ _ h => h⟩
              · have h17 : fx 17 = Value.bool true := hd.1 rfl
                clear hd
                go_wp2_with fail
                exact ⟨_, by simp only [upd, h17]; rfl, hC, rfl, fun _ _ _ _ _ h => h⟩
              · have h17 : fx 17 = Value.bool true := hd.1 rfl
                clear hd
                go_wp2_with fail
                exact ⟨_, by simp only [upd, h17]; rfl, hC, rfl, fun _ _ _ _ _ h => h⟩
              · have h25 : fx 25 = Value.slice (some ⟨gy, 0, none⟩) (ms + 1) c9 := hd.1 rfl
                have h26 : fx 26 = Value.int .i64 0 := hd.2.1 rfl
                have h17 : fx 17 = Value.bool true := hd.2.2.1 rfl
                clear hd
                go_wp2_with fail
                exact ⟨_, by simp only [upd, h25, h26, h17]; rfl, hC, rfl, fun _ _ _ _ _ h => h⟩
              · have h27 : fx 27 = Value.pointer (some ⟨gy, 0, none⟩) := hd.1 rfl
                have h17 : fx 17 = Value.bool true := hd.2.1 rfl
                have hcc : w'.cell? ⟨gy, 0, none⟩ = some (.slice (some ⟨gb, 0, none⟩) nb cb) := (hC.cell (p := ⟨gy, 0, none⟩) HGY.out).trans HCY.out
                clear hd
                go_wp2_with fail
                exact ⟨_, by simp only [upd, h27, h17]; rfl, hC, rfl, fun _ _ _ _ _ h => h⟩
              · have h24 : fx 24 = Value.string leafTag := hd.1 rfl
                have h28 : fx 28 = Value.slice (some ⟨gb, 0, none⟩) nb cb := hd.2.1 rfl
                have h17 : fx 17 = Value.bool true := hd.2.2.2.1 rfl
                clear hd
                go_wp2_with fail
                refine (tagged_any leafTag (some ⟨gb, 0, none⟩) nb cb b w' (by decide) HNB HCB.out (fun h => by cases h) HLAS.out.2 HBB (Lib.hid (HTw.out.below hC)) (Lib.hid (fun _ => ⟨_, 0, rfl, Nat.lt_of_lt_of_le HGB.out hC.size, bytesAt_kept HYB.out (hC.block gb HGB.out)⟩))).mono ?_
                rintro e2 w2 ⟨rfl, hq2⟩
                rw [HHB.out]
                go_wp2_with fail
                exact ⟨_, by simp only [upd, h24, h28, h17]; rfl, hC.trans (hq2.mono hC.size), rfl, fun j v t _ _ h => wN0_any j v h⟩
              · have h23 : fx 23 = dgV hA := hd.1 rfl
                have h29 : fx 29 = dgV hB := hd.2.1 rfl
                have h17 : fx 17 = Value.bool true := hd.2.2.1 rfl
                clear hd
                dsimp only
                rw [h17]
                refine wpList_unguard rfl ?_
                refine wpList_eql_dg rfl (.tmp 70) (.tmp 76) _ rfl hA hB h23 h29 HAO.out.1 HBO.out.1 HAO.out.2 HBO.out.2 ?_
                rw [HHH.out]
                go_wp2_with fail
                exact ⟨_, by first | (simp only [upd, h17, h23, h29]; rfl) | (simp only [upd, h17]; rfl) | (simp only [upd, h17, h23, h29, dgV]; rfl), hC, rfl, fun _ _ _ _ _ h => h⟩
              · have h17 : fx 17 = Value.bool true := hd.1 rfl
                have h30 : fx 30 = Value.bool hh := hd.2.1 rfl
                clear hd
                go_wp2_with fail
                exact ⟨_, by simp only [upd, h17, h30]; rfl, hC, rfl, fun _ _ _ _ _ h => h⟩
            · intro L fp w' hC hS
              have H31 := Lib.hid (hS 31 (by decide) rfl)
              rename World => W9
              have h31 : fp 31 = Value.bool hh := H31.out
              rw [h31]
              have HB9 := Lib.hid (HBw.out.trans (hC.mono HBw.out.size))
              clear hS hC H31 h31
              cases hh with
              | true =>
                go_wp2_with fail
                go_ret
                exact ⟨rfl, HB6.out.trans (HB9.out.mono HB6.out.size)⟩
              | false =>
                have HN2 : Hid (∀ k, k < 0 + 1 → ¬ hitN XS YS k) := Lib.hid (fun k hk => by
                  by_cases h : k < 0
                  · exact HNO.out k h
                  · obtain rfl : k = 0 := by omega
                    rintro ⟨x, y, e1, e2, e3, e4⟩
                    rw [HA.out] at e1
                    rw [HB.out] at e2
                    cases e1; cases e2
                    have e5 := HHH.out
                    have e6 : hA = hB := by
                      rw [← HHA.out, ← HHB.out]
                      rw [if_pos rfl] at e4; exact e4
                    rw [e6] at e5
                    simp at e5)
                go_wp2_with fail
                go_roundw
                case rel => exact ⟨0 + 1, by omega, by go_num, HN2, HB9⟩
                case measure => first | (simp [intOf]; done) | (simp [intOf]; omega)
        · have z0 : ((j : Int) == 0) = false := by simp; omega
          have z0n : decide (j = 0) = false := decide_eq_false h0
          go_wp2_with fail
          by_cases hab : a = b
          · subst hab
            obtain rfl : sA = sB := HSA.out.symm.trans HSB.out
            have HHA : Hid (True) := Lib.hid trivial
            have HC0 := Lib.hid (Below.refl wr.heap.size wr).drew
            refine region_flow3 (by kernel_rfl) (by kernel_rfl) (fun i => Nat.beq i 31) (fun i => i) (by kernel_rfl) (fun fx => #[Value.agg (dgC d).toArray, Value.agg (dgC e).toArray, Value.int IntKind.i64 ↑i, Value.int IntKind.i64 ↑n, Value.slice A2 ms c2, Value.slice A3 ms c3, Value.pointer (some { block := w.heap.size, off := 0 }), Value.pointer (some { block := W1.heap.size, off := 0 }), undef, undef, undef, undef, u12, Value.slice As ms cs, Value.slice (some { block := gx, off := 0 }) (ms + 1) c8, Value.slice (some { block := gy, off := 0 }) (ms + 1) c9, Value.int IntKind.i64 ↑j, Value.string { data := #[110, 111, 100, 101] }, Value.int IntKind.i64 ↑i, Value.bool false, Value.bool false, Value.int IntKind.i64 ↑i, Value.int IntKind.i64 ↑n, Value.bool false, Value.bool false, Value.bool false, Value.int IntKind.i64 ↑n, Value.bool false, Value.bool false, Value.int IntKind.i64 ↑i, Value.int IntKind.i64 ↑n, Value.slice As ms cs, fo 0, fo 1, fo 2, fo 3, fo 4, fo 5, fo 6, fo 7, Value.slice (some { block := gx, off := 0 }) (ms + 1) c8, Value.int IntKind.i64 (↑ms + 1), Value.int IntKind.i64 ↑j, Value.bool true, Value.int IntKind.i64 ↑j, Value.int IntKind.i64 ↑j, Value.bool false, fx 0, fx 1, fx 2, fx 3, fx 4, fx 5, fx 6, fx 7, fx 8, fx 9, fx 10, fx 11, fx 12, fx 13, fx 14, fx 15, fx 16, fx 17, fx 18, fx 19, fx 20, fx 21, fx 22, fx 23, fx 24, fx 25, fx 26, fx 27, fx 28, fx 29, fx 30, fx 31, u79]) (fun i => bif Nat.beq i 0 then u47 else bif Nat.beq i 1 then u48 else bif Nat.beq i 2 then u49 else bif Nat.beq i 3 then u50 else bif Nat.beq i 4 then u51 else bif Nat.beq i 5 then u52 else bif Nat.beq i 6 then u53 else bif Nat.beq i 7 then u54 else bif Nat.beq i 8 then u55 else bif Nat.beq i 9 then u56 else bif Nat.beq i 10 then u57 else bif Nat.beq i 11 then u58 else bif Nat.beq i 12 then u59 else bif Nat.beq i 13 then u60 else bif Nat.beq i 14 then u61 else bif Nat.beq i 15 then u62 else bif Nat.beq i 16 then u63 else bif Nat.beq i 17 then u64 else bif Nat.beq i 18 then u65 else bif Nat.beq i 19 then u66 else bif Nat.beq i 20 then u67 else bif Nat.beq i 21 then u68 else bif Nat.beq i 22 then u69 else bif Nat.beq i 23 then u70 else bif Nat.beq i 24 then u71 else bif Nat.beq i 25 then u72 else bif Nat.beq i 26 then u73 else bif Nat.beq i 27 then u74 else bif Nat.beq i 28 then u75 else bif Nat.beq i 29 then u76 else bif Nat.beq i 30 then u77 else bif Nat.beq i 31 then u78 else undef) (fun _ _ w' => Below wr.heap.size wr w') (fun fi fv _ fw => wE1 j ms gx c8 gy c9 ga na ca gb nb cb sA sA [] [] false fi fv fw) HC0.out ?_ ?_
            · refine ⟨?_, ?_, ?_, ?_, ?_, ?_, ?_, ?_, ?_, ?_, ?_, ?_, ?_, ?_, ?_, ?_, ?_, ?_, ?_, ?_, ?_, ?_, ?_, ?_, ?_, ?_, ?_, ?_, ?_, ?_, ?_, ?_, trivial⟩
              all_goals intro L fx w' hC hi hcl hdn hd
              · clear hd
                go_wp2_with fail
                exact ⟨_, rfl, hC, rfl, fun _ _ _ _ _ h => h⟩
              · clear hd
                go_wp2_with fail
                exact ⟨_, rfl, hC, rfl, fun _ _ _ _ _ h => h⟩
              · have h1 : fx 1 = Value.slice (some ⟨gy, 0, none⟩) (ms + 1) c9 := hd.1 rfl
                clear hd
                go_wp2_with fail
                exact ⟨_, by simp only [upd, h1]; rfl, hC, rfl, fun _ _ _ _ _ h => h⟩
              · have h0 : fx 0 = Value.int .i64 (j : Nat) := hd.1 rfl
                have h2 : fx 2 = Value.int .i64 ((ms : Int) + 1) := hd.2.1 rfl
                clear hd
                go_wp2_with fail
                exact ⟨_, by simp only [upd, h0, h2]; rfl, hC, rfl, fun _ _ _ _ _ h => h⟩
              · have h3 : fx 3 = Value.bool true := hd.1 rfl
                clear hd
                go_wp2_with fail
                exact ⟨_, by simp only [upd, h3]; rfl, hC, rfl, fun _ _ _ _ _ h => h⟩
              · have h4 : fx 4 = Value.bool true := hd.1 rfl
                clear hd
                go_wp2_with fail
                exact ⟨_, by simp only [upd, h4]; rfl, hC, rfl, fun _ _ _ _ _ h => h⟩
              · have h4 : fx 4 = Value.bool true := hd.1 rfl
                clear hd
                go_wp2_with fail
                exact ⟨_, by simp only [upd, h4]; rfl, hC, rfl, fun _ _ _ _ _ h => h⟩
              · have h5 : fx 5 = Value.slice (some ⟨gx, 0, none⟩) (ms + 1) c8 := hd.1 rfl
                have h6 : fx 6 = Value.int .i64 (j : Nat) := hd.2.1 rfl
                have h4 : fx 4 = Value.bool true := hd.2.2.1 rfl
                clear hd
                go_wp2_with fail
                exact ⟨_, by simp only [upd, h5, h6, h4]; rfl, hC, rfl, fun _ _ _ _ _ h => h⟩
              · have h7 : fx 7 = Value.pointer (some ⟨gx, j, none⟩) := hd.1 rfl
                have h4 : fx 4 = Value.bool true := hd.2.1 rfl
                have hcc : w'.cell? ⟨gx, j, none⟩ = some (.slice (some ⟨ga, 0, none⟩) na ca) := (hC.cell (p := ⟨gx, j, none⟩) HGX.out).trans HCX.out
                clear hd
                go_wp2_with fail
                exact ⟨_, by simp only [upd, h7, h4]; rfl, hC, rfl, fun _ _ _ _ _ h => h⟩
              · have h8 : fx 8 = Value.slice (some ⟨ga, 0, none⟩) na ca := hd.1 rfl
                have h4 : fx 4 = Value.bool true := hd.2.1 rfl
                have kc := conv_str (P := Tryd.prog) (w := w') (src := 55) (dst := 9) (cap := ca) Tryd.underlying55 Tryd.underlying5 Tryd.underlying9 HNA.out HBA.out (bytesAt_kept HYA.out (hC.block ga HGA.out))
                rw [HSA.out] at kc
                clear hd
                go_wp2_with fail
                exact ⟨_, by simp only [upd, h8, h4]; rfl, hC, rfl, fun _ _ _ _ _ h => h⟩
              · have h4 : fx 4 = Value.bool true := hd.1 rfl
                clear hd
                go_wp2_with fail
                exact ⟨_, by simp only [upd, h4]; rfl, hC, rfl, fun _ _ _ _ _ h => h⟩
              · have h4 : fx 4 = Value.bool true := hd.1 rfl
                clear hd
                go_wp2_with fail
                exact ⟨_, by simp only [upd, h4]; rfl, hC, rfl, fun _ _ _ _ _ h => h⟩
              · have h10 : fx 10 = Value.slice (some ⟨gy, 0, none⟩) (ms + 1) c9 := hd.1 rfl
                have h11 : fx 11 = Value.int .i64 (j : Nat) := hd.2.1 rfl
                have h4 : fx 4 = Value.bool true := hd.2.2.1 rfl
                clear hd
                go_wp2_with fail
                exact ⟨_, by simp only [upd, h10, h11, h4]; rfl, hC, rfl, fun _ _ _ _ _ h => h⟩
              · have h12 : fx 12 = Value.pointer (some ⟨gy, j, none⟩) := hd.1 rfl
                have h4 : fx 4 = Value.bool true := hd.2.1 rfl
                have hcc : w'.cell? ⟨gy, j, none⟩ = some (.slice (some ⟨gb, 0, none⟩) nb cb) := (hC.cell (p := ⟨gy, j, none⟩) HGY.out).trans HCY.out
                clear hd
                go_wp2_with fail
                exact ⟨_, by simp only [upd, h12, h4]; rfl, hC, rfl, fun _ _ _ _ _ h => h⟩
              · have h13 : fx 13 = Value.slice (some ⟨gb, 0, none⟩) nb cb := hd.1 rfl
                have h4 : fx 4 = Value.bool true := hd.2.1 rfl
                have kc := conv_str (P := Tryd.prog) (w := w') (src := 55) (dst := 9) (cap := cb) Tryd.underlying55 Tryd.underlying5 Tryd.underlying9 HNB.out HBB.out (bytesAt_kept HYB.out (hC.block gb HGB.out))
                rw [HSA.out] at kc
                clear hd
                go_wp2_with fail
                exact ⟨_, by simp only [upd, h13, h4]; rfl, hC, rfl, fun _ _ _ _ _ h => h⟩
              · have h9 : fx 9 = Value.string sA := hd.1 rfl
                have h14 : fx 14 = Value.string sA := hd.2.1 rfl
                have h4 : fx 4 = Value.bool true := hd.2.2.1 rfl
                clear hd
                go_wp2_with fail
                exact ⟨_, by simp only [upd, h9, h14, h4]; rfl, hC, rfl, fun _ _ _ _ _ h => h⟩
              · have h4 : fx 4 = Value.bool true := hd.1 rfl
                have h15 : fx 15 = Value.bool false := hd.2.1 rfl
                clear hd
                go_wp2_with fail
                exact ⟨_, by simp only [upd, h4, h15]; rfl, hC, rfl, fun _ _ _ _ _ h => h⟩
              · have h16 : fx 16 = Value.bool false := hd.1 rfl
                clear hd
                go_wp2_with fail
                exact ⟨_, by simp only [upd, h16]; rfl, hC, rfl, fun _ _ _ _ _ h => h⟩
              · have h17 : fx 17 = Value.bool false := hd.1 rfl
                clear hd
                go_wp2_with fail
                exact ⟨_, by simp only [upd, h17]; rfl, hC, rfl, fun _ _ _ _ _ h => h⟩
              · have h17 : fx 17 = Value.bool false := hd.1 rfl
                clear hd
                go_wp2_with fail
                exact ⟨_, by simp only [upd, h17]; rfl, hC, rfl, fun _ _ _ _ _ h => h⟩
              · have h17 : fx 17 = Value.bool false := hd.1 rfl
                clear hd
                go_wp2_with fail
                exact ⟨_, by simp only [upd, h17]; rfl, hC, rfl, fun _ _ _ _ _ h => h⟩
              · have h19 : fx 19 = undef := hd.1 rfl
                have h20 : fx 20 = undef := hd.2.1 rfl
                have h17 : fx 17 = Value.bool false := hd.2.2.1 rfl
                clear hd
                go_wp2_with fail
                exact ⟨_, by simp only [upd, h19, h20, h17]; rfl, hC, rfl, fun _ _ _ _ _ h => h⟩
              · have h21 : fx 21 = undef := hd.1 rfl
                have h17 : fx 17 = Value.bool false := hd.2.1 rfl
                clear hd
                go_wp2_with fail
                exact ⟨_, by simp only [upd, h21, h17]; rfl, hC, rfl, fun _ _ _ _ _ h => h⟩
              · have h18 : fx 18 = undef := hd.1 rfl
                have h22 : fx 22 = undef := hd.2.1 rfl
                have h17 : fx 17 = Value.bool false := hd.2.2.2.1 rfl
                clear hd
                go_wp2_with fail
                exact ⟨_, by simp only [upd, h18, h22, h17]; rfl, hC, rfl, fun _ _ _ _ _ h => h⟩
              · have h17 : fx 17 = Value.bool false := hd.1 rfl
                clear hd
                go_wp2_with fail
                exact ⟨_, by simp only [upd, h17]; rfl, hC, rfl, fun _ _ _ _ _ h => h⟩
              · have h17 : fx 17 = Value.bool false := hd.1 rfl
                clear hd
                go_wp2_with fail
                exact ⟨_, by simp only [upd, h17]; rfl, hC, rfl, fun _ _ _ _ _ h => h⟩
              · have h17 : fx 17 = Value.bool false := hd.1 rfl
                clear hd
                go_wp2_with fail
                exact ⟨_, by simp only [upd, h17]; rfl, hC, rfl, fun _ _ _ _ _ h => h⟩
              · have h25 : fx 25 = undef := hd.1 rfl
                have h26 : fx 26 = undef := hd.2.1 rfl
                have h17 : fx 17 = Value.bool false := hd.2.2.1 rfl
                clear hd
                go_wp2_with fail
                exact ⟨_, by simp only [upd, h25, h26, h17]; rfl, hC, rfl, fun _ _ _ _ _ h => h⟩
              · have h27 : fx 27 = undef := hd.1 rfl
                have h17 : fx 17 = Value.bool false := hd.2.1 rfl
                clear hd
                go_wp2_with fail
                exact ⟨_, by simp only [upd, h27, h17]; rfl, hC, rfl, fun _ _ _ _ _ h => h⟩
              · have h24 : fx 24 = undef := hd.1 rfl
                have h28 : fx 28 = undef := hd.2.1 rfl
                have h17 : fx 17 = Value.bool false := hd.2.2.2.1 rfl
                clear hd
                go_wp2_with fail
                exact ⟨_, by simp only [upd, h24, h28, h17]; rfl, hC, rfl, fun _ _ _ _ _ h => h⟩
              · have h23 : fx 23 = undef := hd.1 rfl
                have h29 : fx 29 = undef := hd.2.1 rfl
                have h17 : fx 17 = Value.bool false := hd.2.2.1 rfl
                clear hd
                go_wp2_with fail
                exact ⟨_, by simp only [upd, h23, h29, h17]; rfl, hC, rfl, fun _ _ _ _ _ h => h⟩
              · have h17 : fx 17 = Value.bool false := hd.1 rfl
                have h30 : fx 30 = undef := hd.2.1 rfl
                clear hd
                go_wp2_with fail
                exact ⟨_, by simp only [upd, h17, h30]; rfl, hC, rfl, fun _ _ _ _ _ h => h⟩
            · intro L fp w' hC hS
              have H31 := Lib.hid (hS 31 (by decide) rfl)
              rename World => W9
              have h31 : fp 31 = Value.bool false := H31.out
              rw [h31]
              have HB9 := Lib.hid (HBw.out.trans (hC.mono HBw.out.size))
              clear hS hC H31 h31
              have HN2 : Hid (∀ k, k < j + 1 → ¬ hitN XS YS k) := Lib.hid (fun k hk => by
                by_cases h : k < j
                · exact HNO.out k h
                · obtain rfl : k = j := by omega
                  rintro ⟨x, y, e1, e2, e3, _⟩
                  rw [HA.out] at e1
                  rw [HB.out] at e2
                  cases e1; cases e2
                  exact e3 rfl)
              go_wp2_with fail
              go_roundw
              case rel => exact ⟨j + 1, by omega, by go_num, HN2, HB9⟩
              case measure => first | (simp [intOf]; done) | (simp [intOf]; omega)
          · obtain ⟨hA, HHA⟩ : ∃ x, Hid (tagged (strL nodeTag) a = x) := ⟨_, Lib.hid rfl⟩
            obtain ⟨hB, HHB⟩ : ∃ x, Hid (tagged (strL nodeTag) b = x) := ⟨_, Lib.hid rfl⟩
            obtain ⟨hh, HHH⟩ : ∃ x, Hid ((hA == hB) = x) := ⟨_, Lib.hid rfl⟩
            have HAO : Hid (hA.length = 32 ∧ Bytes hA) := Lib.hid (by rw [← HHA.out]; exact ⟨tagged_length _ _, tagged_bytes _ _⟩)
            have HBO : Hid (hB.length = 32 ∧ Bytes hB) := Lib.hid (by rw [← HHB.out]; exact ⟨tagged_length _ _, tagged_bytes _ _⟩)
            have hss : ¬ sA = sB := by rw [← HSA.out, ← HSB.out]; exact bstr_ne HBA.out HBB.out hab
            have hds : (sA.toList == sB.toList) = false := by
              rw [ByteArray.toList_eq, ByteArray.toList_eq]
              exact beq_false_of_ne (fun h => hss (ByteArray.ext (Array.toList_inj.1 h)))
            have HC0 := Lib.hid (Below.refl wr.heap.size wr).drew
            refine region_flow3 (by kernel_rfl) (by kernel_rfl) (fun i => Nat.beq i 31) (fun i => i) (by kernel_rfl) (fun fx => #[Value.agg (dgC d).toArray, Value.agg (dgC e).toArray, Value.int IntKind.i64 ↑i, Value.int IntKind.i64 ↑n, Value.slice A2 ms c2, Value.slice A3 ms c3, Value.pointer (some { block := w.heap.size, off := 0 }), Value.pointer (some { block := W1.heap.size, off := 0 }), undef, undef, undef, undef, u12, Value.slice As ms cs, Value.slice (some { block := gx, off := 0 }) (ms + 1) c8, Value.slice (some { block := gy, off := 0 }) (ms + 1) c9, Value.int IntKind.i64 ↑j, Value.string { data := #[110, 111, 100, 101] }, Value.int IntKind.i64 ↑i, Value.bool false, Value.bool false, Value.int IntKind.i64 ↑i, Value.int IntKind.i64 ↑n, Value.bool false, Value.bool false, Value.bool false, Value.int IntKind.i64 ↑n, Value.bool false, Value.bool false, Value.int IntKind.i64 ↑i, Value.int IntKind.i64 ↑n, Value.slice As ms cs, fo 0, fo 1, fo 2, fo 3, fo 4, fo 5, fo 6, fo 7, Value.slice (some { block := gx, off := 0 }) (ms + 1) c8, Value.int IntKind.i64 (↑ms + 1), Value.int IntKind.i64 ↑j, Value.bool true, Value.int IntKind.i64 ↑j, Value.int IntKind.i64 ↑j, Value.bool false, fx 0, fx 1, fx 2, fx 3, fx 4, fx 5, fx 6, fx 7, fx 8, fx 9, fx 10, fx 11, fx 12, fx 13, fx 14, fx 15, fx 16, fx 17, fx 18, fx 19, fx 20, fx 21, fx 22, fx 23, fx 24, fx 25, fx 26, fx 27, fx 28, fx 29, fx 30, fx 31, u79]) (fun i => bif Nat.beq i 0 then u47 else bif Nat.beq i 1 then u48 else bif Nat.beq i 2 then u49 else bif Nat.beq i 3 then u50 else bif Nat.beq i 4 then u51 else bif Nat.beq i 5 then u52 else bif Nat.beq i 6 then u53 else bif Nat.beq i 7 then u54 else bif Nat.beq i 8 then u55 else bif Nat.beq i 9 then u56 else bif Nat.beq i 10 then u57 else bif Nat.beq i 11 then u58 else bif Nat.beq i 12 then u59 else bif Nat.beq i 13 then u60 else bif Nat.beq i 14 then u61 else bif Nat.beq i 15 then u62 else bif Nat.beq i 16 then u63 else bif Nat.beq i 17 then u64 else bif Nat.beq i 18 then u65 else bif Nat.beq i 19 then u66 else bif Nat.beq i 20 then u67 else bif Nat.beq i 21 then u68 else bif Nat.beq i 22 then u69 else bif Nat.beq i 23 then u70 else bif Nat.beq i 24 then u71 else bif Nat.beq i 25 then u72 else bif Nat.beq i 26 then u73 else bif Nat.beq i 27 then u74 else bif Nat.beq i 28 then u75 else bif Nat.beq i 29 then u76 else bif Nat.beq i 30 then u77 else bif Nat.beq i 31 then u78 else undef) (fun _ _ w' => Below wr.heap.size wr w') (fun fi fv _ fw => wN1 j ms gx c8 gy c9 ga na ca gb nb cb sA sB hA hB hh fi fv fw) HC0.out ?_ ?_
            · refine ⟨?_, ?_, ?_, ?_, ?_, ?_, ?_, ?_, ?_, ?_, ?_, ?_, ?_, ?_, ?_, ?_, ?_, ?_, ?_, ?_, ?_, ?_, ?_, ?_, ?_, ?_, ?_, ?_, ?_, ?_, ?_, ?_, trivial⟩
              all_goals intro L fx w' hC hi hcl hdn hd
              · clear hd
                go_wp2_with fail
                exact ⟨_, rfl, hC, rfl, fun _ _ _ _ _ h => h⟩
              · clear hd
                go_wp2_with fail
                exact ⟨_, rfl, hC, rfl, fun _ _ _ _ _ h => h⟩
              · have h1 : fx 1 = Value.slice (some ⟨gy, 0, none⟩) (ms + 1) c9 := hd.1 rfl
                clear hd
                go_wp2_with fail
                exact ⟨_, by simp only [upd, h1]; rfl, hC, rfl, fun _ _ _ _ _ h => h⟩
              · have h0 : fx 0 = Value.int .i64 (j : Nat) := hd.1 rfl
                have h2 : fx 2 = Value.int .i64 ((ms : Int) + 1) := hd.2.1 rfl
                clear hd
                go_wp2_with fail
                exact ⟨_, by simp only [upd, h0, h2]; rfl, hC, rfl, fun _ _ _ _ _ h => h⟩
              · have h3 : fx 3 = Value.bool true := hd.1 rfl
                clear hd
                go_wp2_with fail
                exact ⟨_, by simp only [upd, h3]; rfl, hC, rfl, fun _ _ _ _ _ h => h⟩
              · have h4 : fx 4 = Value.bool true := hd.1 rfl
                clear hd
                go_wp2_with fail
                exact ⟨_, by simp only [upd, h4]; rfl, hC, rfl, fun _ _ _ _ _ h => h⟩
              · have h4 : fx 4 = Value.bool true := hd.1 rfl
                clear hd
                go_wp2_with fail
                exact ⟨_, by simp only [upd, h4]; rfl, hC, rfl, fun _ _ _ _ _ h => h⟩
              · have h5 : fx 5 = Value.slice (some ⟨gx, 0, none⟩) (ms + 1) c8 := hd.1 rfl
                have h6 : fx 6 = Value.int .i64 (j : Nat) := hd.2.1 rfl
                have h4 : fx 4 = Value.bool true := hd.2.2.1 rfl
                clear hd
                go_wp2_with fail
                exact ⟨_, by simp only [upd, h5, h6, h4]; rfl, hC, rfl, fun _ _ _ _ _ h => h⟩
              · have h7 : fx 7 = Value.pointer (some ⟨gx, j, none⟩) := hd.1 rfl
                have h4 : fx 4 = Value.bool true := hd.2.1 rfl
                have hcc : w'.cell? ⟨gx, j, none⟩ = some (.slice (some ⟨ga, 0, none⟩) na ca) := (hC.cell (p := ⟨gx, j, none⟩) HGX.out).trans HCX.out
                clear hd
                go_wp2_with fail
                exact ⟨_, by simp only [upd, h7, h4]; rfl, hC, rfl, fun _ _ _ _ _ h => h⟩
              · have h8 : fx 8 = Value.slice (some ⟨ga, 0, none⟩) na ca := hd.1 rfl
                have h4 : fx 4 = Value.bool true := hd.2.1 rfl
                have kc := conv_str (P := Tryd.prog) (w := w') (src := 55) (dst := 9) (cap := ca) Tryd.underlying55 Tryd.underlying5 Tryd.underlying9 HNA.out HBA.out (bytesAt_kept HYA.out (hC.block ga HGA.out))
                rw [HSA.out] at kc
                clear hd
                go_wp2_with fail
                exact ⟨_, by simp only [upd, h8, h4]; rfl, hC, rfl, fun _ _ _ _ _ h => h⟩
              · have h4 : fx 4 = Value.bool true := hd.1 rfl
                clear hd
                go_wp2_with fail
                exact ⟨_, by simp only [upd, h4]; rfl, hC, rfl, fun _ _ _ _ _ h => h⟩
              · have h4 : fx 4 = Value.bool true := hd.1 rfl
                clear hd
                go_wp2_with fail
                exact ⟨_, by simp only [upd, h4]; rfl, hC, rfl, fun _ _ _ _ _ h => h⟩
              · have h10 : fx 10 = Value.slice (some ⟨gy, 0, none⟩) (ms + 1) c9 := hd.1 rfl
                have h11 : fx 11 = Value.int .i64 (j : Nat) := hd.2.1 rfl
                have h4 : fx 4 = Value.bool true := hd.2.2.1 rfl
                clear hd
                go_wp2_with fail
                exact ⟨_, by simp only [upd, h10, h11, h4]; rfl, hC, rfl, fun _ _ _ _ _ h => h⟩
              · have h12 : fx 12 = Value.pointer (some ⟨gy, j, none⟩) := hd.1 rfl
                have h4 : fx 4 = Value.bool true := hd.2.1 rfl
                have hcc : w'.cell? ⟨gy, j, none⟩ = some (.slice (some ⟨gb, 0, none⟩) nb cb) := (hC.cell (p := ⟨gy, j, none⟩) HGY.out).trans HCY.out
                clear hd
                go_wp2_with fail
                exact ⟨_, by simp only [upd, h12, h4]; rfl, hC, rfl, fun _ _ _ _ _ h => h⟩
              · have h13 : fx 13 = Value.slice (some ⟨gb, 0, none⟩) nb cb := hd.1 rfl
                have h4 : fx 4 = Value.bool true := hd.2.1 rfl
                have kc := conv_str (P := Tryd.prog) (w := w') (src := 55) (dst := 9) (cap := cb) Tryd.underlying55 Tryd.underlying5 Tryd.underlying9 HNB.out HBB.out (bytesAt_kept HYB.out (hC.block gb HGB.out))
                rw [HSB.out] at kc
                clear hd
                go_wp2_with fail
                exact ⟨_, by simp only [upd, h13, h4]; rfl, hC, rfl, fun _ _ _ _ _ h => h⟩
              · have h9 : fx 9 = Value.string sA := hd.1 rfl
                have h14 : fx 14 = Value.string sB := hd.2.1 rfl
                have h4 : fx 4 = Value.bool true := hd.2.2.1 rfl
                clear hd
                go_wp2_with fail
                exact ⟨_, by simp only [upd, h9, h14, h4]; rfl, hC, rfl, fun _ _ _ _ _ h => h⟩
              · have h4 : fx 4 = Value.bool true := hd.1 rfl
                have h15 : fx 15 = Value.bool true := hd.2.1 rfl
                clear hd
                go_wp2_with fail
                exact ⟨_, by simp only [upd, h4, h15]; rfl, hC, rfl, fun _ _ _ _ _ h => h⟩
              · have h16 : fx 16 = Value.bool true := hd.1 rfl
                clear hd
                go_wp2_with fail
                exact ⟨_, by simp only [upd, h16]; rfl, hC, rfl, fun _ _ _ _ _ h => h⟩
              · have h17 : fx 17 = Value.bool true := hd.1 rfl
                clear hd
                go_wp2_with fail
                exact ⟨_, by simp only [upd, h17]; rfl, hC, rfl, fun _ _ _ _ _ h => h⟩
              · have h17 : fx 17 = Value.bool true := hd.1 rfl
                clear hd
                go_wp2_with fail
                exact ⟨_, by simp only [upd, h17]; rfl, hC, rfl, fun _ _ _ _ _ h => h⟩
              · have h17 : fx 17 = Value.bool true := hd.1 rfl
                clear hd
                go_wp2_with fail
                exact ⟨_, by simp only [upd, h17]; rfl, hC, rfl, fun _ _ _ _ _ h => h⟩
              · have h19 : fx 19 = Value.slice (some ⟨gx, 0, none⟩) (ms + 1) c8 := hd.1 rfl
                have h20 : fx 20 = Value.int .i64 (j : Nat) := hd.2.1 rfl
                have h17 : fx 17 = Value.bool true := hd.2.2.1 rfl
                clear hd
                go_wp2_with fail
                exact ⟨_, by simp only [upd, h19, h20, h17]; rfl, hC, rfl, fun _ _ _ _ _ h => h⟩
              · have h21 : fx 21 = Value.pointer (some ⟨gx, j, none⟩) := hd.1 rfl
                have h17 : fx 17 = Value.bool true := hd.2.1 rfl
                have hcc : w'.cell? ⟨gx, j, none⟩ = some (.slice (some ⟨ga, 0, none⟩) na ca) := (hC.cell (p := ⟨gx, j, none⟩) HGX.out).trans HCX.out
                clear hd
                go_wp2_with fail
                exact ⟨_, by simp only [upd, h21, h17]; rfl, hC, rfl, fun _ _ _ _ _ h => h⟩
              · have h18 : fx 18 = Value.string nodeTag := hd.1 rfl
                have h22 : fx 22 = Value.slice (some ⟨ga, 0, none⟩) na ca := hd.2.1 rfl
                have h17 : fx 17 = Value.bool true := hd.2.2.2.1 rfl
                clear hd
                go_wp2_with fail
                refine (tagged_any nodeTag (some ⟨ga, 0, none⟩) na ca a w' (by decide) HNA HCA.out (fun h => by cases h) HLAS.out.1 HBA (Lib.hid (HTw.out.below hC)) (Lib.hid (fun _ => ⟨_, 0, rfl, Nat.lt_of_lt_of_le HGA.out hC.size, bytesAt_kept HYA.out (hC.block ga HGA.out)⟩))).mono ?_
                rintro e2 w2 ⟨rfl, hq2⟩
                rw [HHA.out]
                go_wp2_with fail
                exact ⟨_, by simp only [upd, h18, h22, h17]; rfl, hC.trans (hq2.mono hC.size), rfl, fun j v t _ _ h => wN1_any j v h⟩
              · have h17 : fx 17 = Value.bool true := hd.1 rfl
                clear hd
                go_wp2_with fail
                exact ⟨_, by simp only [upd, h17]; rfl, hC, rfl, fun _ _ _ _ _ h => h⟩
              · have h17 : fx 17 = Value.bool true := hd.1 rfl
                clear hd
                go_wp2_with fail
                exact ⟨_, by simp only [upd, h17]; rfl, hC, rfl, fun _ _ _ _ _ h => h⟩
              · have h17 : fx 17 = Value.bool true := hd.1 rfl
                clear hd
                go_wp2_with fail
                exact ⟨_, by simp only [upd, h17]; rfl, hC, rfl, fun _ _ _ _ _ h => h⟩
              · have h25 : fx 25 = Value.slice (some ⟨gy, 0, none⟩) (ms + 1) c9 := hd.1 rfl
                have h26 : fx 26 = Value.int .i64 (j : Nat) := hd.2.1 rfl
                have h17 : fx 17 = Value.bool true := hd.2.2.1 rfl
                clear hd
                go_wp2_with fail
                exact ⟨_, by simp only [upd, h25, h26, h17]; rfl, hC, rfl, fun _ _ _ _ _ h => h⟩
              · have h27 : fx 27 = Value.pointer (some ⟨gy, j, none⟩) := hd.1 rfl
                have h17 : fx 17 = Value.bool true := hd.2.1 rfl
                have hcc : w'.cell? ⟨gy, j, none⟩ = some (.slice (some ⟨gb, 0, none⟩) nb cb) := (hC.cell (p := ⟨gy, j, none⟩) HGY.out).trans HCY.out
                clear hd
                go_wp2_with fail
                exact ⟨_, by simp only [upd, h27, h17]; rfl, hC, rfl, fun _ _ _ _ _ h => h⟩
              · have h24 : fx 24 = Value.string nodeTag := hd.1 rfl
                have h28 : fx 28 = Value.slice (some ⟨gb, 0, none⟩) nb cb := hd.2.1 rfl
                have h17 : fx 17 = Value.bool true := hd.2.2.2.1 rfl
                clear hd
                go_wp2_with fail
                refine (tagged_any nodeTag (some ⟨gb, 0, none⟩) nb cb b w' (by decide) HNB HCB.out (fun h => by cases h) HLAS.out.2 HBB (Lib.hid (HTw.out.below hC)) (Lib.hid (fun _ => ⟨_, 0, rfl, Nat.lt_of_lt_of_le HGB.out hC.size, bytesAt_kept HYB.out (hC.block gb HGB.out)⟩))).mono ?_
                rintro e2 w2 ⟨rfl, hq2⟩
                rw [HHB.out]
                go_wp2_with fail
                exact ⟨_, by simp only [upd, h24, h28, h17]; rfl, hC.trans (hq2.mono hC.size), rfl, fun j v t _ _ h => wN1_any j v h⟩
              · have h23 : fx 23 = dgV hA := hd.1 rfl
                have h29 : fx 29 = dgV hB := hd.2.1 rfl
                have h17 : fx 17 = Value.bool true := hd.2.2.1 rfl
                clear hd
                dsimp only
                rw [h17]
                refine wpList_unguard rfl ?_
                refine wpList_eql_dg rfl (.tmp 70) (.tmp 76) _ rfl hA hB h23 h29 HAO.out.1 HBO.out.1 HAO.out.2 HBO.out.2 ?_
                rw [HHH.out]
                go_wp2_with fail
                exact ⟨_, by first | (simp only [upd, h17, h23, h29]; rfl) | (simp only [upd, h17]; rfl) | (simp only [upd, h17, h23, h29, dgV]; rfl), hC, rfl, fun _ _ _ _ _ h => h⟩
              · have h17 : fx 17 = Value.bool true := hd.1 rfl
                have h30 : fx 30 = Value.bool hh := hd.2.1 rfl
                clear hd
                go_wp2_with fail
                exact ⟨_, by simp only [upd, h17, h30]; rfl, hC, rfl, fun _ _ _ _ _ h => h⟩
            · intro L fp w' hC hS
              have H31 := Lib.hid (hS 31 (by decide) rfl)
              rename World => W9
              have h31 : fp 31 = Value.bool hh := H31.out
              rw [h31]
              have HB9 := Lib.hid (HBw.out.trans (hC.mono HBw.out.size))
              clear hS hC H31 h31
              cases hh with
              | true =>
                go_wp2_with fail
                go_ret
                exact ⟨rfl, HB6.out.trans (HB9.out.mono HB6.out.size)⟩
              | false =>
                have HN2 : Hid (∀ k, k < j + 1 → ¬ hitN XS YS k) := Lib.hid (fun k hk => by
                  by_cases h : k < j
                  · exact HNO.out k h
                  · obtain rfl : k = j := by omega
                    rintro ⟨x, y, e1, e2, e3, e4⟩
                    rw [HA.out] at e1
                    rw [HB.out] at e2
                    cases e1; cases e2
                    have e5 := HHH.out
                    have e6 : hA = hB := by
                      rw [← HHA.out, ← HHB.out]
                      rw [if_neg h0] at e4; exact e4
                    rw [e6] at e5
                    simp at e5)
                go_wp2_with fail
                go_roundw
                case rel => exact ⟨j + 1, by omega, by go_num, HN2, HB9⟩
                case measure => first | (simp [intOf]; done) | (simp [intOf]; omega)
      · exfalso
        obtain ⟨k, hk⟩ := HIT.out
        refine HNO.out k ?_ hk
        obtain ⟨x, y, e1, _⟩ := hk
        have := (List.getElem?_eq_some_iff.1 e1).1
        rw [HLX.out] at this
        omega
end Go.Proofs.YtmfmgeapecapiaaDoor
namespace Go.Proofs.SzTree
open SzSha
set_option linter.unusedVariables false
/-- numerals tell where they end -/
theorem numB_inj : ∀ f u v (r s : List Nat), u < 128 ^ (f + 1) → v < 128 ^ (f + 1) → numB f u ++ r = numB f v ++ s → u = v ∧ r = s
  | 0, u, v, r, s, hu, hv, h => by
    simp only [numB, List.cons_append, List.nil_append, List.cons.injEq] at h
    have e1 : u % 128 = u := Nat.mod_eq_of_lt (by simpa using hu)
    have e2 : v % 128 = v := Nat.mod_eq_of_lt (by simpa using hv)
    exact ⟨by rw [← e1, ← e2]; exact h.1, h.2⟩
  | f + 1, u, v, r, s, hu, hv, h => by
    unfold numB at h
    have pu : u / 128 < 128 ^ (f + 1) := Nat.div_lt_of_lt_mul (by rw [Nat.mul_comm, ← Nat.pow_succ]; exact hu)
    have pv : v / 128 < 128 ^ (f + 1) := Nat.div_lt_of_lt_mul (by rw [Nat.mul_comm, ← Nat.pow_succ]; exact hv)
    by_cases h1 : u < 128
    · by_cases h2 : v < 128
      · rw [if_pos h1, if_pos h2] at h
        simp only [List.cons_append, List.nil_append, List.cons.injEq] at h
        exact h
      · rw [if_pos h1, if_neg h2] at h
        simp only [List.cons_append, List.nil_append, List.cons.injEq] at h
        omega
    · by_cases h2 : v < 128
      · rw [if_neg h1, if_pos h2] at h
        simp only [List.cons_append, List.nil_append, List.cons.injEq] at h
        omega
      · rw [if_neg h1, if_neg h2] at h
        simp only [List.cons_append, List.cons.injEq] at h
        have := numB_inj f (u / 128) (v / 128) r s pu pv h.2
        refine ⟨?_, this.2⟩
        have h3 := h.1
        have h4 := this.1
        omega
theorem num_inj {u v : Nat} {r s : List Nat} (hu : u < 18446744073709551616) (hv : v < 18446744073709551616) (h : num u ++ r = num v ++ s) : u = v ∧ r = s :=
  numB_inj 10 u v r s (Nat.lt_of_lt_of_le hu (by decide)) (Nat.lt_of_lt_of_le hv (by decide)) h
theorem zig_inj {y z : Int} (h : zig y = zig z) : y = z := by
  unfold zig at h
  split at h <;> split at h <;> omega
def I64 (z : Int) : Prop := -9223372036854775808 ≤ z ∧ z ≤ 9223372036854775807
theorem zigs_inj : ∀ {ys zs : List Int} {r s : List Nat}, ys.length = zs.length → (∀ y ∈ ys, I64 y) → (∀ z ∈ zs, I64 z) → (ys.flatMap fun z => 1 :: num (zig z)) ++ r = (zs.flatMap fun z => 1 :: num (zig z)) ++ s → ys = zs ∧ r = s
  | [], [], r, s, _, _, _, h => ⟨rfl, by simpa using h⟩
  | [], _ :: _, _, _, h, _, _, _ => by simp at h
  | _ :: _, [], _, _, h, _, _, _ => by simp at h
  | y :: ys, z :: zs, r, s, hl, hy, hz, h => by
    simp only [List.flatMap_cons, List.cons_append, List.append_assoc, List.cons.injEq, true_and] at h
    have iy := hy y (by simp)
    have iz := hz z (by simp)
    obtain ⟨e1, e2⟩ := num_inj (zig_lt iy.1 iy.2) (zig_lt iz.1 iz.2) h
    obtain ⟨e3, e4⟩ := zigs_inj (by simpa using hl) (fun q hq => hy q (by simp [hq])) (fun q hq => hz q (by simp [hq])) e2
    exact ⟨by rw [zig_inj e1, e3], e4⟩
theorem encI_inj {ys zs : List Int} (hl : ys.length = zs.length) (hy : ∀ y ∈ ys, I64 y) (hz : ∀ z ∈ zs, I64 z) (h : encI ys = encI zs) : ys = zs := by
  unfold encI at h
  simp only [List.cons.injEq, true_and] at h
  rw [hl] at h
  have h2 := List.append_cancel_left h
  exact (zigs_inj (r := []) (s := []) hl hy hz (by rw [List.append_nil, List.append_nil]; exact h2)).1
end Go.Proofs.SzTree
