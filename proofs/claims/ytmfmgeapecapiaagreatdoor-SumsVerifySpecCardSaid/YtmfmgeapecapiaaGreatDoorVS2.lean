/- region_flow3: a region that draws, walked once per operation; a fact is kept only while someone still needs it; what holds throughout may speak of which operations are done. slices.Concat of two slices of bytes; sizar/digest.Tagged returns the hash under a tag. sizar/codec: the writer of integers. sizar/codec.newWriter. sizar/codec: the writer of lists of integers. sizar/codec.Encode of a list of integers. What every law of a seat with laid tables needs: the tables' cells, the arguments opened, the row's last step. -/
import Derived.Test.YtmfmgeapecapiaaGreatDoorVS1
import Derived.Lib.ConvBytes
import Derived.Test.YtmfmgeapecapiaaGreatDoorVS0
import Derived.Laws.EntriesVeiled
import Derived.Test.YtmfmgeapecapiaaGreatDoorRows
import Derived.ReadAgain
import Derived.SizedLaws
import Derived.ProofKit
import Derived.OpenShut
import Derived.LaidMore
import Derived.LaidLaws
import Derived.Lib.LaidTab
import Derived.ChangeMaps5
import Derived.ChangeBears
import Derived.Stop.Joined
import Derived.Stop.BytesEq
import Derived.MakeChecks
import Derived.SevenTiedAt
set_option maxHeartbeats 64000001
open Go.Lib (hid)
namespace Go.Proofs.YtmfmgeapecapiaaGreatDoor
section
variable {P : Program} {ops : Array Oper}
def updB (L : Nat → Bool) (i : Nat) : Nat → Bool := fun j => Nat.beq j i || L j
def usersB (l : List Oper) (j : Nat) : List Nat := (List.range l.length).filter fun m => usesB l m j
theorem mem_users {l : List Oper} {m j : Nat} (hm : m < l.length) (h : usesB l m j = true) : m ∈ usersB l j := List.mem_filter.2 ⟨List.mem_range.2 hm, h⟩
theorem not_needed {E : Nat → Bool} {l : List Oper} {j i : Nat} {L : Nat → Bool} (us : List Nat) (hE : E j = false) (hus : usersB l j = us) (h : ∀ m, m ∈ us → m ≠ i → L m = true) : ¬ (E j = true ∨ ∃ m, m ∈ usersB l j ∧ m ≠ i ∧ L m = false) := by
 rintro (h1 | ⟨m, h1, h2, h3⟩)
 ·rw [hE] at h1; cases h1
 ·rw [hus] at h1
  have := h m h1 h2
  rw [h3] at this; cases this
theorem updB_same (L : Nat → Bool) (i : Nat) : updB L i i = true := by unfold updB; rw [show Nat.beq i i = true by simp]; rfl
/-- what an operation must reach: its own fact, the others' kept as far as they are needed; no other way out -/
def FlowPost3 (E : Nat → Bool) (l0 : List Oper) (k : Nat → Nat) (build : (Nat → Value) → Array Value) (df : List Deferred) (C : (Nat → Bool) → (Nat → Value) → World → Prop) (S : Nat → Value → Value → World → Prop) (i : Nat) (L : Nat → Bool) (x : Nat → Value) (w : World) : Exit → Act → World → Prop
 | .normal, a', w' => ∃ v, a' = ⟨build (upd x i v), df⟩ ∧ C (updB L i) (upd x i v) w' ∧ S i v (upd x i v (k i)) w' ∧ ∀ j u t, L j = true → (E j = true ∨ ∃ m, m ∈ usersB l0 j ∧ m ≠ i ∧ L m = false) → S j u t w → S j u t w'
 | _, _, _ => False
def Deps3 (k : Nat → Nat) (S : Nat → Value → Value → World → Prop) (x : Nat → Value) (w : World) : List Edge → Prop
 | [] => True
 | e :: l => (dataE e = true → S e.on (x e.on) (x (k e.on)) w) ∧ Deps3 k S x w l
def FlowAll3 (P : Program) (ops : Array Oper) (E : Nat → Bool) (l0 : List Oper) (k : Nat → Nat) (build : (Nat → Value) → Array Value) (df : List Deferred) (C : (Nat → Bool) → (Nat → Value) → World → Prop) (S : Nat → Value → Value → World → Prop) : Nat → List Oper → Prop
 | _, [] => True
 | i, o :: l => (∀ L x w, C L x w → L i = false → (∀ m j, L m = true → usesB l0 m j = true → L j = true) → (∀ m, usesB l0 i m = true → L m = true) → Deps3 k S x w o.after.toList → wpList P ops (FlowPost3 E l0 k build df C S i L x w) [o] ⟨build x, df⟩ w) ∧ FlowAll3 P ops E l0 k build df C S (i + 1) l
theorem FlowAll3.at {l0 : List Oper} {E : Nat → Bool} {k : Nat → Nat} {build : (Nat → Value) → Array Value} {df : List Deferred} {C : (Nat → Bool) → (Nat → Value) → World → Prop} {S : Nat → Value → Value → World → Prop} :
  ∀ (l : List Oper) (m i : Nat) (o : Oper), FlowAll3 P ops E l0 k build df C S m l → l[i]? = some o → ∀ L x w, C L x w → L (m + i) = false → (∀ m' j, L m' = true → usesB l0 m' j = true → L j = true) → (∀ m', usesB l0 (m + i) m' = true → L m' = true) → Deps3 k S x w o.after.toList → wpList P ops (FlowPost3 E l0 k build df C S (m + i) L x w) [o] ⟨build x, df⟩ w
 | [], m, i, o, _, h => by simp at h
 | o' :: l, m, 0, o, h, ho => by
  have : o' = o := by simpa using ho
  subst this
  exact h.1
 | o' :: l, m, i + 1, o, h, ho => by
  have := FlowAll3.at l (m + 1) i o h.2 (by simpa using ho)
  rw [show m + (i + 1) = m + 1 + i by omega]
  exact this
theorem deps3_of {k : Nat → Nat} {S : Nat → Value → Value → World → Prop} {x : Nat → Value} {w : World} : ∀ l : List Edge, (∀ e ∈ l, dataE e = true → S e.on (x e.on) (x (k e.on)) w) → Deps3 k S x w l
 | [], _ => trivial
 | e :: l, h => ⟨h e (by simp), deps3_of l fun e' he => h e' (by simp [he])⟩
theorem any_flow3 {E : Nat → Bool} {k : Nat → Nat} {l : List Oper} {Q : Exit → Act → World → Prop} {build : (Nat → Value) → Array Value} {df : List Deferred} {C : (Nat → Bool) → (Nat → Value) → World → Prop} {S : Nat → Value → Value → World → Prop} (hB : flowB l = true) (hk : tiedB k l = true) (hall : FlowAll3 P l.toArray E l k build df C S 0 l)
  (hend : ∀ L x w, C L x w → (∀ i, i < l.length → E i = true → S i (x i) (x (k i)) w) → Q .normal ⟨build x, df⟩ w) :
  ∀ (f : Nat) (listed : Array Bool) (x : Nat → Value) (w : World), listed.size = l.length → cnt listed l.length ≤ f → C (fun j => listed.getD j false) x w → (∀ i, listed.getD i false = true → (E i = true ∨ ∃ m, m < l.length ∧ listed.getD m true = false ∧ usesB l m i = true) → S i (x i) (x (k i)) w) → (∀ i, listed.getD i false = true → listed.getD (k i) false = true) → (∀ m j, listed.getD m false = true → usesB l m j = true → listed.getD j false = true) → wpAny P .any l.toArray Q f listed ⟨build x, df⟩ w := by
 have hfull : ∀ (listed : Array Bool) (x : Nat → Value) (w : World), listed.size = l.length → C (fun j => listed.getD j false) x w → (∀ i, listed.getD i false = true → (E i = true ∨ ∃ m, m < l.length ∧ listed.getD m true = false ∧ usesB l m i = true) → S i (x i) (x (k i)) w) → Region.ready .any l.toArray listed = [] → Q .normal ⟨build x, df⟩ w := by
  intro listed x w hs hC hS hr
  have hlt : ∀ n i, i < n → i < l.length → listed.getD i true = true := by
   intro n
   induction n with
   | zero => intro i hi; omega
   | succ n ih =>
    intro i hi hil
    rcases Nat.lt_or_ge i n with h | h
    ·exact ih i h hil
    ·obtain rfl : i = n := by omega
     apply Classical.byContradiction
     intro hne
     have hf : listed.getD i true = false := by simpa using hne
     have : i ∈ Region.ready .any l.toArray listed := by
      refine mem_ready.2 ⟨hf, l[i], by simp [hil], fun e he hbd => ?_⟩
      have h1 := List.all_eq_true.1 hB i (by simpa using hil)
      simp only [List.getElem?_eq_getElem hil, Option.map_some, Option.getD_some] at h1
      have h2 := Array.all_eq_true_iff_forall_mem.1 h1 e he
      have h3 : e.on < i := by rw [hbd] at h2; simpa using h2
      have h4 := ih e.on h3 (by omega)
      have h5 : e.on < listed.size := by omega
      simp only [Array.getD, h5, dite_true] at h4 ⊢
      exact h4
     rw [hr] at this
     cases this
  refine hend _ x w hC fun i hi hE => hS i ?_ (.inl hE)
  have h4 := hlt (i + 1) i (by omega) hi
  have h5 : i < listed.size := by omega
  simp only [Array.getD, h5, dite_true] at h4 ⊢
  exact h4
 intro f
 induction f with
 | zero =>
  intro listed x w hs hc hC hS hT hD
  have hr : Region.ready .any l.toArray listed = [] := by
   rw [List.eq_nil_iff_forall_not_mem]
   intro i hi
   obtain ⟨hu, o, ho, _⟩ := mem_ready.1 hi
   have hil : i < l.length := by have := (Array.getElem?_eq_some_iff.1 ho).1; simpa using this
   have : 0 < cnt listed l.length := List.countP_pos_iff.2 ⟨i, by simpa using hil, by rw [hu]; rfl⟩
   omega
  exact ⟨hr, hfull listed x w hs hC hS hr⟩
 | succ f ih =>
  intro listed x w hs hc hC hS hT hD
  refine ⟨fun hr => hfull listed x w hs hC hS hr, fun i hi => ?_⟩
  obtain ⟨hu, o, ho, hd⟩ := mem_ready.1 hi
  have hil : i < l.length := by have := (Array.getElem?_eq_some_iff.1 ho).1; simpa using this
  have hol : l[i]? = some o := by simpa using ho
  have hui : listed.getD i false = false := by
   have : i < listed.size := by omega
   simp only [Array.getD, this, dite_true] at hu ⊢
   exact hu
  have hdn : ∀ j, usesB l (0 + i) j = true → listed.getD j false = true := fun j huse => by
   rw [Nat.zero_add] at huse
   unfold usesB at huse
   rw [hol, Option.map_some, Option.getD_some] at huse
   obtain ⟨q, hq, h2⟩ := Array.any_eq_true.1 huse
   simp only [Bool.and_eq_true] at h2
   have h3 := hd _ (Array.getElem_mem hq) (dataE_binds h2.1)
   rw [Nat.eq_of_beq_eq_true h2.2] at h3
   exact h3
  have hstep := hall.at l 0 i o hol (fun j => listed.getD j false) x w hC (by rw [Nat.zero_add]; exact hui) hD hdn (deps3_of _ fun e he hb => hS e.on (hd e (by simpa using he) (dataE_binds hb)) (.inr ⟨i, hil, hu, by
   unfold usesB
   rw [hol, Option.map_some, Option.getD_some]
   exact Array.any_eq_true'.2 ⟨e, by simpa using he, by rw [hb]; simp⟩⟩))
  rw [Nat.zero_add] at hstep
  refine wpOp_flow ho (fun e a w he h => ?_) (fun a' w' h => ?_) hstep
  ·cases e <;> first | exact he rfl | exact h
  ·obtain ⟨v, rfl, hC', hS', hk'⟩ := h
   have hfe : (fun j => (listed.setIfInBounds i true).getD j false) = updB (fun j => listed.getD j false) i := by
    funext j
    by_cases e : j = i
    ·subst e
     have h1 : j < (listed.setIfInBounds j true).size := by simp; omega
     rw [updB_same]
     simp only [Array.getD, h1, dite_true]; simp
    ·rw [getD_set_ne false (Ne.symm e)]
     unfold updB
     rw [show Nat.beq j i = false by cases hb : Nat.beq j i; rfl; exact absurd (Nat.eq_of_beq_eq_true hb) e]; rfl
   have hset0 : ∀ m, listed.getD m false = true → (listed.setIfInBounds i true).getD m false = true := fun m hm => by
    have := congrFun hfe m
    rw [this]; unfold updB; simp only [hm, Bool.or_true]
   refine ih _ _ _ (by simp [hs]) ?_ (by rw [hfe]; exact hC') (fun j hj hn => ?_) (fun j hj => ?_) fun m j hm huse => ?_
   ·have h1 := countP_drop (p := fun k => !listed.getD k true) (q := fun k => !(listed.setIfInBounds i true).getD k true) (i := i) (List.range l.length) List.nodup_range (by simpa using hil) (by rw [hu]; rfl)
     (by have : i < (listed.setIfInBounds i true).size := by simp; omega
         simp only [Array.getD, this, dite_true]; simp) (fun j hj => by rw [getD_set_ne true (Ne.symm hj)])
    have h2 : cnt listed l.length ≤ f + 1 := hc
    unfold cnt at h2 ⊢
    omega
   ·by_cases e : j = i
    ·subst e; rw [upd_same]; exact hS'
    ·rw [getD_set_ne false (Ne.symm e)] at hj
     have hki : k j ≠ i := fun e2 => by
      have := hT j hj
      rw [e2, getD_both hu] at this
      cases this
     rw [upd_ne x v e, upd_ne x v hki]
     have hn' : E j = true ∨ ∃ m, m < l.length ∧ m ≠ i ∧ listed.getD m true = false ∧ usesB l m j = true := by
      rcases hn with h | ⟨m, h1, h2, h3⟩
      ·exact .inl h
      ·refine .inr ⟨m, h1, ?_, ?_, h3⟩
       ·intro em
        subst em
        have : m < (listed.setIfInBounds m true).size := by simp; omega
        simp only [Array.getD, this, dite_true] at h2
        simp at h2
       ·by_cases em : m = i
        ·subst em
         have : m < (listed.setIfInBounds m true).size := by simp; omega
         simp only [Array.getD, this, dite_true] at h2
         simp at h2
        ·rwa [getD_set_ne true (Ne.symm em)] at h2
     refine hk' j _ _ hj ?_ (hS j hj ?_)
     ·rcases hn' with h | ⟨m, h1, h2, h4, h3⟩
      ·exact .inl h
      ·refine .inr ⟨m, mem_users h1 h3, h2, ?_⟩
       have : m < listed.size := by omega
       simp only [Array.getD, this, dite_true] at h4 ⊢
       exact h4
     ·rcases hn' with h | ⟨m, h1, _, h2, h3⟩
      ·exact .inl h
      ·exact .inr ⟨m, h1, h2, h3⟩
   ·have hset : ∀ m, listed.getD m false = true → (listed.setIfInBounds i true).getD m false = true := fun m hm => by
     by_cases e : m = i
     ·subst e; rw [getD_both hu] at hm; cases hm
     ·rw [getD_set_ne false (Ne.symm e)]; exact hm
    by_cases e : j = i
    ·subst e
     have h1 := List.all_eq_true.1 hk j (by simpa using hil)
     simp only [Bool.or_eq_true] at h1
     rcases h1 with h1 | h1
     ·rw [Nat.eq_of_beq_eq_true h1]; exact hj
     ·have ho' : l[j]? = some o := by simpa using ho
      rw [ho', Option.map_some, Option.getD_some] at h1
      obtain ⟨m, hm, h2⟩ := Array.any_eq_true.1 h1
      obtain ⟨e, he, h2⟩ : ∃ e ∈ o.after, (Region.binds .any e && Nat.beq e.on (k j)) = true := ⟨_, Array.getElem_mem hm, h2⟩
      simp only [Bool.and_eq_true] at h2
      rw [← Nat.eq_of_beq_eq_true h2.2]
      exact hset _ (hd e he h2.1)
    ·rw [getD_set_ne false (Ne.symm e)] at hj
     exact hset _ (hT j hj)
   ·by_cases e : m = i
    ·subst e
     unfold usesB at huse
     rw [hol, Option.map_some, Option.getD_some] at huse
     obtain ⟨q, hq, h2⟩ := Array.any_eq_true.1 huse
     simp only [Bool.and_eq_true] at h2
     have h3 := hd _ (Array.getElem_mem hq) (dataE_binds h2.1)
     rw [Nat.eq_of_beq_eq_true h2.2] at h3
     exact hset0 _ h3
    ·rw [getD_set_ne false (Ne.symm e)] at hm
     exact hset0 _ (hD m j hm huse)
/-- the region -/
theorem region_flow3 {l : List Oper} {Q : Exit → Act → World → Prop} {id : Nat} {df : List Deferred} {w : World} (hm : P.follows .mixedOrders = true) (hB : flowB l = true) (E : Nat → Bool)
  (k : Nat → Nat) (hk : tiedB k l = true) (build : (Nat → Value) → Array Value) (x0 : Nat → Value) (C : (Nat → Bool) → (Nat → Value) → World → Prop) (S : Nat → Value → Value → World → Prop) (hC : C (fun _ => false) x0 w.drew) (hall : FlowAll3 P l.toArray E l k build df C S 0 l)
  (hend : ∀ L x w, C L x w → (∀ i, i < l.length → E i = true → S i (x i) (x (k i)) w) → Q .normal ⟨build x, df⟩ w) : (Code.region id l.toArray true).wp P Q ⟨build x0, df⟩ w := by
 have hf : (fun j => (Array.replicate l.toArray.size false).getD j false) = fun _ => false := by funext j; exact getD_replicate_false _ _
 refine wp_region_any hm (any_flow3 hB hk hall hend _ _ _ _ (by simp) ?_ (by rw [hf]; exact hC) (fun i hi => ?_) (fun i hi => ?_) fun m j hm _ => ?_)
 ·have : cnt (Array.replicate l.toArray.size false) l.length ≤ (List.range l.length).length := List.countP_le_length
  simpa using this
 ·rw [getD_replicate_false] at hi; cases hi
 ·rw [getD_replicate_false] at hi; cases hi
 ·rw [getD_replicate_false] at hm; cases hm
end
open Go.RowKit SzSha
set_option linter.unusedVariables false
set_option maxRecDepth 100000 in
theorem concat2 (g n1 c1 n2 c2 : Nat) (A1 A2 : Option Addr) (l1 l2 : List Nat) (w : World) (hg : g < w.heap.size) (h0 : w.cell? ⟨g, 0, none⟩ = some (.slice A1 n1 c1)) (h1 : w.cell? ⟨g, 1, none⟩ = some (.slice A2 n2 c2))
  (hn1 : Hid (l1.length = n1)) (hn2 : Hid (l2.length = n2)) (m1 : n1 ≤ 4294967296) (m2 : n2 ≤ 4294967296) (a1 : A1 = none → c1 = 0) (a2 : A2 = none → c2 = 0) (r1 : Hid (Rd w w.heap.size A1 l1)) (r2 : Hid (Rd w w.heap.size A2 l2)) :
  Calls Tryz.prog 134 #[.slice (some ⟨g, 0, none⟩) 2 2] w fun e w' => ∃ v, e = .returned v ∧ OwnB w' w.heap.size v (l1 ++ l2) ∧ Below w.heap.size w w' := by
 have HA1 := hid a1
 have HA2 := hid a2
 clear a1 a2
 go_enter Tryz.func134, Tryz.ntmps134
 go_wp2_with fail
 go_loop [3, 11] (fun s i => (i = .int .i64 0 ∧ s = .int .i64 0) ∨ (i = .int .i64 1 ∧ s = .int .i64 n1) ∨ (i = .int .i64 2 ∧ s = .int .i64 ((n1 + n2 : Nat) : Int))) (fun _ i => 2 - (intOf i).toNat)
 case atStart => exact .inl ⟨rfl, rfl⟩
 case round =>
  rcases hrel with ⟨rfl, rfl⟩ | ⟨rfl, rfl⟩ | ⟨rfl, rfl⟩
  ·go_wp2_with fail
   go_round
   case rel => exact .inr (.inl ⟨rfl, rfl⟩)
   case measure => simp [intOf]
  ·go_wp2_with fail
   go_round
   case rel => exact .inr (.inr ⟨rfl, by go_num⟩)
   case measure => simp [intOf]
  ·go_wp2_with fail
   refine (grow_nil (n1 + n2) _ (by omega)).mono ?_
   rintro e w1 ⟨v, rfl, ho1, hb1⟩
   have HO1 := hid ho1
   have HB1 := hid hb1
   clear ho1 hb1
   go_wp2_with fail
   go_loopw [6, 27] (fun v i wr => Hid (Below w.heap.size w wr) ∧ ((i = .int .i64 0 ∧ Hid (OwnB wr w.heap.size v [])) ∨ (i = .int .i64 1 ∧ Hid (OwnB wr w.heap.size v l1)) ∨ (i = .int .i64 2 ∧ Hid (OwnB wr w.heap.size v (l1 ++ l2))))) (fun _ i _ => 2 - (intOf i).toNat)
   case atStart => exact ⟨HB1, .inl ⟨rfl, HO1⟩⟩
   case round =>
    clear HO1 HB1
    obtain ⟨hB, hrel⟩ := hrel
    rcases hrel with ⟨rfl, hO⟩ | ⟨rfl, hO⟩ | ⟨rfl, hO⟩
    ·have c0 : wr.cell? ⟨g, 0, none⟩ = some (.slice A1 n1 c1) := (hB.out.cell (p := ⟨g, 0, none⟩) hg).trans h0
     go_wp2_with (at_builtin; refine wpList_append_bytes rfl (.tmp 31) (.tmp 32) rfl w.heap.size _ [] l1 rfl hO A1 n1 c1 rfl hn1 HA1.out (hid (fun hl => by obtain ⟨g, off, e, hg, hc⟩ := r1.out hl; exact ⟨g, off, e, Nat.lt_of_lt_of_le hg hB.out.size, fun i hi => (hB.out.cell (p := ⟨g, off + i, none⟩) hg).trans (hc i hi)⟩)) (by simp; omega) hB.out.size ?_; intro v2 w2 HO2 HB2)
     go_roundw
     case rel => exact ⟨hid (hB.out.trans HB2.out), .inr (.inl ⟨rfl, HO2⟩)⟩
     case measure => simp [intOf]
    ·have c0 : wr.cell? ⟨g, 1, none⟩ = some (.slice A2 n2 c2) := (hB.out.cell (p := ⟨g, 1, none⟩) hg).trans h1
     go_wp2_with (at_builtin; refine wpList_append_bytes rfl (.tmp 31) (.tmp 32) rfl w.heap.size _ l1 l2 rfl hO A2 n2 c2 rfl hn2 HA2.out (hid (fun hl => by obtain ⟨g, off, e, hg, hc⟩ := r2.out hl; exact ⟨g, off, e, Nat.lt_of_lt_of_le hg hB.out.size, fun i hi => (hB.out.cell (p := ⟨g, off + i, none⟩) hg).trans (hc i hi)⟩)) (by rw [hn1.out]; omega) hB.out.size ?_; intro v2 w2 HO2 HB2)
     go_roundw
     case rel => exact ⟨hid (hB.out.trans HB2.out), .inr (.inr ⟨rfl, HO2⟩)⟩
     case measure => simp [intOf]
    ·go_wp2_with fail
     go_ret
     exact ⟨_, rfl, hO.out, hB.out⟩
/-- the bytes of a string -/
def strL (s : ByteArray) : List Nat := s.data.toList.map UInt8.toNat
theorem strL_length (s : ByteArray) : (strL s).length = s.size := by simp [strL]
theorem strL_bytes (s : ByteArray) : Bytes (strL s) := fun x hx => by
 simp only [strL, List.mem_map] at hx
 obtain ⟨b, _, rfl⟩ := hx
 exact b.toNat_lt
theorem conv_bytes (s : ByteArray) (W : World) : ∃ c W2, (convert 9 143 (.string s)).run Tryz.prog W = .ok (.slice (some ⟨W.heap.size, 0, none⟩) s.size c) W2 ∧ s.size ≤ c ∧ Below W.heap.size W W2 ∧ W.heap.size < W2.heap.size ∧ BytesAt W2 W.heap.size 0 (strL s) := by
 refine ⟨_, _, Lib.run_convert_string_bytes W 9 143 5 s Tryz.underlying9 Tryz.underlying143 Tryz.underlying5, grownCap_ge _ _ _ _, ⟨rfl, rfl, rfl, ?_, fun k hk => Lib.bytesWorld_at_old W _ s k hk⟩, ?_, fun i hi => ?_⟩
 ·rw [Lib.bytesWorld_size]; omega
 ·rw [Lib.bytesWorld_size]; omega
 ·rw [strL_length] at hi
  rw [Nat.zero_add, Lib.bytesWorld_cell W _ s i hi]
  have h2 : i < s.data.toList.length := by simpa using hi
  simp only [strL, List.getD_eq_getElem?_getD, List.getElem?_map, List.getElem?_eq_getElem h2, Option.map_some, Option.getD_some]
theorem size32 (l : List Nat) (h : l.length = 32) : (Tryz.prog.info? 25).map (·.size) = some (l.map fun x => Value.int .u8 (x : Nat)).toArray.size := by
 have : (l.map fun x => Value.int .u8 (x : Nat)).toArray.size = 32 := by simp [h]
 rw [this]; show _ = _; kernel_rfl
theorem bytesAt_arr {w : World} {g t : Nat} {l : List Nat} (h : w.heap[g]? = some (.cells (l.map fun x => Value.int .u8 (x : Nat)).toArray t (0, 0))) : BytesAt w g 0 l := fun i hi => by
 rw [Nat.zero_add, cell_of_row w g i _ _ _ h]
 simp [List.getD_eq_getElem?_getD, hi]
/-- a variable that is laid, then written whole -/
theorem laid_row (W : World) (Z cells : Array Value) (t : TypeId) : Below W.heap.size W ((W.alloc (.cells Z t)).setRow W.heap.size cells) ∧ ((W.alloc (.cells Z t)).setRow W.heap.size cells).heap.size = W.heap.size + 1 ∧ ((W.alloc (.cells Z t)).setRow W.heap.size cells).heap[W.heap.size]? = some (.cells cells t (0, 0)) :=
 ⟨below_setRow ((Below.refl _ _).alloc (Nat.le_refl _) _) (Nat.le_refl _) _, by simp, setRow_heap _ _ _ _ _ _ (heap_alloc_new W _)⟩
theorem pair_row (W : World) (v1 v2 : Value) (t : TypeId) : Below W.heap.size W (W.alloc (.cells #[v1, v2] t)) ∧ (W.alloc (.cells #[v1, v2] t)).heap.size = W.heap.size + 1 ∧ (W.alloc (.cells #[v1, v2] t)).cell? ⟨W.heap.size, 0, none⟩ = some v1 ∧ (W.alloc (.cells #[v1, v2] t)).cell? ⟨W.heap.size, 1, none⟩ = some v2 :=
 ⟨(Below.refl _ _).alloc (Nat.le_refl _) _, by simp, by rw [cell_of_row _ _ _ _ _ _ (heap_alloc_new W _)]; rfl, by rw [cell_of_row _ _ _ _ _ _ (heap_alloc_new W _)]; rfl⟩
theorem Rd.mono {w : World} {B B' : Nat} {A : Option Addr} {l : List Nat} (h : Rd w B A l) (hB : B ≤ B') : Rd w B' A l := fun hl => by
 obtain ⟨g, off, e, hg, hc⟩ := h hl
 exact ⟨g, off, e, Nat.lt_of_lt_of_le hg hB, hc⟩
set_option maxRecDepth 100000 in
theorem tagged_any (tag : ByteArray) (A : Option Addr) (n c : Nat) (l : List Nat) (w : World) (htag : tag.size ≤ 4294967296) (hn : Hid (l.length = n)) (hc : n ≤ c) (hA : A = none → c = 0) (hsz : n ≤ 2147483648) (hb : Hid (Bytes l)) (hT : Hid (Tabs w)) (hR : Hid (Rd w w.heap.size A l)) :
  Calls Tryz.prog 89 #[.string tag, .slice A n c] w fun e w' => e = .returned (dgV (tagged (strL tag) l)) ∧ Below w.heap.size w w' := by
 have HA := hid hA
 clear hA
 have hb0 : Below w.heap.size w (w.alloc (.cells #[.int .u8 0, .int .u8 0, .int .u8 0, .int .u8 0, .int .u8 0, .int .u8 0, .int .u8 0, .int .u8 0, .int .u8 0, .int .u8 0, .int .u8 0, .int .u8 0, .int .u8 0, .int .u8 0, .int .u8 0, .int .u8 0, .int .u8 0, .int .u8 0, .int .u8 0, .int .u8 0, .int .u8 0, .int .u8 0, .int .u8 0, .int .u8 0, .int .u8 0, .int .u8 0, .int .u8 0, .int .u8 0, .int .u8 0, .int .u8 0, .int .u8 0, .int .u8 0] 25)) := (Below.refl _ _).alloc (Nat.le_refl _) _
 obtain ⟨c0, W2, hconv, hc0, hbc, hlt2, hby⟩ := conv_bytes tag (w.alloc (.cells #[.int .u8 0, .int .u8 0, .int .u8 0, .int .u8 0, .int .u8 0, .int .u8 0, .int .u8 0, .int .u8 0, .int .u8 0, .int .u8 0, .int .u8 0, .int .u8 0, .int .u8 0, .int .u8 0, .int .u8 0, .int .u8 0, .int .u8 0, .int .u8 0, .int .u8 0, .int .u8 0, .int .u8 0, .int .u8 0, .int .u8 0, .int .u8 0, .int .u8 0, .int .u8 0, .int .u8 0, .int .u8 0, .int .u8 0, .int .u8 0, .int .u8 0, .int .u8 0] 25))
 have hbl0 : (w.alloc (.cells #[.int .u8 0, .int .u8 0, .int .u8 0, .int .u8 0, .int .u8 0, .int .u8 0, .int .u8 0, .int .u8 0, .int .u8 0, .int .u8 0, .int .u8 0, .int .u8 0, .int .u8 0, .int .u8 0, .int .u8 0, .int .u8 0, .int .u8 0, .int .u8 0, .int .u8 0, .int .u8 0, .int .u8 0, .int .u8 0, .int .u8 0, .int .u8 0, .int .u8 0, .int .u8 0, .int .u8 0, .int .u8 0, .int .u8 0, .int .u8 0, .int .u8 0, .int .u8 0] 25)).heap[w.heap.size]? = some (.cells #[.int .u8 0, .int .u8 0, .int .u8 0, .int .u8 0, .int .u8 0, .int .u8 0, .int .u8 0, .int .u8 0, .int .u8 0, .int .u8 0, .int .u8 0, .int .u8 0, .int .u8 0, .int .u8 0, .int .u8 0, .int .u8 0, .int .u8 0, .int .u8 0, .int .u8 0, .int .u8 0, .int .u8 0, .int .u8 0, .int .u8 0, .int .u8 0, .int .u8 0, .int .u8 0, .int .u8 0, .int .u8 0, .int .u8 0, .int .u8 0, .int .u8 0, .int .u8 0] 25 (0, 0)) := heap_alloc_new w _
 have hbl2 := hid ((hbc.block w.heap.size (by simp)).trans hbl0)
 have hb2 := hid (hb0.trans (hbc.mono (by simp)))
 simp only [World.size_alloc] at hconv hby hlt2
 have HBY := hid hby
 clear hb0 hbl0 hby hbc
 go_enter Tryz.func89, Tryz.ntmps89
 go_wp2_with fail
 refine (dsum_any (some ⟨w.heap.size + 1, 0, none⟩) tag.size c0 (strL tag) _ (hid (strL_length tag)) hc0 htag (hid (strL_bytes tag)) (hid (hT.out.below hb2.out)) (hid (fun _ => ⟨_, _, rfl, hlt2, HBY.out⟩))).mono ?_
 rintro e W3 ⟨rfl, hb3⟩
 have hbl3 := hid ((hb3.block w.heap.size (by omega)).trans hbl2.out)
 have HB3 := hid (hb2.out.trans (hb3.mono hb2.out.size))
 have hs3 : w.heap.size + 1 < W3.heap.size := Nat.lt_of_lt_of_le hlt2 hb3.size
 clear hb3 HBY hbl2 hb2 hconv
 have hold : ∀ m : List Nat, m.length = 32 → 32 = (m.map fun x => Value.int .u8 (x : Nat)).toArray.size := fun m h => by simp [h]
 have HOLD := hid hold
 clear hold
 go_wp2_with (refine wpList_store_row rfl 25 (.tmp 5) (.tmp 8) rfl W3.heap.size ((sha (strL tag)).map fun x => Value.int .u8 (x : Nat)).toArray rfl rfl 25 _ (heap_alloc_new W3 _) (size32 _ (sha_length _)) (HOLD.out _ (sha_length _)) (oneCells _) ?_)
 have hq := laid_row W3 #[.int .u8 0, .int .u8 0, .int .u8 0, .int .u8 0, .int .u8 0, .int .u8 0, .int .u8 0, .int .u8 0, .int .u8 0, .int .u8 0, .int .u8 0, .int .u8 0, .int .u8 0, .int .u8 0, .int .u8 0, .int .u8 0, .int .u8 0, .int .u8 0, .int .u8 0, .int .u8 0, .int .u8 0, .int .u8 0, .int .u8 0, .int .u8 0, .int .u8 0, .int .u8 0, .int .u8 0, .int .u8 0, .int .u8 0, .int .u8 0, .int .u8 0, .int .u8 0] ((sha (strL tag)).map fun x => Value.int .u8 (x : Nat)).toArray 25
 generalize (W3.alloc (.cells #[.int .u8 0, .int .u8 0, .int .u8 0, .int .u8 0, .int .u8 0, .int .u8 0, .int .u8 0, .int .u8 0, .int .u8 0, .int .u8 0, .int .u8 0, .int .u8 0, .int .u8 0, .int .u8 0, .int .u8 0, .int .u8 0, .int .u8 0, .int .u8 0, .int .u8 0, .int .u8 0, .int .u8 0, .int .u8 0, .int .u8 0, .int .u8 0, .int .u8 0, .int .u8 0, .int .u8 0, .int .u8 0, .int .u8 0, .int .u8 0, .int .u8 0, .int .u8 0] 25)).setRow W3.heap.size ((sha (strL tag)).map fun x => Value.int .u8 (x : Nat)).toArray = W4 at *
 obtain ⟨q1, q2, q3⟩ := hq
 have hq := pair_row W4 (.slice (some ⟨W3.heap.size, 0, none⟩) 32 32) (.slice A n c) 143
 generalize W4.alloc (.cells #[.slice (some ⟨W3.heap.size, 0, none⟩) 32 32, .slice A n c] 143) = W5 at *
 obtain ⟨q4, q5, q6, q7⟩ := hq
 rw [q2] at q5 q6 q7
 have HB5 := hid ((HB3.out.trans (q1.mono HB3.out.size)).trans (q4.mono (by rw [q2]; have := HB3.out.size; omega)))
 have hbl5 := hid ((q4.block w.heap.size (by rw [q2]; omega)).trans ((q1.block w.heap.size (by omega)).trans hbl3.out))
 have hd5 := hid ((q4.block W3.heap.size (by rw [q2]; omega)).trans q3)
 have hs5 : W3.heap.size + 1 < W5.heap.size := by omega
 clear q1 q2 q3 q4 q5 HB3 hbl3
 refine (concat2 (W3.heap.size + 1) 32 32 n c (some ⟨W3.heap.size, 0, none⟩) A (sha (strL tag)) l _ hs5 q6 q7 (hid (sha_length _)) hn (by omega) (by omega) (fun h => by cases h) HA.out (hid (fun _ => ⟨_, _, rfl, by omega, bytesAt_arr hd5.out⟩)) (hid ((hR.out.below HB5.out (Nat.le_refl _)).mono HB5.out.size))).mono ?_
 rintro e W6 ⟨v, rfl, ho6, hb6⟩
 obtain ⟨A6, n6, c6, rfl, hn6, hc6, _, HR6⟩ := ho6.slice
 have hbl6 := hid ((hb6.block w.heap.size (by omega)).trans hbl5.out)
 have HB6 := hid (HB5.out.trans (hb6.mono HB5.out.size))
 have hbb : Hid (Bytes (sha (strL tag) ++ l)) := hid (fun x hx => by
  rcases List.mem_append.1 hx with h | h
  ·exact sha_bytes _ x h
  ·exact hb.out x h)
 have hs6 : w.heap.size < W6.heap.size := by have := hb6.size; omega
 have hm6 : n6 ≤ 4294967296 := by rw [← hn6.out, List.length_append, sha_length, hn.out]; omega
 clear ho6 hb6 hd5 hbl5 HB5 q6 q7
 go_wp2_with fail
 refine (dsum_any A6 n6 c6 (sha (strL tag) ++ l) _ hn6 hc6 hm6 hbb (hid (hT.out.below HB6.out)) HR6).mono ?_
 rintro e W7 ⟨rfl, hb7⟩
 have hbl7 := hid ((hb7.block w.heap.size hs6).trans hbl6.out)
 have HB7 := hid (HB6.out.trans (hb7.mono HB6.out.size))
 clear hb7 HB6 hbl6 HR6 hbb
 go_wp2_with (refine wpList_store_row rfl 25 (.tmp 4) (.tmp 13) rfl w.heap.size ((sha (sha (strL tag) ++ l)).map fun x => Value.int .u8 (x : Nat)).toArray rfl rfl 25 _ hbl7.out (size32 _ (sha_length _)) (HOLD.out _ (sha_length _)) (oneCells _) ?_)
 refine bodyPost_ret (results_cell_row rfl _ _ w.heap.size 25 _ (0, 0) _ rfl (setRow_heap W7 w.heap.size _ _ _ _ hbl7.out) Tryz.underlying25 rfl (size32 _ (sha_length _))) rfl ?_
 exact ⟨rfl, below_setRow HB7.out (Nat.le_refl _) _⟩
open SzTree
set_option maxRecDepth 100000
/-- a slice lies in the old one's block or in a new one -/
def OwnG (v0 : Value) (N : Nat) (v : Value) : Prop := v.ownBlock = v0.ownBlock ∨ ∃ g, v.ownBlock = some g ∧ N ≤ g
theorem OwnG.of_grew {v0 v v' : Value} {w w' : World} {N : Nat} (hN : N ≤ w.heap.size) (h : OwnG v0 N v) (k : Grew v v' w w') : OwnG v0 N v' := by
 rcases k.2 with e | ⟨g, e, hg⟩
 ·rcases h with e2 | ⟨g, e2, hg⟩
  ·exact .inl (e.trans e2)
  ·exact .inr ⟨g, e.trans e2, hg⟩
 ·exact .inr ⟨g, e, Nat.le_trans hN hg⟩
/-- what the call began with stays, but for the block of the slice that it writes to -/
theorem grown_grew {v0 v v' : Value} {W w w' : World} (hC : W.grownBy w v0.ownBlock) (h : OwnG v0 W.heap.size v) (k : Grew v v' w w') : W.grownBy w' v0.ownBlock :=
 ⟨k.1.os.trans hC.os, k.1.tape.trans hC.tape, k.1.output.trans hC.output, Nat.le_trans hC.size k.1.size, fun i hi hne => (k.1.block i (Nat.lt_of_lt_of_le hi hC.size) (fun e => by
  rcases h with e2 | ⟨g, e2, hg⟩
  ·exact hne (e.trans e2)
  ·rw [e2] at e
   injection e with e
   omega)).trans (hC.block i hi hne)⟩
theorem grown_below {v0 : Value} {W w w' : World} (hC : W.grownBy w v0.ownBlock) (hb : Below w.heap.size w w') : W.grownBy w' v0.ownBlock :=
 ⟨hb.os.trans hC.os, hb.tape.trans hC.tape, hb.output.trans hC.output, Nat.le_trans hC.size hb.size, fun i hi hne => (hb.block i (Nat.lt_of_lt_of_le hi hC.size)).trans (hC.block i hi hne)⟩
theorem grown_drew (v0 : Value) (W : World) : W.grownBy W.drew v0.ownBlock := ⟨rfl, rfl, rfl, Nat.le_refl _, fun _ _ _ => rfl⟩
theorem grew_of {v0 v : Value} {W w : World} (hC : W.grownBy w v0.ownBlock) (h : OwnG v0 W.heap.size v) : Grew v0 v W w := ⟨hC, h⟩
def wI (base N b : Nat) (v0 : Value) (l : List Nat) (z : Int) (u : Nat) : Nat → Value → World → Prop
 | 0, fv, _ => fv = v0
 | 1, fv, fw => ∃ g, fv = .slice (some ⟨g, 0, none⟩) 1 1 ∧ Rd fw fw.heap.size (some ⟨g, 0, none⟩) [1]
 | 2, fv, fw => OwnB fw base fv (l ++ [1]) ∧ OwnG v0 N fv
 | 3, fv, _ => fv = .pointer (some ⟨b, 1, none⟩)
 | 4, fv, _ => fv = .int .i64 z
 | 5, fv, _ => fv = .int .u64 (u : Nat)
 | 6, fv, fw => OwnB fw base fv (l ++ [1] ++ num u) ∧ OwnG v0 N fv
 | 7, fv, fw => OwnB fw base fv (l ++ [1] ++ num u) ∧ OwnG v0 N fv
 | _, _, _ => True
theorem wI_below {base N b : Nat} {v0 : Value} {l : List Nat} {z : Int} {u : Nat} {w w' : World} (hb : Below w.heap.size w w') : ∀ j v, wI base N b v0 l z u j v w → wI base N b v0 l z u j v w'
 | 0, v, h => h
 | 1, v, ⟨g, h1, h2⟩ => ⟨g, h1, (h2.below hb (Nat.le_refl _)).mono hb.size⟩
 | 2, v, h => ⟨h.1.below hb, h.2⟩
 | 3, v, h => h
 | 4, v, h => h
 | 5, v, h => h
 | 6, v, h => ⟨h.1.below hb, h.2⟩
 | 7, v, h => ⟨h.1.below hb, h.2⟩
 | n + 8, v, h => trivial
theorem updB_self {L : Nat → Bool} {i : Nat} (h : updB L i i = false) : False := by rw [updB_same] at h; cases h
theorem wI_pure {base N b : Nat} {v0 : Value} {l : List Nat} {z : Int} {u : Nat} {w w' : World} : ∀ j v, j ≠ 1 → j ≠ 2 → j ≠ 6 → j ≠ 7 → wI base N b v0 l z u j v w → wI base N b v0 l z u j v w'
 | 0, v, _, _, _, _, h => h
 | 1, v, h, _, _, _, _ => absurd rfl h
 | 2, v, _, h, _, _, _ => absurd rfl h
 | 3, v, _, _, _, _, h => h
 | 4, v, _, _, _, _, h => h
 | 5, v, _, _, _, _, h => h
 | 6, v, _, _, h, _, _ => absurd rfl h
 | 7, v, _, _, _, h, _ => absurd rfl h
 | n + 8, v, _, _, _, _, h => trivial
theorem write_int (v0 : Value) (l : List Nat) (z : Int) (base : Nat) (w : World) (hz1 : -9223372036854775808 ≤ z) (hz2 : z ≤ 9223372036854775807) (hO : Hid (OwnB w base v0 l)) (hl : l.length ≤ 1000000) (hb : base ≤ w.heap.size) :
  Calls Tryz.prog 157 #[v0, .agg #[.int .i64 1, .int .i64 z, .string ⟨#[]⟩, .slice none 0 0]] w fun e w' => ∃ v', e = .returned v' ∧ OwnB w' base v' (l ++ 1 :: num (zig z)) ∧ Grew v0 v' w w' := by
 have hu := zig_lt hz1 hz2
 obtain ⟨u, HU⟩ : ∃ u, Hid (zig z = u) := ⟨_, hid rfl⟩
 rw [HU.out] at hu
 have HUL := hid hu
 have ZB := hid (And.intro hz1 hz2)
 clear hz1 hz2 hu
 have HB0 := hid ((Below.refl _ w).alloc (Nat.le_refl _) (.cells #[.int .i64 1, .int .i64 z, .string ⟨#[]⟩, .slice none 0 0] 148))
 have HO1 := hid (hO.out.below HB0.out)
 have HC1 : Hid ((w.alloc (.cells #[.int .i64 1, .int .i64 z, .string ⟨#[]⟩, .slice none 0 0] 148)).cell? ⟨w.heap.size, 1, none⟩ = some (.int .i64 z)) := hid (by rw [cell_of_row _ _ _ _ _ _ (heap_alloc_new w _)]; rfl)
 have HNE : Hid (some w.heap.size ≠ v0.ownBlock) := hid (fun e => by have := (hO.out.block _ e.symm).2; omega)
 go_enter Tryz.func157, Tryz.ntmps157
 go_wp2_with fail
 have HBS : Hid (base ≤ (w.alloc (.cells #[.int .i64 1, .int .i64 z, .string ⟨#[]⟩, .slice none 0 0] 148)).heap.size) := hid (Nat.le_trans hb HB0.out.size)
 generalize w.alloc (.cells #[.int .i64 1, .int .i64 z, .string ⟨#[]⟩, .slice none 0 0] 148) = W1 at *
 refine region_flow3 (by kernel_rfl) (by kernel_rfl) (fun i => Nat.beq i 7) (fun i => i) (by kernel_rfl)
  (fun fx => #[v0, .agg #[.int .i64 1, .int .i64 z, .string ⟨#[]⟩, .slice none 0 0], undef, .pointer (some ⟨w.heap.size, 0, none⟩), fx 7, fx 0, fx 1, fx 2, fx 3, fx 4, fx 5, fx 6])
  (fun i => bif Nat.beq i 7 then .slice none 0 0 else undef) (fun L _ w' => W1.grownBy w' v0.ownBlock ∧ (L 2 = false → OwnB w' base v0 l)) (fun fi fv _ fw => wI base W1.heap.size w.heap.size v0 l z u fi fv fw) ⟨grown_drew v0 W1, fun _ => HO1.out.below (Below.refl _ _).drew⟩ ?_ ?_
 ·refine ⟨?_, ?_, ?_, ?_, ?_, ?_, ?_, ?_, trivial⟩
  all_goals intro L fx w' hC hi hcl hdn hd
  ·go_wp2_with fail
   exact ⟨_, rfl, ⟨hC.1, fun h => hC.2 h⟩, rfl, kP⟩
  ·go_wp2_with fail
   have hbb : Below w'.heap.size w' (w'.alloc (.cells #[.int .u8 1] 5)) := (Below.refl _ _).alloc (Nat.le_refl _) _
   exact ⟨_, rfl, ⟨grown_below hC.1 hbb, fun h => (hC.2 h).below hbb⟩, ⟨_, rfl, one_rowU w' 1⟩, fun j v t _ _ h => wI_below hbb j v h⟩
  ·have h0 : fx 0 = v0 := hd.1 rfl
   obtain ⟨g, h1, hR⟩ := hd.2.1 rfl
   have HOv := hid (hC.2 hi)
   have HR := hid hR
   have HSZ := hid (Nat.le_trans HBS.out hC.1.size)
   have hlen : l.length + 1 ≤ 1099511627776 := by omega
   refine wpList_append_grew rfl (.tmp 5) (.tmp 6) rfl base v0 l [1] h0 HOv (some ⟨g, 0, none⟩) 1 1 h1 (hid rfl) (fun h => by cases h) HR hlen HSZ.out ?_
   intro v2 w2 HO2 HG2
   clear hd
   go_wp2_with fail
   refine ⟨v2, by rw [← h0, ← h1]; rfl, ⟨grown_grew hC.1 (.inl rfl) HG2.out, fun h => (updB_self h).elim⟩, ⟨HO2.out, OwnG.of_grew hC.1.size (.inl rfl) HG2.out⟩, fun j v t hj hu h => ?_⟩
   refine wI_pure j v ?_ ?_ ?_ ?_ h <;> intro e <;> subst e
   ·refine absurd hu (not_needed (E := fun i => Nat.beq i 7) (j := 1) [2] ?_ ?_ ?_)
    ·kernel_rfl
    ·kernel_rfl
    ·intro m hm hne; simp at hm; omega
   ·rw [hi] at hj; cases hj
   ·have := hcl 6 2 hj (by kernel_rfl); rw [hi] at this; cases this
   ·have := hcl 6 2 (hcl 7 6 hj (by kernel_rfl)) (by kernel_rfl); rw [hi] at this; cases this
  ·go_wp2_with fail
   exact ⟨_, rfl, ⟨hC.1, fun h => hC.2 h⟩, rfl, kP⟩
  ·have h3 : fx 3 = .pointer (some ⟨w.heap.size, 1, none⟩) := hd.1 rfl
   have hc : w'.cell? ⟨w.heap.size, 1, none⟩ = some (.int .i64 z) := hC.1.cell HC1.out HNE.out
   go_wp2_with fail
   exact ⟨_, by rw [← h3]; rfl, ⟨hC.1, fun h => hC.2 h⟩, rfl, kP⟩
  ·have h4 : fx 4 = .int .i64 z := hd.1 rfl
   go_wp2_with fail
   refine (unsigned_any z _ ZB.out.1 ZB.out.2).mono ?_
   rintro e w2 ⟨rfl, rfl⟩
   rw [HU.out]
   go_wp2_with fail
   exact ⟨_, by rw [← h4]; rfl, ⟨hC.1, fun h => hC.2 h⟩, rfl, kP⟩
  ·have H2 := hid (hd.1 rfl)
   have h5 : fx 5 = .int .u64 (u : Nat) := hd.2.1 rfl
   have HSZ := hid (Nat.le_trans HBS.out hC.1.size)
   go_wp2_with fail
   refine (numeral_any (fx 2) (l ++ [1]) u base _ (hid H2.out.1) (by simp; omega) HUL.out HSZ.out).mono ?_
   rintro e w2 ⟨v2, rfl, hO2, hG2⟩
   have HO2 := hid hO2
   have HG2 := hid hG2
   clear hO2 hG2
   go_wp2_with fail
   refine ⟨v2, by rw [← h5]; rfl, ⟨grown_grew hC.1 H2.out.2 HG2.out, fun h => by have h2 : L 2 = false := h; have := hdn 2 (by kernel_rfl); rw [h2] at this; cases this⟩, ⟨HO2.out, OwnG.of_grew hC.1.size H2.out.2 HG2.out⟩, fun j v t hj hu h => ?_⟩
   refine wI_pure j v ?_ ?_ ?_ ?_ h <;> intro e <;> subst e
   ·refine absurd hu (not_needed (E := fun i => Nat.beq i 7) (j := 1) [2] ?_ ?_ ?_)
    ·kernel_rfl
    ·kernel_rfl
    ·intro m hm hne; simp at hm; subst hm; exact hdn 2 (by kernel_rfl)
   ·refine absurd hu (not_needed (E := fun i => Nat.beq i 7) (j := 2) [6] ?_ ?_ ?_)
    ·kernel_rfl
    ·kernel_rfl
    ·intro m hm hne; simp at hm; omega
   ·rw [hi] at hj; cases hj
   ·have := hcl 7 6 hj (by kernel_rfl); rw [hi] at this; cases this
  ·have H6 := hid (hd.1 rfl)
   go_wp2_with fail
   exact ⟨fx 6, rfl, ⟨hC.1, fun h => hC.2 h⟩, H6.out, kP⟩
 ·intro L fx w' hC hS
  have H7 := hid (hS 7 (by decide) rfl)
  have HE : Hid (l ++ 1 :: num (zig z) = l ++ [1] ++ num u) := hid (by rw [HU.out, List.append_assoc]; rfl)
  have HG := hid (Grew.ahead HB0.out (grew_of hC.1 H7.out.2))
  clear hC hS
  go_wp2_with fail
  go_ret
  exact ⟨_, rfl, by rw [HE.out]; exact H7.out.1, HG.out⟩
/-- the table of writers -/
structure Wr (w : World) (q c : Nat) : Prop where
 c1 : w.cell? ⟨q, 1, none⟩ = some (.func (.func 157) #[] #[])
 c3 : w.cell? ⟨q, 3, none⟩ = some (.func (.func 161) #[] #[.pointer (some ⟨c, 0, none⟩)])
 p : w.cell? ⟨c, 0, none⟩ = some (.pointer (some ⟨q, 0, none⟩))
theorem Wr.below {w w' : World} {q c : Nat} (h : Wr w q c) (hb : Below w.heap.size w w') : Wr w' q c :=
 ⟨(hb.cell (block_lt_of_cell h.c1)).trans h.c1, (hb.cell (block_lt_of_cell h.c3)).trans h.c3, (hb.cell (block_lt_of_cell h.p)).trans h.p⟩
theorem newWriter_any (w : World) : Calls Tryz.prog 139 #[] w fun e w' => e = .returned (.pointer (some ⟨w.heap.size, 0, none⟩)) ∧ Wr w' w.heap.size (w.heap.size + 1) ∧ Below w.heap.size w w' := by
 go_enter Tryz.func139, Tryz.ntmps139
 go_wp2_with fail
 go_ret
 have h0 := heap_alloc_new w (.cells #[.nilFunc, .func (.func 157) #[] #[], .func (.func 160) #[] #[], .func (.func 161) #[] #[.pointer (some ⟨w.heap.size + 1, 0, none⟩)]] 201)
 have h1 := heap_alloc_new (w.alloc (.cells #[.nilFunc, .func (.func 157) #[] #[], .func (.func 160) #[] #[], .func (.func 161) #[] #[.pointer (some ⟨w.heap.size + 1, 0, none⟩)]] 201)) (.cells #[.pointer (some ⟨w.heap.size, 0, none⟩)] 179)
 have h2 := (Below.heap_alloc (w.alloc (.cells #[.nilFunc, .func (.func 157) #[] #[], .func (.func 160) #[] #[], .func (.func 161) #[] #[.pointer (some ⟨w.heap.size + 1, 0, none⟩)]] 201)) (.cells #[.pointer (some ⟨w.heap.size, 0, none⟩)] 179) w.heap.size (by simp)).trans h0
 rw [World.size_alloc] at h1
 exact ⟨rfl, ⟨by rw [cell_of_row _ _ _ _ _ _ h2]; rfl, by rw [cell_of_row _ _ _ _ _ _ h2]; rfl, by rw [cell_of_row _ _ _ _ _ _ h1]; rfl⟩, ((Below.refl _ w).alloc (Nat.le_refl _) _).alloc (by simp) _⟩
def wL (base : Nat) (N : Nat) (b : Nat) (v0 : Value) (l : List Nat) (A : Option Addr) (n : Nat) (c : Nat) : Nat → Value → World → Prop
 | 0, fv, _ => fv = v0
 | 1, fv, fw => ∃ g, fv = .slice (some ⟨g, 0, none⟩) 1 1 ∧ Rd fw fw.heap.size (some ⟨g, 0, none⟩) [3]
 | 2, fv, fw => OwnB fw base fv (l ++ [3]) ∧ OwnG v0 N fv
 | 3, fv, _ => fv = .pointer (some ⟨b, 3, none⟩)
 | 4, fv, _ => fv = .slice A n c
 | 5, fv, _ => fv = .int .i64 (n)
 | 6, fv, _ => fv = .int .u64 (n : Nat)
 | 7, fv, fw => OwnB fw base fv (l ++ [3] ++ num n) ∧ OwnG v0 N fv
 | 8, fv, fw => OwnB fw base fv (l ++ [3] ++ num n) ∧ OwnG v0 N fv
 | _, _, _ => True
theorem wL_below {base : Nat} {N : Nat} {b : Nat} {v0 : Value} {l : List Nat} {A : Option Addr} {n : Nat} {c : Nat} {w w' : World} (hb : Below w.heap.size w w') : ∀ j v, wL base N b v0 l A n c j v w → wL base N b v0 l A n c j v w'
 | 0, v, h => h
 | 1, v, ⟨g, h1, h2⟩ => ⟨g, h1, (h2.below hb (Nat.le_refl _)).mono hb.size⟩
 | 2, v, h => ⟨h.1.below hb, h.2⟩
 | 3, v, h => h
 | 4, v, h => h
 | 5, v, h => h
 | 6, v, h => h
 | 7, v, h => ⟨h.1.below hb, h.2⟩
 | 8, v, h => ⟨h.1.below hb, h.2⟩
 | n + 9, v, h => trivial
theorem wL_pure {base : Nat} {N : Nat} {b : Nat} {v0 : Value} {l : List Nat} {A : Option Addr} {n : Nat} {c : Nat} {w w' : World} : ∀ j v, j ≠ 1 → j ≠ 2 → j ≠ 7 → j ≠ 8 → wL base N b v0 l A n c j v w → wL base N b v0 l A n c j v w'
 | 0, v, _, _, _, _, h => h
 | 1, v, hh, _, _, _, _ => absurd rfl hh
 | 2, v, _, hh, _, _, _ => absurd rfl hh
 | 3, v, _, _, _, _, h => h
 | 4, v, _, _, _, _, h => h
 | 5, v, _, _, _, _, h => h
 | 6, v, _, _, _, _, h => h
 | 7, v, _, _, hh, _, _ => absurd rfl hh
 | 8, v, _, _, _, hh, _ => absurd rfl hh
 | n + 9, v, _, _, _, _, h => trivial
def wM (base : Nat) (W2 : World) (wq : Nat) (xb : Nat) (vb : Value) (l : List Nat) (z : Int) : Nat → Value → World → Prop
 | 0, fv, _ => fv = .pointer (some ⟨wq, 0, none⟩)
 | 1, fv, _ => fv = .pointer (some ⟨xb, 0, none⟩)
 | 2, fv, _ => fv = .int .i64 (1)
 | 3, fv, _ => fv = .pointer (some ⟨wq, 0, none⟩)
 | 4, fv, _ => fv = .pointer (some ⟨wq, 1, none⟩)
 | 5, fv, _ => fv = .pointer (some ⟨wq, 1, none⟩)
 | 6, fv, _ => fv = .func (.func 157) #[] #[]
 | 7, fv, _ => fv = vb
 | 8, fv, _ => fv = .agg #[.int .i64 1, .int .i64 z, .string ⟨#[]⟩, .slice none 0 0]
 | 9, fv, fw => OwnB fw base fv (l ++ 1 :: num (zig z)) ∧ Grew vb fv W2 fw
 | 10, fv, fw => OwnB fw base fv (l ++ 1 :: num (zig z)) ∧ Grew vb fv W2 fw
 | _, _, _ => True
theorem wM_pure {base : Nat} {W2 : World} {wq : Nat} {xb : Nat} {vb : Value} {l : List Nat} {z : Int} {w w' : World} : ∀ j v, j ≠ 9 → j ≠ 10 → wM base W2 wq xb vb l z j v w → wM base W2 wq xb vb l z j v w'
 | 0, v, _, _, h => h
 | 1, v, _, _, h => h
 | 2, v, _, _, h => h
 | 3, v, _, _, h => h
 | 4, v, _, _, h => h
 | 5, v, _, _, h => h
 | 6, v, _, _, h => h
 | 7, v, _, _, h => h
 | 8, v, _, _, h => h
 | 9, v, hh, _, _ => absurd rfl hh
 | 10, v, _, hh, _ => absurd rfl hh
 | n + 11, v, _, _, h => trivial
theorem write_list (zs : List Int) (v0 : Value) (l : List Nat) (A : Option Addr) (c wq wc base : Nat) (w : World) (hz : Hid (∀ z ∈ zs, -9223372036854775808 ≤ z ∧ z ≤ 9223372036854775807)) (hn : zs.length ≤ 1000) (hV : Hid (VRd w w.heap.size A zs)) (hO : Hid (OwnB w base v0 l)) (hl : l.length ≤ 1000) (hb : base ≤ w.heap.size) (hW : Hid (Wr w wq wc))
  (hvq : Hid (v0.ownBlock ≠ some wq)) (hvc : Hid (v0.ownBlock ≠ some wc)) (hvA : Hid (∀ a, A = some a → v0.ownBlock ≠ some a.block)) :
  Calls Tryz.prog 161 #[v0, .agg #[.int .i64 3, .int .i64 0, .string ⟨#[]⟩, .slice A zs.length c], .pointer (some ⟨wc, 0, none⟩)] w fun e w' => ∃ v', e = .returned v' ∧ OwnB w' base v' (l ++ encI zs) ∧ Grew v0 v' w w' := by
 obtain ⟨n, HN⟩ : ∃ n, Hid (zs.length = n) := ⟨_, hid rfl⟩
 rw [HN.out]
 have hn' : n ≤ 1000 := by rw [← HN.out]; exact hn
 clear hn
 have HB0 := hid ((Below.refl _ w).alloc (Nat.le_refl _) (.cells #[.int .i64 3, .int .i64 0, .string ⟨#[]⟩, .slice A n c] 148))
 have HO1 := hid (hO.out.below HB0.out)
 have HC3 : Hid ((w.alloc (.cells #[.int .i64 3, .int .i64 0, .string ⟨#[]⟩, .slice A n c] 148)).cell? ⟨w.heap.size, 3, none⟩ = some (.slice A n c)) := hid (by rw [cell_of_row _ _ _ _ _ _ (heap_alloc_new w _)]; rfl)
 have HNE : Hid (some w.heap.size ≠ v0.ownBlock) := hid (fun e => by have := (hO.out.block _ e.symm).2; omega)
 have HWR : Hid (IntKind.u64.wrap (n : Int) = (n : Int)) := hid (by rw [IntKind.wrap_u64]; omega)
 go_enter Tryz.func161, Tryz.ntmps161
 go_wp2_with fail
 have HBS : Hid (base ≤ (w.alloc (.cells #[.int .i64 3, .int .i64 0, .string ⟨#[]⟩, .slice A n c] 148)).heap.size) := hid (Nat.le_trans hb HB0.out.size)
 have HZ1 : Hid (w.heap.size < (w.alloc (.cells #[.int .i64 3, .int .i64 0, .string ⟨#[]⟩, .slice A n c] 148)).heap.size) := hid (by simp)
 generalize w.alloc (.cells #[.int .i64 3, .int .i64 0, .string ⟨#[]⟩, .slice A n c] 148) = W1 at *
 refine region_flow3 (by kernel_rfl) (by kernel_rfl) (fun i => Nat.beq i 8) (fun i => i) (by kernel_rfl) (fun fx => #[fx 8, .agg #[.int .i64 3, .int .i64 0, .string ⟨#[]⟩, .slice A n c], .pointer (some ⟨wc, 0, none⟩), undef, .pointer (some ⟨w.heap.size, 0, none⟩), .slice none 0 0, undef, undef, fx 0, fx 1, fx 2, fx 3, fx 4, fx 5, fx 6, fx 7, undef, undef, undef, undef, undef, undef, undef, undef, undef, undef, undef, undef, undef, undef, undef, undef, undef, undef, undef]) (fun i => bif Nat.beq i 8 then v0 else undef) (fun L fx w' => W1.grownBy w' v0.ownBlock ∧ (L 2 = false → OwnB w' base v0 l) ∧ (L 8 = false → fx 8 = v0)) (fun fi fv _ fw => wL base W1.heap.size w.heap.size v0 l A n c fi fv fw) ⟨grown_drew v0 W1, fun _ => HO1.out.below (Below.refl _ _).drew, fun _ => rfl⟩ ?_ ?_
 ·refine ⟨?_, ?_, ?_, ?_, ?_, ?_, ?_, ?_, ?_, trivial⟩
  all_goals intro L fx w' hC hi hcl hdn hd
  ·have h8 : fx 8 = v0 := hC.2.2 (Bool.eq_false_iff.2 fun h => by have := hcl 7 2 (hcl 8 7 h (by kernel_rfl)) (by kernel_rfl); have := hcl 2 0 this (by kernel_rfl); rw [hi] at this; cases this)
   go_wp2_with fail
   exact ⟨_, by rw [← h8]; rfl, ⟨hC.1, fun h => hC.2.1 h, fun h => hC.2.2 h⟩, rfl, kP⟩
  ·go_wp2_with fail
   have hbb : Below w'.heap.size w' (w'.alloc (.cells #[.int .u8 3] 5)) := (Below.refl _ _).alloc (Nat.le_refl _) _
   exact ⟨_, rfl, ⟨grown_below hC.1 hbb, fun h => (hC.2.1 h).below hbb, fun h => hC.2.2 h⟩, ⟨_, rfl, one_rowU w' 3⟩, fun j v t _ _ h => wL_below hbb j v h⟩
  ·have h0 : fx 0 = v0 := hd.1 rfl
   have H1 := hid (hd.2.1 rfl)
   obtain ⟨g, h1, hR⟩ := H1.out
   have HOv := hid (hC.2.1 hi)
   have HR := hid hR
   have HSZ := hid (Nat.le_trans HBS.out hC.1.size)
   have hlen : l.length + 1 ≤ 1099511627776 := by omega
   refine wpList_append_grew rfl (.tmp 8) (.tmp 9) rfl base v0 l [3] h0 HOv (some ⟨g, 0, none⟩) 1 1 h1 (hid rfl) (fun h => by cases h) HR hlen HSZ.out ?_
   intro v2 w2 HO2 HG2
   clear hd
   go_wp2_with fail
   refine ⟨v2, by rw [← h0, ← h1]; rfl, ⟨grown_grew hC.1 (.inl rfl) HG2.out, fun h => (updB_self h).elim, fun h => hC.2.2 h⟩, ⟨HO2.out, OwnG.of_grew hC.1.size (.inl rfl) HG2.out⟩, fun j v t hj hu h => ?_⟩
   refine wL_pure j v ?_ ?_ ?_ ?_ h <;> intro e <;> subst e
   ·refine absurd hu (not_needed (E := fun i => Nat.beq i 8) (j := 1) [2] ?_ ?_ ?_)
    ·kernel_rfl
    ·kernel_rfl
    ·intro m hm hne; simp at hm; omega
   ·rw [hi] at hj; cases hj
   ·have := hcl 7 2 hj (by kernel_rfl); rw [hi] at this; cases this
   ·have := hcl 7 2 (hcl 8 7 hj (by kernel_rfl)) (by kernel_rfl); rw [hi] at this; cases this
  ·go_wp2_with fail
   exact ⟨_, rfl, ⟨hC.1, fun h => hC.2.1 h, fun h => hC.2.2 h⟩, rfl, kP⟩
  ·have h3 : fx 3 = .pointer (some ⟨w.heap.size, 3, none⟩) := hd.1 rfl
   have hc : w'.cell? ⟨w.heap.size, 3, none⟩ = some (.slice A n c) := hC.1.cell HC3.out HNE.out
   go_wp2_with fail
   exact ⟨_, by rw [← h3]; rfl, ⟨hC.1, fun h => hC.2.1 h, fun h => hC.2.2 h⟩, rfl, kP⟩
  ·have h4 : fx 4 = .slice A n c := hd.1 rfl
   go_wp2_with fail
   exact ⟨_, by rw [← h4]; rfl, ⟨hC.1, fun h => hC.2.1 h, fun h => hC.2.2 h⟩, rfl, kP⟩
  ·have h5 : fx 5 = .int .i64 (n) := hd.1 rfl
   have hw : IntKind.u64.wrap (n : Int) = (n : Int) := HWR.out
   go_wp2_with fail
   exact ⟨_, by rw [← h5]; rfl, ⟨hC.1, fun h => hC.2.1 h, fun h => hC.2.2 h⟩, rfl, kP⟩
  ·have H2 := hid (hd.1 rfl)
   have h6 : fx 6 = .int .u64 (n : Nat) := hd.2.1 rfl
   have HSZ := hid (Nat.le_trans HBS.out hC.1.size)
   go_wp2_with fail
   refine (numeral_any (fx 2) (l ++ [3]) n base _ (hid H2.out.1) (by simp; omega) (by omega) HSZ.out).mono ?_
   rintro e w2 ⟨v2, rfl, hO2, hG2⟩
   have HO2 := hid hO2
   have HG2 := hid hG2
   clear hO2 hG2
   go_wp2_with fail
   refine ⟨v2, by rw [← h6]; rfl, ⟨grown_grew hC.1 H2.out.2 HG2.out, (fun h => by have h2 : L 2 = false := h; have := hdn 2 (by kernel_rfl); rw [h2] at this; cases this), fun h => hC.2.2 h⟩, ⟨HO2.out, OwnG.of_grew hC.1.size H2.out.2 HG2.out⟩, fun j v t hj hu h => ?_⟩
   refine wL_pure j v ?_ ?_ ?_ ?_ h <;> intro e <;> subst e
   ·refine absurd hu (not_needed (E := fun i => Nat.beq i 8) (j := 1) [2] ?_ ?_ ?_)
    ·kernel_rfl
    ·kernel_rfl
    ·intro m hm hne; simp at hm; subst hm; exact hdn 2 (by kernel_rfl)
   ·refine absurd hu (not_needed (E := fun i => Nat.beq i 8) (j := 2) [7] ?_ ?_ ?_)
    ·kernel_rfl
    ·kernel_rfl
    ·intro m hm hne; simp at hm; omega
   ·rw [hi] at hj; cases hj
   ·have := hcl 8 7 hj (by kernel_rfl); rw [hi] at this; cases this
  ·have H7 := hid (hd.1 rfl)
   go_wp2_with fail
   exact ⟨fx 7, rfl, ⟨hC.1, fun h => hC.2.1 h, fun h => (updB_self h).elim⟩, H7.out, kP⟩
 ·intro L fo w' hC hS
  have H8 := hid (hS 8 (by decide) rfl)
  have HC3' := hid (hC.1.cell HC3.out HNE.out)
  have hc3 := HC3'.out
  have HG1 := hid (Grew.ahead HB0.out (grew_of hC.1 H8.out.2))
  clear hC hS HC3
  go_wp2_with fail
  clear hc3
  go_loopw [0, 19] (fun vb i wr => ∃ j : Nat, j ≤ n ∧ i = .int .i64 j ∧ Hid (OwnB wr base vb (l ++ [3] ++ num n ++ (zs.take j).flatMap fun z => 1 :: num (zig z))) ∧ Hid (Grew v0 vb w wr)) (fun _ i _ => n - (intOf i).toNat)
  case atStart => exact ⟨0, by omega, rfl, hid (by rw [List.take_zero, List.flatMap_nil, List.append_nil]; exact H8.out.1), HG1⟩
  case round =>
   clear H8 HG1 HC3' HBS HZ1 HWR HNE HO1 HB0
   obtain ⟨j, hj, rfl, hO2, HG⟩ := hrel
   by_cases hlt : j < n
   ·obtain ⟨g, rfl, hg, hv⟩ := hV.out (by rw [HN.out]; omega)
    have hgk : some g ≠ v0.ownBlock := fun e => hvA.out _ rfl e.symm
    have hv2 := hv j (by rw [HN.out]; exact hlt)
    obtain ⟨z, HZ⟩ : ∃ z, Hid (zs[j]'(by rw [HN.out]; exact hlt) = z) := ⟨_, hid rfl⟩
    rw [HZ.out, Nat.zero_add] at hv2
    obtain ⟨k0, k1, k2, k3⟩ := hv2
    replace k0 := HG.out.1.cell k0 hgk
    replace k1 := HG.out.1.cell k1 hgk
    replace k2 := HG.out.1.cell k2 hgk
    replace k3 := HG.out.1.cell k3 hgk
    have HWR := hid (show Wr wr wq wc from ⟨HG.out.1.cell hW.out.c1 (fun e => hvq.out e.symm), HG.out.1.cell hW.out.c3 (fun e => hvq.out e.symm), HG.out.1.cell hW.out.p (fun e => hvc.out e.symm)⟩)
    have d1 : decide ((j : Int) < (n : Int)) = true := eQ (by omega)
    have ZB : Hid (-9223372036854775808 ≤ z ∧ z ≤ 9223372036854775807) := hid (by rw [← HZ.out]; exact hz.out _ (List.getElem_mem _))
    have HLN : Hid ((l ++ [3] ++ num n ++ (zs.take j).flatMap fun z => 1 :: num (zig z)).length ≤ 1000000) := hid (by
     have h1 := flat_length (zs.take j)
     have h2 := numB_length 10 n
     have h3 : (zs.take j).length ≤ 1000 := by rw [List.length_take]; omega
     simp only [List.length_append, List.length_cons, List.length_nil, num] at *
     omega)
    have HNX : Hid ((l ++ [3] ++ num n ++ (zs.take j).flatMap fun z => 1 :: num (zig z)) ++ 1 :: num (zig z) = l ++ [3] ++ num n ++ (zs.take (j + 1)).flatMap fun z => 1 :: num (zig z)) := hid (by
     rw [List.take_succ_eq_append_getElem (by rw [HN.out]; exact hlt), List.flatMap_append, HZ.out]; simp)
    obtain ⟨l2, HL2⟩ : ∃ l2, Hid ((l ++ [3] ++ num n ++ (zs.take j).flatMap fun z => 1 :: num (zig z)) = l2) := ⟨_, hid rfl⟩
    rw [HL2.out] at hO2 HLN HNX
    have HVZ := hid hv
    clear hv
    go_wp2_with fail
    clear k0 k1 k2 k3
    have HB2 := hid ((Below.refl _ wr).alloc (Nat.le_refl _) (.cells #[.int .i64 1, .int .i64 z, .string ⟨#[]⟩, .slice none 0 0] 148))
    have HO2 := hid (hO2.out.below HB2.out)
    have HW2 := hid (HWR.out.below HB2.out)
    have HX := heap_alloc_new wr (.cells #[.int .i64 1, .int .i64 z, .string ⟨#[]⟩, .slice none 0 0] 148)
    have HX0 : Hid ((wr.alloc (.cells #[.int .i64 1, .int .i64 z, .string ⟨#[]⟩, .slice none 0 0] 148)).cell? ⟨wr.heap.size, 0, none⟩ = some (.int .i64 1)) := hid (by rw [cell_of_row _ _ _ _ _ _ HX]; rfl)
    have HX1 : Hid ((wr.alloc (.cells #[.int .i64 1, .int .i64 z, .string ⟨#[]⟩, .slice none 0 0] 148)).cell? ⟨wr.heap.size, 1, none⟩ = some (.int .i64 z)) := hid (by rw [cell_of_row _ _ _ _ _ _ HX]; rfl)
    have HX2 : Hid ((wr.alloc (.cells #[.int .i64 1, .int .i64 z, .string ⟨#[]⟩, .slice none 0 0] 148)).cell? ⟨wr.heap.size, 2, none⟩ = some (.string ⟨#[]⟩)) := hid (by rw [cell_of_row _ _ _ _ _ _ HX]; rfl)
    have HX3 : Hid ((wr.alloc (.cells #[.int .i64 1, .int .i64 z, .string ⟨#[]⟩, .slice none 0 0] 148)).cell? ⟨wr.heap.size, 3, none⟩ = some (.slice none 0 0)) := hid (by rw [cell_of_row _ _ _ _ _ _ HX]; rfl)
    have HBW : Hid (base ≤ (wr.alloc (.cells #[.int .i64 1, .int .i64 z, .string ⟨#[]⟩, .slice none 0 0] 148)).heap.size) := hid (Nat.le_trans (Nat.le_trans hb HG.out.1.size) HB2.out.size)
    clear HX
    generalize wr.alloc (.cells #[.int .i64 1, .int .i64 z, .string ⟨#[]⟩, .slice none 0 0] 148) = W2 at *
    refine region_flow3 (by kernel_rfl) (by kernel_rfl) (fun i => Nat.beq i 10) (fun i => i) (by kernel_rfl) (fun fx => #[fx 10, .agg #[.int IntKind.i64 3, .int IntKind.i64 0, .string { data := #[] }, .slice (some { block := g, off := 0 }) n c], .pointer (some { block := wc, off := 0 }), undef, .pointer (some { block := w.heap.size, off := 0 }), .slice none 0 0, undef, .pointer (some { block := wr.heap.size, off := 0 }), fo 0, fo 1, fo 2, fo 3, fo 4, fo 5, fo 6, fo 7, .pointer (some { block := w.heap.size, off := 3 }), .slice (some { block := g, off := 0 }) n c, .int IntKind.i64 ↑n, .int IntKind.i64 ↑j, .bool true, .pointer (some { block := g, off := j * 4 }), .agg #[.int IntKind.i64 1, .int IntKind.i64 z, .string { data := #[] }, .slice none 0 0], fx 0, fx 1, fx 2, fx 3, fx 4, fx 5, fx 6, fx 7, fx 8, fx 9, u33, undef]) (fun i => bif Nat.beq i 0 then u23 else bif Nat.beq i 1 then u24 else bif Nat.beq i 2 then u25 else bif Nat.beq i 3 then u26 else bif Nat.beq i 4 then u27 else bif Nat.beq i 5 then u28 else bif Nat.beq i 6 then u29 else bif Nat.beq i 7 then u30 else bif Nat.beq i 8 then u31 else bif Nat.beq i 9 then u32 else bif Nat.beq i 10 then u0 else undef) (fun L fx w' => (L 9 = false → Below W2.heap.size W2 w') ∧ (L 10 = false → fx 10 = u0)) (fun fi fv _ fw => wM base W2 wq wr.heap.size u0 l2 z fi fv fw) ⟨fun _ => (Below.refl _ _).drew, fun _ => rfl⟩ ?_ ?_
    ·refine ⟨?_, ?_, ?_, ?_, ?_, ?_, ?_, ?_, ?_, ?_, ?_, trivial⟩
     all_goals intro L fx w' hC hi hcl hdn hd
     ·have hnd : L 9 = false := nQ hi (fun h => (hcl 3 0 (hcl 4 3 (hcl 5 4 (hcl 6 5 (hcl 9 6 h (by kernel_rfl)) (by kernel_rfl)) (by kernel_rfl)) (by kernel_rfl)) (by kernel_rfl)))
      have hc := ((hC.1 hnd).cell (block_lt_of_cell HW2.out.p)).trans HW2.out.p
      go_wp2_with fail
      exact ⟨_, rfl, ⟨fun _ => hC.1 hnd, fun h => hC.2 h⟩, rfl, kP⟩
     ·have hnd : L 9 = false := nQ hi (fun h => (hcl 2 1 (hcl 4 2 (hcl 5 4 (hcl 6 5 (hcl 9 6 h (by kernel_rfl)) (by kernel_rfl)) (by kernel_rfl)) (by kernel_rfl)) (by kernel_rfl)))
      go_wp2_with fail
      exact ⟨_, rfl, ⟨fun _ => hC.1 hnd, fun h => hC.2 h⟩, rfl, kP⟩
     ·have h1 : fx 1 = .pointer (some ⟨wr.heap.size, 0, none⟩) := hd.1 rfl
      have hnd : L 9 = false := nQ hi (fun h => (hcl 4 2 (hcl 5 4 (hcl 6 5 (hcl 9 6 h (by kernel_rfl)) (by kernel_rfl)) (by kernel_rfl)) (by kernel_rfl)))
      have hc := ((hC.1 hnd).cell (block_lt_of_cell HX0.out)).trans HX0.out
      go_wp2_with fail
      exact ⟨_, by rw [← h1]; rfl, ⟨fun _ => hC.1 hnd, fun h => hC.2 h⟩, rfl, kP⟩
     ·have h0 : fx 0 = .pointer (some ⟨wq, 0, none⟩) := hd.1 rfl
      have hnd : L 9 = false := nQ hi (fun h => (hcl 4 3 (hcl 5 4 (hcl 6 5 (hcl 9 6 h (by kernel_rfl)) (by kernel_rfl)) (by kernel_rfl)) (by kernel_rfl)))
      go_wp2_with fail
      exact ⟨_, by rw [← h0]; rfl, ⟨fun _ => hC.1 hnd, fun h => hC.2 h⟩, rfl, kP⟩
     ·have h3 : fx 3 = .pointer (some ⟨wq, 0, none⟩) := hd.1 rfl
      have h2 : fx 2 = .int .i64 (1) := hd.2.1 rfl
      have hnd : L 9 = false := nQ hi (fun h => (hcl 5 4 (hcl 6 5 (hcl 9 6 h (by kernel_rfl)) (by kernel_rfl)) (by kernel_rfl)))
      go_wp2_with fail
      exact ⟨_, by rw [← h3, ← h2]; rfl, ⟨fun _ => hC.1 hnd, fun h => hC.2 h⟩, rfl, kP⟩
     ·have h4 : fx 4 = .pointer (some ⟨wq, 1, none⟩) := hd.1 rfl
      have hnd : L 9 = false := nQ hi (fun h => (hcl 6 5 (hcl 9 6 h (by kernel_rfl)) (by kernel_rfl)))
      go_wp2_with fail
      exact ⟨_, by rw [← h4]; rfl, ⟨fun _ => hC.1 hnd, fun h => hC.2 h⟩, rfl, kP⟩
     ·have h5 : fx 5 = .pointer (some ⟨wq, 1, none⟩) := hd.1 rfl
      have hnd : L 9 = false := nQ hi (fun h => (hcl 9 6 h (by kernel_rfl)))
      have hc := ((hC.1 hnd).cell (block_lt_of_cell HW2.out.c1)).trans HW2.out.c1
      go_wp2_with fail
      exact ⟨_, by rw [← h5]; rfl, ⟨fun _ => hC.1 hnd, fun h => hC.2 h⟩, rfl, kP⟩
     ·have hnd : L 9 = false := nQ hi (fun h => (hcl 9 7 h (by kernel_rfl)))
      have h10 : fx 10 = u0 := hC.2 (nQ hi (fun h => (hcl 9 7 (hcl 10 9 h (by kernel_rfl)) (by kernel_rfl))))
      go_wp2_with fail
      exact ⟨_, by rw [← h10]; rfl, ⟨fun _ => hC.1 hnd, fun h => hC.2 h⟩, rfl, kP⟩
     ·have hnd : L 9 = false := nQ hi (fun h => (hcl 9 8 h (by kernel_rfl)))
      have hc0 := ((hC.1 hnd).cell (block_lt_of_cell HX0.out)).trans HX0.out
      have hc1 := ((hC.1 hnd).cell (block_lt_of_cell HX1.out)).trans HX1.out
      have hc2 := ((hC.1 hnd).cell (block_lt_of_cell HX2.out)).trans HX2.out
      have hc3 := ((hC.1 hnd).cell (block_lt_of_cell HX3.out)).trans HX3.out
      go_wp2_with fail
      exact ⟨_, rfl, ⟨fun _ => hC.1 hnd, fun h => hC.2 h⟩, rfl, kP⟩
     ·have h6 : fx 6 = .func (.func 157) #[] #[] := hd.1 rfl
      have h7 : fx 7 = u0 := hd.2.1 rfl
      have h8 : fx 8 = .agg #[.int .i64 1, .int .i64 z, .string ⟨#[]⟩, .slice none 0 0] := hd.2.2.1 rfl
      have hb9 := hC.1 hi
      have HOv := hid (HO2.out.below hb9)
      go_wp2_with fail
      refine (write_int u0 l2 z base _ ZB.out.1 ZB.out.2 HOv HLN.out (Nat.le_trans HBW.out hb9.size)).mono ?_
      rintro e w2 ⟨v2, rfl, hO3, hG3⟩
      have HO3 := hid hO3
      have HG3 := hid hG3
      clear hO3 hG3
      go_wp2_with fail
      refine ⟨v2, by rw [← h8, ← h6, ← h7]; rfl, ⟨fun h => (updB_self h).elim, fun h => hC.2 h⟩, ⟨HO3.out, Grew.ahead hb9 HG3.out⟩, fun j v t hj hu h => ?_⟩
      refine wM_pure j v ?_ ?_ h <;> intro e <;> subst e
      ·rw [hi] at hj; cases hj
      ·have := hcl 10 9 hj (by kernel_rfl); rw [hi] at this; cases this
     ·have H9 := hid (hd.1 rfl)
      go_wp2_with fail
      exact ⟨fx 9, rfl, ⟨fun h => hC.1 h, fun h => (updB_self h).elim⟩, H9.out, kP⟩
    ·intro L fx w' hC hS
     have H10 := hid (hS 10 (by decide) rfl)
     have HO9 : Hid (OwnB w' base (fx 10) (l ++ [3] ++ num n ++ (zs.take (j + 1)).flatMap fun z => 1 :: num (zig z))) := hid (by rw [← HNX.out]; exact H10.out.1)
     have HG9 := hid (HG.out.trans (Grew.ahead HB2.out H10.out.2))
     clear hC hS H10
     go_wp2_with fail
     go_roundw
     case rel => exact ⟨j + 1, by omega, by go_num, HO9, HG9⟩
     case measure => simp [intOf]; omega
   ·have d1 : decide ((j : Int) < (n : Int)) = false := dQ (by omega)
    have HE : Hid (l ++ encI zs = l ++ [3] ++ num n ++ (zs.take j).flatMap fun z => 1 :: num (zig z)) := hid (by
     rw [List.take_of_length_le (by rw [HN.out]; omega)]; unfold encI; rw [HN.out]; simp)
    go_wp2_with fail
    go_ret
    exact ⟨_, rfl, by rw [HE.out]; exact hO2.out, HG.out⟩
def wE (N : Nat) (W1 : World) (b : Nat) (zs : List Int) (A : Option Addr) (n : Nat) (c : Nat) : Nat → Value → World → Prop
 | 0, fv, fw => ∃ q c2, fv = .pointer (some ⟨q, 0, none⟩) ∧ Wr fw q c2 ∧ N ≤ q ∧ N ≤ c2
 | 1, fv, _ => fv = .pointer (some ⟨b, 0, none⟩)
 | 2, fv, _ => fv = .int .i64 (3)
 | 3, fv, fw => ∃ q c2, fv = .pointer (some ⟨q, 0, none⟩) ∧ Wr fw q c2 ∧ N ≤ q ∧ N ≤ c2
 | 4, fv, fw => ∃ q c2, fv = .pointer (some ⟨q, 3, none⟩) ∧ Wr fw q c2 ∧ N ≤ q ∧ N ≤ c2
 | 5, fv, fw => ∃ q c2, fv = .pointer (some ⟨q, 3, none⟩) ∧ Wr fw q c2 ∧ N ≤ q ∧ N ≤ c2
 | 6, fv, fw => ∃ q c2, fv = .func (.func 161) #[] #[.pointer (some ⟨c2, 0, none⟩)] ∧ Wr fw q c2 ∧ N ≤ q ∧ N ≤ c2
 | 7, fv, _ => fv = .agg #[.int .i64 3, .int .i64 0, .string ⟨#[]⟩, .slice A n c]
 | 8, fv, fw => OwnB fw N fv (encI zs) ∧ Below N W1 fw
 | 9, fv, fw => OwnB fw N fv (encI zs) ∧ Below N W1 fw
 | 10, fv, _ => fv = .int .i64 (0)
 | _, _, _ => True
theorem wE_below {N : Nat} {W1 : World} {b : Nat} {zs : List Int} {A : Option Addr} {n : Nat} {c : Nat} {w w' : World} (hN : N ≤ W1.heap.size) (hb : Below w.heap.size w w') : ∀ j v, wE N W1 b zs A n c j v w → wE N W1 b zs A n c j v w'
 | 0, v, ⟨q, c2, h1, h2, h3⟩ => ⟨q, c2, h1, h2.below hb, h3⟩
 | 1, v, h => h
 | 2, v, h => h
 | 3, v, ⟨q, c2, h1, h2, h3⟩ => ⟨q, c2, h1, h2.below hb, h3⟩
 | 4, v, ⟨q, c2, h1, h2, h3⟩ => ⟨q, c2, h1, h2.below hb, h3⟩
 | 5, v, ⟨q, c2, h1, h2, h3⟩ => ⟨q, c2, h1, h2.below hb, h3⟩
 | 6, v, ⟨q, c2, h1, h2, h3⟩ => ⟨q, c2, h1, h2.below hb, h3⟩
 | 7, v, h => h
 | 8, v, h => ⟨h.1.below hb, h.2.trans (hb.mono (Nat.le_trans hN h.2.size))⟩
 | 9, v, h => ⟨h.1.below hb, h.2.trans (hb.mono (Nat.le_trans hN h.2.size))⟩
 | 10, v, h => h
 | n + 11, v, h => trivial
theorem wE_pure {N : Nat} {W1 : World} {b : Nat} {zs : List Int} {A : Option Addr} {n : Nat} {c : Nat} {w w' : World} : ∀ j v, j ≠ 0 → j ≠ 3 → j ≠ 4 → j ≠ 5 → j ≠ 6 → j ≠ 8 → j ≠ 9 → wE N W1 b zs A n c j v w → wE N W1 b zs A n c j v w'
 | 0, v, hh, _, _, _, _, _, _, _ => absurd rfl hh
 | 1, v, _, _, _, _, _, _, _, h => h
 | 2, v, _, _, _, _, _, _, _, h => h
 | 3, v, _, hh, _, _, _, _, _, _ => absurd rfl hh
 | 4, v, _, _, hh, _, _, _, _, _ => absurd rfl hh
 | 5, v, _, _, _, hh, _, _, _, _ => absurd rfl hh
 | 6, v, _, _, _, _, hh, _, _, _ => absurd rfl hh
 | 7, v, _, _, _, _, _, _, _, h => h
 | 8, v, _, _, _, _, _, hh, _, _ => absurd rfl hh
 | 9, v, _, _, _, _, _, _, hh, _ => absurd rfl hh
 | 10, v, _, _, _, _, _, _, _, h => h
 | n + 11, v, _, _, _, _, _, _, _, h => trivial
theorem encode_list (zs : List Int) (A : Option Addr) (c : Nat) (w : World) (hz : Hid (∀ z ∈ zs, -9223372036854775808 ≤ z ∧ z ≤ 9223372036854775807)) (hn : zs.length ≤ 1000) (hV : Hid (VRd w w.heap.size A zs)) :
  Calls Tryz.prog 106 #[.agg #[.int .i64 3, .int .i64 0, .string ⟨#[]⟩, .slice A zs.length c]] w fun e w' => ∃ v', e = .returned (.tuple #[v', .int .i64 0]) ∧ OwnB w' w.heap.size v' (encI zs) ∧ Below w.heap.size w w' := by
 obtain ⟨n, HN⟩ : ∃ n, Hid (zs.length = n) := ⟨_, hid rfl⟩
 rw [HN.out]
 have hn' : n ≤ 1000 := by rw [← HN.out]; exact hn
 have HB0 := hid ((Below.refl _ w).alloc (Nat.le_refl _) (.cells #[.int .i64 3, .int .i64 0, .string ⟨#[]⟩, .slice A n c] 148))
 have HX := heap_alloc_new w (.cells #[.int .i64 3, .int .i64 0, .string ⟨#[]⟩, .slice A n c] 148)
 have HX' := hid HX
 have HVA := hid (hV.out.below HB0.out)
 clear HX
 go_enter Tryz.func106, Tryz.ntmps106
 go_wp2_with fail
 have hck := vcheck_list zs A c (w.alloc (.cells #[.int .i64 3, .int .i64 0, .string ⟨#[]⟩, .slice A n c] 148)) hn HVA
 rw [HN.out] at hck
 refine hck.mono ?_
 rintro e W1 ⟨rfl, hq⟩
 have HB1 := hid (HB0.out.trans (hq.mono HB0.out.size))
 have HX1' := hid ((hq.block w.heap.size (by simp)).trans HX'.out)
 have hV1 := hid (hV.out.below HB1.out)
 have HX0 : Hid (W1.cell? ⟨w.heap.size, 0, none⟩ = some (.int .i64 3)) := hid (by rw [cell_of_row _ _ _ _ _ _ HX1'.out]; rfl)
 have HX1 : Hid (W1.cell? ⟨w.heap.size, 1, none⟩ = some (.int .i64 0)) := hid (by rw [cell_of_row _ _ _ _ _ _ HX1'.out]; rfl)
 have HX2 : Hid (W1.cell? ⟨w.heap.size, 2, none⟩ = some (.string ⟨#[]⟩)) := hid (by rw [cell_of_row _ _ _ _ _ _ HX1'.out]; rfl)
 have HX3 : Hid (W1.cell? ⟨w.heap.size, 3, none⟩ = some (.slice A n c)) := hid (by rw [cell_of_row _ _ _ _ _ _ HX1'.out]; rfl)
 have hN1 : Hid (w.heap.size ≤ W1.heap.size) := hid HB1.out.size
 obtain ⟨N, HNN⟩ : ∃ N, N = w.heap.size := ⟨_, rfl⟩
 clear hq hck HX1' HX' HVA HNN hn N
 go_wp2_with fail
 refine region_flow3 (by kernel_rfl) (by kernel_rfl) (fun i => Nat.beq i 9 || Nat.beq i 10) (fun i => i) (by kernel_rfl) (fun fx => #[.agg #[.int .i64 3, .int .i64 0, .string ⟨#[]⟩, .slice A n c], .pointer (some ⟨w.heap.size, 0, none⟩), fx 9, fx 10, .int .i64 (0), .agg #[.int .i64 3, .int .i64 0, .string ⟨#[]⟩, .slice A n c], .int .i64 (0), .int .i64 (0), .bool false, undef, fx 0, fx 1, fx 2, fx 3, fx 4, fx 5, fx 6, fx 7, fx 8]) (fun i => bif Nat.beq i 9 then Value.slice none 0 0 else bif Nat.beq i 10 then Value.int .i64 0 else undef) (fun L _ w' => (L 8 = false → Below W1.heap.size W1 w')) (fun fi fv _ fw => wE w.heap.size W1 w.heap.size zs A n c fi fv fw) (fun _ => (Below.refl _ _).drew) ?_ ?_
 ·refine ⟨?_, ?_, ?_, ?_, ?_, ?_, ?_, ?_, ?_, ?_, ?_, trivial⟩
  all_goals intro L fx w' hC hi hcl hdn hd
  ·have hnd : L 8 = false := nQ hi (fun h => (hcl 3 0 (hcl 4 3 (hcl 5 4 (hcl 6 5 (hcl 8 6 h (by kernel_rfl)) (by kernel_rfl)) (by kernel_rfl)) (by kernel_rfl)) (by kernel_rfl)))
   go_wp2_with fail
   refine (newWriter_any _).mono ?_
   rintro e w2 ⟨rfl, hw2, hb2⟩
   have HW2 := hid hw2
   have HB2 := hid hb2
   clear hw2 hb2
   go_wp2_with fail
   have hs := (hC hnd).size
   exact ⟨_, rfl, fun _ => (hC hnd).trans (HB2.out.mono hs), ⟨_, _, rfl, HW2.out, Nat.le_trans hN1.out hs, Nat.le_trans (Nat.le_trans hN1.out hs) (Nat.le_succ _)⟩, fun j v t _ _ h => wE_below hN1.out HB2.out j v h⟩
  ·have hnd : L 8 = false := nQ hi (fun h => (hcl 2 1 (hcl 4 2 (hcl 5 4 (hcl 6 5 (hcl 8 6 h (by kernel_rfl)) (by kernel_rfl)) (by kernel_rfl)) (by kernel_rfl)) (by kernel_rfl)))
   go_wp2_with fail
   exact ⟨_, rfl, (fun _ => hC hnd), rfl, kP⟩
  ·have h1 : fx 1 = .pointer (some ⟨w.heap.size, 0, none⟩) := hd.1 rfl
   have hnd : L 8 = false := nQ hi (fun h => (hcl 4 2 (hcl 5 4 (hcl 6 5 (hcl 8 6 h (by kernel_rfl)) (by kernel_rfl)) (by kernel_rfl)) (by kernel_rfl)))
   have hc := ((hC hnd).cell (block_lt_of_cell HX0.out)).trans HX0.out
   go_wp2_with fail
   exact ⟨_, by rw [← h1]; rfl, (fun _ => hC hnd), rfl, kP⟩
  ·have H0 := hid (hd.1 rfl)
   have hnd : L 8 = false := nQ hi (fun h => (hcl 4 3 (hcl 5 4 (hcl 6 5 (hcl 8 6 h (by kernel_rfl)) (by kernel_rfl)) (by kernel_rfl)) (by kernel_rfl)))
   obtain ⟨q, c2, h0, hw, hq⟩ := H0.out
   have HWq := hid hw
   clear hw
   go_wp2_with fail
   exact ⟨_, by rw [← h0]; rfl, fun _ => hC hnd, ⟨q, c2, rfl, HWq.out, hq⟩, kP⟩
  ·have H3 := hid (hd.1 rfl)
   have h2 : fx 2 = .int .i64 (3) := hd.2.1 rfl
   have hnd : L 8 = false := nQ hi (fun h => (hcl 5 4 (hcl 6 5 (hcl 8 6 h (by kernel_rfl)) (by kernel_rfl)) (by kernel_rfl)))
   obtain ⟨q, c2, h3, hw, hq⟩ := H3.out
   have HWq := hid hw
   clear hw
   go_wp2_with fail
   exact ⟨_, by rw [← h3, ← h2]; rfl, fun _ => hC hnd, ⟨q, c2, rfl, HWq.out, hq⟩, kP⟩
  ·have H4 := hid (hd.1 rfl)
   have hnd : L 8 = false := nQ hi (fun h => (hcl 6 5 (hcl 8 6 h (by kernel_rfl)) (by kernel_rfl)))
   obtain ⟨q, c2, h4, hw, hq⟩ := H4.out
   have HWq := hid hw
   clear hw
   go_wp2_with fail
   exact ⟨_, by rw [← h4]; rfl, fun _ => hC hnd, ⟨q, c2, rfl, HWq.out, hq⟩, kP⟩
  ·have H5 := hid (hd.1 rfl)
   have hnd : L 8 = false := nQ hi (fun h => (hcl 8 6 h (by kernel_rfl)))
   obtain ⟨q, c2, h5, hw, hq⟩ := H5.out
   have HWq := hid hw
   have hc3 := hw.c3
   clear hw
   go_wp2_with fail
   exact ⟨_, by rw [← h5]; rfl, fun _ => hC hnd, ⟨q, c2, rfl, HWq.out, hq⟩, kP⟩
  ·have hnd : L 8 = false := nQ hi (fun h => (hcl 8 7 h (by kernel_rfl)))
   have hc0 := ((hC hnd).cell (block_lt_of_cell HX0.out)).trans HX0.out
   have hc1 := ((hC hnd).cell (block_lt_of_cell HX1.out)).trans HX1.out
   have hc2 := ((hC hnd).cell (block_lt_of_cell HX2.out)).trans HX2.out
   have hc3 := ((hC hnd).cell (block_lt_of_cell HX3.out)).trans HX3.out
   go_wp2_with fail
   exact ⟨_, rfl, (fun _ => hC hnd), rfl, kP⟩
  ·have H6 := hid (hd.1 rfl)
   have h7 : fx 7 = .agg #[.int .i64 3, .int .i64 0, .string ⟨#[]⟩, .slice A n c] := hd.2.1 rfl
   obtain ⟨q, c2, h6, hw, hq1, hq2⟩ := H6.out
   have HWq := hid hw
   have hb8 := hC hi
   clear hw
   have HV8 := hid (hV1.out.below hb8)
   go_wp2_with fail
   have HWL := write_list zs (.slice none 0 0) [] A c q c2 w.heap.size w' hz (by rw [HN.out]; exact hn') HV8 (hid (OwnB.nil _ _)) (by simp) (Nat.le_trans hN1.out hb8.size) HWq (hid (fun e => by cases e)) (hid (fun e => by cases e)) (hid (fun _ _ e => by cases e))
   rw [HN.out] at HWL
   refine HWL.mono ?_
   rintro e w2 ⟨v2, rfl, hO3, hG3⟩
   have HO3 := hid hO3
   have HG3 := hid hG3
   clear hO3 hG3 HWL
   go_wp2_with fail
   refine ⟨v2, by rw [← h7, ← h6]; rfl, fun h => (updB_self h).elim, ⟨by have := HO3.out; rwa [List.nil_append] at this, (hb8.mono hN1.out).trans (HG3.out.below (Nat.le_trans hN1.out hb8.size) (fun g e => by cases e))⟩, fun j v t hj hu h => ?_⟩
   refine wE_pure j v ?_ ?_ ?_ ?_ ?_ ?_ ?_ h <;> intro e <;> subst e
   ·refine absurd hu (not_needed (E := fun i => Nat.beq i 9 || Nat.beq i 10) (j := 0) [3] ?_ ?_ ?_)
    ·kernel_rfl
    ·kernel_rfl
    ·intro m hm hne; simp at hm; subst hm; exact hcl 4 3 (hcl 5 4 (hcl 6 5 (hdn 6 (by kernel_rfl)) (by kernel_rfl)) (by kernel_rfl)) (by kernel_rfl)
   ·refine absurd hu (not_needed (E := fun i => Nat.beq i 9 || Nat.beq i 10) (j := 3) [4] ?_ ?_ ?_)
    ·kernel_rfl
    ·kernel_rfl
    ·intro m hm hne; simp at hm; subst hm; exact hcl 5 4 (hcl 6 5 (hdn 6 (by kernel_rfl)) (by kernel_rfl)) (by kernel_rfl)
   ·refine absurd hu (not_needed (E := fun i => Nat.beq i 9 || Nat.beq i 10) (j := 4) [5] ?_ ?_ ?_)
    ·kernel_rfl
    ·kernel_rfl
    ·intro m hm hne; simp at hm; subst hm; exact hcl 6 5 (hdn 6 (by kernel_rfl)) (by kernel_rfl)
   ·refine absurd hu (not_needed (E := fun i => Nat.beq i 9 || Nat.beq i 10) (j := 5) [6] ?_ ?_ ?_)
    ·kernel_rfl
    ·kernel_rfl
    ·intro m hm hne; simp at hm; subst hm; exact hdn 6 (by kernel_rfl)
   ·refine absurd hu (not_needed (E := fun i => Nat.beq i 9 || Nat.beq i 10) (j := 6) [8] ?_ ?_ ?_)
    ·kernel_rfl
    ·kernel_rfl
    ·intro m hm hne; simp at hm; omega
   ·rw [hi] at hj; cases hj
   ·have := hcl 9 8 hj (by kernel_rfl); rw [hi] at this; cases this
  ·have H8 := hid (hd.1 rfl)
   go_wp2_with fail
   exact ⟨fx 8, rfl, fun h => hC h, H8.out, kP⟩
  ·go_wp2_with fail
   exact ⟨_, rfl, fun h => hC h, rfl, kP⟩
 ·intro L fx w' hC hS
  have H9 := hid (hS 9 (by decide) rfl)
  have H10 := hid (hS 10 (by decide) rfl)
  have HG := hid (HB1.out.trans H9.out.2)
  clear hC hS
  have h10 : fx 10 = .int .i64 0 := H10.out
  rw [h10]
  clear h10 H10
  go_wp2_with fail
  go_ret2
  exact ⟨_, rfl, H9.out.1, HG.out⟩
open Go.ChangeShapes Go.WideShapes Go.ChangeAt
theorem own : ownKnob Tryz.prog.godebug = none := by kernel_rfl
theorem laidOut : laidOutB Tryz.prog = true := by kernel_rfl
theorem mapsIn : mapsRowed Tryz.prog = true := by kernel_rfl
theorem slicesFull : ∀ t e, t < Tryz.prog.types.size → Tryz.prog.underlying t = some (.slice e) → 0 < Tryz.prog.cellsOf e := slices_full_of Tryz.prog (by kernel_rfl)
theorem gS : Tryz.prog.globalNamed "sizar/digest.start" = some 0 := by kernel_rfl
theorem gN : Tryz.prog.globalNamed "sizar/digest.numbers" = some 1 := by kernel_rfl
theorem tS : (Tryz.prog.globals[0]?).map (·.type) = some 190 := by kernel_rfl
theorem tN : (Tryz.prog.globals[1]?).map (·.type) = some 205 := by kernel_rfl
theorem cellsE : Tryz.prog.cellsOf 188 = 1 := by kernel_rfl
theorem cellsS : Tryz.prog.cellsOf 190 = 8 := by kernel_rfl
theorem cellsN : Tryz.prog.cellsOf 205 = 64 := by kernel_rfl
theorem cells8 : Tryz.prog.cellsOf 5 = 1 := by kernel_rfl
/-- the tables as the rows list them -/
def laidL : List (String × DataW Unit) := [("sizar/digest.start", Rows.laid_sizar_digest_start), ("sizar/digest.numbers", Rows.laid_sizar_digest_numbers)]
theorem door_met (os : Os) (args : Array Value) : laidMetH Tryz.prog laidL ((World.doorLaid Tryz.prog 400 os).forCall (fun _ _ => 0) ⟨#[], args, []⟩).memory :=
 laidMetH_of_parts3 (fuel := 8) (laidMet_of_run' 8 (by kernel_rfl) (by kernel_rfl)) (by kernel_rfl) (by kernel_rfl)
theorem tabS : (Rows.laid_sizar_digest_start : DataW Unit) = Lib.tabData .u32 (hs.map fun x : Nat => (x : Int)) := by rfl
theorem tabN : (Rows.laid_sizar_digest_numbers : DataW Unit) = Lib.tabData .u32 (ks.map fun x : Nat => (x : Int)) := by rfl
theorem tabs_of {W : World} (h : laidMetH Tryz.prog laidL W) : Tabs W := by
 rw [MakeChecks.laidMetH_plain _ _ _ (by kernel_rfl)] at h
 obtain ⟨ps, ⟨g0, t0, cs0, f0, p0, q0, hg0, ht0, hv0, hd0, ⟨g1, t1, cs1, f1, p1, q1, hg1, ht1, hv1, hd1, _, _⟩, _⟩, _, _⟩ := h
 obtain rfl := Option.some.inj (gS.symm.trans hg0)
 obtain rfl := Option.some.inj (gN.symm.trans hg1)
 obtain rfl := Option.some.inj (tS.symm.trans ht0)
 obtain rfl := Option.some.inj (tN.symm.trans ht1)
 rw [tabS] at hd0
 rw [tabN] at hd1
 have e0 := Lib.cells_of_tab Tryz.underlying190 Tryz.underlying188 cellsE cellsS hd0
 have e1 := Lib.cells_of_tab Tryz.underlying205 Tryz.underlying188 cellsE cellsN hd1
 have c0 : ∀ t, t < 8 → W.cell? ⟨0, t, none⟩ = some (.int .u32 (hf t : Nat)) := fun t ht => by
  have := World.var?_cell gS hv0 t
  rw [this, ← Array.getElem?_toList, e0]
  have hl : t < hs.length := ht
  simp only [List.map_map, List.getElem?_map, List.getElem?_eq_getElem hl, Option.map_some, hf, List.getD_eq_getElem?_getD, Option.getD_some]; rfl
 have c1 : ∀ t, t < 64 → W.cell? ⟨1, t, none⟩ = some (.int .u32 (kf t : Nat)) := fun t ht => by
  have := World.var?_cell gN hv1 t
  rw [this, ← Array.getElem?_toList, e1]
  have hl : t < ks.length := ht
  simp only [List.map_map, List.getElem?_map, List.getElem?_eq_getElem hl, Option.map_some, kf, List.getD_eq_getElem?_getD, Option.getD_some]; rfl
 exact ⟨block_lt_of_cell (c0 0 (by omega)), block_lt_of_cell (c1 0 (by omega)), c0, c1⟩
theorem stands_of {ps : Array TypeId} (h : ps.all (fun t => !Tryz.prog.wantsStandIn t) = true) {j : Nat} {t : TypeId} (ht : ps[j]? = some t) : Tryz.prog.wantsStandIn t = false := by
 have := Array.all_eq_true_iff_forall_mem.1 h t (Array.mem_of_getElem? ht)
 simpa using this
/-- what a slice of bytes brings -/
structure In (w : World) (A : Option Addr) (n c : Nat) (l : List Nat) : Prop where
 len : l.length = n
 cap : n ≤ c
 none_ : A = none → c = 0
 bytes : Bytes l
 rd : Rd w w.heap.size A l
theorem In.below {w w' : World} {A : Option Addr} {n c : Nat} {l : List Nat} (h : In w A n c l) (hb : Below w.heap.size w w') : In w' A n c l :=
 ⟨h.len, h.cap, h.none_, h.bytes, (h.rd.below hb (Nat.le_refl _)).mono hb.size⟩
section
variable {H : Type} {enc : TypeId × Value → H}
theorem trodAll_carry {W W' : World} (hb : Below W.heap.size W W') : ∀ {ts : List TypeId} {vs : List Value} {ds : List (DataW H)} {ps : List MemPlace},
  DataW.TrodAll enc Tryz.prog W 0 (fun _ => true) true ts vs ds ps → DataW.TrodAll enc Tryz.prog W' 0 (fun _ => true) true ts vs ds ps
 | [], [], [], _, h => h
 | _ :: _, _ :: _, _ :: _, ps, h => by
  have hlt := DataW.TrodAll.lt h
  obtain ⟨p, q, ⟨n, h1⟩, h2, e⟩ := h
  refine ⟨p, q, ⟨n, DataW.trod_carry n _ _ _ h1 (fun x hx => ?_)⟩, trodAll_carry hb h2, e⟩
  have := hlt x (by rw [e]; exact List.mem_append_left _ hx)
  cases x with
  | cell b off => exact hb.cell (p := ⟨b, off, none⟩) this
  | map b => exact hb.block b this
/-- the last step of a law: true, and the arguments read as they did -/
theorem law_post {f : Func} {s : ChangeSpec} {W W' : World} {args : Array Value} {ds gs : List (DataW H)} {before : List MemPlace}
  (hts : f.params.toList.all (fun t => decide (t < Tryz.prog.types.size)) = true) (hvars : s.vars = []) (hrt : f.resultTypes = #[4])
  (hfn : gs = [] → (s.fn H ds).results = [.lit (.bool true)] ∧ (s.fn H ds).args = ds ∧ (s.fn H ds).vars = [])
  (hW : DataW.Whole enc Tryz.prog f.params.toList s.vars false W args.toList ds gs before) (hb : Below W.heap.size W W') :
  s.post enc Tryz.prog f false true false false W args (.bool true) W' := by
 have hW' := hW
 obtain ⟨p, q, hA, hV, rfl, hfz, hnd⟩ := hW
 rw [hvars] at hV
 obtain ⟨rfl, rfl⟩ := trodVars_none hV
 obtain ⟨e1, e2, e3⟩ := hfn rfl
 have hlt := DataW.TrodAll.lt hA
 have hA2 := DataW.TrodAll.respare (kids_rows laidOut mapsIn) (fun t e ht => slicesFull t e ht) (fun t ht => of_decide_eq_true (List.all_eq_true.1 hts t ht)) (trodAll_carry hb hA) (spare' := fun b => decide (b < W.heap.size)) (fun x hx => eQ (hlt x hx))
 refine ⟨ds, [], p ++ [], [], p, [], hW', ?_, ?_, ?_, World.keptBut_mono (fun x hx => ⟨hx, .inr (.inl (by simpa using hx))⟩) (hb.frame (· ∈ p ++ [])), fun h => by cases h⟩
 ·rw [hrt, List.append_nil, e1]
  exact trodAll_cons_mk (shut_bool Tryz.underlying4 _) trodAll_mk0
 ·rw [List.append_nil, e2]; exact hA2
 ·rw [List.append_nil, e3, hvars]; rfl
end
end Go.Proofs.YtmfmgeapecapiaaGreatDoor
