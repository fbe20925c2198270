/- A region that draws its order, walked once per operation: each operation's value meets a fact of its own, whatever came before it. One proof for all orders. region_flow2: a region that draws, walked once per operation; a fact is kept only while someone still needs it. region_flow3: a region that draws, walked once per operation; a fact is kept only while someone still needs it; what holds throughout may speak of which operations are done. region_flow5: region_flow5, where an operation may also panic. SHA-256 on lists of numbers: the plain function, no program in sight. math/bits.RotateLeft32, sizar/digest: rotated, word, put: each does what its plain function says. Laws for the walk: copy into a row that is known by its index. sizar/digest: word, put: each does what its plain function says. -/
import Derived.StillTail
import Derived.Deep.Quiet
import Derived.Deep.QuietTactic
import Derived.BigQuiet
import Derived.Lib.Hide
import Derived.Laws.BitsAllLaws
import Derived.WalkKit
import Derived.WalkLawsBesides
import Derived.Deep.OwnRows
import Derived.Laws.AppendOwn
import Derived.OwnWalk
import Derived.Laws.Bits64b
import Derived.Test.YtmfmgeapecapiaaDoorProg
import Derived.Laws.CopyOwn
namespace Go.Proofs.YtmfmgeapecapiaaDoor
section
variable {P : Program} {ops : Array Oper}
def upd (x : Nat → Value) (i : Nat) (v : Value) : Nat → Value := fun j => bif Nat.beq j i then v else x j
theorem upd_same (x : Nat → Value) (i : Nat) (v : Value) : upd x i v i = v := by unfold upd; rw [show Nat.beq i i = true by simp]; rfl
theorem upd_ne (x : Nat → Value) (v : Value) {i j : Nat} (h : j ≠ i) : upd x i v j = x j := by
  unfold upd; rw [show Nat.beq j i = false by cases hb : Nat.beq j i; rfl; exact absurd (Nat.eq_of_beq_eq_true hb) h]; rfl
/-- what an operation must reach: its own fact, the others' kept; no other way out -/
def FlowPost (k : Nat → Nat) (build : (Nat → Value) → Array Value) (df : List Deferred) (C : World → Prop) (S : Nat → Value → Value → World → Prop) (i : Nat) (x : Nat → Value) (w : World) : Exit → Act → World → Prop
  | .normal, a', w' => ∃ v, a' = ⟨build (upd x i v), df⟩ ∧ C w' ∧ S i v (upd x i v (k i)) w' ∧ ∀ j u t, j ≠ i → S j u t w → S j u t w'
  | _, _, _ => False
def Deps (k : Nat → Nat) (S : Nat → Value → Value → World → Prop) (x : Nat → Value) (w : World) : List Edge → Prop
  | [] => True
  | e :: l => (Region.binds .any e = true → S e.on (x e.on) (x (k e.on)) w) ∧ Deps k S x w l
def FlowAll (P : Program) (ops : Array Oper) (k : Nat → Nat) (build : (Nat → Value) → Array Value) (df : List Deferred) (C : World → Prop) (S : Nat → Value → Value → World → Prop) : Nat → List Oper → Prop
  | _, [] => True
  | i, o :: l => (∀ x w, C w → Deps k S x w o.after.toList → wpList P ops (FlowPost k build df C S i x w) [o] ⟨build x, df⟩ w) ∧ FlowAll P ops k build df C S (i + 1) l
theorem FlowAll.at {k : Nat → Nat} {build : (Nat → Value) → Array Value} {df : List Deferred} {C : World → Prop} {S : Nat → Value → Value → World → Prop} :
    ∀ (l : List Oper) (m i : Nat) (o : Oper), FlowAll P ops k build df C S m l → l[i]? = some o → ∀ x w, C w → Deps k S x w o.after.toList → wpList P ops (FlowPost k build df C S (m + i) x w) [o] ⟨build x, df⟩ w
  | [], m, i, o, _, h => by simp at h
  | o' :: l, m, 0, o, h, ho => by
    have : o' = o := by simpa using ho
    subst this
    exact h.1
  | o' :: l, m, i + 1, o, h, ho => by
    have := FlowAll.at l (m + 1) i o h.2 (by simpa using ho)
    rw [show m + (i + 1) = m + 1 + i by omega]
    exact this
theorem deps_of {k : Nat → Nat} {S : Nat → Value → Value → World → Prop} {x : Nat → Value} {w : World} : ∀ l : List Edge, (∀ e ∈ l, Region.binds .any e = true → S e.on (x e.on) (x (k e.on)) w) → Deps k S x w l
  | [], _ => trivial
  | e :: l, h => ⟨h e (by simp), deps_of l fun e' he => h e' (by simp [he])⟩
theorem wp_flow {o : Oper} {a : Act} {w : World} {K : Act → World → Prop} {Q Q' : Exit → Act → World → Prop} (hQ : ∀ e a w, e ≠ .normal → ¬ Q' e a w) (hK : ∀ a' w', Q' .normal a' w' → K a' w')
    (hh : o.wp P a w (wpList P ops Q' []) Q') : o.wp P a w K Q := by
  have hL : ¬ LetsOut Q' := fun ⟨a, w, h⟩ => hQ _ a w (by simp) h
  unfold Oper.wp at *
  generalize (execOp a.eval o).run P w = r at *
  cases r with
  | ok n w' =>
    cases n <;> simp only [Oper.upon] at hh ⊢ <;>
      first
        | exact hK _ _ hh
        | exact Calls.mono hh (fun e w'' he => by cases e <;> first | exact hK _ _ he | exact absurd he (hQ _ _ _ (by simp)) | exact absurd he hL)
        | exact Rows.mono hh (fun _ _ he => hK _ _ he)
  | halt x w' => cases x <;> simp only [Oper.upon] at hh ⊢ <;> exact absurd hh (hQ _ _ _ (by simp))
theorem wpOp_flow {i : Nat} {o : Oper} {a : Act} {w : World} {K : Act → World → Prop} {Q Q' : Exit → Act → World → Prop} (ho : ops[i]? = some o) (hQ : ∀ e a w, e ≠ .normal → ¬ Q' e a w) (hK : ∀ a' w', Q' .normal a' w' → K a' w')
    (h : wpList P ops Q' [o] a w) : wpOp P ops Q i K a w := by
  have hL : ¬ LetsOut Q' := fun ⟨a, w, h⟩ => hQ _ a w (by simp) h
  unfold wpList at h
  unfold wpOp
  simp only [ho]
  split at h
  · rename_i hw
    rw [if_pos hw]
    rcases h with h | h
    · exact .inl (wp_flow hQ hK h)
    · exact absurd h.2 hL
  · rename_i hw
    rw [if_neg hw]
    exact hK _ _ h
/-- each operation waits for earlier ones alone -/
def flowB (l : List Oper) : Bool := (List.range l.length).all fun i => (l[i]?.map fun o => o.after.all fun e => !Region.binds .any e || decide (e.on < i)).getD true
/-- what a fact is tied to, its operation waits for -/
def tiedB (k : Nat → Nat) (l : List Oper) : Bool := (List.range l.length).all fun i => Nat.beq (k i) i || (l[i]?.map fun o => o.after.any fun e => Region.binds .any e && Nat.beq e.on (k i)).getD true
def cnt (listed : Array Bool) (n : Nat) : Nat := (List.range n).countP fun i => !listed.getD i true
theorem countP_drop {p q : Nat → Bool} {i : Nat} : ∀ l : List Nat, l.Nodup → i ∈ l → p i = true → q i = false → (∀ j, j ≠ i → q j = p j) → l.countP q + 1 = l.countP p
  | [], _, h, _, _, _ => by cases h
  | a :: l, hn, hi, hp, hq, hj => by
    by_cases e : a = i
    · subst e
      have hna : a ∉ l := (List.nodup_cons.1 hn).1
      have hl : l.countP q = l.countP p := List.countP_congr fun x hx => by rw [hj x (fun e => hna (e ▸ hx))]
      rw [List.countP_cons, List.countP_cons, hp, hq, hl]; simp
    · have hm : i ∈ l := by rcases List.mem_cons.1 hi with h | h; exact absurd h.symm e; exact h
      have ih := countP_drop l (List.nodup_cons.1 hn).2 hm hp hq hj
      rw [List.countP_cons, List.countP_cons, hj a e]; omega
theorem any_flow {k : Nat → Nat} {l : List Oper} {Q : Exit → Act → World → Prop} {build : (Nat → Value) → Array Value} {df : List Deferred} {C : World → Prop} {S : Nat → Value → Value → World → Prop} (hB : flowB l = true) (hk : tiedB k l = true) (hall : FlowAll P l.toArray k build df C S 0 l)
    (hend : ∀ x w, C w → (∀ i, i < l.length → S i (x i) (x (k i)) w) → Q .normal ⟨build x, df⟩ w) :
    ∀ (f : Nat) (listed : Array Bool) (x : Nat → Value) (w : World), listed.size = l.length → cnt listed l.length ≤ f → C w → (∀ i, listed.getD i false = true → S i (x i) (x (k i)) w) → (∀ i, listed.getD i false = true → listed.getD (k i) false = true) → wpAny P .any l.toArray Q f listed ⟨build x, df⟩ w := by
  have hfull : ∀ (listed : Array Bool) (x : Nat → Value) (w : World), listed.size = l.length → C w → (∀ i, listed.getD i false = true → S i (x i) (x (k i)) w) → Region.ready .any l.toArray listed = [] → Q .normal ⟨build x, df⟩ w := by
    intro listed x w hs hC hS hr
    have hlt : ∀ n i, i < n → i < l.length → listed.getD i true = true := by
      intro n
      induction n with
      | zero => intro i hi; omega
      | succ n ih =>
        intro i hi hil
        rcases Nat.lt_or_ge i n with h | h
        · exact ih i h hil
        · obtain rfl : i = n := by omega
          apply Classical.byContradiction
          intro hne
          have hf : listed.getD i true = false := by simpa using hne
          have : i ∈ Region.ready .any l.toArray listed := by
            refine mem_ready.2 ⟨hf, l[i], by simp [hil], fun e he hbd => ?_⟩
            have h1 := List.all_eq_true.1 hB i (by simpa using hil)
            simp only [List.getElem?_eq_getElem hil, Option.map_some, Option.getD_some] at h1
            have h2 := Array.all_eq_true_iff_forall_mem.1 h1 e he
            have h3 : e.on < i := by rw [hbd] at h2; simpa using h2
            have h4 := ih e.on h3 (by omega)
            have h5 : e.on < listed.size := by omega
            simp only [Array.getD, h5, dite_true] at h4 ⊢
            exact h4
          rw [hr] at this
          cases this
    refine hend x w hC fun i hi => hS i ?_
    have h4 := hlt (i + 1) i (by omega) hi
    have h5 : i < listed.size := by omega
    simp only [Array.getD, h5, dite_true] at h4 ⊢
    exact h4
  intro f
  induction f with
  | zero =>
    intro listed x w hs hc hC hS hT
    have hr : Region.ready .any l.toArray listed = [] := by
      rw [List.eq_nil_iff_forall_not_mem]
      intro i hi
      obtain ⟨hu, o, ho, _⟩ := mem_ready.1 hi
      have hil : i < l.length := by have := (Array.getElem?_eq_some_iff.1 ho).1; simpa using this
      have : 0 < cnt listed l.length := List.countP_pos_iff.2 ⟨i, by simpa using hil, by rw [hu]; rfl⟩
      omega
    exact ⟨hr, hfull listed x w hs hC hS hr⟩
  | succ f ih =>
    intro listed x w hs hc hC hS hT
    refine ⟨fun hr => hfull listed x w hs hC hS hr, fun i hi => ?_⟩
    obtain ⟨hu, o, ho, hd⟩ := mem_ready.1 hi
    have hil : i < l.length := by have := (Array.getElem?_eq_some_iff.1 ho).1; simpa using this
    have hstep := hall.at l 0 i o (by simpa using ho) x w hC (deps_of _ fun e he hb => hS e.on (hd e (by simpa using he) hb))
    rw [Nat.zero_add] at hstep
    refine wpOp_flow ho (fun e a w he h => ?_) (fun a' w' h => ?_) hstep
    · cases e <;> first | exact he rfl | exact h
    · obtain ⟨v, rfl, hC', hS', hk'⟩ := h
      refine ih _ _ _ (by simp [hs]) ?_ hC' (fun j hj => ?_) fun j hj => ?_
      · have h1 := countP_drop (p := fun k => !listed.getD k true) (q := fun k => !(listed.setIfInBounds i true).getD k true) (i := i) (List.range l.length) List.nodup_range (by simpa using hil) (by rw [hu]; rfl)
          (by have : i < (listed.setIfInBounds i true).size := by simp; omega
              simp only [Array.getD, this, dite_true]; simp) (fun j hj => by rw [getD_set_ne true (Ne.symm hj)])
        have h2 : cnt listed l.length ≤ f + 1 := hc
        unfold cnt at h2 ⊢
        omega
      · by_cases e : j = i
        · subst e; rw [upd_same]; exact hS'
        · rw [getD_set_ne false (Ne.symm e)] at hj
          have hki : k j ≠ i := fun e2 => by
            have := hT j hj
            rw [e2, getD_both hu] at this
            cases this
          rw [upd_ne x v e, upd_ne x v hki]
          exact hk' j _ _ e (hS j hj)
      · have hset : ∀ m, listed.getD m false = true → (listed.setIfInBounds i true).getD m false = true := fun m hm => by
          by_cases e : m = i
          · subst e; rw [getD_both hu] at hm; cases hm
          · rw [getD_set_ne false (Ne.symm e)]; exact hm
        by_cases e : j = i
        · subst e
          have h1 := List.all_eq_true.1 hk j (by simpa using hil)
          simp only [Bool.or_eq_true] at h1
          rcases h1 with h1 | h1
          · rw [Nat.eq_of_beq_eq_true h1]; exact hj
          · have ho' : l[j]? = some o := by simpa using ho
            rw [ho', Option.map_some, Option.getD_some] at h1
            obtain ⟨m, hm, h2⟩ := Array.any_eq_true.1 h1
            obtain ⟨e, he, h2⟩ : ∃ e ∈ o.after, (Region.binds .any e && Nat.beq e.on (k j)) = true := ⟨_, Array.getElem_mem hm, h2⟩
            simp only [Bool.and_eq_true] at h2
            rw [← Nat.eq_of_beq_eq_true h2.2]
            exact hset _ (hd e he h2.1)
        · rw [getD_set_ne false (Ne.symm e)] at hj
          exact hset _ (hT j hj)
/-- the region -/
theorem region_flow {l : List Oper} {Q : Exit → Act → World → Prop} {id : Nat} {df : List Deferred} {w : World} (hm : P.follows .mixedOrders = true) (hB : flowB l = true)
    (k : Nat → Nat) (hk : tiedB k l = true) (build : (Nat → Value) → Array Value) (x0 : Nat → Value) (C : World → Prop) (S : Nat → Value → Value → World → Prop) (hC : C w.drew) (hall : FlowAll P l.toArray k build df C S 0 l)
    (hend : ∀ x w, C w → (∀ i, i < l.length → S i (x i) (x (k i)) w) → Q .normal ⟨build x, df⟩ w) : (Code.region id l.toArray true).wp P Q ⟨build x0, df⟩ w := by
  refine wp_region_any hm (any_flow hB hk hall hend _ _ _ _ (by simp) ?_ hC (fun i hi => ?_) fun i hi => ?_)
  · have : cnt (Array.replicate l.toArray.size false) l.length ≤ (List.range l.length).length := List.countP_le_length
    simpa using this
  · rw [getD_replicate_false] at hi; cases hi
  · rw [getD_replicate_false] at hi; cases hi
end
end Go.Proofs.YtmfmgeapecapiaaDoor
namespace Go.Proofs.YtmfmgeapecapiaaDoor
section
variable {P : Program} {ops : Array Oper}
def dataE (e : Edge) : Bool := match e.ground with
  | .data => true
  | .guard => true
  | _ => false
theorem dataE_binds {e : Edge} (h : dataE e = true) : Region.binds .any e = true := by
  unfold dataE at h; unfold Region.binds
  cases hg : e.ground <;> rw [hg] at h <;> first | rfl | cases h
def usesB (l : List Oper) (m j : Nat) : Bool := (l[m]?.map fun o => o.after.any fun e => dataE e && Nat.beq e.on j).getD false
end
end Go.Proofs.YtmfmgeapecapiaaDoor
namespace Go.Proofs.YtmfmgeapecapiaaDoor
section
variable {P : Program} {ops : Array Oper}
def updB (L : Nat → Bool) (i : Nat) : Nat → Bool := fun j => Nat.beq j i || L j
def usersB (l : List Oper) (j : Nat) : List Nat := (List.range l.length).filter fun m => usesB l m j
theorem mem_users {l : List Oper} {m j : Nat} (hm : m < l.length) (h : usesB l m j = true) : m ∈ usersB l j := List.mem_filter.2 ⟨List.mem_range.2 hm, h⟩
theorem not_needed {E : Nat → Bool} {l : List Oper} {j i : Nat} {L : Nat → Bool} (us : List Nat) (hE : E j = false) (hus : usersB l j = us) (h : ∀ m, m ∈ us → m ≠ i → L m = true) : ¬ (E j = true ∨ ∃ m, m ∈ usersB l j ∧ m ≠ i ∧ L m = false) := by
  rintro (h1 | ⟨m, h1, h2, h3⟩)
  · rw [hE] at h1; cases h1
  · rw [hus] at h1
    have := h m h1 h2
    rw [h3] at this; cases this
theorem updB_same (L : Nat → Bool) (i : Nat) : updB L i i = true := by unfold updB; rw [show Nat.beq i i = true by simp]; rfl
/-- what an operation must reach: its own fact, the others' kept as far as they are needed; no other way out -/
def FlowPost3 (E : Nat → Bool) (l0 : List Oper) (k : Nat → Nat) (build : (Nat → Value) → Array Value) (df : List Deferred) (C : (Nat → Bool) → (Nat → Value) → World → Prop) (S : Nat → Value → Value → World → Prop) (i : Nat) (L : Nat → Bool) (x : Nat → Value) (w : World) : Exit → Act → World → Prop
  | .normal, a', w' => ∃ v, a' = ⟨build (upd x i v), df⟩ ∧ C (updB L i) (upd x i v) w' ∧ S i v (upd x i v (k i)) w' ∧ ∀ j u t, L j = true → (E j = true ∨ ∃ m, m ∈ usersB l0 j ∧ m ≠ i ∧ L m = false) → S j u t w → S j u t w'
  | _, _, _ => False
def Deps3 (k : Nat → Nat) (S : Nat → Value → Value → World → Prop) (x : Nat → Value) (w : World) : List Edge → Prop
  | [] => True
  | e :: l => (dataE e = true → S e.on (x e.on) (x (k e.on)) w) ∧ Deps3 k S x w l
def FlowAll3 (P : Program) (ops : Array Oper) (E : Nat → Bool) (l0 : List Oper) (k : Nat → Nat) (build : (Nat → Value) → Array Value) (df : List Deferred) (C : (Nat → Bool) → (Nat → Value) → World → Prop) (S : Nat → Value → Value → World → Prop) : Nat → List Oper → Prop
  | _, [] => True
  | i, o :: l => (∀ L x w, C L x w → L i = false → (∀ m j, L m = true → usesB l0 m j = true → L j = true) → (∀ m, usesB l0 i m = true → L m = true) → Deps3 k S x w o.after.toList → wpList P ops (FlowPost3 E l0 k build df C S i L x w) [o] ⟨build x, df⟩ w) ∧ FlowAll3 P ops E l0 k build df C S (i + 1) l
theorem FlowAll3.at {l0 : List Oper} {E : Nat → Bool} {k : Nat → Nat} {build : (Nat → Value) → Array Value} {df : List Deferred} {C : (Nat → Bool) → (Nat → Value) → World → Prop} {S : Nat → Value → Value → World → Prop} :
    ∀ (l : List Oper) (m i : Nat) (o : Oper), FlowAll3 P ops E l0 k build df C S m l → l[i]? = some o → ∀ L x w, C L x w → L (m + i) = false → (∀ m' j, L m' = true → usesB l0 m' j = true → L j = true) → (∀ m', usesB l0 (m + i) m' = true → L m' = true) → Deps3 k S x w o.after.toList → wpList P ops (FlowPost3 E l0 k build df C S (m + i) L x w) [o] ⟨build x, df⟩ w
  | [], m, i, o, _, h => by simp at h
  | o' :: l, m, 0, o, h, ho => by
    have : o' = o := by simpa using ho
    subst this
    exact h.1
  | o' :: l, m, i + 1, o, h, ho => by
    have := FlowAll3.at l (m + 1) i o h.2 (by simpa using ho)
    rw [show m + (i + 1) = m + 1 + i by omega]
    exact this
theorem deps3_of {k : Nat → Nat} {S : Nat → Value → Value → World → Prop} {x : Nat → Value} {w : World} : ∀ l : List Edge, (∀ e ∈ l, dataE e = true → S e.on (x e.on) (x (k e.on)) w) → Deps3 k S x w l
  | [], _ => trivial
  | e :: l, h => ⟨h e (by simp), deps3_of l fun e' he => h e' (by simp [he])⟩
theorem any_flow3 {E : Nat → Bool} {k : Nat → Nat} {l : List Oper} {Q : Exit → Act → World → Prop} {build : (Nat → Value) → Array Value} {df : List Deferred} {C : (Nat → Bool) → (Nat → Value) → World → Prop} {S : Nat → Value → Value → World → Prop} (hB : flowB l = true) (hk : tiedB k l = true) (hall : FlowAll3 P l.toArray E l k build df C S 0 l)
    (hend : ∀ L x w, C L x w → (∀ i, i < l.length → E i = true → S i (x i) (x (k i)) w) → Q .normal ⟨build x, df⟩ w) :
    ∀ (f : Nat) (listed : Array Bool) (x : Nat → Value) (w : World), listed.size = l.length → cnt listed l.length ≤ f → C (fun j => listed.getD j false) x w → (∀ i, listed.getD i false = true → (E i = true ∨ ∃ m, m < l.length ∧ listed.getD m true = false ∧ usesB l m i = true) → S i (x i) (x (k i)) w) → (∀ i, listed.getD i false = true → listed.getD (k i) false = true) → (∀ m j, listed.getD m false = true → usesB l m j = true → listed.getD j false = true) → wpAny P .any l.toArray Q f listed ⟨build x, df⟩ w := by
  have hfull : ∀ (listed : Array Bool) (x : Nat → Value) (w : World), listed.size = l.length → C (fun j => listed.getD j false) x w → (∀ i, listed.getD i false = true → (E i = true ∨ ∃ m, m < l.length ∧ listed.getD m true = false ∧ usesB l m i = true) → S i (x i) (x (k i)) w) → Region.ready .any l.toArray listed = [] → Q .normal ⟨build x, df⟩ w := by
    intro listed x w hs hC hS hr
    have hlt : ∀ n i, i < n → i < l.length → listed.getD i true = true := by
      intro n
      induction n with
      | zero => intro i hi; omega
      | succ n ih =>
        intro i hi hil
        rcases Nat.lt_or_ge i n with h | h
        · exact ih i h hil
        · obtain rfl : i = n := by omega
          apply Classical.byContradiction
          intro hne
          have hf : listed.getD i true = false := by simpa using hne
          have : i ∈ Region.ready .any l.toArray listed := by
            refine mem_ready.2 ⟨hf, l[i], by simp [hil], fun e he hbd => ?_⟩
            have h1 := List.all_eq_true.1 hB i (by simpa using hil)
            simp only [List.getElem?_eq_getElem hil, Option.map_some, Option.getD_some] at h1
            have h2 := Array.all_eq_true_iff_forall_mem.1 h1 e he
            have h3 : e.on < i := by rw [hbd] at h2; simpa using h2
            have h4 := ih e.on h3 (by omega)
            have h5 : e.on < listed.size := by omega
            simp only [Array.getD, h5, dite_true] at h4 ⊢
            exact h4
          rw [hr] at this
          cases this
    refine hend _ x w hC fun i hi hE => hS i ?_ (.inl hE)
    have h4 := hlt (i + 1) i (by omega) hi
    have h5 : i < listed.size := by omega
    simp only [Array.getD, h5, dite_true] at h4 ⊢
    exact h4
  intro f
  induction f with
  | zero =>
    intro listed x w hs hc hC hS hT hD
    have hr : Region.ready .any l.toArray listed = [] := by
      rw [List.eq_nil_iff_forall_not_mem]
      intro i hi
      obtain ⟨hu, o, ho, _⟩ := mem_ready.1 hi
      have hil : i < l.length := by have := (Array.getElem?_eq_some_iff.1 ho).1; simpa using this
      have : 0 < cnt listed l.length := List.countP_pos_iff.2 ⟨i, by simpa using hil, by rw [hu]; rfl⟩
      omega
    exact ⟨hr, hfull listed x w hs hC hS hr⟩
  | succ f ih =>
    intro listed x w hs hc hC hS hT hD
    refine ⟨fun hr => hfull listed x w hs hC hS hr, fun i hi => ?_⟩
    obtain ⟨hu, o, ho, hd⟩ := mem_ready.1 hi
    have hil : i < l.length := by have := (Array.getElem?_eq_some_iff.1 ho).1; simpa using this
    have hol : l[i]? = some o := by simpa using ho
    have hui : listed.getD i false = false := by
      have : i < listed.size := by omega
      simp only [Array.getD, this, dite_true] at hu ⊢
      exact hu
    have hdn : ∀ j, usesB l (0 + i) j = true → listed.getD j false = true := fun j huse => by
      rw [Nat.zero_add] at huse
      unfold usesB at huse
      rw [hol, Option.map_some, Option.getD_some] at huse
      obtain ⟨q, hq, h2⟩ := Array.any_eq_true.1 huse
      simp only [Bool.and_eq_true] at h2
      have h3 := hd _ (Array.getElem_mem hq) (dataE_binds h2.1)
      rw [Nat.eq_of_beq_eq_true h2.2] at h3
      exact h3
    have hstep := hall.at l 0 i o hol (fun j => listed.getD j false) x w hC (by rw [Nat.zero_add]; exact hui) hD hdn (deps3_of _ fun e he hb => hS e.on (hd e (by simpa using he) (dataE_binds hb)) (.inr ⟨i, hil, hu, by
      unfold usesB
      rw [hol, Option.map_some, Option.getD_some]
      exact Array.any_eq_true'.2 ⟨e, by simpa using he, by rw [hb]; simp⟩⟩))
    rw [Nat.zero_add] at hstep
    refine wpOp_flow ho (fun e a w he h => ?_) (fun a' w' h => ?_) hstep
    · cases e <;> first | exact he rfl | exact h
    · obtain ⟨v, rfl, hC', hS', hk'⟩ := h
      have hfe : (fun j => (listed.setIfInBounds i true).getD j false) = updB (fun j => listed.getD j false) i := by
        funext j
        by_cases e : j = i
        · subst e
          have h1 : j < (listed.setIfInBounds j true).size := by simp; omega
          rw [updB_same]
          simp only [Array.getD, h1, dite_true]; simp
        · rw [getD_set_ne false (Ne.symm e)]
          unfold updB
          rw [show Nat.beq j i = false by cases hb : Nat.beq j i; rfl; exact absurd (Nat.eq_of_beq_eq_true hb) e]; rfl
      have hset0 : ∀ m, listed.getD m false = true → (listed.setIfInBounds i true).getD m false = true := fun m hm => by
        have := congrFun hfe m
        rw [this]; unfold updB; simp only [hm, Bool.or_true]
      refine ih _ _ _ (by simp [hs]) ?_ (by rw [hfe]; exact hC') (fun j hj hn => ?_) (fun j hj => ?_) fun m j hm huse => ?_
      · have h1 := countP_drop (p := fun k => !listed.getD k true) (q := fun k => !(listed.setIfInBounds i true).getD k true) (i := i) (List.range l.length) List.nodup_range (by simpa using hil) (by rw [hu]; rfl)
          (by have : i < (listed.setIfInBounds i true).size := by simp; omega
              simp only [Array.getD, this, dite_true]; simp) (fun j hj => by rw [getD_set_ne true (Ne.symm hj)])
        have h2 : cnt listed l.length ≤ f + 1 := hc
        unfold cnt at h2 ⊢
        omega
      · by_cases e : j = i
        · subst e; rw [upd_same]; exact hS'
        · rw [getD_set_ne false (Ne.symm e)] at hj
          have hki : k j ≠ i := fun e2 => by
            have := hT j hj
            rw [e2, getD_both hu] at this
            cases this
          rw [upd_ne x v e, upd_ne x v hki]
          have hn' : E j = true ∨ ∃ m, m < l.length ∧ m ≠ i ∧ listed.getD m true = false ∧ usesB l m j = true := by
            rcases hn with h | ⟨m, h1, h2, h3⟩
            · exact .inl h
            · refine .inr ⟨m, h1, ?_, ?_, h3⟩
              · intro em
                subst em
                have : m < (listed.setIfInBounds m true).size := by simp; omega
                simp only [Array.getD, this, dite_true] at h2
                simp at h2
              · by_cases em : m = i
                · subst em
                  have : m < (listed.setIfInBounds m true).size := by simp; omega
                  simp only [Array.getD, this, dite_true] at h2
                  simp at h2
                · rwa [getD_set_ne true (Ne.symm em)] at h2
          refine hk' j _ _ hj ?_ (hS j hj ?_)
          · rcases hn' with h | ⟨m, h1, h2, h4, h3⟩
            · exact .inl h
            · refine .inr ⟨m, mem_users h1 h3, h2, ?_⟩
              have : m < listed.size := by omega
              simp only [Array.getD, this, dite_true] at h4 ⊢
              exact h4
          · rcases hn' with h | ⟨m, h1, _, h2, h3⟩
            · exact .inl h
            · exact .inr ⟨m, h1, h2, h3⟩
      · have hset : ∀ m, listed.getD m false = true → (listed.setIfInBounds i true).getD m false = true := fun m hm => by
          by_cases e : m = i
          · subst e; rw [getD_both hu] at hm; cases hm
          · rw [getD_set_ne false (Ne.symm e)]; exact hm
        by_cases e : j = i
        · subst e
          have h1 := List.all_eq_true.1 hk j (by simpa using hil)
          simp only [Bool.or_eq_true] at h1
          rcases h1 with h1 | h1
          · rw [Nat.eq_of_beq_eq_true h1]; exact hj
          · have ho' : l[j]? = some o := by simpa using ho
            rw [ho', Option.map_some, Option.getD_some] at h1
            obtain ⟨m, hm, h2⟩ := Array.any_eq_true.1 h1
            obtain ⟨e, he, h2⟩ : ∃ e ∈ o.after, (Region.binds .any e && Nat.beq e.on (k j)) = true := ⟨_, Array.getElem_mem hm, h2⟩
            simp only [Bool.and_eq_true] at h2
            rw [← Nat.eq_of_beq_eq_true h2.2]
            exact hset _ (hd e he h2.1)
        · rw [getD_set_ne false (Ne.symm e)] at hj
          exact hset _ (hT j hj)
      · by_cases e : m = i
        · subst e
          unfold usesB at huse
          rw [hol, Option.map_some, Option.getD_some] at huse
          obtain ⟨q, hq, h2⟩ := Array.any_eq_true.1 huse
          simp only [Bool.and_eq_true] at h2
          have h3 := hd _ (Array.getElem_mem hq) (dataE_binds h2.1)
          rw [Nat.eq_of_beq_eq_true h2.2] at h3
          exact hset0 _ h3
        · rw [getD_set_ne false (Ne.symm e)] at hm
          exact hset0 _ (hD m j hm huse)
/-- the region -/
theorem region_flow3 {l : List Oper} {Q : Exit → Act → World → Prop} {id : Nat} {df : List Deferred} {w : World} (hm : P.follows .mixedOrders = true) (hB : flowB l = true) (E : Nat → Bool)
    (k : Nat → Nat) (hk : tiedB k l = true) (build : (Nat → Value) → Array Value) (x0 : Nat → Value) (C : (Nat → Bool) → (Nat → Value) → World → Prop) (S : Nat → Value → Value → World → Prop) (hC : C (fun _ => false) x0 w.drew) (hall : FlowAll3 P l.toArray E l k build df C S 0 l)
    (hend : ∀ L x w, C L x w → (∀ i, i < l.length → E i = true → S i (x i) (x (k i)) w) → Q .normal ⟨build x, df⟩ w) : (Code.region id l.toArray true).wp P Q ⟨build x0, df⟩ w := by
  have hf : (fun j => (Array.replicate l.toArray.size false).getD j false) = fun _ => false := by funext j; exact getD_replicate_false _ _
  refine wp_region_any hm (any_flow3 hB hk hall hend _ _ _ _ (by simp) ?_ (by rw [hf]; exact hC) (fun i hi => ?_) (fun i hi => ?_) fun m j hm _ => ?_)
  · have : cnt (Array.replicate l.toArray.size false) l.length ≤ (List.range l.length).length := List.countP_le_length
    simpa using this
  · rw [getD_replicate_false] at hi; cases hi
  · rw [getD_replicate_false] at hi; cases hi
  · rw [getD_replicate_false] at hm; cases hm
end
end Go.Proofs.YtmfmgeapecapiaaDoor
namespace Go.Proofs.YtmfmgeapecapiaaDoor
section
variable {P : Program} {ops : Array Oper}
theorem wp_flow5 {o : Oper} {a : Act} {w : World} {K : Act → World → Prop} {Q Q' : Exit → Act → World → Prop} (hL : ¬ LetsOut Q') (hP : ∀ ch a w, Q' (.panic ch) a w → Q (.panic ch) a w) (hK : ∀ a' w', Q' .normal a' w' → K a' w')
    (hh : o.wp P a w (wpList P ops Q' []) Q') : o.wp P a w K Q := by
  unfold Oper.wp at *
  generalize (execOp a.eval o).run P w = r at *
  cases r with
  | ok n w' =>
    cases n <;> simp only [Oper.upon] at hh ⊢ <;>
      first
        | exact hK _ _ hh
        | exact Calls.mono hh (fun e w'' he => by cases e <;> first | exact hK _ _ he | exact hP _ _ _ he | exact absurd he hL)
        | exact Rows.mono hh (fun _ _ he => hK _ _ he)
  | halt x w' => cases x <;> simp only [Oper.upon] at hh ⊢ <;> first | exact hP _ _ _ hh | exact hh
theorem wpOp_flow5 {i : Nat} {o : Oper} {a : Act} {w : World} {K : Act → World → Prop} {Q Q' : Exit → Act → World → Prop} (ho : ops[i]? = some o) (hL : ¬ LetsOut Q') (hP : ∀ ch a w, Q' (.panic ch) a w → Q (.panic ch) a w) (hK : ∀ a' w', Q' .normal a' w' → K a' w')
    (h : wpList P ops Q' [o] a w) : wpOp P ops Q i K a w := by
  unfold wpList at h
  unfold wpOp
  simp only [ho]
  split at h
  · rename_i hw
    rw [if_pos hw]
    rcases h with h | h
    · exact .inl (wp_flow5 hL hP hK h)
    · exact absurd h.2 hL
  · rename_i hw
    rw [if_neg hw]
    exact hK _ _ h
/-- what an operation must reach: its own fact, the others' kept as far as they are needed; no other way out -/
def FlowPost5 (E : Nat → Bool) (l0 : List Oper) (k : Nat → Nat) (build : (Nat → Value) → Array Value) (df : List Deferred) (C : (Nat → Bool) → (Nat → Value) → World → Prop) (S : Nat → Value → Value → World → Prop) (R : List PanicEntry → World → Prop) (i : Nat) (L : Nat → Bool) (x : Nat → Value) (w : World) : Exit → Act → World → Prop
  | .normal, a', w' => ∃ v, a' = ⟨build (upd x i v), df⟩ ∧ C (updB L i) (upd x i v) w' ∧ S i v (upd x i v (k i)) w' ∧ ∀ j u t, L j = true → (E j = true ∨ ∃ m, m ∈ usersB l0 j ∧ m ≠ i ∧ L m = false) → S j u t w → S j u t w'
  | .panic ch, a', w' => a'.defers = df ∧ R ch w'
  | _, _, _ => False
def FlowAll5 (P : Program) (ops : Array Oper) (E : Nat → Bool) (l0 : List Oper) (k : Nat → Nat) (build : (Nat → Value) → Array Value) (df : List Deferred) (C : (Nat → Bool) → (Nat → Value) → World → Prop) (S : Nat → Value → Value → World → Prop) (R : List PanicEntry → World → Prop) : Nat → List Oper → Prop
  | _, [] => True
  | i, o :: l => (∀ L x w, C L x w → L i = false → (∀ m j, L m = true → usesB l0 m j = true → L j = true) → (∀ m, usesB l0 i m = true → L m = true) → Deps3 k S x w o.after.toList → wpList P ops (FlowPost5 E l0 k build df C S R i L x w) [o] ⟨build x, df⟩ w) ∧ FlowAll5 P ops E l0 k build df C S R (i + 1) l
theorem FlowAll5.at {l0 : List Oper} {E : Nat → Bool} {k : Nat → Nat} {build : (Nat → Value) → Array Value} {df : List Deferred} {C : (Nat → Bool) → (Nat → Value) → World → Prop} {S : Nat → Value → Value → World → Prop} {R : List PanicEntry → World → Prop} :
    ∀ (l : List Oper) (m i : Nat) (o : Oper), FlowAll5 P ops E l0 k build df C S R m l → l[i]? = some o → ∀ L x w, C L x w → L (m + i) = false → (∀ m' j, L m' = true → usesB l0 m' j = true → L j = true) → (∀ m', usesB l0 (m + i) m' = true → L m' = true) → Deps3 k S x w o.after.toList → wpList P ops (FlowPost5 E l0 k build df C S R (m + i) L x w) [o] ⟨build x, df⟩ w
  | [], m, i, o, _, h => by simp at h
  | o' :: l, m, 0, o, h, ho => by
    have : o' = o := by simpa using ho
    subst this
    exact h.1
  | o' :: l, m, i + 1, o, h, ho => by
    have := FlowAll5.at l (m + 1) i o h.2 (by simpa using ho)
    rw [show m + (i + 1) = m + 1 + i by omega]
    exact this
theorem any_flow5 {E : Nat → Bool} {k : Nat → Nat} {l : List Oper} {Q : Exit → Act → World → Prop} {build : (Nat → Value) → Array Value} {df : List Deferred} {C : (Nat → Bool) → (Nat → Value) → World → Prop} {S : Nat → Value → Value → World → Prop} {R : List PanicEntry → World → Prop} (hB : flowB l = true) (hk : tiedB k l = true) (hall : FlowAll5 P l.toArray E l k build df C S R 0 l)
    (hpan : ∀ ch a' w', a'.defers = df → R ch w' → Q (.panic ch) a' w')
    (hend : ∀ L x w, (∀ i, i < l.length → L i = true) → C L x w → (∀ i, i < l.length → E i = true → S i (x i) (x (k i)) w) → Q .normal ⟨build x, df⟩ w) :
    ∀ (f : Nat) (listed : Array Bool) (x : Nat → Value) (w : World), listed.size = l.length → cnt listed l.length ≤ f → C (fun j => listed.getD j false) x w → (∀ i, listed.getD i false = true → (E i = true ∨ ∃ m, m < l.length ∧ listed.getD m true = false ∧ usesB l m i = true) → S i (x i) (x (k i)) w) → (∀ i, listed.getD i false = true → listed.getD (k i) false = true) → (∀ m j, listed.getD m false = true → usesB l m j = true → listed.getD j false = true) → wpAny P .any l.toArray Q f listed ⟨build x, df⟩ w := by
  have hfull : ∀ (listed : Array Bool) (x : Nat → Value) (w : World), listed.size = l.length → C (fun j => listed.getD j false) x w → (∀ i, listed.getD i false = true → (E i = true ∨ ∃ m, m < l.length ∧ listed.getD m true = false ∧ usesB l m i = true) → S i (x i) (x (k i)) w) → Region.ready .any l.toArray listed = [] → Q .normal ⟨build x, df⟩ w := by
    intro listed x w hs hC hS hr
    have hlt : ∀ n i, i < n → i < l.length → listed.getD i true = true := by
      intro n
      induction n with
      | zero => intro i hi; omega
      | succ n ih =>
        intro i hi hil
        rcases Nat.lt_or_ge i n with h | h
        · exact ih i h hil
        · obtain rfl : i = n := by omega
          apply Classical.byContradiction
          intro hne
          have hf : listed.getD i true = false := by simpa using hne
          have : i ∈ Region.ready .any l.toArray listed := by
            refine mem_ready.2 ⟨hf, l[i], by simp [hil], fun e he hbd => ?_⟩
            have h1 := List.all_eq_true.1 hB i (by simpa using hil)
            simp only [List.getElem?_eq_getElem hil, Option.map_some, Option.getD_some] at h1
            have h2 := Array.all_eq_true_iff_forall_mem.1 h1 e he
            have h3 : e.on < i := by rw [hbd] at h2; simpa using h2
            have h4 := ih e.on h3 (by omega)
            have h5 : e.on < listed.size := by omega
            simp only [Array.getD, h5, dite_true] at h4 ⊢
            exact h4
          rw [hr] at this
          cases this
    have hall : ∀ i, i < l.length → listed.getD i false = true := fun i hi => by
      have h4 := hlt (i + 1) i (by omega) hi
      have h5 : i < listed.size := by omega
      simp only [Array.getD, h5, dite_true] at h4 ⊢
      exact h4
    exact hend _ x w hall hC fun i hi hE => hS i (hall i hi) (.inl hE)
  intro f
  induction f with
  | zero =>
    intro listed x w hs hc hC hS hT hD
    have hr : Region.ready .any l.toArray listed = [] := by
      rw [List.eq_nil_iff_forall_not_mem]
      intro i hi
      obtain ⟨hu, o, ho, _⟩ := mem_ready.1 hi
      have hil : i < l.length := by have := (Array.getElem?_eq_some_iff.1 ho).1; simpa using this
      have : 0 < cnt listed l.length := List.countP_pos_iff.2 ⟨i, by simpa using hil, by rw [hu]; rfl⟩
      omega
    exact ⟨hr, hfull listed x w hs hC hS hr⟩
  | succ f ih =>
    intro listed x w hs hc hC hS hT hD
    refine ⟨fun hr => hfull listed x w hs hC hS hr, fun i hi => ?_⟩
    obtain ⟨hu, o, ho, hd⟩ := mem_ready.1 hi
    have hil : i < l.length := by have := (Array.getElem?_eq_some_iff.1 ho).1; simpa using this
    have hol : l[i]? = some o := by simpa using ho
    have hui : listed.getD i false = false := by
      have : i < listed.size := by omega
      simp only [Array.getD, this, dite_true] at hu ⊢
      exact hu
    have hdn : ∀ j, usesB l (0 + i) j = true → listed.getD j false = true := fun j huse => by
      rw [Nat.zero_add] at huse
      unfold usesB at huse
      rw [hol, Option.map_some, Option.getD_some] at huse
      obtain ⟨q, hq, h2⟩ := Array.any_eq_true.1 huse
      simp only [Bool.and_eq_true] at h2
      have h3 := hd _ (Array.getElem_mem hq) (dataE_binds h2.1)
      rw [Nat.eq_of_beq_eq_true h2.2] at h3
      exact h3
    have hstep := hall.at l 0 i o hol (fun j => listed.getD j false) x w hC (by rw [Nat.zero_add]; exact hui) hD hdn (deps3_of _ fun e he hb => hS e.on (hd e (by simpa using he) (dataE_binds hb)) (.inr ⟨i, hil, hu, by
      unfold usesB
      rw [hol, Option.map_some, Option.getD_some]
      exact Array.any_eq_true'.2 ⟨e, by simpa using he, by rw [hb]; simp⟩⟩))
    rw [Nat.zero_add] at hstep
    refine wpOp_flow5 ho (fun ⟨_, _, h⟩ => h) (fun ch a w h => ?_) (fun a' w' h => ?_) hstep
    · exact hpan _ _ _ h.1 h.2
    · obtain ⟨v, rfl, hC', hS', hk'⟩ := h
      have hfe : (fun j => (listed.setIfInBounds i true).getD j false) = updB (fun j => listed.getD j false) i := by
        funext j
        by_cases e : j = i
        · subst e
          have h1 : j < (listed.setIfInBounds j true).size := by simp; omega
          rw [updB_same]
          simp only [Array.getD, h1, dite_true]; simp
        · rw [getD_set_ne false (Ne.symm e)]
          unfold updB
          rw [show Nat.beq j i = false by cases hb : Nat.beq j i; rfl; exact absurd (Nat.eq_of_beq_eq_true hb) e]; rfl
      have hset0 : ∀ m, listed.getD m false = true → (listed.setIfInBounds i true).getD m false = true := fun m hm => by
        have := congrFun hfe m
        rw [this]; unfold updB; simp only [hm, Bool.or_true]
      refine ih _ _ _ (by simp [hs]) ?_ (by rw [hfe]; exact hC') (fun j hj hn => ?_) (fun j hj => ?_) fun m j hm huse => ?_
      · have h1 := countP_drop (p := fun k => !listed.getD k true) (q := fun k => !(listed.setIfInBounds i true).getD k true) (i := i) (List.range l.length) List.nodup_range (by simpa using hil) (by rw [hu]; rfl)
          (by have : i < (listed.setIfInBounds i true).size := by simp; omega
              simp only [Array.getD, this, dite_true]; simp) (fun j hj => by rw [getD_set_ne true (Ne.symm hj)])
        have h2 : cnt listed l.length ≤ f + 1 := hc
        unfold cnt at h2 ⊢
        omega
      · by_cases e : j = i
        · subst e; rw [upd_same]; exact hS'
        · rw [getD_set_ne false (Ne.symm e)] at hj
          have hki : k j ≠ i := fun e2 => by
            have := hT j hj
            rw [e2, getD_both hu] at this
            cases this
          rw [upd_ne x v e, upd_ne x v hki]
          have hn' : E j = true ∨ ∃ m, m < l.length ∧ m ≠ i ∧ listed.getD m true = false ∧ usesB l m j = true := by
            rcases hn with h | ⟨m, h1, h2, h3⟩
            · exact .inl h
            · refine .inr ⟨m, h1, ?_, ?_, h3⟩
              · intro em
                subst em
                have : m < (listed.setIfInBounds m true).size := by simp; omega
                simp only [Array.getD, this, dite_true] at h2
                simp at h2
              · by_cases em : m = i
                · subst em
                  have : m < (listed.setIfInBounds m true).size := by simp; omega
                  simp only [Array.getD, this, dite_true] at h2
                  simp at h2
                · rwa [getD_set_ne true (Ne.symm em)] at h2
          refine hk' j _ _ hj ?_ (hS j hj ?_)
          · rcases hn' with h | ⟨m, h1, h2, h4, h3⟩
            · exact .inl h
            · refine .inr ⟨m, mem_users h1 h3, h2, ?_⟩
              have : m < listed.size := by omega
              simp only [Array.getD, this, dite_true] at h4 ⊢
              exact h4
          · rcases hn' with h | ⟨m, h1, _, h2, h3⟩
            · exact .inl h
            · exact .inr ⟨m, h1, h2, h3⟩
      · have hset : ∀ m, listed.getD m false = true → (listed.setIfInBounds i true).getD m false = true := fun m hm => by
          by_cases e : m = i
          · subst e; rw [getD_both hu] at hm; cases hm
          · rw [getD_set_ne false (Ne.symm e)]; exact hm
        by_cases e : j = i
        · subst e
          have h1 := List.all_eq_true.1 hk j (by simpa using hil)
          simp only [Bool.or_eq_true] at h1
          rcases h1 with h1 | h1
          · rw [Nat.eq_of_beq_eq_true h1]; exact hj
          · have ho' : l[j]? = some o := by simpa using ho
            rw [ho', Option.map_some, Option.getD_some] at h1
            obtain ⟨m, hm, h2⟩ := Array.any_eq_true.1 h1
            obtain ⟨e, he, h2⟩ : ∃ e ∈ o.after, (Region.binds .any e && Nat.beq e.on (k j)) = true := ⟨_, Array.getElem_mem hm, h2⟩
            simp only [Bool.and_eq_true] at h2
            rw [← Nat.eq_of_beq_eq_true h2.2]
            exact hset _ (hd e he h2.1)
        · rw [getD_set_ne false (Ne.symm e)] at hj
          exact hset _ (hT j hj)
      · by_cases e : m = i
        · subst e
          unfold usesB at huse
          rw [hol, Option.map_some, Option.getD_some] at huse
          obtain ⟨q, hq, h2⟩ := Array.any_eq_true.1 huse
          simp only [Bool.and_eq_true] at h2
          have h3 := hd _ (Array.getElem_mem hq) (dataE_binds h2.1)
          rw [Nat.eq_of_beq_eq_true h2.2] at h3
          exact hset0 _ h3
        · rw [getD_set_ne false (Ne.symm e)] at hm
          exact hset0 _ (hD m j hm huse)
/-- the region -/
theorem region_flow5 {l : List Oper} {Q : Exit → Act → World → Prop} {id : Nat} {df : List Deferred} {w : World} (hm : P.follows .mixedOrders = true) (hB : flowB l = true) (E : Nat → Bool)
    (k : Nat → Nat) (hk : tiedB k l = true) (build : (Nat → Value) → Array Value) (x0 : Nat → Value) (C : (Nat → Bool) → (Nat → Value) → World → Prop) (S : Nat → Value → Value → World → Prop) (R : List PanicEntry → World → Prop) (hC : C (fun _ => false) x0 w.drew) (hall : FlowAll5 P l.toArray E l k build df C S R 0 l)
    (hpan : ∀ ch a' w', a'.defers = df → R ch w' → Q (.panic ch) a' w')
    (hend : ∀ L x w, (∀ i, i < l.length → L i = true) → C L x w → (∀ i, i < l.length → E i = true → S i (x i) (x (k i)) w) → Q .normal ⟨build x, df⟩ w) : (Code.region id l.toArray true).wp P Q ⟨build x0, df⟩ w := by
  have hf : (fun j => (Array.replicate l.toArray.size false).getD j false) = fun _ => false := by funext j; exact getD_replicate_false _ _
  refine wp_region_any hm (any_flow5 hB hk hall hpan hend _ _ _ _ (by simp) ?_ (by rw [hf]; exact hC) (fun i hi => ?_) (fun i hi => ?_) fun m j hm _ => ?_)
  · have : cnt (Array.replicate l.toArray.size false) l.length ≤ (List.range l.length).length := List.countP_le_length
    simpa using this
  · rw [getD_replicate_false] at hi; cases hi
  · rw [getD_replicate_false] at hi; cases hi
  · rw [getD_replicate_false] at hm; cases hm
end
end Go.Proofs.YtmfmgeapecapiaaDoor
namespace Go.Proofs.SzSha
set_option linter.unusedVariables false
def ks : List Nat := [1116352408, 1899447441, 3049323471, 3921009573, 961987163, 1508970993, 2453635748, 2870763221, 3624381080, 310598401, 607225278, 1426881987, 1925078388, 2162078206, 2614888103, 3248222580, 3835390401, 4022224774, 264347078, 604807628, 770255983, 1249150122, 1555081692, 1996064986, 2554220882, 2821834349, 2952996808, 3210313671, 3336571891, 3584528711, 113926993, 338241895, 666307205, 773529912, 1294757372, 1396182291, 1695183700, 1986661051, 2177026350, 2456956037, 2730485921, 2820302411, 3259730800, 3345764771, 3516065817, 3600352804, 4094571909, 275423344, 430227734, 506948616, 659060556, 883997877, 958139571, 1322822218, 1537002063, 1747873779, 1955562222, 2024104815, 2227730452, 2361852424, 2428436474, 2756734187, 3204031479, 3329325298]
def hs : List Nat := [1779033703, 3144134277, 1013904242, 2773480762, 1359893119, 2600822924, 528734635, 1541459225]
def kf (t : Nat) : Nat := ks.getD t 0
def hf (i : Nat) : Nat := hs.getD i 0
theorem getD_out (l : List Nat) (i : Nat) (h : l.length ≤ i) : l.getD i 0 = 0 := by
  rw [List.getD_eq_getElem?_getD, List.getElem?_eq_none h]; rfl
theorem kf_lt (t : Nat) : kf t < 4294967296 := by
  unfold kf
  by_cases h : t < 64
  · have : ∀ i : Fin 64, ks.getD i.val 0 < 4294967296 := by decide +kernel
    exact this ⟨t, h⟩
  · rw [getD_out _ _ (show ks.length ≤ t by have : ks.length = 64 := rfl; omega)]; omega
theorem hf_lt (t : Nat) : hf t < 4294967296 := by
  unfold hf
  by_cases h : t < 8
  · have : ∀ i : Fin 8, hs.getD i.val 0 < 4294967296 := by decide +kernel
    exact this ⟨t, h⟩
  · rw [getD_out _ _ (show hs.length ≤ t by have : hs.length = 8 := rfl; omega)]; omega
/-- a sum of words -/
def add (a b : Nat) : Nat := (a + b) % 4294967296
theorem add_lt (a b : Nat) : add a b < 4294967296 := Nat.mod_lt _ (by decide)
/-- a rotation to the right -/
def ror (x n : Nat) : Nat := x / 2 ^ n ||| x * 2 ^ (32 - n) % 4294967296
theorem ror_lt (x n : Nat) (h : x < 4294967296) : ror x n < 4294967296 :=
  Nat.or_lt_two_pow (n := 32) (Nat.lt_of_le_of_lt (Nat.div_le_self _ _) h) (Nat.mod_lt _ (by decide))
theorem xor_lt {a b : Nat} (ha : a < 4294967296) (hb : b < 4294967296) : a ^^^ b < 4294967296 := Nat.xor_lt_two_pow (n := 32) ha hb
theorem and_lt {a b : Nat} (ha : a < 4294967296) : a &&& b < 4294967296 := Nat.lt_of_le_of_lt Nat.and_le_left ha
theorem or_lt {a b : Nat} (ha : a < 4294967296) (hb : b < 4294967296) : a ||| b < 4294967296 := Nat.or_lt_two_pow (n := 32) ha hb
theorem div_lt {a : Nat} (n : Nat) (ha : a < 4294967296) : a / n < 4294967296 := Nat.lt_of_le_of_lt (Nat.div_le_self _ _) ha
def rot3 (v a b c : Nat) : Nat := (ror v a ^^^ ror v b) ^^^ ror v c
def sg0 (x : Nat) : Nat := (ror x 7 ^^^ ror x 18) ^^^ (x / 8)
def sg1 (x : Nat) : Nat := (ror x 17 ^^^ ror x 19) ^^^ (x / 1024)
def ch (e f g : Nat) : Nat := g ^^^ (e &&& (f ^^^ g))
def maj (a b c : Nat) : Nat := (a &&& b) ||| (c &&& (a ||| b))
/-- the word at a place of bytes -/
def word (b : List Nat) (t : Nat) : Nat := ((b.getD (4 * t) 0 * 256 + b.getD (4 * t + 1) 0) * 256 + b.getD (4 * t + 2) 0) * 256 + b.getD (4 * t + 3) 0
/-- all are bytes -/
def Bytes (b : List Nat) : Prop := ∀ x ∈ b, x < 256
theorem Bytes.getD {b : List Nat} (h : Bytes b) (i : Nat) : b.getD i 0 < 256 := by
  by_cases hi : i < b.length
  · rw [List.getD_eq_getElem?_getD, List.getElem?_eq_getElem hi]; exact h _ (List.getElem_mem hi)
  · rw [getD_out _ _ (by omega)]; omega
theorem word_lt {b : List Nat} (h : Bytes b) (t : Nat) : word b t < 4294967296 := by
  have h0 := h.getD (4 * t)
  have h1 := h.getD (4 * t + 1)
  have h2 := h.getD (4 * t + 2)
  have h3 := h.getD (4 * t + 3)
  unfold word; omega
/-- the first words of the schedule -/
def wl (b : List Nat) : Nat → List Nat
  | 0 => []
  | t + 1 => wl b t ++ [if t < 16 then word b t else add (add (add ((wl b t).getD (t - 16) 0) (sg0 ((wl b t).getD (t - 15) 0))) ((wl b t).getD (t - 7) 0)) (sg1 ((wl b t).getD (t - 2) 0))]
theorem wl_length (b : List Nat) (t : Nat) : (wl b t).length = t := by
  induction t with
  | zero => rfl
  | succ t ih => simp [wl, ih]
theorem wl_get (b : List Nat) (t n : Nat) (h : t < n) : (wl b n).getD t 0 = (wl b (t + 1)).getD t 0 := by
  induction n with
  | zero => omega
  | succ n ih =>
    by_cases e : t = n
    · rw [e]
    · rw [← ih (by omega)]
      show (wl b n ++ _).getD t 0 = _
      rw [List.getD_eq_getElem?_getD, List.getElem?_append_left (by rw [wl_length]; omega), ← List.getD_eq_getElem?_getD]
/-- the words of the schedule -/
def wt (b : List Nat) (t : Nat) : Nat := (wl b 64).getD t 0
theorem wl_last (b : List Nat) (t : Nat) : (wl b (t + 1)).getD t 0 = if t < 16 then word b t else add (add (add ((wl b t).getD (t - 16) 0) (sg0 ((wl b t).getD (t - 15) 0))) ((wl b t).getD (t - 7) 0)) (sg1 ((wl b t).getD (t - 2) 0)) := by
  show (wl b t ++ [_]).getD t 0 = _
  rw [List.getD_eq_getElem?_getD, List.getElem?_append_right (by rw [wl_length]; omega), wl_length, Nat.sub_self]; rfl
theorem wt_low (b : List Nat) (t : Nat) (h : t < 16) : wt b t = word b t := by
  unfold wt; rw [wl_get b t 64 (by omega), wl_last, if_pos h]
theorem wt_high (b : List Nat) (t : Nat) (h : 16 ≤ t) (h' : t < 64) : wt b t = add (add (add (wt b (t - 16)) (sg0 (wt b (t - 15)))) (wt b (t - 7))) (sg1 (wt b (t - 2))) := by
  have g : ∀ j, j < t → (wl b t).getD j 0 = wt b j := fun j hj => by unfold wt; rw [wl_get b j 64 (by omega), wl_get b j t hj]
  conv => lhs; unfold wt
  rw [wl_get b t 64 h', wl_last, if_neg (by omega), g _ (by omega), g _ (by omega), g _ (by omega), g _ (by omega)]
theorem wt_lt {b : List Nat} (hb : Bytes b) (t : Nat) (h : t < 64) : wt b t < 4294967296 := by
  by_cases e : t < 16
  · rw [wt_low b t e]; exact word_lt hb t
  · rw [wt_high b t (by omega) h]; exact add_lt _ _
/-- a round -/
def rp (v : Nat → Nat) (k w : Nat) : Nat := add (add (add (add (v 7) (rot3 (v 4) 6 11 25)) (ch (v 4) (v 5) (v 6))) k) w
def rq (v : Nat → Nat) : Nat := add (rot3 (v 0) 2 13 22) (maj (v 0) (v 1) (v 2))
def rnd (v : Nat → Nat) (k w : Nat) (i : Nat) : Nat := if i = 0 then add (rp v k w) (rq v) else if i = 4 then add (v 3) (rp v k w) else v (i - 1)
def Words (v : Nat → Nat) : Prop := ∀ i, i < 8 → v i < 4294967296
theorem rnd_words {v : Nat → Nat} (h : Words v) (k w : Nat) : Words (rnd v k w) := fun i hi => by
  unfold rnd
  split
  · exact add_lt _ _
  · split
    · exact add_lt _ _
    · exact h _ (by omega)
def rounds (b : List Nat) (s : Nat → Nat) : Nat → Nat → Nat
  | 0 => s
  | t + 1 => rnd (rounds b s t) (kf t) (wt b t)
theorem rounds_words {s : Nat → Nat} (h : Words s) (b : List Nat) (t : Nat) : Words (rounds b s t) := by
  induction t with
  | zero => exact h
  | succ t ih => exact rnd_words ih _ _
/-- the state after a block -/
def block (s : Nat → Nat) (b : List Nat) (i : Nat) : Nat := add (s i) (rounds b s 64 i)
theorem block_words (s : Nat → Nat) (b : List Nat) : Words (block s b) := fun _ _ => add_lt _ _
def blocks : Nat → (Nat → Nat) → List Nat → Nat → Nat
  | 0, s, _ => s
  | n + 1, s, l => blocks n (block s (l.take 64)) (l.drop 64)
theorem blocks_words (n : Nat) : ∀ {s : Nat → Nat} (l : List Nat), Words s → Words (blocks n s l) := by
  induction n with
  | zero => intro s l h; exact h
  | succ n ih => intro s l h; exact ih _ (block_words _ _)
theorem blocks_snoc (n : Nat) : ∀ (s : Nat → Nat) (l : List Nat), blocks (n + 1) s l = block (blocks n s l) ((l.drop (64 * n)).take 64) := by
  induction n with
  | zero => intro s l; simp [blocks]
  | succ n ih =>
    intro s l
    rw [blocks, ih, blocks, List.drop_drop, show 64 + 64 * n = 64 * (n + 1) by omega]
theorem blocks_append (m n : Nat) : ∀ (s : Nat → Nat) (l r : List Nat), l.length = 64 * m → blocks (m + n) s (l ++ r) = blocks n (blocks m s l) r := by
  induction m with
  | zero =>
    intro s l r h
    obtain rfl : l = [] := List.eq_nil_of_length_eq_zero (by omega)
    simp [blocks]
  | succ m ih =>
    intro s l r h
    rw [show m + 1 + n = (m + n) + 1 by omega, blocks, blocks, List.take_append_of_le_length (by omega), List.drop_append_of_le_length (by omega), ih _ _ _ (by rw [List.length_drop]; omega)]
theorem blocks_left (m : Nat) (s : Nat → Nat) (l r : List Nat) (h : l.length = 64 * m) : blocks m s (l ++ r) = blocks m s l := by
  have := blocks_append m 0 s l r h
  rw [Nat.add_zero] at this; exact this
/-- a number's bytes, the greatest first -/
def be (n : Nat) (k : Nat) : List Nat := (List.range k).map fun i => n / 256 ^ (k - 1 - i) % 256
theorem be_length (n k : Nat) : (be n k).length = k := by simp [be]
theorem be_bytes (n k : Nat) : Bytes (be n k) := fun x hx => by
  simp only [be, List.mem_map] at hx
  obtain ⟨i, _, rfl⟩ := hx
  exact Nat.mod_lt _ (by decide)
/-- how many zeros follow -/
def zeros (n : Nat) : Nat := (119 - n % 64) % 64
def tail (n : Nat) : List Nat := 128 :: (List.replicate (zeros n) 0 ++ be (8 * n) 8)
theorem tail_length (n : Nat) : (tail n).length = 9 + zeros n := by simp [tail, be_length]; omega
theorem tail_bytes (n : Nat) : Bytes (tail n) := fun x hx => by
  simp only [tail, List.mem_cons, List.mem_append, List.mem_replicate] at hx
  rcases hx with rfl | ⟨_, rfl⟩ | h
  · omega
  · omega
  · exact be_bytes _ _ x h
def padded (b : List Nat) : List Nat := b ++ tail b.length
/-- the state behind all blocks -/
def fin (b : List Nat) : Nat → Nat := blocks ((padded b).length / 64) hf (padded b)
theorem hf_words : Words hf := fun i _ => hf_lt i
theorem fin_words (b : List Nat) : Words (fin b) := blocks_words _ _ hf_words
/-- the bytes of a hash -/
def out (v : Nat → Nat) (i : Nat) : Nat := v (i / 4) / 256 ^ (3 - i % 4) % 256
theorem out_lt (v : Nat → Nat) (i : Nat) : out v i < 256 := Nat.mod_lt _ (by decide)
def sha (b : List Nat) : List Nat := (List.range 32).map (out (fin b))
theorem sha_length (b : List Nat) : (sha b).length = 32 := by simp [sha]
theorem sha_bytes (b : List Nat) : Bytes (sha b) := fun x hx => by
  simp only [sha, List.mem_map] at hx
  obtain ⟨i, _, rfl⟩ := hx
  exact out_lt _ _
/-- the hash under a tag -/
def tagged (tag b : List Nat) : List Nat := sha (sha tag ++ b)
theorem tagged_length (t b : List Nat) : (tagged t b).length = 32 := sha_length _
theorem tagged_bytes (t b : List Nat) : Bytes (tagged t b) := sha_bytes _
/-- the last blocks, as the program makes them: behind the m whole blocks of b -/
def last (b : List Nat) : List Nat := b.drop (64 * (b.length / 64)) ++ tail b.length
theorem last_length (b : List Nat) : (last b).length = if b.length % 64 > 55 then 128 else 64 := by
  rw [last, List.length_append, List.length_drop, tail_length, zeros]
  split <;> omega
theorem fin_eq (b : List Nat) : fin b = blocks ((last b).length / 64) (blocks (b.length / 64) hf b) (last b) := by
  have e : padded b = b.take (64 * (b.length / 64)) ++ last b := by
    rw [padded, last, ← List.append_assoc, List.take_append_drop]
  have hl : (b.take (64 * (b.length / 64))).length = 64 * (b.length / 64) := by rw [List.length_take]; omega
  have hn : (padded b).length / 64 = b.length / 64 + (last b).length / 64 := by
    rw [e, List.length_append, hl]; omega
  have h2 : blocks (b.length / 64) hf b = blocks (b.length / 64) hf (b.take (64 * (b.length / 64))) := by
    have := blocks_left (b.length / 64) hf _ (b.drop (64 * (b.length / 64))) hl
    rwa [List.take_append_drop] at this
  unfold fin
  rw [hn, e, blocks_append _ _ _ _ _ hl, h2]
end Go.Proofs.SzSha
namespace Go.Proofs.YtmfmgeapecapiaaDoor
open Go.RowKit SzSha
set_option linter.unusedVariables false
theorem rot_bits (n : Nat) (h1 : 1 ≤ n) (h2 : n ≤ 31) : bits .and .u64 (IntKind.u64.wrap (-(n : Int))) 31 = ((32 - n : Nat) : Int) := by
  have e : IntKind.u64.wrap (-(n : Int)) = ((18446744073709551616 - n : Nat) : Int) := by
    rw [IntKind.wrap_u64]; omega
  have h := bits_and_u64_nat (18446744073709551616 - n) 31 (by omega) (by omega)
  rw [e]
  refine h.trans ?_
  rw [show (31 : Nat) = 2 ^ 5 - 1 from rfl, Nat.and_two_pow_sub_one_eq_mod]
  omega
theorem rot_end (x n m : Nat) (hx : x < 4294967296) (h : n + m = 32) :
    bits .or .u32 ((x : Int) * 2 ^ m % 4294967296) ((x : Int) / 2 ^ (32 - m)) = (ror x n : Nat) := by
  have e1 : (x : Int) * 2 ^ m % 4294967296 = ((x * 2 ^ (32 - n) % 4294967296 : Nat) : Int) := by
    rw [show 32 - n = m by omega]; rfl
  have e2 : ((x : Int) / 2 ^ (32 - m)) = ((x / 2 ^ n : Nat) : Int) := by
    rw [show 32 - m = n by omega]; rfl
  rw [e1, e2, u32_or_nat _ _ (Nat.mod_lt _ (by decide)) (div_lt _ hx), Nat.or_comm]; rfl
set_option maxHeartbeats 400000 in
theorem rotl_any (x n : Nat) (w : World) (hx : x < 4294967296) (h1 : 1 ≤ n) (h2 : n ≤ 31) :
    Calls Tryd.prog 128 #[.int .u32 x, .int .i64 (-(n : Int))] w fun e w' => e = .returned (.int .u32 (ror x n : Nat)) ∧ w = w' := by
  have hb := rot_bits n h1 h2
  obtain ⟨m, hm⟩ : ∃ m, n + m = 32 := ⟨32 - n, by omega⟩
  rw [show 32 - n = m by omega] at hb
  have hm1 : m ≤ 31 := by omega
  have R := Lib.hid (rot_end x n m hx hm)
  have HM := Lib.hid hm
  clear hm
  go_enter Tryd.func128, Tryd.ntmps128
  go_wp2_with fail
  go_ret
  refine ⟨?_, rfl⟩
  rw [← R.out]; rfl
theorem xor_nat (a b : Nat) (ha : a < 4294967296) (hb : b < 4294967296) : Hid (bits .xor .u32 (a : Int) (b : Int) = ((a ^^^ b : Nat) : Int)) := Lib.hid (u32_xor_nat a b ha hb)
set_option maxHeartbeats 400000 in
theorem rotated_any (x a b c : Nat) (w : World) (hx : x < 4294967296) (a1 : 1 ≤ a) (a2 : a ≤ 31) (b1 : 1 ≤ b) (b2 : b ≤ 31) (c1 : 1 ≤ c) (c2 : c ≤ 31) :
    Calls Tryd.prog 129 #[.int .u32 x, .int .i64 a, .int .i64 b, .int .i64 c] w fun e w' => e = .returned (.int .u32 (rot3 x a b c : Nat)) ∧ w = w' := by
  have r1 := ror_lt x a hx
  have r2 := ror_lt x b hx
  have r3 := ror_lt x c hx
  have X1 := xor_nat _ _ r1 r2
  have X2 := xor_nat _ _ (SzSha.xor_lt r1 r2) r3
  clear r1 r2 r3
  go_enter Tryd.func129, Tryd.ntmps129
  go_wp2_with fail
  refine (rotl_any x a _ hx a1 a2).mono ?_
  rintro e w' ⟨rfl, rfl⟩
  go_wp2_with fail
  refine (rotl_any x b _ hx b1 b2).mono ?_
  rintro e w' ⟨rfl, rfl⟩
  go_wp2_with fail
  refine (rotl_any x c _ hx c1 c2).mono ?_
  rintro e w' ⟨rfl, rfl⟩
  rw [X1.out]
  go_wp2_with fail
  go_ret
  refine ⟨?_, rfl⟩
  show Ending.returned (.int .u32 (bits .xor .u32 _ _)) = _
  rw [X2.out]; rfl
end Go.Proofs.YtmfmgeapecapiaaDoor
namespace Go.Proofs.YtmfmgeapecapiaaDoor
open Go.RowKit
set_option linter.unusedVariables false
theorem only_setCell {a w : World} {g : Nat} (h : a.grownBy w (some g)) {p : Addr} (hp : p.block = g ∨ a.heap.size ≤ p.block) (u : Value) : a.grownBy (w.setCell p u) (some g) :=
  ⟨h.os, h.tape, h.output, by simpa [World.setCell] using h.size, fun i hi hne => (Below.heap_setCell w p u i (by
    rintro rfl
    rcases hp with hp | hp
    · exact hne (by rw [hp])
    · omega)).trans (h.block i hi hne)⟩
theorem only_of_below {a w : World} (h : Below a.heap.size a w) (row : Option Nat) : a.grownBy w row := ⟨h.os, h.tape, h.output, h.size, fun i hi _ => h.block i hi⟩
theorem only_trans {a b c : World} {row : Option Nat} (h : a.grownBy b row) (k : b.grownBy c row) : a.grownBy c row :=
  ⟨k.os.trans h.os, k.tape.trans h.tape, k.output.trans h.output, Nat.le_trans h.size k.size, fun i hi hne => (k.block i (Nat.lt_of_lt_of_le hi h.size) hne).trans (h.block i hi hne)⟩
/-- writes to a block that is new do not count -/
theorem below_of_only {B : Nat} {a w w' : World} {g : Nat} (h : Below B a w) (k : w.grownBy w' (some g)) (hB : B ≤ w.heap.size) (hg : B ≤ g) : Below B a w' :=
  ⟨k.os.trans h.os, k.tape.trans h.tape, k.output.trans h.output, Nat.le_trans h.size k.size, fun i hi => (k.block i (Nat.lt_of_lt_of_le hi hB) (fun e => by injection e with e; omega)).trans (h.block i hi)⟩
theorem rowIs_only {w w' : World} {g b : Nat} {t n : Nat} {f : Nat → Value} (h : w.rowIs b t n f) (k : w.grownBy w' (some g)) (hne : b ≠ g) : w'.rowIs b t n f :=
  h.of_block (k.block b h.lt (fun e => by injection e with e; exact hne e))
theorem rowIs_below {B : Nat} {w w' : World} {b : Nat} {t n : Nat} {f : Nat → Value} (h : w.rowIs b t n f) (k : Below B w w') (hb : b < B) : w'.rowIs b t n f := h.of_block (k.block b hb)
theorem cell_only {w w' : World} {g : Nat} {p : Addr} (k : w.grownBy w' (some g)) (hlt : p.block < w.heap.size) (hne : p.block ≠ g) : w'.cell? p = w.cell? p :=
  World.cell?_of_block (k.block p.block hlt (fun e => by injection e with e; exact hne e))
theorem drew_only {a w : World} {row : Option Nat} (h : a.grownBy w row) : a.grownBy w.drew row := ⟨h.os, h.tape, h.output, h.size, h.block⟩
def overF (off m : Nat) (h f : Nat → Value) (j : Nat) : Value := if off ≤ j ∧ j < off + m then h (j - off) else f j
theorem over_get (off m N : Nat) (h f : Nat → Value) (c : Array Value) (hc : c.size = N) (hf : ∀ i, i < N → c[i]? = some (f i)) (hfit : off + m ≤ N) (i : Nat) (hi : i < N) :
    (c.toList.take off ++ ((List.range m).map h ++ c.toList.drop (off + ((List.range m).map h).length)))[i]? = some (overF off m h f i) := by
  have hl : c.toList.length = N := by simpa using hc
  have ht : (c.toList.take off).length = off := by rw [List.length_take]; omega
  unfold overF
  by_cases h1 : i < off
  · rw [List.getElem?_append_left (by omega), List.getElem?_take_of_lt h1, if_neg (by omega)]
    simpa using hf i hi
  · rw [List.getElem?_append_right (by omega), ht]
    by_cases h2 : i < off + m
    · rw [List.getElem?_append_left (by simp; omega), if_pos (by omega)]
      simp [show i - off < m by omega]
    · rw [List.getElem?_append_right (by simp; omega), List.getElem?_drop, if_neg (by omega)]
      simp only [List.length_map, List.length_range]
      rw [show off + m + (i - off - m) = i by omega]
      simpa using hf i hi
/-- copy into a row known by its index -/
theorem wpList_copy_rowIs {P : Program} {w : World} {ops : Array Oper} {rest : List Oper} {o : Oper} {a : Act} {Q : Exit → Act → World → Prop} (hgd : o.guard = none) (d s : Operand) (dT sT : TypeId)
    (ho : o.op = .call { callee := .builtin .copy, args := #[d, s], argTypes := #[dT, sT] }) (elem : TypeId) (hu : P.underlying dT = some (.slice elem)) (hsz : (P.info? elem).map (·.size) = some 1)
    (g off dLen dCap : Nat) (sp : Option Addr) (sLen sCap : Nat) (hd : a.eval d = .slice (some ⟨g, off, none⟩) dLen dCap) (hs : a.eval s = .slice sp sLen sCap)
    (T N : Nat) (f : Nat → Value) (hr : Hid (w.rowIs g T N f)) (m : Nat) (hm : m = Nat.min sLen dLen) (h : Nat → Value)
    (hsrc : 0 < m → ∃ ad, sp = some ad ∧ ∀ j, j < m → w.cell? (ad.add j) = some (h j)) (hfit : off + m ≤ N) (h1 : ∀ j, j < m → (h j).oneCell' = true)
    (K : ∀ w', Hid (w'.rowIs g T N (overF off m h f)) → Hid (w.grownBy w' (some g)) → wpList P ops Q rest (a.put o.dst (goInt m)) w') :
    wpList P ops Q (o :: rest) a w := by
  rcases Nat.eq_zero_or_pos m with h0 | h0
  · refine wpList_copy_nothing hgd d s dT sT ho elem hu hsz _ sp dLen dCap sLen sCap hd hs (by omega) ?_
    have := K w (Lib.hid (hr.out.congr fun i hi => by unfold overF; rw [if_neg (by omega)])) (Lib.hid (World.grownBy.refl _ _))
    rw [h0] at this
    exact this
  · obtain ⟨ad, rfl, hc⟩ := hsrc h0
    obtain ⟨c, hb, hn, hcf⟩ := hr.out
    have hlen : ((List.range m).map h).length = m := by simp
    refine wpList_copy_own hgd d s dT sT ho elem hu hsz g off dLen dCap ad sLen sCap hd hs c T hb ((List.range m).map h) (by rw [hlen]; exact hm)
      (fun j v hv => ?_) (by rw [hlen, hn]; exact hfit) (fun v hv => ?_) ?_
    · have hj : j < m := by have := (List.getElem?_eq_some_iff.1 hv).1; simpa using this
      have : v = h j := by simp [hj] at hv; exact hv.symm
      rw [this]; exact hc j hj
    · simp only [List.mem_map, List.mem_range] at hv
      obtain ⟨j, hj, rfl⟩ := hv
      exact h1 j hj
    · have hrow : (w.setRow g (c.toList.take off ++ ((List.range m).map h ++ c.toList.drop (off + ((List.range m).map h).length))).toArray).rowIs g T N (overF off m h f) :=
        ⟨_, setRow_heap w g _ _ T _ hb, by simp [hn]; omega, fun i hi => by
          rw [List.getElem?_toArray]
          exact over_get off m N h f c hn hcf hfit i hi⟩
      have := K _ (Lib.hid hrow) (Lib.hid ⟨rfl, rfl, rfl, by simp [World.setRow], fun i hi hne => setRow_other w g i _ (fun e => hne (by rw [e]))⟩)
      rw [hlen] at this ⊢
      exact this
end Go.Proofs.YtmfmgeapecapiaaDoor
namespace Go.Proofs.YtmfmgeapecapiaaDoor
open Go.RowKit SzSha
set_option linter.unusedVariables false
/-- the number of k bytes -/
def wordN (x : Nat → Nat) : Nat → Nat
  | 0 => 0
  | k + 1 => wordN x k * 256 + x k
theorem wordN_lt (x : Nat → Nat) (hx : ∀ i, i < 4 → x i < 256) : ∀ k, k ≤ 4 → wordN x k < 256 ^ k
  | 0, _ => by simp [wordN]
  | k + 1, h => by
    have h1 := wordN_lt x hx k (by omega)
    have h2 := hx k (by omega)
    rw [wordN, Nat.pow_succ]
    generalize 256 ^ k = z at *
    omega
theorem or_byte (n c : Nat) (hn : n < 16777216) (hc : c < 256) : bits .or .u32 ((n : Int) * 256) (c : Int) = ((n * 256 + c : Nat) : Int) := by
  have e : (n : Int) * 256 = ((n * 256 : Nat) : Int) := by omega
  rw [e, u32_or_nat _ _ (by omega) (by omega)]
  have := Nat.two_pow_add_eq_or_of_lt (i := 8) (b := c) (by omega) n
  rw [show (2 : Nat) ^ 8 * n = n * 256 by omega] at this
  rw [this]
set_option maxHeartbeats 400000 in
theorem word_any (g off n c : Nat) (x : Nat → Nat) (w : World) (hn : 4 ≤ n) (hc : n ≤ c) (hx : ∀ i, i < 4 → x i < 256) (h : Hid (∀ i, i < 4 → w.cell? ⟨g, off + i, none⟩ = some (.int .u8 (x i)))) :
    Calls Tryd.prog 127 #[.slice (some ⟨g, off, none⟩) n c] w fun e w' => e = .returned (.int .u32 (wordN x 4 : Nat)) ∧ w = w' := by
  have HX := Lib.hid hx
  clear hx
  have hc4 : 4 ≤ c := by omega
  go_enter Tryd.func127, Tryd.ntmps127
  go_wp2_with fail
  go_loop [2, 8] (fun a i => ∃ k : Nat, k ≤ 4 ∧ i = .int .i64 k ∧ a = .int .u32 (wordN x k : Nat)) (fun _ i => 4 - (intOf i).toNat)
  case atStart => exact ⟨0, by omega, rfl, rfl⟩
  case round =>
    obtain ⟨k, hk, rfl, rfl⟩ := hrel
    by_cases hlt : k < 4
    · have hcell := h.out k hlt
      have hw : wordN x k < 16777216 := Nat.lt_of_lt_of_le (wordN_lt x HX.out k hk) (Nat.pow_le_pow_right (n := 256) (i := k) (j := 3) (by omega) (by omega))
      have hb := HX.out k hlt
      have ho := Lib.hid (or_byte _ _ hw hb)
      go_wp2_with fail
      go_round
      case rel => exact ⟨k + 1, by omega, by go_num, by rw [ho.out]; rfl⟩
      case measure => simp [intOf]; omega
    · obtain rfl : k = 4 := by omega
      go_wp2_with fail
      go_ret
      exact ⟨rfl, rfl⟩
/-- what 'put' leaves in a row -/
def putF (off L n : Nat) (f : Nat → Value) (j : Nat) : Value := if off ≤ j ∧ j < off + L then .int .u8 ((n / 256 ^ (off + L - 1 - j) % 256 : Nat)) else f j
/-- the same behind k rounds: the last k places are written -/
def putK (off L n k : Nat) (f : Nat → Value) (j : Nat) : Value := if off + L - k ≤ j ∧ j < off + L then .int .u8 ((n / 256 ^ (off + L - 1 - j) % 256 : Nat)) else f j
theorem putK_succ (off L n k : Nat) (f : Nat → Value) (hk : k < L) : (fun j => if j = off + (L - 1 - k) then Value.int .u8 ((n / 256 ^ k % 256 : Nat)) else putK off L n k f j) = putK off L n (k + 1) f := by
  funext j
  unfold putK
  by_cases e : j = off + (L - 1 - k)
  · rw [if_pos e, if_pos (by omega), show off + L - 1 - j = k by omega]
  · rw [if_neg e]
    by_cases e2 : off + L - k ≤ j ∧ j < off + L
    · rw [if_pos e2, if_pos (by omega)]
    · rw [if_neg e2, if_neg (by omega)]
theorem byte_shift (n k : Nat) (hn : n ≤ 18446744073709551615) (hk : k < 8) : (n : Int) / 2 ^ (8 * k) % 256 = ((n / 256 ^ k % 256 : Nat) : Int) := by
  show ((n / 2 ^ (8 * k) % 256 : Nat) : Int) = _
  rw [Nat.pow_mul]
set_option maxHeartbeats 400000 in
theorem put_any (g off L c n T N : Nat) (f : Nat → Value) (w : World) (hL : L ≤ 8) (hLc : L ≤ c) (hN : off + L ≤ N) (hn : n ≤ 18446744073709551615) (h : Hid (w.rowIs g T N f)) :
    Calls Tryd.prog 102 #[.slice (some ⟨g, off, none⟩) L c, .int .u64 n] w fun e w' => (∃ v, e = .returned v) ∧ w'.rowIs g T N (putF off L n f) ∧ w.grownBy w' (some g) := by
  go_enter Tryd.func102, Tryd.ntmps102
  go_wp2_with fail
  go_loopw [7] (fun i wr => ∃ k : Nat, k ≤ L ∧ i = .int .i64 k ∧ Hid (wr.rowIs g T N (putK off L n k f)) ∧ Hid (w.grownBy wr (some g))) (fun i _ => L - (intOf i).toNat)
  case atStart => exact ⟨0, by omega, rfl, Lib.hid (h.out.congr fun i hi => by unfold putK; rw [if_neg (by omega)]), Lib.hid (World.grownBy.refl _ _)⟩
  case round =>
    obtain ⟨k, hk, rfl, hr, hg⟩ := hrel
    by_cases hlt : k < L
    · have hcell := hr.out.cell (i := off + (L - 1 - k)) (by omega)
      have hfr := hr.out.frozen (off + (L - 1 - k))
      go_wp2_with fail
      go_roundw
      case rel => exact ⟨k + 1, by omega, by go_num, Lib.hid (by rw [← putK_succ off L n k f hlt, ← byte_shift n k hn (by omega)]; exact hr.out.set _ _), Lib.hid (only_setCell hg.out (.inl rfl) _)⟩
      case measure => simp [intOf]; omega
    · obtain rfl : k = L := by omega
      go_wp2_with fail
      go_end0
      exact ⟨⟨_, rfl⟩, hr.out.congr fun i hi => by unfold putK putF; rw [show off + k - k = off by omega], hg.out⟩
end Go.Proofs.YtmfmgeapecapiaaDoor
