/- A region that draws its order, walked once per operation: each operation's value meets a fact of its own, whatever came before it. One proof for all orders. -/
import Derived.StillTail
import Derived.Deep.Quiet
import Derived.Deep.QuietTactic
import Derived.BigQuiet
namespace Go.Proofs.YtgcmbiegbclhmaaDoor
section
variable {P : Program} {ops : Array Oper}
def upd (x : Nat → Value) (i : Nat) (v : Value) : Nat → Value := fun j => bif Nat.beq j i then v else x j
theorem upd_same (x : Nat → Value) (i : Nat) (v : Value) : upd x i v i = v := by unfold upd; rw [show Nat.beq i i = true by simp]; rfl
theorem upd_ne (x : Nat → Value) (v : Value) {i j : Nat} (h : j ≠ i) : upd x i v j = x j := by
  unfold upd; rw [show Nat.beq j i = false by cases hb : Nat.beq j i; rfl; exact absurd (Nat.eq_of_beq_eq_true hb) h]; rfl
/-- what an operation must reach: its own fact, the others' kept; no other way out -/
def FlowPost (k : Nat → Nat) (build : (Nat → Value) → Array Value) (df : List Deferred) (C : World → Prop) (S : Nat → Value → Value → World → Prop) (i : Nat) (x : Nat → Value) (w : World) : Exit → Act → World → Prop
  | .normal, a', w' => ∃ v, a' = ⟨build (upd x i v), df⟩ ∧ C w' ∧ S i v (upd x i v (k i)) w' ∧ ∀ j u t, j ≠ i → S j u t w → S j u t w'
  | _, _, _ => False
def Deps (k : Nat → Nat) (S : Nat → Value → Value → World → Prop) (x : Nat → Value) (w : World) : List Edge → Prop
  | [] => True
  | e :: l => (Region.binds .any e = true → S e.on (x e.on) (x (k e.on)) w) ∧ Deps k S x w l
def FlowAll (P : Program) (ops : Array Oper) (k : Nat → Nat) (build : (Nat → Value) → Array Value) (df : List Deferred) (C : World → Prop) (S : Nat → Value → Value → World → Prop) : Nat → List Oper → Prop
  | _, [] => True
  | i, o :: l => (∀ x w, C w → Deps k S x w o.after.toList → wpList P ops (FlowPost k build df C S i x w) [o] ⟨build x, df⟩ w) ∧ FlowAll P ops k build df C S (i + 1) l
theorem FlowAll.at {k : Nat → Nat} {build : (Nat → Value) → Array Value} {df : List Deferred} {C : World → Prop} {S : Nat → Value → Value → World → Prop} :
    ∀ (l : List Oper) (m i : Nat) (o : Oper), FlowAll P ops k build df C S m l → l[i]? = some o → ∀ x w, C w → Deps k S x w o.after.toList → wpList P ops (FlowPost k build df C S (m + i) x w) [o] ⟨build x, df⟩ w
  | [], m, i, o, _, h => by simp at h
  | o' :: l, m, 0, o, h, ho => by
    have : o' = o := by simpa using ho
    subst this
    exact h.1
  | o' :: l, m, i + 1, o, h, ho => by
    have := FlowAll.at l (m + 1) i o h.2 (by simpa using ho)
    rw [show m + (i + 1) = m + 1 + i by omega]
    exact this
theorem deps_of {k : Nat → Nat} {S : Nat → Value → Value → World → Prop} {x : Nat → Value} {w : World} : ∀ l : List Edge, (∀ e ∈ l, Region.binds .any e = true → S e.on (x e.on) (x (k e.on)) w) → Deps k S x w l
  | [], _ => trivial
  | e :: l, h => ⟨h e (by simp), deps_of l fun e' he => h e' (by simp [he])⟩
theorem wp_flow {o : Oper} {a : Act} {w : World} {K : Act → World → Prop} {Q Q' : Exit → Act → World → Prop} (hQ : ∀ e a w, e ≠ .normal → ¬ Q' e a w) (hK : ∀ a' w', Q' .normal a' w' → K a' w')
    (hh : o.wp P a w (wpList P ops Q' []) Q') : o.wp P a w K Q := by
  have hL : ¬ LetsOut Q' := fun ⟨a, w, h⟩ => hQ _ a w (by simp) h
  unfold Oper.wp at *
  generalize (execOp a.eval o).run P w = r at *
  cases r with
  | ok n w' =>
    cases n <;> simp only [Oper.upon] at hh ⊢ <;>
      first
        | exact hK _ _ hh
        | exact Calls.mono hh (fun e w'' he => by cases e <;> first | exact hK _ _ he | exact absurd he (hQ _ _ _ (by simp)) | exact absurd he hL)
        | exact Rows.mono hh (fun _ _ he => hK _ _ he)
  | halt x w' => cases x <;> simp only [Oper.upon] at hh ⊢ <;> exact absurd hh (hQ _ _ _ (by simp))
theorem wpOp_flow {i : Nat} {o : Oper} {a : Act} {w : World} {K : Act → World → Prop} {Q Q' : Exit → Act → World → Prop} (ho : ops[i]? = some o) (hQ : ∀ e a w, e ≠ .normal → ¬ Q' e a w) (hK : ∀ a' w', Q' .normal a' w' → K a' w')
    (h : wpList P ops Q' [o] a w) : wpOp P ops Q i K a w := by
  have hL : ¬ LetsOut Q' := fun ⟨a, w, h⟩ => hQ _ a w (by simp) h
  unfold wpList at h
  unfold wpOp
  simp only [ho]
  split at h
  · rename_i hw
    rw [if_pos hw]
    rcases h with h | h
    · exact .inl (wp_flow hQ hK h)
    · exact absurd h.2 hL
  · rename_i hw
    rw [if_neg hw]
    exact hK _ _ h
/-- each operation waits for earlier ones alone -/
def flowB (l : List Oper) : Bool := (List.range l.length).all fun i => (l[i]?.map fun o => o.after.all fun e => !Region.binds .any e || decide (e.on < i)).getD true
/-- what a fact is tied to, its operation waits for -/
def tiedB (k : Nat → Nat) (l : List Oper) : Bool := (List.range l.length).all fun i => Nat.beq (k i) i || (l[i]?.map fun o => o.after.any fun e => Region.binds .any e && Nat.beq e.on (k i)).getD true
def cnt (listed : Array Bool) (n : Nat) : Nat := (List.range n).countP fun i => !listed.getD i true
theorem countP_drop {p q : Nat → Bool} {i : Nat} : ∀ l : List Nat, l.Nodup → i ∈ l → p i = true → q i = false → (∀ j, j ≠ i → q j = p j) → l.countP q + 1 = l.countP p
  | [], _, h, _, _, _ => by cases h
  | a :: l, hn, hi, hp, hq, hj => by
    by_cases e : a = i
    · subst e
      have hna : a ∉ l := (List.nodup_cons.1 hn).1
      have hl : l.countP q = l.countP p := List.countP_congr fun x hx => by rw [hj x (fun e => hna (e ▸ hx))]
      rw [List.countP_cons, List.countP_cons, hp, hq, hl]; simp
    · have hm : i ∈ l := by rcases List.mem_cons.1 hi with h | h; exact absurd h.symm e; exact h
      have ih := countP_drop l (List.nodup_cons.1 hn).2 hm hp hq hj
      rw [List.countP_cons, List.countP_cons, hj a e]; omega
theorem any_flow {k : Nat → Nat} {l : List Oper} {Q : Exit → Act → World → Prop} {build : (Nat → Value) → Array Value} {df : List Deferred} {C : World → Prop} {S : Nat → Value → Value → World → Prop} (hB : flowB l = true) (hk : tiedB k l = true) (hall : FlowAll P l.toArray k build df C S 0 l)
    (hend : ∀ x w, C w → (∀ i, i < l.length → S i (x i) (x (k i)) w) → Q .normal ⟨build x, df⟩ w) :
    ∀ (f : Nat) (listed : Array Bool) (x : Nat → Value) (w : World), listed.size = l.length → cnt listed l.length ≤ f → C w → (∀ i, listed.getD i false = true → S i (x i) (x (k i)) w) → (∀ i, listed.getD i false = true → listed.getD (k i) false = true) → wpAny P .any l.toArray Q f listed ⟨build x, df⟩ w := by
  have hfull : ∀ (listed : Array Bool) (x : Nat → Value) (w : World), listed.size = l.length → C w → (∀ i, listed.getD i false = true → S i (x i) (x (k i)) w) → Region.ready .any l.toArray listed = [] → Q .normal ⟨build x, df⟩ w := by
    intro listed x w hs hC hS hr
    have hlt : ∀ n i, i < n → i < l.length → listed.getD i true = true := by
      intro n
      induction n with
      | zero => intro i hi; omega
      | succ n ih =>
        intro i hi hil
        rcases Nat.lt_or_ge i n with h | h
        · exact ih i h hil
        · obtain rfl : i = n := by omega
          apply Classical.byContradiction
          intro hne
          have hf : listed.getD i true = false := by simpa using hne
          have : i ∈ Region.ready .any l.toArray listed := by
            refine mem_ready.2 ⟨hf, l[i], by simp [hil], fun e he hbd => ?_⟩
            have h1 := List.all_eq_true.1 hB i (by simpa using hil)
            simp only [List.getElem?_eq_getElem hil, Option.map_some, Option.getD_some] at h1
            have h2 := Array.all_eq_true_iff_forall_mem.1 h1 e he
            have h3 : e.on < i := by rw [hbd] at h2; simpa using h2
            have h4 := ih e.on h3 (by omega)
            have h5 : e.on < listed.size := by omega
            simp only [Array.getD, h5, dite_true] at h4 ⊢
            exact h4
          rw [hr] at this
          cases this
    refine hend x w hC fun i hi => hS i ?_
    have h4 := hlt (i + 1) i (by omega) hi
    have h5 : i < listed.size := by omega
    simp only [Array.getD, h5, dite_true] at h4 ⊢
    exact h4
  intro f
  induction f with
  | zero =>
    intro listed x w hs hc hC hS hT
    have hr : Region.ready .any l.toArray listed = [] := by
      rw [List.eq_nil_iff_forall_not_mem]
      intro i hi
      obtain ⟨hu, o, ho, _⟩ := mem_ready.1 hi
      have hil : i < l.length := by have := (Array.getElem?_eq_some_iff.1 ho).1; simpa using this
      have : 0 < cnt listed l.length := List.countP_pos_iff.2 ⟨i, by simpa using hil, by rw [hu]; rfl⟩
      omega
    exact ⟨hr, hfull listed x w hs hC hS hr⟩
  | succ f ih =>
    intro listed x w hs hc hC hS hT
    refine ⟨fun hr => hfull listed x w hs hC hS hr, fun i hi => ?_⟩
    obtain ⟨hu, o, ho, hd⟩ := mem_ready.1 hi
    have hil : i < l.length := by have := (Array.getElem?_eq_some_iff.1 ho).1; simpa using this
    have hstep := hall.at l 0 i o (by simpa using ho) x w hC (deps_of _ fun e he hb => hS e.on (hd e (by simpa using he) hb))
    rw [Nat.zero_add] at hstep
    refine wpOp_flow ho (fun e a w he h => ?_) (fun a' w' h => ?_) hstep
    · cases e <;> first | exact he rfl | exact h
    · obtain ⟨v, rfl, hC', hS', hk'⟩ := h
      refine ih _ _ _ (by simp [hs]) ?_ hC' (fun j hj => ?_) fun j hj => ?_
      · have h1 := countP_drop (p := fun k => !listed.getD k true) (q := fun k => !(listed.setIfInBounds i true).getD k true) (i := i) (List.range l.length) List.nodup_range (by simpa using hil) (by rw [hu]; rfl)
          (by have : i < (listed.setIfInBounds i true).size := by simp; omega
              simp only [Array.getD, this, dite_true]; simp) (fun j hj => by rw [getD_set_ne true (Ne.symm hj)])
        have h2 : cnt listed l.length ≤ f + 1 := hc
        unfold cnt at h2 ⊢
        omega
      · by_cases e : j = i
        · subst e; rw [upd_same]; exact hS'
        · rw [getD_set_ne false (Ne.symm e)] at hj
          have hki : k j ≠ i := fun e2 => by
            have := hT j hj
            rw [e2, getD_both hu] at this
            cases this
          rw [upd_ne x v e, upd_ne x v hki]
          exact hk' j _ _ e (hS j hj)
      · have hset : ∀ m, listed.getD m false = true → (listed.setIfInBounds i true).getD m false = true := fun m hm => by
          by_cases e : m = i
          · subst e; rw [getD_both hu] at hm; cases hm
          · rw [getD_set_ne false (Ne.symm e)]; exact hm
        by_cases e : j = i
        · subst e
          have h1 := List.all_eq_true.1 hk j (by simpa using hil)
          simp only [Bool.or_eq_true] at h1
          rcases h1 with h1 | h1
          · rw [Nat.eq_of_beq_eq_true h1]; exact hj
          · have ho' : l[j]? = some o := by simpa using ho
            rw [ho', Option.map_some, Option.getD_some] at h1
            obtain ⟨m, hm, h2⟩ := Array.any_eq_true.1 h1
            obtain ⟨e, he, h2⟩ : ∃ e ∈ o.after, (Region.binds .any e && Nat.beq e.on (k j)) = true := ⟨_, Array.getElem_mem hm, h2⟩
            simp only [Bool.and_eq_true] at h2
            rw [← Nat.eq_of_beq_eq_true h2.2]
            exact hset _ (hd e he h2.1)
        · rw [getD_set_ne false (Ne.symm e)] at hj
          exact hset _ (hT j hj)
/-- the region -/
theorem region_flow {l : List Oper} {Q : Exit → Act → World → Prop} {id : Nat} {df : List Deferred} {w : World} (hm : P.follows .mixedOrders = true) (hB : flowB l = true)
    (k : Nat → Nat) (hk : tiedB k l = true) (build : (Nat → Value) → Array Value) (x0 : Nat → Value) (C : World → Prop) (S : Nat → Value → Value → World → Prop) (hC : C w.drew) (hall : FlowAll P l.toArray k build df C S 0 l)
    (hend : ∀ x w, C w → (∀ i, i < l.length → S i (x i) (x (k i)) w) → Q .normal ⟨build x, df⟩ w) : (Code.region id l.toArray true).wp P Q ⟨build x0, df⟩ w := by
  refine wp_region_any hm (any_flow hB hk hall hend _ _ _ _ (by simp) ?_ hC (fun i hi => ?_) fun i hi => ?_)
  · have : cnt (Array.replicate l.toArray.size false) l.length ≤ (List.range l.length).length := List.countP_le_length
    simpa using this
  · rw [getD_replicate_false] at hi; cases hi
  · rw [getD_replicate_false] at hi; cases hi
end
end Go.Proofs.YtgcmbiegbclhmaaDoor
