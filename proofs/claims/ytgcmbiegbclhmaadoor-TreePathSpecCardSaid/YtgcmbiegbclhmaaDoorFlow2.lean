/- region_flow2: a region that draws, walked once per operation; a fact is kept only while someone still needs it. -/
import Derived.Test.YtgcmbiegbclhmaaDoorFlow
namespace Go.Proofs.YtgcmbiegbclhmaaDoor
section
variable {P : Program} {ops : Array Oper}
def dataE (e : Edge) : Bool := match e.ground with
  | .data => true
  | .guard => true
  | _ => false
theorem dataE_binds {e : Edge} (h : dataE e = true) : Region.binds .any e = true := by
  unfold dataE at h; unfold Region.binds
  cases hg : e.ground <;> rw [hg] at h <;> first | rfl | cases h
def usesB (l : List Oper) (m j : Nat) : Bool := (l[m]?.map fun o => o.after.any fun e => dataE e && Nat.beq e.on j).getD false
def usedB (E : Nat → Bool) (l : List Oper) (i j : Nat) : Bool := E j || (List.range l.length).any fun m => !Nat.beq m i && usesB l m j
/-- what an operation must reach: its own fact, the others' kept as far as they are needed; no other way out -/
def FlowPost2 (U : Nat → Nat → Bool) (k : Nat → Nat) (build : (Nat → Value) → Array Value) (df : List Deferred) (C : World → Prop) (S : Nat → Value → Value → World → Prop) (i : Nat) (x : Nat → Value) (w : World) : Exit → Act → World → Prop
  | .normal, a', w' => ∃ v, a' = ⟨build (upd x i v), df⟩ ∧ C w' ∧ S i v (upd x i v (k i)) w' ∧ ∀ j u t, j ≠ i → U i j = true → S j u t w → S j u t w'
  | _, _, _ => False
def Deps2 (k : Nat → Nat) (S : Nat → Value → Value → World → Prop) (x : Nat → Value) (w : World) : List Edge → Prop
  | [] => True
  | e :: l => (dataE e = true → S e.on (x e.on) (x (k e.on)) w) ∧ Deps2 k S x w l
def FlowAll2 (P : Program) (ops : Array Oper) (U : Nat → Nat → Bool) (k : Nat → Nat) (build : (Nat → Value) → Array Value) (df : List Deferred) (C : World → Prop) (S : Nat → Value → Value → World → Prop) : Nat → List Oper → Prop
  | _, [] => True
  | i, o :: l => (∀ x w, C w → Deps2 k S x w o.after.toList → wpList P ops (FlowPost2 U k build df C S i x w) [o] ⟨build x, df⟩ w) ∧ FlowAll2 P ops U k build df C S (i + 1) l
theorem FlowAll2.at {U : Nat → Nat → Bool} {k : Nat → Nat} {build : (Nat → Value) → Array Value} {df : List Deferred} {C : World → Prop} {S : Nat → Value → Value → World → Prop} :
    ∀ (l : List Oper) (m i : Nat) (o : Oper), FlowAll2 P ops U k build df C S m l → l[i]? = some o → ∀ x w, C w → Deps2 k S x w o.after.toList → wpList P ops (FlowPost2 U k build df C S (m + i) x w) [o] ⟨build x, df⟩ w
  | [], m, i, o, _, h => by simp at h
  | o' :: l, m, 0, o, h, ho => by
    have : o' = o := by simpa using ho
    subst this
    exact h.1
  | o' :: l, m, i + 1, o, h, ho => by
    have := FlowAll2.at l (m + 1) i o h.2 (by simpa using ho)
    rw [show m + (i + 1) = m + 1 + i by omega]
    exact this
theorem deps2_of {k : Nat → Nat} {S : Nat → Value → Value → World → Prop} {x : Nat → Value} {w : World} : ∀ l : List Edge, (∀ e ∈ l, dataE e = true → S e.on (x e.on) (x (k e.on)) w) → Deps2 k S x w l
  | [], _ => trivial
  | e :: l, h => ⟨h e (by simp), deps2_of l fun e' he => h e' (by simp [he])⟩
theorem any_flow2 {E : Nat → Bool} {k : Nat → Nat} {l : List Oper} {Q : Exit → Act → World → Prop} {build : (Nat → Value) → Array Value} {df : List Deferred} {C : World → Prop} {S : Nat → Value → Value → World → Prop} (hB : flowB l = true) (hk : tiedB k l = true) (hall : FlowAll2 P l.toArray (usedB E l) k build df C S 0 l)
    (hend : ∀ x w, C w → (∀ i, i < l.length → E i = true → S i (x i) (x (k i)) w) → Q .normal ⟨build x, df⟩ w) :
    ∀ (f : Nat) (listed : Array Bool) (x : Nat → Value) (w : World), listed.size = l.length → cnt listed l.length ≤ f → C w → (∀ i, listed.getD i false = true → (E i = true ∨ ∃ m, m < l.length ∧ listed.getD m true = false ∧ usesB l m i = true) → S i (x i) (x (k i)) w) → (∀ i, listed.getD i false = true → listed.getD (k i) false = true) → wpAny P .any l.toArray Q f listed ⟨build x, df⟩ w := by
  have hfull : ∀ (listed : Array Bool) (x : Nat → Value) (w : World), listed.size = l.length → C w → (∀ i, listed.getD i false = true → (E i = true ∨ ∃ m, m < l.length ∧ listed.getD m true = false ∧ usesB l m i = true) → S i (x i) (x (k i)) w) → Region.ready .any l.toArray listed = [] → Q .normal ⟨build x, df⟩ w := by
    intro listed x w hs hC hS hr
    have hlt : ∀ n i, i < n → i < l.length → listed.getD i true = true := by
      intro n
      induction n with
      | zero => intro i hi; omega
      | succ n ih =>
        intro i hi hil
        rcases Nat.lt_or_ge i n with h | h
        · exact ih i h hil
        · obtain rfl : i = n := by omega
          apply Classical.byContradiction
          intro hne
          have hf : listed.getD i true = false := by simpa using hne
          have : i ∈ Region.ready .any l.toArray listed := by
            refine mem_ready.2 ⟨hf, l[i], by simp [hil], fun e he hbd => ?_⟩
            have h1 := List.all_eq_true.1 hB i (by simpa using hil)
            simp only [List.getElem?_eq_getElem hil, Option.map_some, Option.getD_some] at h1
            have h2 := Array.all_eq_true_iff_forall_mem.1 h1 e he
            have h3 : e.on < i := by rw [hbd] at h2; simpa using h2
            have h4 := ih e.on h3 (by omega)
            have h5 : e.on < listed.size := by omega
            simp only [Array.getD, h5, dite_true] at h4 ⊢
            exact h4
          rw [hr] at this
          cases this
    refine hend x w hC fun i hi hE => hS i ?_ (.inl hE)
    have h4 := hlt (i + 1) i (by omega) hi
    have h5 : i < listed.size := by omega
    simp only [Array.getD, h5, dite_true] at h4 ⊢
    exact h4
  intro f
  induction f with
  | zero =>
    intro listed x w hs hc hC hS hT
    have hr : Region.ready .any l.toArray listed = [] := by
      rw [List.eq_nil_iff_forall_not_mem]
      intro i hi
      obtain ⟨hu, o, ho, _⟩ := mem_ready.1 hi
      have hil : i < l.length := by have := (Array.getElem?_eq_some_iff.1 ho).1; simpa using this
      have : 0 < cnt listed l.length := List.countP_pos_iff.2 ⟨i, by simpa using hil, by rw [hu]; rfl⟩
      omega
    exact ⟨hr, hfull listed x w hs hC hS hr⟩
  | succ f ih =>
    intro listed x w hs hc hC hS hT
    refine ⟨fun hr => hfull listed x w hs hC hS hr, fun i hi => ?_⟩
    obtain ⟨hu, o, ho, hd⟩ := mem_ready.1 hi
    have hil : i < l.length := by have := (Array.getElem?_eq_some_iff.1 ho).1; simpa using this
    have hol : l[i]? = some o := by simpa using ho
    have hstep := hall.at l 0 i o hol x w hC (deps2_of _ fun e he hb => hS e.on (hd e (by simpa using he) (dataE_binds hb)) (.inr ⟨i, hil, hu, by
      unfold usesB
      rw [hol, Option.map_some, Option.getD_some]
      exact Array.any_eq_true'.2 ⟨e, by simpa using he, by rw [hb]; simp⟩⟩))
    rw [Nat.zero_add] at hstep
    refine wpOp_flow ho (fun e a w he h => ?_) (fun a' w' h => ?_) hstep
    · cases e <;> first | exact he rfl | exact h
    · obtain ⟨v, rfl, hC', hS', hk'⟩ := h
      refine ih _ _ _ (by simp [hs]) ?_ hC' (fun j hj hn => ?_) fun j hj => ?_
      · have h1 := countP_drop (p := fun k => !listed.getD k true) (q := fun k => !(listed.setIfInBounds i true).getD k true) (i := i) (List.range l.length) List.nodup_range (by simpa using hil) (by rw [hu]; rfl)
          (by have : i < (listed.setIfInBounds i true).size := by simp; omega
              simp only [Array.getD, this, dite_true]; simp) (fun j hj => by rw [getD_set_ne true (Ne.symm hj)])
        have h2 : cnt listed l.length ≤ f + 1 := hc
        unfold cnt at h2 ⊢
        omega
      · by_cases e : j = i
        · subst e; rw [upd_same]; exact hS'
        · rw [getD_set_ne false (Ne.symm e)] at hj
          have hki : k j ≠ i := fun e2 => by
            have := hT j hj
            rw [e2, getD_both hu] at this
            cases this
          rw [upd_ne x v e, upd_ne x v hki]
          have hn' : E j = true ∨ ∃ m, m < l.length ∧ m ≠ i ∧ listed.getD m true = false ∧ usesB l m j = true := by
            rcases hn with h | ⟨m, h1, h2, h3⟩
            · exact .inl h
            · refine .inr ⟨m, h1, ?_, ?_, h3⟩
              · intro em
                subst em
                have : m < (listed.setIfInBounds m true).size := by simp; omega
                simp only [Array.getD, this, dite_true] at h2
                simp at h2
              · by_cases em : m = i
                · subst em
                  have : m < (listed.setIfInBounds m true).size := by simp; omega
                  simp only [Array.getD, this, dite_true] at h2
                  simp at h2
                · rwa [getD_set_ne true (Ne.symm em)] at h2
          refine hk' j _ _ e ?_ (hS j hj ?_)
          · unfold usedB
            rcases hn' with h | ⟨m, h1, h2, _, h3⟩
            · rw [h]; rfl
            · rw [Bool.or_eq_true]
              refine .inr (List.any_eq_true.2 ⟨m, List.mem_range.2 h1, ?_⟩)
              rw [h3, show Nat.beq m i = false by cases hb : Nat.beq m i; rfl; exact absurd (Nat.eq_of_beq_eq_true hb) h2]; rfl
          · rcases hn' with h | ⟨m, h1, _, h2, h3⟩
            · exact .inl h
            · exact .inr ⟨m, h1, h2, h3⟩
      · have hset : ∀ m, listed.getD m false = true → (listed.setIfInBounds i true).getD m false = true := fun m hm => by
          by_cases e : m = i
          · subst e; rw [getD_both hu] at hm; cases hm
          · rw [getD_set_ne false (Ne.symm e)]; exact hm
        by_cases e : j = i
        · subst e
          have h1 := List.all_eq_true.1 hk j (by simpa using hil)
          simp only [Bool.or_eq_true] at h1
          rcases h1 with h1 | h1
          · rw [Nat.eq_of_beq_eq_true h1]; exact hj
          · have ho' : l[j]? = some o := by simpa using ho
            rw [ho', Option.map_some, Option.getD_some] at h1
            obtain ⟨m, hm, h2⟩ := Array.any_eq_true.1 h1
            obtain ⟨e, he, h2⟩ : ∃ e ∈ o.after, (Region.binds .any e && Nat.beq e.on (k j)) = true := ⟨_, Array.getElem_mem hm, h2⟩
            simp only [Bool.and_eq_true] at h2
            rw [← Nat.eq_of_beq_eq_true h2.2]
            exact hset _ (hd e he h2.1)
        · rw [getD_set_ne false (Ne.symm e)] at hj
          exact hset _ (hT j hj)
/-- the region -/
theorem region_flow2 {l : List Oper} {Q : Exit → Act → World → Prop} {id : Nat} {df : List Deferred} {w : World} (hm : P.follows .mixedOrders = true) (hB : flowB l = true) (E : Nat → Bool)
    (k : Nat → Nat) (hk : tiedB k l = true) (build : (Nat → Value) → Array Value) (x0 : Nat → Value) (C : World → Prop) (S : Nat → Value → Value → World → Prop) (hC : C w.drew) (hall : FlowAll2 P l.toArray (usedB E l) k build df C S 0 l)
    (hend : ∀ x w, C w → (∀ i, i < l.length → E i = true → S i (x i) (x (k i)) w) → Q .normal ⟨build x, df⟩ w) : (Code.region id l.toArray true).wp P Q ⟨build x0, df⟩ w := by
  refine wp_region_any hm (any_flow2 hB hk hall hend _ _ _ _ (by simp) ?_ hC (fun i hi => ?_) fun i hi => ?_)
  · have : cnt (Array.replicate l.toArray.size false) l.length ≤ (List.range l.length).length := List.countP_le_length
    simpa using this
  · rw [getD_replicate_false] at hi; cases hi
  · rw [getD_replicate_false] at hi; cases hi
end
end Go.Proofs.YtgcmbiegbclhmaaDoor
