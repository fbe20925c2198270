/- region_flow4: as region_flow3, and whoever is done, all that it waits for (phases and chains too) is done. -/
import Derived.Test.YtgcmbiegbclhmaaDoorFlow3
namespace Go.Proofs.YtgcmbiegbclhmaaDoor
section
variable {P : Program} {ops : Array Oper}
def waitsB (l : List Oper) (m j : Nat) : Bool := (l[m]?.map fun o => o.after.any fun e => Region.binds .any e && Nat.beq e.on j).getD false
def FlowAll4 (P : Program) (ops : Array Oper) (E : Nat → Bool) (l0 : List Oper) (k : Nat → Nat) (build : (Nat → Value) → Array Value) (df : List Deferred) (C : (Nat → Bool) → (Nat → Value) → World → Prop) (S : Nat → Value → Value → World → Prop) : Nat → List Oper → Prop
  | _, [] => True
  | i, o :: l => (∀ L x w, C L x w → L i = false → (∀ m j, L m = true → waitsB l0 m j = true → L j = true) → (∀ m, waitsB l0 i m = true → L m = true) → Deps3 k S x w o.after.toList → wpList P ops (FlowPost3 E l0 k build df C S i L x w) [o] ⟨build x, df⟩ w) ∧ FlowAll4 P ops E l0 k build df C S (i + 1) l
theorem FlowAll4.at {l0 : List Oper} {E : Nat → Bool} {k : Nat → Nat} {build : (Nat → Value) → Array Value} {df : List Deferred} {C : (Nat → Bool) → (Nat → Value) → World → Prop} {S : Nat → Value → Value → World → Prop} :
    ∀ (l : List Oper) (m i : Nat) (o : Oper), FlowAll4 P ops E l0 k build df C S m l → l[i]? = some o → ∀ L x w, C L x w → L (m + i) = false → (∀ m' j, L m' = true → waitsB l0 m' j = true → L j = true) → (∀ m', waitsB l0 (m + i) m' = true → L m' = true) → Deps3 k S x w o.after.toList → wpList P ops (FlowPost3 E l0 k build df C S (m + i) L x w) [o] ⟨build x, df⟩ w
  | [], m, i, o, _, h => by simp at h
  | o' :: l, m, 0, o, h, ho => by
    have : o' = o := by simpa using ho
    subst this
    exact h.1
  | o' :: l, m, i + 1, o, h, ho => by
    have := FlowAll4.at l (m + 1) i o h.2 (by simpa using ho)
    rw [show m + (i + 1) = m + 1 + i by omega]
    exact this
theorem any_flow4 {E : Nat → Bool} {k : Nat → Nat} {l : List Oper} {Q : Exit → Act → World → Prop} {build : (Nat → Value) → Array Value} {df : List Deferred} {C : (Nat → Bool) → (Nat → Value) → World → Prop} {S : Nat → Value → Value → World → Prop} (hB : flowB l = true) (hk : tiedB k l = true) (hall : FlowAll4 P l.toArray E l k build df C S 0 l)
    (hend : ∀ L x w, C L x w → (∀ i, i < l.length → E i = true → S i (x i) (x (k i)) w) → Q .normal ⟨build x, df⟩ w) :
    ∀ (f : Nat) (listed : Array Bool) (x : Nat → Value) (w : World), listed.size = l.length → cnt listed l.length ≤ f → C (fun j => listed.getD j false) x w → (∀ i, listed.getD i false = true → (E i = true ∨ ∃ m, m < l.length ∧ listed.getD m true = false ∧ usesB l m i = true) → S i (x i) (x (k i)) w) → (∀ i, listed.getD i false = true → listed.getD (k i) false = true) → (∀ m j, listed.getD m false = true → waitsB l m j = true → listed.getD j false = true) → wpAny P .any l.toArray Q f listed ⟨build x, df⟩ w := by
  have hfull : ∀ (listed : Array Bool) (x : Nat → Value) (w : World), listed.size = l.length → C (fun j => listed.getD j false) x w → (∀ i, listed.getD i false = true → (E i = true ∨ ∃ m, m < l.length ∧ listed.getD m true = false ∧ usesB l m i = true) → S i (x i) (x (k i)) w) → Region.ready .any l.toArray listed = [] → Q .normal ⟨build x, df⟩ w := by
    intro listed x w hs hC hS hr
    have hlt : ∀ n i, i < n → i < l.length → listed.getD i true = true := by
      intro n
      induction n with
      | zero => intro i hi; omega
      | succ n ih =>
        intro i hi hil
        rcases Nat.lt_or_ge i n with h | h
        · exact ih i h hil
        · obtain rfl : i = n := by omega
          apply Classical.byContradiction
          intro hne
          have hf : listed.getD i true = false := by simpa using hne
          have : i ∈ Region.ready .any l.toArray listed := by
            refine mem_ready.2 ⟨hf, l[i], by simp [hil], fun e he hbd => ?_⟩
            have h1 := List.all_eq_true.1 hB i (by simpa using hil)
            simp only [List.getElem?_eq_getElem hil, Option.map_some, Option.getD_some] at h1
            have h2 := Array.all_eq_true_iff_forall_mem.1 h1 e he
            have h3 : e.on < i := by rw [hbd] at h2; simpa using h2
            have h4 := ih e.on h3 (by omega)
            have h5 : e.on < listed.size := by omega
            simp only [Array.getD, h5, dite_true] at h4 ⊢
            exact h4
          rw [hr] at this
          cases this
    refine hend _ x w hC fun i hi hE => hS i ?_ (.inl hE)
    have h4 := hlt (i + 1) i (by omega) hi
    have h5 : i < listed.size := by omega
    simp only [Array.getD, h5, dite_true] at h4 ⊢
    exact h4
  intro f
  induction f with
  | zero =>
    intro listed x w hs hc hC hS hT hD
    have hr : Region.ready .any l.toArray listed = [] := by
      rw [List.eq_nil_iff_forall_not_mem]
      intro i hi
      obtain ⟨hu, o, ho, _⟩ := mem_ready.1 hi
      have hil : i < l.length := by have := (Array.getElem?_eq_some_iff.1 ho).1; simpa using this
      have : 0 < cnt listed l.length := List.countP_pos_iff.2 ⟨i, by simpa using hil, by rw [hu]; rfl⟩
      omega
    exact ⟨hr, hfull listed x w hs hC hS hr⟩
  | succ f ih =>
    intro listed x w hs hc hC hS hT hD
    refine ⟨fun hr => hfull listed x w hs hC hS hr, fun i hi => ?_⟩
    obtain ⟨hu, o, ho, hd⟩ := mem_ready.1 hi
    have hil : i < l.length := by have := (Array.getElem?_eq_some_iff.1 ho).1; simpa using this
    have hol : l[i]? = some o := by simpa using ho
    have hui : listed.getD i false = false := by
      have : i < listed.size := by omega
      simp only [Array.getD, this, dite_true] at hu ⊢
      exact hu
    have hdn : ∀ j, waitsB l (0 + i) j = true → listed.getD j false = true := fun j huse => by
      rw [Nat.zero_add] at huse
      unfold waitsB at huse
      rw [hol, Option.map_some, Option.getD_some] at huse
      obtain ⟨q, hq, h2⟩ := Array.any_eq_true.1 huse
      simp only [Bool.and_eq_true] at h2
      have h3 := hd _ (Array.getElem_mem hq) h2.1
      rw [Nat.eq_of_beq_eq_true h2.2] at h3
      exact h3
    have hstep := hall.at l 0 i o hol (fun j => listed.getD j false) x w hC (by rw [Nat.zero_add]; exact hui) hD hdn (deps3_of _ fun e he hb => hS e.on (hd e (by simpa using he) (dataE_binds hb)) (.inr ⟨i, hil, hu, by
      unfold usesB
      rw [hol, Option.map_some, Option.getD_some]
      exact Array.any_eq_true'.2 ⟨e, by simpa using he, by rw [hb]; simp⟩⟩))
    rw [Nat.zero_add] at hstep
    refine wpOp_flow ho (fun e a w he h => ?_) (fun a' w' h => ?_) hstep
    · cases e <;> first | exact he rfl | exact h
    · obtain ⟨v, rfl, hC', hS', hk'⟩ := h
      have hfe : (fun j => (listed.setIfInBounds i true).getD j false) = updB (fun j => listed.getD j false) i := by
        funext j
        by_cases e : j = i
        · subst e
          have h1 : j < (listed.setIfInBounds j true).size := by simp; omega
          rw [updB_same]
          simp only [Array.getD, h1, dite_true]; simp
        · rw [getD_set_ne false (Ne.symm e)]
          unfold updB
          rw [show Nat.beq j i = false by cases hb : Nat.beq j i; rfl; exact absurd (Nat.eq_of_beq_eq_true hb) e]; rfl
      have hset0 : ∀ m, listed.getD m false = true → (listed.setIfInBounds i true).getD m false = true := fun m hm => by
        have := congrFun hfe m
        rw [this]; unfold updB; simp only [hm, Bool.or_true]
      refine ih _ _ _ (by simp [hs]) ?_ (by rw [hfe]; exact hC') (fun j hj hn => ?_) (fun j hj => ?_) fun m j hm huse => ?_
      · have h1 := countP_drop (p := fun k => !listed.getD k true) (q := fun k => !(listed.setIfInBounds i true).getD k true) (i := i) (List.range l.length) List.nodup_range (by simpa using hil) (by rw [hu]; rfl)
          (by have : i < (listed.setIfInBounds i true).size := by simp; omega
              simp only [Array.getD, this, dite_true]; simp) (fun j hj => by rw [getD_set_ne true (Ne.symm hj)])
        have h2 : cnt listed l.length ≤ f + 1 := hc
        unfold cnt at h2 ⊢
        omega
      · by_cases e : j = i
        · subst e; rw [upd_same]; exact hS'
        · rw [getD_set_ne false (Ne.symm e)] at hj
          have hki : k j ≠ i := fun e2 => by
            have := hT j hj
            rw [e2, getD_both hu] at this
            cases this
          rw [upd_ne x v e, upd_ne x v hki]
          have hn' : E j = true ∨ ∃ m, m < l.length ∧ m ≠ i ∧ listed.getD m true = false ∧ usesB l m j = true := by
            rcases hn with h | ⟨m, h1, h2, h3⟩
            · exact .inl h
            · refine .inr ⟨m, h1, ?_, ?_, h3⟩
              · intro em
                subst em
                have : m < (listed.setIfInBounds m true).size := by simp; omega
                simp only [Array.getD, this, dite_true] at h2
                simp at h2
              · by_cases em : m = i
                · subst em
                  have : m < (listed.setIfInBounds m true).size := by simp; omega
                  simp only [Array.getD, this, dite_true] at h2
                  simp at h2
                · rwa [getD_set_ne true (Ne.symm em)] at h2
          refine hk' j _ _ hj ?_ (hS j hj ?_)
          · rcases hn' with h | ⟨m, h1, h2, h4, h3⟩
            · exact .inl h
            · refine .inr ⟨m, mem_users h1 h3, h2, ?_⟩
              have : m < listed.size := by omega
              simp only [Array.getD, this, dite_true] at h4 ⊢
              exact h4
          · rcases hn' with h | ⟨m, h1, _, h2, h3⟩
            · exact .inl h
            · exact .inr ⟨m, h1, h2, h3⟩
      · have hset : ∀ m, listed.getD m false = true → (listed.setIfInBounds i true).getD m false = true := fun m hm => by
          by_cases e : m = i
          · subst e; rw [getD_both hu] at hm; cases hm
          · rw [getD_set_ne false (Ne.symm e)]; exact hm
        by_cases e : j = i
        · subst e
          have h1 := List.all_eq_true.1 hk j (by simpa using hil)
          simp only [Bool.or_eq_true] at h1
          rcases h1 with h1 | h1
          · rw [Nat.eq_of_beq_eq_true h1]; exact hj
          · have ho' : l[j]? = some o := by simpa using ho
            rw [ho', Option.map_some, Option.getD_some] at h1
            obtain ⟨m, hm, h2⟩ := Array.any_eq_true.1 h1
            obtain ⟨e, he, h2⟩ : ∃ e ∈ o.after, (Region.binds .any e && Nat.beq e.on (k j)) = true := ⟨_, Array.getElem_mem hm, h2⟩
            simp only [Bool.and_eq_true] at h2
            rw [← Nat.eq_of_beq_eq_true h2.2]
            exact hset _ (hd e he h2.1)
        · rw [getD_set_ne false (Ne.symm e)] at hj
          exact hset _ (hT j hj)
      · by_cases e : m = i
        · subst e
          unfold waitsB at huse
          rw [hol, Option.map_some, Option.getD_some] at huse
          obtain ⟨q, hq, h2⟩ := Array.any_eq_true.1 huse
          simp only [Bool.and_eq_true] at h2
          have h3 := hd _ (Array.getElem_mem hq) h2.1
          rw [Nat.eq_of_beq_eq_true h2.2] at h3
          exact hset0 _ h3
        · rw [getD_set_ne false (Ne.symm e)] at hm
          exact hset0 _ (hD m j hm huse)
/-- the region -/
theorem region_flow4 {l : List Oper} {Q : Exit → Act → World → Prop} {id : Nat} {df : List Deferred} {w : World} (hm : P.follows .mixedOrders = true) (hB : flowB l = true) (E : Nat → Bool)
    (k : Nat → Nat) (hk : tiedB k l = true) (build : (Nat → Value) → Array Value) (x0 : Nat → Value) (C : (Nat → Bool) → (Nat → Value) → World → Prop) (S : Nat → Value → Value → World → Prop) (hC : C (fun _ => false) x0 w.drew) (hall : FlowAll4 P l.toArray E l k build df C S 0 l)
    (hend : ∀ L x w, C L x w → (∀ i, i < l.length → E i = true → S i (x i) (x (k i)) w) → Q .normal ⟨build x, df⟩ w) : (Code.region id l.toArray true).wp P Q ⟨build x0, df⟩ w := by
  have hf : (fun j => (Array.replicate l.toArray.size false).getD j false) = fun _ => false := by funext j; exact getD_replicate_false _ _
  refine wp_region_any hm (any_flow4 hB hk hall hend _ _ _ _ (by simp) ?_ (by rw [hf]; exact hC) (fun i hi => ?_) (fun i hi => ?_) fun m j hm _ => ?_)
  · have : cnt (Array.replicate l.toArray.size false) l.length ≤ (List.range l.length).length := List.countP_le_length
    simpa using this
  · rw [getD_replicate_false] at hi; cases hi
  · rw [getD_replicate_false] at hi; cases hi
  · rw [getD_replicate_false] at hm; cases hm
end
end Go.Proofs.YtgcmbiegbclhmaaDoor
