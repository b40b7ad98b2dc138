/- Regions whose order is open, by what each slot holds: one step for each operation, whatever the order. Conditions: as each states. -/
import Derived.WalkKit
import Derived.Lib.Hide
set_option linter.unusedVariables false
set_option linter.unusedSimpArgs false
namespace Go.Proofs.Ytnjbclcihhaddaa
open Go.RowKit

section
variable {P : Program} {ops : Array Oper} {md : Region.Mode} {Q : Exit → Act → World → Prop}

/-- Each operation comes behind those whose slots it reads; edges lead back. -/
def readsBack (md : Region.Mode) (ops : Array Oper) : Bool :=
  (List.range ops.size).all fun i => match ops[i]? with
    | none => true
    | some o => (o.after.all fun e => decide (e.on < i)) &&
        (o.looksAt ops).all fun t => (List.range ops.size).all fun j => match ops[j]? with
          | none => true
          | some p => !(p.dst == some t) || o.after.any fun e => Region.binds md e && e.on == j

/-- The slots at hand: what the region wrote tells; what it does not write is as it was. -/
structure SlotsAt (ops : Array Oper) (A : Tmp → Value → World → Prop) (a0 : Act) (listed : Array Bool) (a : Act) (w : World) : Prop where
  defers : a.defers = a0.defers
  size : a.tmps.size = a0.tmps.size
  wrote : ∀ (i : Nat) (o : Oper) t, ops[i]? = some o → o.dst = some t → listed.getD i true = true → A t (a.tmps.getD t undef) w
  else_ : ∀ t, (∀ (i : Nat) (o : Oper), ops[i]? = some o → o.dst ≠ some t) → a.tmps.getD t undef = a0.tmps.getD t undef

/-- What is known where an operation comes up. -/
structure OpAt (ops : Array Oper) (A : Tmp → Value → World → Prop) (a0 : Act) (o : Oper) (a : Act) (w : World) : Prop where
  read : ∀ t, t ∈ o.looksAt ops → ∀ (j : Nat) (p : Oper), ops[j]? = some p → p.dst = some t → A t (a.tmps.getD t undef) w
  else_ : ∀ t, (∀ (i : Nat) (o : Oper), ops[i]? = some o → o.dst ≠ some t) → a.tmps.getD t undef = a0.tmps.getD t undef

/-- What one operation must do: its slot tells, all else holds on. -/
def StepOk (P : Program) (ops : Array Oper) (Q : Exit → Act → World → Prop) (A : Tmp → Value → World → Prop) (E : World → World → Prop) (C : Array Bool → World → Prop) (a0 : Act) (i : Nat) (o : Oper) : Prop :=
  ∀ (listed : Array Bool) (a : Act) (w : World), C listed w → listed.getD i true = false → (∀ e ∈ o.after, Region.binds md e = true → listed.getD e.on false = true) → OpAt ops A a0 o a w →
    if Region.wanted o (yielded ops a.tmps) then o.wp P a w (fun a' w' => ∃ v, a' = a.put o.dst v ∧ (∀ t, o.dst = some t → A t v w') ∧ E w w' ∧ C (listed.setIfInBounds i true) w') Q
    else (∀ t, o.dst = some t → A t undef w) ∧ E w w ∧ C (listed.setIfInBounds i true) w

theorem getD_put (a : Act) (d : Option Tmp) (v : Value) (t : Tmp) : (a.put d v).tmps.getD t undef = if d = some t ∧ t < a.tmps.size then v else a.tmps.getD t undef := by
  cases d with
  | none => simp [Act.put]
  | some s =>
    unfold Act.put
    by_cases h : s = t
    · subst h
      by_cases hl : s < a.tmps.size
      · simp [hl]
      · simp [hl]
    · have : ¬ (some s = some t ∧ t < a.tmps.size) := fun e => h (by simpa using e.1)
      rw [if_neg this]
      simp only [Array.getD_eq_getD_getElem?]
      rw [Array.getElem?_setIfInBounds_ne h]
theorem size_put (a : Act) (d : Option Tmp) (v : Value) : (a.put d v).tmps.size = a.tmps.size := by
  cases d <;> simp [Act.put]
theorem defers_put (a : Act) (d : Option Tmp) (v : Value) : (a.put d v).defers = a.defers := by
  cases d <;> simp [Act.put]

theorem getD_set {l : Array Bool} {i j : Nat} {d : Bool} : (l.setIfInBounds i true).getD j d = if i = j ∧ j < l.size then true else l.getD j d := by
  simp only [Array.getD_eq_getD_getElem?, Array.getElem?_setIfInBounds]
  by_cases h : i = j
  · subst h
    by_cases hl : i < l.size
    · simp [hl]
    · simp [hl]
  · simp [h]

/-- How many are still to come. -/
def toCome (l : Array Bool) : Nat := (l.toList.filter (fun b => !b)).length
theorem toCome_set {l : Array Bool} {i : Nat} (hi : i < l.size) (h : l.getD i true = false) : toCome (l.setIfInBounds i true) + 1 = toCome l := by
  unfold toCome
  have e : l.toList = l.toList.take i ++ false :: l.toList.drop (i + 1) := by
    have hf : l.toList[i]'(by simpa using hi) = false := by simpa [hi] using h
    rw [← hf, ← List.drop_eq_getElem_cons (by simpa using hi), List.take_append_drop]
  have e2 : (l.setIfInBounds i true).toList = l.toList.take i ++ true :: l.toList.drop (i + 1) := by
    rw [Array.toList_setIfInBounds, List.set_eq_take_append_cons_drop, if_pos (by simpa using hi)]
  rw [e2]
  conv => rhs; rw [e]
  simp
  omega
theorem toCome_zero {l : Array Bool} (h : toCome l = 0) (i : Nat) : l.getD i true = true := by
  unfold toCome at h
  rw [List.length_eq_zero_iff, List.filter_eq_nil_iff] at h
  by_cases hi : i < l.size
  · have := h l[i] (by simp)
    simpa [hi] using this
  · simp [hi]

theorem ready_mem {listed : Array Bool} {i : Nat} : i ∈ Region.ready md ops listed ↔ listed.getD i true = false ∧ ∃ o, ops[i]? = some o ∧ ∀ e ∈ o.after, Region.binds md e = true → listed.getD e.on false = true := by
  unfold Region.ready
  simp only [List.mem_filter, List.mem_range, Bool.and_eq_true, Bool.not_eq_true']
  constructor
  · rintro ⟨h1, h2, h3⟩
    refine ⟨h2, ops[i], by simp [h1], fun e he hb => ?_⟩
    simp [h1] at h3
    obtain ⟨k, hk, rfl⟩ := Array.mem_iff_getElem.1 he
    rcases h3 k hk with h | h
    · rw [hb] at h; cases h
    · simpa using h
  · rintro ⟨h1, o, ho, h2⟩
    have hi := (Array.getElem?_eq_some_iff.1 ho).1
    refine ⟨hi, h1, ?_⟩
    rw [ho]
    simp
    intro k hk
    cases hb : Region.binds md o.after[k] with
    | false => exact .inl rfl
    | true => right; have := h2 _ (Array.getElem_mem hk) hb; simpa using this

theorem least_of {p : Nat → Prop} : ∀ n, p n → ∃ k, p k ∧ ∀ j, j < k → ¬ p j := by
  intro n
  induction n using Nat.strongRecOn with
  | _ n ih =>
    intro hp
    by_cases h : ∃ j, j < n ∧ p j
    · obtain ⟨j, hj, hpj⟩ := h
      exact ih j hj hpj
    · exact ⟨n, hp, fun j hj hpj => h ⟨j, hj, hpj⟩⟩

theorem readsBack_spec (h : readsBack md ops = true) {i : Nat} {o : Oper} (ho : ops[i]? = some o) :
    (∀ e ∈ o.after, e.on < i) ∧ ∀ t ∈ o.looksAt ops, ∀ (j : Nat) p, ops[j]? = some p → p.dst = some t → ∃ e ∈ o.after, Region.binds md e = true ∧ e.on = j := by
  unfold readsBack at h
  rw [List.all_eq_true] at h
  have h1 := h i (List.mem_range.2 (Array.getElem?_eq_some_iff.1 ho).1)
  rw [ho] at h1
  simp only [Bool.and_eq_true] at h1
  refine ⟨fun e he => ?_, fun t ht j p hp hd => ?_⟩
  · have := Array.all_eq_true_iff_forall_mem.1 h1.1 e he
    simpa using this
  · have h2 := List.all_eq_true.1 (List.all_eq_true.1 h1.2 t ht) j (List.mem_range.2 (Array.getElem?_eq_some_iff.1 hp).1)
    rw [hp] at h2
    simp only [hd, beq_self_eq_true, Bool.not_true, Bool.false_or] at h2
    obtain ⟨e, he, hb⟩ := Array.any_eq_true'.1 h2
    simp only [Bool.and_eq_true, beq_iff_eq] at hb
    exact ⟨e, he, hb.1, hb.2⟩

theorem wpAny_tells (A : Tmp → Value → World → Prop) (E : World → World → Prop) (C : Array Bool → World → Prop) (a0 : Act) (hrb : readsBack md ops = true)
    (hA : ∀ t v w w', E w w' → A t v w → A t v w') (hdst : ∀ (i : Nat) o t, ops[i]? = some o → o.dst = some t → t < a0.tmps.size)
    (hstep : ∀ (i : Nat) o, ops[i]? = some o → StepOk (md := md) P ops Q A E C a0 i o) (hend : ∀ listed a w, (∀ i, listed.getD i true = true) → C listed w → SlotsAt ops A a0 listed a w → Q .normal a w) :
    ∀ (fuel : Nat) (listed : Array Bool) (a : Act) (w : World), listed.size = ops.size → toCome listed ≤ fuel → C listed w → SlotsAt ops A a0 listed a w → wpAny P md ops Q fuel listed a w := by
  have hall : ∀ (listed : Array Bool) a w, listed.size = ops.size → Region.ready md ops listed = [] → C listed w → SlotsAt ops A a0 listed a w → Q .normal a w := by
    intro listed a w hsz hr hC hS
    refine hend listed a w (fun i => ?_) hC hS
    by_cases hi : listed.getD i true = true
    · exact hi
    · exfalso
      obtain ⟨k, hk, hlt⟩ := least_of (p := fun i => listed.getD i true = false) i (by simpa using hi)
      have hks : k < ops.size := by
        rw [← hsz]
        apply Decidable.byContradiction
        intro hh
        simp [hh] at hk
      have hmem : k ∈ Region.ready md ops listed := ready_mem.2 ⟨hk, ops[k], by simp [hks], fun e he hb => by
        have hek := (readsBack_spec hrb (show ops[k]? = some ops[k] by simp [hks])).1 e he
        have := hlt e.on hek
        have hes : e.on < listed.size := by omega
        simpa [hes] using this⟩
      rw [hr] at hmem
      cases hmem
  intro fuel
  induction fuel with
  | zero =>
    intro listed a w hsz hn hC hS
    have hz : Region.ready md ops listed = [] := by
      rw [List.eq_nil_iff_forall_not_mem]
      intro i hi
      have := (ready_mem.1 hi).1
      rw [toCome_zero (by omega)] at this
      cases this
    exact ⟨hz, hall listed a w hsz hz hC hS⟩
  | succ fuel ih =>
    intro listed a w hsz hn hC hS
    refine ⟨fun hr => hall listed a w hsz hr hC hS, fun i hi => ?_⟩
    obtain ⟨hl, o, ho, haft⟩ := ready_mem.1 hi
    have his : i < listed.size := by
      rw [hsz]; exact (Array.getElem?_eq_some_iff.1 ho).1
    have hcome := toCome_set his hl
    have hop : OpAt ops A a0 o a w := ⟨fun t ht j p hp hd => by
      obtain ⟨e, he, hb, rfl⟩ := (readsBack_spec hrb ho).2 t ht j p hp hd
      have h1 := haft e he hb
      refine hS.wrote e.on p t hp hd ?_
      have hes : e.on < listed.size := by rw [hsz]; exact (Array.getElem?_eq_some_iff.1 hp).1
      simpa [hes] using h1, hS.else_⟩
    have hst := hstep i o ho listed a w hC hl haft hop
    have hnext : ∀ v w', (∀ t, o.dst = some t → A t v w') → E w w' → C (listed.setIfInBounds i true) w' → wpAny P md ops Q fuel (listed.setIfInBounds i true) (a.put o.dst v) w' := by
      intro v w' hv hE hC'
      refine ih _ _ _ (by simpa using hsz) (by omega) hC' ⟨by rw [defers_put]; exact hS.defers, by rw [size_put]; exact hS.size, fun j p t hp hd hj => ?_, fun t ht => ?_⟩
      · rw [getD_put]
        split
        · rename_i h; exact hv t h.1
        · rename_i h
          have hts : t < a.tmps.size := by rw [hS.size]; exact hdst j p t hp hd
          have hne : j ≠ i := by
            rintro rfl
            rw [ho] at hp; cases hp
            exact h ⟨hd, hts⟩
          rw [getD_set] at hj
          rw [if_neg (fun e => hne e.1.symm)] at hj
          exact hA t _ w w' hE (hS.wrote j p t hp hd hj)
      · rw [getD_put, if_neg (fun e => ht i o ho e.1)]
        exact hS.else_ t ht
    unfold wpOp
    rw [ho]
    simp only []
    by_cases hw : Region.wanted o (yielded ops a.tmps) = true
    · rw [if_pos hw] at hst ⊢
      left
      refine Oper.wp_mono (fun a' w' h => ?_) hst
      obtain ⟨v, rfl, h1, h2, h3⟩ := h
      exact hnext v w' h1 h2 h3
    · rw [if_neg hw] at hst ⊢
      exact hnext undef w hst.1 hst.2.1 hst.2.2

/-- The law. -/
theorem wp_region_tells {id : Nat} {a0 : Act} {w0 : World} (A : Tmp → Value → World → Prop) (E : World → World → Prop) (C : Array Bool → World → Prop) (hm : P.follows .mixedOrders = true)
    (hrb : (readsBack .any ops && ops.all (fun o => match o.dst with | some t => decide (t < a0.tmps.size) | none => true)) = true)
    (hA : ∀ t v w w', E w w' → A t v w → A t v w') (hC : C (Array.replicate ops.size false) w0.drew)
    (hstep : ∀ (i : Nat) o, ops[i]? = some o → StepOk (md := .any) P ops Q A E C a0 i o)
    (hend : ∀ listed a w, (∀ i, listed.getD i true = true) → C listed w → SlotsAt ops A a0 listed a w → Q .normal a w) : (Code.region id ops true).wp P Q a0 w0 := by
  simp only [Bool.and_eq_true] at hrb
  refine wp_region_any hm (wpAny_tells A E C a0 hrb.1 hA (fun i o t ho hd => ?_) hstep hend ops.size _ a0 _ (by simp) ?_ hC ⟨rfl, rfl, fun i o t ho _ h => ?_, fun _ _ => rfl⟩)
  · have := Array.all_eq_true_iff_forall_mem.1 hrb.2 o (Array.mem_of_getElem? ho)
    rw [hd] at this
    simpa using this
  · unfold toCome; simp
  · have hi := (Array.getElem?_eq_some_iff.1 ho).1
    simp [hi] at h
end
end Go.Proofs.Ytnjbclcihhaddaa
