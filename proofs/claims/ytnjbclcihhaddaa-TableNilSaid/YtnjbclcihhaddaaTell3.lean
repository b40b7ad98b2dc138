/- The frame behind a region whose order is open. No condition beyond what is stated. -/
import Derived.Test.YtnjbclcihhaddaaTell2
set_option linter.unusedVariables false
set_option linter.unusedSimpArgs false
namespace Go.Proofs.Ytnjbclcihhaddaa
open Go.RowKit
theorem getD_puts (f : Nat → Value) : ∀ (ds : List Nat) (a : Act) (t : Nat), ((ds.foldl (fun x t => x.put (some t) (f t)) a).tmps.getD t undef = if t ∈ ds ∧ t < a.tmps.size then f t else a.tmps.getD t undef) ∧ (ds.foldl (fun x t => x.put (some t) (f t)) a).tmps.size = a.tmps.size ∧ (ds.foldl (fun x t => x.put (some t) (f t)) a).defers = a.defers
  | [], a, t => by simp
  | d :: ds, a, t => by
    obtain ⟨h1, h2, h3⟩ := getD_puts f ds (a.put (some d) (f d)) t
    rw [List.foldl_cons, h1, h2, h3, size_put, defers_put, getD_put]
    refine ⟨?_, rfl, rfl⟩
    by_cases e : d = t
    · subst e
      by_cases hl : d < a.tmps.size
      · simp [hl]
      · simp [hl]
    · have e' : ¬ t = d := fun h => e h.symm
      simp [e, e']
theorem act_ext {a b : Act} (hd : a.defers = b.defers) (hs : a.tmps.size = b.tmps.size) (h : ∀ t, a.tmps.getD t undef = b.tmps.getD t undef) : a = b := by
  cases a; cases b
  simp at hd hs h ⊢
  refine ⟨?_, hd⟩
  apply Array.ext hs
  intro i h1 h2
  have := h i
  simpa [h1, h2] using this
theorem SlotsAt.eq {ops : Array Oper} {A : Tmp → Value → World → Prop} {a0 a : Act} {listed : Array Bool} {w : World} (h : SlotsAt ops A a0 listed a w) (ds : List Nat)
    (hds : ops.all (fun o => match o.dst with | some t => ds.contains t | none => true) = true) : a = ds.foldl (fun x t => x.put (some t) (a.tmps.getD t undef)) a0 := by
  refine act_ext ?_ ?_ (fun t => ?_)
  · rw [(getD_puts _ ds a0 0).2.2, h.defers]
  · rw [(getD_puts _ ds a0 0).2.1, h.size]
  · rw [(getD_puts _ ds a0 t).1]
    split
    · rfl
    · rename_i hn
      by_cases ht : t < a0.tmps.size
      · refine h.else_ t (fun i o ho hd => ?_)
        have := Array.all_eq_true_iff_forall_mem.1 hds o (Array.mem_of_getElem? ho)
        rw [hd] at this
        exact hn ⟨by simpa using this, ht⟩
      · have h1 : ¬ t < a.tmps.size := by rw [h.size]; exact ht
        simp [ht, h1]
end Go.Proofs.Ytnjbclcihhaddaa
