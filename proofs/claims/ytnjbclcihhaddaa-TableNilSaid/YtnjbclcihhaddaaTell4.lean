/- A region whose order is open with one operation that changes what all others see: before it, behind it. Conditions: as each states. -/
import Derived.Test.YtnjbclcihhaddaaTell2
set_option linter.unusedVariables false
set_option linter.unusedSimpArgs false
namespace Go.Proofs.Ytnjbclcihhaddaa
open Go.RowKit

def Closed (ops : Array Oper) (listed : Array Bool) : Prop := ∀ (i : Nat) (o : Oper), ops[i]? = some o → listed.getD i false = true → ∀ e ∈ o.after, Region.binds .any e = true → listed.getD e.on false = true
def ancB (ops : Array Oper) (j : Nat) : Nat → Nat → Bool
  | 0, i => i == j
  | f + 1, i => i == j || (match ops[i]? with | none => false | some o => o.after.any fun e => Region.binds .any e && (decide (j ≤ e.on) && ancB ops j f e.on))
section
variable {ops : Array Oper} {listed : Array Bool}
theorem Closed.anc (h : Closed ops listed) (j : Nat) : ∀ (f i : Nat), ancB ops j f i = true → listed.getD i false = true → listed.getD j false = true
  | 0, i, ha, hi => by
    have : i = j := by simpa [ancB] using ha
    rw [← this]; exact hi
  | f + 1, i, ha, hi => by
    unfold ancB at ha
    rw [Bool.or_eq_true] at ha
    rcases ha with ha | ha
    · have : i = j := by simpa using ha
      rw [← this]; exact hi
    · cases ho : ops[i]? with
      | none => rw [ho] at ha; cases ha
      | some o =>
        rw [ho] at ha
        simp only [] at ha
        obtain ⟨e, he, hb⟩ := Array.any_eq_true'.1 ha
        simp only [Bool.and_eq_true] at hb
        exact h.anc j f e.on hb.2.2 (h i o ho hi e he hb.1)
theorem Closed.start (n : Nat) : Closed ops (Array.replicate n false) := by
  intro i o ho hi
  exfalso
  simp only [Array.getD_eq_getD_getElem?, Array.getElem?_replicate] at hi
  split at hi <;> simp at hi
theorem Closed.set (h : Closed ops listed) {i : Nat} {o : Oper} (ho : ops[i]? = some o) (haft : ∀ e ∈ o.after, Region.binds .any e = true → listed.getD e.on false = true) : Closed ops (listed.setIfInBounds i true) := by
  intro k p hp hk e he hb
  have up : ∀ j, listed.getD j false = true → (listed.setIfInBounds i true).getD j false = true := by
    intro j hj
    rw [getD_set]
    split
    · rfl
    · exact hj
  refine up _ ?_
  rw [getD_set] at hk
  split at hk
  · rename_i hik
    obtain ⟨rfl, _⟩ := hik
    rw [ho] at hp; cases hp
    exact haft e he hb
  · exact h k p hp hk e he hb
variable {Q : Exit → Act → World → Prop} {A : Tmp → Value → World → Prop} {S : Bool → World → Prop} {a0 : Act} {o : Oper} {k i : Nat}
/-- The worlds at a point of the region: closed, and before or behind operation k. -/
def Ph (ops : Array Oper) (S : Bool → World → Prop) (k : Nat) (listed : Array Bool) (w : World) : Prop := Closed ops listed ∧ listed.size = ops.size ∧ S (listed.getD k false) w
theorem step_ph (hi : ops[i]? = some o) (hik : i ≠ k) (hy : Yes ops A o) (hp : Bool → Prop)
    (hph : ∀ listed, Closed ops listed → listed.getD i false = false → (∀ e ∈ o.after, Region.binds .any e = true → listed.getD e.on false = true) → hp (listed.getD k false))
    (h : ∀ a w b, hp b → S b w → OpAt ops A a0 o a w → o.wp Try.prog a w (fun a' w' => ∃ v, a' = a.put o.dst v ∧ (∀ t, o.dst = some t → A t v w') ∧ S b w') Q) :
    StepOk (md := .any) Try.prog ops Q A (fun _ _ => True) (Ph ops S k) a0 i o := by
  intro listed a w hC hl haft hop
  obtain ⟨h1, h2, h3⟩ := hC
  have his : i < listed.size := by rw [h2]; exact (Array.getElem?_eq_some_iff.1 hi).1
  have hl2 : listed.getD i false = false := by simpa [his] using hl
  rw [if_pos (hy.wanted hop)]
  refine Oper.wp_mono (fun a' w' ⟨v, e1, e2, e3⟩ => ⟨v, e1, e2, trivial, h1.set hi haft, by simpa using h2, ?_⟩) (h a w _ (hph listed h1 hl2 haft) h3 hop)
  rw [getD_set, if_neg (fun e => hik e.1)]
  exact e3
theorem step_wr (hi : ops[k]? = some o) (hy : Yes ops A o)
    (h : ∀ a w, S false w → OpAt ops A a0 o a w → o.wp Try.prog a w (fun a' w' => ∃ v, a' = a.put o.dst v ∧ (∀ t, o.dst = some t → A t v w') ∧ S true w') Q) :
    StepOk (md := .any) Try.prog ops Q A (fun _ _ => True) (Ph ops S k) a0 k o := by
  intro listed a w hC hl haft hop
  obtain ⟨h1, h2, h3⟩ := hC
  have his : k < listed.size := by rw [h2]; exact (Array.getElem?_eq_some_iff.1 hi).1
  have hl2 : listed.getD k false = false := by simpa [his] using hl
  rw [hl2] at h3
  rw [if_pos (hy.wanted hop)]
  refine Oper.wp_mono (fun a' w' ⟨v, e1, e2, e3⟩ => ⟨v, e1, e2, trivial, h1.set hi haft, by simpa using h2, ?_⟩) (h a w h3 hop)
  rw [getD_set, if_pos ⟨rfl, his⟩]
  exact e3
theorem step_rd (hi : ops[i]? = some o) (hik : i ≠ k) (hy : Yes ops A o) (hS : ∀ b w w', S b w → Touch (fun _ => False) w w' → S b w') (hp : Bool → Prop)
    (hph : ∀ listed, Closed ops listed → listed.getD i false = false → (∀ e ∈ o.after, Region.binds .any e = true → listed.getD e.on false = true) → hp (listed.getD k false))
    (h : ∀ a w b, hp b → S b w → OpAt ops A a0 o a w → o.wp Try.prog a w (fun a' w' => ∃ v, a' = a.put o.dst v ∧ (∀ t, o.dst = some t → A t v w') ∧ Touch (fun _ => False) w w') Q) :
    StepOk (md := .any) Try.prog ops Q A (fun _ _ => True) (Ph ops S k) a0 i o :=
  step_ph hi hik hy hp hph (fun a w b hb hs hop => Oper.wp_mono (fun a' w' ⟨v, e1, e2, e3⟩ => ⟨v, e1, e2, hS b w w' hs e3⟩) (h a w b hb hs hop))
/-- An operation whose slot is read, edge by edge, by k: k is not yet there. -/
theorem ph_before (f : Nat) (ha : ancB ops i f k = true) (listed : Array Bool) (hc : Closed ops listed) (hl : listed.getD i false = false) : listed.getD k false = false := by
  cases h : listed.getD k false with
  | false => rfl
  | true => rw [hc.anc i f k ha h] at hl; cases hl
/-- An operation that reads, edge by edge, what k wrote. -/
theorem ph_behind (f : Nat) (ha : (o.after.any fun e => Region.binds .any e && (decide (k ≤ e.on) && ancB ops k f e.on)) = true) (listed : Array Bool) (hc : Closed ops listed)
    (haft : ∀ e ∈ o.after, Region.binds .any e = true → listed.getD e.on false = true) : listed.getD k false = true := by
  obtain ⟨e, he, hb⟩ := Array.any_eq_true'.1 ha
  simp only [Bool.and_eq_true] at hb
  exact hc.anc k f e.on hb.2.2 (haft e he hb.1)
theorem tw_callR {a : Act} {w : World} {R : World → Prop} (f : Nat) (args : Array Operand) (tys : Array TypeId) (ho : o.op = .call { callee := .value (.func f), args := args, argTypes := tys }) (vs : Array Value) (hv : args.map a.eval = vs)
    (hent : ∀ w, ((do let d ← Deferred.ofValue (.func (.func f) #[] #[]) vs; invoke d.target d.args) : Sem Next).run Try.prog w = .ok (.enter f vs) w)
    (hc : Calls Try.prog f vs w fun e w' => ∃ v, e = .returned v ∧ (∀ t, o.dst = some t → A t v w') ∧ R w') :
    o.wp Try.prog a w (fun a' w' => ∃ v, a' = a.put o.dst v ∧ (∀ t, o.dst = some t → A t v w') ∧ R w') Q := by
  have e : (execOp a.eval o).run Try.prog w = .ok (.enter f vs) w := by
    have h1 := hent w
    simp only [execOp, ho, resolve, hv, Act.eval] at h1 ⊢
    exact h1
  unfold Oper.wp
  rw [e, Oper.upon_enter]
  refine Calls.mono hc ?_
  rintro e w' ⟨v, rfl, h1, h2⟩
  exact ⟨v, rfl, h1, h2⟩
end
end Go.Proofs.Ytnjbclcihhaddaa
