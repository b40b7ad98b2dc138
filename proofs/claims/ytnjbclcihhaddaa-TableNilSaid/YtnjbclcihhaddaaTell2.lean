/- Steps of a region by what each slot holds, one for each kind of operation. Conditions: as each states. -/
import Derived.Test.YtnjbclcihhaddaaTell
import Derived.Test.YtnjbclcihhaddaaA
import Derived.Laws.Rows
import Derived.Great.BuildSlice
set_option linter.unusedVariables false
set_option linter.unusedSimpArgs false
namespace Go.Proofs.Ytnjbclcihhaddaa
open Go.RowKit

/-- The region with a number, in a body. -/
def findRegion (n : Nat) : Code → Option (Array Oper)
  | .region id ops _ => if id = n then some ops else none
  | .seq a b => (findRegion n a).or (findRegion n b)
  | .cond _ a b => (findRegion n a).or (findRegion n b)
  | .block _ c => findRegion n c
  | .loop c => findRegion n c
  | .scope c => findRegion n c
  | _ => none

section
variable {ops : Array Oper} {Q : Exit → Act → World → Prop} {A : Tmp → Value → World → Prop} {S : World → Prop} {a0 : Act} {o : Oper} {a : Act} {w : World} {K : Act → World → Prop}

theorem OpAt.rd (h : OpAt ops A a0 o a w) (t j : Nat) (hk : ((o.looksAt ops).contains t && ((ops[j]?).bind (·.dst) == some t)) = true) : A t (a.eval (.tmp t)) w := by
  simp only [Bool.and_eq_true, beq_iff_eq, Option.bind_eq_some_iff] at hk
  obtain ⟨h1, p, hp, hd⟩ := hk
  exact h.read t (by simpa using h1) j p hp hd
theorem OpAt.el (h : OpAt ops A a0 o a w) (t : Nat) (hk : ops.all (fun p => !(p.dst == some t)) = true) : a.eval (.tmp t) = a0.eval (.tmp t) := by
  refine h.else_ t (fun i p hp hd => ?_)
  have := Array.all_eq_true_iff_forall_mem.1 hk p (Array.mem_of_getElem? hp)
  rw [hd] at this
  simp at this

/-- No guard, or one that tells yes. -/
def Yes (ops : Array Oper) (A : Tmp → Value → World → Prop) (o : Oper) : Prop :=
  o.guard = none ∨ ∃ (j t : Nat), o.guard = some (j, true) ∧ ((o.looksAt ops).contains t && ((ops[j]?).bind (·.dst) == some t)) = true ∧ ∀ v w, A t v w → v = .bool true
theorem Yes.wanted (hy : Yes ops A o) (h : OpAt ops A a0 o a w) : Region.wanted o (yielded ops a.tmps) = true := by
  rcases hy with hg | ⟨j, t, hg, hk, hA⟩
  · unfold Region.wanted; rw [hg]
  · have h1 := hA _ _ (h.rd t j hk)
    unfold Region.wanted
    rw [hg]
    simp only [beq_iff_eq]
    unfold yielded
    simp only [Bool.and_eq_true, beq_iff_eq] at hk
    rw [hk.2]
    simp only [Option.bind_some]
    have h2 : a.tmps.getD t undef = .bool true := h1
    rw [Array.getD_eq_getD_getElem?] at h2
    cases hc : a.tmps[t]? with
    | none => rw [hc] at h2; simp [undef] at h2
    | some x => rw [hc] at h2; simp at h2; rw [h2]

theorem step_of {md : Region.Mode} {i : Nat} (hy : Yes ops A o) (hS : ∀ w w', S w → Touch (fun _ => False) w w' → S w')
    (h : ∀ a w, S w → OpAt ops A a0 o a w → o.wp Try.prog a w (fun a' w' => ∃ v, a' = a.put o.dst v ∧ (∀ t, o.dst = some t → A t v w') ∧ Touch (fun _ => False) w w') Q) :
    StepOk (md := md) Try.prog ops Q A (Touch (fun _ => False)) (fun _ w => S w) a0 i o := by
  intro listed a w hC _ _ hop
  rw [if_pos (hy.wanted hop)]
  exact Oper.wp_mono (fun a' w' ⟨v, h1, h2, h3⟩ => ⟨v, h1, h2, h3, hS w w' hC h3⟩) (h a w hC hop)

/-- A value, the world as it was. -/
theorem tw_val (v : Value) (h : (execOp a.eval o).run Try.prog w = .ok (.value v) w) (hA : ∀ t, o.dst = some t → A t v w) :
    o.wp Try.prog a w (fun a' w' => ∃ v, a' = a.put o.dst v ∧ (∀ t, o.dst = some t → A t v w') ∧ Touch (fun _ => False) w w') Q := by
  unfold Oper.wp
  rw [h]
  exact ⟨v, rfl, hA, Touch.refl _ _⟩
theorem tw_load (ty : TypeId) (x : Operand) (ho : o.op = .load ty x) (g : Nat) (hx : a.eval x = .pointer (some ⟨g, 0, none⟩)) (t : TypeId) (cs : Array Value) (fs) (hg : w.heap[g]? = some (.cells cs t (0, 0)))
    (hu : Try.prog.underlying ty = some (.struct fs)) (hi : (Try.prog.info? ty).map (·.size) = some cs.size) (hA : ∀ t, o.dst = some t → A t (.agg cs) w) :
    o.wp Try.prog a w (fun a' w' => ∃ v, a' = a.put o.dst v ∧ (∀ t, o.dst = some t → A t v w') ∧ Touch (fun _ => False) w w') Q :=
  wp_load_row ty x ho g hx t cs (0, 0) _ hg hu rfl hi ⟨_, rfl, hA, Touch.refl _ _⟩
theorem tw_move (x : Operand) (ho : o.op = .move x ∨ o.op = .assign x) (hA : ∀ t, o.dst = some t → A t (a.eval x) w) :
    o.wp Try.prog a w (fun a' w' => ∃ v, a' = a.put o.dst v ∧ (∀ t, o.dst = some t → A t v w') ∧ Touch (fun _ => False) w w') Q :=
  tw_val (a.eval x) (by rcases ho with ho | ho <;> simp [execOp, ho]) hA
theorem tw_pick (c x y : Operand) (ho : o.op = .pick c x y) (b : Bool) (hc : a.eval c = .bool b) (hA : ∀ t, o.dst = some t → A t (if b then a.eval x else a.eval y) w) :
    o.wp Try.prog a w (fun a' w' => ∃ v, a' = a.put o.dst v ∧ (∀ t, o.dst = some t → A t v w') ∧ Touch (fun _ => False) w w') Q :=
  tw_val (if b then a.eval x else a.eval y) (by simp [execOp, ho, hc, asBool]) hA
theorem tw_bin (bo : BinOp) (ty ty2 : TypeId) (x y : Operand) (ho : o.op = .binOp bo ty x y ty2) (vx vy v : Value) (hx : a.eval x = vx) (hy : a.eval y = vy)
    (hr : ∀ w, ((do eqGuard bo ty x y vx vy; binOp bo ty vx vy) : Sem Value).run Try.prog w = .ok v w) (hA : ∀ t, o.dst = some t → A t v w) :
    o.wp Try.prog a w (fun a' w' => ∃ v, a' = a.put o.dst v ∧ (∀ t, o.dst = some t → A t v w') ∧ Touch (fun _ => False) w w') Q :=
  tw_val v (by have := hr w; simp only [execOp, ho, hx, hy, Sem.run_bind] at this ⊢; rw [this]; rfl) hA
theorem tw_un (u : UnOp) (ty : TypeId) (x : Operand) (ho : o.op = .unOp u ty x) (vx v : Value) (hx : a.eval x = vx)
    (hr : ∀ w, (Op.unary u vx).run Try.prog w = .ok v w) (hA : ∀ t, o.dst = some t → A t v w) :
    o.wp Try.prog a w (fun a' w' => ∃ v, a' = a.put o.dst v ∧ (∀ t, o.dst = some t → A t v w') ∧ Touch (fun _ => False) w w') Q :=
  tw_val v (by have := hr w; simp only [execOp, ho, hx, Sem.run_bind] at this ⊢; rw [this]; rfl) hA
theorem tw_call (f : Nat) (args : Array Operand) (tys : Array TypeId) (ho : o.op = .call { callee := .value (.func f), args := args, argTypes := tys }) (vs : Array Value) (hv : args.map a.eval = vs)
    (hent : ∀ w, ((do let d ← Deferred.ofValue (.func (.func f) #[] #[]) vs; invoke d.target d.args) : Sem Next).run Try.prog w = .ok (.enter f vs) w)
    (hc : Calls Try.prog f vs w fun e w' => ∃ v, e = .returned v ∧ (∀ t, o.dst = some t → A t v w') ∧ Touch (fun _ => False) w w') :
    o.wp Try.prog a w (fun a' w' => ∃ v, a' = a.put o.dst v ∧ (∀ t, o.dst = some t → A t v w') ∧ Touch (fun _ => False) w w') Q := by
  have e : (execOp a.eval o).run Try.prog w = .ok (.enter f vs) w := by
    have h1 := hent w
    simp only [execOp, ho, resolve, hv, Act.eval] at h1 ⊢
    exact h1
  unfold Oper.wp
  rw [e, Oper.upon_enter]
  refine Calls.mono hc ?_
  rintro e w' ⟨v, rfl, h1, h2⟩
  exact ⟨v, rfl, h1, h2⟩
theorem tw_len (x : Operand) (tx : TypeId) (ho : o.op = .call { callee := .builtin .len, args := #[x], argTypes := #[tx] }) (ad : Option Addr) (n c : Nat) (hx : a.eval x = .slice ad n c)
    (hr : ∀ ad n c w, ((do let d : Deferred ← pure { target := .builtin .len #[tx] o.type #[match x with | .const _ => true | _ => false], args := #[Value.slice ad n c] }; invoke d.target d.args) : Sem Next).run Try.prog w = .ok (.value (.int .i64 n)) w)
    (hA : ∀ t, o.dst = some t → A t (.int .i64 n) w) :
    o.wp Try.prog a w (fun a' w' => ∃ v, a' = a.put o.dst v ∧ (∀ t, o.dst = some t → A t v w') ∧ Touch (fun _ => False) w w') Q := by
  refine tw_val (.int .i64 n) ?_ hA
  have h1 := hr ad n c w
  simp only [execOp, ho, resolve, List.map_toArray, List.map_cons, List.map_nil, hx] at h1 ⊢
  exact h1
theorem tw_slice (t e : TypeId) (len : Nat) (parts : Array (Nat × Operand)) (ho : o.op = .buildSlice t len parts)
    (vs : Array (Nat × Value)) (hv : parts.map (fun (i, x) => (i, a.eval x)) = vs) (cells : Array Value) (ie : TypeInfo) (z : Value)
    (hu : Try.prog.underlying t = some (.slice e)) (hie : Try.prog.info? e = some ie) (hz : ie.zero = some z) (hsmall : ¬ len * ie.size > 2 ^ 24) (hpos : ¬ len * ie.size = 0)
    (hf : Instr.fill (fun i => some (i * ie.size, ie.size)) ((Array.range (len * ie.size)).map (z.cells[· % z.cells.size]!)) vs.toList = some cells)
    (hA : ∀ t, o.dst = some t → A t (.slice (some ⟨w.heap.size, 0, none⟩) len len) (w.alloc (.cells cells e))) :
    o.wp Try.prog a w (fun a' w' => ∃ v, a' = a.put o.dst v ∧ (∀ t, o.dst = some t → A t v w') ∧ Touch (fun _ => False) w w') Q :=
  wp_buildSlice t e len parts ho cells ie z hu hie hz hsmall hpos (by rw [hv]; exact hf) ⟨_, rfl, hA, Touch.alloc _ _ _⟩
end
theorem wp_region_at {ops R : Array Oper} {id : Nat} {b : Bool} {Q : Exit → Act → World → Prop} {a : Act} {w : World} (e : ops = R) (h : (Code.region id R b).wp Try.prog Q a w) : (Code.region id ops b).wp Try.prog Q a w := e ▸ h
end Go.Proofs.Ytnjbclcihhaddaa
