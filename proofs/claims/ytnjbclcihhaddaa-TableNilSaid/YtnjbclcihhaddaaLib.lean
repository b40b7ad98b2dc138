/- Laws for regions whose order is open. No condition beyond what each states. -/
import Derived.WalkKit
import Derived.Lib.Hide
import Derived.Deep.OwnRows
import Derived.Deep.QuietTactic
import Derived.BigQuiet
import Derived.StillTailTactics
set_option linter.unusedVariables false
namespace Go.Proofs.Ytnjbclcihhaddaa
open Go.RowKit

theorem ret_bool {a b : Bool} (h : a = b) : Ending.returned (.bool a) = .returned (.bool b) := by rw [h]
theorem ret_int {k : IntKind} {a b : Int} (h : a = b) : Ending.returned (.int k a) = .returned (.int k b) := by rw [h]
theorem ret_str {a b : ByteArray} (h : a = b) : Ending.returned (.string a) = .returned (.string b) := by rw [h]

/-- A region that draws its order, each of whose operations yields one value in all worlds of a family and stays in it. -/
theorem wp_region_fam {P : Program} {X : Type} (F : X → World) {id : Nat} {Q : Exit → Act → World → Prop} {a : Act} {w : World} {l : List Oper}
    (hm : P.follows .mixedOrders = true) (hB : Region.lexB .any l.toArray = true) (h0 : ∃ x, w.drew = F x)
    (h : wpQuiet P l.toArray (fun w' => ∃ x, w' = F x) (fun a' => ∀ x, Q .normal a' (F x)) l a) : (Code.region id l.toArray true).wp P Q a w :=
  wp_region_quiet (C := fun w' => ∃ x, w' = F x) hm hB h0 (by
    have e : (fun a' => ∀ w', (∃ x, w' = F x) → Q .normal a' w') = (fun a' => ∀ x, Q .normal a' (F x)) := by
      funext a'; apply propext; exact ⟨fun h x => h _ ⟨x, rfl⟩, fun h w' ⟨x, e⟩ => e ▸ h x⟩
    simp only []
    rw [e]; exact h)

/-- The worlds that meet a condition, as a family. -/
theorem family (C : World → Prop) (w0 : World) (h0 : C w0) : ∃ (X : Type) (_ : Nonempty X) (F : X → World), (∀ x, C (F x)) ∧ (∀ w, C w → ∃ x, w = F x) :=
  ⟨{w // C w}, ⟨⟨w0, h0⟩⟩, Subtype.val, fun x => x.2, fun w h => ⟨⟨w, h⟩, rfl⟩⟩
section
variable {P : Program} {ops : Array Oper} {md : Region.Mode} {Q : Exit → Act → World → Prop}

/-- First `g` operations that may be taken in the order of the text, then `m` forced ones. -/
def hybB (md : Region.Mode) (ops : Array Oper) : Nat → Nat → Array Bool → Nat → Bool
  | 0, k, listed, m => Region.seqB md ops m k listed
  | g + 1, k, listed, m => (Region.ready md ops listed).contains k && Region.free md ops listed k && hybB md ops g (k + 1) (listed.setIfInBounds k true) m

/-- Operations that yield one value in whatever world. -/
def wpReads (P : Program) (ops : Array Oper) (K : Act → Prop) : List Oper → Act → Prop
  | [], a => K a
  | o :: r, a => if Region.wanted o (yielded ops a.tmps) then ∃ v, (∀ w, (execOp a.eval o).run P w = .ok (.value v) w) ∧ wpReads P ops K r (a.put o.dst v) else wpReads P ops K r (a.put o.dst undef)

theorem wpReads_nil {K : Act → Prop} {a : Act} (h : K a) : wpReads P ops K [] a := h
theorem wpReads_step {K : Act → Prop} {a : Act} {o : Oper} {r : List Oper}
    (h : ∀ J : Act → Prop, (∀ a, wpReads P ops K r a → J a) → if Region.wanted o (yielded ops a.tmps) then ∃ v, (∀ w, (execOp a.eval o).run P w = .ok (.value v) w) ∧ J (a.put o.dst v) else J (a.put o.dst undef)) : wpReads P ops K (o :: r) a :=
  h _ (fun _ h => h)

theorem wpAny_hyb (hs : Region.noSelect ops = true) (hQ : ∀ c a d v w, Q (.panic c) (a.put d v) w → Q (.panic c) a w) (w : World) (l2 : List Oper) :
    ∀ (l1 : List Oper) (k : Nat) (listed : Array Bool) (a : Act), (∀ j, (l1 ++ l2)[j]? = ops[k + j]?) → hybB md ops l1.length k listed l2.length = true →
      wpReads P ops (fun a' => wpList P ops Q l2 a' w) l1 a → wpAny P md ops Q (l1.length + l2.length) listed a w
  | [], k, listed, a, hl, hB, h => by
    simp only [List.length_nil, Nat.zero_add]
    exact wpAny_of_seq l2 k listed a w (by simpa using hl) hB h
  | o :: l1, k, listed, a, hl, hB, h => by
    have h0 : ops[k]? = some o := by simpa using (hl 0).symm
    simp only [List.length_cons, hybB, Bool.and_eq_true] at hB
    obtain ⟨⟨hr, hf⟩, hB'⟩ := hB
    rw [show (o :: l1).length + l2.length = (l1.length + l2.length) + 1 by simp; omega]
    have hl' : ∀ j, (l1 ++ l2)[j]? = ops[k + 1 + j]? := fun j => by have := hl (j + 1); simpa [Nat.add_assoc, Nat.add_comm 1 j] using this
    unfold wpReads at h
    by_cases hw : Region.wanted o (yielded ops a.tmps) = true
    · rw [if_pos hw] at h
      obtain ⟨v, hv, hK⟩ := h
      exact wpAny_first h0 (Region.noSelect_spec hs) (fun c a w => hQ c a _ _ w) _ listed a w (Region.free_spec h0 hf) (by simpa using hr) (.inl ⟨hw, hv⟩)
        (wpAny_hyb hs hQ w l2 l1 (k + 1) _ _ hl' hB' hK)
    · rw [if_neg hw] at h
      exact wpAny_first h0 (Region.noSelect_spec hs) (fun c a w => hQ c a _ _ w) _ listed a w (Region.free_spec h0 hf) (by simpa using hr) (.inr ⟨by simpa using hw, rfl⟩)
        (wpAny_hyb hs hQ w l2 l1 (k + 1) _ _ hl' hB' h)

/-- A region that draws its order: `n` operations that yield one value in whatever world, then forced ones. -/
theorem wp_region_hyb {id : Nat} {a : Act} {w : World} {l : List Oper} (n : Nat) (hm : P.follows .mixedOrders = true)
    (hB : (Region.noSelect l.toArray && hybB .any l.toArray (l.take n).length 0 (Array.replicate l.toArray.size false) (l.drop n).length) = true)
    (hQ : ∀ c a d v w, Q (.panic c) (a.put d v) w → Q (.panic c) a w)
    (h : wpReads P l.toArray (fun a' => wpList P l.toArray Q (l.drop n) a' w.drew) (l.take n) a) : (Code.region id l.toArray true).wp P Q a w := by
  simp only [Bool.and_eq_true] at hB
  refine wp_region_any hm ?_
  have := wpAny_hyb (md := .any) hB.1 hQ w.drew (l.drop n) (l.take n) 0 (Array.replicate l.toArray.size false) a (fun j => by simp) hB.2 h
  rwa [← List.length_append, List.take_append_drop, ← List.size_toArray] at this
end
end Go.Proofs.Ytnjbclcihhaddaa
