/- How arguments that came in read, cell by cell. No condition beyond what each states. -/
import Derived.Test.YtnjbclcihhaddaaLib
import Derived.ProofKit
import Derived.OpenShut
import Derived.Deep.Slices
set_option linter.unusedVariables false
namespace Go.Proofs.Ytnjbclcihhaddaa
open Go.RowKit

/-- A cell of a plain type, read as data. -/
def leafOk (P : Program) (t : TypeId) (v : Value) : Prop :=
  match P.underlying t with
  | some (.int k) => ∃ n, v = .int k n ∧ (Lit.int k n).wf = true
  | some .bool => ∃ b, v = .bool b
  | some .string => ∃ s, v = .string s ∧ s.size ≤ maxLen
  | some (.slice _) => ∃ a n c, v = .slice a n c ∧ n ≤ c ∧ c ≤ maxLen
  | _ => True

/-- The plain cells of a type, with their places. -/
def leavesAt (P : Program) : Nat → TypeId → List (Nat × TypeId)
  | 0, _ => []
  | f + 1, t =>
    match P.underlying t with
    | some (.struct fs) => fs.toList.flatMap fun fd => (leavesAt P f fd.type).map fun x => (fd.offset + x.1, x.2)
    | some (.array n e) => (List.range n).flatMap fun i => (leavesAt P f e).map fun x => (i * P.cellsOf e + x.1, x.2)
    | some (.int _) | some .bool | some .string | some (.slice _) => [(0, t)]
    | _ => []

theorem leaves_of_trod {H : Type} {enc : TypeId × Value → H} {P : Program} {w : World} {base : Nat} {spare : Nat → Bool} {held : Bool} :
    ∀ (f fuel : Nat) (t : TypeId) (cs : List Value) (x : DataW H × List MemPlace), DataW.trod enc P w base spare held fuel t cs = some x →
      ∀ o ty, (o, ty) ∈ leavesAt P f t → ∃ v, cs[o]? = some v ∧ leafOk P ty v
  | 0, _, _, _, _, _, _, _, hm => by simp [leavesAt] at hm
  | f + 1, fuel, t, cs, x, h, o, ty, hm => by
    cases fuel with
    | zero => simp [DataW.trod] at h
    | succ m =>
      cases hu : P.underlying t with
      | none => simp [leavesAt, hu] at hm
      | some td =>
        cases td with
        | struct fs =>
          obtain ⟨xs, m', _, _, hl, hlen, hf⟩ := DataW.trod_struct hu h
          simp only [leavesAt, hu, List.mem_flatMap, List.mem_map, Prod.mk.injEq] at hm
          obtain ⟨fd, hfd, y, hy, rfl, rfl⟩ := hm
          obtain ⟨i, hi, rfl⟩ := List.getElem_of_mem hfd
          have h1 := hf i fs.toList[i] (by simp at hi ⊢)
          obtain ⟨z, hz⟩ : ∃ z, xs[i]? = some z := ⟨xs[i]'(by simp at hi; omega), List.getElem?_eq_getElem _⟩
          rw [hz] at h1
          obtain ⟨v, hv, hok⟩ := leaves_of_trod f m' _ _ _ h1 y.1 y.2 hy
          refine ⟨v, ?_, hok⟩
          rw [List.getElem?_take, List.getElem?_drop] at hv
          split at hv
          · exact hv
          · cases hv
        | array n e =>
          obtain ⟨xs, m', _, _, hl, hlen, hf⟩ := DataW.trod_array hu h
          simp only [leavesAt, hu, List.mem_flatMap, List.mem_map, Prod.mk.injEq, List.mem_range] at hm
          obtain ⟨i, hi, y, hy, rfl, rfl⟩ := hm
          have h1 := hf i hi
          obtain ⟨z, hz⟩ : ∃ z, xs[i]? = some z := ⟨xs[i]'(by omega), List.getElem?_eq_getElem _⟩
          rw [hz] at h1
          obtain ⟨v, hv, hok⟩ := leaves_of_trod f m' _ _ _ h1 y.1 y.2 hy
          refine ⟨v, ?_, hok⟩
          rw [List.getElem?_take, List.getElem?_drop] at hv
          split at hv
          · exact hv
          · cases hv
        | int k =>
          simp only [leavesAt, hu, List.mem_singleton, Prod.mk.injEq] at hm
          obtain ⟨rfl, rfl⟩ := hm
          obtain ⟨n, rfl, _, hw⟩ := DataW.trod_int hu h
          exact ⟨_, rfl, by unfold leafOk; rw [hu]; exact ⟨_, rfl, hw⟩⟩
        | bool =>
          simp only [leavesAt, hu, List.mem_singleton, Prod.mk.injEq] at hm
          obtain ⟨rfl, rfl⟩ := hm
          obtain ⟨b, rfl, _⟩ := DataW.trod_bool hu h
          exact ⟨_, rfl, by unfold leafOk; rw [hu]; exact ⟨_, rfl⟩⟩
        | string =>
          simp only [leavesAt, hu, List.mem_singleton, Prod.mk.injEq] at hm
          obtain ⟨rfl, rfl⟩ := hm
          obtain ⟨s, rfl, _, hl⟩ := DataW.trod_string hu h
          exact ⟨_, rfl, by unfold leafOk; rw [hu]; exact ⟨_, rfl, hl⟩⟩
        | slice e =>
          simp only [leavesAt, hu, List.mem_singleton, Prod.mk.injEq] at hm
          obtain ⟨rfl, rfl⟩ := hm
          rcases Deep.open_slice hu h with ⟨rfl, _⟩ | ⟨a, len, cap, m2, n2, D, Pl, rfl, _, hlc, hcm, _⟩
          · exact ⟨_, rfl, by unfold leafOk; rw [hu]; exact ⟨_, _, _, rfl, Nat.le_refl _, Nat.zero_le _⟩⟩
          · exact ⟨_, rfl, by unfold leafOk; rw [hu]; exact ⟨_, _, _, rfl, hlc, hcm⟩⟩
        | _ => simp [leavesAt, hu] at hm

/-- The cells of a slice's elements that came in: each plain cell of each element. -/
def RowIn (P : Program) (w : World) (e sz : TypeId) (a : Option Addr) (len : Nat) : Prop :=
  ∀ i, i < len → ∃ b off, a = some ⟨b, off, none⟩ ∧ b < w.heap.size ∧ ∀ o ty, (o, ty) ∈ leavesAt P 9 e → ∃ v, w.cell? ⟨b, off + (i * sz + o), none⟩ = some v ∧ leafOk P ty v

theorem rowIn_of {H : Type} {enc : TypeId × Value → H} {P : Program} {w : World} {spare : Nat → Bool} {held : Bool} {t e sz : TypeId} {a : Option Addr} {len cap : Nat} {d : DataW H} {p : List MemPlace}
    (hu : P.underlying t = some (.slice e)) (hsz : P.cellsOf e = sz) (hpos : 0 < sz) (h : DataW.Trod enc P w 0 spare held t (.slice a len cap) d p) :
    RowIn P w e sz a len ∧ len ≤ cap ∧ cap ≤ maxLen := by
  obtain ⟨fuel, hf⟩ := h
  rcases Deep.open_slice hu hf with ⟨hcs, _⟩ | ⟨ad, len', cap', m, n, D, Pl, hcs, _, hl, hc, hm, _, hel⟩
  · simp [Value.cells] at hcs
    obtain ⟨rfl, rfl, rfl⟩ := hcs
    exact ⟨fun i hi => absurd hi (Nat.not_lt_zero _), Nat.le_refl _, Nat.zero_le _⟩
  · simp [Value.cells] at hcs
    obtain ⟨rfl, rfl, rfl⟩ := hcs
    refine ⟨fun i hi => ?_, hl, hc⟩
    obtain ⟨cs, hcells, htr⟩ := hel i (by rw [hm]; split <;> omega)
    rw [hsz] at hcells
    obtain ⟨hb, hlen, hc⟩ := World.cells?_some hcells
    have hspot : ad.spot = none := by
      obtain ⟨cs0, hcells0, _⟩ := hel 0 (by rw [hm]; split <;> omega)
      rw [hsz, Nat.zero_mul] at hcells0
      obtain ⟨_, hlen0, hc0⟩ := World.cells?_some hcells0
      have h0 := hc0 0 hpos
      rw [show (ad.add 0).add 0 = ad from rfl, List.getElem?_eq_getElem (by rw [hlen0]; exact hpos)] at h0
      exact World.cell?_spot h0
    obtain ⟨b, off, spot⟩ := ad
    subst hspot
    have hadd : ∀ k, (⟨b, off, none⟩ : Addr).add k = ⟨b, off + k, none⟩ := fun k => by unfold Addr.add; split <;> simp_all
    refine ⟨b, off, rfl, ?_, fun o ty hm => ?_⟩
    · have := World.cells?_block hcells hpos
      rwa [hadd] at this
    · obtain ⟨v, hv, hok⟩ := leaves_of_trod 9 n e cs _ htr o ty hm
      refine ⟨v, ?_, hok⟩
      have ho : o < sz := by
        have := (List.getElem?_eq_some_iff.1 hv).1
        omega
      have := hc o ho
      rw [hadd] at this
      have h2 : ∀ k, (⟨b, off + i * sz, none⟩ : Addr).add k = ⟨b, off + i * sz + k, none⟩ := fun k => by unfold Addr.add; split <;> simp_all
      rw [h2, hv] at this
      rw [← Nat.add_assoc]
      exact this

/-- A struct or array that came in by value: its cells. -/
theorem aggIn_of {H : Type} {enc : TypeId × Value → H} {P : Program} {w w2 : World} {spare : Nat → Bool} {held : Bool} {t : TypeId} {v : Value} {d : DataW H} {p : List MemPlace} {r : Reach} {b0 : Nat}
    (hu : (match P.underlying t with | some (.struct _) | some (.array _ _) => true | _ => false) = true) (hv : Value.okWide P w2 r b0 t v) (h : DataW.Trod enc P w 0 spare held t v d p) :
    ∃ cs : Array Value, v = .agg cs ∧ cs.size = P.cellsOf t ∧ ∀ o ty, (o, ty) ∈ leavesAt P 9 t → ∃ v, cs.toList[o]? = some v ∧ leafOk P ty v := by
  obtain ⟨cs, rfl, hsz⟩ : ∃ cs, v = .agg cs ∧ cs.size = P.cellsOf t := by
    unfold Value.okWide at hv
    split at hv
    · obtain ⟨cs, h1, h2, _⟩ := hv; exact ⟨cs, h1, h2⟩
    · obtain ⟨cs, h1, h2, _⟩ := hv; exact ⟨cs, h1, h2⟩
    · rename_i h1 h2
      split at hu <;> simp_all
  obtain ⟨fuel, hf⟩ := h
  exact ⟨cs, rfl, hsz, fun o ty hm => leaves_of_trod 9 fuel t _ _ hf o ty hm⟩
end Go.Proofs.Ytnjbclcihhaddaa
