/- The plain law of rules that are shadowed. Conditions: the rules are right. -/
import Derived.Test.YtolkimdfnlfpbaaXF
set_option linter.unusedVariables false
set_option linter.unusedSimpArgs false
namespace Go.Proofs.Ytolkimdfnlfpbaa
open Go.RowKit

def keepR (R : Nat → Rl) (i : Nat) : List Rl := (List.range i).filterMap fun j => if shadB R j then none else some (R j)
theorem keepR_yes {R : Nat → Rl} {i : Nat} (h : shadB R i = true) : keepR R (i + 1) = keepR R i := by
  unfold keepR; rw [List.range_succ, List.filterMap_append]; simp [h]
theorem keepR_no {R : Nat → Rl} {i : Nat} (h : shadB R i = false) : keepR R (i + 1) = keepR R i ++ [R i] := by
  unfold keepR; rw [List.range_succ, List.filterMap_append]; simp [h]
theorem shadL_yes {R : Nat → Rl} {i : Nat} (h : shadB R i = true) : shadL R (i + 1) = shadL R i ++ [(i : Int)] := if_pos h
theorem shadL_no {R : Nat → Rl} {i : Nat} (h : shadB R i = false) : shadL R (i + 1) = shadL R i := if_neg (by rw [h]; decide)
theorem keep_shad (R : Nat → Rl) (i : Nat) : (keepR R i).length + (shadL R i).length = i := by
  induction i with
  | zero => rfl
  | succ i ih =>
    cases h : shadB R i with
    | true => rw [keepR_yes h, shadL_yes h, List.length_append]; simp; omega
    | false => rw [keepR_no h, shadL_no h, List.length_append]; simp; omega
theorem shadL_pre (R : Nat → Rl) (i : Nat) : ∀ n, ∃ t, shadL R (i + n) = shadL R i ++ t ∧ ∀ x ∈ t, (i : Int) ≤ x
  | 0 => ⟨[], by simp, by simp⟩
  | n + 1 => by
    obtain ⟨t, h1, h2⟩ := shadL_pre R i n
    cases h : shadB R (i + n) with
    | true =>
      refine ⟨t ++ [((i + n : Nat) : Int)], ?_, ?_⟩
      · rw [show i + (n + 1) = (i + n) + 1 from rfl, shadL_yes h, h1, List.append_assoc]
      · intro x hx
        rcases List.mem_append.1 hx with hx | hx
        · exact h2 x hx
        · simp at hx; omega
    | false => exact ⟨t, by rw [show i + (n + 1) = (i + n) + 1 from rfl, shadL_no h, h1], h2⟩
/-- What stands at the place of the next shadowed one. -/
theorem shadL_at {R : Nat → Rl} {i len : Nat} (hi : i < len) : (shadB R i = true → (shadL R len)[(shadL R i).length]? = some (i : Int)) ∧ (shadB R i = false → ∀ x, (shadL R len)[(shadL R i).length]? = some x → x ≠ (i : Int)) := by
  obtain ⟨t, h1, h2⟩ := shadL_pre R (i + 1) (len - (i + 1))
  rw [show i + 1 + (len - (i + 1)) = len by omega] at h1
  constructor
  · intro h
    rw [h1, shadL_yes h, List.append_assoc, List.getElem?_append_right (Nat.le_refl _)]
    simp
  · intro h x hx e
    rw [h1, shadL_no h, List.getElem?_append_right (Nat.le_refl _)] at hx
    have := h2 x (List.mem_of_getElem? hx)
    omega
def LawR (R : Nat → Rl) (len : Nat) : Prop := ∀ i, i < len → RightR (R i)
/-- Whoever is shadowed has one ahead of it. -/
theorem shad_ahead {R : Nat → Rl} {len i : Nat} {a : Ak} (hl : LawR R len) (hi : i < len) (h : shadB R i = true) (h1 : oneB (R i) a = true) : ∃ k, k < i ∧ oneB (R k) a = true := by
  obtain ⟨k, hk, hc⟩ := List.any_eq_true.1 h
  have hk' := List.mem_range.1 hk
  exact ⟨k, hk', covers_one (hl k (by omega)) (hl i hi) hc h1⟩
theorem shad_not_first {R : Nat → Rl} {len i : Nat} {a : Ak} (hl : LawR R len) (hi : i < len) (h : shadB R i = true) : (i : Int) ≠ firstI R a len := by
  intro e
  rcases firstI_range R a len with h0 | ⟨k, hk, h1, h2, h3⟩
  · omega
  · obtain rfl : i = k := by omega
    obtain ⟨j, hj, hj1⟩ := shad_ahead hl hi h h2
    rw [h3 j hj] at hj1; cases hj1
def firstA (l : List Rl) (a : Ak) : Bool := match l.find? (fun r => oneB r a) with | some r => r.acc | none => false
theorem accB_list (R : Nat → Rl) (a : Ak) (len : Nat) : accB R a len = firstA ((List.range len).map R) a := by
  unfold firstA accB
  rw [List.find?_map]
  have e : (List.range len).find? ((fun r => oneB r a) ∘ R) = (List.range len).find? (fun i => oneB (R i) a) := rfl
  rw [e]
  unfold firstI
  cases (List.range len).find? (fun i => oneB (R i) a) with
  | none => rfl
  | some i => simp
theorem find_keep {R : Nat → Rl} {len : Nat} {a : Ak} (hl : LawR R len) : ∀ i, i ≤ len → (keepR R i).find? (fun r => oneB r a) = ((List.range i).map R).find? (fun r => oneB r a)
  | 0, _ => rfl
  | i + 1, hi => by
    have ih := find_keep (a := a) hl i (by omega)
    rw [List.range_succ, List.map_append, List.find?_append]
    cases h : shadB R i with
    | false => rw [keepR_no h, List.find?_append, ih]; rfl
    | true =>
      rw [keepR_yes h, ih]
      cases h1 : oneB (R i) a with
      | false => simp [h1]
      | true =>
        obtain ⟨k, hk, hk1⟩ := shad_ahead hl (by omega) h h1
        have hs : (((List.range i).map R).find? (fun r => oneB r a)).isSome = true := List.find?_isSome.2 ⟨R k, List.mem_map.2 ⟨k, List.mem_range.2 hk, rfl⟩, hk1⟩
        obtain ⟨x, hx⟩ := Option.isSome_iff_exists.1 hs
        rw [hx]; rfl
def restR (R : Nat → Rl) (len : Nat) : Nat → Rl := fun j => (keepR R len).getD j (R 0)
theorem rest_list (R : Nat → Rl) (len : Nat) : (List.range (keepR R len).length).map (restR R len) = keepR R len := by
  apply List.ext_getElem?
  intro j
  unfold restR
  by_cases h : j < (keepR R len).length
  · rw [List.getElem?_map, List.getElem?_range h]; simp [h]
  · rw [List.getElem?_eq_none (by simp; omega), List.getElem?_eq_none (by omega)]
theorem acc_rest {R : Nat → Rl} {len : Nat} (a : Ak) (hl : LawR R len) : accB (restR R len) a (keepR R len).length = accB R a len := by
  rw [accB_list, accB_list, rest_list]
  unfold firstA
  rw [find_keep hl len (Nat.le_refl _)]
theorem rest_mem {R : Nat → Rl} {len j : Nat} (hj : j < (keepR R len).length) : ∃ i, i < len ∧ restR R len j = R i := by
  have h1 : restR R len j ∈ keepR R len := by
    unfold restR
    rw [List.getD_eq_getElem?_getD, List.getElem?_eq_getElem hj]
    exact List.getElem_mem hj
  unfold keepR at h1
  rw [List.mem_filterMap] at h1
  obtain ⟨i, hi, he⟩ := h1
  split at he
  · cases he
  · exact ⟨i, List.mem_range.1 hi, by simpa using he.symm⟩
theorem rest_small {R : Nat → Rl} {len : Nat} (h : SmallR R len) : SmallR (restR R len) (keepR R len).length := by
  intro j hj
  obtain ⟨i, hi, e⟩ := rest_mem hj
  rw [e]; exact h i hi
def kcells (R : Nat → Rl) (k : Nat) : List Value := (keepR R k).flatMap Rl.cs
theorem kcells_eq (R : Nat → Rl) (len : Nat) : kcells R len = rcells (restR R len) (keepR R len).length := by
  unfold kcells rcells
  conv => lhs; rw [← rest_list R len]
  rw [List.flatMap_map]
theorem kcells_no {R : Nat → Rl} {i : Nat} (h : shadB R i = false) : kcells R (i + 1) = kcells R i ++ (R i).cs := by
  unfold kcells; rw [keepR_no h, List.flatMap_append]; simp
theorem kcells_yes {R : Nat → Rl} {i : Nat} (h : shadB R i = true) : kcells R (i + 1) = kcells R i := by
  unfold kcells; rw [keepR_yes h]
theorem own_keepG {S : Nat → Prop} {w w' : World} {B e sz n : Nat} {v : Value} {l : List Value} (h : w.ownsRow B e sz v n l) (t : Touch S w w') (hs : ∀ g, B ≤ g → ¬ S g) : w'.ownsRow B e sz v n l := by
  refine ⟨h.1, ?_⟩
  rcases h.2 with h | ⟨g, cap, cur, hv, hB, hg, hn, hm, hcs, ht⟩
  · exact .inl h
  · have hlt := (Array.getElem?_eq_some_iff.1 hg).1
    exact .inr ⟨g, cap, cur, hv, hB, (t.block g hlt (hs g hB)).trans hg, hn, hm, hcs, ht⟩
theorem own_rules43 {w : World} {B n : Nat} {v : Value} {R : Nat → Rl} (h : w.ownsRow B 43 13 v n (rcells R n)) : ∃ ad cap, v = .slice ad n cap ∧ n ≤ cap ∧ cap ≤ maxLen ∧ RulesAt w ad n R := by
  rcases h.2 with ⟨rfl, rfl⟩ | ⟨g, cap, cur, rfl, hB, hg, hn, hm, hcs, ht⟩
  · exact ⟨none, 0, rfl, Nat.le_refl _, Nat.zero_le _, fun i hi => by omega⟩
  · refine ⟨_, cap, rfl, hn, hm, fun i hi => ⟨g, 0, rfl, (Array.getElem?_eq_some_iff.1 hg).1, fun j u hj => ?_⟩⟩
    have h1 := rcells_get R n i j u hi hj
    rw [← ht] at h1
    have h2 : (i * 13 + j) < n * 13 := by
      have hjl : j < 13 := (List.getElem?_eq_some_iff.1 hj).1
      have := Nat.mul_le_mul_right 13 (show i + 1 ≤ n from hi)
      omega
    rw [List.getElem?_take, if_pos h2] at h1
    simp only [World.cell?, hg, Nat.zero_add]
    simpa using h1
/-- A row of numbers below a bound. -/
def NumsAt (w : World) (B : Nat) (ad : Option Addr) (l : List Int) : Prop := ∀ j, j < l.length → ∃ g, ad = some ⟨g, 0, none⟩ ∧ g < B ∧ g < w.heap.size ∧ w.cell? ⟨g, j, none⟩ = some (.int .i64 (l.getD j 0))
theorem NumsAt.keep {S : Nat → Prop} {w w' : World} {B : Nat} {ad : Option Addr} {l : List Int} (h : NumsAt w B ad l) (t : Touch S w w') (hs : ∀ g, g < B → ¬ S g) : NumsAt w' B ad l := fun j hj => by
  obtain ⟨g, h1, h2, h3, h4⟩ := h j hj
  exact ⟨g, h1, h2, Nat.lt_of_lt_of_le h3 t.size, by rw [t.cell h3 (hs g h2)]; exact h4⟩
theorem nums_of_own {w : World} {B : Nat} {v : Value} {l : List Int} (h : w.ownsRow B 3 1 v l.length (ints l)) : ∃ ad cap, v = .slice ad l.length cap ∧ NumsAt w w.heap.size ad l := by
  rcases own_open h with ⟨h1, h2⟩ | ⟨g, cap, h1, _, h3, _, _, h6, _⟩
  · subst h2; exact ⟨none, 0, h1, fun j hj => by simp at hj⟩
  · exact ⟨_, cap, h1, fun j hj => ⟨g, rfl, h3, h3, h6 j hj⟩⟩
theorem info43 : (Try.prog.info? 43).map (fun i => (i.zero, i.size, i.bytes)) = some (some (.agg #[.bool false, .int .i64 0, .string ⟨#[]⟩, .int .i64 0, .string ⟨#[]⟩, .int .i64 0, .int .i64 0, .int .i64 0, .int .i64 0, .int .i64 0, .int .i64 0, .int .i64 0, .int .i64 0]), 13, 120) := by kernel_rfl
end Go.Proofs.Ytolkimdfnlfpbaa
