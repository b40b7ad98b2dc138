/- In which order is added makes no difference: the plain law of SatOrder. Conditions: as each states. -/
import Derived.Test.YtofjmlnoljigfaaLawPlays
set_option linter.unusedVariables false
set_option linter.unusedSimpArgs false
namespace Go.Proofs.Ytofjmlnoljigfaa
open Go.RowKit

def sumR (f : Nat → Int) (lo : Nat) : Nat → Int
  | 0 => 0
  | n + 1 => sumR f lo n + f (lo + n)
theorem sumR_left (f : Nat → Int) (lo n : Nat) : sumR f lo (n + 1) = f lo + sumR f (lo + 1) n := by
  induction n with
  | zero => simp [sumR]
  | succ n ih =>
    rw [show sumR f lo (n + 1 + 1) = sumR f lo (n + 1) + f (lo + (n + 1)) from rfl, ih, show sumR f (lo + 1) (n + 1) = sumR f (lo + 1) n + f (lo + 1 + n) from rfl, show lo + (n + 1) = lo + 1 + n by omega]
    omega
theorem sumR_add (f : Nat → Int) (lo n m : Nat) : sumR f lo (n + m) = sumR f lo n + sumR f (lo + n) m := by
  induction m with
  | zero => simp [sumR]
  | succ m ih =>
    rw [show n + (m + 1) = (n + m) + 1 from rfl, show sumR f lo (n + m + 1) = sumR f lo (n + m) + f (lo + (n + m)) from rfl, ih, show sumR f (lo + n) (m + 1) = sumR f (lo + n) m + f (lo + n + m) from rfl, show lo + (n + m) = lo + n + m by omega]
    omega
theorem sumR_nonneg (f : Nat → Int) (h : ∀ i, 0 ≤ f i) (lo n : Nat) : 0 ≤ sumR f lo n := by
  induction n with
  | zero => exact Int.le_refl _
  | succ n ih => have := h (lo + n); show 0 ≤ sumR f lo n + f (lo + n); omega

/-- What an act adds to counter j. -/
def gain (I N : Nat → Int) (j : Nat) (k : Nat) : Int := if I k = j ∧ 0 < N k then N k else 0
theorem gain_nonneg (I N : Nat → Int) (j k : Nat) : 0 ≤ gain I N j k := by unfold gain; split <;> omega
/-- Each counter holds what was gained, or the top. -/
def Cnt (L : List Int) (size top : Int) (g : Nat → Int) : Prop := ∀ j : Nat, (j : Int) < size → L.getD j 0 = min top (g j)
theorem cnt_zero {size top : Int} (ht : 1 ≤ top) : Cnt zeroL size top (fun _ => 0) := fun j _ => by rw [zeroL_get]; show (0 : Int) = min top 0; omega
theorem cnt_congr {L : List Int} {size top : Int} {g g' : Nat → Int} (h : Cnt L size top g) (e : ∀ j, g j = g' j) : Cnt L size top g' := fun j hj => by rw [h j hj, e]
theorem cnt_add {L : List Int} {size top : Int} {g : Nat → Int} (ok : SatOk L size top) (h : Cnt L size top g) (hg : ∀ j, 0 ≤ g j) (I N : Nat → Int) (k : Nat) :
    Cnt (addL L size top (I k) (N k)) size top (fun j => g j + gain I N j k) := by
  intro j hj
  have hl := ok.len
  have hs := ok.s2
  have hh := h j hj
  have hgj := hg j
  have hc := ok.c j
  show (addL L size top (I k) (N k)).getD j 0 = min top (g j + gain I N j k)
  unfold addL gain
  by_cases hp : 0 ≤ I k ∧ I k < size ∧ 0 < N k
  · rw [if_pos hp, getD_set]
    by_cases e : (I k).toNat = j
    · rw [if_pos ⟨e, by omega⟩, e, hh]
      have e2 : I k = j := by omega
      simp only [e2, hp.2.2, true_and, if_true]
      unfold moreI
      split <;> omega
    · rw [if_neg (fun x => e x.1), if_neg (fun x => e (by omega)), hh]
      simp
  · rw [if_neg hp, if_neg (fun x => hp ⟨by omega, by omega, x.2⟩), hh]
    simp
theorem cnt_merge {L M : List Int} {size top : Int} {g g' : Nat → Int} (ok : SatOk L size top) (okM : SatOk M size top) (h : Cnt L size top g) (h' : Cnt M size top g') (hg : ∀ j, 0 ≤ g j) (hg' : ∀ j, 0 ≤ g' j) :
    Cnt (mergeTo L M size top size.toNat) size top (fun j => g j + g' j) := by
  intro j hj
  have hs := ok.s2
  have := hg j
  have := hg' j
  have := ok.t1
  show _ = min top (g j + g' j)
  rw [merge_get okM ok _ (by omega) j (by omega), if_pos (by omega), h j hj, h' j hj]
  unfold moreI
  split <;> omega
theorem cnt_all {L M : List Int} {size top : Int} {g : Nat → Int} (ok : SatOk L size top) (okM : SatOk M size top) (h : Cnt L size top g) (h' : Cnt M size top g) : allL L size = allL M size := by
  have hs := ok.s1
  refine ext0 (by rw [allL_len ok, allL_len okM]) fun j hj => ?_
  rw [allL_len ok] at hj
  rw [allL_get ok j hj, allL_get okM j hj, h j (by omega), h' j (by omega)]

/-- The acts of a script that came in. -/
theorem acts_of {w : World} {a : Option Addr} {len : Nat} (h : RowIn Try.prog w 31 3 a len) :
    ∃ X I N : Nat → Int, ∀ i, i < len → ∃ b off, a = some ⟨b, off, none⟩ ∧ b < w.heap.size ∧ N i ≤ 9223372036854775807 ∧
      w.cell? ⟨b, off + i * 3, none⟩ = some (.int .i64 (X i)) ∧ w.cell? ⟨b, off + i * 3 + 1, none⟩ = some (.int .i64 (I i)) ∧ w.cell? ⟨b, off + i * 3 + 2, none⟩ = some (.int .i64 (N i)) := by
  have hex : ∀ i, ∃ t : Int × Int × Int, i < len → ∃ b off, a = some ⟨b, off, none⟩ ∧ b < w.heap.size ∧ t.2.2 ≤ 9223372036854775807 ∧
      w.cell? ⟨b, off + i * 3, none⟩ = some (.int .i64 t.1) ∧ w.cell? ⟨b, off + i * 3 + 1, none⟩ = some (.int .i64 t.2.1) ∧ w.cell? ⟨b, off + i * 3 + 2, none⟩ = some (.int .i64 t.2.2) := fun i => by
    by_cases hi : i < len
    · obtain ⟨b, off, x, y, z, ha, hb, _, _, _, _, _, hz, h1, h2, h3⟩ := act_of h i hi
      exact ⟨(x, y, z), fun _ => ⟨b, off, ha, hb, hz, h1, h2, h3⟩⟩
    · exact ⟨(0, 0, 0), fun h => absurd h hi⟩
  obtain ⟨f, hf⟩ := Classical.axiomOfChoice hex
  exact ⟨fun i => (f i).1, fun i => (f i).2.1, fun i => (f i).2.2, hf⟩
end Go.Proofs.Ytofjmlnoljigfaa
