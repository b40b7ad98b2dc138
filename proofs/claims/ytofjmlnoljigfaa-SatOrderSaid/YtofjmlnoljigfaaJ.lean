/- How a row of counters and the reference's row go together. Conditions: as each states. -/
import Derived.Test.YtofjmlnoljigfaaLawTop
set_option linter.unusedVariables false
set_option linter.unusedSimpArgs false
namespace Go.Proofs.Ytofjmlnoljigfaa
open Go.RowKit

theorem addR_allL {L : List Int} {size top : Int} (ok : SatOk L size top) (i n : Int) : addR (allL L size) top i n = allL (addL L size top i n) size := by
  have hl := allL_len ok
  have hs := ok.s1
  unfold addR addL
  by_cases h : 0 ≤ i ∧ i < size ∧ 0 < n
  · rw [if_pos (show 0 ≤ i ∧ i < ((allL L size).length : Int) ∧ 0 < n from ⟨h.1, by rw [hl]; omega, h.2.2⟩), if_pos h, allL_get ok _ (by omega)]
    unfold allL
    rw [List.take_set]
  · rw [if_neg (show ¬ (0 ≤ i ∧ i < ((allL L size).length : Int) ∧ 0 < n) from fun x => h ⟨x.1, by have := x.2.1; rw [hl] at this; omega, x.2.2⟩), if_neg h]
theorem atR_allL {L : List Int} {size top : Int} (ok : SatOk L size top) (i : Int) : atR (allL L size) i = atV L size i := by
  have hl := allL_len ok
  have hs := ok.s1
  unfold atR atV
  by_cases h : 0 ≤ i ∧ i < size
  · rw [if_pos (show 0 ≤ i ∧ i < ((allL L size).length : Int) from ⟨h.1, by rw [hl]; omega⟩), if_pos h, allL_get ok _ (by omega)]
  · rw [if_neg (show ¬ (0 ≤ i ∧ i < ((allL L size).length : Int)) from fun x => h ⟨x.1, by have := x.2; rw [hl] at this; omega⟩), if_neg h]
theorem clr_allL {L : List Int} {size top : Int} (ok : SatOk L size top) : allL (clrL L size.toNat) size = List.replicate (allL L size).length 0 := by
  rw [allL_len ok]
  unfold allL clrL
  rw [List.take_append_of_le_length (by simp), List.take_of_length_le (by simp)]
theorem ext0 {L M : List Int} (hl : L.length = M.length) (h : ∀ j, j < L.length → L.getD j 0 = M.getD j 0) : L = M := by
  apply List.ext_getElem hl
  intro j h1 h2
  have := h j h1
  simpa [List.getD_eq_getElem?_getD, h1, h2] using this
theorem moreI_zero {top x : Int} (h0 : 0 ≤ x) (h1 : x ≤ top) : moreI top 0 x = x := by unfold moreI; split <;> omega
theorem merge_get {L M : List Int} {size top : Int} (okM : SatOk M size top) (ok : SatOk L size top) (k : Nat) (hk : (k : Int) ≤ size) (j : Nat) (hj : j < 64) :
    (mergeTo L M size top k).getD j 0 = if j < k then moreI top (L.getD j 0) (M.getD j 0) else L.getD j 0 := by
  have hs := ok.s2
  induction k with
  | zero => simp [mergeTo]
  | succ k ih =>
    have ih := ih (by omega)
    have okk := mergeTo_ok ok M k
    have hM := okM.c k
    have hL := ok.c k
    show (addL (mergeTo L M size top k) size top k (M.getD k 0)).getD j 0 = _
    unfold addL
    by_cases hp : 0 < M.getD k 0
    · rw [if_pos ⟨by omega, by omega, hp⟩, getD_set, Int.toNat_natCast, okk.len]
      by_cases e : k = j
      · subst e
        rw [if_pos ⟨rfl, hj⟩, ih, if_neg (by omega), if_pos (by omega)]
      · rw [if_neg (fun x => e x.1), ih]
        by_cases h : j < k
        · rw [if_pos h, if_pos (by omega)]
        · rw [if_neg h, if_neg (by omega)]
    · rw [if_neg (fun x => hp x.2.2), ih]
      by_cases e : k = j
      · subst e
        rw [if_neg (by omega), if_pos (by omega), show M.getD k 0 = 0 by omega]
        unfold moreI
        split <;> omega
      · by_cases h : j < k
        · rw [if_pos h, if_pos (by omega)]
        · rw [if_neg h, if_neg (by omega)]
theorem rep_get (n j : Nat) : (List.replicate n (0 : Int)).getD j 0 = 0 := by
  rw [List.getD_eq_getElem?_getD, List.getElem?_replicate]
  split <;> rfl
theorem zeroL_get (j : Nat) : zeroL.getD j 0 = 0 := rep_get 64 j
theorem copy_allL {L : List Int} {size top : Int} (ok : SatOk L size top) : allL (mergeTo zeroL L size top size.toNat) size = allL L size := by
  have ht := ok.t1
  have ok0 : SatOk zeroL size top := zeroL_ok ok.s1 ok.s2 ok.t1 ok.t2
  have okm := mergeTo_ok ok0 L size.toNat
  have hs := ok.s1
  have hs2 := ok.s2
  refine ext0 (by rw [allL_len ok, allL_len okm]) fun j hj => ?_
  rw [allL_len okm] at hj
  have hc := ok.c j
  rw [allL_get okm j hj, allL_get ok j hj, merge_get ok ok0 _ (by omega) j (by omega), if_pos hj, zeroL_get, moreI_zero hc.1 hc.2]
end Go.Proofs.Ytofjmlnoljigfaa
