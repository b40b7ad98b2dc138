/- What the methods of sat.Row answer. Conditions: the receiver is a row that stands there (or nil). -/
import Derived.Test.YtofjmlnoljigfaaA
set_option linter.unusedVariables false
set_option linter.unusedSimpArgs false
namespace Go.Proofs.Ytofjmlnoljigfaa
open Go.RowKit

/-- The cells of a row of counters. -/
def satCells (L : List Int) (size top : Int) : List Value := L.map (.int .i64) ++ [.int .i64 size, .int .i64 top]
structure Sat (w : World) (b : Nat) (L : List Int) (size top : Int) : Prop where
  blk : Blk w b (satCells L size top) 54
  len : L.length = 64
theorem Sat.keep {S : Nat → Prop} {w w' : World} {b : Nat} {L : List Int} {size top : Int} (h : Sat w b L size top) (t : Touch S w w') (hs : ¬ S b) : Sat w' b L size top := ⟨h.blk.keep t hs, h.len⟩
theorem Sat.count {w : World} {b : Nat} {L : List Int} {size top : Int} (h : Sat w b L size top) (i : Nat) (hi : i < 64) : w.cell? ⟨b, i, none⟩ = some (.int .i64 (L.getD i 0)) := by
  rw [h.blk.cell, satCells, List.getElem?_append, if_pos (by simp [h.len, hi])]
  simp [List.getD_eq_getElem?_getD, h.len, hi]
theorem Sat.size {w : World} {b : Nat} {L : List Int} {size top : Int} (h : Sat w b L size top) : w.cell? ⟨b, 64, none⟩ = some (.int .i64 size) := by
  rw [h.blk.cell, satCells, List.getElem?_append, if_neg (by simp [h.len])]
  simp [h.len]
theorem Sat.top {w : World} {b : Nat} {L : List Int} {size top : Int} (h : Sat w b L size top) : w.cell? ⟨b, 65, none⟩ = some (.int .i64 top) := by
  rw [h.blk.cell, satCells, List.getElem?_append, if_neg (by simp [h.len])]
  simp [h.len]
theorem Sat.set {w : World} {b : Nat} {L : List Int} {size top : Int} (h : Sat w b L size top) (i : Nat) (hi : i < 64) (v : Int) : Sat (w.setCell ⟨b, i, none⟩ (.int .i64 v)) b (L.set i v) size top := by
  refine ⟨?_, by simp [h.len]⟩
  have := h.blk.set i (.int .i64 v)
  rwa [satCells, List.set_append_left _ _ (by simp [h.len, hi]), ← List.map_set] at this

def hasB (size i : Int) : Bool := decide (0 ≤ i ∧ i < size)
theorem hasB_yes {size i : Int} (h : 0 ≤ i ∧ i < size) : hasB size i = true := decide_eq_true h
theorem hasB_no {size i : Int} (h : ¬ (0 ≤ i ∧ i < size)) : hasB size i = false := decide_eq_false h

theorem has_nil (i : Int) (w : World) : Calls Try.prog 23 #[.pointer none, .int .i64 i] w fun e w' => e = .returned (.bool false) ∧ w = w' := by
  go_enter Try.func23, Try.ntmps23
  go_wp2
  go_ret
  exact ⟨rfl, rfl⟩
theorem has_any {w : World} {b : Nat} {L : List Int} {size top : Int} (h : Sat w b L size top) (i : Int) :
    Calls Try.prog 23 #[.pointer (some ⟨b, 0, none⟩), .int .i64 i] w fun e w' => e = .returned (.bool (hasB size i)) ∧ w = w' := by
  have c := h.size
  clear h
  by_cases h0 : 0 ≤ i
  · go_enter Try.func23, Try.ntmps23
    go_wp2
    go_ret
    exact ⟨ret_bool (by unfold hasB; exact decide_eq_decide.2 (by omega)), rfl⟩
  · rw [hasB_no (by omega)]
    go_enter Try.func23, Try.ntmps23
    go_wp2
    go_ret
    exact ⟨rfl, rfl⟩

/-- At most the top. -/
def moreI (top n k : Int) : Int := if top - n < k then top else n + k
theorem more_any {w : World} {b : Nat} {L : List Int} {size top : Int} (h : Sat w b L size top) (n k : Int) (h0 : 0 ≤ n) (h1 : n ≤ top) (h2 : top ≤ 9223372036854775807) (h3 : 0 ≤ k) (h4 : k ≤ 9223372036854775807) :
    Calls Try.prog 25 #[.pointer (some ⟨b, 0, none⟩), .int .i64 n, .int .i64 k] w fun e w' => e = .returned (.int .i64 (moreI top n k)) ∧ w = w' := by
  have c := h.top
  clear h
  unfold moreI
  by_cases hk : top - n < k
  · rw [if_pos hk]
    go_enter Try.func25, Try.ntmps25
    go_wp2
    go_ret
    exact ⟨rfl, rfl⟩
  · rw [if_neg hk]
    have h5 : k ≤ top - n := by omega
    have h6 : n + k ≤ 9223372036854775807 := by omega
    go_enter Try.func25, Try.ntmps25
    go_wp2
    go_ret
    exact ⟨rfl, rfl⟩

theorem load_any {w : World} {b i : Nat} {x : Int} (c : w.cell? ⟨b, i, none⟩ = some (.int .i64 x)) :
    Calls Try.prog 24 #[.pointer (some ⟨b, i, none⟩)] w fun e w' => e = .returned (.int .i64 x) ∧ w = w' := by
  have hl := run_call_load (P := Try.prog) Try.func28 (by kernel_rfl) (by kernel_rfl) (by kernel_rfl) .i64 (by kernel_rfl) c
  go_enter Try.func24, Try.ntmps24
  go_wp2
  go_ret
  exact ⟨rfl, rfl⟩
theorem store_any {w : World} {b i : Nat} {u : Value} (c : w.cell? ⟨b, i, none⟩ = some u) (f : w.frozen? ⟨b, i, none⟩ = false) (x : Int) :
    Calls Try.prog 26 #[.pointer (some ⟨b, i, none⟩), .int .i64 x] w fun e w' => e = .returned (.tuple #[]) ∧ w.setCell ⟨b, i, none⟩ (.int .i64 x) = w' := by
  have hl := run_call_store (P := Try.prog) Try.func29 (by kernel_rfl) (by kernel_rfl) (by kernel_rfl) (by kernel_rfl) (k := .i64) (y := x) c f
  go_enter Try.func26, Try.ntmps26
  go_wp2
  go_end0
  exact ⟨rfl, rfl⟩
theorem swap_any {w : World} {b i : Nat} {x : Int} (c : w.cell? ⟨b, i, none⟩ = some (.int .i64 x)) (f : w.frozen? ⟨b, i, none⟩ = false) (y : Int) :
    Calls Try.prog 27 #[.pointer (some ⟨b, i, none⟩), .int .i64 y] w fun e w' => e = .returned (.int .i64 x) ∧ w.setCell ⟨b, i, none⟩ (.int .i64 y) = w' := by
  have hl := run_call_swap (P := Try.prog) Try.func30 (by kernel_rfl) (by kernel_rfl) (by kernel_rfl) .i64 (by kernel_rfl) (y := y) c f
  go_enter Try.func27, Try.ntmps27
  go_wp2
  go_ret
  exact ⟨rfl, rfl⟩
end Go.Proofs.Ytofjmlnoljigfaa
