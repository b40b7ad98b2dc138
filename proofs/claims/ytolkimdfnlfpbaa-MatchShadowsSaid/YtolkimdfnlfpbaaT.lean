/- Rows of numbers; what Ints answers. Conditions: the rows stand there. -/
import Derived.Test.YtolkimdfnlfpbaaS
import Derived.Deep.Light
set_option linter.unusedVariables false
set_option linter.unusedSimpArgs false
namespace Go.Proofs.Ytolkimdfnlfpbaa
open Go.RowKit

theorem one_cell (w : World) (e : TypeId) (v : Value) :
    ∀ (j : Nat) (u : Value), [v][j]? = some u → (w.alloc (.cells #[v] e)).cell? ((⟨w.heap.size, 0, none⟩ : Addr).add j) = some u := by
  intro j u hu
  have : (⟨w.heap.size, 0, none⟩ : Addr).add j = ⟨w.heap.size, j, none⟩ := by unfold Addr.add; split <;> simp_all
  rw [this, World.cell?_alloc_at _ _ _ _ rfl]
  simpa using hu
def ints (l : List Int) : List Value := l.map (.int .i64)
theorem ints_one (l : List Int) : ∀ u ∈ ints l, u.oneCell' = true := by
  intro u hu
  obtain ⟨b, _, rfl⟩ := List.mem_map.1 hu
  rfl
theorem info3 : (Try.prog.info? 3).map (fun i => (i.zero, i.size, i.bytes)) = some (some (.int .i64 0), 1, 8) := by kernel_rfl
theorem take_one {α : Type} (l : List α) (k : Nat) (d : α) (h : k < l.length) : l.take (k + 1) = l.take k ++ [l.getD k d] := by
  rw [List.take_succ_eq_append_getElem h]
  simp [List.getD_eq_getElem?_getD, h]
/-- An owned row of numbers, opened. -/
theorem own_open {w : World} {B : Nat} {v : Value} {l : List Int} (h : w.ownsRow B 3 1 v l.length (ints l)) :
    (v = .slice none 0 0 ∧ l = []) ∨ ∃ g cap, v = .slice (some ⟨g, 0, none⟩) l.length cap ∧ B ≤ g ∧ g < w.heap.size ∧ l.length ≤ cap ∧ cap ≤ maxLen ∧
      (∀ j, j < l.length → w.cell? ⟨g, j, none⟩ = some (.int .i64 (l.getD j 0))) ∧ ∀ j, w.frozen? ⟨g, j, none⟩ = false := by
  rcases h.2 with ⟨rfl, h0⟩ | ⟨g, cap, cur, rfl, hB, hg, hn, hm, hcs, ht⟩
  · exact .inl ⟨rfl, List.eq_nil_of_length_eq_zero h0⟩
  · refine .inr ⟨g, cap, rfl, hB, (Array.getElem?_eq_some_iff.1 hg).1, hn, hm, fun j hj => ?_, fun j => ?_⟩
    · have := h.cells (g := g) rfl j (.int .i64 (l.getD j 0)) (by simp [ints, List.getD_eq_getElem?_getD, hj])
      have ha : (⟨g, 0, none⟩ : Addr).add j = ⟨g, j, none⟩ := by unfold Addr.add; split <;> simp_all
      rwa [ha] at this
    · simp [World.frozen?, hg]

theorem own_keep {S : Nat → Prop} {w w' : World} {B : Nat} {v : Value} {l : List Int} (h : w.ownsRow B 3 1 v l.length (ints l)) (t : Touch S w w') (hs : ∀ g, B ≤ g → g < w.heap.size → ¬ S g) : w'.ownsRow B 3 1 v l.length (ints l) := by
  refine ⟨h.1, ?_⟩
  rcases h.2 with h | ⟨g, cap, cur, hv, hB, hg, hn, hm, hcs, ht⟩
  · exact .inl h
  · have hlt := (Array.getElem?_eq_some_iff.1 hg).1
    exact .inr ⟨g, cap, cur, hv, hB, (t.block g hlt (hs g hB hlt)).trans hg, hn, hm, hcs, ht⟩

/-- A slice that reads as l. -/
def SL (w : World) (v : Value) (l : List Int) : Prop :=
  (v = .slice none 0 0 ∧ l = []) ∨ ∃ g cap, v = .slice (some ⟨g, 0, none⟩) l.length cap ∧ ∀ j, j < l.length → w.cell? ⟨g, j, none⟩ = some (.int .i64 (l.getD j 0))
theorem SL.of_own {w : World} {B : Nat} {v : Value} {l : List Int} (h : w.ownsRow B 3 1 v l.length (ints l)) : SL w v l := by
  rcases own_open h with h | ⟨g, cap, h, _, _, _, _, hc, _⟩
  · exact .inl h
  · exact .inr ⟨g, cap, h, hc⟩
theorem SL.of_blk {w : World} {r : Nat} {l : List Int} (h : Blk w r (ints l) 3) : SL w (.slice (some ⟨r, 0, none⟩) l.length l.length) l := by
  refine .inr ⟨r, l.length, rfl, fun j hj => ?_⟩
  rw [h.cell]; simp [ints, List.getD_eq_getElem?_getD, hj]

theorem ints_nil (w : World) : Calls Try.prog 20 #[.slice none 0 0, .slice none 0 0] w fun e w' => e = .returned (.bool true) ∧ w = w' := by
  go_enter Try.func20, Try.ntmps20
  go_wp2_with (fail)
  refine wp_loop_once ?_
  go_wp2_with (fail)
  go_ret
  exact ⟨rfl, rfl⟩

set_option maxRecDepth 100000 in
theorem ints_any {w : World} {u v : Value} {l : List Int} (hu : SL w u l) (hv : SL w v l) (hl : l.length ≤ 64) :
    Calls Try.prog 20 #[u, v] w fun e w' => e = .returned (.bool true) ∧ ∃ n, w' = w.drewN n := by
  by_cases h0 : l = []
  · subst h0
    rcases hu with ⟨rfl, _⟩ | ⟨g, cap, rfl, _⟩ <;> rcases hv with ⟨rfl, _⟩ | ⟨g', cap', rfl, _⟩
    all_goals
      try simp only [List.length_nil]
      clear hl
      go_enter Try.func20, Try.ntmps20
      go_wp2_with (fail)
      refine wp_loop_once ?_
      go_wp2_with (fail)
      go_ret
      exact ⟨rfl, 0, rfl⟩
  · rcases hu with ⟨_, h⟩ | ⟨g, cap, rfl, hc⟩
    · exact absurd h h0
    rcases hv with ⟨_, h⟩ | ⟨g', cap', rfl, hc'⟩
    · exact absurd h h0
    have HC := Lib.hid hc
    have HC' := Lib.hid hc'
    clear hc hc' h0
    go_enter Try.func20, Try.ntmps20
    go_wp2_with (fail)
    go_loopw [5] (fun i wr => ∃ k n : Nat, k ≤ l.length ∧ i = .int .i64 k ∧ wr = w.drewN n) (fun i _ => l.length - (intOf i).toNat)
    case atStart => exact ⟨0, 0, Nat.zero_le _, rfl, rfl⟩
    case round =>
      obtain ⟨k, n, hk, rfl, rfl⟩ := hrel
      by_cases hlt : k < l.length
      · have c := HC.out k hlt
        have c' := HC'.out k hlt
        generalize l.getD k 0 = x at *
        have hki : (k : Int) < l.length := by omega
        go_wp2_with (fail)
        go_quiet (fail)
        go_wp2_with (fail)
        go_light
        go_roundw
        case rel => exact ⟨k + 1, n + nq, by omega, by go_num, rfl⟩
        case measure => simp [intOf]; omega
      · obtain rfl : k = l.length := by omega
        go_wp2_with (fail)
        go_ret
        exact ⟨rfl, _, rfl⟩

end Go.Proofs.Ytolkimdfnlfpbaa
