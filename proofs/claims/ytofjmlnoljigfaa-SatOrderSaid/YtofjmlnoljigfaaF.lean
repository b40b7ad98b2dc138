/- What the reference's Row answers, and Ints. Conditions: the receiver is a row that stands there. -/
import Derived.Test.YtofjmlnoljigfaaE
import Derived.Deep.Light
set_option linter.unusedVariables false
set_option linter.unusedSimpArgs false
namespace Go.Proofs.Ytofjmlnoljigfaa
open Go.RowKit

theorem wp_region_tail {P : Program} {id : Nat} {Q : Exit → Act → World → Prop} {a : Act} {w : World} {l : List Oper} (n : Nat) (hm : P.follows .mixedOrders = true) (hB : Region.lexTailB .any l.toArray n = true)
    (h : wpStill P l.toArray w.drew (fun a' => wpList P l.toArray Q (l.drop n) a' w.drew) (l.take n) a) : (Code.region id l.toArray true).wp P Q a w :=
  wp_region_still_tail n hm hB h

/-- The reference's row: its struct in block q, its numbers in block r. -/
structure Ref (w : World) (q r : Nat) (V : List Int) (top : Int) : Prop where
  blk : Blk w q [.slice (some ⟨r, 0, none⟩) V.length V.length, .int .i64 top] 38
  row : Blk w r (ints V) 3
  ne : q ≠ r
theorem Ref.keep {S : Nat → Prop} {w w' : World} {q r : Nat} {V : List Int} {top : Int} (h : Ref w q r V top) (t : Touch S w w') (h1 : ¬ S q) (h2 : ¬ S r) : Ref w' q r V top := ⟨h.blk.keep t h1, h.row.keep t h2, h.ne⟩
theorem Ref.c0 {w : World} {q r : Nat} {V : List Int} {top : Int} (h : Ref w q r V top) : w.cell? ⟨q, 0, none⟩ = some (.slice (some ⟨r, 0, none⟩) V.length V.length) := by rw [h.blk.cell]; rfl
theorem Ref.c1 {w : World} {q r : Nat} {V : List Int} {top : Int} (h : Ref w q r V top) : w.cell? ⟨q, 1, none⟩ = some (.int .i64 top) := by rw [h.blk.cell]; rfl
theorem Ref.at {w : World} {q r : Nat} {V : List Int} {top : Int} (h : Ref w q r V top) (i : Nat) (hi : i < V.length) : w.cell? ⟨r, i, none⟩ = some (.int .i64 (V.getD i 0)) := by
  rw [h.row.cell]; simp [ints, List.getD_eq_getElem?_getD, hi]
theorem Ref.set {w : World} {q r : Nat} {V : List Int} {top : Int} (h : Ref w q r V top) (i : Nat) (v : Int) : Ref (w.setCell ⟨r, i, none⟩ (.int .i64 v)) q r (V.set i v) top := by
  refine ⟨?_, ?_, h.ne⟩
  · rw [List.length_set]; exact h.blk.keep (Touch.setCell w r i _) h.ne
  · have := h.row.set i (.int .i64 v)
    unfold ints at *
    rwa [← List.map_set] at this

def addR (V : List Int) (top i n : Int) : List Int := if 0 ≤ i ∧ i < V.length ∧ 0 < n then V.set i.toNat (moreI top (V.getD i.toNat 0) n) else V
def atR (V : List Int) (i : Int) : Int := if 0 ≤ i ∧ i < V.length then V.getD i.toNat 0 else 0

theorem rat_any {w : World} {q r : Nat} {V : List Int} {top : Int} (h : Ref w q r V top) (hl : V.length ≤ 64) (i : Int) :
    Calls Try.prog 20 #[.pointer (some ⟨q, 0, none⟩), .int .i64 i] w fun e w' => e = .returned (.int .i64 (atR V i)) ∧ w = w' := by
  have c0 := h.c0
  by_cases hi : 0 ≤ i ∧ i < V.length
  · obtain ⟨j, rfl⟩ := Int.eq_ofNat_of_zero_le hi.1
    have cj := h.at j (by omega)
    have hv : atR V j = V.getD j 0 := by unfold atR; rw [if_pos hi]; rfl
    rw [hv]
    clear h hv
    generalize V.getD j 0 = x at *
    have hj : (j : Int) < V.length := hi.2
    clear hi
    go_enter Try.func20, Try.ntmps20
    go_wp2
    go_ret
    exact ⟨rfl, rfl⟩
  · have hv : atR V i = 0 := by unfold atR; rw [if_neg hi]
    rw [hv]
    clear h hv
    by_cases h0 : 0 ≤ i
    · have h1 : (V.length : Int) ≤ i := by omega
      clear hi
      go_enter Try.func20, Try.ntmps20
      go_wp2
      go_ret
      exact ⟨rfl, rfl⟩
    · clear hi
      go_enter Try.func20, Try.ntmps20
      go_wp2
      go_ret
      exact ⟨rfl, rfl⟩

set_option maxRecDepth 100000 in
set_option maxHeartbeats 1000000 in
theorem radd_any {w : World} {q r : Nat} {V : List Int} {top : Int} (h : Ref w q r V top) (hl : V.length ≤ 64) (hc : ∀ i, 0 ≤ V.getD i 0 ∧ V.getD i 0 ≤ top) (ht : top ≤ 9223372036854775807) (i n : Int) (hn : n ≤ 9223372036854775807) :
    Calls Try.prog 11 #[.pointer (some ⟨q, 0, none⟩), .int .i64 i, .int .i64 n] w fun e w' => e = .returned (.int .i64 (atR (addR V top i n) i)) ∧ Ref w' q r (addR V top i n) top ∧ Touch (· = r) w w' := by
  have c0 := h.c0
  have c1 := h.c1
  by_cases hi : 0 ≤ i ∧ i < V.length
  · obtain ⟨j, rfl⟩ := Int.eq_ofNat_of_zero_le hi.1
    have hj : (j : Int) < V.length := hi.2
    have cj := h.at j (by omega)
    have hcj := hc j
    by_cases hp : 1 ≤ n
    · have ha : addR V top j n = V.set j (moreI top (V.getD j 0) n) := by unfold addR; rw [if_pos ⟨by omega, hi.2, by omega⟩]; rfl
      have hv : atR (V.set j (moreI top (V.getD j 0) n)) j = moreI top (V.getD j 0) n := by
        unfold atR; rw [if_pos (by simpa using hi), Int.toNat_natCast, getD_set, if_pos ⟨rfl, by omega⟩]
      rw [ha, hv]
      have hset := Lib.hid (h.set j (moreI top (V.getD j 0) n))
      have fr := h.row.frozen j
      have cs : (w.setCell ⟨r, j, none⟩ (.int .i64 (moreI top (V.getD j 0) n))).cell? ⟨r, j, none⟩ = some (.int .i64 (moreI top (V.getD j 0) n)) := World.cell?_setCell_same w _ _ cj
      have cq : (w.setCell ⟨r, j, none⟩ (.int .i64 (moreI top (V.getD j 0) n))).cell? ⟨q, 0, none⟩ = some (.slice (some ⟨r, 0, none⟩) V.length V.length) := by
        rw [(Touch.setCell w r j _).cell h.blk.lt h.ne]; exact h.c0
      have hne := h.ne
      have HX := Lib.hid (show moreI top (V.getD j 0) n = if top - V.getD j 0 < n then top else V.getD j 0 + n from rfl)
      clear h ha hv hc hi
      generalize V.getD j 0 = x at *
      by_cases hk : top - x < n
      · have hm : moreI top x n = top := by rw [HX.out, if_pos hk]
        rw [hm] at *
        clear hm
        go_enter Try.func11, Try.ntmps11
        go_wp2_with (fail)
        go_quiet (fail)
        go_wp2_with (fail)
        refine wp_region_tail 10 (by kernel_rfl) (by kernel_rfl) ?_
        simp only [List.take_succ_cons, List.take_zero, List.drop_succ_cons, List.drop_zero]
        repeat still_step
        refine wpStill_nil ?_
        go_wp2_with (fail)
        go_ret
        have hs := hset.out
        rw [HX.out, if_pos hk] at hs
        exact ⟨rfl, ⟨hs.blk, hs.row, hs.ne⟩, ((Touch.refl (· = r) w).drewN (nq + 1)).trans (Touch.setCell _ r j _) (fun _ _ x => x)⟩
      · have hm : moreI top x n = x + n := by rw [HX.out, if_neg hk]
        rw [hm] at *
        clear hm
        go_enter Try.func11, Try.ntmps11
        go_wp2_with (fail)
        go_quiet (fail)
        go_wp2_with (fail)
        refine wp_region_tail 15 (by kernel_rfl) (by kernel_rfl) ?_
        simp only [List.take_succ_cons, List.take_zero, List.drop_succ_cons, List.drop_zero]
        repeat still_step
        refine wpStill_nil ?_
        go_wp2_with (fail)
        go_ret
        have hs := hset.out
        rw [HX.out, if_neg (by omega)] at hs
        exact ⟨rfl, ⟨hs.blk, hs.row, hs.ne⟩, ((Touch.refl (· = r) w).drewN (nq + 1)).trans (Touch.setCell _ r j _) (fun _ _ x => x)⟩
    · have ha : addR V top j n = V := by unfold addR; rw [if_neg (fun x => hp (by omega))]
      have hv : atR V j = V.getD j 0 := by unfold atR; rw [if_pos hi]; rfl
      rw [ha, hv]
      have HR := Lib.hid h
      clear h ha hv hc hi
      generalize V.getD j 0 = x at *
      have hp2 : n < 1 := by omega
      go_enter Try.func11, Try.ntmps11
      go_wp2_with (fail)
      go_ret
      exact ⟨rfl, HR.out, Touch.refl _ _⟩
  · have ha : addR V top i n = V := by unfold addR; rw [if_neg (fun x => hi ⟨x.1, x.2.1⟩)]
    have hv : atR V i = 0 := by unfold atR; rw [if_neg hi]
    rw [ha, hv]
    have HR := Lib.hid h
    clear h ha hv hc
    by_cases h0 : 0 ≤ i
    · have h1 : (V.length : Int) ≤ i := by omega
      clear hi
      go_enter Try.func11, Try.ntmps11
      go_wp2_with (fail)
      go_ret
      exact ⟨rfl, HR.out, Touch.refl _ _⟩
    · clear hi
      go_enter Try.func11, Try.ntmps11
      go_wp2_with (fail)
      go_ret
      exact ⟨rfl, HR.out, Touch.refl _ _⟩

theorem nth_get (l : List Int) (i : Nat) : l[i]? = if i < l.length then some (l.getD i 0) else none := by
  split
  · rename_i h; rw [List.getD_eq_getElem?_getD, List.getElem?_eq_getElem h]; rfl
  · rename_i h; simp at h; simp [h]
end Go.Proofs.Ytofjmlnoljigfaa
