/- CellTells returns true: the walk. Conditions: the arguments fit their kinds. -/
import Derived.Test.YtbpmiamdjbebiaaLawBack
set_option linter.unusedVariables false
set_option linter.unusedSimpArgs false
namespace Go.Proofs.Ytbpmiamdjbebiaa
open Go.RowKit

theorem leaves22 : leavesAt Try.prog 9 22 = [(0, 3), (1, 3), (2, 3), (3, 3)] := by kernel_rfl
theorem cells22 : Try.prog.cellsOf 22 = 4 := by kernel_rfl
theorem list4 {α : Type} {l : List α} {a b c d : α} (h : l.length = 4) (h0 : l[0]? = some a) (h1 : l[1]? = some b) (h2 : l[2]? = some c) (h3 : l[3]? = some d) : l = [a, b, c, d] := by
  match l, h with
  | [x, y, z, u], _ => simp at h0 h1 h2 h3; rw [h0, h1, h2, h3]
theorem leaf_int {v : Value} (h : leafOk Try.prog 3 v) : ∃ n : Int, v = .int .i64 n ∧ -9223372036854775808 ≤ n ∧ n ≤ 9223372036854775807 := by
  unfold leafOk at h
  rw [Try.underlying3] at h
  obtain ⟨a, rfl, hw⟩ := h
  have := bounds_i64 hw
  exact ⟨a, rfl, this.1, this.2⟩

set_option maxHeartbeats 2000000 in
set_option maxRecDepth 100000 in
theorem cellTells_go (s : ByteArray) (n : Nat) (x0 x1 x2 x3 : Int) (w : World) (hs : s.size ≤ maxLen) (hn : n < 18446744073709551616)
    (b1 : -9223372036854775808 ≤ x1 ∧ x1 ≤ 9223372036854775807) (b2 : -9223372036854775808 ≤ x2 ∧ x2 ≤ 9223372036854775807) :
    Calls Try.prog 3 #[.string s, .agg #[.int .i64 x0, .int .i64 x1, .int .i64 x2, .int .i64 x3], .int .u64 n] w fun e w' => e = .returned (.bool true) ∧ Below w.heap.size w w' := by
  have GK := Lib.hid known_any
  have hsl := hs
  unfold maxLen at hsl
  by_cases hhi : s.size ≤ 3000
  · have hhi' : (s.size : Int) ≤ 3000 := by omega
    have g1 := fun w => get_any s x3 x0 w hs
    have g2 := fun w => rget_any s x3 x0 w hs
    have g3 := fun w => set_any s x3 x0 n w (by omega) hn
    have g4 := fun w => rset_any s x3 x0 n w (by omega) hn
    have g5 := fun w => put_any n x0 w hn
    have g6 := fun w => rput_any n x0 w hn
    have g7 := fun w => bits_any n x1 x2 w hn
    have g8 := fun w => rbits_any n x1 x2 w hn b1 b2
    generalize getN s x3 x0 = vg at *
    generalize thereB s.size x3 x0 = vt at *
    generalize setS s x3 x0 n = vs at *
    generalize putL n x0 = vp at *
    generalize bitsN n x1 x2 = vb at *
    have G1 := Lib.hid g1
    have G2 := Lib.hid g2
    have G3 := Lib.hid g3
    have G4 := Lib.hid g4
    have G5 := Lib.hid g5
    have G6 := Lib.hid g6
    have G7 := Lib.hid g7
    have G8 := Lib.hid g8
    clear g1 g2 g3 g4 g5 g6 g7 g8 hs hsl
    obtain ⟨wb, hwb⟩ : ∃ wb, wb = w.alloc (.cells #[.int .i64 x0, .int .i64 x1, .int .i64 x2, .int .i64 x3] 22) := ⟨_, rfl⟩
    have hsz : wb.heap.size = w.heap.size + 1 := by rw [hwb]; simp
    have hbw : Below w.heap.size w wb := by rw [hwb]; exact (Below.refl _ _).alloc (Nat.le_refl _) _
    have cell : ∀ W, Below (w.heap.size + 1) wb W → W.cell? ⟨w.heap.size, 0, none⟩ = some (.int .i64 x0) ∧ W.cell? ⟨w.heap.size, 1, none⟩ = some (.int .i64 x1) ∧
        W.cell? ⟨w.heap.size, 2, none⟩ = some (.int .i64 x2) ∧ W.cell? ⟨w.heap.size, 3, none⟩ = some (.int .i64 x3) := by
      intro W hW
      refine ⟨?_, ?_, ?_, ?_⟩ <;> (rw [hW.cell (by simp), hwb, World.cell?_alloc_at _ _ _ _ rfl]; rfl)
    have CELL := Lib.hid cell
    have HWB := Lib.hid hwb
    have HBW := Lib.hid hbw
    have HSZ := Lib.hid hsz
    clear cell hbw hsz
    go_enter Try.func3, Try.ntmps3
    go_wp2_with (fail)
    refine (G1.out _).mono ?_
    rintro e w1 ⟨rfl, rfl⟩
    go_wp2_with (fail)
    refine (G2.out _).mono ?_
    rintro e w1 ⟨rfl, rfl⟩
    go_wp2_with (fail)
    refine (G3.out _).mono ?_
    rintro e w3 ⟨rfl, b⟩
    have B3 := Lib.hid (show Below (w.heap.size + 1) wb w3 by rw [HWB.out]; simpa using b); clear b
    obtain ⟨c0, c1, c2, c3⟩ := CELL.out _ B3.out
    go_wp2_with (fail)
    refine (G4.out _).mono ?_
    rintro e w4 ⟨rfl, b⟩
    have B4 := Lib.hid (B3.out.trans (b.mono (by rw [← HSZ.out]; exact B3.out.size))); clear b B3 c0 c1 c2 c3
    go_wp2_with (fail)
    obtain ⟨X, hne, F, hX, hF⟩ := family (fun W => Below (w.heap.size + 1) wb W) w4 B4.out
    have f0 : ∀ x, (F x).cell? ⟨w.heap.size, 0, none⟩ = some (.int .i64 x0) := fun x => (CELL.out _ (hX x)).1
    have f1 : ∀ x, (F x).cell? ⟨w.heap.size, 1, none⟩ = some (.int .i64 x1) := fun x => (CELL.out _ (hX x)).2.1
    have f2 : ∀ x, (F x).cell? ⟨w.heap.size, 2, none⟩ = some (.int .i64 x2) := fun x => (CELL.out _ (hX x)).2.2.1
    have HX := Lib.hid hX
    clear hX
    refine wp_region_fam F (by kernel_rfl) (by kernel_rfl) (hF _ B4.out.drew) ?_
    have HF := Lib.hid hF
    clear hF
    repeat (go_big_quiet_step (first
      | (go_at_call 13; exact (G5.out _).mono fun e w' ⟨he, hb⟩ => ⟨he, HF.out _ (((HX.out _)).trans (hb.mono (by rw [← HSZ.out]; exact (HX.out _).size)))⟩)
      | (go_at_call 14; exact (G6.out _).mono fun e w' ⟨he, hb⟩ => ⟨he, HF.out _ (((HX.out _)).trans (hb.mono (by rw [← HSZ.out]; exact (HX.out _).size)))⟩)
      | (go_at_call 15; exact (G7.out _).mono fun e w' ⟨he, hb⟩ => ⟨he, HF.out _ (hb ▸ HX.out _)⟩)
      | (go_at_call 16; exact (G8.out _).mono fun e w' ⟨he, hb⟩ => ⟨he, HF.out _ (hb ▸ HX.out _)⟩)
      | (go_at_call 8; exact (GK.out _).mono fun e w' ⟨he, hb⟩ => ⟨he, HF.out _ (((HX.out _)).trans (hb.mono (by rw [← HSZ.out]; exact (HX.out _).size)))⟩)))
    refine wpQuiet_nil ?_
    intro x
    have hb := Lib.hid ((HBW.out.trans ((HX.out x).mono (Nat.le_succ _))))
    go_wp2
    go_ret
    exact ⟨rfl, hb.out⟩
  · have h2 : ¬ ((s.size : Int) ≤ 3000) := by omega
    have B0 := Lib.hid ((Below.refl w.heap.size w).alloc (Nat.le_refl _) (.cells #[.int .i64 x0, .int .i64 x1, .int .i64 x2, .int .i64 x3] 22))
    go_enter Try.func3, Try.ntmps3
    go_wp2_with (fail)
    refine (GK.out _).mono ?_
    rintro e w8 ⟨rfl, b⟩
    have B1 := Lib.hid (B0.out.trans (b.mono B0.out.size)); clear b
    go_wp2_with (fail)
    go_ret
    exact ⟨rfl, B1.out⟩

theorem cellTells_walk (a0 : ByteArray) (w0 : a0.size ≤ maxLen) (cs : Array Value) (hcs : cs.size = Try.prog.cellsOf 22)
    (h : ∀ o ty, (o, ty) ∈ leavesAt Try.prog 9 22 → ∃ v, cs.toList[o]? = some v ∧ leafOk Try.prog ty v) (a2 : Int) (w2 : (Lit.int .u64 a2).wf = true) (w : World) :
    Calls Try.prog 3 #[.string a0, .agg cs, .int .u64 a2] w fun e w' => e = .returned (.bool true) ∧ Below w.heap.size w w' := by
  obtain ⟨n, rfl, hn⟩ := u64_nat w2
  rw [leaves22] at h
  obtain ⟨v0, e0, k0⟩ := h 0 3 (by simp)
  obtain ⟨v1, e1, k1⟩ := h 1 3 (by simp)
  obtain ⟨v2, e2, k2⟩ := h 2 3 (by simp)
  obtain ⟨v3, e3, k3⟩ := h 3 3 (by simp)
  obtain ⟨x0, rfl, hx0⟩ := leaf_int k0
  obtain ⟨x1, rfl, hx1⟩ := leaf_int k1
  obtain ⟨x2, rfl, hx2⟩ := leaf_int k2
  obtain ⟨x3, rfl, hx3⟩ := leaf_int k3
  obtain ⟨cs⟩ := cs
  have e := list4 (by rw [cells22] at hcs; simpa using hcs) e0 e1 e2 e3
  subst e
  exact cellTells_go a0 n x0 x1 x2 x3 w w0 hn hx1 hx2
end Go.Proofs.Ytbpmiamdjbebiaa
