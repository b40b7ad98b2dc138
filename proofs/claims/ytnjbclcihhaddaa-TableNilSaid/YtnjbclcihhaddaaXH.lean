/- Put that lays anew; New; what a table that is not there answers. Conditions: as each states. -/
import Derived.Test.YtnjbclcihhaddaaXG
set_option linter.unusedVariables false
set_option linter.unusedSimpArgs false
namespace Go.Proofs.Ytnjbclcihhaddaa
open Go.RowKit Go.Op
set_option maxRecDepth 100000 in
set_option maxHeartbeats 4000000 in
theorem put_new0r (m g : Nat) (sl : List Sl) (N M c sp : Nat) (w : World) (hM : Blk w m [(.slice (some ⟨g, 0, none⟩) N N : Value), .int .i64 (M : Int), .int .i64 (c : Int), .int .i64 (sp : Int)] 95) (hG : Blk w g (rowC sl) 135) (hmg : m ≠ g) (p : Pr) (hN : 1 ≤ N) (hNN : N ≤ 10000) (hsl : sl.length = N) (hMp : 1 ≤ M) (hMM : M ≤ 4096) (hl : p.lb.size ≤ 100) (hh : p.hb.size ≤ 100) (i : Nat) (hi : i < N) (hf : findP (hashF N) sl N p = (-1, (i : Int))) (s : Sl) (hs : sl[i]? = some s) (x : Int) (hcM : c < M) (hsp : sp ≤ 10000) (L2 : PL) (hT2 : TOk (hashF N) (sl.set i ⟨1, p, x⟩) N L2) (hsh2 : ∀ (k : Nat) s, (sl.set i ⟨1, p, x⟩)[k]? = some s → s.st = 1 → s.p.lb.size ≤ 100 ∧ s.p.hb.size ≤ 100) (hs0 : s.st = 0) (hrb : 3 * M / 2 < sp + 1) : Calls Try.prog 36 #[(.pointer (some ⟨m, 0, none⟩) : Value), .agg #[(.string p.lb : Value), .int .i64 p.lp, .string p.hb, .int .i64 p.hp], .int .i64 x] w fun e w' => e = .returned (.int .i64 0) ∧ ∃ g2 acc, Blk w' m [(.slice (some ⟨g2, 0, none⟩) N N : Value), .int .i64 (M : Int), .int .i64 ((c + 1 : Nat) : Int), .int .i64 ((c + 1 : Nat) : Int)] 95 ∧ Blk w' g2 (rowC acc) 135 ∧ w.heap.size ≤ g2 ∧ Touch (fun b => b = m ∨ b = g) w w' ∧ Relaid (hashF N) (sl.set i ⟨1, p, x⟩) N N acc := by
  have hT0 := Touch.refl (fun b => b = m ∨ b = g) w
  go_enter Try.func36, Try.ntmps36
  refine wp_seq_k fun K1 hK1 => ?_
  refine wl_region ?_
  refine dw_new (by kernel_rfl) [(.string p.lb : Value), .int .i64 p.lp, .string p.hb, .int .i64 p.hp] 61 (by kernel_rfl) ?_
  intro n1 w2 hnn1 hsn1 hBn1 hTn1
  have hnemn1 : m ≠ n1 := by have := hM.lt; omega
  have hnegn1 : g ≠ n1 := by have := hG.lt; omega
  have hgen1 : w.heap.size ≤ n1 := by have := hT0.size; omega
  replace hM := hM.keep hTn1 (fun h => h)
  replace hG := hG.keep hTn1 (fun h => h)
  replace hT0 := hT0.trans hTn1 (fun _ _ h => h.elim)
  simp only [Act.put, List.setIfInBounds_toArray, List.set_cons_zero, List.set_cons_succ]
  refine dw_val (by kernel_rfl) (.int .i64 0) (by kernel_rfl) ?_
  simp only [Act.put, List.setIfInBounds_toArray, List.set_cons_zero, List.set_cons_succ]
  refine wl_nil ?_
  refine hK1 _ _ ?_
  refine wp_seq_k fun K2 hK2 => ?_
  refine wp_seq_k fun K3 hK3 => ?_
  refine wl_region ?_
  refine dw_val (by kernel_rfl) (.pointer (some ⟨m, 0, none⟩)) (by kernel_rfl) ?_
  simp only [Act.put, List.setIfInBounds_toArray, List.set_cons_zero, List.set_cons_succ]
  refine dw_ret (by kernel_rfl) 78 #[(.pointer (some ⟨m, 0, none⟩) : Value)] (by kernel_rfl) (there_yes m g N _ _ _ w2 hM (by omega)) ?_
  intro w3 hb
  have ht4 : Touch (fun _ => False) w2 w3 := Touch.none hb
  replace hM := hM.keep ht4 (fun h => h)
  replace hG := hG.keep ht4 (fun h => h)
  replace hBn1 := hBn1.keep ht4 (fun h => h)
  replace hT0 := hT0.trans ht4 (fun _ _ h => h.elim)
  clear hb
  simp only [Act.put, List.setIfInBounds_toArray, List.set_cons_zero, List.set_cons_succ]
  refine dw_val (by kernel_rfl) (.bool false) (by kernel_rfl) ?_
  simp only [Act.put, List.setIfInBounds_toArray, List.set_cons_zero, List.set_cons_succ]
  refine wl_nil ?_
  refine hK3 _ _ ?_
  refine wp_cond_false rfl ?_
  refine wp_skip ?_
  refine hK2 _ _ ?_
  refine wp_seq_k fun K4 hK4 => ?_
  refine wl_region ?_
  refine dw_val (by kernel_rfl) (.pointer (some ⟨m, 0, none⟩)) (by kernel_rfl) ?_
  simp only [Act.put, List.setIfInBounds_toArray, List.set_cons_zero, List.set_cons_succ]
  refine dw_row (by kernel_rfl) 61 (.tmp 4) rfl n1 0 rfl _ _ hBn1 [(.string p.lb : Value), .int .i64 p.lp, .string p.hb, .int .i64 p.hp] rfl _ Try.underlying61 rfl (by kernel_rfl) ?_
  simp only [Act.put, List.setIfInBounds_toArray, List.set_cons_zero, List.set_cons_succ]
  refine dw_ret (by kernel_rfl) 79 #[(.pointer (some ⟨m, 0, none⟩) : Value), .agg #[(.string p.lb : Value), .int .i64 p.lp, .string p.hb, .int .i64 p.hp]] (by kernel_rfl) (find_as m g sl N M c sp w3 hM hG hmg p _ _ hf hN hNN hsl hl hh) ?_
  intro w5 hb
  have ht6 : Touch (fun _ => False) w3 w5 := Touch.none hb
  replace hM := hM.keep ht6 (fun h => h)
  replace hG := hG.keep ht6 (fun h => h)
  replace hBn1 := hBn1.keep ht6 (fun h => h)
  replace hT0 := hT0.trans ht6 (fun _ _ h => h.elim)
  clear hb
  simp only [Act.put, List.setIfInBounds_toArray, List.set_cons_zero, List.set_cons_succ]
  refine dw_val (by kernel_rfl) (.tuple #[(.int .i64 (-1) : Value), .int .i64 (i : Int)]) (by kernel_rfl) ?_
  simp only [Act.put, List.setIfInBounds_toArray, List.set_cons_zero, List.set_cons_succ]
  refine dw_val (by kernel_rfl) (.int .i64 (-1)) (by kernel_rfl) ?_
  simp only [Act.put, List.setIfInBounds_toArray, List.set_cons_zero, List.set_cons_succ]
  refine dw_val (by kernel_rfl) (.int .i64 (i : Int)) (by kernel_rfl) ?_
  simp only [Act.put, List.setIfInBounds_toArray, List.set_cons_zero, List.set_cons_succ]
  refine dw_val (by kernel_rfl) (.int .i64 (-1)) (by kernel_rfl) ?_
  simp only [Act.put, List.setIfInBounds_toArray, List.set_cons_zero, List.set_cons_succ]
  refine dw_val (by kernel_rfl) (.int .i64 (i : Int)) (by kernel_rfl) ?_
  simp only [Act.put, List.setIfInBounds_toArray, List.set_cons_zero, List.set_cons_succ]
  refine wl_nil ?_
  refine hK4 _ _ ?_
  refine wp_seq_k fun K5 hK5 => ?_
  refine wp_block ?_
  refine wp_seq_k fun K6 hK6 => ?_
  refine wl_region ?_
  refine dw_val (by kernel_rfl) (.int .i64 (-1)) (by kernel_rfl) ?_
  simp only [Act.put, List.setIfInBounds_toArray, List.set_cons_zero, List.set_cons_succ]
  refine dw_val (by kernel_rfl) (.bool false) (by kernel_rfl) ?_
  simp only [Act.put, List.setIfInBounds_toArray, List.set_cons_zero, List.set_cons_succ]
  refine dw_val (by kernel_rfl) (.bool false) (by kernel_rfl) ?_
  simp only [Act.put, List.setIfInBounds_toArray, List.set_cons_zero, List.set_cons_succ]
  refine wl_nil ?_
  refine hK6 _ _ ?_
  refine wp_cond_false rfl ?_
  refine wp_seq_k fun K7 hK7 => ?_
  refine wq_region (Touch (fun _ => False) w5) (by kernel_rfl) (by kernel_rfl) (Touch.refl _ _).drew ?_
  refine dq_val (by kernel_rfl) (.pointer (some ⟨m, 0, none⟩)) (fun w' _ => by kernel_rfl) ?_
  simp only [Act.put, List.setIfInBounds_toArray, List.set_cons_zero, List.set_cons_succ]
  refine dq_val (by kernel_rfl) (.pointer (some ⟨m, 0, none⟩)) (fun w' _ => by kernel_rfl) ?_
  simp only [Act.put, List.setIfInBounds_toArray, List.set_cons_zero, List.set_cons_succ]
  refine dq_val (by kernel_rfl) (.pointer (some ⟨m, 2, none⟩)) (fun w' _ => by kernel_rfl) ?_
  simp only [Act.put, List.setIfInBounds_toArray, List.set_cons_zero, List.set_cons_succ]
  refine dq_val (by kernel_rfl) (.int .i64 (c : Int)) (fun w' hC => ev_cell 3 (.tmp 32) rfl m 2 rfl _ (((hM.keep hC (fun h => h)).cell 2).trans rfl) _ Try.underlying3 rfl) ?_
  simp only [Act.put, List.setIfInBounds_toArray, List.set_cons_zero, List.set_cons_succ]
  refine dq_val (by kernel_rfl) (.pointer (some ⟨m, 0, none⟩)) (fun w' _ => by kernel_rfl) ?_
  simp only [Act.put, List.setIfInBounds_toArray, List.set_cons_zero, List.set_cons_succ]
  refine dq_val (by kernel_rfl) (.pointer (some ⟨m, 0, none⟩)) (fun w' _ => by kernel_rfl) ?_
  simp only [Act.put, List.setIfInBounds_toArray, List.set_cons_zero, List.set_cons_succ]
  refine dq_val (by kernel_rfl) (.pointer (some ⟨m, 1, none⟩)) (fun w' _ => by kernel_rfl) ?_
  simp only [Act.put, List.setIfInBounds_toArray, List.set_cons_zero, List.set_cons_succ]
  refine dq_val (by kernel_rfl) (.int .i64 (M : Int)) (fun w' hC => ev_cell 3 (.tmp 36) rfl m 1 rfl _ (((hM.keep hC (fun h => h)).cell 1).trans rfl) _ Try.underlying3 rfl) ?_
  simp only [Act.put, List.setIfInBounds_toArray, List.set_cons_zero, List.set_cons_succ]
  refine dq_bool (by kernel_rfl) ((c : Int) == (M : Int)) (fun w' _ => by kernel_rfl) (fun hc => absurd hc (by simp; omega)) (fun hc => ?_)
  simp only [Act.put, List.setIfInBounds_toArray, List.set_cons_zero, List.set_cons_succ]
  refine dq_val (by kernel_rfl) (.bool false) (fun w' _ => by kernel_rfl) ?_
  simp only [Act.put, List.setIfInBounds_toArray, List.set_cons_zero, List.set_cons_succ]
  refine wq_nil ?_
  intro w7 hT8
  replace hM := hM.keep hT8 (fun h => h)
  replace hG := hG.keep hT8 (fun h => h)
  replace hBn1 := hBn1.keep hT8 (fun h => h)
  replace hT0 := hT0.trans hT8 (fun _ _ h => h.elim)
  refine hK7 _ _ ?_
  refine wp_cond_false rfl ?_
  refine wp_skip ?_
  refine hK5 _ _ ?_
  refine wp_seq_k fun K8 hK8 => ?_
  refine wp_seq_k fun K9 hK9 => ?_
  refine wl_region ?_
  refine dw_val (by kernel_rfl) (.pointer (some ⟨m, 0, none⟩)) (by kernel_rfl) ?_
  simp only [Act.put, List.setIfInBounds_toArray, List.set_cons_zero, List.set_cons_succ]
  refine dw_val (by kernel_rfl) (.pointer (some ⟨m, 0, none⟩)) (by kernel_rfl) ?_
  simp only [Act.put, List.setIfInBounds_toArray, List.set_cons_zero, List.set_cons_succ]
  refine dw_val (by kernel_rfl) (.pointer (some ⟨m, 0, none⟩)) (by kernel_rfl) ?_
  simp only [Act.put, List.setIfInBounds_toArray, List.set_cons_zero, List.set_cons_succ]
  refine dw_cell (by kernel_rfl) 93 (.tmp 41) rfl m 0 rfl _ _ hM (.slice (some ⟨g, 0, none⟩) N N) rfl _ Try.underlying93 rfl ?_
  simp only [Act.put, List.setIfInBounds_toArray, List.set_cons_zero, List.set_cons_succ]
  refine dw_val (by kernel_rfl) (.int .i64 (i : Int)) (by kernel_rfl) ?_
  simp only [Act.put, List.setIfInBounds_toArray, List.set_cons_zero, List.set_cons_succ]
  refine dw_val (by kernel_rfl) (.pointer (some ⟨g, i * 6, none⟩)) (ev_index 93 135 (.tmp 42) (.tmp 43) rfl g 0 N N i 6 .i64 rfl rfl (by omega) Try.underlying93 (by kernel_rfl) (i * 6) (by omega)) ?_
  simp only [Act.put, List.setIfInBounds_toArray, List.set_cons_zero, List.set_cons_succ]
  refine dw_val (by kernel_rfl) (.pointer (some ⟨g, i * 6, none⟩)) (by kernel_rfl) ?_
  simp only [Act.put, List.setIfInBounds_toArray, List.set_cons_zero, List.set_cons_succ]
  refine dw_val (by kernel_rfl) (.int .i64 s.st) (ev_cell 3 (.tmp 45) rfl g (i * 6) rfl _ (slot_cell hG hs 0 _ rfl) _ Try.underlying3 rfl) ?_
  simp only [Act.put, List.setIfInBounds_toArray, List.set_cons_zero, List.set_cons_succ]
  refine dw_bool (by kernel_rfl) (s.st == 0) (by kernel_rfl) (fun hc => ?_) (fun hc => absurd hc (by simp [hs0]))
  simp only [Act.put, List.setIfInBounds_toArray, List.set_cons_zero, List.set_cons_succ]
  refine wl_nil ?_
  refine hK9 _ _ ?_
  refine wp_cond_true rfl ?_
  refine wl_region ?_
  refine dw_val (by kernel_rfl) (.pointer (some ⟨m, 0, none⟩)) (by kernel_rfl) ?_
  simp only [Act.put, List.setIfInBounds_toArray, List.set_cons_zero, List.set_cons_succ]
  refine dw_val (by kernel_rfl) (.pointer (some ⟨m, 0, none⟩)) (by kernel_rfl) ?_
  simp only [Act.put, List.setIfInBounds_toArray, List.set_cons_zero, List.set_cons_succ]
  refine dw_val (by kernel_rfl) (.pointer (some ⟨m, 3, none⟩)) (by kernel_rfl) ?_
  simp only [Act.put, List.setIfInBounds_toArray, List.set_cons_zero, List.set_cons_succ]
  refine dw_cell (by kernel_rfl) 3 (.tmp 50) rfl m 3 rfl _ _ hM (.int .i64 (sp : Int)) rfl _ Try.underlying3 rfl ?_
  simp only [Act.put, List.setIfInBounds_toArray, List.set_cons_zero, List.set_cons_succ]
  refine dw_val2 (by kernel_rfl) (.int .i64 (IntKind.i64.wrap ((sp : Int) + 1))) (.int .i64 ((sp + 1 : Nat) : Int)) (by kernel_rfl) (by rw [show IntKind.i64.wrap ((sp : Int) + 1) = ((sp + 1 : Nat) : Int) from by rw [IntWalk.i64_in _ (by omega)]; omega]) ?_
  simp only [Act.put, List.setIfInBounds_toArray, List.set_cons_zero, List.set_cons_succ]
  refine dw_val (by kernel_rfl) (.pointer (some ⟨m, 0, none⟩)) (by kernel_rfl) ?_
  simp only [Act.put, List.setIfInBounds_toArray, List.set_cons_zero, List.set_cons_succ]
  refine dw_val (by kernel_rfl) (.pointer (some ⟨m, 3, none⟩)) (by kernel_rfl) ?_
  simp only [Act.put, List.setIfInBounds_toArray, List.set_cons_zero, List.set_cons_succ]
  refine dw_put (by kernel_rfl) 3 (.tmp 54) (.tmp 52) rfl m 3 rfl (.int .i64 ((sp + 1 : Nat) : Int)) rfl _ _ hM [(.int .i64 ((sp + 1 : Nat) : Int) : Value)] rfl (Nat.le_of_ble_eq_true rfl) (by kernel_rfl) (by kernel_rfl) [(.slice (some ⟨g, 0, none⟩) N N : Value), .int .i64 (M : Int), .int .i64 (c : Int), .int .i64 ((sp + 1 : Nat) : Int)] rfl ?_
  intro w9 hBw9_ hTw9 hSw9
  replace hG := hG.keep hTw9 (by intro h; omega)
  replace hBn1 := hBn1.keep hTw9 (by intro h; omega)
  replace hT0 := hT0.trans hTw9 (fun i hi h => by first | omega | (subst h; omega) | exact h | exact .inl h | exact .inr h)
  clear hM
  have hM := hBw9_
  clear hBw9_
  simp only [Act.put]
  refine wl_nil ?_
  refine hK8 _ _ ?_
  refine wp_seq_k fun K10 hK10 => ?_
  refine ws_region 9 (by kernel_rfl) (by kernel_rfl) (fun w10 hT11 _ => ?_)
  replace hM := hM.keep hT11 (fun h => h)
  replace hG := hG.keep hT11 (fun h => h)
  replace hBn1 := hBn1.keep hT11 (fun h => h)
  replace hT0 := hT0.trans hT11 (fun _ _ h => h.elim)
  simp only [List.take_succ_cons, List.take_zero, List.drop_succ_cons, List.drop_zero]
  refine ds_val (by kernel_rfl) (.pointer (some ⟨m, 0, none⟩)) (by kernel_rfl) ?_
  simp only [Act.put, List.setIfInBounds_toArray, List.set_cons_zero, List.set_cons_succ]
  refine ds_val (by kernel_rfl) (.pointer (some ⟨m, 0, none⟩)) (by kernel_rfl) ?_
  simp only [Act.put, List.setIfInBounds_toArray, List.set_cons_zero, List.set_cons_succ]
  refine ds_val (by kernel_rfl) (.pointer (some ⟨m, 0, none⟩)) (by kernel_rfl) ?_
  simp only [Act.put, List.setIfInBounds_toArray, List.set_cons_zero, List.set_cons_succ]
  refine ds_val (by kernel_rfl) (.slice (some ⟨g, 0, none⟩) N N) (ev_cell 93 (.tmp 57) rfl m 0 rfl _ ((hM.cell 0).trans rfl) _ Try.underlying93 rfl) ?_
  simp only [Act.put, List.setIfInBounds_toArray, List.set_cons_zero, List.set_cons_succ]
  refine ds_val (by kernel_rfl) (.int .i64 (i : Int)) (by kernel_rfl) ?_
  simp only [Act.put, List.setIfInBounds_toArray, List.set_cons_zero, List.set_cons_succ]
  refine ds_val (by kernel_rfl) (.agg #[(.string p.lb : Value), .int .i64 p.lp, .string p.hb, .int .i64 p.hp]) (ev_row 61 (.tmp 4) rfl n1 0 rfl [(.string p.lb : Value), .int .i64 p.lp, .string p.hb, .int .i64 p.hp] (hBn1.range rfl) _ Try.underlying61 rfl (by kernel_rfl)) ?_
  simp only [Act.put, List.setIfInBounds_toArray, List.set_cons_zero, List.set_cons_succ]
  refine ds_val (by kernel_rfl) (.int .i64 x) (by kernel_rfl) ?_
  simp only [Act.put, List.setIfInBounds_toArray, List.set_cons_zero, List.set_cons_succ]
  refine ds_val (by kernel_rfl) (.agg #[(.int .i64 1 : Value), .string p.lb, .int .i64 p.lp, .string p.hb, .int .i64 p.hp, .int .i64 x]) (by kernel_rfl) ?_
  simp only [Act.put, List.setIfInBounds_toArray, List.set_cons_zero, List.set_cons_succ]
  refine ds_val (by kernel_rfl) (.pointer (some ⟨g, i * 6, none⟩)) (ev_index 93 135 (.tmp 58) (.tmp 59) rfl g 0 N N i 6 .i64 rfl rfl (by omega) Try.underlying93 (by kernel_rfl) (i * 6) (by omega)) ?_
  simp only [Act.put, List.setIfInBounds_toArray, List.set_cons_zero, List.set_cons_succ]
  refine ws_nil ?_
  refine dw_put (by kernel_rfl) 135 (.tmp 63) (.tmp 62) rfl g (i * 6) rfl (.agg #[(.int .i64 1 : Value), .string p.lb, .int .i64 p.lp, .string p.hb, .int .i64 p.hp, .int .i64 x]) rfl _ _ hG [(.int .i64 1 : Value), .string p.lb, .int .i64 p.lp, .string p.hb, .int .i64 p.hp, .int .i64 x] rfl (slot_room hs 0 6 (Nat.le_of_ble_eq_true rfl)) (by kernel_rfl) (by kernel_rfl) _ (row_set hs 0 [(.int .i64 1 : Value), .string p.lb, .int .i64 p.lp, .string p.hb, .int .i64 p.hp, .int .i64 x] (Nat.le_of_ble_eq_true rfl) ⟨1, p, x⟩ rfl) ?_
  intro w12 hBw12_ hTw12 hSw12
  replace hM := hM.keep hTw12 (by intro h; omega)
  replace hBn1 := hBn1.keep hTw12 (by intro h; omega)
  replace hT0 := hT0.trans hTw12 (fun i hi h => by first | omega | (subst h; omega) | exact h | exact .inl h | exact .inr h)
  clear hG
  have hG := hBw12_
  clear hBw12_
  simp only [Act.put]
  refine wl_nil ?_
  refine hK10 _ _ ?_
  refine wp_seq_k fun K11 hK11 => ?_
  refine wl_region ?_
  refine dw_val (by kernel_rfl) (.pointer (some ⟨m, 0, none⟩)) (by kernel_rfl) ?_
  simp only [Act.put, List.setIfInBounds_toArray, List.set_cons_zero, List.set_cons_succ]
  refine dw_val (by kernel_rfl) (.pointer (some ⟨m, 0, none⟩)) (by kernel_rfl) ?_
  simp only [Act.put, List.setIfInBounds_toArray, List.set_cons_zero, List.set_cons_succ]
  refine dw_val (by kernel_rfl) (.pointer (some ⟨m, 2, none⟩)) (by kernel_rfl) ?_
  simp only [Act.put, List.setIfInBounds_toArray, List.set_cons_zero, List.set_cons_succ]
  refine dw_cell (by kernel_rfl) 3 (.tmp 66) rfl m 2 rfl _ _ hM (.int .i64 (c : Int)) rfl _ Try.underlying3 rfl ?_
  simp only [Act.put, List.setIfInBounds_toArray, List.set_cons_zero, List.set_cons_succ]
  refine dw_val2 (by kernel_rfl) (.int .i64 (IntKind.i64.wrap ((c : Int) + 1))) (.int .i64 ((c + 1 : Nat) : Int)) (by kernel_rfl) (by rw [show IntKind.i64.wrap ((c : Int) + 1) = ((c + 1 : Nat) : Int) from by rw [IntWalk.i64_in _ (by omega)]; omega]) ?_
  simp only [Act.put, List.setIfInBounds_toArray, List.set_cons_zero, List.set_cons_succ]
  refine dw_val (by kernel_rfl) (.pointer (some ⟨m, 0, none⟩)) (by kernel_rfl) ?_
  simp only [Act.put, List.setIfInBounds_toArray, List.set_cons_zero, List.set_cons_succ]
  refine dw_val (by kernel_rfl) (.pointer (some ⟨m, 2, none⟩)) (by kernel_rfl) ?_
  simp only [Act.put, List.setIfInBounds_toArray, List.set_cons_zero, List.set_cons_succ]
  refine dw_put (by kernel_rfl) 3 (.tmp 70) (.tmp 68) rfl m 2 rfl (.int .i64 ((c + 1 : Nat) : Int)) rfl _ _ hM [(.int .i64 ((c + 1 : Nat) : Int) : Value)] rfl (Nat.le_of_ble_eq_true rfl) (by kernel_rfl) (by kernel_rfl) [(.slice (some ⟨g, 0, none⟩) N N : Value), .int .i64 (M : Int), .int .i64 ((c + 1 : Nat) : Int), .int .i64 ((sp + 1 : Nat) : Int)] rfl ?_
  intro w13 hBw13_ hTw13 hSw13
  replace hG := hG.keep hTw13 (by intro h; omega)
  replace hBn1 := hBn1.keep hTw13 (by intro h; omega)
  replace hT0 := hT0.trans hTw13 (fun i hi h => by first | omega | (subst h; omega) | exact h | exact .inl h | exact .inr h)
  clear hM
  have hM := hBw13_
  clear hBw13_
  simp only [Act.put]
  refine wl_nil ?_
  refine hK11 _ _ ?_
  refine wp_seq_k fun K12 hK12 => ?_
  refine wp_seq_k fun K13 hK13 => ?_
  refine wq_region (Touch (fun _ => False) w13) (by kernel_rfl) (by kernel_rfl) (Touch.refl _ _).drew ?_
  refine dq_val (by kernel_rfl) (.pointer (some ⟨m, 0, none⟩)) (fun w' _ => by kernel_rfl) ?_
  simp only [Act.put, List.setIfInBounds_toArray, List.set_cons_zero, List.set_cons_succ]
  refine dq_val (by kernel_rfl) (.pointer (some ⟨m, 0, none⟩)) (fun w' _ => by kernel_rfl) ?_
  simp only [Act.put, List.setIfInBounds_toArray, List.set_cons_zero, List.set_cons_succ]
  refine dq_val (by kernel_rfl) (.pointer (some ⟨m, 3, none⟩)) (fun w' _ => by kernel_rfl) ?_
  simp only [Act.put, List.setIfInBounds_toArray, List.set_cons_zero, List.set_cons_succ]
  refine dq_val (by kernel_rfl) (.int .i64 ((sp + 1 : Nat) : Int)) (fun w' hC => ev_cell 3 (.tmp 73) rfl m 3 rfl _ (((hM.keep hC (fun h => h)).cell 3).trans rfl) _ Try.underlying3 rfl) ?_
  simp only [Act.put, List.setIfInBounds_toArray, List.set_cons_zero, List.set_cons_succ]
  refine dq_val (by kernel_rfl) (.pointer (some ⟨m, 0, none⟩)) (fun w' _ => by kernel_rfl) ?_
  simp only [Act.put, List.setIfInBounds_toArray, List.set_cons_zero, List.set_cons_succ]
  refine dq_val (by kernel_rfl) (.pointer (some ⟨m, 0, none⟩)) (fun w' _ => by kernel_rfl) ?_
  simp only [Act.put, List.setIfInBounds_toArray, List.set_cons_zero, List.set_cons_succ]
  refine dq_val (by kernel_rfl) (.pointer (some ⟨m, 1, none⟩)) (fun w' _ => by kernel_rfl) ?_
  simp only [Act.put, List.setIfInBounds_toArray, List.set_cons_zero, List.set_cons_succ]
  refine dq_val (by kernel_rfl) (.int .i64 (M : Int)) (fun w' hC => ev_cell 3 (.tmp 77) rfl m 1 rfl _ (((hM.keep hC (fun h => h)).cell 1).trans rfl) _ Try.underlying3 rfl) ?_
  simp only [Act.put, List.setIfInBounds_toArray, List.set_cons_zero, List.set_cons_succ]
  refine dq_val (by kernel_rfl) (.int .i64 ((3 * M : Nat) : Int)) (fun w' _ => (show _ = Result.ok (.value (.int .i64 (IntKind.i64.wrap (3 * (M : Int))))) w' from by kernel_rfl).trans (by rw [show IntKind.i64.wrap (3 * (M : Int)) = ((3 * M : Nat) : Int) from by rw [IntWalk.i64_in _ (by omega)]; omega])) ?_
  simp only [Act.put, List.setIfInBounds_toArray, List.set_cons_zero, List.set_cons_succ]
  refine dq_val (by kernel_rfl) (.int .i64 ((3 * M / 2 : Nat) : Int)) (fun w' _ => (show _ = Result.ok (.value (.int .i64 (IntKind.i64.wrap (Int.tdiv ((3 * M : Nat) : Int) 2)))) w' from by kernel_rfl).trans (by rw [show IntKind.i64.wrap (Int.tdiv ((3 * M : Nat) : Int) 2) = ((3 * M / 2 : Nat) : Int) from by rw [show Int.tdiv ((3 * M : Nat) : Int) 2 = ((3 * M / 2 : Nat) : Int) from rfl, IntWalk.i64_in _ (by omega)]])) ?_
  simp only [Act.put, List.setIfInBounds_toArray, List.set_cons_zero, List.set_cons_succ]
  refine dq_bool (by kernel_rfl) (decide (((3 * M / 2 : Nat) : Int) < ((sp + 1 : Nat) : Int))) (fun w' _ => by kernel_rfl) (fun hc => ?_) (fun hc => absurd hc (by simp; omega))
  simp only [Act.put, List.setIfInBounds_toArray, List.set_cons_zero, List.set_cons_succ]
  refine wq_nil ?_
  intro w14 hT15
  replace hM := hM.keep hT15 (fun h => h)
  replace hG := hG.keep hT15 (fun h => h)
  replace hBn1 := hBn1.keep hT15 (fun h => h)
  replace hT0 := hT0.trans hT15 (fun _ _ h => h.elim)
  refine hK13 _ _ ?_
  refine wp_cond_true rfl ?_
  refine wl_region ?_
  refine dw_val (by kernel_rfl) (.pointer (some ⟨m, 0, none⟩)) (by kernel_rfl) ?_
  simp only [Act.put, List.setIfInBounds_toArray, List.set_cons_zero, List.set_cons_succ]
  have hsz0 := hT0.size
  refine dw_ret (by kernel_rfl) 80 #[(.pointer (some ⟨m, 0, none⟩) : Value)] (by kernel_rfl) (rebuild_any m g (sl.set i ⟨1, p, x⟩) N M (c + 1) (sp + 1) w14 hM hG hmg L2 hT2 hN hNN (by rw [List.length_set]; exact hsl) hsh2) ?_
  intro w16 hb
  obtain ⟨g2, acc, hM2, hG2, hg2, hT2_, hR2⟩ := hb
  have ht17 : Touch (fun b => b = m) w14 w16 := hT2_
  clear hM
  clear hG
  replace hBn1 := hBn1.keep ht17 (by intro h; omega)
  replace hT0 := hT0.trans ht17 (fun i hi h => by first | omega | (subst h; omega) | exact h | exact .inl h | exact .inr h)
  simp only [Act.put, List.setIfInBounds_toArray, List.set_cons_zero, List.set_cons_succ]
  refine wl_nil ?_
  refine hK12 _ _ ?_
  refine wp_seq_k fun K14 hK14 => ?_
  refine wl_region ?_
  refine dw_val (by kernel_rfl) (.int .i64 0) (by kernel_rfl) ?_
  simp only [Act.put, List.setIfInBounds_toArray, List.set_cons_zero, List.set_cons_succ]
  refine wl_nil ?_
  refine hK14 _ _ ?_
  refine wp_ret ?_
  repeat (first | with_reducible refine ret_then ?_ | with_reducible refine ret_block ?_)
  refine bodyPost_ret (v := .int .i64 0) (by kernel_rfl) rfl ?_
  exact ⟨rfl, g2, acc, hM2, hG2, by omega, hT0, hR2⟩
set_option maxRecDepth 100000 in
set_option maxHeartbeats 4000000 in
theorem put_new2r (m g : Nat) (sl : List Sl) (N M c sp : Nat) (w : World) (hM : Blk w m [(.slice (some ⟨g, 0, none⟩) N N : Value), .int .i64 (M : Int), .int .i64 (c : Int), .int .i64 (sp : Int)] 95) (hG : Blk w g (rowC sl) 135) (hmg : m ≠ g) (p : Pr) (hN : 1 ≤ N) (hNN : N ≤ 10000) (hsl : sl.length = N) (hMp : 1 ≤ M) (hMM : M ≤ 4096) (hl : p.lb.size ≤ 100) (hh : p.hb.size ≤ 100) (i : Nat) (hi : i < N) (hf : findP (hashF N) sl N p = (-1, (i : Int))) (s : Sl) (hs : sl[i]? = some s) (x : Int) (hcM : c < M) (hsp : sp ≤ 10000) (L2 : PL) (hT2 : TOk (hashF N) (sl.set i ⟨1, p, x⟩) N L2) (hsh2 : ∀ (k : Nat) s, (sl.set i ⟨1, p, x⟩)[k]? = some s → s.st = 1 → s.p.lb.size ≤ 100 ∧ s.p.hb.size ≤ 100) (hs0 : s.st = 2) (hrb : 3 * M / 2 < sp) : Calls Try.prog 36 #[(.pointer (some ⟨m, 0, none⟩) : Value), .agg #[(.string p.lb : Value), .int .i64 p.lp, .string p.hb, .int .i64 p.hp], .int .i64 x] w fun e w' => e = .returned (.int .i64 0) ∧ ∃ g2 acc, Blk w' m [(.slice (some ⟨g2, 0, none⟩) N N : Value), .int .i64 (M : Int), .int .i64 ((c + 1 : Nat) : Int), .int .i64 ((c + 1 : Nat) : Int)] 95 ∧ Blk w' g2 (rowC acc) 135 ∧ w.heap.size ≤ g2 ∧ Touch (fun b => b = m ∨ b = g) w w' ∧ Relaid (hashF N) (sl.set i ⟨1, p, x⟩) N N acc := by
  have hT0 := Touch.refl (fun b => b = m ∨ b = g) w
  go_enter Try.func36, Try.ntmps36
  refine wp_seq_k fun K1 hK1 => ?_
  refine wl_region ?_
  refine dw_new (by kernel_rfl) [(.string p.lb : Value), .int .i64 p.lp, .string p.hb, .int .i64 p.hp] 61 (by kernel_rfl) ?_
  intro n1 w2 hnn1 hsn1 hBn1 hTn1
  have hnemn1 : m ≠ n1 := by have := hM.lt; omega
  have hnegn1 : g ≠ n1 := by have := hG.lt; omega
  have hgen1 : w.heap.size ≤ n1 := by have := hT0.size; omega
  replace hM := hM.keep hTn1 (fun h => h)
  replace hG := hG.keep hTn1 (fun h => h)
  replace hT0 := hT0.trans hTn1 (fun _ _ h => h.elim)
  simp only [Act.put, List.setIfInBounds_toArray, List.set_cons_zero, List.set_cons_succ]
  refine dw_val (by kernel_rfl) (.int .i64 0) (by kernel_rfl) ?_
  simp only [Act.put, List.setIfInBounds_toArray, List.set_cons_zero, List.set_cons_succ]
  refine wl_nil ?_
  refine hK1 _ _ ?_
  refine wp_seq_k fun K2 hK2 => ?_
  refine wp_seq_k fun K3 hK3 => ?_
  refine wl_region ?_
  refine dw_val (by kernel_rfl) (.pointer (some ⟨m, 0, none⟩)) (by kernel_rfl) ?_
  simp only [Act.put, List.setIfInBounds_toArray, List.set_cons_zero, List.set_cons_succ]
  refine dw_ret (by kernel_rfl) 78 #[(.pointer (some ⟨m, 0, none⟩) : Value)] (by kernel_rfl) (there_yes m g N _ _ _ w2 hM (by omega)) ?_
  intro w3 hb
  have ht4 : Touch (fun _ => False) w2 w3 := Touch.none hb
  replace hM := hM.keep ht4 (fun h => h)
  replace hG := hG.keep ht4 (fun h => h)
  replace hBn1 := hBn1.keep ht4 (fun h => h)
  replace hT0 := hT0.trans ht4 (fun _ _ h => h.elim)
  clear hb
  simp only [Act.put, List.setIfInBounds_toArray, List.set_cons_zero, List.set_cons_succ]
  refine dw_val (by kernel_rfl) (.bool false) (by kernel_rfl) ?_
  simp only [Act.put, List.setIfInBounds_toArray, List.set_cons_zero, List.set_cons_succ]
  refine wl_nil ?_
  refine hK3 _ _ ?_
  refine wp_cond_false rfl ?_
  refine wp_skip ?_
  refine hK2 _ _ ?_
  refine wp_seq_k fun K4 hK4 => ?_
  refine wl_region ?_
  refine dw_val (by kernel_rfl) (.pointer (some ⟨m, 0, none⟩)) (by kernel_rfl) ?_
  simp only [Act.put, List.setIfInBounds_toArray, List.set_cons_zero, List.set_cons_succ]
  refine dw_row (by kernel_rfl) 61 (.tmp 4) rfl n1 0 rfl _ _ hBn1 [(.string p.lb : Value), .int .i64 p.lp, .string p.hb, .int .i64 p.hp] rfl _ Try.underlying61 rfl (by kernel_rfl) ?_
  simp only [Act.put, List.setIfInBounds_toArray, List.set_cons_zero, List.set_cons_succ]
  refine dw_ret (by kernel_rfl) 79 #[(.pointer (some ⟨m, 0, none⟩) : Value), .agg #[(.string p.lb : Value), .int .i64 p.lp, .string p.hb, .int .i64 p.hp]] (by kernel_rfl) (find_as m g sl N M c sp w3 hM hG hmg p _ _ hf hN hNN hsl hl hh) ?_
  intro w5 hb
  have ht6 : Touch (fun _ => False) w3 w5 := Touch.none hb
  replace hM := hM.keep ht6 (fun h => h)
  replace hG := hG.keep ht6 (fun h => h)
  replace hBn1 := hBn1.keep ht6 (fun h => h)
  replace hT0 := hT0.trans ht6 (fun _ _ h => h.elim)
  clear hb
  simp only [Act.put, List.setIfInBounds_toArray, List.set_cons_zero, List.set_cons_succ]
  refine dw_val (by kernel_rfl) (.tuple #[(.int .i64 (-1) : Value), .int .i64 (i : Int)]) (by kernel_rfl) ?_
  simp only [Act.put, List.setIfInBounds_toArray, List.set_cons_zero, List.set_cons_succ]
  refine dw_val (by kernel_rfl) (.int .i64 (-1)) (by kernel_rfl) ?_
  simp only [Act.put, List.setIfInBounds_toArray, List.set_cons_zero, List.set_cons_succ]
  refine dw_val (by kernel_rfl) (.int .i64 (i : Int)) (by kernel_rfl) ?_
  simp only [Act.put, List.setIfInBounds_toArray, List.set_cons_zero, List.set_cons_succ]
  refine dw_val (by kernel_rfl) (.int .i64 (-1)) (by kernel_rfl) ?_
  simp only [Act.put, List.setIfInBounds_toArray, List.set_cons_zero, List.set_cons_succ]
  refine dw_val (by kernel_rfl) (.int .i64 (i : Int)) (by kernel_rfl) ?_
  simp only [Act.put, List.setIfInBounds_toArray, List.set_cons_zero, List.set_cons_succ]
  refine wl_nil ?_
  refine hK4 _ _ ?_
  refine wp_seq_k fun K5 hK5 => ?_
  refine wp_block ?_
  refine wp_seq_k fun K6 hK6 => ?_
  refine wl_region ?_
  refine dw_val (by kernel_rfl) (.int .i64 (-1)) (by kernel_rfl) ?_
  simp only [Act.put, List.setIfInBounds_toArray, List.set_cons_zero, List.set_cons_succ]
  refine dw_val (by kernel_rfl) (.bool false) (by kernel_rfl) ?_
  simp only [Act.put, List.setIfInBounds_toArray, List.set_cons_zero, List.set_cons_succ]
  refine dw_val (by kernel_rfl) (.bool false) (by kernel_rfl) ?_
  simp only [Act.put, List.setIfInBounds_toArray, List.set_cons_zero, List.set_cons_succ]
  refine wl_nil ?_
  refine hK6 _ _ ?_
  refine wp_cond_false rfl ?_
  refine wp_seq_k fun K7 hK7 => ?_
  refine wq_region (Touch (fun _ => False) w5) (by kernel_rfl) (by kernel_rfl) (Touch.refl _ _).drew ?_
  refine dq_val (by kernel_rfl) (.pointer (some ⟨m, 0, none⟩)) (fun w' _ => by kernel_rfl) ?_
  simp only [Act.put, List.setIfInBounds_toArray, List.set_cons_zero, List.set_cons_succ]
  refine dq_val (by kernel_rfl) (.pointer (some ⟨m, 0, none⟩)) (fun w' _ => by kernel_rfl) ?_
  simp only [Act.put, List.setIfInBounds_toArray, List.set_cons_zero, List.set_cons_succ]
  refine dq_val (by kernel_rfl) (.pointer (some ⟨m, 2, none⟩)) (fun w' _ => by kernel_rfl) ?_
  simp only [Act.put, List.setIfInBounds_toArray, List.set_cons_zero, List.set_cons_succ]
  refine dq_val (by kernel_rfl) (.int .i64 (c : Int)) (fun w' hC => ev_cell 3 (.tmp 32) rfl m 2 rfl _ (((hM.keep hC (fun h => h)).cell 2).trans rfl) _ Try.underlying3 rfl) ?_
  simp only [Act.put, List.setIfInBounds_toArray, List.set_cons_zero, List.set_cons_succ]
  refine dq_val (by kernel_rfl) (.pointer (some ⟨m, 0, none⟩)) (fun w' _ => by kernel_rfl) ?_
  simp only [Act.put, List.setIfInBounds_toArray, List.set_cons_zero, List.set_cons_succ]
  refine dq_val (by kernel_rfl) (.pointer (some ⟨m, 0, none⟩)) (fun w' _ => by kernel_rfl) ?_
  simp only [Act.put, List.setIfInBounds_toArray, List.set_cons_zero, List.set_cons_succ]
  refine dq_val (by kernel_rfl) (.pointer (some ⟨m, 1, none⟩)) (fun w' _ => by kernel_rfl) ?_
  simp only [Act.put, List.setIfInBounds_toArray, List.set_cons_zero, List.set_cons_succ]
  refine dq_val (by kernel_rfl) (.int .i64 (M : Int)) (fun w' hC => ev_cell 3 (.tmp 36) rfl m 1 rfl _ (((hM.keep hC (fun h => h)).cell 1).trans rfl) _ Try.underlying3 rfl) ?_
  simp only [Act.put, List.setIfInBounds_toArray, List.set_cons_zero, List.set_cons_succ]
  refine dq_bool (by kernel_rfl) ((c : Int) == (M : Int)) (fun w' _ => by kernel_rfl) (fun hc => absurd hc (by simp; omega)) (fun hc => ?_)
  simp only [Act.put, List.setIfInBounds_toArray, List.set_cons_zero, List.set_cons_succ]
  refine dq_val (by kernel_rfl) (.bool false) (fun w' _ => by kernel_rfl) ?_
  simp only [Act.put, List.setIfInBounds_toArray, List.set_cons_zero, List.set_cons_succ]
  refine wq_nil ?_
  intro w7 hT8
  replace hM := hM.keep hT8 (fun h => h)
  replace hG := hG.keep hT8 (fun h => h)
  replace hBn1 := hBn1.keep hT8 (fun h => h)
  replace hT0 := hT0.trans hT8 (fun _ _ h => h.elim)
  refine hK7 _ _ ?_
  refine wp_cond_false rfl ?_
  refine wp_skip ?_
  refine hK5 _ _ ?_
  refine wp_seq_k fun K8 hK8 => ?_
  refine wp_seq_k fun K9 hK9 => ?_
  refine wl_region ?_
  refine dw_val (by kernel_rfl) (.pointer (some ⟨m, 0, none⟩)) (by kernel_rfl) ?_
  simp only [Act.put, List.setIfInBounds_toArray, List.set_cons_zero, List.set_cons_succ]
  refine dw_val (by kernel_rfl) (.pointer (some ⟨m, 0, none⟩)) (by kernel_rfl) ?_
  simp only [Act.put, List.setIfInBounds_toArray, List.set_cons_zero, List.set_cons_succ]
  refine dw_val (by kernel_rfl) (.pointer (some ⟨m, 0, none⟩)) (by kernel_rfl) ?_
  simp only [Act.put, List.setIfInBounds_toArray, List.set_cons_zero, List.set_cons_succ]
  refine dw_cell (by kernel_rfl) 93 (.tmp 41) rfl m 0 rfl _ _ hM (.slice (some ⟨g, 0, none⟩) N N) rfl _ Try.underlying93 rfl ?_
  simp only [Act.put, List.setIfInBounds_toArray, List.set_cons_zero, List.set_cons_succ]
  refine dw_val (by kernel_rfl) (.int .i64 (i : Int)) (by kernel_rfl) ?_
  simp only [Act.put, List.setIfInBounds_toArray, List.set_cons_zero, List.set_cons_succ]
  refine dw_val (by kernel_rfl) (.pointer (some ⟨g, i * 6, none⟩)) (ev_index 93 135 (.tmp 42) (.tmp 43) rfl g 0 N N i 6 .i64 rfl rfl (by omega) Try.underlying93 (by kernel_rfl) (i * 6) (by omega)) ?_
  simp only [Act.put, List.setIfInBounds_toArray, List.set_cons_zero, List.set_cons_succ]
  refine dw_val (by kernel_rfl) (.pointer (some ⟨g, i * 6, none⟩)) (by kernel_rfl) ?_
  simp only [Act.put, List.setIfInBounds_toArray, List.set_cons_zero, List.set_cons_succ]
  refine dw_val (by kernel_rfl) (.int .i64 s.st) (ev_cell 3 (.tmp 45) rfl g (i * 6) rfl _ (slot_cell hG hs 0 _ rfl) _ Try.underlying3 rfl) ?_
  simp only [Act.put, List.setIfInBounds_toArray, List.set_cons_zero, List.set_cons_succ]
  refine dw_bool (by kernel_rfl) (s.st == 0) (by kernel_rfl) (fun hc => absurd hc (by simp [hs0])) (fun hc => ?_)
  simp only [Act.put, List.setIfInBounds_toArray, List.set_cons_zero, List.set_cons_succ]
  refine wl_nil ?_
  refine hK9 _ _ ?_
  refine wp_cond_false rfl ?_
  refine wp_skip ?_
  refine hK8 _ _ ?_
  refine wp_seq_k fun K10 hK10 => ?_
  refine ws_region 9 (by kernel_rfl) (by kernel_rfl) (fun w9 hT10 _ => ?_)
  replace hM := hM.keep hT10 (fun h => h)
  replace hG := hG.keep hT10 (fun h => h)
  replace hBn1 := hBn1.keep hT10 (fun h => h)
  replace hT0 := hT0.trans hT10 (fun _ _ h => h.elim)
  simp only [List.take_succ_cons, List.take_zero, List.drop_succ_cons, List.drop_zero]
  refine ds_val (by kernel_rfl) (.pointer (some ⟨m, 0, none⟩)) (by kernel_rfl) ?_
  simp only [Act.put, List.setIfInBounds_toArray, List.set_cons_zero, List.set_cons_succ]
  refine ds_val (by kernel_rfl) (.pointer (some ⟨m, 0, none⟩)) (by kernel_rfl) ?_
  simp only [Act.put, List.setIfInBounds_toArray, List.set_cons_zero, List.set_cons_succ]
  refine ds_val (by kernel_rfl) (.pointer (some ⟨m, 0, none⟩)) (by kernel_rfl) ?_
  simp only [Act.put, List.setIfInBounds_toArray, List.set_cons_zero, List.set_cons_succ]
  refine ds_val (by kernel_rfl) (.slice (some ⟨g, 0, none⟩) N N) (ev_cell 93 (.tmp 57) rfl m 0 rfl _ ((hM.cell 0).trans rfl) _ Try.underlying93 rfl) ?_
  simp only [Act.put, List.setIfInBounds_toArray, List.set_cons_zero, List.set_cons_succ]
  refine ds_val (by kernel_rfl) (.int .i64 (i : Int)) (by kernel_rfl) ?_
  simp only [Act.put, List.setIfInBounds_toArray, List.set_cons_zero, List.set_cons_succ]
  refine ds_val (by kernel_rfl) (.agg #[(.string p.lb : Value), .int .i64 p.lp, .string p.hb, .int .i64 p.hp]) (ev_row 61 (.tmp 4) rfl n1 0 rfl [(.string p.lb : Value), .int .i64 p.lp, .string p.hb, .int .i64 p.hp] (hBn1.range rfl) _ Try.underlying61 rfl (by kernel_rfl)) ?_
  simp only [Act.put, List.setIfInBounds_toArray, List.set_cons_zero, List.set_cons_succ]
  refine ds_val (by kernel_rfl) (.int .i64 x) (by kernel_rfl) ?_
  simp only [Act.put, List.setIfInBounds_toArray, List.set_cons_zero, List.set_cons_succ]
  refine ds_val (by kernel_rfl) (.agg #[(.int .i64 1 : Value), .string p.lb, .int .i64 p.lp, .string p.hb, .int .i64 p.hp, .int .i64 x]) (by kernel_rfl) ?_
  simp only [Act.put, List.setIfInBounds_toArray, List.set_cons_zero, List.set_cons_succ]
  refine ds_val (by kernel_rfl) (.pointer (some ⟨g, i * 6, none⟩)) (ev_index 93 135 (.tmp 58) (.tmp 59) rfl g 0 N N i 6 .i64 rfl rfl (by omega) Try.underlying93 (by kernel_rfl) (i * 6) (by omega)) ?_
  simp only [Act.put, List.setIfInBounds_toArray, List.set_cons_zero, List.set_cons_succ]
  refine ws_nil ?_
  refine dw_put (by kernel_rfl) 135 (.tmp 63) (.tmp 62) rfl g (i * 6) rfl (.agg #[(.int .i64 1 : Value), .string p.lb, .int .i64 p.lp, .string p.hb, .int .i64 p.hp, .int .i64 x]) rfl _ _ hG [(.int .i64 1 : Value), .string p.lb, .int .i64 p.lp, .string p.hb, .int .i64 p.hp, .int .i64 x] rfl (slot_room hs 0 6 (Nat.le_of_ble_eq_true rfl)) (by kernel_rfl) (by kernel_rfl) _ (row_set hs 0 [(.int .i64 1 : Value), .string p.lb, .int .i64 p.lp, .string p.hb, .int .i64 p.hp, .int .i64 x] (Nat.le_of_ble_eq_true rfl) ⟨1, p, x⟩ rfl) ?_
  intro w11 hBw11_ hTw11 hSw11
  replace hM := hM.keep hTw11 (by intro h; omega)
  replace hBn1 := hBn1.keep hTw11 (by intro h; omega)
  replace hT0 := hT0.trans hTw11 (fun i hi h => by first | omega | (subst h; omega) | exact h | exact .inl h | exact .inr h)
  clear hG
  have hG := hBw11_
  clear hBw11_
  simp only [Act.put]
  refine wl_nil ?_
  refine hK10 _ _ ?_
  refine wp_seq_k fun K11 hK11 => ?_
  refine wl_region ?_
  refine dw_val (by kernel_rfl) (.pointer (some ⟨m, 0, none⟩)) (by kernel_rfl) ?_
  simp only [Act.put, List.setIfInBounds_toArray, List.set_cons_zero, List.set_cons_succ]
  refine dw_val (by kernel_rfl) (.pointer (some ⟨m, 0, none⟩)) (by kernel_rfl) ?_
  simp only [Act.put, List.setIfInBounds_toArray, List.set_cons_zero, List.set_cons_succ]
  refine dw_val (by kernel_rfl) (.pointer (some ⟨m, 2, none⟩)) (by kernel_rfl) ?_
  simp only [Act.put, List.setIfInBounds_toArray, List.set_cons_zero, List.set_cons_succ]
  refine dw_cell (by kernel_rfl) 3 (.tmp 66) rfl m 2 rfl _ _ hM (.int .i64 (c : Int)) rfl _ Try.underlying3 rfl ?_
  simp only [Act.put, List.setIfInBounds_toArray, List.set_cons_zero, List.set_cons_succ]
  refine dw_val2 (by kernel_rfl) (.int .i64 (IntKind.i64.wrap ((c : Int) + 1))) (.int .i64 ((c + 1 : Nat) : Int)) (by kernel_rfl) (by rw [show IntKind.i64.wrap ((c : Int) + 1) = ((c + 1 : Nat) : Int) from by rw [IntWalk.i64_in _ (by omega)]; omega]) ?_
  simp only [Act.put, List.setIfInBounds_toArray, List.set_cons_zero, List.set_cons_succ]
  refine dw_val (by kernel_rfl) (.pointer (some ⟨m, 0, none⟩)) (by kernel_rfl) ?_
  simp only [Act.put, List.setIfInBounds_toArray, List.set_cons_zero, List.set_cons_succ]
  refine dw_val (by kernel_rfl) (.pointer (some ⟨m, 2, none⟩)) (by kernel_rfl) ?_
  simp only [Act.put, List.setIfInBounds_toArray, List.set_cons_zero, List.set_cons_succ]
  refine dw_put (by kernel_rfl) 3 (.tmp 70) (.tmp 68) rfl m 2 rfl (.int .i64 ((c + 1 : Nat) : Int)) rfl _ _ hM [(.int .i64 ((c + 1 : Nat) : Int) : Value)] rfl (Nat.le_of_ble_eq_true rfl) (by kernel_rfl) (by kernel_rfl) [(.slice (some ⟨g, 0, none⟩) N N : Value), .int .i64 (M : Int), .int .i64 ((c + 1 : Nat) : Int), .int .i64 (sp : Int)] rfl ?_
  intro w12 hBw12_ hTw12 hSw12
  replace hG := hG.keep hTw12 (by intro h; omega)
  replace hBn1 := hBn1.keep hTw12 (by intro h; omega)
  replace hT0 := hT0.trans hTw12 (fun i hi h => by first | omega | (subst h; omega) | exact h | exact .inl h | exact .inr h)
  clear hM
  have hM := hBw12_
  clear hBw12_
  simp only [Act.put]
  refine wl_nil ?_
  refine hK11 _ _ ?_
  refine wp_seq_k fun K12 hK12 => ?_
  refine wp_seq_k fun K13 hK13 => ?_
  refine wq_region (Touch (fun _ => False) w12) (by kernel_rfl) (by kernel_rfl) (Touch.refl _ _).drew ?_
  refine dq_val (by kernel_rfl) (.pointer (some ⟨m, 0, none⟩)) (fun w' _ => by kernel_rfl) ?_
  simp only [Act.put, List.setIfInBounds_toArray, List.set_cons_zero, List.set_cons_succ]
  refine dq_val (by kernel_rfl) (.pointer (some ⟨m, 0, none⟩)) (fun w' _ => by kernel_rfl) ?_
  simp only [Act.put, List.setIfInBounds_toArray, List.set_cons_zero, List.set_cons_succ]
  refine dq_val (by kernel_rfl) (.pointer (some ⟨m, 3, none⟩)) (fun w' _ => by kernel_rfl) ?_
  simp only [Act.put, List.setIfInBounds_toArray, List.set_cons_zero, List.set_cons_succ]
  refine dq_val (by kernel_rfl) (.int .i64 (sp : Int)) (fun w' hC => ev_cell 3 (.tmp 73) rfl m 3 rfl _ (((hM.keep hC (fun h => h)).cell 3).trans rfl) _ Try.underlying3 rfl) ?_
  simp only [Act.put, List.setIfInBounds_toArray, List.set_cons_zero, List.set_cons_succ]
  refine dq_val (by kernel_rfl) (.pointer (some ⟨m, 0, none⟩)) (fun w' _ => by kernel_rfl) ?_
  simp only [Act.put, List.setIfInBounds_toArray, List.set_cons_zero, List.set_cons_succ]
  refine dq_val (by kernel_rfl) (.pointer (some ⟨m, 0, none⟩)) (fun w' _ => by kernel_rfl) ?_
  simp only [Act.put, List.setIfInBounds_toArray, List.set_cons_zero, List.set_cons_succ]
  refine dq_val (by kernel_rfl) (.pointer (some ⟨m, 1, none⟩)) (fun w' _ => by kernel_rfl) ?_
  simp only [Act.put, List.setIfInBounds_toArray, List.set_cons_zero, List.set_cons_succ]
  refine dq_val (by kernel_rfl) (.int .i64 (M : Int)) (fun w' hC => ev_cell 3 (.tmp 77) rfl m 1 rfl _ (((hM.keep hC (fun h => h)).cell 1).trans rfl) _ Try.underlying3 rfl) ?_
  simp only [Act.put, List.setIfInBounds_toArray, List.set_cons_zero, List.set_cons_succ]
  refine dq_val (by kernel_rfl) (.int .i64 ((3 * M : Nat) : Int)) (fun w' _ => (show _ = Result.ok (.value (.int .i64 (IntKind.i64.wrap (3 * (M : Int))))) w' from by kernel_rfl).trans (by rw [show IntKind.i64.wrap (3 * (M : Int)) = ((3 * M : Nat) : Int) from by rw [IntWalk.i64_in _ (by omega)]; omega])) ?_
  simp only [Act.put, List.setIfInBounds_toArray, List.set_cons_zero, List.set_cons_succ]
  refine dq_val (by kernel_rfl) (.int .i64 ((3 * M / 2 : Nat) : Int)) (fun w' _ => (show _ = Result.ok (.value (.int .i64 (IntKind.i64.wrap (Int.tdiv ((3 * M : Nat) : Int) 2)))) w' from by kernel_rfl).trans (by rw [show IntKind.i64.wrap (Int.tdiv ((3 * M : Nat) : Int) 2) = ((3 * M / 2 : Nat) : Int) from by rw [show Int.tdiv ((3 * M : Nat) : Int) 2 = ((3 * M / 2 : Nat) : Int) from rfl, IntWalk.i64_in _ (by omega)]])) ?_
  simp only [Act.put, List.setIfInBounds_toArray, List.set_cons_zero, List.set_cons_succ]
  refine dq_bool (by kernel_rfl) (decide (((3 * M / 2 : Nat) : Int) < (sp : Int))) (fun w' _ => by kernel_rfl) (fun hc => ?_) (fun hc => absurd hc (by simp; omega))
  simp only [Act.put, List.setIfInBounds_toArray, List.set_cons_zero, List.set_cons_succ]
  refine wq_nil ?_
  intro w13 hT14
  replace hM := hM.keep hT14 (fun h => h)
  replace hG := hG.keep hT14 (fun h => h)
  replace hBn1 := hBn1.keep hT14 (fun h => h)
  replace hT0 := hT0.trans hT14 (fun _ _ h => h.elim)
  refine hK13 _ _ ?_
  refine wp_cond_true rfl ?_
  refine wl_region ?_
  refine dw_val (by kernel_rfl) (.pointer (some ⟨m, 0, none⟩)) (by kernel_rfl) ?_
  simp only [Act.put, List.setIfInBounds_toArray, List.set_cons_zero, List.set_cons_succ]
  have hsz0 := hT0.size
  refine dw_ret (by kernel_rfl) 80 #[(.pointer (some ⟨m, 0, none⟩) : Value)] (by kernel_rfl) (rebuild_any m g (sl.set i ⟨1, p, x⟩) N M (c + 1) sp w13 hM hG hmg L2 hT2 hN hNN (by rw [List.length_set]; exact hsl) hsh2) ?_
  intro w15 hb
  obtain ⟨g2, acc, hM2, hG2, hg2, hT2_, hR2⟩ := hb
  have ht16 : Touch (fun b => b = m) w13 w15 := hT2_
  clear hM
  clear hG
  replace hBn1 := hBn1.keep ht16 (by intro h; omega)
  replace hT0 := hT0.trans ht16 (fun i hi h => by first | omega | (subst h; omega) | exact h | exact .inl h | exact .inr h)
  simp only [Act.put, List.setIfInBounds_toArray, List.set_cons_zero, List.set_cons_succ]
  refine wl_nil ?_
  refine hK12 _ _ ?_
  refine wp_seq_k fun K14 hK14 => ?_
  refine wl_region ?_
  refine dw_val (by kernel_rfl) (.int .i64 0) (by kernel_rfl) ?_
  simp only [Act.put, List.setIfInBounds_toArray, List.set_cons_zero, List.set_cons_succ]
  refine wl_nil ?_
  refine hK14 _ _ ?_
  refine wp_ret ?_
  repeat (first | with_reducible refine ret_then ?_ | with_reducible refine ret_block ?_)
  refine bodyPost_ret (v := .int .i64 0) (by kernel_rfl) rfl ?_
  exact ⟨rfl, g2, acc, hM2, hG2, by omega, hT0, hR2⟩
set_option maxRecDepth 100000 in
set_option maxHeartbeats 4000000 in
theorem new_any (M N : Nat) (h1 : 1 ≤ M) (h2 : M ≤ 4096) (hN : N = 2 * M + 1) (w : World) : Calls Try.prog 33 #[.int .i64 (M : Int)] w fun e w' => ∃ m g, e = .returned (.tuple #[.pointer (some ⟨m, 0, none⟩), .int .i64 0]) ∧ w.heap.size ≤ m ∧ w.heap.size ≤ g ∧ Below w.heap.size w w' ∧ Blk w' m [(.slice (some ⟨g, 0, none⟩) N N : Value), .int .i64 (M : Int), .int .i64 0, .int .i64 0] 95 ∧ Blk w' g (rowC (zeros N)) 135 ∧ m ≠ g := by
  have hT0 := Touch.refl (fun _ => False) w
  go_enter Try.func33, Try.ntmps33
  refine wp_seq_k fun K1 hK1 => ?_
  refine wl_region ?_
  refine dw_val (by kernel_rfl) (.pointer none) (by kernel_rfl) ?_
  simp only [Act.put, List.setIfInBounds_toArray, List.set_cons_zero, List.set_cons_succ]
  refine dw_val (by kernel_rfl) (.int .i64 0) (by kernel_rfl) ?_
  simp only [Act.put, List.setIfInBounds_toArray, List.set_cons_zero, List.set_cons_succ]
  refine wl_nil ?_
  refine hK1 _ _ ?_
  refine wp_seq_k fun K2 hK2 => ?_
  refine wp_seq_k fun K3 hK3 => ?_
  refine wl_region ?_
  refine dw_val (by kernel_rfl) (.int .i64 (M : Int)) (by kernel_rfl) ?_
  simp only [Act.put, List.setIfInBounds_toArray, List.set_cons_zero, List.set_cons_succ]
  refine dw_bool (by kernel_rfl) (decide ((M : Int) < 1)) (by kernel_rfl) (fun hc => absurd hc (by simp; omega)) (fun hc => ?_)
  simp only [Act.put, List.setIfInBounds_toArray, List.set_cons_zero, List.set_cons_succ]
  refine dw_val (by kernel_rfl) (.bool false) (by kernel_rfl) ?_
  simp only [Act.put, List.setIfInBounds_toArray, List.set_cons_zero, List.set_cons_succ]
  refine dw_val (by kernel_rfl) (.int .i64 (M : Int)) (by kernel_rfl) ?_
  simp only [Act.put, List.setIfInBounds_toArray, List.set_cons_zero, List.set_cons_succ]
  refine dw_bool (by kernel_rfl) (decide (4096 < (M : Int))) (by kernel_rfl) (fun hc => absurd hc (by simp; omega)) (fun hc => ?_)
  simp only [Act.put, List.setIfInBounds_toArray, List.set_cons_zero, List.set_cons_succ]
  refine dw_val (by kernel_rfl) (.bool false) (by kernel_rfl) ?_
  simp only [Act.put, List.setIfInBounds_toArray, List.set_cons_zero, List.set_cons_succ]
  refine wl_nil ?_
  refine hK3 _ _ ?_
  refine wp_cond_false rfl ?_
  refine wp_skip ?_
  refine hK2 _ _ ?_
  refine wp_seq_k fun K4 hK4 => ?_
  refine wl_region ?_
  refine dw_val (by kernel_rfl) (.int .i64 (M : Int)) (by kernel_rfl) ?_
  simp only [Act.put, List.setIfInBounds_toArray, List.set_cons_zero, List.set_cons_succ]
  refine dw_val2 (by kernel_rfl) (.int .i64 (IntKind.i64.wrap (2 * (M : Int)))) (.int .i64 ((2 * M : Nat) : Int)) (by kernel_rfl) (by rw [show IntKind.i64.wrap (2 * (M : Int)) = ((2 * M : Nat) : Int) from by rw [IntWalk.i64_in _ (by omega)]; omega]) ?_
  simp only [Act.put, List.setIfInBounds_toArray, List.set_cons_zero, List.set_cons_succ]
  refine dw_val2 (by kernel_rfl) (.int .i64 (IntKind.i64.wrap (((2 * M : Nat) : Int) + 1))) (.int .i64 (N : Int)) (by kernel_rfl) (by rw [show IntKind.i64.wrap (((2 * M : Nat) : Int) + 1) = (N : Int) from by rw [IntWalk.i64_in _ (by omega)]; omega]) ?_
  simp only [Act.put, List.setIfInBounds_toArray, List.set_cons_zero, List.set_cons_succ]
  refine dw_newSlice (by kernel_rfl) (rowC (zeros N)) 135 N (ev_make (.tmp 12) (by omega) rfl rfl) ?_
  intro n1 w2 hnn1 hsn1 hBn1 hTn1
  have hgen1 : w.heap.size ≤ n1 := by have := hT0.size; omega
  replace hT0 := hT0.trans hTn1 (fun _ _ h => h.elim)
  simp only [Act.put, List.setIfInBounds_toArray, List.set_cons_zero, List.set_cons_succ]
  refine dw_val (by kernel_rfl) (.int .i64 (M : Int)) (by kernel_rfl) ?_
  simp only [Act.put, List.setIfInBounds_toArray, List.set_cons_zero, List.set_cons_succ]
  refine dw_val (by kernel_rfl) (.agg #[(.slice (some ⟨n1, 0, none⟩) N N : Value), .int .i64 (M : Int), .int .i64 0, .int .i64 0]) (by kernel_rfl) ?_
  simp only [Act.put, List.setIfInBounds_toArray, List.set_cons_zero, List.set_cons_succ]
  refine dw_new (by kernel_rfl) [(.slice (some ⟨n1, 0, none⟩) N N : Value), .int .i64 (M : Int), .int .i64 0, .int .i64 0] 95 (by kernel_rfl) ?_
  intro n3 w4 hnn3 hsn3 hBn3 hTn3
  have hnen1n3 : n1 ≠ n3 := by have := hBn1.lt; omega
  have hgen3 : w.heap.size ≤ n3 := by have := hT0.size; omega
  replace hBn1 := hBn1.keep hTn3 (fun h => h)
  replace hT0 := hT0.trans hTn3 (fun _ _ h => h.elim)
  simp only [Act.put, List.setIfInBounds_toArray, List.set_cons_zero, List.set_cons_succ]
  refine dw_val (by kernel_rfl) (.pointer (some ⟨n3, 0, none⟩)) (by kernel_rfl) ?_
  simp only [Act.put, List.setIfInBounds_toArray, List.set_cons_zero, List.set_cons_succ]
  refine dw_val (by kernel_rfl) (.int .i64 0) (by kernel_rfl) ?_
  simp only [Act.put, List.setIfInBounds_toArray, List.set_cons_zero, List.set_cons_succ]
  refine wl_nil ?_
  refine hK4 _ _ ?_
  refine wp_ret ?_
  repeat (first | with_reducible refine ret_then ?_ | with_reducible refine ret_block ?_)
  refine bodyPost_ret (v := .tuple #[(.pointer (some ⟨n3, 0, none⟩) : Value), .int .i64 0]) (by kernel_rfl) rfl ?_
  exact ⟨n3, n1, rfl, hgen3, hgen1, hT0.toBelow, hBn3, hBn1, by omega⟩
set_option maxRecDepth 100000 in
set_option maxHeartbeats 4000000 in
theorem new_zero (w : World) : Calls Try.prog 33 #[.int .i64 0] w fun e w' => e = .returned (.tuple #[.pointer none, .int .i64 1]) ∧ Below w.heap.size w w' := by
  have hT0 := Touch.refl (fun _ => False) w
  go_enter Try.func33, Try.ntmps33
  refine wp_seq_k fun K1 hK1 => ?_
  refine wl_region ?_
  refine dw_val (by kernel_rfl) (.pointer none) (by kernel_rfl) ?_
  simp only [Act.put, List.setIfInBounds_toArray, List.set_cons_zero, List.set_cons_succ]
  refine dw_val (by kernel_rfl) (.int .i64 0) (by kernel_rfl) ?_
  simp only [Act.put, List.setIfInBounds_toArray, List.set_cons_zero, List.set_cons_succ]
  refine wl_nil ?_
  refine hK1 _ _ ?_
  refine wp_seq_k fun K2 hK2 => ?_
  refine wp_seq_k fun K3 hK3 => ?_
  refine wl_region ?_
  refine dw_val (by kernel_rfl) (.int .i64 0) (by kernel_rfl) ?_
  simp only [Act.put, List.setIfInBounds_toArray, List.set_cons_zero, List.set_cons_succ]
  refine dw_val (by kernel_rfl) (.bool true) (by kernel_rfl) ?_
  simp only [Act.put, List.setIfInBounds_toArray, List.set_cons_zero, List.set_cons_succ]
  refine dw_val (by kernel_rfl) (.bool true) (by kernel_rfl) ?_
  simp only [Act.put, List.setIfInBounds_toArray, List.set_cons_zero, List.set_cons_succ]
  refine dw_no (by kernel_rfl) ?_
  simp only [Act.put, List.setIfInBounds_toArray, List.set_cons_zero, List.set_cons_succ]
  refine dw_no (by kernel_rfl) ?_
  simp only [Act.put, List.setIfInBounds_toArray, List.set_cons_zero, List.set_cons_succ]
  refine dw_val (by kernel_rfl) (.bool true) (by kernel_rfl) ?_
  simp only [Act.put, List.setIfInBounds_toArray, List.set_cons_zero, List.set_cons_succ]
  refine wl_nil ?_
  refine hK3 _ _ ?_
  refine wp_cond_true rfl ?_
  refine wp_seq_k fun K4 hK4 => ?_
  refine wl_region ?_
  refine dw_val (by kernel_rfl) (.pointer none) (by kernel_rfl) ?_
  simp only [Act.put, List.setIfInBounds_toArray, List.set_cons_zero, List.set_cons_succ]
  refine dw_val (by kernel_rfl) (.int .i64 1) (by kernel_rfl) ?_
  simp only [Act.put, List.setIfInBounds_toArray, List.set_cons_zero, List.set_cons_succ]
  refine wl_nil ?_
  refine hK4 _ _ ?_
  refine wp_ret ?_
  repeat (first | with_reducible refine ret_then ?_ | with_reducible refine ret_block ?_)
  refine bodyPost_ret (v := .tuple #[(.pointer none : Value), .int .i64 1]) (by kernel_rfl) rfl ?_
  exact ⟨rfl, hT0.toBelow⟩
set_option maxRecDepth 100000 in
set_option maxHeartbeats 4000000 in
theorem get_nil (p : Pr) (w : World) : Calls Try.prog 39 #[(.pointer none : Value), .agg #[(.string p.lb : Value), .int .i64 p.lp, .string p.hb, .int .i64 p.hp]] w fun e w' => e = .returned (.tuple #[.int .i64 0, .bool false]) ∧ Below w.heap.size w w' := by
  have hT0 := Touch.refl (fun _ => False) w
  go_enter Try.func39, Try.ntmps39
  refine wp_seq_k fun K1 hK1 => ?_
  refine wl_region ?_
  refine dw_new (by kernel_rfl) [(.string p.lb : Value), .int .i64 p.lp, .string p.hb, .int .i64 p.hp] 61 (by kernel_rfl) ?_
  intro n1 w2 hnn1 hsn1 hBn1 hTn1
  have hgen1 : w.heap.size ≤ n1 := by have := hT0.size; omega
  replace hT0 := hT0.trans hTn1 (fun _ _ h => h.elim)
  simp only [Act.put, List.setIfInBounds_toArray, List.set_cons_zero, List.set_cons_succ]
  refine dw_val (by kernel_rfl) (.int .i64 0) (by kernel_rfl) ?_
  simp only [Act.put, List.setIfInBounds_toArray, List.set_cons_zero, List.set_cons_succ]
  refine dw_val (by kernel_rfl) (.bool false) (by kernel_rfl) ?_
  simp only [Act.put, List.setIfInBounds_toArray, List.set_cons_zero, List.set_cons_succ]
  refine wl_nil ?_
  refine hK1 _ _ ?_
  refine wp_seq_k fun K2 hK2 => ?_
  refine wp_seq_k fun K3 hK3 => ?_
  refine wl_region ?_
  refine dw_val (by kernel_rfl) (.pointer none) (by kernel_rfl) ?_
  simp only [Act.put, List.setIfInBounds_toArray, List.set_cons_zero, List.set_cons_succ]
  refine dw_ret (by kernel_rfl) 78 #[(.pointer none : Value)] (by kernel_rfl) (there_nil w2) ?_
  intro w3 hb
  have ht4 : Touch (fun _ => False) w2 w3 := Touch.none hb
  replace hBn1 := hBn1.keep ht4 (fun h => h)
  replace hT0 := hT0.trans ht4 (fun _ _ h => h.elim)
  clear hb
  simp only [Act.put, List.setIfInBounds_toArray, List.set_cons_zero, List.set_cons_succ]
  refine dw_val (by kernel_rfl) (.bool true) (by kernel_rfl) ?_
  simp only [Act.put, List.setIfInBounds_toArray, List.set_cons_zero, List.set_cons_succ]
  refine wl_nil ?_
  refine hK3 _ _ ?_
  refine wp_cond_true rfl ?_
  refine wp_seq_k fun K4 hK4 => ?_
  refine wl_region ?_
  refine dw_val (by kernel_rfl) (.int .i64 0) (by kernel_rfl) ?_
  simp only [Act.put, List.setIfInBounds_toArray, List.set_cons_zero, List.set_cons_succ]
  refine dw_val (by kernel_rfl) (.bool false) (by kernel_rfl) ?_
  simp only [Act.put, List.setIfInBounds_toArray, List.set_cons_zero, List.set_cons_succ]
  refine wl_nil ?_
  refine hK4 _ _ ?_
  refine wp_ret ?_
  repeat (first | with_reducible refine ret_then ?_ | with_reducible refine ret_block ?_)
  refine bodyPost_ret (v := .tuple #[(.int .i64 0 : Value), .bool false]) (by kernel_rfl) rfl ?_
  exact ⟨rfl, hT0.toBelow⟩
set_option maxRecDepth 100000 in
set_option maxHeartbeats 4000000 in
theorem get_zero (m : Nat) (p : Pr) (w : World) (hM : Blk w m [(.slice none 0 0 : Value), .int .i64 0, .int .i64 0, .int .i64 0] 95) : Calls Try.prog 39 #[(.pointer (some ⟨m, 0, none⟩) : Value), .agg #[(.string p.lb : Value), .int .i64 p.lp, .string p.hb, .int .i64 p.hp]] w fun e w' => e = .returned (.tuple #[.int .i64 0, .bool false]) ∧ Below w.heap.size w w' := by
  have hT0 := Touch.refl (fun _ => False) w
  go_enter Try.func39, Try.ntmps39
  refine wp_seq_k fun K1 hK1 => ?_
  refine wl_region ?_
  refine dw_new (by kernel_rfl) [(.string p.lb : Value), .int .i64 p.lp, .string p.hb, .int .i64 p.hp] 61 (by kernel_rfl) ?_
  intro n1 w2 hnn1 hsn1 hBn1 hTn1
  have hnemn1 : m ≠ n1 := by have := hM.lt; omega
  have hgen1 : w.heap.size ≤ n1 := by have := hT0.size; omega
  replace hM := hM.keep hTn1 (fun h => h)
  replace hT0 := hT0.trans hTn1 (fun _ _ h => h.elim)
  simp only [Act.put, List.setIfInBounds_toArray, List.set_cons_zero, List.set_cons_succ]
  refine dw_val (by kernel_rfl) (.int .i64 0) (by kernel_rfl) ?_
  simp only [Act.put, List.setIfInBounds_toArray, List.set_cons_zero, List.set_cons_succ]
  refine dw_val (by kernel_rfl) (.bool false) (by kernel_rfl) ?_
  simp only [Act.put, List.setIfInBounds_toArray, List.set_cons_zero, List.set_cons_succ]
  refine wl_nil ?_
  refine hK1 _ _ ?_
  refine wp_seq_k fun K2 hK2 => ?_
  refine wp_seq_k fun K3 hK3 => ?_
  refine wl_region ?_
  refine dw_val (by kernel_rfl) (.pointer (some ⟨m, 0, none⟩)) (by kernel_rfl) ?_
  simp only [Act.put, List.setIfInBounds_toArray, List.set_cons_zero, List.set_cons_succ]
  refine dw_ret (by kernel_rfl) 78 #[(.pointer (some ⟨m, 0, none⟩) : Value)] (by kernel_rfl) (there_zero m w2 hM) ?_
  intro w3 hb
  have ht4 : Touch (fun _ => False) w2 w3 := Touch.none hb
  replace hM := hM.keep ht4 (fun h => h)
  replace hBn1 := hBn1.keep ht4 (fun h => h)
  replace hT0 := hT0.trans ht4 (fun _ _ h => h.elim)
  clear hb
  simp only [Act.put, List.setIfInBounds_toArray, List.set_cons_zero, List.set_cons_succ]
  refine dw_val (by kernel_rfl) (.bool true) (by kernel_rfl) ?_
  simp only [Act.put, List.setIfInBounds_toArray, List.set_cons_zero, List.set_cons_succ]
  refine wl_nil ?_
  refine hK3 _ _ ?_
  refine wp_cond_true rfl ?_
  refine wp_seq_k fun K4 hK4 => ?_
  refine wl_region ?_
  refine dw_val (by kernel_rfl) (.int .i64 0) (by kernel_rfl) ?_
  simp only [Act.put, List.setIfInBounds_toArray, List.set_cons_zero, List.set_cons_succ]
  refine dw_val (by kernel_rfl) (.bool false) (by kernel_rfl) ?_
  simp only [Act.put, List.setIfInBounds_toArray, List.set_cons_zero, List.set_cons_succ]
  refine wl_nil ?_
  refine hK4 _ _ ?_
  refine wp_ret ?_
  repeat (first | with_reducible refine ret_then ?_ | with_reducible refine ret_block ?_)
  refine bodyPost_ret (v := .tuple #[(.int .i64 0 : Value), .bool false]) (by kernel_rfl) rfl ?_
  exact ⟨rfl, hT0.toBelow⟩
set_option maxRecDepth 100000 in
set_option maxHeartbeats 4000000 in
theorem put_nil (p : Pr) (x : Int) (w : World) : Calls Try.prog 36 #[(.pointer none : Value), .agg #[(.string p.lb : Value), .int .i64 p.lp, .string p.hb, .int .i64 p.hp], .int .i64 x] w fun e w' => e = .returned (.int .i64 12) ∧ Below w.heap.size w w' := by
  have hT0 := Touch.refl (fun _ => False) w
  go_enter Try.func36, Try.ntmps36
  refine wp_seq_k fun K1 hK1 => ?_
  refine wl_region ?_
  refine dw_new (by kernel_rfl) [(.string p.lb : Value), .int .i64 p.lp, .string p.hb, .int .i64 p.hp] 61 (by kernel_rfl) ?_
  intro n1 w2 hnn1 hsn1 hBn1 hTn1
  have hgen1 : w.heap.size ≤ n1 := by have := hT0.size; omega
  replace hT0 := hT0.trans hTn1 (fun _ _ h => h.elim)
  simp only [Act.put, List.setIfInBounds_toArray, List.set_cons_zero, List.set_cons_succ]
  refine dw_val (by kernel_rfl) (.int .i64 0) (by kernel_rfl) ?_
  simp only [Act.put, List.setIfInBounds_toArray, List.set_cons_zero, List.set_cons_succ]
  refine wl_nil ?_
  refine hK1 _ _ ?_
  refine wp_seq_k fun K2 hK2 => ?_
  refine wp_seq_k fun K3 hK3 => ?_
  refine wl_region ?_
  refine dw_val (by kernel_rfl) (.pointer none) (by kernel_rfl) ?_
  simp only [Act.put, List.setIfInBounds_toArray, List.set_cons_zero, List.set_cons_succ]
  refine dw_ret (by kernel_rfl) 78 #[(.pointer none : Value)] (by kernel_rfl) (there_nil w2) ?_
  intro w3 hb
  have ht4 : Touch (fun _ => False) w2 w3 := Touch.none hb
  replace hBn1 := hBn1.keep ht4 (fun h => h)
  replace hT0 := hT0.trans ht4 (fun _ _ h => h.elim)
  clear hb
  simp only [Act.put, List.setIfInBounds_toArray, List.set_cons_zero, List.set_cons_succ]
  refine dw_val (by kernel_rfl) (.bool true) (by kernel_rfl) ?_
  simp only [Act.put, List.setIfInBounds_toArray, List.set_cons_zero, List.set_cons_succ]
  refine wl_nil ?_
  refine hK3 _ _ ?_
  refine wp_cond_true rfl ?_
  refine wp_seq_k fun K4 hK4 => ?_
  refine wl_region ?_
  refine dw_val (by kernel_rfl) (.int .i64 12) (by kernel_rfl) ?_
  simp only [Act.put, List.setIfInBounds_toArray, List.set_cons_zero, List.set_cons_succ]
  refine wl_nil ?_
  refine hK4 _ _ ?_
  refine wp_ret ?_
  repeat (first | with_reducible refine ret_then ?_ | with_reducible refine ret_block ?_)
  refine bodyPost_ret (v := .int .i64 12) (by kernel_rfl) rfl ?_
  exact ⟨rfl, hT0.toBelow⟩
set_option maxRecDepth 100000 in
set_option maxHeartbeats 4000000 in
theorem put_zero (m : Nat) (p : Pr) (x : Int) (w : World) (hM : Blk w m [(.slice none 0 0 : Value), .int .i64 0, .int .i64 0, .int .i64 0] 95) : Calls Try.prog 36 #[(.pointer (some ⟨m, 0, none⟩) : Value), .agg #[(.string p.lb : Value), .int .i64 p.lp, .string p.hb, .int .i64 p.hp], .int .i64 x] w fun e w' => e = .returned (.int .i64 12) ∧ Below w.heap.size w w' := by
  have hT0 := Touch.refl (fun _ => False) w
  go_enter Try.func36, Try.ntmps36
  refine wp_seq_k fun K1 hK1 => ?_
  refine wl_region ?_
  refine dw_new (by kernel_rfl) [(.string p.lb : Value), .int .i64 p.lp, .string p.hb, .int .i64 p.hp] 61 (by kernel_rfl) ?_
  intro n1 w2 hnn1 hsn1 hBn1 hTn1
  have hnemn1 : m ≠ n1 := by have := hM.lt; omega
  have hgen1 : w.heap.size ≤ n1 := by have := hT0.size; omega
  replace hM := hM.keep hTn1 (fun h => h)
  replace hT0 := hT0.trans hTn1 (fun _ _ h => h.elim)
  simp only [Act.put, List.setIfInBounds_toArray, List.set_cons_zero, List.set_cons_succ]
  refine dw_val (by kernel_rfl) (.int .i64 0) (by kernel_rfl) ?_
  simp only [Act.put, List.setIfInBounds_toArray, List.set_cons_zero, List.set_cons_succ]
  refine wl_nil ?_
  refine hK1 _ _ ?_
  refine wp_seq_k fun K2 hK2 => ?_
  refine wp_seq_k fun K3 hK3 => ?_
  refine wl_region ?_
  refine dw_val (by kernel_rfl) (.pointer (some ⟨m, 0, none⟩)) (by kernel_rfl) ?_
  simp only [Act.put, List.setIfInBounds_toArray, List.set_cons_zero, List.set_cons_succ]
  refine dw_ret (by kernel_rfl) 78 #[(.pointer (some ⟨m, 0, none⟩) : Value)] (by kernel_rfl) (there_zero m w2 hM) ?_
  intro w3 hb
  have ht4 : Touch (fun _ => False) w2 w3 := Touch.none hb
  replace hM := hM.keep ht4 (fun h => h)
  replace hBn1 := hBn1.keep ht4 (fun h => h)
  replace hT0 := hT0.trans ht4 (fun _ _ h => h.elim)
  clear hb
  simp only [Act.put, List.setIfInBounds_toArray, List.set_cons_zero, List.set_cons_succ]
  refine dw_val (by kernel_rfl) (.bool true) (by kernel_rfl) ?_
  simp only [Act.put, List.setIfInBounds_toArray, List.set_cons_zero, List.set_cons_succ]
  refine wl_nil ?_
  refine hK3 _ _ ?_
  refine wp_cond_true rfl ?_
  refine wp_seq_k fun K4 hK4 => ?_
  refine wl_region ?_
  refine dw_val (by kernel_rfl) (.int .i64 12) (by kernel_rfl) ?_
  simp only [Act.put, List.setIfInBounds_toArray, List.set_cons_zero, List.set_cons_succ]
  refine wl_nil ?_
  refine hK4 _ _ ?_
  refine wp_ret ?_
  repeat (first | with_reducible refine ret_then ?_ | with_reducible refine ret_block ?_)
  refine bodyPost_ret (v := .int .i64 12) (by kernel_rfl) rfl ?_
  exact ⟨rfl, hT0.toBelow⟩
set_option maxRecDepth 100000 in
set_option maxHeartbeats 4000000 in
theorem drop_nil (p : Pr) (w : World) : Calls Try.prog 38 #[(.pointer none : Value), .agg #[(.string p.lb : Value), .int .i64 p.lp, .string p.hb, .int .i64 p.hp]] w fun e w' => e = .returned (.bool false) ∧ Below w.heap.size w w' := by
  have hT0 := Touch.refl (fun _ => False) w
  go_enter Try.func38, Try.ntmps38
  refine wp_seq_k fun K1 hK1 => ?_
  refine wl_region ?_
  refine dw_new (by kernel_rfl) [(.string p.lb : Value), .int .i64 p.lp, .string p.hb, .int .i64 p.hp] 61 (by kernel_rfl) ?_
  intro n1 w2 hnn1 hsn1 hBn1 hTn1
  have hgen1 : w.heap.size ≤ n1 := by have := hT0.size; omega
  replace hT0 := hT0.trans hTn1 (fun _ _ h => h.elim)
  simp only [Act.put, List.setIfInBounds_toArray, List.set_cons_zero, List.set_cons_succ]
  refine dw_val (by kernel_rfl) (.bool false) (by kernel_rfl) ?_
  simp only [Act.put, List.setIfInBounds_toArray, List.set_cons_zero, List.set_cons_succ]
  refine wl_nil ?_
  refine hK1 _ _ ?_
  refine wp_seq_k fun K2 hK2 => ?_
  refine wp_seq_k fun K3 hK3 => ?_
  refine wl_region ?_
  refine dw_val (by kernel_rfl) (.pointer none) (by kernel_rfl) ?_
  simp only [Act.put, List.setIfInBounds_toArray, List.set_cons_zero, List.set_cons_succ]
  refine dw_ret (by kernel_rfl) 78 #[(.pointer none : Value)] (by kernel_rfl) (there_nil w2) ?_
  intro w3 hb
  have ht4 : Touch (fun _ => False) w2 w3 := Touch.none hb
  replace hBn1 := hBn1.keep ht4 (fun h => h)
  replace hT0 := hT0.trans ht4 (fun _ _ h => h.elim)
  clear hb
  simp only [Act.put, List.setIfInBounds_toArray, List.set_cons_zero, List.set_cons_succ]
  refine dw_val (by kernel_rfl) (.bool true) (by kernel_rfl) ?_
  simp only [Act.put, List.setIfInBounds_toArray, List.set_cons_zero, List.set_cons_succ]
  refine wl_nil ?_
  refine hK3 _ _ ?_
  refine wp_cond_true rfl ?_
  refine wp_seq_k fun K4 hK4 => ?_
  refine wl_region ?_
  refine dw_val (by kernel_rfl) (.bool false) (by kernel_rfl) ?_
  simp only [Act.put, List.setIfInBounds_toArray, List.set_cons_zero, List.set_cons_succ]
  refine wl_nil ?_
  refine hK4 _ _ ?_
  refine wp_ret ?_
  repeat (first | with_reducible refine ret_then ?_ | with_reducible refine ret_block ?_)
  refine bodyPost_ret (v := .bool false) (by kernel_rfl) rfl ?_
  exact ⟨rfl, hT0.toBelow⟩
set_option maxRecDepth 100000 in
set_option maxHeartbeats 4000000 in
theorem drop_zero (m : Nat) (p : Pr) (w : World) (hM : Blk w m [(.slice none 0 0 : Value), .int .i64 0, .int .i64 0, .int .i64 0] 95) : Calls Try.prog 38 #[(.pointer (some ⟨m, 0, none⟩) : Value), .agg #[(.string p.lb : Value), .int .i64 p.lp, .string p.hb, .int .i64 p.hp]] w fun e w' => e = .returned (.bool false) ∧ Below w.heap.size w w' := by
  have hT0 := Touch.refl (fun _ => False) w
  go_enter Try.func38, Try.ntmps38
  refine wp_seq_k fun K1 hK1 => ?_
  refine wl_region ?_
  refine dw_new (by kernel_rfl) [(.string p.lb : Value), .int .i64 p.lp, .string p.hb, .int .i64 p.hp] 61 (by kernel_rfl) ?_
  intro n1 w2 hnn1 hsn1 hBn1 hTn1
  have hnemn1 : m ≠ n1 := by have := hM.lt; omega
  have hgen1 : w.heap.size ≤ n1 := by have := hT0.size; omega
  replace hM := hM.keep hTn1 (fun h => h)
  replace hT0 := hT0.trans hTn1 (fun _ _ h => h.elim)
  simp only [Act.put, List.setIfInBounds_toArray, List.set_cons_zero, List.set_cons_succ]
  refine dw_val (by kernel_rfl) (.bool false) (by kernel_rfl) ?_
  simp only [Act.put, List.setIfInBounds_toArray, List.set_cons_zero, List.set_cons_succ]
  refine wl_nil ?_
  refine hK1 _ _ ?_
  refine wp_seq_k fun K2 hK2 => ?_
  refine wp_seq_k fun K3 hK3 => ?_
  refine wl_region ?_
  refine dw_val (by kernel_rfl) (.pointer (some ⟨m, 0, none⟩)) (by kernel_rfl) ?_
  simp only [Act.put, List.setIfInBounds_toArray, List.set_cons_zero, List.set_cons_succ]
  refine dw_ret (by kernel_rfl) 78 #[(.pointer (some ⟨m, 0, none⟩) : Value)] (by kernel_rfl) (there_zero m w2 hM) ?_
  intro w3 hb
  have ht4 : Touch (fun _ => False) w2 w3 := Touch.none hb
  replace hM := hM.keep ht4 (fun h => h)
  replace hBn1 := hBn1.keep ht4 (fun h => h)
  replace hT0 := hT0.trans ht4 (fun _ _ h => h.elim)
  clear hb
  simp only [Act.put, List.setIfInBounds_toArray, List.set_cons_zero, List.set_cons_succ]
  refine dw_val (by kernel_rfl) (.bool true) (by kernel_rfl) ?_
  simp only [Act.put, List.setIfInBounds_toArray, List.set_cons_zero, List.set_cons_succ]
  refine wl_nil ?_
  refine hK3 _ _ ?_
  refine wp_cond_true rfl ?_
  refine wp_seq_k fun K4 hK4 => ?_
  refine wl_region ?_
  refine dw_val (by kernel_rfl) (.bool false) (by kernel_rfl) ?_
  simp only [Act.put, List.setIfInBounds_toArray, List.set_cons_zero, List.set_cons_succ]
  refine wl_nil ?_
  refine hK4 _ _ ?_
  refine wp_ret ?_
  repeat (first | with_reducible refine ret_then ?_ | with_reducible refine ret_block ?_)
  refine bodyPost_ret (v := .bool false) (by kernel_rfl) rfl ?_
  exact ⟨rfl, hT0.toBelow⟩
set_option maxRecDepth 100000 in
set_option maxHeartbeats 4000000 in
theorem len_nil (w : World) : Calls Try.prog 37 #[(.pointer none : Value)] w fun e w' => e = .returned (.int .i64 0) ∧ Below w.heap.size w w' := by
  have hT0 := Touch.refl (fun _ => False) w
  go_enter Try.func37, Try.ntmps37
  refine wp_seq_k fun K1 hK1 => ?_
  refine wl_region ?_
  refine dw_val (by kernel_rfl) (.int .i64 0) (by kernel_rfl) ?_
  simp only [Act.put, List.setIfInBounds_toArray, List.set_cons_zero, List.set_cons_succ]
  refine wl_nil ?_
  refine hK1 _ _ ?_
  refine wp_seq_k fun K2 hK2 => ?_
  refine wp_seq_k fun K3 hK3 => ?_
  refine wl_region ?_
  refine dw_val (by kernel_rfl) (.pointer none) (by kernel_rfl) ?_
  simp only [Act.put, List.setIfInBounds_toArray, List.set_cons_zero, List.set_cons_succ]
  refine dw_ret (by kernel_rfl) 78 #[(.pointer none : Value)] (by kernel_rfl) (there_nil w) ?_
  intro w1 hb
  have ht2 : Touch (fun _ => False) w w1 := Touch.none hb
  replace hT0 := hT0.trans ht2 (fun _ _ h => h.elim)
  clear hb
  simp only [Act.put, List.setIfInBounds_toArray, List.set_cons_zero, List.set_cons_succ]
  refine dw_val (by kernel_rfl) (.bool true) (by kernel_rfl) ?_
  simp only [Act.put, List.setIfInBounds_toArray, List.set_cons_zero, List.set_cons_succ]
  refine wl_nil ?_
  refine hK3 _ _ ?_
  refine wp_cond_true rfl ?_
  refine wp_seq_k fun K4 hK4 => ?_
  refine wl_region ?_
  refine dw_val (by kernel_rfl) (.int .i64 0) (by kernel_rfl) ?_
  simp only [Act.put, List.setIfInBounds_toArray, List.set_cons_zero, List.set_cons_succ]
  refine wl_nil ?_
  refine hK4 _ _ ?_
  refine wp_ret ?_
  repeat (first | with_reducible refine ret_then ?_ | with_reducible refine ret_block ?_)
  refine bodyPost_ret (v := .int .i64 0) (by kernel_rfl) rfl ?_
  exact ⟨rfl, hT0.toBelow⟩
set_option maxRecDepth 100000 in
set_option maxHeartbeats 4000000 in
theorem len_zero (m : Nat) (w : World) (hM : Blk w m [(.slice none 0 0 : Value), .int .i64 0, .int .i64 0, .int .i64 0] 95) : Calls Try.prog 37 #[(.pointer (some ⟨m, 0, none⟩) : Value)] w fun e w' => e = .returned (.int .i64 0) ∧ Below w.heap.size w w' := by
  have hT0 := Touch.refl (fun _ => False) w
  go_enter Try.func37, Try.ntmps37
  refine wp_seq_k fun K1 hK1 => ?_
  refine wl_region ?_
  refine dw_val (by kernel_rfl) (.int .i64 0) (by kernel_rfl) ?_
  simp only [Act.put, List.setIfInBounds_toArray, List.set_cons_zero, List.set_cons_succ]
  refine wl_nil ?_
  refine hK1 _ _ ?_
  refine wp_seq_k fun K2 hK2 => ?_
  refine wp_seq_k fun K3 hK3 => ?_
  refine wl_region ?_
  refine dw_val (by kernel_rfl) (.pointer (some ⟨m, 0, none⟩)) (by kernel_rfl) ?_
  simp only [Act.put, List.setIfInBounds_toArray, List.set_cons_zero, List.set_cons_succ]
  refine dw_ret (by kernel_rfl) 78 #[(.pointer (some ⟨m, 0, none⟩) : Value)] (by kernel_rfl) (there_zero m w hM) ?_
  intro w1 hb
  have ht2 : Touch (fun _ => False) w w1 := Touch.none hb
  replace hM := hM.keep ht2 (fun h => h)
  replace hT0 := hT0.trans ht2 (fun _ _ h => h.elim)
  clear hb
  simp only [Act.put, List.setIfInBounds_toArray, List.set_cons_zero, List.set_cons_succ]
  refine dw_val (by kernel_rfl) (.bool true) (by kernel_rfl) ?_
  simp only [Act.put, List.setIfInBounds_toArray, List.set_cons_zero, List.set_cons_succ]
  refine wl_nil ?_
  refine hK3 _ _ ?_
  refine wp_cond_true rfl ?_
  refine wp_seq_k fun K4 hK4 => ?_
  refine wl_region ?_
  refine dw_val (by kernel_rfl) (.int .i64 0) (by kernel_rfl) ?_
  simp only [Act.put, List.setIfInBounds_toArray, List.set_cons_zero, List.set_cons_succ]
  refine wl_nil ?_
  refine hK4 _ _ ?_
  refine wp_ret ?_
  repeat (first | with_reducible refine ret_then ?_ | with_reducible refine ret_block ?_)
  refine bodyPost_ret (v := .int .i64 0) (by kernel_rfl) rfl ?_
  exact ⟨rfl, hT0.toBelow⟩
set_option maxRecDepth 100000 in
set_option maxHeartbeats 4000000 in
theorem room_nil (w : World) : Calls Try.prog 40 #[(.pointer none : Value)] w fun e w' => e = .returned (.int .i64 0) ∧ Below w.heap.size w w' := by
  have hT0 := Touch.refl (fun _ => False) w
  go_enter Try.func40, Try.ntmps40
  refine wp_seq_k fun K1 hK1 => ?_
  refine wl_region ?_
  refine dw_val (by kernel_rfl) (.int .i64 0) (by kernel_rfl) ?_
  simp only [Act.put, List.setIfInBounds_toArray, List.set_cons_zero, List.set_cons_succ]
  refine wl_nil ?_
  refine hK1 _ _ ?_
  refine wp_seq_k fun K2 hK2 => ?_
  refine wp_seq_k fun K3 hK3 => ?_
  refine wl_region ?_
  refine dw_val (by kernel_rfl) (.pointer none) (by kernel_rfl) ?_
  simp only [Act.put, List.setIfInBounds_toArray, List.set_cons_zero, List.set_cons_succ]
  refine dw_ret (by kernel_rfl) 78 #[(.pointer none : Value)] (by kernel_rfl) (there_nil w) ?_
  intro w1 hb
  have ht2 : Touch (fun _ => False) w w1 := Touch.none hb
  replace hT0 := hT0.trans ht2 (fun _ _ h => h.elim)
  clear hb
  simp only [Act.put, List.setIfInBounds_toArray, List.set_cons_zero, List.set_cons_succ]
  refine dw_val (by kernel_rfl) (.bool true) (by kernel_rfl) ?_
  simp only [Act.put, List.setIfInBounds_toArray, List.set_cons_zero, List.set_cons_succ]
  refine wl_nil ?_
  refine hK3 _ _ ?_
  refine wp_cond_true rfl ?_
  refine wp_seq_k fun K4 hK4 => ?_
  refine wl_region ?_
  refine dw_val (by kernel_rfl) (.int .i64 0) (by kernel_rfl) ?_
  simp only [Act.put, List.setIfInBounds_toArray, List.set_cons_zero, List.set_cons_succ]
  refine wl_nil ?_
  refine hK4 _ _ ?_
  refine wp_ret ?_
  repeat (first | with_reducible refine ret_then ?_ | with_reducible refine ret_block ?_)
  refine bodyPost_ret (v := .int .i64 0) (by kernel_rfl) rfl ?_
  exact ⟨rfl, hT0.toBelow⟩
set_option maxRecDepth 100000 in
set_option maxHeartbeats 4000000 in
theorem room_zero (m : Nat) (w : World) (hM : Blk w m [(.slice none 0 0 : Value), .int .i64 0, .int .i64 0, .int .i64 0] 95) : Calls Try.prog 40 #[(.pointer (some ⟨m, 0, none⟩) : Value)] w fun e w' => e = .returned (.int .i64 0) ∧ Below w.heap.size w w' := by
  have hT0 := Touch.refl (fun _ => False) w
  go_enter Try.func40, Try.ntmps40
  refine wp_seq_k fun K1 hK1 => ?_
  refine wl_region ?_
  refine dw_val (by kernel_rfl) (.int .i64 0) (by kernel_rfl) ?_
  simp only [Act.put, List.setIfInBounds_toArray, List.set_cons_zero, List.set_cons_succ]
  refine wl_nil ?_
  refine hK1 _ _ ?_
  refine wp_seq_k fun K2 hK2 => ?_
  refine wp_seq_k fun K3 hK3 => ?_
  refine wl_region ?_
  refine dw_val (by kernel_rfl) (.pointer (some ⟨m, 0, none⟩)) (by kernel_rfl) ?_
  simp only [Act.put, List.setIfInBounds_toArray, List.set_cons_zero, List.set_cons_succ]
  refine dw_ret (by kernel_rfl) 78 #[(.pointer (some ⟨m, 0, none⟩) : Value)] (by kernel_rfl) (there_zero m w hM) ?_
  intro w1 hb
  have ht2 : Touch (fun _ => False) w w1 := Touch.none hb
  replace hM := hM.keep ht2 (fun h => h)
  replace hT0 := hT0.trans ht2 (fun _ _ h => h.elim)
  clear hb
  simp only [Act.put, List.setIfInBounds_toArray, List.set_cons_zero, List.set_cons_succ]
  refine dw_val (by kernel_rfl) (.bool true) (by kernel_rfl) ?_
  simp only [Act.put, List.setIfInBounds_toArray, List.set_cons_zero, List.set_cons_succ]
  refine wl_nil ?_
  refine hK3 _ _ ?_
  refine wp_cond_true rfl ?_
  refine wp_seq_k fun K4 hK4 => ?_
  refine wl_region ?_
  refine dw_val (by kernel_rfl) (.int .i64 0) (by kernel_rfl) ?_
  simp only [Act.put, List.setIfInBounds_toArray, List.set_cons_zero, List.set_cons_succ]
  refine wl_nil ?_
  refine hK4 _ _ ?_
  refine wp_ret ?_
  repeat (first | with_reducible refine ret_then ?_ | with_reducible refine ret_block ?_)
  refine bodyPost_ret (v := .int .i64 0) (by kernel_rfl) rfl ?_
  exact ⟨rfl, hT0.toBelow⟩
set_option maxRecDepth 100000 in
set_option maxHeartbeats 4000000 in
theorem pairs_nil (w : World) : Calls Try.prog 42 #[(.pointer none : Value)] w fun e w' => e = .returned (.slice none 0 0) ∧ Below w.heap.size w w' := by
  have hT0 := Touch.refl (fun _ => False) w
  go_enter Try.func42, Try.ntmps42
  refine wp_seq_k fun K1 hK1 => ?_
  refine wl_region ?_
  refine dw_val (by kernel_rfl) (.slice none 0 0) (by kernel_rfl) ?_
  simp only [Act.put, List.setIfInBounds_toArray, List.set_cons_zero, List.set_cons_succ]
  refine wl_nil ?_
  refine hK1 _ _ ?_
  refine wp_seq_k fun K2 hK2 => ?_
  refine wp_seq_k fun K3 hK3 => ?_
  refine wl_region ?_
  refine dw_val (by kernel_rfl) (.pointer none) (by kernel_rfl) ?_
  simp only [Act.put, List.setIfInBounds_toArray, List.set_cons_zero, List.set_cons_succ]
  refine dw_ret (by kernel_rfl) 78 #[(.pointer none : Value)] (by kernel_rfl) (there_nil w) ?_
  intro w1 hb
  have ht2 : Touch (fun _ => False) w w1 := Touch.none hb
  replace hT0 := hT0.trans ht2 (fun _ _ h => h.elim)
  clear hb
  simp only [Act.put, List.setIfInBounds_toArray, List.set_cons_zero, List.set_cons_succ]
  refine dw_val (by kernel_rfl) (.bool true) (by kernel_rfl) ?_
  simp only [Act.put, List.setIfInBounds_toArray, List.set_cons_zero, List.set_cons_succ]
  refine wl_nil ?_
  refine hK3 _ _ ?_
  refine wp_cond_true rfl ?_
  refine wp_seq_k fun K4 hK4 => ?_
  refine wl_region ?_
  refine dw_val (by kernel_rfl) (.slice none 0 0) (by kernel_rfl) ?_
  simp only [Act.put, List.setIfInBounds_toArray, List.set_cons_zero, List.set_cons_succ]
  refine wl_nil ?_
  refine hK4 _ _ ?_
  refine wp_ret ?_
  repeat (first | with_reducible refine ret_then ?_ | with_reducible refine ret_block ?_)
  refine bodyPost_ret (v := .slice none 0 0) (by kernel_rfl) rfl ?_
  exact ⟨rfl, hT0.toBelow⟩
set_option maxRecDepth 100000 in
set_option maxHeartbeats 4000000 in
theorem pairs_zero (m : Nat) (w : World) (hM : Blk w m [(.slice none 0 0 : Value), .int .i64 0, .int .i64 0, .int .i64 0] 95) : Calls Try.prog 42 #[(.pointer (some ⟨m, 0, none⟩) : Value)] w fun e w' => e = .returned (.slice none 0 0) ∧ Below w.heap.size w w' := by
  have hT0 := Touch.refl (fun _ => False) w
  go_enter Try.func42, Try.ntmps42
  refine wp_seq_k fun K1 hK1 => ?_
  refine wl_region ?_
  refine dw_val (by kernel_rfl) (.slice none 0 0) (by kernel_rfl) ?_
  simp only [Act.put, List.setIfInBounds_toArray, List.set_cons_zero, List.set_cons_succ]
  refine wl_nil ?_
  refine hK1 _ _ ?_
  refine wp_seq_k fun K2 hK2 => ?_
  refine wp_seq_k fun K3 hK3 => ?_
  refine wl_region ?_
  refine dw_val (by kernel_rfl) (.pointer (some ⟨m, 0, none⟩)) (by kernel_rfl) ?_
  simp only [Act.put, List.setIfInBounds_toArray, List.set_cons_zero, List.set_cons_succ]
  refine dw_ret (by kernel_rfl) 78 #[(.pointer (some ⟨m, 0, none⟩) : Value)] (by kernel_rfl) (there_zero m w hM) ?_
  intro w1 hb
  have ht2 : Touch (fun _ => False) w w1 := Touch.none hb
  replace hM := hM.keep ht2 (fun h => h)
  replace hT0 := hT0.trans ht2 (fun _ _ h => h.elim)
  clear hb
  simp only [Act.put, List.setIfInBounds_toArray, List.set_cons_zero, List.set_cons_succ]
  refine dw_val (by kernel_rfl) (.bool true) (by kernel_rfl) ?_
  simp only [Act.put, List.setIfInBounds_toArray, List.set_cons_zero, List.set_cons_succ]
  refine wl_nil ?_
  refine hK3 _ _ ?_
  refine wp_cond_true rfl ?_
  refine wp_seq_k fun K4 hK4 => ?_
  refine wl_region ?_
  refine dw_val (by kernel_rfl) (.slice none 0 0) (by kernel_rfl) ?_
  simp only [Act.put, List.setIfInBounds_toArray, List.set_cons_zero, List.set_cons_succ]
  refine wl_nil ?_
  refine hK4 _ _ ?_
  refine wp_ret ?_
  repeat (first | with_reducible refine ret_then ?_ | with_reducible refine ret_block ?_)
  refine bodyPost_ret (v := .slice none 0 0) (by kernel_rfl) rfl ?_
  exact ⟨rfl, hT0.toBelow⟩
set_option maxRecDepth 100000 in
set_option maxHeartbeats 4000000 in
theorem copy_nil (w : World) : Calls Try.prog 47 #[(.pointer none : Value)] w fun e w' => e = .returned (.pointer none) ∧ Below w.heap.size w w' := by
  have hT0 := Touch.refl (fun _ => False) w
  go_enter Try.func47, Try.ntmps47
  refine wp_seq_k fun K1 hK1 => ?_
  refine wl_region ?_
  refine dw_val (by kernel_rfl) (.pointer none) (by kernel_rfl) ?_
  simp only [Act.put, List.setIfInBounds_toArray, List.set_cons_zero, List.set_cons_succ]
  refine wl_nil ?_
  refine hK1 _ _ ?_
  refine wp_seq_k fun K2 hK2 => ?_
  refine wp_seq_k fun K3 hK3 => ?_
  refine wl_region ?_
  refine dw_val (by kernel_rfl) (.pointer none) (by kernel_rfl) ?_
  simp only [Act.put, List.setIfInBounds_toArray, List.set_cons_zero, List.set_cons_succ]
  refine dw_ret (by kernel_rfl) 78 #[(.pointer none : Value)] (by kernel_rfl) (there_nil w) ?_
  intro w1 hb
  have ht2 : Touch (fun _ => False) w w1 := Touch.none hb
  replace hT0 := hT0.trans ht2 (fun _ _ h => h.elim)
  clear hb
  simp only [Act.put, List.setIfInBounds_toArray, List.set_cons_zero, List.set_cons_succ]
  refine dw_val (by kernel_rfl) (.bool true) (by kernel_rfl) ?_
  simp only [Act.put, List.setIfInBounds_toArray, List.set_cons_zero, List.set_cons_succ]
  refine wl_nil ?_
  refine hK3 _ _ ?_
  refine wp_cond_true rfl ?_
  refine wp_seq_k fun K4 hK4 => ?_
  refine wl_region ?_
  refine dw_val (by kernel_rfl) (.pointer none) (by kernel_rfl) ?_
  simp only [Act.put, List.setIfInBounds_toArray, List.set_cons_zero, List.set_cons_succ]
  refine wl_nil ?_
  refine hK4 _ _ ?_
  refine wp_ret ?_
  repeat (first | with_reducible refine ret_then ?_ | with_reducible refine ret_block ?_)
  refine bodyPost_ret (v := .pointer none) (by kernel_rfl) rfl ?_
  exact ⟨rfl, hT0.toBelow⟩
set_option maxRecDepth 100000 in
set_option maxHeartbeats 4000000 in
theorem copy_zero (m : Nat) (w : World) (hM : Blk w m [(.slice none 0 0 : Value), .int .i64 0, .int .i64 0, .int .i64 0] 95) : Calls Try.prog 47 #[(.pointer (some ⟨m, 0, none⟩) : Value)] w fun e w' => e = .returned (.pointer none) ∧ Below w.heap.size w w' := by
  have hT0 := Touch.refl (fun _ => False) w
  go_enter Try.func47, Try.ntmps47
  refine wp_seq_k fun K1 hK1 => ?_
  refine wl_region ?_
  refine dw_val (by kernel_rfl) (.pointer none) (by kernel_rfl) ?_
  simp only [Act.put, List.setIfInBounds_toArray, List.set_cons_zero, List.set_cons_succ]
  refine wl_nil ?_
  refine hK1 _ _ ?_
  refine wp_seq_k fun K2 hK2 => ?_
  refine wp_seq_k fun K3 hK3 => ?_
  refine wl_region ?_
  refine dw_val (by kernel_rfl) (.pointer (some ⟨m, 0, none⟩)) (by kernel_rfl) ?_
  simp only [Act.put, List.setIfInBounds_toArray, List.set_cons_zero, List.set_cons_succ]
  refine dw_ret (by kernel_rfl) 78 #[(.pointer (some ⟨m, 0, none⟩) : Value)] (by kernel_rfl) (there_zero m w hM) ?_
  intro w1 hb
  have ht2 : Touch (fun _ => False) w w1 := Touch.none hb
  replace hM := hM.keep ht2 (fun h => h)
  replace hT0 := hT0.trans ht2 (fun _ _ h => h.elim)
  clear hb
  simp only [Act.put, List.setIfInBounds_toArray, List.set_cons_zero, List.set_cons_succ]
  refine dw_val (by kernel_rfl) (.bool true) (by kernel_rfl) ?_
  simp only [Act.put, List.setIfInBounds_toArray, List.set_cons_zero, List.set_cons_succ]
  refine wl_nil ?_
  refine hK3 _ _ ?_
  refine wp_cond_true rfl ?_
  refine wp_seq_k fun K4 hK4 => ?_
  refine wl_region ?_
  refine dw_val (by kernel_rfl) (.pointer none) (by kernel_rfl) ?_
  simp only [Act.put, List.setIfInBounds_toArray, List.set_cons_zero, List.set_cons_succ]
  refine wl_nil ?_
  refine hK4 _ _ ?_
  refine wp_ret ?_
  repeat (first | with_reducible refine ret_then ?_ | with_reducible refine ret_block ?_)
  refine bodyPost_ret (v := .pointer none) (by kernel_rfl) rfl ?_
  exact ⟨rfl, hT0.toBelow⟩
end Go.Proofs.Ytnjbclcihhaddaa
