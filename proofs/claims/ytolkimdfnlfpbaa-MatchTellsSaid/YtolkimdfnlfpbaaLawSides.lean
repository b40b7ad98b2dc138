/- MatchSides: what the law walks. Conditions: the arguments read as rules and asks. -/
import Derived.Test.YtolkimdfnlfpbaaXE
import Derived.Laws.Rows
set_option linter.unusedVariables false
set_option linter.unusedSimpArgs false
namespace Go.Proofs.Ytolkimdfnlfpbaa
open Go.RowKit
set_option maxRecDepth 100000 in
set_option maxHeartbeats 4000000 in
theorem sides_dark (r : Rl) (a : Ak) (w : World) (hl : lightB (fun _ => r) 1 a = false) :
    Calls Try.prog 7 #[.agg r.cs.toArray, .agg a.cs.toArray] w fun e w' => e = .returned (.bool true) ∧ Below w.heap.size w w' := by
  have hT0 := Touch.refl (fun _ => False) w
  go_enter Try.func7, Try.ntmps7
  refine wp_seq_k fun K1 hK1 => ?_
  refine wl_region ?_
  refine dw_new (by kernel_rfl) [(.bool (r.acc) : Value), .int .i64 r.side, .string r.fb, .int .i64 r.fn, .string r.tb, .int .i64 r.tn, .int .i64 r.s0, .int .i64 r.s1, .int .i64 r.d0, .int .i64 r.d1, .int .i64 r.mask, .int .i64 r.flags, .int .i64 r.classes] 43 (by kernel_rfl) ?_
  intro n1 w2 hnn1 hsn1 hBn1 hTn1
  have hgen1 : w.heap.size ≤ n1 := by have := hT0.size; omega
  replace hT0 := hT0.trans hTn1 (fun _ _ h => h.elim)
  simp only [Act.put, List.setIfInBounds_toArray, List.set_cons_zero, List.set_cons_succ]
  refine dw_new (by kernel_rfl) [(.string a.src : Value), .string a.dst, .int .i64 a.from_, .int .i64 a.to_, .int .u32 a.seq, .int .u32 a.ack, .int .i64 a.flags, .int .i64 a.win, .int .i64 a.urg, .int .i64 a.mss, .int .i64 a.scale, .bool (a.sack), .slice a.ba a.bn a.bc, .bool (a.timed), .int .u32 a.time, .int .u32 a.echo, .string a.data, .int .i64 a.side, .int .i64 a.class_] 34 (by kernel_rfl) ?_
  intro n3 w4 hnn3 hsn3 hBn3 hTn3
  have hnen1n3 : n1 ≠ n3 := by have := hBn1.lt; omega
  have hgen3 : w.heap.size ≤ n3 := by have := hT0.size; omega
  replace hBn1 := hBn1.keep hTn3 (fun h => h)
  replace hT0 := hT0.trans hTn3 (fun _ _ h => h.elim)
  simp only [Act.put, List.setIfInBounds_toArray, List.set_cons_zero, List.set_cons_succ]
  refine dw_val (by kernel_rfl) (.bool false) (by kernel_rfl) ?_
  simp only [Act.put, List.setIfInBounds_toArray, List.set_cons_zero, List.set_cons_succ]
  refine wl_nil ?_
  refine hK1 _ _ ?_
  refine wp_seq_k fun K2 hK2 => ?_
  refine wp_seq_k fun K3 hK3 => ?_
  refine wl_region ?_
  refine dw_row (by kernel_rfl) 43 (.tmp 2) rfl n1 0 rfl _ _ hBn1 [(.bool (r.acc) : Value), .int .i64 r.side, .string r.fb, .int .i64 r.fn, .string r.tb, .int .i64 r.tn, .int .i64 r.s0, .int .i64 r.s1, .int .i64 r.d0, .int .i64 r.d1, .int .i64 r.mask, .int .i64 r.flags, .int .i64 r.classes] rfl _ Try.underlying43 rfl (by kernel_rfl) ?_
  simp only [Act.put, List.setIfInBounds_toArray, List.set_cons_zero, List.set_cons_succ]
  refine dw_newSlice (by kernel_rfl) [(.bool (r.acc) : Value), .int .i64 r.side, .string r.fb, .int .i64 r.fn, .string r.tb, .int .i64 r.tn, .int .i64 r.s0, .int .i64 r.s1, .int .i64 r.d0, .int .i64 r.d1, .int .i64 r.mask, .int .i64 r.flags, .int .i64 r.classes] 43 1 (by kernel_rfl) ?_
  intro n5 w6 hnn5 hsn5 hBn5 hTn5
  have hnen1n5 : n1 ≠ n5 := by have := hBn1.lt; omega
  have hnen3n5 : n3 ≠ n5 := by have := hBn3.lt; omega
  have hgen5 : w.heap.size ≤ n5 := by have := hT0.size; omega
  replace hBn1 := hBn1.keep hTn5 (fun h => h)
  replace hBn3 := hBn3.keep hTn5 (fun h => h)
  replace hT0 := hT0.trans hTn5 (fun _ _ h => h.elim)
  simp only [Act.put, List.setIfInBounds_toArray, List.set_cons_zero, List.set_cons_succ]
  refine dw_row (by kernel_rfl) 34 (.tmp 3) rfl n3 0 rfl _ _ hBn3 [(.string a.src : Value), .string a.dst, .int .i64 a.from_, .int .i64 a.to_, .int .u32 a.seq, .int .u32 a.ack, .int .i64 a.flags, .int .i64 a.win, .int .i64 a.urg, .int .i64 a.mss, .int .i64 a.scale, .bool (a.sack), .slice a.ba a.bn a.bc, .bool (a.timed), .int .u32 a.time, .int .u32 a.echo, .string a.data, .int .i64 a.side, .int .i64 a.class_] rfl _ Try.underlying34 rfl (by kernel_rfl) ?_
  simp only [Act.put, List.setIfInBounds_toArray, List.set_cons_zero, List.set_cons_succ]
  refine dw_ret (by kernel_rfl) 8 #[(.slice (some ⟨n5, 0, none⟩) 1 1 : Value), .agg #[(.string a.src : Value), .string a.dst, .int .i64 a.from_, .int .i64 a.to_, .int .u32 a.seq, .int .u32 a.ack, .int .i64 a.flags, .int .i64 a.win, .int .i64 a.urg, .int .i64 a.mss, .int .i64 a.scale, .bool (a.sack), .slice a.ba a.bn a.bc, .bool (a.timed), .int .u32 a.time, .int .u32 a.echo, .string a.data, .int .i64 a.side, .int .i64 a.class_]] (by kernel_rfl) (light_any (some ⟨n5, 0, none⟩) 1 1 (fun _ => r) a w6 (rule1 (r := r) hBn5) (by decide)) ?_
  intro w7 hb
  have ht8 : Touch (fun _ => False) w6 w7 := Touch.none hb
  replace hBn1 := hBn1.keep ht8 (fun h => h)
  replace hBn3 := hBn3.keep ht8 (fun h => h)
  replace hBn5 := hBn5.keep ht8 (fun h => h)
  replace hT0 := hT0.trans ht8 (fun _ _ h => h.elim)
  clear hb
  simp only [Act.put, List.setIfInBounds_toArray, List.set_cons_zero, List.set_cons_succ]
  refine dw_bool (by kernel_rfl) (!(lightB (fun _ => r) 1 a)) (by kernel_rfl) (fun hc => ?_) (fun hc => absurd hc (by simp [hl]))
  simp only [Act.put, List.setIfInBounds_toArray, List.set_cons_zero, List.set_cons_succ]
  refine wl_nil ?_
  refine hK3 _ _ ?_
  refine wp_cond_true rfl ?_
  refine wp_seq_k fun K4 hK4 => ?_
  refine wl_region ?_
  refine dw_ret (by kernel_rfl) 9 #[] (by kernel_rfl) (known_any w7) ?_
  intro w9 hb
  have ht10 : Touch (fun _ => False) w7 w9 := Touch.none hb
  replace hBn1 := hBn1.keep ht10 (fun h => h)
  replace hBn3 := hBn3.keep ht10 (fun h => h)
  replace hBn5 := hBn5.keep ht10 (fun h => h)
  replace hT0 := hT0.trans ht10 (fun _ _ h => h.elim)
  clear hb
  simp only [Act.put, List.setIfInBounds_toArray, List.set_cons_zero, List.set_cons_succ]
  refine dw_val (by kernel_rfl) (.bool true) (by kernel_rfl) ?_
  simp only [Act.put, List.setIfInBounds_toArray, List.set_cons_zero, List.set_cons_succ]
  refine wl_nil ?_
  refine hK4 _ _ ?_
  refine wp_ret ?_
  repeat (first | with_reducible refine ret_then ?_ | with_reducible refine ret_block ?_)
  refine bodyPost_ret (v := .bool true) (by kernel_rfl) rfl ?_
  exact ⟨rfl, hT0.toBelow⟩
set_option maxRecDepth 100000 in
set_option maxHeartbeats 4000000 in
theorem sides_1_true (r : Rl) (a : Ak) (w : World) (hl : lightB (fun _ => r) 1 a = true) (hsm : r.fb.size ≤ 100 ∧ r.tb.size ≤ 100) (hsrc : a.src.size ≤ 100) (hdst : a.dst.size ≤ 100) (hs1 : a.side = 1) (hs2 : a.side ≠ 2) (hx : oneB { r with side := 1 } a = true) (hy : oneB { r with side := 2 } a = false) (hz : oneB { r with side := 0 } a = true) :
    Calls Try.prog 7 #[.agg r.cs.toArray, .agg a.cs.toArray] w fun e w' => e = .returned (.bool true) ∧ Below w.heap.size w w' := by
  have hT0 := Touch.refl (fun _ => False) w
  go_enter Try.func7, Try.ntmps7
  refine wp_seq_k fun K1 hK1 => ?_
  refine wl_region ?_
  refine dw_new (by kernel_rfl) [(.bool (r.acc) : Value), .int .i64 r.side, .string r.fb, .int .i64 r.fn, .string r.tb, .int .i64 r.tn, .int .i64 r.s0, .int .i64 r.s1, .int .i64 r.d0, .int .i64 r.d1, .int .i64 r.mask, .int .i64 r.flags, .int .i64 r.classes] 43 (by kernel_rfl) ?_
  intro n1 w2 hnn1 hsn1 hBn1 hTn1
  have hgen1 : w.heap.size ≤ n1 := by have := hT0.size; omega
  replace hT0 := hT0.trans hTn1 (fun _ _ h => h.elim)
  simp only [Act.put, List.setIfInBounds_toArray, List.set_cons_zero, List.set_cons_succ]
  refine dw_new (by kernel_rfl) [(.string a.src : Value), .string a.dst, .int .i64 a.from_, .int .i64 a.to_, .int .u32 a.seq, .int .u32 a.ack, .int .i64 a.flags, .int .i64 a.win, .int .i64 a.urg, .int .i64 a.mss, .int .i64 a.scale, .bool (a.sack), .slice a.ba a.bn a.bc, .bool (a.timed), .int .u32 a.time, .int .u32 a.echo, .string a.data, .int .i64 a.side, .int .i64 a.class_] 34 (by kernel_rfl) ?_
  intro n3 w4 hnn3 hsn3 hBn3 hTn3
  have hnen1n3 : n1 ≠ n3 := by have := hBn1.lt; omega
  have hgen3 : w.heap.size ≤ n3 := by have := hT0.size; omega
  replace hBn1 := hBn1.keep hTn3 (fun h => h)
  replace hT0 := hT0.trans hTn3 (fun _ _ h => h.elim)
  simp only [Act.put, List.setIfInBounds_toArray, List.set_cons_zero, List.set_cons_succ]
  refine dw_val (by kernel_rfl) (.bool false) (by kernel_rfl) ?_
  simp only [Act.put, List.setIfInBounds_toArray, List.set_cons_zero, List.set_cons_succ]
  refine wl_nil ?_
  refine hK1 _ _ ?_
  refine wp_seq_k fun K2 hK2 => ?_
  refine wp_seq_k fun K3 hK3 => ?_
  refine wl_region ?_
  refine dw_row (by kernel_rfl) 43 (.tmp 2) rfl n1 0 rfl _ _ hBn1 [(.bool (r.acc) : Value), .int .i64 r.side, .string r.fb, .int .i64 r.fn, .string r.tb, .int .i64 r.tn, .int .i64 r.s0, .int .i64 r.s1, .int .i64 r.d0, .int .i64 r.d1, .int .i64 r.mask, .int .i64 r.flags, .int .i64 r.classes] rfl _ Try.underlying43 rfl (by kernel_rfl) ?_
  simp only [Act.put, List.setIfInBounds_toArray, List.set_cons_zero, List.set_cons_succ]
  refine dw_newSlice (by kernel_rfl) [(.bool (r.acc) : Value), .int .i64 r.side, .string r.fb, .int .i64 r.fn, .string r.tb, .int .i64 r.tn, .int .i64 r.s0, .int .i64 r.s1, .int .i64 r.d0, .int .i64 r.d1, .int .i64 r.mask, .int .i64 r.flags, .int .i64 r.classes] 43 1 (by kernel_rfl) ?_
  intro n5 w6 hnn5 hsn5 hBn5 hTn5
  have hnen1n5 : n1 ≠ n5 := by have := hBn1.lt; omega
  have hnen3n5 : n3 ≠ n5 := by have := hBn3.lt; omega
  have hgen5 : w.heap.size ≤ n5 := by have := hT0.size; omega
  replace hBn1 := hBn1.keep hTn5 (fun h => h)
  replace hBn3 := hBn3.keep hTn5 (fun h => h)
  replace hT0 := hT0.trans hTn5 (fun _ _ h => h.elim)
  simp only [Act.put, List.setIfInBounds_toArray, List.set_cons_zero, List.set_cons_succ]
  refine dw_row (by kernel_rfl) 34 (.tmp 3) rfl n3 0 rfl _ _ hBn3 [(.string a.src : Value), .string a.dst, .int .i64 a.from_, .int .i64 a.to_, .int .u32 a.seq, .int .u32 a.ack, .int .i64 a.flags, .int .i64 a.win, .int .i64 a.urg, .int .i64 a.mss, .int .i64 a.scale, .bool (a.sack), .slice a.ba a.bn a.bc, .bool (a.timed), .int .u32 a.time, .int .u32 a.echo, .string a.data, .int .i64 a.side, .int .i64 a.class_] rfl _ Try.underlying34 rfl (by kernel_rfl) ?_
  simp only [Act.put, List.setIfInBounds_toArray, List.set_cons_zero, List.set_cons_succ]
  refine dw_ret (by kernel_rfl) 8 #[(.slice (some ⟨n5, 0, none⟩) 1 1 : Value), .agg #[(.string a.src : Value), .string a.dst, .int .i64 a.from_, .int .i64 a.to_, .int .u32 a.seq, .int .u32 a.ack, .int .i64 a.flags, .int .i64 a.win, .int .i64 a.urg, .int .i64 a.mss, .int .i64 a.scale, .bool (a.sack), .slice a.ba a.bn a.bc, .bool (a.timed), .int .u32 a.time, .int .u32 a.echo, .string a.data, .int .i64 a.side, .int .i64 a.class_]] (by kernel_rfl) (light_any (some ⟨n5, 0, none⟩) 1 1 (fun _ => r) a w6 (rule1 (r := r) hBn5) (by decide)) ?_
  intro w7 hb
  have ht8 : Touch (fun _ => False) w6 w7 := Touch.none hb
  replace hBn1 := hBn1.keep ht8 (fun h => h)
  replace hBn3 := hBn3.keep ht8 (fun h => h)
  replace hBn5 := hBn5.keep ht8 (fun h => h)
  replace hT0 := hT0.trans ht8 (fun _ _ h => h.elim)
  clear hb
  simp only [Act.put, List.setIfInBounds_toArray, List.set_cons_zero, List.set_cons_succ]
  refine dw_bool (by kernel_rfl) (!(lightB (fun _ => r) 1 a)) (by kernel_rfl) (fun hc => absurd hc (by simp [hl])) (fun hc => ?_)
  simp only [Act.put, List.setIfInBounds_toArray, List.set_cons_zero, List.set_cons_succ]
  refine wl_nil ?_
  refine hK3 _ _ ?_
  refine wp_cond_false rfl ?_
  refine wp_skip ?_
  refine hK2 _ _ ?_
  refine wp_seq_k fun K4 hK4 => ?_
  refine wl_region ?_
  refine dw_row (by kernel_rfl) 43 (.tmp 2) rfl n1 0 rfl _ _ hBn1 [(.bool (r.acc) : Value), .int .i64 r.side, .string r.fb, .int .i64 r.fn, .string r.tb, .int .i64 r.tn, .int .i64 r.s0, .int .i64 r.s1, .int .i64 r.d0, .int .i64 r.d1, .int .i64 r.mask, .int .i64 r.flags, .int .i64 r.classes] rfl _ Try.underlying43 rfl (by kernel_rfl) ?_
  simp only [Act.put, List.setIfInBounds_toArray, List.set_cons_zero, List.set_cons_succ]
  refine dw_new (by kernel_rfl) [(.bool false : Value), .int .i64 0, .string ⟨#[]⟩, .int .i64 0, .string ⟨#[]⟩, .int .i64 0, .int .i64 0, .int .i64 0, .int .i64 0, .int .i64 0, .int .i64 0, .int .i64 0, .int .i64 0] 43 (by kernel_rfl) ?_
  intro n9 w10 hnn9 hsn9 hBn9 hTn9
  have hnen1n9 : n1 ≠ n9 := by have := hBn1.lt; omega
  have hnen3n9 : n3 ≠ n9 := by have := hBn3.lt; omega
  have hnen5n9 : n5 ≠ n9 := by have := hBn5.lt; omega
  have hgen9 : w.heap.size ≤ n9 := by have := hT0.size; omega
  replace hBn1 := hBn1.keep hTn9 (fun h => h)
  replace hBn3 := hBn3.keep hTn9 (fun h => h)
  replace hBn5 := hBn5.keep hTn9 (fun h => h)
  replace hT0 := hT0.trans hTn9 (fun _ _ h => h.elim)
  simp only [Act.put, List.setIfInBounds_toArray, List.set_cons_zero, List.set_cons_succ]
  refine dw_put (by kernel_rfl) 43 (.tmp 5) (.tmp 16) rfl n9 0 rfl (.agg #[(.bool (r.acc) : Value), .int .i64 r.side, .string r.fb, .int .i64 r.fn, .string r.tb, .int .i64 r.tn, .int .i64 r.s0, .int .i64 r.s1, .int .i64 r.d0, .int .i64 r.d1, .int .i64 r.mask, .int .i64 r.flags, .int .i64 r.classes]) rfl _ _ hBn9 [(.bool (r.acc) : Value), .int .i64 r.side, .string r.fb, .int .i64 r.fn, .string r.tb, .int .i64 r.tn, .int .i64 r.s0, .int .i64 r.s1, .int .i64 r.d0, .int .i64 r.d1, .int .i64 r.mask, .int .i64 r.flags, .int .i64 r.classes] rfl (Nat.le_of_ble_eq_true rfl) (by kernel_rfl) (by kernel_rfl) [(.bool (r.acc) : Value), .int .i64 r.side, .string r.fb, .int .i64 r.fn, .string r.tb, .int .i64 r.tn, .int .i64 r.s0, .int .i64 r.s1, .int .i64 r.d0, .int .i64 r.d1, .int .i64 r.mask, .int .i64 r.flags, .int .i64 r.classes] rfl ?_
  intro w11 hBw11_ hTw11 hSw11
  replace hBn1 := hBn1.keep hTw11 (by intro h; omega)
  replace hBn3 := hBn3.keep hTw11 (by intro h; omega)
  replace hBn5 := hBn5.keep hTw11 (by intro h; omega)
  replace hT0 := hT0.trans hTw11 (fun i hi h => by first | omega | (subst h; omega) | exact h | exact .inl h | exact .inr h)
  clear hBn9
  have hBn9 := hBw11_
  clear hBw11_
  simp only [Act.put]
  refine wl_nil ?_
  refine hK4 _ _ ?_
  refine wp_seq_k fun K5 hK5 => ?_
  refine wl_region ?_
  refine dw_val (by kernel_rfl) (.pointer (some ⟨n9, 1, none⟩)) (by kernel_rfl) ?_
  simp only [Act.put, List.setIfInBounds_toArray, List.set_cons_zero, List.set_cons_succ]
  refine dw_put (by kernel_rfl) 3 (.tmp 17) (.const (.int .i64 1)) rfl n9 1 rfl (.int .i64 1) rfl _ _ hBn9 [(.int .i64 1 : Value)] rfl (Nat.le_of_ble_eq_true rfl) (by kernel_rfl) (by kernel_rfl) [(.bool (r.acc) : Value), .int .i64 1, .string r.fb, .int .i64 r.fn, .string r.tb, .int .i64 r.tn, .int .i64 r.s0, .int .i64 r.s1, .int .i64 r.d0, .int .i64 r.d1, .int .i64 r.mask, .int .i64 r.flags, .int .i64 r.classes] rfl ?_
  intro w12 hBw12_ hTw12 hSw12
  replace hBn1 := hBn1.keep hTw12 (by intro h; omega)
  replace hBn3 := hBn3.keep hTw12 (by intro h; omega)
  replace hBn5 := hBn5.keep hTw12 (by intro h; omega)
  replace hT0 := hT0.trans hTw12 (fun i hi h => by first | omega | (subst h; omega) | exact h | exact .inl h | exact .inr h)
  clear hBn9
  have hBn9 := hBw12_
  clear hBw12_
  simp only [Act.put]
  refine wl_nil ?_
  refine hK5 _ _ ?_
  refine wp_seq_k fun K6 hK6 => ?_
  refine wl_region ?_
  refine dw_row (by kernel_rfl) 43 (.tmp 2) rfl n1 0 rfl _ _ hBn1 [(.bool (r.acc) : Value), .int .i64 r.side, .string r.fb, .int .i64 r.fn, .string r.tb, .int .i64 r.tn, .int .i64 r.s0, .int .i64 r.s1, .int .i64 r.d0, .int .i64 r.d1, .int .i64 r.mask, .int .i64 r.flags, .int .i64 r.classes] rfl _ Try.underlying43 rfl (by kernel_rfl) ?_
  simp only [Act.put, List.setIfInBounds_toArray, List.set_cons_zero, List.set_cons_succ]
  refine dw_new (by kernel_rfl) [(.bool false : Value), .int .i64 0, .string ⟨#[]⟩, .int .i64 0, .string ⟨#[]⟩, .int .i64 0, .int .i64 0, .int .i64 0, .int .i64 0, .int .i64 0, .int .i64 0, .int .i64 0, .int .i64 0] 43 (by kernel_rfl) ?_
  intro n13 w14 hnn13 hsn13 hBn13 hTn13
  have hnen1n13 : n1 ≠ n13 := by have := hBn1.lt; omega
  have hnen3n13 : n3 ≠ n13 := by have := hBn3.lt; omega
  have hnen5n13 : n5 ≠ n13 := by have := hBn5.lt; omega
  have hnen9n13 : n9 ≠ n13 := by have := hBn9.lt; omega
  have hgen13 : w.heap.size ≤ n13 := by have := hT0.size; omega
  replace hBn1 := hBn1.keep hTn13 (fun h => h)
  replace hBn3 := hBn3.keep hTn13 (fun h => h)
  replace hBn5 := hBn5.keep hTn13 (fun h => h)
  replace hBn9 := hBn9.keep hTn13 (fun h => h)
  replace hT0 := hT0.trans hTn13 (fun _ _ h => h.elim)
  simp only [Act.put, List.setIfInBounds_toArray, List.set_cons_zero, List.set_cons_succ]
  refine dw_put (by kernel_rfl) 43 (.tmp 6) (.tmp 18) rfl n13 0 rfl (.agg #[(.bool (r.acc) : Value), .int .i64 r.side, .string r.fb, .int .i64 r.fn, .string r.tb, .int .i64 r.tn, .int .i64 r.s0, .int .i64 r.s1, .int .i64 r.d0, .int .i64 r.d1, .int .i64 r.mask, .int .i64 r.flags, .int .i64 r.classes]) rfl _ _ hBn13 [(.bool (r.acc) : Value), .int .i64 r.side, .string r.fb, .int .i64 r.fn, .string r.tb, .int .i64 r.tn, .int .i64 r.s0, .int .i64 r.s1, .int .i64 r.d0, .int .i64 r.d1, .int .i64 r.mask, .int .i64 r.flags, .int .i64 r.classes] rfl (Nat.le_of_ble_eq_true rfl) (by kernel_rfl) (by kernel_rfl) [(.bool (r.acc) : Value), .int .i64 r.side, .string r.fb, .int .i64 r.fn, .string r.tb, .int .i64 r.tn, .int .i64 r.s0, .int .i64 r.s1, .int .i64 r.d0, .int .i64 r.d1, .int .i64 r.mask, .int .i64 r.flags, .int .i64 r.classes] rfl ?_
  intro w15 hBw15_ hTw15 hSw15
  replace hBn1 := hBn1.keep hTw15 (by intro h; omega)
  replace hBn3 := hBn3.keep hTw15 (by intro h; omega)
  replace hBn5 := hBn5.keep hTw15 (by intro h; omega)
  replace hBn9 := hBn9.keep hTw15 (by intro h; omega)
  replace hT0 := hT0.trans hTw15 (fun i hi h => by first | omega | (subst h; omega) | exact h | exact .inl h | exact .inr h)
  clear hBn13
  have hBn13 := hBw15_
  clear hBw15_
  simp only [Act.put]
  refine wl_nil ?_
  refine hK6 _ _ ?_
  refine wp_seq_k fun K7 hK7 => ?_
  refine wl_region ?_
  refine dw_val (by kernel_rfl) (.pointer (some ⟨n13, 1, none⟩)) (by kernel_rfl) ?_
  simp only [Act.put, List.setIfInBounds_toArray, List.set_cons_zero, List.set_cons_succ]
  refine dw_put (by kernel_rfl) 3 (.tmp 19) (.const (.int .i64 2)) rfl n13 1 rfl (.int .i64 2) rfl _ _ hBn13 [(.int .i64 2 : Value)] rfl (Nat.le_of_ble_eq_true rfl) (by kernel_rfl) (by kernel_rfl) [(.bool (r.acc) : Value), .int .i64 2, .string r.fb, .int .i64 r.fn, .string r.tb, .int .i64 r.tn, .int .i64 r.s0, .int .i64 r.s1, .int .i64 r.d0, .int .i64 r.d1, .int .i64 r.mask, .int .i64 r.flags, .int .i64 r.classes] rfl ?_
  intro w16 hBw16_ hTw16 hSw16
  replace hBn1 := hBn1.keep hTw16 (by intro h; omega)
  replace hBn3 := hBn3.keep hTw16 (by intro h; omega)
  replace hBn5 := hBn5.keep hTw16 (by intro h; omega)
  replace hBn9 := hBn9.keep hTw16 (by intro h; omega)
  replace hT0 := hT0.trans hTw16 (fun i hi h => by first | omega | (subst h; omega) | exact h | exact .inl h | exact .inr h)
  clear hBn13
  have hBn13 := hBw16_
  clear hBw16_
  simp only [Act.put]
  refine wl_nil ?_
  refine hK7 _ _ ?_
  refine wp_seq_k fun K8 hK8 => ?_
  refine wl_region ?_
  refine dw_row (by kernel_rfl) 43 (.tmp 2) rfl n1 0 rfl _ _ hBn1 [(.bool (r.acc) : Value), .int .i64 r.side, .string r.fb, .int .i64 r.fn, .string r.tb, .int .i64 r.tn, .int .i64 r.s0, .int .i64 r.s1, .int .i64 r.d0, .int .i64 r.d1, .int .i64 r.mask, .int .i64 r.flags, .int .i64 r.classes] rfl _ Try.underlying43 rfl (by kernel_rfl) ?_
  simp only [Act.put, List.setIfInBounds_toArray, List.set_cons_zero, List.set_cons_succ]
  refine dw_new (by kernel_rfl) [(.bool false : Value), .int .i64 0, .string ⟨#[]⟩, .int .i64 0, .string ⟨#[]⟩, .int .i64 0, .int .i64 0, .int .i64 0, .int .i64 0, .int .i64 0, .int .i64 0, .int .i64 0, .int .i64 0] 43 (by kernel_rfl) ?_
  intro n17 w18 hnn17 hsn17 hBn17 hTn17
  have hnen1n17 : n1 ≠ n17 := by have := hBn1.lt; omega
  have hnen3n17 : n3 ≠ n17 := by have := hBn3.lt; omega
  have hnen5n17 : n5 ≠ n17 := by have := hBn5.lt; omega
  have hnen9n17 : n9 ≠ n17 := by have := hBn9.lt; omega
  have hnen13n17 : n13 ≠ n17 := by have := hBn13.lt; omega
  have hgen17 : w.heap.size ≤ n17 := by have := hT0.size; omega
  replace hBn1 := hBn1.keep hTn17 (fun h => h)
  replace hBn3 := hBn3.keep hTn17 (fun h => h)
  replace hBn5 := hBn5.keep hTn17 (fun h => h)
  replace hBn9 := hBn9.keep hTn17 (fun h => h)
  replace hBn13 := hBn13.keep hTn17 (fun h => h)
  replace hT0 := hT0.trans hTn17 (fun _ _ h => h.elim)
  simp only [Act.put, List.setIfInBounds_toArray, List.set_cons_zero, List.set_cons_succ]
  refine dw_put (by kernel_rfl) 43 (.tmp 7) (.tmp 20) rfl n17 0 rfl (.agg #[(.bool (r.acc) : Value), .int .i64 r.side, .string r.fb, .int .i64 r.fn, .string r.tb, .int .i64 r.tn, .int .i64 r.s0, .int .i64 r.s1, .int .i64 r.d0, .int .i64 r.d1, .int .i64 r.mask, .int .i64 r.flags, .int .i64 r.classes]) rfl _ _ hBn17 [(.bool (r.acc) : Value), .int .i64 r.side, .string r.fb, .int .i64 r.fn, .string r.tb, .int .i64 r.tn, .int .i64 r.s0, .int .i64 r.s1, .int .i64 r.d0, .int .i64 r.d1, .int .i64 r.mask, .int .i64 r.flags, .int .i64 r.classes] rfl (Nat.le_of_ble_eq_true rfl) (by kernel_rfl) (by kernel_rfl) [(.bool (r.acc) : Value), .int .i64 r.side, .string r.fb, .int .i64 r.fn, .string r.tb, .int .i64 r.tn, .int .i64 r.s0, .int .i64 r.s1, .int .i64 r.d0, .int .i64 r.d1, .int .i64 r.mask, .int .i64 r.flags, .int .i64 r.classes] rfl ?_
  intro w19 hBw19_ hTw19 hSw19
  replace hBn1 := hBn1.keep hTw19 (by intro h; omega)
  replace hBn3 := hBn3.keep hTw19 (by intro h; omega)
  replace hBn5 := hBn5.keep hTw19 (by intro h; omega)
  replace hBn9 := hBn9.keep hTw19 (by intro h; omega)
  replace hBn13 := hBn13.keep hTw19 (by intro h; omega)
  replace hT0 := hT0.trans hTw19 (fun i hi h => by first | omega | (subst h; omega) | exact h | exact .inl h | exact .inr h)
  clear hBn17
  have hBn17 := hBw19_
  clear hBw19_
  simp only [Act.put]
  refine wl_nil ?_
  refine hK8 _ _ ?_
  refine wp_seq_k fun K9 hK9 => ?_
  refine wl_region ?_
  refine dw_val (by kernel_rfl) (.pointer (some ⟨n17, 1, none⟩)) (by kernel_rfl) ?_
  simp only [Act.put, List.setIfInBounds_toArray, List.set_cons_zero, List.set_cons_succ]
  refine dw_put (by kernel_rfl) 3 (.tmp 21) (.const (.int .i64 0)) rfl n17 1 rfl (.int .i64 0) rfl _ _ hBn17 [(.int .i64 0 : Value)] rfl (Nat.le_of_ble_eq_true rfl) (by kernel_rfl) (by kernel_rfl) [(.bool (r.acc) : Value), .int .i64 0, .string r.fb, .int .i64 r.fn, .string r.tb, .int .i64 r.tn, .int .i64 r.s0, .int .i64 r.s1, .int .i64 r.d0, .int .i64 r.d1, .int .i64 r.mask, .int .i64 r.flags, .int .i64 r.classes] rfl ?_
  intro w20 hBw20_ hTw20 hSw20
  replace hBn1 := hBn1.keep hTw20 (by intro h; omega)
  replace hBn3 := hBn3.keep hTw20 (by intro h; omega)
  replace hBn5 := hBn5.keep hTw20 (by intro h; omega)
  replace hBn9 := hBn9.keep hTw20 (by intro h; omega)
  replace hBn13 := hBn13.keep hTw20 (by intro h; omega)
  replace hT0 := hT0.trans hTw20 (fun i hi h => by first | omega | (subst h; omega) | exact h | exact .inl h | exact .inr h)
  clear hBn17
  have hBn17 := hBw20_
  clear hBw20_
  simp only [Act.put]
  refine wl_nil ?_
  refine hK9 _ _ ?_
  refine wp_seq_k fun K10 hK10 => ?_
  refine wl_region ?_
  refine dw_row (by kernel_rfl) 43 (.tmp 5) rfl n9 0 rfl _ _ hBn9 [(.bool (r.acc) : Value), .int .i64 1, .string r.fb, .int .i64 r.fn, .string r.tb, .int .i64 r.tn, .int .i64 r.s0, .int .i64 r.s1, .int .i64 r.d0, .int .i64 r.d1, .int .i64 r.mask, .int .i64 r.flags, .int .i64 r.classes] rfl _ Try.underlying43 rfl (by kernel_rfl) ?_
  simp only [Act.put, List.setIfInBounds_toArray, List.set_cons_zero, List.set_cons_succ]
  refine dw_row (by kernel_rfl) 34 (.tmp 3) rfl n3 0 rfl _ _ hBn3 [(.string a.src : Value), .string a.dst, .int .i64 a.from_, .int .i64 a.to_, .int .u32 a.seq, .int .u32 a.ack, .int .i64 a.flags, .int .i64 a.win, .int .i64 a.urg, .int .i64 a.mss, .int .i64 a.scale, .bool (a.sack), .slice a.ba a.bn a.bc, .bool (a.timed), .int .u32 a.time, .int .u32 a.echo, .string a.data, .int .i64 a.side, .int .i64 a.class_] rfl _ Try.underlying34 rfl (by kernel_rfl) ?_
  simp only [Act.put, List.setIfInBounds_toArray, List.set_cons_zero, List.set_cons_succ]
  refine dw_ret (by kernel_rfl) 10 #[(.agg #[(.bool (r.acc) : Value), .int .i64 1, .string r.fb, .int .i64 r.fn, .string r.tb, .int .i64 r.tn, .int .i64 r.s0, .int .i64 r.s1, .int .i64 r.d0, .int .i64 r.d1, .int .i64 r.mask, .int .i64 r.flags, .int .i64 r.classes] : Value), .agg #[(.string a.src : Value), .string a.dst, .int .i64 a.from_, .int .i64 a.to_, .int .u32 a.seq, .int .u32 a.ack, .int .i64 a.flags, .int .i64 a.win, .int .i64 a.urg, .int .i64 a.mss, .int .i64 a.scale, .bool (a.sack), .slice a.ba a.bn a.bc, .bool (a.timed), .int .u32 a.time, .int .u32 a.echo, .string a.data, .int .i64 a.side, .int .i64 a.class_]] (by kernel_rfl) (hx ▸ one_any { r with side := 1 } a hsm.1 hsm.2 hsrc hdst w20) ?_
  intro w21 hb
  have ht22 : Touch (fun _ => False) w20 w21 := Touch.none hb
  replace hBn1 := hBn1.keep ht22 (fun h => h)
  replace hBn3 := hBn3.keep ht22 (fun h => h)
  replace hBn5 := hBn5.keep ht22 (fun h => h)
  replace hBn9 := hBn9.keep ht22 (fun h => h)
  replace hBn13 := hBn13.keep ht22 (fun h => h)
  replace hBn17 := hBn17.keep ht22 (fun h => h)
  replace hT0 := hT0.trans ht22 (fun _ _ h => h.elim)
  clear hb
  simp only [Act.put, List.setIfInBounds_toArray, List.set_cons_zero, List.set_cons_succ]
  refine dw_val (by kernel_rfl) (.bool true) (by kernel_rfl) ?_
  simp only [Act.put, List.setIfInBounds_toArray, List.set_cons_zero, List.set_cons_succ]
  refine wl_nil ?_
  refine hK10 _ _ ?_
  refine wp_seq_k fun K11 hK11 => ?_
  refine wl_region ?_
  refine dw_row (by kernel_rfl) 43 (.tmp 6) rfl n13 0 rfl _ _ hBn13 [(.bool (r.acc) : Value), .int .i64 2, .string r.fb, .int .i64 r.fn, .string r.tb, .int .i64 r.tn, .int .i64 r.s0, .int .i64 r.s1, .int .i64 r.d0, .int .i64 r.d1, .int .i64 r.mask, .int .i64 r.flags, .int .i64 r.classes] rfl _ Try.underlying43 rfl (by kernel_rfl) ?_
  simp only [Act.put, List.setIfInBounds_toArray, List.set_cons_zero, List.set_cons_succ]
  refine dw_row (by kernel_rfl) 34 (.tmp 3) rfl n3 0 rfl _ _ hBn3 [(.string a.src : Value), .string a.dst, .int .i64 a.from_, .int .i64 a.to_, .int .u32 a.seq, .int .u32 a.ack, .int .i64 a.flags, .int .i64 a.win, .int .i64 a.urg, .int .i64 a.mss, .int .i64 a.scale, .bool (a.sack), .slice a.ba a.bn a.bc, .bool (a.timed), .int .u32 a.time, .int .u32 a.echo, .string a.data, .int .i64 a.side, .int .i64 a.class_] rfl _ Try.underlying34 rfl (by kernel_rfl) ?_
  simp only [Act.put, List.setIfInBounds_toArray, List.set_cons_zero, List.set_cons_succ]
  refine dw_ret (by kernel_rfl) 10 #[(.agg #[(.bool (r.acc) : Value), .int .i64 2, .string r.fb, .int .i64 r.fn, .string r.tb, .int .i64 r.tn, .int .i64 r.s0, .int .i64 r.s1, .int .i64 r.d0, .int .i64 r.d1, .int .i64 r.mask, .int .i64 r.flags, .int .i64 r.classes] : Value), .agg #[(.string a.src : Value), .string a.dst, .int .i64 a.from_, .int .i64 a.to_, .int .u32 a.seq, .int .u32 a.ack, .int .i64 a.flags, .int .i64 a.win, .int .i64 a.urg, .int .i64 a.mss, .int .i64 a.scale, .bool (a.sack), .slice a.ba a.bn a.bc, .bool (a.timed), .int .u32 a.time, .int .u32 a.echo, .string a.data, .int .i64 a.side, .int .i64 a.class_]] (by kernel_rfl) (hy ▸ one_any { r with side := 2 } a hsm.1 hsm.2 hsrc hdst w21) ?_
  intro w23 hb
  have ht24 : Touch (fun _ => False) w21 w23 := Touch.none hb
  replace hBn1 := hBn1.keep ht24 (fun h => h)
  replace hBn3 := hBn3.keep ht24 (fun h => h)
  replace hBn5 := hBn5.keep ht24 (fun h => h)
  replace hBn9 := hBn9.keep ht24 (fun h => h)
  replace hBn13 := hBn13.keep ht24 (fun h => h)
  replace hBn17 := hBn17.keep ht24 (fun h => h)
  replace hT0 := hT0.trans ht24 (fun _ _ h => h.elim)
  clear hb
  simp only [Act.put, List.setIfInBounds_toArray, List.set_cons_zero, List.set_cons_succ]
  refine dw_val (by kernel_rfl) (.bool false) (by kernel_rfl) ?_
  simp only [Act.put, List.setIfInBounds_toArray, List.set_cons_zero, List.set_cons_succ]
  refine wl_nil ?_
  refine hK11 _ _ ?_
  refine wp_seq_k fun K12 hK12 => ?_
  refine wl_region ?_
  refine dw_val (by kernel_rfl) (.bool true) (by kernel_rfl) ?_
  simp only [Act.put, List.setIfInBounds_toArray, List.set_cons_zero, List.set_cons_succ]
  refine dw_val (by kernel_rfl) (.bool true) (by kernel_rfl) ?_
  simp only [Act.put, List.setIfInBounds_toArray, List.set_cons_zero, List.set_cons_succ]
  refine dw_val (by kernel_rfl) (.bool false) (by kernel_rfl) ?_
  simp only [Act.put, List.setIfInBounds_toArray, List.set_cons_zero, List.set_cons_succ]
  refine dw_val (by kernel_rfl) (.bool false) (by kernel_rfl) ?_
  simp only [Act.put, List.setIfInBounds_toArray, List.set_cons_zero, List.set_cons_succ]
  refine dw_val (by kernel_rfl) (.bool true) (by kernel_rfl) ?_
  simp only [Act.put, List.setIfInBounds_toArray, List.set_cons_zero, List.set_cons_succ]
  refine dw_val (by kernel_rfl) (.bool true) (by kernel_rfl) ?_
  simp only [Act.put, List.setIfInBounds_toArray, List.set_cons_zero, List.set_cons_succ]
  refine dw_val (by kernel_rfl) (.pointer (some ⟨n3, 17, none⟩)) (by kernel_rfl) ?_
  simp only [Act.put, List.setIfInBounds_toArray, List.set_cons_zero, List.set_cons_succ]
  refine dw_cell (by kernel_rfl) 3 (.tmp 34) rfl n3 17 rfl _ _ hBn3 (.int .i64 a.side) rfl _ Try.underlying3 rfl ?_
  simp only [Act.put, List.setIfInBounds_toArray, List.set_cons_zero, List.set_cons_succ]
  refine dw_bool (by kernel_rfl) (a.side != 1) (by kernel_rfl) (fun hc => absurd hc (by simp [hs1])) (fun hc => ?_)
  simp only [Act.put, List.setIfInBounds_toArray, List.set_cons_zero, List.set_cons_succ]
  refine dw_val (by kernel_rfl) (.bool false) (by kernel_rfl) ?_
  simp only [Act.put, List.setIfInBounds_toArray, List.set_cons_zero, List.set_cons_succ]
  refine dw_no (by kernel_rfl) ?_
  simp only [Act.put, List.setIfInBounds_toArray, List.set_cons_zero, List.set_cons_succ]
  refine dw_no (by kernel_rfl) ?_
  simp only [Act.put, List.setIfInBounds_toArray, List.set_cons_zero, List.set_cons_succ]
  refine dw_no (by kernel_rfl) ?_
  simp only [Act.put, List.setIfInBounds_toArray, List.set_cons_zero, List.set_cons_succ]
  refine dw_val (by kernel_rfl) (.bool false) (by kernel_rfl) ?_
  simp only [Act.put, List.setIfInBounds_toArray, List.set_cons_zero, List.set_cons_succ]
  refine dw_val (by kernel_rfl) (.bool false) (by kernel_rfl) ?_
  simp only [Act.put, List.setIfInBounds_toArray, List.set_cons_zero, List.set_cons_succ]
  refine dw_row (by kernel_rfl) 43 (.tmp 7) rfl n17 0 rfl _ _ hBn17 [(.bool (r.acc) : Value), .int .i64 0, .string r.fb, .int .i64 r.fn, .string r.tb, .int .i64 r.tn, .int .i64 r.s0, .int .i64 r.s1, .int .i64 r.d0, .int .i64 r.d1, .int .i64 r.mask, .int .i64 r.flags, .int .i64 r.classes] rfl _ Try.underlying43 rfl (by kernel_rfl) ?_
  simp only [Act.put, List.setIfInBounds_toArray, List.set_cons_zero, List.set_cons_succ]
  refine dw_row (by kernel_rfl) 34 (.tmp 3) rfl n3 0 rfl _ _ hBn3 [(.string a.src : Value), .string a.dst, .int .i64 a.from_, .int .i64 a.to_, .int .u32 a.seq, .int .u32 a.ack, .int .i64 a.flags, .int .i64 a.win, .int .i64 a.urg, .int .i64 a.mss, .int .i64 a.scale, .bool (a.sack), .slice a.ba a.bn a.bc, .bool (a.timed), .int .u32 a.time, .int .u32 a.echo, .string a.data, .int .i64 a.side, .int .i64 a.class_] rfl _ Try.underlying34 rfl (by kernel_rfl) ?_
  simp only [Act.put, List.setIfInBounds_toArray, List.set_cons_zero, List.set_cons_succ]
  refine dw_ret (by kernel_rfl) 10 #[(.agg #[(.bool (r.acc) : Value), .int .i64 0, .string r.fb, .int .i64 r.fn, .string r.tb, .int .i64 r.tn, .int .i64 r.s0, .int .i64 r.s1, .int .i64 r.d0, .int .i64 r.d1, .int .i64 r.mask, .int .i64 r.flags, .int .i64 r.classes] : Value), .agg #[(.string a.src : Value), .string a.dst, .int .i64 a.from_, .int .i64 a.to_, .int .u32 a.seq, .int .u32 a.ack, .int .i64 a.flags, .int .i64 a.win, .int .i64 a.urg, .int .i64 a.mss, .int .i64 a.scale, .bool (a.sack), .slice a.ba a.bn a.bc, .bool (a.timed), .int .u32 a.time, .int .u32 a.echo, .string a.data, .int .i64 a.side, .int .i64 a.class_]] (by kernel_rfl) (hz ▸ one_any { r with side := 0 } a hsm.1 hsm.2 hsrc hdst w23) ?_
  intro w25 hb
  have ht26 : Touch (fun _ => False) w23 w25 := Touch.none hb
  replace hBn1 := hBn1.keep ht26 (fun h => h)
  replace hBn3 := hBn3.keep ht26 (fun h => h)
  replace hBn5 := hBn5.keep ht26 (fun h => h)
  replace hBn9 := hBn9.keep ht26 (fun h => h)
  replace hBn13 := hBn13.keep ht26 (fun h => h)
  replace hBn17 := hBn17.keep ht26 (fun h => h)
  replace hT0 := hT0.trans ht26 (fun _ _ h => h.elim)
  clear hb
  simp only [Act.put, List.setIfInBounds_toArray, List.set_cons_zero, List.set_cons_succ]
  refine dw_val (by kernel_rfl) (.bool true) (by kernel_rfl) ?_
  simp only [Act.put, List.setIfInBounds_toArray, List.set_cons_zero, List.set_cons_succ]
  refine dw_val (by kernel_rfl) (.bool true) (by kernel_rfl) ?_
  simp only [Act.put, List.setIfInBounds_toArray, List.set_cons_zero, List.set_cons_succ]
  refine dw_no (by kernel_rfl) ?_
  simp only [Act.put, List.setIfInBounds_toArray, List.set_cons_zero, List.set_cons_succ]
  refine dw_val (by kernel_rfl) (.bool true) (by kernel_rfl) ?_
  simp only [Act.put, List.setIfInBounds_toArray, List.set_cons_zero, List.set_cons_succ]
  refine dw_val (by kernel_rfl) (.bool true) (by kernel_rfl) ?_
  simp only [Act.put, List.setIfInBounds_toArray, List.set_cons_zero, List.set_cons_succ]
  refine dw_val (by kernel_rfl) (.bool true) (by kernel_rfl) ?_
  simp only [Act.put, List.setIfInBounds_toArray, List.set_cons_zero, List.set_cons_succ]
  refine dw_val (by kernel_rfl) (.bool true) (by kernel_rfl) ?_
  simp only [Act.put, List.setIfInBounds_toArray, List.set_cons_zero, List.set_cons_succ]
  refine dw_val (by kernel_rfl) (.bool true) (by kernel_rfl) ?_
  simp only [Act.put, List.setIfInBounds_toArray, List.set_cons_zero, List.set_cons_succ]
  refine dw_val (by kernel_rfl) (.bool true) (by kernel_rfl) ?_
  simp only [Act.put, List.setIfInBounds_toArray, List.set_cons_zero, List.set_cons_succ]
  refine dw_val (by kernel_rfl) (.bool false) (by kernel_rfl) ?_
  simp only [Act.put, List.setIfInBounds_toArray, List.set_cons_zero, List.set_cons_succ]
  refine dw_val (by kernel_rfl) (.bool false) (by kernel_rfl) ?_
  simp only [Act.put, List.setIfInBounds_toArray, List.set_cons_zero, List.set_cons_succ]
  refine dw_val (by kernel_rfl) (.pointer (some ⟨n3, 17, none⟩)) (by kernel_rfl) ?_
  simp only [Act.put, List.setIfInBounds_toArray, List.set_cons_zero, List.set_cons_succ]
  refine dw_cell (by kernel_rfl) 3 (.tmp 57) rfl n3 17 rfl _ _ hBn3 (.int .i64 a.side) rfl _ Try.underlying3 rfl ?_
  simp only [Act.put, List.setIfInBounds_toArray, List.set_cons_zero, List.set_cons_succ]
  refine dw_bool (by kernel_rfl) (a.side == 1) (by kernel_rfl) (fun hc => ?_) (fun hc => absurd hc (by simp [hs1]))
  simp only [Act.put, List.setIfInBounds_toArray, List.set_cons_zero, List.set_cons_succ]
  refine dw_val (by kernel_rfl) (.bool true) (by kernel_rfl) ?_
  simp only [Act.put, List.setIfInBounds_toArray, List.set_cons_zero, List.set_cons_succ]
  refine dw_val (by kernel_rfl) (.bool true) (by kernel_rfl) ?_
  simp only [Act.put, List.setIfInBounds_toArray, List.set_cons_zero, List.set_cons_succ]
  refine dw_val (by kernel_rfl) (.bool true) (by kernel_rfl) ?_
  simp only [Act.put, List.setIfInBounds_toArray, List.set_cons_zero, List.set_cons_succ]
  refine dw_val (by kernel_rfl) (.bool false) (by kernel_rfl) ?_
  simp only [Act.put, List.setIfInBounds_toArray, List.set_cons_zero, List.set_cons_succ]
  refine dw_val (by kernel_rfl) (.bool true) (by kernel_rfl) ?_
  simp only [Act.put, List.setIfInBounds_toArray, List.set_cons_zero, List.set_cons_succ]
  refine dw_val (by kernel_rfl) (.bool true) (by kernel_rfl) ?_
  simp only [Act.put, List.setIfInBounds_toArray, List.set_cons_zero, List.set_cons_succ]
  refine dw_no (by kernel_rfl) ?_
  simp only [Act.put, List.setIfInBounds_toArray, List.set_cons_zero, List.set_cons_succ]
  refine dw_no (by kernel_rfl) ?_
  simp only [Act.put, List.setIfInBounds_toArray, List.set_cons_zero, List.set_cons_succ]
  refine dw_no (by kernel_rfl) ?_
  simp only [Act.put, List.setIfInBounds_toArray, List.set_cons_zero, List.set_cons_succ]
  refine dw_val (by kernel_rfl) (.bool true) (by kernel_rfl) ?_
  simp only [Act.put, List.setIfInBounds_toArray, List.set_cons_zero, List.set_cons_succ]
  refine dw_val (by kernel_rfl) (.bool true) (by kernel_rfl) ?_
  simp only [Act.put, List.setIfInBounds_toArray, List.set_cons_zero, List.set_cons_succ]
  refine dw_val (by kernel_rfl) (.bool true) (by kernel_rfl) ?_
  simp only [Act.put, List.setIfInBounds_toArray, List.set_cons_zero, List.set_cons_succ]
  refine dw_ret (by kernel_rfl) 9 #[] (by kernel_rfl) (known_any w25) ?_
  intro w27 hb
  have ht28 : Touch (fun _ => False) w25 w27 := Touch.none hb
  replace hBn1 := hBn1.keep ht28 (fun h => h)
  replace hBn3 := hBn3.keep ht28 (fun h => h)
  replace hBn5 := hBn5.keep ht28 (fun h => h)
  replace hBn9 := hBn9.keep ht28 (fun h => h)
  replace hBn13 := hBn13.keep ht28 (fun h => h)
  replace hBn17 := hBn17.keep ht28 (fun h => h)
  replace hT0 := hT0.trans ht28 (fun _ _ h => h.elim)
  clear hb
  simp only [Act.put, List.setIfInBounds_toArray, List.set_cons_zero, List.set_cons_succ]
  refine dw_val (by kernel_rfl) (.bool true) (by kernel_rfl) ?_
  simp only [Act.put, List.setIfInBounds_toArray, List.set_cons_zero, List.set_cons_succ]
  refine dw_val (by kernel_rfl) (.bool true) (by kernel_rfl) ?_
  simp only [Act.put, List.setIfInBounds_toArray, List.set_cons_zero, List.set_cons_succ]
  refine wl_nil ?_
  refine hK12 _ _ ?_
  refine wp_ret ?_
  repeat (first | with_reducible refine ret_then ?_ | with_reducible refine ret_block ?_)
  refine bodyPost_ret (v := .bool true) (by kernel_rfl) rfl ?_
  exact ⟨rfl, hT0.toBelow⟩
set_option maxRecDepth 100000 in
set_option maxHeartbeats 4000000 in
theorem sides_1_false (r : Rl) (a : Ak) (w : World) (hl : lightB (fun _ => r) 1 a = true) (hsm : r.fb.size ≤ 100 ∧ r.tb.size ≤ 100) (hsrc : a.src.size ≤ 100) (hdst : a.dst.size ≤ 100) (hs1 : a.side = 1) (hs2 : a.side ≠ 2) (hx : oneB { r with side := 1 } a = false) (hy : oneB { r with side := 2 } a = false) (hz : oneB { r with side := 0 } a = false) :
    Calls Try.prog 7 #[.agg r.cs.toArray, .agg a.cs.toArray] w fun e w' => e = .returned (.bool true) ∧ Below w.heap.size w w' := by
  have hT0 := Touch.refl (fun _ => False) w
  go_enter Try.func7, Try.ntmps7
  refine wp_seq_k fun K1 hK1 => ?_
  refine wl_region ?_
  refine dw_new (by kernel_rfl) [(.bool (r.acc) : Value), .int .i64 r.side, .string r.fb, .int .i64 r.fn, .string r.tb, .int .i64 r.tn, .int .i64 r.s0, .int .i64 r.s1, .int .i64 r.d0, .int .i64 r.d1, .int .i64 r.mask, .int .i64 r.flags, .int .i64 r.classes] 43 (by kernel_rfl) ?_
  intro n1 w2 hnn1 hsn1 hBn1 hTn1
  have hgen1 : w.heap.size ≤ n1 := by have := hT0.size; omega
  replace hT0 := hT0.trans hTn1 (fun _ _ h => h.elim)
  simp only [Act.put, List.setIfInBounds_toArray, List.set_cons_zero, List.set_cons_succ]
  refine dw_new (by kernel_rfl) [(.string a.src : Value), .string a.dst, .int .i64 a.from_, .int .i64 a.to_, .int .u32 a.seq, .int .u32 a.ack, .int .i64 a.flags, .int .i64 a.win, .int .i64 a.urg, .int .i64 a.mss, .int .i64 a.scale, .bool (a.sack), .slice a.ba a.bn a.bc, .bool (a.timed), .int .u32 a.time, .int .u32 a.echo, .string a.data, .int .i64 a.side, .int .i64 a.class_] 34 (by kernel_rfl) ?_
  intro n3 w4 hnn3 hsn3 hBn3 hTn3
  have hnen1n3 : n1 ≠ n3 := by have := hBn1.lt; omega
  have hgen3 : w.heap.size ≤ n3 := by have := hT0.size; omega
  replace hBn1 := hBn1.keep hTn3 (fun h => h)
  replace hT0 := hT0.trans hTn3 (fun _ _ h => h.elim)
  simp only [Act.put, List.setIfInBounds_toArray, List.set_cons_zero, List.set_cons_succ]
  refine dw_val (by kernel_rfl) (.bool false) (by kernel_rfl) ?_
  simp only [Act.put, List.setIfInBounds_toArray, List.set_cons_zero, List.set_cons_succ]
  refine wl_nil ?_
  refine hK1 _ _ ?_
  refine wp_seq_k fun K2 hK2 => ?_
  refine wp_seq_k fun K3 hK3 => ?_
  refine wl_region ?_
  refine dw_row (by kernel_rfl) 43 (.tmp 2) rfl n1 0 rfl _ _ hBn1 [(.bool (r.acc) : Value), .int .i64 r.side, .string r.fb, .int .i64 r.fn, .string r.tb, .int .i64 r.tn, .int .i64 r.s0, .int .i64 r.s1, .int .i64 r.d0, .int .i64 r.d1, .int .i64 r.mask, .int .i64 r.flags, .int .i64 r.classes] rfl _ Try.underlying43 rfl (by kernel_rfl) ?_
  simp only [Act.put, List.setIfInBounds_toArray, List.set_cons_zero, List.set_cons_succ]
  refine dw_newSlice (by kernel_rfl) [(.bool (r.acc) : Value), .int .i64 r.side, .string r.fb, .int .i64 r.fn, .string r.tb, .int .i64 r.tn, .int .i64 r.s0, .int .i64 r.s1, .int .i64 r.d0, .int .i64 r.d1, .int .i64 r.mask, .int .i64 r.flags, .int .i64 r.classes] 43 1 (by kernel_rfl) ?_
  intro n5 w6 hnn5 hsn5 hBn5 hTn5
  have hnen1n5 : n1 ≠ n5 := by have := hBn1.lt; omega
  have hnen3n5 : n3 ≠ n5 := by have := hBn3.lt; omega
  have hgen5 : w.heap.size ≤ n5 := by have := hT0.size; omega
  replace hBn1 := hBn1.keep hTn5 (fun h => h)
  replace hBn3 := hBn3.keep hTn5 (fun h => h)
  replace hT0 := hT0.trans hTn5 (fun _ _ h => h.elim)
  simp only [Act.put, List.setIfInBounds_toArray, List.set_cons_zero, List.set_cons_succ]
  refine dw_row (by kernel_rfl) 34 (.tmp 3) rfl n3 0 rfl _ _ hBn3 [(.string a.src : Value), .string a.dst, .int .i64 a.from_, .int .i64 a.to_, .int .u32 a.seq, .int .u32 a.ack, .int .i64 a.flags, .int .i64 a.win, .int .i64 a.urg, .int .i64 a.mss, .int .i64 a.scale, .bool (a.sack), .slice a.ba a.bn a.bc, .bool (a.timed), .int .u32 a.time, .int .u32 a.echo, .string a.data, .int .i64 a.side, .int .i64 a.class_] rfl _ Try.underlying34 rfl (by kernel_rfl) ?_
  simp only [Act.put, List.setIfInBounds_toArray, List.set_cons_zero, List.set_cons_succ]
  refine dw_ret (by kernel_rfl) 8 #[(.slice (some ⟨n5, 0, none⟩) 1 1 : Value), .agg #[(.string a.src : Value), .string a.dst, .int .i64 a.from_, .int .i64 a.to_, .int .u32 a.seq, .int .u32 a.ack, .int .i64 a.flags, .int .i64 a.win, .int .i64 a.urg, .int .i64 a.mss, .int .i64 a.scale, .bool (a.sack), .slice a.ba a.bn a.bc, .bool (a.timed), .int .u32 a.time, .int .u32 a.echo, .string a.data, .int .i64 a.side, .int .i64 a.class_]] (by kernel_rfl) (light_any (some ⟨n5, 0, none⟩) 1 1 (fun _ => r) a w6 (rule1 (r := r) hBn5) (by decide)) ?_
  intro w7 hb
  have ht8 : Touch (fun _ => False) w6 w7 := Touch.none hb
  replace hBn1 := hBn1.keep ht8 (fun h => h)
  replace hBn3 := hBn3.keep ht8 (fun h => h)
  replace hBn5 := hBn5.keep ht8 (fun h => h)
  replace hT0 := hT0.trans ht8 (fun _ _ h => h.elim)
  clear hb
  simp only [Act.put, List.setIfInBounds_toArray, List.set_cons_zero, List.set_cons_succ]
  refine dw_bool (by kernel_rfl) (!(lightB (fun _ => r) 1 a)) (by kernel_rfl) (fun hc => absurd hc (by simp [hl])) (fun hc => ?_)
  simp only [Act.put, List.setIfInBounds_toArray, List.set_cons_zero, List.set_cons_succ]
  refine wl_nil ?_
  refine hK3 _ _ ?_
  refine wp_cond_false rfl ?_
  refine wp_skip ?_
  refine hK2 _ _ ?_
  refine wp_seq_k fun K4 hK4 => ?_
  refine wl_region ?_
  refine dw_row (by kernel_rfl) 43 (.tmp 2) rfl n1 0 rfl _ _ hBn1 [(.bool (r.acc) : Value), .int .i64 r.side, .string r.fb, .int .i64 r.fn, .string r.tb, .int .i64 r.tn, .int .i64 r.s0, .int .i64 r.s1, .int .i64 r.d0, .int .i64 r.d1, .int .i64 r.mask, .int .i64 r.flags, .int .i64 r.classes] rfl _ Try.underlying43 rfl (by kernel_rfl) ?_
  simp only [Act.put, List.setIfInBounds_toArray, List.set_cons_zero, List.set_cons_succ]
  refine dw_new (by kernel_rfl) [(.bool false : Value), .int .i64 0, .string ⟨#[]⟩, .int .i64 0, .string ⟨#[]⟩, .int .i64 0, .int .i64 0, .int .i64 0, .int .i64 0, .int .i64 0, .int .i64 0, .int .i64 0, .int .i64 0] 43 (by kernel_rfl) ?_
  intro n9 w10 hnn9 hsn9 hBn9 hTn9
  have hnen1n9 : n1 ≠ n9 := by have := hBn1.lt; omega
  have hnen3n9 : n3 ≠ n9 := by have := hBn3.lt; omega
  have hnen5n9 : n5 ≠ n9 := by have := hBn5.lt; omega
  have hgen9 : w.heap.size ≤ n9 := by have := hT0.size; omega
  replace hBn1 := hBn1.keep hTn9 (fun h => h)
  replace hBn3 := hBn3.keep hTn9 (fun h => h)
  replace hBn5 := hBn5.keep hTn9 (fun h => h)
  replace hT0 := hT0.trans hTn9 (fun _ _ h => h.elim)
  simp only [Act.put, List.setIfInBounds_toArray, List.set_cons_zero, List.set_cons_succ]
  refine dw_put (by kernel_rfl) 43 (.tmp 5) (.tmp 16) rfl n9 0 rfl (.agg #[(.bool (r.acc) : Value), .int .i64 r.side, .string r.fb, .int .i64 r.fn, .string r.tb, .int .i64 r.tn, .int .i64 r.s0, .int .i64 r.s1, .int .i64 r.d0, .int .i64 r.d1, .int .i64 r.mask, .int .i64 r.flags, .int .i64 r.classes]) rfl _ _ hBn9 [(.bool (r.acc) : Value), .int .i64 r.side, .string r.fb, .int .i64 r.fn, .string r.tb, .int .i64 r.tn, .int .i64 r.s0, .int .i64 r.s1, .int .i64 r.d0, .int .i64 r.d1, .int .i64 r.mask, .int .i64 r.flags, .int .i64 r.classes] rfl (Nat.le_of_ble_eq_true rfl) (by kernel_rfl) (by kernel_rfl) [(.bool (r.acc) : Value), .int .i64 r.side, .string r.fb, .int .i64 r.fn, .string r.tb, .int .i64 r.tn, .int .i64 r.s0, .int .i64 r.s1, .int .i64 r.d0, .int .i64 r.d1, .int .i64 r.mask, .int .i64 r.flags, .int .i64 r.classes] rfl ?_
  intro w11 hBw11_ hTw11 hSw11
  replace hBn1 := hBn1.keep hTw11 (by intro h; omega)
  replace hBn3 := hBn3.keep hTw11 (by intro h; omega)
  replace hBn5 := hBn5.keep hTw11 (by intro h; omega)
  replace hT0 := hT0.trans hTw11 (fun i hi h => by first | omega | (subst h; omega) | exact h | exact .inl h | exact .inr h)
  clear hBn9
  have hBn9 := hBw11_
  clear hBw11_
  simp only [Act.put]
  refine wl_nil ?_
  refine hK4 _ _ ?_
  refine wp_seq_k fun K5 hK5 => ?_
  refine wl_region ?_
  refine dw_val (by kernel_rfl) (.pointer (some ⟨n9, 1, none⟩)) (by kernel_rfl) ?_
  simp only [Act.put, List.setIfInBounds_toArray, List.set_cons_zero, List.set_cons_succ]
  refine dw_put (by kernel_rfl) 3 (.tmp 17) (.const (.int .i64 1)) rfl n9 1 rfl (.int .i64 1) rfl _ _ hBn9 [(.int .i64 1 : Value)] rfl (Nat.le_of_ble_eq_true rfl) (by kernel_rfl) (by kernel_rfl) [(.bool (r.acc) : Value), .int .i64 1, .string r.fb, .int .i64 r.fn, .string r.tb, .int .i64 r.tn, .int .i64 r.s0, .int .i64 r.s1, .int .i64 r.d0, .int .i64 r.d1, .int .i64 r.mask, .int .i64 r.flags, .int .i64 r.classes] rfl ?_
  intro w12 hBw12_ hTw12 hSw12
  replace hBn1 := hBn1.keep hTw12 (by intro h; omega)
  replace hBn3 := hBn3.keep hTw12 (by intro h; omega)
  replace hBn5 := hBn5.keep hTw12 (by intro h; omega)
  replace hT0 := hT0.trans hTw12 (fun i hi h => by first | omega | (subst h; omega) | exact h | exact .inl h | exact .inr h)
  clear hBn9
  have hBn9 := hBw12_
  clear hBw12_
  simp only [Act.put]
  refine wl_nil ?_
  refine hK5 _ _ ?_
  refine wp_seq_k fun K6 hK6 => ?_
  refine wl_region ?_
  refine dw_row (by kernel_rfl) 43 (.tmp 2) rfl n1 0 rfl _ _ hBn1 [(.bool (r.acc) : Value), .int .i64 r.side, .string r.fb, .int .i64 r.fn, .string r.tb, .int .i64 r.tn, .int .i64 r.s0, .int .i64 r.s1, .int .i64 r.d0, .int .i64 r.d1, .int .i64 r.mask, .int .i64 r.flags, .int .i64 r.classes] rfl _ Try.underlying43 rfl (by kernel_rfl) ?_
  simp only [Act.put, List.setIfInBounds_toArray, List.set_cons_zero, List.set_cons_succ]
  refine dw_new (by kernel_rfl) [(.bool false : Value), .int .i64 0, .string ⟨#[]⟩, .int .i64 0, .string ⟨#[]⟩, .int .i64 0, .int .i64 0, .int .i64 0, .int .i64 0, .int .i64 0, .int .i64 0, .int .i64 0, .int .i64 0] 43 (by kernel_rfl) ?_
  intro n13 w14 hnn13 hsn13 hBn13 hTn13
  have hnen1n13 : n1 ≠ n13 := by have := hBn1.lt; omega
  have hnen3n13 : n3 ≠ n13 := by have := hBn3.lt; omega
  have hnen5n13 : n5 ≠ n13 := by have := hBn5.lt; omega
  have hnen9n13 : n9 ≠ n13 := by have := hBn9.lt; omega
  have hgen13 : w.heap.size ≤ n13 := by have := hT0.size; omega
  replace hBn1 := hBn1.keep hTn13 (fun h => h)
  replace hBn3 := hBn3.keep hTn13 (fun h => h)
  replace hBn5 := hBn5.keep hTn13 (fun h => h)
  replace hBn9 := hBn9.keep hTn13 (fun h => h)
  replace hT0 := hT0.trans hTn13 (fun _ _ h => h.elim)
  simp only [Act.put, List.setIfInBounds_toArray, List.set_cons_zero, List.set_cons_succ]
  refine dw_put (by kernel_rfl) 43 (.tmp 6) (.tmp 18) rfl n13 0 rfl (.agg #[(.bool (r.acc) : Value), .int .i64 r.side, .string r.fb, .int .i64 r.fn, .string r.tb, .int .i64 r.tn, .int .i64 r.s0, .int .i64 r.s1, .int .i64 r.d0, .int .i64 r.d1, .int .i64 r.mask, .int .i64 r.flags, .int .i64 r.classes]) rfl _ _ hBn13 [(.bool (r.acc) : Value), .int .i64 r.side, .string r.fb, .int .i64 r.fn, .string r.tb, .int .i64 r.tn, .int .i64 r.s0, .int .i64 r.s1, .int .i64 r.d0, .int .i64 r.d1, .int .i64 r.mask, .int .i64 r.flags, .int .i64 r.classes] rfl (Nat.le_of_ble_eq_true rfl) (by kernel_rfl) (by kernel_rfl) [(.bool (r.acc) : Value), .int .i64 r.side, .string r.fb, .int .i64 r.fn, .string r.tb, .int .i64 r.tn, .int .i64 r.s0, .int .i64 r.s1, .int .i64 r.d0, .int .i64 r.d1, .int .i64 r.mask, .int .i64 r.flags, .int .i64 r.classes] rfl ?_
  intro w15 hBw15_ hTw15 hSw15
  replace hBn1 := hBn1.keep hTw15 (by intro h; omega)
  replace hBn3 := hBn3.keep hTw15 (by intro h; omega)
  replace hBn5 := hBn5.keep hTw15 (by intro h; omega)
  replace hBn9 := hBn9.keep hTw15 (by intro h; omega)
  replace hT0 := hT0.trans hTw15 (fun i hi h => by first | omega | (subst h; omega) | exact h | exact .inl h | exact .inr h)
  clear hBn13
  have hBn13 := hBw15_
  clear hBw15_
  simp only [Act.put]
  refine wl_nil ?_
  refine hK6 _ _ ?_
  refine wp_seq_k fun K7 hK7 => ?_
  refine wl_region ?_
  refine dw_val (by kernel_rfl) (.pointer (some ⟨n13, 1, none⟩)) (by kernel_rfl) ?_
  simp only [Act.put, List.setIfInBounds_toArray, List.set_cons_zero, List.set_cons_succ]
  refine dw_put (by kernel_rfl) 3 (.tmp 19) (.const (.int .i64 2)) rfl n13 1 rfl (.int .i64 2) rfl _ _ hBn13 [(.int .i64 2 : Value)] rfl (Nat.le_of_ble_eq_true rfl) (by kernel_rfl) (by kernel_rfl) [(.bool (r.acc) : Value), .int .i64 2, .string r.fb, .int .i64 r.fn, .string r.tb, .int .i64 r.tn, .int .i64 r.s0, .int .i64 r.s1, .int .i64 r.d0, .int .i64 r.d1, .int .i64 r.mask, .int .i64 r.flags, .int .i64 r.classes] rfl ?_
  intro w16 hBw16_ hTw16 hSw16
  replace hBn1 := hBn1.keep hTw16 (by intro h; omega)
  replace hBn3 := hBn3.keep hTw16 (by intro h; omega)
  replace hBn5 := hBn5.keep hTw16 (by intro h; omega)
  replace hBn9 := hBn9.keep hTw16 (by intro h; omega)
  replace hT0 := hT0.trans hTw16 (fun i hi h => by first | omega | (subst h; omega) | exact h | exact .inl h | exact .inr h)
  clear hBn13
  have hBn13 := hBw16_
  clear hBw16_
  simp only [Act.put]
  refine wl_nil ?_
  refine hK7 _ _ ?_
  refine wp_seq_k fun K8 hK8 => ?_
  refine wl_region ?_
  refine dw_row (by kernel_rfl) 43 (.tmp 2) rfl n1 0 rfl _ _ hBn1 [(.bool (r.acc) : Value), .int .i64 r.side, .string r.fb, .int .i64 r.fn, .string r.tb, .int .i64 r.tn, .int .i64 r.s0, .int .i64 r.s1, .int .i64 r.d0, .int .i64 r.d1, .int .i64 r.mask, .int .i64 r.flags, .int .i64 r.classes] rfl _ Try.underlying43 rfl (by kernel_rfl) ?_
  simp only [Act.put, List.setIfInBounds_toArray, List.set_cons_zero, List.set_cons_succ]
  refine dw_new (by kernel_rfl) [(.bool false : Value), .int .i64 0, .string ⟨#[]⟩, .int .i64 0, .string ⟨#[]⟩, .int .i64 0, .int .i64 0, .int .i64 0, .int .i64 0, .int .i64 0, .int .i64 0, .int .i64 0, .int .i64 0] 43 (by kernel_rfl) ?_
  intro n17 w18 hnn17 hsn17 hBn17 hTn17
  have hnen1n17 : n1 ≠ n17 := by have := hBn1.lt; omega
  have hnen3n17 : n3 ≠ n17 := by have := hBn3.lt; omega
  have hnen5n17 : n5 ≠ n17 := by have := hBn5.lt; omega
  have hnen9n17 : n9 ≠ n17 := by have := hBn9.lt; omega
  have hnen13n17 : n13 ≠ n17 := by have := hBn13.lt; omega
  have hgen17 : w.heap.size ≤ n17 := by have := hT0.size; omega
  replace hBn1 := hBn1.keep hTn17 (fun h => h)
  replace hBn3 := hBn3.keep hTn17 (fun h => h)
  replace hBn5 := hBn5.keep hTn17 (fun h => h)
  replace hBn9 := hBn9.keep hTn17 (fun h => h)
  replace hBn13 := hBn13.keep hTn17 (fun h => h)
  replace hT0 := hT0.trans hTn17 (fun _ _ h => h.elim)
  simp only [Act.put, List.setIfInBounds_toArray, List.set_cons_zero, List.set_cons_succ]
  refine dw_put (by kernel_rfl) 43 (.tmp 7) (.tmp 20) rfl n17 0 rfl (.agg #[(.bool (r.acc) : Value), .int .i64 r.side, .string r.fb, .int .i64 r.fn, .string r.tb, .int .i64 r.tn, .int .i64 r.s0, .int .i64 r.s1, .int .i64 r.d0, .int .i64 r.d1, .int .i64 r.mask, .int .i64 r.flags, .int .i64 r.classes]) rfl _ _ hBn17 [(.bool (r.acc) : Value), .int .i64 r.side, .string r.fb, .int .i64 r.fn, .string r.tb, .int .i64 r.tn, .int .i64 r.s0, .int .i64 r.s1, .int .i64 r.d0, .int .i64 r.d1, .int .i64 r.mask, .int .i64 r.flags, .int .i64 r.classes] rfl (Nat.le_of_ble_eq_true rfl) (by kernel_rfl) (by kernel_rfl) [(.bool (r.acc) : Value), .int .i64 r.side, .string r.fb, .int .i64 r.fn, .string r.tb, .int .i64 r.tn, .int .i64 r.s0, .int .i64 r.s1, .int .i64 r.d0, .int .i64 r.d1, .int .i64 r.mask, .int .i64 r.flags, .int .i64 r.classes] rfl ?_
  intro w19 hBw19_ hTw19 hSw19
  replace hBn1 := hBn1.keep hTw19 (by intro h; omega)
  replace hBn3 := hBn3.keep hTw19 (by intro h; omega)
  replace hBn5 := hBn5.keep hTw19 (by intro h; omega)
  replace hBn9 := hBn9.keep hTw19 (by intro h; omega)
  replace hBn13 := hBn13.keep hTw19 (by intro h; omega)
  replace hT0 := hT0.trans hTw19 (fun i hi h => by first | omega | (subst h; omega) | exact h | exact .inl h | exact .inr h)
  clear hBn17
  have hBn17 := hBw19_
  clear hBw19_
  simp only [Act.put]
  refine wl_nil ?_
  refine hK8 _ _ ?_
  refine wp_seq_k fun K9 hK9 => ?_
  refine wl_region ?_
  refine dw_val (by kernel_rfl) (.pointer (some ⟨n17, 1, none⟩)) (by kernel_rfl) ?_
  simp only [Act.put, List.setIfInBounds_toArray, List.set_cons_zero, List.set_cons_succ]
  refine dw_put (by kernel_rfl) 3 (.tmp 21) (.const (.int .i64 0)) rfl n17 1 rfl (.int .i64 0) rfl _ _ hBn17 [(.int .i64 0 : Value)] rfl (Nat.le_of_ble_eq_true rfl) (by kernel_rfl) (by kernel_rfl) [(.bool (r.acc) : Value), .int .i64 0, .string r.fb, .int .i64 r.fn, .string r.tb, .int .i64 r.tn, .int .i64 r.s0, .int .i64 r.s1, .int .i64 r.d0, .int .i64 r.d1, .int .i64 r.mask, .int .i64 r.flags, .int .i64 r.classes] rfl ?_
  intro w20 hBw20_ hTw20 hSw20
  replace hBn1 := hBn1.keep hTw20 (by intro h; omega)
  replace hBn3 := hBn3.keep hTw20 (by intro h; omega)
  replace hBn5 := hBn5.keep hTw20 (by intro h; omega)
  replace hBn9 := hBn9.keep hTw20 (by intro h; omega)
  replace hBn13 := hBn13.keep hTw20 (by intro h; omega)
  replace hT0 := hT0.trans hTw20 (fun i hi h => by first | omega | (subst h; omega) | exact h | exact .inl h | exact .inr h)
  clear hBn17
  have hBn17 := hBw20_
  clear hBw20_
  simp only [Act.put]
  refine wl_nil ?_
  refine hK9 _ _ ?_
  refine wp_seq_k fun K10 hK10 => ?_
  refine wl_region ?_
  refine dw_row (by kernel_rfl) 43 (.tmp 5) rfl n9 0 rfl _ _ hBn9 [(.bool (r.acc) : Value), .int .i64 1, .string r.fb, .int .i64 r.fn, .string r.tb, .int .i64 r.tn, .int .i64 r.s0, .int .i64 r.s1, .int .i64 r.d0, .int .i64 r.d1, .int .i64 r.mask, .int .i64 r.flags, .int .i64 r.classes] rfl _ Try.underlying43 rfl (by kernel_rfl) ?_
  simp only [Act.put, List.setIfInBounds_toArray, List.set_cons_zero, List.set_cons_succ]
  refine dw_row (by kernel_rfl) 34 (.tmp 3) rfl n3 0 rfl _ _ hBn3 [(.string a.src : Value), .string a.dst, .int .i64 a.from_, .int .i64 a.to_, .int .u32 a.seq, .int .u32 a.ack, .int .i64 a.flags, .int .i64 a.win, .int .i64 a.urg, .int .i64 a.mss, .int .i64 a.scale, .bool (a.sack), .slice a.ba a.bn a.bc, .bool (a.timed), .int .u32 a.time, .int .u32 a.echo, .string a.data, .int .i64 a.side, .int .i64 a.class_] rfl _ Try.underlying34 rfl (by kernel_rfl) ?_
  simp only [Act.put, List.setIfInBounds_toArray, List.set_cons_zero, List.set_cons_succ]
  refine dw_ret (by kernel_rfl) 10 #[(.agg #[(.bool (r.acc) : Value), .int .i64 1, .string r.fb, .int .i64 r.fn, .string r.tb, .int .i64 r.tn, .int .i64 r.s0, .int .i64 r.s1, .int .i64 r.d0, .int .i64 r.d1, .int .i64 r.mask, .int .i64 r.flags, .int .i64 r.classes] : Value), .agg #[(.string a.src : Value), .string a.dst, .int .i64 a.from_, .int .i64 a.to_, .int .u32 a.seq, .int .u32 a.ack, .int .i64 a.flags, .int .i64 a.win, .int .i64 a.urg, .int .i64 a.mss, .int .i64 a.scale, .bool (a.sack), .slice a.ba a.bn a.bc, .bool (a.timed), .int .u32 a.time, .int .u32 a.echo, .string a.data, .int .i64 a.side, .int .i64 a.class_]] (by kernel_rfl) (hx ▸ one_any { r with side := 1 } a hsm.1 hsm.2 hsrc hdst w20) ?_
  intro w21 hb
  have ht22 : Touch (fun _ => False) w20 w21 := Touch.none hb
  replace hBn1 := hBn1.keep ht22 (fun h => h)
  replace hBn3 := hBn3.keep ht22 (fun h => h)
  replace hBn5 := hBn5.keep ht22 (fun h => h)
  replace hBn9 := hBn9.keep ht22 (fun h => h)
  replace hBn13 := hBn13.keep ht22 (fun h => h)
  replace hBn17 := hBn17.keep ht22 (fun h => h)
  replace hT0 := hT0.trans ht22 (fun _ _ h => h.elim)
  clear hb
  simp only [Act.put, List.setIfInBounds_toArray, List.set_cons_zero, List.set_cons_succ]
  refine dw_val (by kernel_rfl) (.bool false) (by kernel_rfl) ?_
  simp only [Act.put, List.setIfInBounds_toArray, List.set_cons_zero, List.set_cons_succ]
  refine wl_nil ?_
  refine hK10 _ _ ?_
  refine wp_seq_k fun K11 hK11 => ?_
  refine wl_region ?_
  refine dw_row (by kernel_rfl) 43 (.tmp 6) rfl n13 0 rfl _ _ hBn13 [(.bool (r.acc) : Value), .int .i64 2, .string r.fb, .int .i64 r.fn, .string r.tb, .int .i64 r.tn, .int .i64 r.s0, .int .i64 r.s1, .int .i64 r.d0, .int .i64 r.d1, .int .i64 r.mask, .int .i64 r.flags, .int .i64 r.classes] rfl _ Try.underlying43 rfl (by kernel_rfl) ?_
  simp only [Act.put, List.setIfInBounds_toArray, List.set_cons_zero, List.set_cons_succ]
  refine dw_row (by kernel_rfl) 34 (.tmp 3) rfl n3 0 rfl _ _ hBn3 [(.string a.src : Value), .string a.dst, .int .i64 a.from_, .int .i64 a.to_, .int .u32 a.seq, .int .u32 a.ack, .int .i64 a.flags, .int .i64 a.win, .int .i64 a.urg, .int .i64 a.mss, .int .i64 a.scale, .bool (a.sack), .slice a.ba a.bn a.bc, .bool (a.timed), .int .u32 a.time, .int .u32 a.echo, .string a.data, .int .i64 a.side, .int .i64 a.class_] rfl _ Try.underlying34 rfl (by kernel_rfl) ?_
  simp only [Act.put, List.setIfInBounds_toArray, List.set_cons_zero, List.set_cons_succ]
  refine dw_ret (by kernel_rfl) 10 #[(.agg #[(.bool (r.acc) : Value), .int .i64 2, .string r.fb, .int .i64 r.fn, .string r.tb, .int .i64 r.tn, .int .i64 r.s0, .int .i64 r.s1, .int .i64 r.d0, .int .i64 r.d1, .int .i64 r.mask, .int .i64 r.flags, .int .i64 r.classes] : Value), .agg #[(.string a.src : Value), .string a.dst, .int .i64 a.from_, .int .i64 a.to_, .int .u32 a.seq, .int .u32 a.ack, .int .i64 a.flags, .int .i64 a.win, .int .i64 a.urg, .int .i64 a.mss, .int .i64 a.scale, .bool (a.sack), .slice a.ba a.bn a.bc, .bool (a.timed), .int .u32 a.time, .int .u32 a.echo, .string a.data, .int .i64 a.side, .int .i64 a.class_]] (by kernel_rfl) (hy ▸ one_any { r with side := 2 } a hsm.1 hsm.2 hsrc hdst w21) ?_
  intro w23 hb
  have ht24 : Touch (fun _ => False) w21 w23 := Touch.none hb
  replace hBn1 := hBn1.keep ht24 (fun h => h)
  replace hBn3 := hBn3.keep ht24 (fun h => h)
  replace hBn5 := hBn5.keep ht24 (fun h => h)
  replace hBn9 := hBn9.keep ht24 (fun h => h)
  replace hBn13 := hBn13.keep ht24 (fun h => h)
  replace hBn17 := hBn17.keep ht24 (fun h => h)
  replace hT0 := hT0.trans ht24 (fun _ _ h => h.elim)
  clear hb
  simp only [Act.put, List.setIfInBounds_toArray, List.set_cons_zero, List.set_cons_succ]
  refine dw_val (by kernel_rfl) (.bool false) (by kernel_rfl) ?_
  simp only [Act.put, List.setIfInBounds_toArray, List.set_cons_zero, List.set_cons_succ]
  refine wl_nil ?_
  refine hK11 _ _ ?_
  refine wp_seq_k fun K12 hK12 => ?_
  refine wl_region ?_
  refine dw_val (by kernel_rfl) (.bool false) (by kernel_rfl) ?_
  simp only [Act.put, List.setIfInBounds_toArray, List.set_cons_zero, List.set_cons_succ]
  refine dw_val (by kernel_rfl) (.bool false) (by kernel_rfl) ?_
  simp only [Act.put, List.setIfInBounds_toArray, List.set_cons_zero, List.set_cons_succ]
  refine dw_no (by kernel_rfl) ?_
  simp only [Act.put, List.setIfInBounds_toArray, List.set_cons_zero, List.set_cons_succ]
  refine dw_val (by kernel_rfl) (.bool false) (by kernel_rfl) ?_
  simp only [Act.put, List.setIfInBounds_toArray, List.set_cons_zero, List.set_cons_succ]
  refine dw_val (by kernel_rfl) (.bool true) (by kernel_rfl) ?_
  simp only [Act.put, List.setIfInBounds_toArray, List.set_cons_zero, List.set_cons_succ]
  refine dw_val (by kernel_rfl) (.bool true) (by kernel_rfl) ?_
  simp only [Act.put, List.setIfInBounds_toArray, List.set_cons_zero, List.set_cons_succ]
  refine dw_val (by kernel_rfl) (.pointer (some ⟨n3, 17, none⟩)) (by kernel_rfl) ?_
  simp only [Act.put, List.setIfInBounds_toArray, List.set_cons_zero, List.set_cons_succ]
  refine dw_cell (by kernel_rfl) 3 (.tmp 34) rfl n3 17 rfl _ _ hBn3 (.int .i64 a.side) rfl _ Try.underlying3 rfl ?_
  simp only [Act.put, List.setIfInBounds_toArray, List.set_cons_zero, List.set_cons_succ]
  refine dw_bool (by kernel_rfl) (a.side != 1) (by kernel_rfl) (fun hc => absurd hc (by simp [hs1])) (fun hc => ?_)
  simp only [Act.put, List.setIfInBounds_toArray, List.set_cons_zero, List.set_cons_succ]
  refine dw_val (by kernel_rfl) (.bool false) (by kernel_rfl) ?_
  simp only [Act.put, List.setIfInBounds_toArray, List.set_cons_zero, List.set_cons_succ]
  refine dw_no (by kernel_rfl) ?_
  simp only [Act.put, List.setIfInBounds_toArray, List.set_cons_zero, List.set_cons_succ]
  refine dw_no (by kernel_rfl) ?_
  simp only [Act.put, List.setIfInBounds_toArray, List.set_cons_zero, List.set_cons_succ]
  refine dw_no (by kernel_rfl) ?_
  simp only [Act.put, List.setIfInBounds_toArray, List.set_cons_zero, List.set_cons_succ]
  refine dw_val (by kernel_rfl) (.bool false) (by kernel_rfl) ?_
  simp only [Act.put, List.setIfInBounds_toArray, List.set_cons_zero, List.set_cons_succ]
  refine dw_val (by kernel_rfl) (.bool false) (by kernel_rfl) ?_
  simp only [Act.put, List.setIfInBounds_toArray, List.set_cons_zero, List.set_cons_succ]
  refine dw_row (by kernel_rfl) 43 (.tmp 7) rfl n17 0 rfl _ _ hBn17 [(.bool (r.acc) : Value), .int .i64 0, .string r.fb, .int .i64 r.fn, .string r.tb, .int .i64 r.tn, .int .i64 r.s0, .int .i64 r.s1, .int .i64 r.d0, .int .i64 r.d1, .int .i64 r.mask, .int .i64 r.flags, .int .i64 r.classes] rfl _ Try.underlying43 rfl (by kernel_rfl) ?_
  simp only [Act.put, List.setIfInBounds_toArray, List.set_cons_zero, List.set_cons_succ]
  refine dw_row (by kernel_rfl) 34 (.tmp 3) rfl n3 0 rfl _ _ hBn3 [(.string a.src : Value), .string a.dst, .int .i64 a.from_, .int .i64 a.to_, .int .u32 a.seq, .int .u32 a.ack, .int .i64 a.flags, .int .i64 a.win, .int .i64 a.urg, .int .i64 a.mss, .int .i64 a.scale, .bool (a.sack), .slice a.ba a.bn a.bc, .bool (a.timed), .int .u32 a.time, .int .u32 a.echo, .string a.data, .int .i64 a.side, .int .i64 a.class_] rfl _ Try.underlying34 rfl (by kernel_rfl) ?_
  simp only [Act.put, List.setIfInBounds_toArray, List.set_cons_zero, List.set_cons_succ]
  refine dw_ret (by kernel_rfl) 10 #[(.agg #[(.bool (r.acc) : Value), .int .i64 0, .string r.fb, .int .i64 r.fn, .string r.tb, .int .i64 r.tn, .int .i64 r.s0, .int .i64 r.s1, .int .i64 r.d0, .int .i64 r.d1, .int .i64 r.mask, .int .i64 r.flags, .int .i64 r.classes] : Value), .agg #[(.string a.src : Value), .string a.dst, .int .i64 a.from_, .int .i64 a.to_, .int .u32 a.seq, .int .u32 a.ack, .int .i64 a.flags, .int .i64 a.win, .int .i64 a.urg, .int .i64 a.mss, .int .i64 a.scale, .bool (a.sack), .slice a.ba a.bn a.bc, .bool (a.timed), .int .u32 a.time, .int .u32 a.echo, .string a.data, .int .i64 a.side, .int .i64 a.class_]] (by kernel_rfl) (hz ▸ one_any { r with side := 0 } a hsm.1 hsm.2 hsrc hdst w23) ?_
  intro w25 hb
  have ht26 : Touch (fun _ => False) w23 w25 := Touch.none hb
  replace hBn1 := hBn1.keep ht26 (fun h => h)
  replace hBn3 := hBn3.keep ht26 (fun h => h)
  replace hBn5 := hBn5.keep ht26 (fun h => h)
  replace hBn9 := hBn9.keep ht26 (fun h => h)
  replace hBn13 := hBn13.keep ht26 (fun h => h)
  replace hBn17 := hBn17.keep ht26 (fun h => h)
  replace hT0 := hT0.trans ht26 (fun _ _ h => h.elim)
  clear hb
  simp only [Act.put, List.setIfInBounds_toArray, List.set_cons_zero, List.set_cons_succ]
  refine dw_val (by kernel_rfl) (.bool false) (by kernel_rfl) ?_
  simp only [Act.put, List.setIfInBounds_toArray, List.set_cons_zero, List.set_cons_succ]
  refine dw_val (by kernel_rfl) (.bool false) (by kernel_rfl) ?_
  simp only [Act.put, List.setIfInBounds_toArray, List.set_cons_zero, List.set_cons_succ]
  refine dw_val (by kernel_rfl) (.bool false) (by kernel_rfl) ?_
  simp only [Act.put, List.setIfInBounds_toArray, List.set_cons_zero, List.set_cons_succ]
  refine dw_val (by kernel_rfl) (.bool false) (by kernel_rfl) ?_
  simp only [Act.put, List.setIfInBounds_toArray, List.set_cons_zero, List.set_cons_succ]
  refine dw_val (by kernel_rfl) (.bool true) (by kernel_rfl) ?_
  simp only [Act.put, List.setIfInBounds_toArray, List.set_cons_zero, List.set_cons_succ]
  refine dw_val (by kernel_rfl) (.bool true) (by kernel_rfl) ?_
  simp only [Act.put, List.setIfInBounds_toArray, List.set_cons_zero, List.set_cons_succ]
  refine dw_val (by kernel_rfl) (.bool true) (by kernel_rfl) ?_
  simp only [Act.put, List.setIfInBounds_toArray, List.set_cons_zero, List.set_cons_succ]
  refine dw_val (by kernel_rfl) (.bool true) (by kernel_rfl) ?_
  simp only [Act.put, List.setIfInBounds_toArray, List.set_cons_zero, List.set_cons_succ]
  refine dw_val (by kernel_rfl) (.bool false) (by kernel_rfl) ?_
  simp only [Act.put, List.setIfInBounds_toArray, List.set_cons_zero, List.set_cons_succ]
  refine dw_val (by kernel_rfl) (.bool true) (by kernel_rfl) ?_
  simp only [Act.put, List.setIfInBounds_toArray, List.set_cons_zero, List.set_cons_succ]
  refine dw_val (by kernel_rfl) (.bool true) (by kernel_rfl) ?_
  simp only [Act.put, List.setIfInBounds_toArray, List.set_cons_zero, List.set_cons_succ]
  refine dw_no (by kernel_rfl) ?_
  simp only [Act.put, List.setIfInBounds_toArray, List.set_cons_zero, List.set_cons_succ]
  refine dw_no (by kernel_rfl) ?_
  simp only [Act.put, List.setIfInBounds_toArray, List.set_cons_zero, List.set_cons_succ]
  refine dw_no (by kernel_rfl) ?_
  simp only [Act.put, List.setIfInBounds_toArray, List.set_cons_zero, List.set_cons_succ]
  refine dw_val (by kernel_rfl) (.bool true) (by kernel_rfl) ?_
  simp only [Act.put, List.setIfInBounds_toArray, List.set_cons_zero, List.set_cons_succ]
  refine dw_val (by kernel_rfl) (.bool true) (by kernel_rfl) ?_
  simp only [Act.put, List.setIfInBounds_toArray, List.set_cons_zero, List.set_cons_succ]
  refine dw_val (by kernel_rfl) (.bool true) (by kernel_rfl) ?_
  simp only [Act.put, List.setIfInBounds_toArray, List.set_cons_zero, List.set_cons_succ]
  refine dw_val (by kernel_rfl) (.bool false) (by kernel_rfl) ?_
  simp only [Act.put, List.setIfInBounds_toArray, List.set_cons_zero, List.set_cons_succ]
  refine dw_val (by kernel_rfl) (.bool true) (by kernel_rfl) ?_
  simp only [Act.put, List.setIfInBounds_toArray, List.set_cons_zero, List.set_cons_succ]
  refine dw_val (by kernel_rfl) (.bool true) (by kernel_rfl) ?_
  simp only [Act.put, List.setIfInBounds_toArray, List.set_cons_zero, List.set_cons_succ]
  refine dw_no (by kernel_rfl) ?_
  simp only [Act.put, List.setIfInBounds_toArray, List.set_cons_zero, List.set_cons_succ]
  refine dw_no (by kernel_rfl) ?_
  simp only [Act.put, List.setIfInBounds_toArray, List.set_cons_zero, List.set_cons_succ]
  refine dw_no (by kernel_rfl) ?_
  simp only [Act.put, List.setIfInBounds_toArray, List.set_cons_zero, List.set_cons_succ]
  refine dw_val (by kernel_rfl) (.bool true) (by kernel_rfl) ?_
  simp only [Act.put, List.setIfInBounds_toArray, List.set_cons_zero, List.set_cons_succ]
  refine dw_val (by kernel_rfl) (.bool true) (by kernel_rfl) ?_
  simp only [Act.put, List.setIfInBounds_toArray, List.set_cons_zero, List.set_cons_succ]
  refine dw_val (by kernel_rfl) (.bool true) (by kernel_rfl) ?_
  simp only [Act.put, List.setIfInBounds_toArray, List.set_cons_zero, List.set_cons_succ]
  refine dw_ret (by kernel_rfl) 9 #[] (by kernel_rfl) (known_any w25) ?_
  intro w27 hb
  have ht28 : Touch (fun _ => False) w25 w27 := Touch.none hb
  replace hBn1 := hBn1.keep ht28 (fun h => h)
  replace hBn3 := hBn3.keep ht28 (fun h => h)
  replace hBn5 := hBn5.keep ht28 (fun h => h)
  replace hBn9 := hBn9.keep ht28 (fun h => h)
  replace hBn13 := hBn13.keep ht28 (fun h => h)
  replace hBn17 := hBn17.keep ht28 (fun h => h)
  replace hT0 := hT0.trans ht28 (fun _ _ h => h.elim)
  clear hb
  simp only [Act.put, List.setIfInBounds_toArray, List.set_cons_zero, List.set_cons_succ]
  refine dw_val (by kernel_rfl) (.bool true) (by kernel_rfl) ?_
  simp only [Act.put, List.setIfInBounds_toArray, List.set_cons_zero, List.set_cons_succ]
  refine dw_val (by kernel_rfl) (.bool true) (by kernel_rfl) ?_
  simp only [Act.put, List.setIfInBounds_toArray, List.set_cons_zero, List.set_cons_succ]
  refine wl_nil ?_
  refine hK12 _ _ ?_
  refine wp_ret ?_
  repeat (first | with_reducible refine ret_then ?_ | with_reducible refine ret_block ?_)
  refine bodyPost_ret (v := .bool true) (by kernel_rfl) rfl ?_
  exact ⟨rfl, hT0.toBelow⟩
set_option maxRecDepth 100000 in
set_option maxHeartbeats 4000000 in
theorem sides_2_true (r : Rl) (a : Ak) (w : World) (hl : lightB (fun _ => r) 1 a = true) (hsm : r.fb.size ≤ 100 ∧ r.tb.size ≤ 100) (hsrc : a.src.size ≤ 100) (hdst : a.dst.size ≤ 100) (hs1 : a.side ≠ 1) (hs2 : a.side = 2) (hx : oneB { r with side := 1 } a = false) (hy : oneB { r with side := 2 } a = true) (hz : oneB { r with side := 0 } a = true) :
    Calls Try.prog 7 #[.agg r.cs.toArray, .agg a.cs.toArray] w fun e w' => e = .returned (.bool true) ∧ Below w.heap.size w w' := by
  have hT0 := Touch.refl (fun _ => False) w
  go_enter Try.func7, Try.ntmps7
  refine wp_seq_k fun K1 hK1 => ?_
  refine wl_region ?_
  refine dw_new (by kernel_rfl) [(.bool (r.acc) : Value), .int .i64 r.side, .string r.fb, .int .i64 r.fn, .string r.tb, .int .i64 r.tn, .int .i64 r.s0, .int .i64 r.s1, .int .i64 r.d0, .int .i64 r.d1, .int .i64 r.mask, .int .i64 r.flags, .int .i64 r.classes] 43 (by kernel_rfl) ?_
  intro n1 w2 hnn1 hsn1 hBn1 hTn1
  have hgen1 : w.heap.size ≤ n1 := by have := hT0.size; omega
  replace hT0 := hT0.trans hTn1 (fun _ _ h => h.elim)
  simp only [Act.put, List.setIfInBounds_toArray, List.set_cons_zero, List.set_cons_succ]
  refine dw_new (by kernel_rfl) [(.string a.src : Value), .string a.dst, .int .i64 a.from_, .int .i64 a.to_, .int .u32 a.seq, .int .u32 a.ack, .int .i64 a.flags, .int .i64 a.win, .int .i64 a.urg, .int .i64 a.mss, .int .i64 a.scale, .bool (a.sack), .slice a.ba a.bn a.bc, .bool (a.timed), .int .u32 a.time, .int .u32 a.echo, .string a.data, .int .i64 a.side, .int .i64 a.class_] 34 (by kernel_rfl) ?_
  intro n3 w4 hnn3 hsn3 hBn3 hTn3
  have hnen1n3 : n1 ≠ n3 := by have := hBn1.lt; omega
  have hgen3 : w.heap.size ≤ n3 := by have := hT0.size; omega
  replace hBn1 := hBn1.keep hTn3 (fun h => h)
  replace hT0 := hT0.trans hTn3 (fun _ _ h => h.elim)
  simp only [Act.put, List.setIfInBounds_toArray, List.set_cons_zero, List.set_cons_succ]
  refine dw_val (by kernel_rfl) (.bool false) (by kernel_rfl) ?_
  simp only [Act.put, List.setIfInBounds_toArray, List.set_cons_zero, List.set_cons_succ]
  refine wl_nil ?_
  refine hK1 _ _ ?_
  refine wp_seq_k fun K2 hK2 => ?_
  refine wp_seq_k fun K3 hK3 => ?_
  refine wl_region ?_
  refine dw_row (by kernel_rfl) 43 (.tmp 2) rfl n1 0 rfl _ _ hBn1 [(.bool (r.acc) : Value), .int .i64 r.side, .string r.fb, .int .i64 r.fn, .string r.tb, .int .i64 r.tn, .int .i64 r.s0, .int .i64 r.s1, .int .i64 r.d0, .int .i64 r.d1, .int .i64 r.mask, .int .i64 r.flags, .int .i64 r.classes] rfl _ Try.underlying43 rfl (by kernel_rfl) ?_
  simp only [Act.put, List.setIfInBounds_toArray, List.set_cons_zero, List.set_cons_succ]
  refine dw_newSlice (by kernel_rfl) [(.bool (r.acc) : Value), .int .i64 r.side, .string r.fb, .int .i64 r.fn, .string r.tb, .int .i64 r.tn, .int .i64 r.s0, .int .i64 r.s1, .int .i64 r.d0, .int .i64 r.d1, .int .i64 r.mask, .int .i64 r.flags, .int .i64 r.classes] 43 1 (by kernel_rfl) ?_
  intro n5 w6 hnn5 hsn5 hBn5 hTn5
  have hnen1n5 : n1 ≠ n5 := by have := hBn1.lt; omega
  have hnen3n5 : n3 ≠ n5 := by have := hBn3.lt; omega
  have hgen5 : w.heap.size ≤ n5 := by have := hT0.size; omega
  replace hBn1 := hBn1.keep hTn5 (fun h => h)
  replace hBn3 := hBn3.keep hTn5 (fun h => h)
  replace hT0 := hT0.trans hTn5 (fun _ _ h => h.elim)
  simp only [Act.put, List.setIfInBounds_toArray, List.set_cons_zero, List.set_cons_succ]
  refine dw_row (by kernel_rfl) 34 (.tmp 3) rfl n3 0 rfl _ _ hBn3 [(.string a.src : Value), .string a.dst, .int .i64 a.from_, .int .i64 a.to_, .int .u32 a.seq, .int .u32 a.ack, .int .i64 a.flags, .int .i64 a.win, .int .i64 a.urg, .int .i64 a.mss, .int .i64 a.scale, .bool (a.sack), .slice a.ba a.bn a.bc, .bool (a.timed), .int .u32 a.time, .int .u32 a.echo, .string a.data, .int .i64 a.side, .int .i64 a.class_] rfl _ Try.underlying34 rfl (by kernel_rfl) ?_
  simp only [Act.put, List.setIfInBounds_toArray, List.set_cons_zero, List.set_cons_succ]
  refine dw_ret (by kernel_rfl) 8 #[(.slice (some ⟨n5, 0, none⟩) 1 1 : Value), .agg #[(.string a.src : Value), .string a.dst, .int .i64 a.from_, .int .i64 a.to_, .int .u32 a.seq, .int .u32 a.ack, .int .i64 a.flags, .int .i64 a.win, .int .i64 a.urg, .int .i64 a.mss, .int .i64 a.scale, .bool (a.sack), .slice a.ba a.bn a.bc, .bool (a.timed), .int .u32 a.time, .int .u32 a.echo, .string a.data, .int .i64 a.side, .int .i64 a.class_]] (by kernel_rfl) (light_any (some ⟨n5, 0, none⟩) 1 1 (fun _ => r) a w6 (rule1 (r := r) hBn5) (by decide)) ?_
  intro w7 hb
  have ht8 : Touch (fun _ => False) w6 w7 := Touch.none hb
  replace hBn1 := hBn1.keep ht8 (fun h => h)
  replace hBn3 := hBn3.keep ht8 (fun h => h)
  replace hBn5 := hBn5.keep ht8 (fun h => h)
  replace hT0 := hT0.trans ht8 (fun _ _ h => h.elim)
  clear hb
  simp only [Act.put, List.setIfInBounds_toArray, List.set_cons_zero, List.set_cons_succ]
  refine dw_bool (by kernel_rfl) (!(lightB (fun _ => r) 1 a)) (by kernel_rfl) (fun hc => absurd hc (by simp [hl])) (fun hc => ?_)
  simp only [Act.put, List.setIfInBounds_toArray, List.set_cons_zero, List.set_cons_succ]
  refine wl_nil ?_
  refine hK3 _ _ ?_
  refine wp_cond_false rfl ?_
  refine wp_skip ?_
  refine hK2 _ _ ?_
  refine wp_seq_k fun K4 hK4 => ?_
  refine wl_region ?_
  refine dw_row (by kernel_rfl) 43 (.tmp 2) rfl n1 0 rfl _ _ hBn1 [(.bool (r.acc) : Value), .int .i64 r.side, .string r.fb, .int .i64 r.fn, .string r.tb, .int .i64 r.tn, .int .i64 r.s0, .int .i64 r.s1, .int .i64 r.d0, .int .i64 r.d1, .int .i64 r.mask, .int .i64 r.flags, .int .i64 r.classes] rfl _ Try.underlying43 rfl (by kernel_rfl) ?_
  simp only [Act.put, List.setIfInBounds_toArray, List.set_cons_zero, List.set_cons_succ]
  refine dw_new (by kernel_rfl) [(.bool false : Value), .int .i64 0, .string ⟨#[]⟩, .int .i64 0, .string ⟨#[]⟩, .int .i64 0, .int .i64 0, .int .i64 0, .int .i64 0, .int .i64 0, .int .i64 0, .int .i64 0, .int .i64 0] 43 (by kernel_rfl) ?_
  intro n9 w10 hnn9 hsn9 hBn9 hTn9
  have hnen1n9 : n1 ≠ n9 := by have := hBn1.lt; omega
  have hnen3n9 : n3 ≠ n9 := by have := hBn3.lt; omega
  have hnen5n9 : n5 ≠ n9 := by have := hBn5.lt; omega
  have hgen9 : w.heap.size ≤ n9 := by have := hT0.size; omega
  replace hBn1 := hBn1.keep hTn9 (fun h => h)
  replace hBn3 := hBn3.keep hTn9 (fun h => h)
  replace hBn5 := hBn5.keep hTn9 (fun h => h)
  replace hT0 := hT0.trans hTn9 (fun _ _ h => h.elim)
  simp only [Act.put, List.setIfInBounds_toArray, List.set_cons_zero, List.set_cons_succ]
  refine dw_put (by kernel_rfl) 43 (.tmp 5) (.tmp 16) rfl n9 0 rfl (.agg #[(.bool (r.acc) : Value), .int .i64 r.side, .string r.fb, .int .i64 r.fn, .string r.tb, .int .i64 r.tn, .int .i64 r.s0, .int .i64 r.s1, .int .i64 r.d0, .int .i64 r.d1, .int .i64 r.mask, .int .i64 r.flags, .int .i64 r.classes]) rfl _ _ hBn9 [(.bool (r.acc) : Value), .int .i64 r.side, .string r.fb, .int .i64 r.fn, .string r.tb, .int .i64 r.tn, .int .i64 r.s0, .int .i64 r.s1, .int .i64 r.d0, .int .i64 r.d1, .int .i64 r.mask, .int .i64 r.flags, .int .i64 r.classes] rfl (Nat.le_of_ble_eq_true rfl) (by kernel_rfl) (by kernel_rfl) [(.bool (r.acc) : Value), .int .i64 r.side, .string r.fb, .int .i64 r.fn, .string r.tb, .int .i64 r.tn, .int .i64 r.s0, .int .i64 r.s1, .int .i64 r.d0, .int .i64 r.d1, .int .i64 r.mask, .int .i64 r.flags, .int .i64 r.classes] rfl ?_
  intro w11 hBw11_ hTw11 hSw11
  replace hBn1 := hBn1.keep hTw11 (by intro h; omega)
  replace hBn3 := hBn3.keep hTw11 (by intro h; omega)
  replace hBn5 := hBn5.keep hTw11 (by intro h; omega)
  replace hT0 := hT0.trans hTw11 (fun i hi h => by first | omega | (subst h; omega) | exact h | exact .inl h | exact .inr h)
  clear hBn9
  have hBn9 := hBw11_
  clear hBw11_
  simp only [Act.put]
  refine wl_nil ?_
  refine hK4 _ _ ?_
  refine wp_seq_k fun K5 hK5 => ?_
  refine wl_region ?_
  refine dw_val (by kernel_rfl) (.pointer (some ⟨n9, 1, none⟩)) (by kernel_rfl) ?_
  simp only [Act.put, List.setIfInBounds_toArray, List.set_cons_zero, List.set_cons_succ]
  refine dw_put (by kernel_rfl) 3 (.tmp 17) (.const (.int .i64 1)) rfl n9 1 rfl (.int .i64 1) rfl _ _ hBn9 [(.int .i64 1 : Value)] rfl (Nat.le_of_ble_eq_true rfl) (by kernel_rfl) (by kernel_rfl) [(.bool (r.acc) : Value), .int .i64 1, .string r.fb, .int .i64 r.fn, .string r.tb, .int .i64 r.tn, .int .i64 r.s0, .int .i64 r.s1, .int .i64 r.d0, .int .i64 r.d1, .int .i64 r.mask, .int .i64 r.flags, .int .i64 r.classes] rfl ?_
  intro w12 hBw12_ hTw12 hSw12
  replace hBn1 := hBn1.keep hTw12 (by intro h; omega)
  replace hBn3 := hBn3.keep hTw12 (by intro h; omega)
  replace hBn5 := hBn5.keep hTw12 (by intro h; omega)
  replace hT0 := hT0.trans hTw12 (fun i hi h => by first | omega | (subst h; omega) | exact h | exact .inl h | exact .inr h)
  clear hBn9
  have hBn9 := hBw12_
  clear hBw12_
  simp only [Act.put]
  refine wl_nil ?_
  refine hK5 _ _ ?_
  refine wp_seq_k fun K6 hK6 => ?_
  refine wl_region ?_
  refine dw_row (by kernel_rfl) 43 (.tmp 2) rfl n1 0 rfl _ _ hBn1 [(.bool (r.acc) : Value), .int .i64 r.side, .string r.fb, .int .i64 r.fn, .string r.tb, .int .i64 r.tn, .int .i64 r.s0, .int .i64 r.s1, .int .i64 r.d0, .int .i64 r.d1, .int .i64 r.mask, .int .i64 r.flags, .int .i64 r.classes] rfl _ Try.underlying43 rfl (by kernel_rfl) ?_
  simp only [Act.put, List.setIfInBounds_toArray, List.set_cons_zero, List.set_cons_succ]
  refine dw_new (by kernel_rfl) [(.bool false : Value), .int .i64 0, .string ⟨#[]⟩, .int .i64 0, .string ⟨#[]⟩, .int .i64 0, .int .i64 0, .int .i64 0, .int .i64 0, .int .i64 0, .int .i64 0, .int .i64 0, .int .i64 0] 43 (by kernel_rfl) ?_
  intro n13 w14 hnn13 hsn13 hBn13 hTn13
  have hnen1n13 : n1 ≠ n13 := by have := hBn1.lt; omega
  have hnen3n13 : n3 ≠ n13 := by have := hBn3.lt; omega
  have hnen5n13 : n5 ≠ n13 := by have := hBn5.lt; omega
  have hnen9n13 : n9 ≠ n13 := by have := hBn9.lt; omega
  have hgen13 : w.heap.size ≤ n13 := by have := hT0.size; omega
  replace hBn1 := hBn1.keep hTn13 (fun h => h)
  replace hBn3 := hBn3.keep hTn13 (fun h => h)
  replace hBn5 := hBn5.keep hTn13 (fun h => h)
  replace hBn9 := hBn9.keep hTn13 (fun h => h)
  replace hT0 := hT0.trans hTn13 (fun _ _ h => h.elim)
  simp only [Act.put, List.setIfInBounds_toArray, List.set_cons_zero, List.set_cons_succ]
  refine dw_put (by kernel_rfl) 43 (.tmp 6) (.tmp 18) rfl n13 0 rfl (.agg #[(.bool (r.acc) : Value), .int .i64 r.side, .string r.fb, .int .i64 r.fn, .string r.tb, .int .i64 r.tn, .int .i64 r.s0, .int .i64 r.s1, .int .i64 r.d0, .int .i64 r.d1, .int .i64 r.mask, .int .i64 r.flags, .int .i64 r.classes]) rfl _ _ hBn13 [(.bool (r.acc) : Value), .int .i64 r.side, .string r.fb, .int .i64 r.fn, .string r.tb, .int .i64 r.tn, .int .i64 r.s0, .int .i64 r.s1, .int .i64 r.d0, .int .i64 r.d1, .int .i64 r.mask, .int .i64 r.flags, .int .i64 r.classes] rfl (Nat.le_of_ble_eq_true rfl) (by kernel_rfl) (by kernel_rfl) [(.bool (r.acc) : Value), .int .i64 r.side, .string r.fb, .int .i64 r.fn, .string r.tb, .int .i64 r.tn, .int .i64 r.s0, .int .i64 r.s1, .int .i64 r.d0, .int .i64 r.d1, .int .i64 r.mask, .int .i64 r.flags, .int .i64 r.classes] rfl ?_
  intro w15 hBw15_ hTw15 hSw15
  replace hBn1 := hBn1.keep hTw15 (by intro h; omega)
  replace hBn3 := hBn3.keep hTw15 (by intro h; omega)
  replace hBn5 := hBn5.keep hTw15 (by intro h; omega)
  replace hBn9 := hBn9.keep hTw15 (by intro h; omega)
  replace hT0 := hT0.trans hTw15 (fun i hi h => by first | omega | (subst h; omega) | exact h | exact .inl h | exact .inr h)
  clear hBn13
  have hBn13 := hBw15_
  clear hBw15_
  simp only [Act.put]
  refine wl_nil ?_
  refine hK6 _ _ ?_
  refine wp_seq_k fun K7 hK7 => ?_
  refine wl_region ?_
  refine dw_val (by kernel_rfl) (.pointer (some ⟨n13, 1, none⟩)) (by kernel_rfl) ?_
  simp only [Act.put, List.setIfInBounds_toArray, List.set_cons_zero, List.set_cons_succ]
  refine dw_put (by kernel_rfl) 3 (.tmp 19) (.const (.int .i64 2)) rfl n13 1 rfl (.int .i64 2) rfl _ _ hBn13 [(.int .i64 2 : Value)] rfl (Nat.le_of_ble_eq_true rfl) (by kernel_rfl) (by kernel_rfl) [(.bool (r.acc) : Value), .int .i64 2, .string r.fb, .int .i64 r.fn, .string r.tb, .int .i64 r.tn, .int .i64 r.s0, .int .i64 r.s1, .int .i64 r.d0, .int .i64 r.d1, .int .i64 r.mask, .int .i64 r.flags, .int .i64 r.classes] rfl ?_
  intro w16 hBw16_ hTw16 hSw16
  replace hBn1 := hBn1.keep hTw16 (by intro h; omega)
  replace hBn3 := hBn3.keep hTw16 (by intro h; omega)
  replace hBn5 := hBn5.keep hTw16 (by intro h; omega)
  replace hBn9 := hBn9.keep hTw16 (by intro h; omega)
  replace hT0 := hT0.trans hTw16 (fun i hi h => by first | omega | (subst h; omega) | exact h | exact .inl h | exact .inr h)
  clear hBn13
  have hBn13 := hBw16_
  clear hBw16_
  simp only [Act.put]
  refine wl_nil ?_
  refine hK7 _ _ ?_
  refine wp_seq_k fun K8 hK8 => ?_
  refine wl_region ?_
  refine dw_row (by kernel_rfl) 43 (.tmp 2) rfl n1 0 rfl _ _ hBn1 [(.bool (r.acc) : Value), .int .i64 r.side, .string r.fb, .int .i64 r.fn, .string r.tb, .int .i64 r.tn, .int .i64 r.s0, .int .i64 r.s1, .int .i64 r.d0, .int .i64 r.d1, .int .i64 r.mask, .int .i64 r.flags, .int .i64 r.classes] rfl _ Try.underlying43 rfl (by kernel_rfl) ?_
  simp only [Act.put, List.setIfInBounds_toArray, List.set_cons_zero, List.set_cons_succ]
  refine dw_new (by kernel_rfl) [(.bool false : Value), .int .i64 0, .string ⟨#[]⟩, .int .i64 0, .string ⟨#[]⟩, .int .i64 0, .int .i64 0, .int .i64 0, .int .i64 0, .int .i64 0, .int .i64 0, .int .i64 0, .int .i64 0] 43 (by kernel_rfl) ?_
  intro n17 w18 hnn17 hsn17 hBn17 hTn17
  have hnen1n17 : n1 ≠ n17 := by have := hBn1.lt; omega
  have hnen3n17 : n3 ≠ n17 := by have := hBn3.lt; omega
  have hnen5n17 : n5 ≠ n17 := by have := hBn5.lt; omega
  have hnen9n17 : n9 ≠ n17 := by have := hBn9.lt; omega
  have hnen13n17 : n13 ≠ n17 := by have := hBn13.lt; omega
  have hgen17 : w.heap.size ≤ n17 := by have := hT0.size; omega
  replace hBn1 := hBn1.keep hTn17 (fun h => h)
  replace hBn3 := hBn3.keep hTn17 (fun h => h)
  replace hBn5 := hBn5.keep hTn17 (fun h => h)
  replace hBn9 := hBn9.keep hTn17 (fun h => h)
  replace hBn13 := hBn13.keep hTn17 (fun h => h)
  replace hT0 := hT0.trans hTn17 (fun _ _ h => h.elim)
  simp only [Act.put, List.setIfInBounds_toArray, List.set_cons_zero, List.set_cons_succ]
  refine dw_put (by kernel_rfl) 43 (.tmp 7) (.tmp 20) rfl n17 0 rfl (.agg #[(.bool (r.acc) : Value), .int .i64 r.side, .string r.fb, .int .i64 r.fn, .string r.tb, .int .i64 r.tn, .int .i64 r.s0, .int .i64 r.s1, .int .i64 r.d0, .int .i64 r.d1, .int .i64 r.mask, .int .i64 r.flags, .int .i64 r.classes]) rfl _ _ hBn17 [(.bool (r.acc) : Value), .int .i64 r.side, .string r.fb, .int .i64 r.fn, .string r.tb, .int .i64 r.tn, .int .i64 r.s0, .int .i64 r.s1, .int .i64 r.d0, .int .i64 r.d1, .int .i64 r.mask, .int .i64 r.flags, .int .i64 r.classes] rfl (Nat.le_of_ble_eq_true rfl) (by kernel_rfl) (by kernel_rfl) [(.bool (r.acc) : Value), .int .i64 r.side, .string r.fb, .int .i64 r.fn, .string r.tb, .int .i64 r.tn, .int .i64 r.s0, .int .i64 r.s1, .int .i64 r.d0, .int .i64 r.d1, .int .i64 r.mask, .int .i64 r.flags, .int .i64 r.classes] rfl ?_
  intro w19 hBw19_ hTw19 hSw19
  replace hBn1 := hBn1.keep hTw19 (by intro h; omega)
  replace hBn3 := hBn3.keep hTw19 (by intro h; omega)
  replace hBn5 := hBn5.keep hTw19 (by intro h; omega)
  replace hBn9 := hBn9.keep hTw19 (by intro h; omega)
  replace hBn13 := hBn13.keep hTw19 (by intro h; omega)
  replace hT0 := hT0.trans hTw19 (fun i hi h => by first | omega | (subst h; omega) | exact h | exact .inl h | exact .inr h)
  clear hBn17
  have hBn17 := hBw19_
  clear hBw19_
  simp only [Act.put]
  refine wl_nil ?_
  refine hK8 _ _ ?_
  refine wp_seq_k fun K9 hK9 => ?_
  refine wl_region ?_
  refine dw_val (by kernel_rfl) (.pointer (some ⟨n17, 1, none⟩)) (by kernel_rfl) ?_
  simp only [Act.put, List.setIfInBounds_toArray, List.set_cons_zero, List.set_cons_succ]
  refine dw_put (by kernel_rfl) 3 (.tmp 21) (.const (.int .i64 0)) rfl n17 1 rfl (.int .i64 0) rfl _ _ hBn17 [(.int .i64 0 : Value)] rfl (Nat.le_of_ble_eq_true rfl) (by kernel_rfl) (by kernel_rfl) [(.bool (r.acc) : Value), .int .i64 0, .string r.fb, .int .i64 r.fn, .string r.tb, .int .i64 r.tn, .int .i64 r.s0, .int .i64 r.s1, .int .i64 r.d0, .int .i64 r.d1, .int .i64 r.mask, .int .i64 r.flags, .int .i64 r.classes] rfl ?_
  intro w20 hBw20_ hTw20 hSw20
  replace hBn1 := hBn1.keep hTw20 (by intro h; omega)
  replace hBn3 := hBn3.keep hTw20 (by intro h; omega)
  replace hBn5 := hBn5.keep hTw20 (by intro h; omega)
  replace hBn9 := hBn9.keep hTw20 (by intro h; omega)
  replace hBn13 := hBn13.keep hTw20 (by intro h; omega)
  replace hT0 := hT0.trans hTw20 (fun i hi h => by first | omega | (subst h; omega) | exact h | exact .inl h | exact .inr h)
  clear hBn17
  have hBn17 := hBw20_
  clear hBw20_
  simp only [Act.put]
  refine wl_nil ?_
  refine hK9 _ _ ?_
  refine wp_seq_k fun K10 hK10 => ?_
  refine wl_region ?_
  refine dw_row (by kernel_rfl) 43 (.tmp 5) rfl n9 0 rfl _ _ hBn9 [(.bool (r.acc) : Value), .int .i64 1, .string r.fb, .int .i64 r.fn, .string r.tb, .int .i64 r.tn, .int .i64 r.s0, .int .i64 r.s1, .int .i64 r.d0, .int .i64 r.d1, .int .i64 r.mask, .int .i64 r.flags, .int .i64 r.classes] rfl _ Try.underlying43 rfl (by kernel_rfl) ?_
  simp only [Act.put, List.setIfInBounds_toArray, List.set_cons_zero, List.set_cons_succ]
  refine dw_row (by kernel_rfl) 34 (.tmp 3) rfl n3 0 rfl _ _ hBn3 [(.string a.src : Value), .string a.dst, .int .i64 a.from_, .int .i64 a.to_, .int .u32 a.seq, .int .u32 a.ack, .int .i64 a.flags, .int .i64 a.win, .int .i64 a.urg, .int .i64 a.mss, .int .i64 a.scale, .bool (a.sack), .slice a.ba a.bn a.bc, .bool (a.timed), .int .u32 a.time, .int .u32 a.echo, .string a.data, .int .i64 a.side, .int .i64 a.class_] rfl _ Try.underlying34 rfl (by kernel_rfl) ?_
  simp only [Act.put, List.setIfInBounds_toArray, List.set_cons_zero, List.set_cons_succ]
  refine dw_ret (by kernel_rfl) 10 #[(.agg #[(.bool (r.acc) : Value), .int .i64 1, .string r.fb, .int .i64 r.fn, .string r.tb, .int .i64 r.tn, .int .i64 r.s0, .int .i64 r.s1, .int .i64 r.d0, .int .i64 r.d1, .int .i64 r.mask, .int .i64 r.flags, .int .i64 r.classes] : Value), .agg #[(.string a.src : Value), .string a.dst, .int .i64 a.from_, .int .i64 a.to_, .int .u32 a.seq, .int .u32 a.ack, .int .i64 a.flags, .int .i64 a.win, .int .i64 a.urg, .int .i64 a.mss, .int .i64 a.scale, .bool (a.sack), .slice a.ba a.bn a.bc, .bool (a.timed), .int .u32 a.time, .int .u32 a.echo, .string a.data, .int .i64 a.side, .int .i64 a.class_]] (by kernel_rfl) (hx ▸ one_any { r with side := 1 } a hsm.1 hsm.2 hsrc hdst w20) ?_
  intro w21 hb
  have ht22 : Touch (fun _ => False) w20 w21 := Touch.none hb
  replace hBn1 := hBn1.keep ht22 (fun h => h)
  replace hBn3 := hBn3.keep ht22 (fun h => h)
  replace hBn5 := hBn5.keep ht22 (fun h => h)
  replace hBn9 := hBn9.keep ht22 (fun h => h)
  replace hBn13 := hBn13.keep ht22 (fun h => h)
  replace hBn17 := hBn17.keep ht22 (fun h => h)
  replace hT0 := hT0.trans ht22 (fun _ _ h => h.elim)
  clear hb
  simp only [Act.put, List.setIfInBounds_toArray, List.set_cons_zero, List.set_cons_succ]
  refine dw_val (by kernel_rfl) (.bool false) (by kernel_rfl) ?_
  simp only [Act.put, List.setIfInBounds_toArray, List.set_cons_zero, List.set_cons_succ]
  refine wl_nil ?_
  refine hK10 _ _ ?_
  refine wp_seq_k fun K11 hK11 => ?_
  refine wl_region ?_
  refine dw_row (by kernel_rfl) 43 (.tmp 6) rfl n13 0 rfl _ _ hBn13 [(.bool (r.acc) : Value), .int .i64 2, .string r.fb, .int .i64 r.fn, .string r.tb, .int .i64 r.tn, .int .i64 r.s0, .int .i64 r.s1, .int .i64 r.d0, .int .i64 r.d1, .int .i64 r.mask, .int .i64 r.flags, .int .i64 r.classes] rfl _ Try.underlying43 rfl (by kernel_rfl) ?_
  simp only [Act.put, List.setIfInBounds_toArray, List.set_cons_zero, List.set_cons_succ]
  refine dw_row (by kernel_rfl) 34 (.tmp 3) rfl n3 0 rfl _ _ hBn3 [(.string a.src : Value), .string a.dst, .int .i64 a.from_, .int .i64 a.to_, .int .u32 a.seq, .int .u32 a.ack, .int .i64 a.flags, .int .i64 a.win, .int .i64 a.urg, .int .i64 a.mss, .int .i64 a.scale, .bool (a.sack), .slice a.ba a.bn a.bc, .bool (a.timed), .int .u32 a.time, .int .u32 a.echo, .string a.data, .int .i64 a.side, .int .i64 a.class_] rfl _ Try.underlying34 rfl (by kernel_rfl) ?_
  simp only [Act.put, List.setIfInBounds_toArray, List.set_cons_zero, List.set_cons_succ]
  refine dw_ret (by kernel_rfl) 10 #[(.agg #[(.bool (r.acc) : Value), .int .i64 2, .string r.fb, .int .i64 r.fn, .string r.tb, .int .i64 r.tn, .int .i64 r.s0, .int .i64 r.s1, .int .i64 r.d0, .int .i64 r.d1, .int .i64 r.mask, .int .i64 r.flags, .int .i64 r.classes] : Value), .agg #[(.string a.src : Value), .string a.dst, .int .i64 a.from_, .int .i64 a.to_, .int .u32 a.seq, .int .u32 a.ack, .int .i64 a.flags, .int .i64 a.win, .int .i64 a.urg, .int .i64 a.mss, .int .i64 a.scale, .bool (a.sack), .slice a.ba a.bn a.bc, .bool (a.timed), .int .u32 a.time, .int .u32 a.echo, .string a.data, .int .i64 a.side, .int .i64 a.class_]] (by kernel_rfl) (hy ▸ one_any { r with side := 2 } a hsm.1 hsm.2 hsrc hdst w21) ?_
  intro w23 hb
  have ht24 : Touch (fun _ => False) w21 w23 := Touch.none hb
  replace hBn1 := hBn1.keep ht24 (fun h => h)
  replace hBn3 := hBn3.keep ht24 (fun h => h)
  replace hBn5 := hBn5.keep ht24 (fun h => h)
  replace hBn9 := hBn9.keep ht24 (fun h => h)
  replace hBn13 := hBn13.keep ht24 (fun h => h)
  replace hBn17 := hBn17.keep ht24 (fun h => h)
  replace hT0 := hT0.trans ht24 (fun _ _ h => h.elim)
  clear hb
  simp only [Act.put, List.setIfInBounds_toArray, List.set_cons_zero, List.set_cons_succ]
  refine dw_val (by kernel_rfl) (.bool true) (by kernel_rfl) ?_
  simp only [Act.put, List.setIfInBounds_toArray, List.set_cons_zero, List.set_cons_succ]
  refine wl_nil ?_
  refine hK11 _ _ ?_
  refine wp_seq_k fun K12 hK12 => ?_
  refine wl_region ?_
  refine dw_val (by kernel_rfl) (.bool false) (by kernel_rfl) ?_
  simp only [Act.put, List.setIfInBounds_toArray, List.set_cons_zero, List.set_cons_succ]
  refine dw_val (by kernel_rfl) (.bool false) (by kernel_rfl) ?_
  simp only [Act.put, List.setIfInBounds_toArray, List.set_cons_zero, List.set_cons_succ]
  refine dw_no (by kernel_rfl) ?_
  simp only [Act.put, List.setIfInBounds_toArray, List.set_cons_zero, List.set_cons_succ]
  refine dw_val (by kernel_rfl) (.bool false) (by kernel_rfl) ?_
  simp only [Act.put, List.setIfInBounds_toArray, List.set_cons_zero, List.set_cons_succ]
  refine dw_val (by kernel_rfl) (.bool true) (by kernel_rfl) ?_
  simp only [Act.put, List.setIfInBounds_toArray, List.set_cons_zero, List.set_cons_succ]
  refine dw_val (by kernel_rfl) (.bool true) (by kernel_rfl) ?_
  simp only [Act.put, List.setIfInBounds_toArray, List.set_cons_zero, List.set_cons_succ]
  refine dw_val (by kernel_rfl) (.pointer (some ⟨n3, 17, none⟩)) (by kernel_rfl) ?_
  simp only [Act.put, List.setIfInBounds_toArray, List.set_cons_zero, List.set_cons_succ]
  refine dw_cell (by kernel_rfl) 3 (.tmp 34) rfl n3 17 rfl _ _ hBn3 (.int .i64 a.side) rfl _ Try.underlying3 rfl ?_
  simp only [Act.put, List.setIfInBounds_toArray, List.set_cons_zero, List.set_cons_succ]
  refine dw_bool (by kernel_rfl) (a.side != 1) (by kernel_rfl) (fun hc => ?_) (fun hc => absurd hc (by simp [hs1]))
  simp only [Act.put, List.setIfInBounds_toArray, List.set_cons_zero, List.set_cons_succ]
  refine dw_val (by kernel_rfl) (.bool true) (by kernel_rfl) ?_
  simp only [Act.put, List.setIfInBounds_toArray, List.set_cons_zero, List.set_cons_succ]
  refine dw_val (by kernel_rfl) (.pointer (some ⟨n3, 17, none⟩)) (by kernel_rfl) ?_
  simp only [Act.put, List.setIfInBounds_toArray, List.set_cons_zero, List.set_cons_succ]
  refine dw_cell (by kernel_rfl) 3 (.tmp 38) rfl n3 17 rfl _ _ hBn3 (.int .i64 a.side) rfl _ Try.underlying3 rfl ?_
  simp only [Act.put, List.setIfInBounds_toArray, List.set_cons_zero, List.set_cons_succ]
  refine dw_bool (by kernel_rfl) (a.side != 2) (by kernel_rfl) (fun hc => absurd hc (by simp [hs2])) (fun hc => ?_)
  simp only [Act.put, List.setIfInBounds_toArray, List.set_cons_zero, List.set_cons_succ]
  refine dw_val (by kernel_rfl) (.bool false) (by kernel_rfl) ?_
  simp only [Act.put, List.setIfInBounds_toArray, List.set_cons_zero, List.set_cons_succ]
  refine dw_val (by kernel_rfl) (.bool false) (by kernel_rfl) ?_
  simp only [Act.put, List.setIfInBounds_toArray, List.set_cons_zero, List.set_cons_succ]
  refine dw_row (by kernel_rfl) 43 (.tmp 7) rfl n17 0 rfl _ _ hBn17 [(.bool (r.acc) : Value), .int .i64 0, .string r.fb, .int .i64 r.fn, .string r.tb, .int .i64 r.tn, .int .i64 r.s0, .int .i64 r.s1, .int .i64 r.d0, .int .i64 r.d1, .int .i64 r.mask, .int .i64 r.flags, .int .i64 r.classes] rfl _ Try.underlying43 rfl (by kernel_rfl) ?_
  simp only [Act.put, List.setIfInBounds_toArray, List.set_cons_zero, List.set_cons_succ]
  refine dw_row (by kernel_rfl) 34 (.tmp 3) rfl n3 0 rfl _ _ hBn3 [(.string a.src : Value), .string a.dst, .int .i64 a.from_, .int .i64 a.to_, .int .u32 a.seq, .int .u32 a.ack, .int .i64 a.flags, .int .i64 a.win, .int .i64 a.urg, .int .i64 a.mss, .int .i64 a.scale, .bool (a.sack), .slice a.ba a.bn a.bc, .bool (a.timed), .int .u32 a.time, .int .u32 a.echo, .string a.data, .int .i64 a.side, .int .i64 a.class_] rfl _ Try.underlying34 rfl (by kernel_rfl) ?_
  simp only [Act.put, List.setIfInBounds_toArray, List.set_cons_zero, List.set_cons_succ]
  refine dw_ret (by kernel_rfl) 10 #[(.agg #[(.bool (r.acc) : Value), .int .i64 0, .string r.fb, .int .i64 r.fn, .string r.tb, .int .i64 r.tn, .int .i64 r.s0, .int .i64 r.s1, .int .i64 r.d0, .int .i64 r.d1, .int .i64 r.mask, .int .i64 r.flags, .int .i64 r.classes] : Value), .agg #[(.string a.src : Value), .string a.dst, .int .i64 a.from_, .int .i64 a.to_, .int .u32 a.seq, .int .u32 a.ack, .int .i64 a.flags, .int .i64 a.win, .int .i64 a.urg, .int .i64 a.mss, .int .i64 a.scale, .bool (a.sack), .slice a.ba a.bn a.bc, .bool (a.timed), .int .u32 a.time, .int .u32 a.echo, .string a.data, .int .i64 a.side, .int .i64 a.class_]] (by kernel_rfl) (hz ▸ one_any { r with side := 0 } a hsm.1 hsm.2 hsrc hdst w23) ?_
  intro w25 hb
  have ht26 : Touch (fun _ => False) w23 w25 := Touch.none hb
  replace hBn1 := hBn1.keep ht26 (fun h => h)
  replace hBn3 := hBn3.keep ht26 (fun h => h)
  replace hBn5 := hBn5.keep ht26 (fun h => h)
  replace hBn9 := hBn9.keep ht26 (fun h => h)
  replace hBn13 := hBn13.keep ht26 (fun h => h)
  replace hBn17 := hBn17.keep ht26 (fun h => h)
  replace hT0 := hT0.trans ht26 (fun _ _ h => h.elim)
  clear hb
  simp only [Act.put, List.setIfInBounds_toArray, List.set_cons_zero, List.set_cons_succ]
  refine dw_val (by kernel_rfl) (.bool false) (by kernel_rfl) ?_
  simp only [Act.put, List.setIfInBounds_toArray, List.set_cons_zero, List.set_cons_succ]
  refine dw_val (by kernel_rfl) (.bool false) (by kernel_rfl) ?_
  simp only [Act.put, List.setIfInBounds_toArray, List.set_cons_zero, List.set_cons_succ]
  refine dw_val (by kernel_rfl) (.bool true) (by kernel_rfl) ?_
  simp only [Act.put, List.setIfInBounds_toArray, List.set_cons_zero, List.set_cons_succ]
  refine dw_val (by kernel_rfl) (.bool true) (by kernel_rfl) ?_
  simp only [Act.put, List.setIfInBounds_toArray, List.set_cons_zero, List.set_cons_succ]
  refine dw_val (by kernel_rfl) (.bool true) (by kernel_rfl) ?_
  simp only [Act.put, List.setIfInBounds_toArray, List.set_cons_zero, List.set_cons_succ]
  refine dw_val (by kernel_rfl) (.bool true) (by kernel_rfl) ?_
  simp only [Act.put, List.setIfInBounds_toArray, List.set_cons_zero, List.set_cons_succ]
  refine dw_val (by kernel_rfl) (.bool true) (by kernel_rfl) ?_
  simp only [Act.put, List.setIfInBounds_toArray, List.set_cons_zero, List.set_cons_succ]
  refine dw_val (by kernel_rfl) (.bool true) (by kernel_rfl) ?_
  simp only [Act.put, List.setIfInBounds_toArray, List.set_cons_zero, List.set_cons_succ]
  refine dw_val (by kernel_rfl) (.bool false) (by kernel_rfl) ?_
  simp only [Act.put, List.setIfInBounds_toArray, List.set_cons_zero, List.set_cons_succ]
  refine dw_val (by kernel_rfl) (.bool true) (by kernel_rfl) ?_
  simp only [Act.put, List.setIfInBounds_toArray, List.set_cons_zero, List.set_cons_succ]
  refine dw_val (by kernel_rfl) (.bool true) (by kernel_rfl) ?_
  simp only [Act.put, List.setIfInBounds_toArray, List.set_cons_zero, List.set_cons_succ]
  refine dw_no (by kernel_rfl) ?_
  simp only [Act.put, List.setIfInBounds_toArray, List.set_cons_zero, List.set_cons_succ]
  refine dw_no (by kernel_rfl) ?_
  simp only [Act.put, List.setIfInBounds_toArray, List.set_cons_zero, List.set_cons_succ]
  refine dw_no (by kernel_rfl) ?_
  simp only [Act.put, List.setIfInBounds_toArray, List.set_cons_zero, List.set_cons_succ]
  refine dw_val (by kernel_rfl) (.bool true) (by kernel_rfl) ?_
  simp only [Act.put, List.setIfInBounds_toArray, List.set_cons_zero, List.set_cons_succ]
  refine dw_val (by kernel_rfl) (.bool true) (by kernel_rfl) ?_
  simp only [Act.put, List.setIfInBounds_toArray, List.set_cons_zero, List.set_cons_succ]
  refine dw_val (by kernel_rfl) (.bool true) (by kernel_rfl) ?_
  simp only [Act.put, List.setIfInBounds_toArray, List.set_cons_zero, List.set_cons_succ]
  refine dw_val (by kernel_rfl) (.bool true) (by kernel_rfl) ?_
  simp only [Act.put, List.setIfInBounds_toArray, List.set_cons_zero, List.set_cons_succ]
  refine dw_val (by kernel_rfl) (.bool false) (by kernel_rfl) ?_
  simp only [Act.put, List.setIfInBounds_toArray, List.set_cons_zero, List.set_cons_succ]
  refine dw_val (by kernel_rfl) (.bool false) (by kernel_rfl) ?_
  simp only [Act.put, List.setIfInBounds_toArray, List.set_cons_zero, List.set_cons_succ]
  refine dw_val (by kernel_rfl) (.pointer (some ⟨n3, 17, none⟩)) (by kernel_rfl) ?_
  simp only [Act.put, List.setIfInBounds_toArray, List.set_cons_zero, List.set_cons_succ]
  refine dw_cell (by kernel_rfl) 3 (.tmp 66) rfl n3 17 rfl _ _ hBn3 (.int .i64 a.side) rfl _ Try.underlying3 rfl ?_
  simp only [Act.put, List.setIfInBounds_toArray, List.set_cons_zero, List.set_cons_succ]
  refine dw_bool (by kernel_rfl) (a.side == 2) (by kernel_rfl) (fun hc => ?_) (fun hc => absurd hc (by simp [hs2]))
  simp only [Act.put, List.setIfInBounds_toArray, List.set_cons_zero, List.set_cons_succ]
  refine dw_val (by kernel_rfl) (.bool true) (by kernel_rfl) ?_
  simp only [Act.put, List.setIfInBounds_toArray, List.set_cons_zero, List.set_cons_succ]
  refine dw_val (by kernel_rfl) (.bool true) (by kernel_rfl) ?_
  simp only [Act.put, List.setIfInBounds_toArray, List.set_cons_zero, List.set_cons_succ]
  refine dw_val (by kernel_rfl) (.bool true) (by kernel_rfl) ?_
  simp only [Act.put, List.setIfInBounds_toArray, List.set_cons_zero, List.set_cons_succ]
  refine dw_ret (by kernel_rfl) 9 #[] (by kernel_rfl) (known_any w25) ?_
  intro w27 hb
  have ht28 : Touch (fun _ => False) w25 w27 := Touch.none hb
  replace hBn1 := hBn1.keep ht28 (fun h => h)
  replace hBn3 := hBn3.keep ht28 (fun h => h)
  replace hBn5 := hBn5.keep ht28 (fun h => h)
  replace hBn9 := hBn9.keep ht28 (fun h => h)
  replace hBn13 := hBn13.keep ht28 (fun h => h)
  replace hBn17 := hBn17.keep ht28 (fun h => h)
  replace hT0 := hT0.trans ht28 (fun _ _ h => h.elim)
  clear hb
  simp only [Act.put, List.setIfInBounds_toArray, List.set_cons_zero, List.set_cons_succ]
  refine dw_val (by kernel_rfl) (.bool true) (by kernel_rfl) ?_
  simp only [Act.put, List.setIfInBounds_toArray, List.set_cons_zero, List.set_cons_succ]
  refine dw_val (by kernel_rfl) (.bool true) (by kernel_rfl) ?_
  simp only [Act.put, List.setIfInBounds_toArray, List.set_cons_zero, List.set_cons_succ]
  refine wl_nil ?_
  refine hK12 _ _ ?_
  refine wp_ret ?_
  repeat (first | with_reducible refine ret_then ?_ | with_reducible refine ret_block ?_)
  refine bodyPost_ret (v := .bool true) (by kernel_rfl) rfl ?_
  exact ⟨rfl, hT0.toBelow⟩
set_option maxRecDepth 100000 in
set_option maxHeartbeats 4000000 in
theorem sides_2_false (r : Rl) (a : Ak) (w : World) (hl : lightB (fun _ => r) 1 a = true) (hsm : r.fb.size ≤ 100 ∧ r.tb.size ≤ 100) (hsrc : a.src.size ≤ 100) (hdst : a.dst.size ≤ 100) (hs1 : a.side ≠ 1) (hs2 : a.side = 2) (hx : oneB { r with side := 1 } a = false) (hy : oneB { r with side := 2 } a = false) (hz : oneB { r with side := 0 } a = false) :
    Calls Try.prog 7 #[.agg r.cs.toArray, .agg a.cs.toArray] w fun e w' => e = .returned (.bool true) ∧ Below w.heap.size w w' := by
  have hT0 := Touch.refl (fun _ => False) w
  go_enter Try.func7, Try.ntmps7
  refine wp_seq_k fun K1 hK1 => ?_
  refine wl_region ?_
  refine dw_new (by kernel_rfl) [(.bool (r.acc) : Value), .int .i64 r.side, .string r.fb, .int .i64 r.fn, .string r.tb, .int .i64 r.tn, .int .i64 r.s0, .int .i64 r.s1, .int .i64 r.d0, .int .i64 r.d1, .int .i64 r.mask, .int .i64 r.flags, .int .i64 r.classes] 43 (by kernel_rfl) ?_
  intro n1 w2 hnn1 hsn1 hBn1 hTn1
  have hgen1 : w.heap.size ≤ n1 := by have := hT0.size; omega
  replace hT0 := hT0.trans hTn1 (fun _ _ h => h.elim)
  simp only [Act.put, List.setIfInBounds_toArray, List.set_cons_zero, List.set_cons_succ]
  refine dw_new (by kernel_rfl) [(.string a.src : Value), .string a.dst, .int .i64 a.from_, .int .i64 a.to_, .int .u32 a.seq, .int .u32 a.ack, .int .i64 a.flags, .int .i64 a.win, .int .i64 a.urg, .int .i64 a.mss, .int .i64 a.scale, .bool (a.sack), .slice a.ba a.bn a.bc, .bool (a.timed), .int .u32 a.time, .int .u32 a.echo, .string a.data, .int .i64 a.side, .int .i64 a.class_] 34 (by kernel_rfl) ?_
  intro n3 w4 hnn3 hsn3 hBn3 hTn3
  have hnen1n3 : n1 ≠ n3 := by have := hBn1.lt; omega
  have hgen3 : w.heap.size ≤ n3 := by have := hT0.size; omega
  replace hBn1 := hBn1.keep hTn3 (fun h => h)
  replace hT0 := hT0.trans hTn3 (fun _ _ h => h.elim)
  simp only [Act.put, List.setIfInBounds_toArray, List.set_cons_zero, List.set_cons_succ]
  refine dw_val (by kernel_rfl) (.bool false) (by kernel_rfl) ?_
  simp only [Act.put, List.setIfInBounds_toArray, List.set_cons_zero, List.set_cons_succ]
  refine wl_nil ?_
  refine hK1 _ _ ?_
  refine wp_seq_k fun K2 hK2 => ?_
  refine wp_seq_k fun K3 hK3 => ?_
  refine wl_region ?_
  refine dw_row (by kernel_rfl) 43 (.tmp 2) rfl n1 0 rfl _ _ hBn1 [(.bool (r.acc) : Value), .int .i64 r.side, .string r.fb, .int .i64 r.fn, .string r.tb, .int .i64 r.tn, .int .i64 r.s0, .int .i64 r.s1, .int .i64 r.d0, .int .i64 r.d1, .int .i64 r.mask, .int .i64 r.flags, .int .i64 r.classes] rfl _ Try.underlying43 rfl (by kernel_rfl) ?_
  simp only [Act.put, List.setIfInBounds_toArray, List.set_cons_zero, List.set_cons_succ]
  refine dw_newSlice (by kernel_rfl) [(.bool (r.acc) : Value), .int .i64 r.side, .string r.fb, .int .i64 r.fn, .string r.tb, .int .i64 r.tn, .int .i64 r.s0, .int .i64 r.s1, .int .i64 r.d0, .int .i64 r.d1, .int .i64 r.mask, .int .i64 r.flags, .int .i64 r.classes] 43 1 (by kernel_rfl) ?_
  intro n5 w6 hnn5 hsn5 hBn5 hTn5
  have hnen1n5 : n1 ≠ n5 := by have := hBn1.lt; omega
  have hnen3n5 : n3 ≠ n5 := by have := hBn3.lt; omega
  have hgen5 : w.heap.size ≤ n5 := by have := hT0.size; omega
  replace hBn1 := hBn1.keep hTn5 (fun h => h)
  replace hBn3 := hBn3.keep hTn5 (fun h => h)
  replace hT0 := hT0.trans hTn5 (fun _ _ h => h.elim)
  simp only [Act.put, List.setIfInBounds_toArray, List.set_cons_zero, List.set_cons_succ]
  refine dw_row (by kernel_rfl) 34 (.tmp 3) rfl n3 0 rfl _ _ hBn3 [(.string a.src : Value), .string a.dst, .int .i64 a.from_, .int .i64 a.to_, .int .u32 a.seq, .int .u32 a.ack, .int .i64 a.flags, .int .i64 a.win, .int .i64 a.urg, .int .i64 a.mss, .int .i64 a.scale, .bool (a.sack), .slice a.ba a.bn a.bc, .bool (a.timed), .int .u32 a.time, .int .u32 a.echo, .string a.data, .int .i64 a.side, .int .i64 a.class_] rfl _ Try.underlying34 rfl (by kernel_rfl) ?_
  simp only [Act.put, List.setIfInBounds_toArray, List.set_cons_zero, List.set_cons_succ]
  refine dw_ret (by kernel_rfl) 8 #[(.slice (some ⟨n5, 0, none⟩) 1 1 : Value), .agg #[(.string a.src : Value), .string a.dst, .int .i64 a.from_, .int .i64 a.to_, .int .u32 a.seq, .int .u32 a.ack, .int .i64 a.flags, .int .i64 a.win, .int .i64 a.urg, .int .i64 a.mss, .int .i64 a.scale, .bool (a.sack), .slice a.ba a.bn a.bc, .bool (a.timed), .int .u32 a.time, .int .u32 a.echo, .string a.data, .int .i64 a.side, .int .i64 a.class_]] (by kernel_rfl) (light_any (some ⟨n5, 0, none⟩) 1 1 (fun _ => r) a w6 (rule1 (r := r) hBn5) (by decide)) ?_
  intro w7 hb
  have ht8 : Touch (fun _ => False) w6 w7 := Touch.none hb
  replace hBn1 := hBn1.keep ht8 (fun h => h)
  replace hBn3 := hBn3.keep ht8 (fun h => h)
  replace hBn5 := hBn5.keep ht8 (fun h => h)
  replace hT0 := hT0.trans ht8 (fun _ _ h => h.elim)
  clear hb
  simp only [Act.put, List.setIfInBounds_toArray, List.set_cons_zero, List.set_cons_succ]
  refine dw_bool (by kernel_rfl) (!(lightB (fun _ => r) 1 a)) (by kernel_rfl) (fun hc => absurd hc (by simp [hl])) (fun hc => ?_)
  simp only [Act.put, List.setIfInBounds_toArray, List.set_cons_zero, List.set_cons_succ]
  refine wl_nil ?_
  refine hK3 _ _ ?_
  refine wp_cond_false rfl ?_
  refine wp_skip ?_
  refine hK2 _ _ ?_
  refine wp_seq_k fun K4 hK4 => ?_
  refine wl_region ?_
  refine dw_row (by kernel_rfl) 43 (.tmp 2) rfl n1 0 rfl _ _ hBn1 [(.bool (r.acc) : Value), .int .i64 r.side, .string r.fb, .int .i64 r.fn, .string r.tb, .int .i64 r.tn, .int .i64 r.s0, .int .i64 r.s1, .int .i64 r.d0, .int .i64 r.d1, .int .i64 r.mask, .int .i64 r.flags, .int .i64 r.classes] rfl _ Try.underlying43 rfl (by kernel_rfl) ?_
  simp only [Act.put, List.setIfInBounds_toArray, List.set_cons_zero, List.set_cons_succ]
  refine dw_new (by kernel_rfl) [(.bool false : Value), .int .i64 0, .string ⟨#[]⟩, .int .i64 0, .string ⟨#[]⟩, .int .i64 0, .int .i64 0, .int .i64 0, .int .i64 0, .int .i64 0, .int .i64 0, .int .i64 0, .int .i64 0] 43 (by kernel_rfl) ?_
  intro n9 w10 hnn9 hsn9 hBn9 hTn9
  have hnen1n9 : n1 ≠ n9 := by have := hBn1.lt; omega
  have hnen3n9 : n3 ≠ n9 := by have := hBn3.lt; omega
  have hnen5n9 : n5 ≠ n9 := by have := hBn5.lt; omega
  have hgen9 : w.heap.size ≤ n9 := by have := hT0.size; omega
  replace hBn1 := hBn1.keep hTn9 (fun h => h)
  replace hBn3 := hBn3.keep hTn9 (fun h => h)
  replace hBn5 := hBn5.keep hTn9 (fun h => h)
  replace hT0 := hT0.trans hTn9 (fun _ _ h => h.elim)
  simp only [Act.put, List.setIfInBounds_toArray, List.set_cons_zero, List.set_cons_succ]
  refine dw_put (by kernel_rfl) 43 (.tmp 5) (.tmp 16) rfl n9 0 rfl (.agg #[(.bool (r.acc) : Value), .int .i64 r.side, .string r.fb, .int .i64 r.fn, .string r.tb, .int .i64 r.tn, .int .i64 r.s0, .int .i64 r.s1, .int .i64 r.d0, .int .i64 r.d1, .int .i64 r.mask, .int .i64 r.flags, .int .i64 r.classes]) rfl _ _ hBn9 [(.bool (r.acc) : Value), .int .i64 r.side, .string r.fb, .int .i64 r.fn, .string r.tb, .int .i64 r.tn, .int .i64 r.s0, .int .i64 r.s1, .int .i64 r.d0, .int .i64 r.d1, .int .i64 r.mask, .int .i64 r.flags, .int .i64 r.classes] rfl (Nat.le_of_ble_eq_true rfl) (by kernel_rfl) (by kernel_rfl) [(.bool (r.acc) : Value), .int .i64 r.side, .string r.fb, .int .i64 r.fn, .string r.tb, .int .i64 r.tn, .int .i64 r.s0, .int .i64 r.s1, .int .i64 r.d0, .int .i64 r.d1, .int .i64 r.mask, .int .i64 r.flags, .int .i64 r.classes] rfl ?_
  intro w11 hBw11_ hTw11 hSw11
  replace hBn1 := hBn1.keep hTw11 (by intro h; omega)
  replace hBn3 := hBn3.keep hTw11 (by intro h; omega)
  replace hBn5 := hBn5.keep hTw11 (by intro h; omega)
  replace hT0 := hT0.trans hTw11 (fun i hi h => by first | omega | (subst h; omega) | exact h | exact .inl h | exact .inr h)
  clear hBn9
  have hBn9 := hBw11_
  clear hBw11_
  simp only [Act.put]
  refine wl_nil ?_
  refine hK4 _ _ ?_
  refine wp_seq_k fun K5 hK5 => ?_
  refine wl_region ?_
  refine dw_val (by kernel_rfl) (.pointer (some ⟨n9, 1, none⟩)) (by kernel_rfl) ?_
  simp only [Act.put, List.setIfInBounds_toArray, List.set_cons_zero, List.set_cons_succ]
  refine dw_put (by kernel_rfl) 3 (.tmp 17) (.const (.int .i64 1)) rfl n9 1 rfl (.int .i64 1) rfl _ _ hBn9 [(.int .i64 1 : Value)] rfl (Nat.le_of_ble_eq_true rfl) (by kernel_rfl) (by kernel_rfl) [(.bool (r.acc) : Value), .int .i64 1, .string r.fb, .int .i64 r.fn, .string r.tb, .int .i64 r.tn, .int .i64 r.s0, .int .i64 r.s1, .int .i64 r.d0, .int .i64 r.d1, .int .i64 r.mask, .int .i64 r.flags, .int .i64 r.classes] rfl ?_
  intro w12 hBw12_ hTw12 hSw12
  replace hBn1 := hBn1.keep hTw12 (by intro h; omega)
  replace hBn3 := hBn3.keep hTw12 (by intro h; omega)
  replace hBn5 := hBn5.keep hTw12 (by intro h; omega)
  replace hT0 := hT0.trans hTw12 (fun i hi h => by first | omega | (subst h; omega) | exact h | exact .inl h | exact .inr h)
  clear hBn9
  have hBn9 := hBw12_
  clear hBw12_
  simp only [Act.put]
  refine wl_nil ?_
  refine hK5 _ _ ?_
  refine wp_seq_k fun K6 hK6 => ?_
  refine wl_region ?_
  refine dw_row (by kernel_rfl) 43 (.tmp 2) rfl n1 0 rfl _ _ hBn1 [(.bool (r.acc) : Value), .int .i64 r.side, .string r.fb, .int .i64 r.fn, .string r.tb, .int .i64 r.tn, .int .i64 r.s0, .int .i64 r.s1, .int .i64 r.d0, .int .i64 r.d1, .int .i64 r.mask, .int .i64 r.flags, .int .i64 r.classes] rfl _ Try.underlying43 rfl (by kernel_rfl) ?_
  simp only [Act.put, List.setIfInBounds_toArray, List.set_cons_zero, List.set_cons_succ]
  refine dw_new (by kernel_rfl) [(.bool false : Value), .int .i64 0, .string ⟨#[]⟩, .int .i64 0, .string ⟨#[]⟩, .int .i64 0, .int .i64 0, .int .i64 0, .int .i64 0, .int .i64 0, .int .i64 0, .int .i64 0, .int .i64 0] 43 (by kernel_rfl) ?_
  intro n13 w14 hnn13 hsn13 hBn13 hTn13
  have hnen1n13 : n1 ≠ n13 := by have := hBn1.lt; omega
  have hnen3n13 : n3 ≠ n13 := by have := hBn3.lt; omega
  have hnen5n13 : n5 ≠ n13 := by have := hBn5.lt; omega
  have hnen9n13 : n9 ≠ n13 := by have := hBn9.lt; omega
  have hgen13 : w.heap.size ≤ n13 := by have := hT0.size; omega
  replace hBn1 := hBn1.keep hTn13 (fun h => h)
  replace hBn3 := hBn3.keep hTn13 (fun h => h)
  replace hBn5 := hBn5.keep hTn13 (fun h => h)
  replace hBn9 := hBn9.keep hTn13 (fun h => h)
  replace hT0 := hT0.trans hTn13 (fun _ _ h => h.elim)
  simp only [Act.put, List.setIfInBounds_toArray, List.set_cons_zero, List.set_cons_succ]
  refine dw_put (by kernel_rfl) 43 (.tmp 6) (.tmp 18) rfl n13 0 rfl (.agg #[(.bool (r.acc) : Value), .int .i64 r.side, .string r.fb, .int .i64 r.fn, .string r.tb, .int .i64 r.tn, .int .i64 r.s0, .int .i64 r.s1, .int .i64 r.d0, .int .i64 r.d1, .int .i64 r.mask, .int .i64 r.flags, .int .i64 r.classes]) rfl _ _ hBn13 [(.bool (r.acc) : Value), .int .i64 r.side, .string r.fb, .int .i64 r.fn, .string r.tb, .int .i64 r.tn, .int .i64 r.s0, .int .i64 r.s1, .int .i64 r.d0, .int .i64 r.d1, .int .i64 r.mask, .int .i64 r.flags, .int .i64 r.classes] rfl (Nat.le_of_ble_eq_true rfl) (by kernel_rfl) (by kernel_rfl) [(.bool (r.acc) : Value), .int .i64 r.side, .string r.fb, .int .i64 r.fn, .string r.tb, .int .i64 r.tn, .int .i64 r.s0, .int .i64 r.s1, .int .i64 r.d0, .int .i64 r.d1, .int .i64 r.mask, .int .i64 r.flags, .int .i64 r.classes] rfl ?_
  intro w15 hBw15_ hTw15 hSw15
  replace hBn1 := hBn1.keep hTw15 (by intro h; omega)
  replace hBn3 := hBn3.keep hTw15 (by intro h; omega)
  replace hBn5 := hBn5.keep hTw15 (by intro h; omega)
  replace hBn9 := hBn9.keep hTw15 (by intro h; omega)
  replace hT0 := hT0.trans hTw15 (fun i hi h => by first | omega | (subst h; omega) | exact h | exact .inl h | exact .inr h)
  clear hBn13
  have hBn13 := hBw15_
  clear hBw15_
  simp only [Act.put]
  refine wl_nil ?_
  refine hK6 _ _ ?_
  refine wp_seq_k fun K7 hK7 => ?_
  refine wl_region ?_
  refine dw_val (by kernel_rfl) (.pointer (some ⟨n13, 1, none⟩)) (by kernel_rfl) ?_
  simp only [Act.put, List.setIfInBounds_toArray, List.set_cons_zero, List.set_cons_succ]
  refine dw_put (by kernel_rfl) 3 (.tmp 19) (.const (.int .i64 2)) rfl n13 1 rfl (.int .i64 2) rfl _ _ hBn13 [(.int .i64 2 : Value)] rfl (Nat.le_of_ble_eq_true rfl) (by kernel_rfl) (by kernel_rfl) [(.bool (r.acc) : Value), .int .i64 2, .string r.fb, .int .i64 r.fn, .string r.tb, .int .i64 r.tn, .int .i64 r.s0, .int .i64 r.s1, .int .i64 r.d0, .int .i64 r.d1, .int .i64 r.mask, .int .i64 r.flags, .int .i64 r.classes] rfl ?_
  intro w16 hBw16_ hTw16 hSw16
  replace hBn1 := hBn1.keep hTw16 (by intro h; omega)
  replace hBn3 := hBn3.keep hTw16 (by intro h; omega)
  replace hBn5 := hBn5.keep hTw16 (by intro h; omega)
  replace hBn9 := hBn9.keep hTw16 (by intro h; omega)
  replace hT0 := hT0.trans hTw16 (fun i hi h => by first | omega | (subst h; omega) | exact h | exact .inl h | exact .inr h)
  clear hBn13
  have hBn13 := hBw16_
  clear hBw16_
  simp only [Act.put]
  refine wl_nil ?_
  refine hK7 _ _ ?_
  refine wp_seq_k fun K8 hK8 => ?_
  refine wl_region ?_
  refine dw_row (by kernel_rfl) 43 (.tmp 2) rfl n1 0 rfl _ _ hBn1 [(.bool (r.acc) : Value), .int .i64 r.side, .string r.fb, .int .i64 r.fn, .string r.tb, .int .i64 r.tn, .int .i64 r.s0, .int .i64 r.s1, .int .i64 r.d0, .int .i64 r.d1, .int .i64 r.mask, .int .i64 r.flags, .int .i64 r.classes] rfl _ Try.underlying43 rfl (by kernel_rfl) ?_
  simp only [Act.put, List.setIfInBounds_toArray, List.set_cons_zero, List.set_cons_succ]
  refine dw_new (by kernel_rfl) [(.bool false : Value), .int .i64 0, .string ⟨#[]⟩, .int .i64 0, .string ⟨#[]⟩, .int .i64 0, .int .i64 0, .int .i64 0, .int .i64 0, .int .i64 0, .int .i64 0, .int .i64 0, .int .i64 0] 43 (by kernel_rfl) ?_
  intro n17 w18 hnn17 hsn17 hBn17 hTn17
  have hnen1n17 : n1 ≠ n17 := by have := hBn1.lt; omega
  have hnen3n17 : n3 ≠ n17 := by have := hBn3.lt; omega
  have hnen5n17 : n5 ≠ n17 := by have := hBn5.lt; omega
  have hnen9n17 : n9 ≠ n17 := by have := hBn9.lt; omega
  have hnen13n17 : n13 ≠ n17 := by have := hBn13.lt; omega
  have hgen17 : w.heap.size ≤ n17 := by have := hT0.size; omega
  replace hBn1 := hBn1.keep hTn17 (fun h => h)
  replace hBn3 := hBn3.keep hTn17 (fun h => h)
  replace hBn5 := hBn5.keep hTn17 (fun h => h)
  replace hBn9 := hBn9.keep hTn17 (fun h => h)
  replace hBn13 := hBn13.keep hTn17 (fun h => h)
  replace hT0 := hT0.trans hTn17 (fun _ _ h => h.elim)
  simp only [Act.put, List.setIfInBounds_toArray, List.set_cons_zero, List.set_cons_succ]
  refine dw_put (by kernel_rfl) 43 (.tmp 7) (.tmp 20) rfl n17 0 rfl (.agg #[(.bool (r.acc) : Value), .int .i64 r.side, .string r.fb, .int .i64 r.fn, .string r.tb, .int .i64 r.tn, .int .i64 r.s0, .int .i64 r.s1, .int .i64 r.d0, .int .i64 r.d1, .int .i64 r.mask, .int .i64 r.flags, .int .i64 r.classes]) rfl _ _ hBn17 [(.bool (r.acc) : Value), .int .i64 r.side, .string r.fb, .int .i64 r.fn, .string r.tb, .int .i64 r.tn, .int .i64 r.s0, .int .i64 r.s1, .int .i64 r.d0, .int .i64 r.d1, .int .i64 r.mask, .int .i64 r.flags, .int .i64 r.classes] rfl (Nat.le_of_ble_eq_true rfl) (by kernel_rfl) (by kernel_rfl) [(.bool (r.acc) : Value), .int .i64 r.side, .string r.fb, .int .i64 r.fn, .string r.tb, .int .i64 r.tn, .int .i64 r.s0, .int .i64 r.s1, .int .i64 r.d0, .int .i64 r.d1, .int .i64 r.mask, .int .i64 r.flags, .int .i64 r.classes] rfl ?_
  intro w19 hBw19_ hTw19 hSw19
  replace hBn1 := hBn1.keep hTw19 (by intro h; omega)
  replace hBn3 := hBn3.keep hTw19 (by intro h; omega)
  replace hBn5 := hBn5.keep hTw19 (by intro h; omega)
  replace hBn9 := hBn9.keep hTw19 (by intro h; omega)
  replace hBn13 := hBn13.keep hTw19 (by intro h; omega)
  replace hT0 := hT0.trans hTw19 (fun i hi h => by first | omega | (subst h; omega) | exact h | exact .inl h | exact .inr h)
  clear hBn17
  have hBn17 := hBw19_
  clear hBw19_
  simp only [Act.put]
  refine wl_nil ?_
  refine hK8 _ _ ?_
  refine wp_seq_k fun K9 hK9 => ?_
  refine wl_region ?_
  refine dw_val (by kernel_rfl) (.pointer (some ⟨n17, 1, none⟩)) (by kernel_rfl) ?_
  simp only [Act.put, List.setIfInBounds_toArray, List.set_cons_zero, List.set_cons_succ]
  refine dw_put (by kernel_rfl) 3 (.tmp 21) (.const (.int .i64 0)) rfl n17 1 rfl (.int .i64 0) rfl _ _ hBn17 [(.int .i64 0 : Value)] rfl (Nat.le_of_ble_eq_true rfl) (by kernel_rfl) (by kernel_rfl) [(.bool (r.acc) : Value), .int .i64 0, .string r.fb, .int .i64 r.fn, .string r.tb, .int .i64 r.tn, .int .i64 r.s0, .int .i64 r.s1, .int .i64 r.d0, .int .i64 r.d1, .int .i64 r.mask, .int .i64 r.flags, .int .i64 r.classes] rfl ?_
  intro w20 hBw20_ hTw20 hSw20
  replace hBn1 := hBn1.keep hTw20 (by intro h; omega)
  replace hBn3 := hBn3.keep hTw20 (by intro h; omega)
  replace hBn5 := hBn5.keep hTw20 (by intro h; omega)
  replace hBn9 := hBn9.keep hTw20 (by intro h; omega)
  replace hBn13 := hBn13.keep hTw20 (by intro h; omega)
  replace hT0 := hT0.trans hTw20 (fun i hi h => by first | omega | (subst h; omega) | exact h | exact .inl h | exact .inr h)
  clear hBn17
  have hBn17 := hBw20_
  clear hBw20_
  simp only [Act.put]
  refine wl_nil ?_
  refine hK9 _ _ ?_
  refine wp_seq_k fun K10 hK10 => ?_
  refine wl_region ?_
  refine dw_row (by kernel_rfl) 43 (.tmp 5) rfl n9 0 rfl _ _ hBn9 [(.bool (r.acc) : Value), .int .i64 1, .string r.fb, .int .i64 r.fn, .string r.tb, .int .i64 r.tn, .int .i64 r.s0, .int .i64 r.s1, .int .i64 r.d0, .int .i64 r.d1, .int .i64 r.mask, .int .i64 r.flags, .int .i64 r.classes] rfl _ Try.underlying43 rfl (by kernel_rfl) ?_
  simp only [Act.put, List.setIfInBounds_toArray, List.set_cons_zero, List.set_cons_succ]
  refine dw_row (by kernel_rfl) 34 (.tmp 3) rfl n3 0 rfl _ _ hBn3 [(.string a.src : Value), .string a.dst, .int .i64 a.from_, .int .i64 a.to_, .int .u32 a.seq, .int .u32 a.ack, .int .i64 a.flags, .int .i64 a.win, .int .i64 a.urg, .int .i64 a.mss, .int .i64 a.scale, .bool (a.sack), .slice a.ba a.bn a.bc, .bool (a.timed), .int .u32 a.time, .int .u32 a.echo, .string a.data, .int .i64 a.side, .int .i64 a.class_] rfl _ Try.underlying34 rfl (by kernel_rfl) ?_
  simp only [Act.put, List.setIfInBounds_toArray, List.set_cons_zero, List.set_cons_succ]
  refine dw_ret (by kernel_rfl) 10 #[(.agg #[(.bool (r.acc) : Value), .int .i64 1, .string r.fb, .int .i64 r.fn, .string r.tb, .int .i64 r.tn, .int .i64 r.s0, .int .i64 r.s1, .int .i64 r.d0, .int .i64 r.d1, .int .i64 r.mask, .int .i64 r.flags, .int .i64 r.classes] : Value), .agg #[(.string a.src : Value), .string a.dst, .int .i64 a.from_, .int .i64 a.to_, .int .u32 a.seq, .int .u32 a.ack, .int .i64 a.flags, .int .i64 a.win, .int .i64 a.urg, .int .i64 a.mss, .int .i64 a.scale, .bool (a.sack), .slice a.ba a.bn a.bc, .bool (a.timed), .int .u32 a.time, .int .u32 a.echo, .string a.data, .int .i64 a.side, .int .i64 a.class_]] (by kernel_rfl) (hx ▸ one_any { r with side := 1 } a hsm.1 hsm.2 hsrc hdst w20) ?_
  intro w21 hb
  have ht22 : Touch (fun _ => False) w20 w21 := Touch.none hb
  replace hBn1 := hBn1.keep ht22 (fun h => h)
  replace hBn3 := hBn3.keep ht22 (fun h => h)
  replace hBn5 := hBn5.keep ht22 (fun h => h)
  replace hBn9 := hBn9.keep ht22 (fun h => h)
  replace hBn13 := hBn13.keep ht22 (fun h => h)
  replace hBn17 := hBn17.keep ht22 (fun h => h)
  replace hT0 := hT0.trans ht22 (fun _ _ h => h.elim)
  clear hb
  simp only [Act.put, List.setIfInBounds_toArray, List.set_cons_zero, List.set_cons_succ]
  refine dw_val (by kernel_rfl) (.bool false) (by kernel_rfl) ?_
  simp only [Act.put, List.setIfInBounds_toArray, List.set_cons_zero, List.set_cons_succ]
  refine wl_nil ?_
  refine hK10 _ _ ?_
  refine wp_seq_k fun K11 hK11 => ?_
  refine wl_region ?_
  refine dw_row (by kernel_rfl) 43 (.tmp 6) rfl n13 0 rfl _ _ hBn13 [(.bool (r.acc) : Value), .int .i64 2, .string r.fb, .int .i64 r.fn, .string r.tb, .int .i64 r.tn, .int .i64 r.s0, .int .i64 r.s1, .int .i64 r.d0, .int .i64 r.d1, .int .i64 r.mask, .int .i64 r.flags, .int .i64 r.classes] rfl _ Try.underlying43 rfl (by kernel_rfl) ?_
  simp only [Act.put, List.setIfInBounds_toArray, List.set_cons_zero, List.set_cons_succ]
  refine dw_row (by kernel_rfl) 34 (.tmp 3) rfl n3 0 rfl _ _ hBn3 [(.string a.src : Value), .string a.dst, .int .i64 a.from_, .int .i64 a.to_, .int .u32 a.seq, .int .u32 a.ack, .int .i64 a.flags, .int .i64 a.win, .int .i64 a.urg, .int .i64 a.mss, .int .i64 a.scale, .bool (a.sack), .slice a.ba a.bn a.bc, .bool (a.timed), .int .u32 a.time, .int .u32 a.echo, .string a.data, .int .i64 a.side, .int .i64 a.class_] rfl _ Try.underlying34 rfl (by kernel_rfl) ?_
  simp only [Act.put, List.setIfInBounds_toArray, List.set_cons_zero, List.set_cons_succ]
  refine dw_ret (by kernel_rfl) 10 #[(.agg #[(.bool (r.acc) : Value), .int .i64 2, .string r.fb, .int .i64 r.fn, .string r.tb, .int .i64 r.tn, .int .i64 r.s0, .int .i64 r.s1, .int .i64 r.d0, .int .i64 r.d1, .int .i64 r.mask, .int .i64 r.flags, .int .i64 r.classes] : Value), .agg #[(.string a.src : Value), .string a.dst, .int .i64 a.from_, .int .i64 a.to_, .int .u32 a.seq, .int .u32 a.ack, .int .i64 a.flags, .int .i64 a.win, .int .i64 a.urg, .int .i64 a.mss, .int .i64 a.scale, .bool (a.sack), .slice a.ba a.bn a.bc, .bool (a.timed), .int .u32 a.time, .int .u32 a.echo, .string a.data, .int .i64 a.side, .int .i64 a.class_]] (by kernel_rfl) (hy ▸ one_any { r with side := 2 } a hsm.1 hsm.2 hsrc hdst w21) ?_
  intro w23 hb
  have ht24 : Touch (fun _ => False) w21 w23 := Touch.none hb
  replace hBn1 := hBn1.keep ht24 (fun h => h)
  replace hBn3 := hBn3.keep ht24 (fun h => h)
  replace hBn5 := hBn5.keep ht24 (fun h => h)
  replace hBn9 := hBn9.keep ht24 (fun h => h)
  replace hBn13 := hBn13.keep ht24 (fun h => h)
  replace hBn17 := hBn17.keep ht24 (fun h => h)
  replace hT0 := hT0.trans ht24 (fun _ _ h => h.elim)
  clear hb
  simp only [Act.put, List.setIfInBounds_toArray, List.set_cons_zero, List.set_cons_succ]
  refine dw_val (by kernel_rfl) (.bool false) (by kernel_rfl) ?_
  simp only [Act.put, List.setIfInBounds_toArray, List.set_cons_zero, List.set_cons_succ]
  refine wl_nil ?_
  refine hK11 _ _ ?_
  refine wp_seq_k fun K12 hK12 => ?_
  refine wl_region ?_
  refine dw_val (by kernel_rfl) (.bool false) (by kernel_rfl) ?_
  simp only [Act.put, List.setIfInBounds_toArray, List.set_cons_zero, List.set_cons_succ]
  refine dw_val (by kernel_rfl) (.bool false) (by kernel_rfl) ?_
  simp only [Act.put, List.setIfInBounds_toArray, List.set_cons_zero, List.set_cons_succ]
  refine dw_no (by kernel_rfl) ?_
  simp only [Act.put, List.setIfInBounds_toArray, List.set_cons_zero, List.set_cons_succ]
  refine dw_val (by kernel_rfl) (.bool false) (by kernel_rfl) ?_
  simp only [Act.put, List.setIfInBounds_toArray, List.set_cons_zero, List.set_cons_succ]
  refine dw_val (by kernel_rfl) (.bool true) (by kernel_rfl) ?_
  simp only [Act.put, List.setIfInBounds_toArray, List.set_cons_zero, List.set_cons_succ]
  refine dw_val (by kernel_rfl) (.bool true) (by kernel_rfl) ?_
  simp only [Act.put, List.setIfInBounds_toArray, List.set_cons_zero, List.set_cons_succ]
  refine dw_val (by kernel_rfl) (.pointer (some ⟨n3, 17, none⟩)) (by kernel_rfl) ?_
  simp only [Act.put, List.setIfInBounds_toArray, List.set_cons_zero, List.set_cons_succ]
  refine dw_cell (by kernel_rfl) 3 (.tmp 34) rfl n3 17 rfl _ _ hBn3 (.int .i64 a.side) rfl _ Try.underlying3 rfl ?_
  simp only [Act.put, List.setIfInBounds_toArray, List.set_cons_zero, List.set_cons_succ]
  refine dw_bool (by kernel_rfl) (a.side != 1) (by kernel_rfl) (fun hc => ?_) (fun hc => absurd hc (by simp [hs1]))
  simp only [Act.put, List.setIfInBounds_toArray, List.set_cons_zero, List.set_cons_succ]
  refine dw_val (by kernel_rfl) (.bool true) (by kernel_rfl) ?_
  simp only [Act.put, List.setIfInBounds_toArray, List.set_cons_zero, List.set_cons_succ]
  refine dw_val (by kernel_rfl) (.pointer (some ⟨n3, 17, none⟩)) (by kernel_rfl) ?_
  simp only [Act.put, List.setIfInBounds_toArray, List.set_cons_zero, List.set_cons_succ]
  refine dw_cell (by kernel_rfl) 3 (.tmp 38) rfl n3 17 rfl _ _ hBn3 (.int .i64 a.side) rfl _ Try.underlying3 rfl ?_
  simp only [Act.put, List.setIfInBounds_toArray, List.set_cons_zero, List.set_cons_succ]
  refine dw_bool (by kernel_rfl) (a.side != 2) (by kernel_rfl) (fun hc => absurd hc (by simp [hs2])) (fun hc => ?_)
  simp only [Act.put, List.setIfInBounds_toArray, List.set_cons_zero, List.set_cons_succ]
  refine dw_val (by kernel_rfl) (.bool false) (by kernel_rfl) ?_
  simp only [Act.put, List.setIfInBounds_toArray, List.set_cons_zero, List.set_cons_succ]
  refine dw_val (by kernel_rfl) (.bool false) (by kernel_rfl) ?_
  simp only [Act.put, List.setIfInBounds_toArray, List.set_cons_zero, List.set_cons_succ]
  refine dw_row (by kernel_rfl) 43 (.tmp 7) rfl n17 0 rfl _ _ hBn17 [(.bool (r.acc) : Value), .int .i64 0, .string r.fb, .int .i64 r.fn, .string r.tb, .int .i64 r.tn, .int .i64 r.s0, .int .i64 r.s1, .int .i64 r.d0, .int .i64 r.d1, .int .i64 r.mask, .int .i64 r.flags, .int .i64 r.classes] rfl _ Try.underlying43 rfl (by kernel_rfl) ?_
  simp only [Act.put, List.setIfInBounds_toArray, List.set_cons_zero, List.set_cons_succ]
  refine dw_row (by kernel_rfl) 34 (.tmp 3) rfl n3 0 rfl _ _ hBn3 [(.string a.src : Value), .string a.dst, .int .i64 a.from_, .int .i64 a.to_, .int .u32 a.seq, .int .u32 a.ack, .int .i64 a.flags, .int .i64 a.win, .int .i64 a.urg, .int .i64 a.mss, .int .i64 a.scale, .bool (a.sack), .slice a.ba a.bn a.bc, .bool (a.timed), .int .u32 a.time, .int .u32 a.echo, .string a.data, .int .i64 a.side, .int .i64 a.class_] rfl _ Try.underlying34 rfl (by kernel_rfl) ?_
  simp only [Act.put, List.setIfInBounds_toArray, List.set_cons_zero, List.set_cons_succ]
  refine dw_ret (by kernel_rfl) 10 #[(.agg #[(.bool (r.acc) : Value), .int .i64 0, .string r.fb, .int .i64 r.fn, .string r.tb, .int .i64 r.tn, .int .i64 r.s0, .int .i64 r.s1, .int .i64 r.d0, .int .i64 r.d1, .int .i64 r.mask, .int .i64 r.flags, .int .i64 r.classes] : Value), .agg #[(.string a.src : Value), .string a.dst, .int .i64 a.from_, .int .i64 a.to_, .int .u32 a.seq, .int .u32 a.ack, .int .i64 a.flags, .int .i64 a.win, .int .i64 a.urg, .int .i64 a.mss, .int .i64 a.scale, .bool (a.sack), .slice a.ba a.bn a.bc, .bool (a.timed), .int .u32 a.time, .int .u32 a.echo, .string a.data, .int .i64 a.side, .int .i64 a.class_]] (by kernel_rfl) (hz ▸ one_any { r with side := 0 } a hsm.1 hsm.2 hsrc hdst w23) ?_
  intro w25 hb
  have ht26 : Touch (fun _ => False) w23 w25 := Touch.none hb
  replace hBn1 := hBn1.keep ht26 (fun h => h)
  replace hBn3 := hBn3.keep ht26 (fun h => h)
  replace hBn5 := hBn5.keep ht26 (fun h => h)
  replace hBn9 := hBn9.keep ht26 (fun h => h)
  replace hBn13 := hBn13.keep ht26 (fun h => h)
  replace hBn17 := hBn17.keep ht26 (fun h => h)
  replace hT0 := hT0.trans ht26 (fun _ _ h => h.elim)
  clear hb
  simp only [Act.put, List.setIfInBounds_toArray, List.set_cons_zero, List.set_cons_succ]
  refine dw_val (by kernel_rfl) (.bool false) (by kernel_rfl) ?_
  simp only [Act.put, List.setIfInBounds_toArray, List.set_cons_zero, List.set_cons_succ]
  refine dw_val (by kernel_rfl) (.bool false) (by kernel_rfl) ?_
  simp only [Act.put, List.setIfInBounds_toArray, List.set_cons_zero, List.set_cons_succ]
  refine dw_val (by kernel_rfl) (.bool false) (by kernel_rfl) ?_
  simp only [Act.put, List.setIfInBounds_toArray, List.set_cons_zero, List.set_cons_succ]
  refine dw_val (by kernel_rfl) (.bool false) (by kernel_rfl) ?_
  simp only [Act.put, List.setIfInBounds_toArray, List.set_cons_zero, List.set_cons_succ]
  refine dw_val (by kernel_rfl) (.bool true) (by kernel_rfl) ?_
  simp only [Act.put, List.setIfInBounds_toArray, List.set_cons_zero, List.set_cons_succ]
  refine dw_val (by kernel_rfl) (.bool true) (by kernel_rfl) ?_
  simp only [Act.put, List.setIfInBounds_toArray, List.set_cons_zero, List.set_cons_succ]
  refine dw_val (by kernel_rfl) (.bool true) (by kernel_rfl) ?_
  simp only [Act.put, List.setIfInBounds_toArray, List.set_cons_zero, List.set_cons_succ]
  refine dw_val (by kernel_rfl) (.bool true) (by kernel_rfl) ?_
  simp only [Act.put, List.setIfInBounds_toArray, List.set_cons_zero, List.set_cons_succ]
  refine dw_val (by kernel_rfl) (.bool false) (by kernel_rfl) ?_
  simp only [Act.put, List.setIfInBounds_toArray, List.set_cons_zero, List.set_cons_succ]
  refine dw_val (by kernel_rfl) (.bool true) (by kernel_rfl) ?_
  simp only [Act.put, List.setIfInBounds_toArray, List.set_cons_zero, List.set_cons_succ]
  refine dw_val (by kernel_rfl) (.bool true) (by kernel_rfl) ?_
  simp only [Act.put, List.setIfInBounds_toArray, List.set_cons_zero, List.set_cons_succ]
  refine dw_no (by kernel_rfl) ?_
  simp only [Act.put, List.setIfInBounds_toArray, List.set_cons_zero, List.set_cons_succ]
  refine dw_no (by kernel_rfl) ?_
  simp only [Act.put, List.setIfInBounds_toArray, List.set_cons_zero, List.set_cons_succ]
  refine dw_no (by kernel_rfl) ?_
  simp only [Act.put, List.setIfInBounds_toArray, List.set_cons_zero, List.set_cons_succ]
  refine dw_val (by kernel_rfl) (.bool true) (by kernel_rfl) ?_
  simp only [Act.put, List.setIfInBounds_toArray, List.set_cons_zero, List.set_cons_succ]
  refine dw_val (by kernel_rfl) (.bool true) (by kernel_rfl) ?_
  simp only [Act.put, List.setIfInBounds_toArray, List.set_cons_zero, List.set_cons_succ]
  refine dw_val (by kernel_rfl) (.bool true) (by kernel_rfl) ?_
  simp only [Act.put, List.setIfInBounds_toArray, List.set_cons_zero, List.set_cons_succ]
  refine dw_val (by kernel_rfl) (.bool false) (by kernel_rfl) ?_
  simp only [Act.put, List.setIfInBounds_toArray, List.set_cons_zero, List.set_cons_succ]
  refine dw_val (by kernel_rfl) (.bool true) (by kernel_rfl) ?_
  simp only [Act.put, List.setIfInBounds_toArray, List.set_cons_zero, List.set_cons_succ]
  refine dw_val (by kernel_rfl) (.bool true) (by kernel_rfl) ?_
  simp only [Act.put, List.setIfInBounds_toArray, List.set_cons_zero, List.set_cons_succ]
  refine dw_no (by kernel_rfl) ?_
  simp only [Act.put, List.setIfInBounds_toArray, List.set_cons_zero, List.set_cons_succ]
  refine dw_no (by kernel_rfl) ?_
  simp only [Act.put, List.setIfInBounds_toArray, List.set_cons_zero, List.set_cons_succ]
  refine dw_no (by kernel_rfl) ?_
  simp only [Act.put, List.setIfInBounds_toArray, List.set_cons_zero, List.set_cons_succ]
  refine dw_val (by kernel_rfl) (.bool true) (by kernel_rfl) ?_
  simp only [Act.put, List.setIfInBounds_toArray, List.set_cons_zero, List.set_cons_succ]
  refine dw_val (by kernel_rfl) (.bool true) (by kernel_rfl) ?_
  simp only [Act.put, List.setIfInBounds_toArray, List.set_cons_zero, List.set_cons_succ]
  refine dw_val (by kernel_rfl) (.bool true) (by kernel_rfl) ?_
  simp only [Act.put, List.setIfInBounds_toArray, List.set_cons_zero, List.set_cons_succ]
  refine dw_ret (by kernel_rfl) 9 #[] (by kernel_rfl) (known_any w25) ?_
  intro w27 hb
  have ht28 : Touch (fun _ => False) w25 w27 := Touch.none hb
  replace hBn1 := hBn1.keep ht28 (fun h => h)
  replace hBn3 := hBn3.keep ht28 (fun h => h)
  replace hBn5 := hBn5.keep ht28 (fun h => h)
  replace hBn9 := hBn9.keep ht28 (fun h => h)
  replace hBn13 := hBn13.keep ht28 (fun h => h)
  replace hBn17 := hBn17.keep ht28 (fun h => h)
  replace hT0 := hT0.trans ht28 (fun _ _ h => h.elim)
  clear hb
  simp only [Act.put, List.setIfInBounds_toArray, List.set_cons_zero, List.set_cons_succ]
  refine dw_val (by kernel_rfl) (.bool true) (by kernel_rfl) ?_
  simp only [Act.put, List.setIfInBounds_toArray, List.set_cons_zero, List.set_cons_succ]
  refine dw_val (by kernel_rfl) (.bool true) (by kernel_rfl) ?_
  simp only [Act.put, List.setIfInBounds_toArray, List.set_cons_zero, List.set_cons_succ]
  refine wl_nil ?_
  refine hK12 _ _ ?_
  refine wp_ret ?_
  repeat (first | with_reducible refine ret_then ?_ | with_reducible refine ret_block ?_)
  refine bodyPost_ret (v := .bool true) (by kernel_rfl) rfl ?_
  exact ⟨rfl, hT0.toBelow⟩
set_option maxRecDepth 100000 in
set_option maxHeartbeats 4000000 in
theorem sides_0_true (r : Rl) (a : Ak) (w : World) (hl : lightB (fun _ => r) 1 a = true) (hsm : r.fb.size ≤ 100 ∧ r.tb.size ≤ 100) (hsrc : a.src.size ≤ 100) (hdst : a.dst.size ≤ 100) (hs1 : a.side ≠ 1) (hs2 : a.side ≠ 2) (hx : oneB { r with side := 1 } a = false) (hy : oneB { r with side := 2 } a = false) (hz : oneB { r with side := 0 } a = true) :
    Calls Try.prog 7 #[.agg r.cs.toArray, .agg a.cs.toArray] w fun e w' => e = .returned (.bool true) ∧ Below w.heap.size w w' := by
  have hT0 := Touch.refl (fun _ => False) w
  go_enter Try.func7, Try.ntmps7
  refine wp_seq_k fun K1 hK1 => ?_
  refine wl_region ?_
  refine dw_new (by kernel_rfl) [(.bool (r.acc) : Value), .int .i64 r.side, .string r.fb, .int .i64 r.fn, .string r.tb, .int .i64 r.tn, .int .i64 r.s0, .int .i64 r.s1, .int .i64 r.d0, .int .i64 r.d1, .int .i64 r.mask, .int .i64 r.flags, .int .i64 r.classes] 43 (by kernel_rfl) ?_
  intro n1 w2 hnn1 hsn1 hBn1 hTn1
  have hgen1 : w.heap.size ≤ n1 := by have := hT0.size; omega
  replace hT0 := hT0.trans hTn1 (fun _ _ h => h.elim)
  simp only [Act.put, List.setIfInBounds_toArray, List.set_cons_zero, List.set_cons_succ]
  refine dw_new (by kernel_rfl) [(.string a.src : Value), .string a.dst, .int .i64 a.from_, .int .i64 a.to_, .int .u32 a.seq, .int .u32 a.ack, .int .i64 a.flags, .int .i64 a.win, .int .i64 a.urg, .int .i64 a.mss, .int .i64 a.scale, .bool (a.sack), .slice a.ba a.bn a.bc, .bool (a.timed), .int .u32 a.time, .int .u32 a.echo, .string a.data, .int .i64 a.side, .int .i64 a.class_] 34 (by kernel_rfl) ?_
  intro n3 w4 hnn3 hsn3 hBn3 hTn3
  have hnen1n3 : n1 ≠ n3 := by have := hBn1.lt; omega
  have hgen3 : w.heap.size ≤ n3 := by have := hT0.size; omega
  replace hBn1 := hBn1.keep hTn3 (fun h => h)
  replace hT0 := hT0.trans hTn3 (fun _ _ h => h.elim)
  simp only [Act.put, List.setIfInBounds_toArray, List.set_cons_zero, List.set_cons_succ]
  refine dw_val (by kernel_rfl) (.bool false) (by kernel_rfl) ?_
  simp only [Act.put, List.setIfInBounds_toArray, List.set_cons_zero, List.set_cons_succ]
  refine wl_nil ?_
  refine hK1 _ _ ?_
  refine wp_seq_k fun K2 hK2 => ?_
  refine wp_seq_k fun K3 hK3 => ?_
  refine wl_region ?_
  refine dw_row (by kernel_rfl) 43 (.tmp 2) rfl n1 0 rfl _ _ hBn1 [(.bool (r.acc) : Value), .int .i64 r.side, .string r.fb, .int .i64 r.fn, .string r.tb, .int .i64 r.tn, .int .i64 r.s0, .int .i64 r.s1, .int .i64 r.d0, .int .i64 r.d1, .int .i64 r.mask, .int .i64 r.flags, .int .i64 r.classes] rfl _ Try.underlying43 rfl (by kernel_rfl) ?_
  simp only [Act.put, List.setIfInBounds_toArray, List.set_cons_zero, List.set_cons_succ]
  refine dw_newSlice (by kernel_rfl) [(.bool (r.acc) : Value), .int .i64 r.side, .string r.fb, .int .i64 r.fn, .string r.tb, .int .i64 r.tn, .int .i64 r.s0, .int .i64 r.s1, .int .i64 r.d0, .int .i64 r.d1, .int .i64 r.mask, .int .i64 r.flags, .int .i64 r.classes] 43 1 (by kernel_rfl) ?_
  intro n5 w6 hnn5 hsn5 hBn5 hTn5
  have hnen1n5 : n1 ≠ n5 := by have := hBn1.lt; omega
  have hnen3n5 : n3 ≠ n5 := by have := hBn3.lt; omega
  have hgen5 : w.heap.size ≤ n5 := by have := hT0.size; omega
  replace hBn1 := hBn1.keep hTn5 (fun h => h)
  replace hBn3 := hBn3.keep hTn5 (fun h => h)
  replace hT0 := hT0.trans hTn5 (fun _ _ h => h.elim)
  simp only [Act.put, List.setIfInBounds_toArray, List.set_cons_zero, List.set_cons_succ]
  refine dw_row (by kernel_rfl) 34 (.tmp 3) rfl n3 0 rfl _ _ hBn3 [(.string a.src : Value), .string a.dst, .int .i64 a.from_, .int .i64 a.to_, .int .u32 a.seq, .int .u32 a.ack, .int .i64 a.flags, .int .i64 a.win, .int .i64 a.urg, .int .i64 a.mss, .int .i64 a.scale, .bool (a.sack), .slice a.ba a.bn a.bc, .bool (a.timed), .int .u32 a.time, .int .u32 a.echo, .string a.data, .int .i64 a.side, .int .i64 a.class_] rfl _ Try.underlying34 rfl (by kernel_rfl) ?_
  simp only [Act.put, List.setIfInBounds_toArray, List.set_cons_zero, List.set_cons_succ]
  refine dw_ret (by kernel_rfl) 8 #[(.slice (some ⟨n5, 0, none⟩) 1 1 : Value), .agg #[(.string a.src : Value), .string a.dst, .int .i64 a.from_, .int .i64 a.to_, .int .u32 a.seq, .int .u32 a.ack, .int .i64 a.flags, .int .i64 a.win, .int .i64 a.urg, .int .i64 a.mss, .int .i64 a.scale, .bool (a.sack), .slice a.ba a.bn a.bc, .bool (a.timed), .int .u32 a.time, .int .u32 a.echo, .string a.data, .int .i64 a.side, .int .i64 a.class_]] (by kernel_rfl) (light_any (some ⟨n5, 0, none⟩) 1 1 (fun _ => r) a w6 (rule1 (r := r) hBn5) (by decide)) ?_
  intro w7 hb
  have ht8 : Touch (fun _ => False) w6 w7 := Touch.none hb
  replace hBn1 := hBn1.keep ht8 (fun h => h)
  replace hBn3 := hBn3.keep ht8 (fun h => h)
  replace hBn5 := hBn5.keep ht8 (fun h => h)
  replace hT0 := hT0.trans ht8 (fun _ _ h => h.elim)
  clear hb
  simp only [Act.put, List.setIfInBounds_toArray, List.set_cons_zero, List.set_cons_succ]
  refine dw_bool (by kernel_rfl) (!(lightB (fun _ => r) 1 a)) (by kernel_rfl) (fun hc => absurd hc (by simp [hl])) (fun hc => ?_)
  simp only [Act.put, List.setIfInBounds_toArray, List.set_cons_zero, List.set_cons_succ]
  refine wl_nil ?_
  refine hK3 _ _ ?_
  refine wp_cond_false rfl ?_
  refine wp_skip ?_
  refine hK2 _ _ ?_
  refine wp_seq_k fun K4 hK4 => ?_
  refine wl_region ?_
  refine dw_row (by kernel_rfl) 43 (.tmp 2) rfl n1 0 rfl _ _ hBn1 [(.bool (r.acc) : Value), .int .i64 r.side, .string r.fb, .int .i64 r.fn, .string r.tb, .int .i64 r.tn, .int .i64 r.s0, .int .i64 r.s1, .int .i64 r.d0, .int .i64 r.d1, .int .i64 r.mask, .int .i64 r.flags, .int .i64 r.classes] rfl _ Try.underlying43 rfl (by kernel_rfl) ?_
  simp only [Act.put, List.setIfInBounds_toArray, List.set_cons_zero, List.set_cons_succ]
  refine dw_new (by kernel_rfl) [(.bool false : Value), .int .i64 0, .string ⟨#[]⟩, .int .i64 0, .string ⟨#[]⟩, .int .i64 0, .int .i64 0, .int .i64 0, .int .i64 0, .int .i64 0, .int .i64 0, .int .i64 0, .int .i64 0] 43 (by kernel_rfl) ?_
  intro n9 w10 hnn9 hsn9 hBn9 hTn9
  have hnen1n9 : n1 ≠ n9 := by have := hBn1.lt; omega
  have hnen3n9 : n3 ≠ n9 := by have := hBn3.lt; omega
  have hnen5n9 : n5 ≠ n9 := by have := hBn5.lt; omega
  have hgen9 : w.heap.size ≤ n9 := by have := hT0.size; omega
  replace hBn1 := hBn1.keep hTn9 (fun h => h)
  replace hBn3 := hBn3.keep hTn9 (fun h => h)
  replace hBn5 := hBn5.keep hTn9 (fun h => h)
  replace hT0 := hT0.trans hTn9 (fun _ _ h => h.elim)
  simp only [Act.put, List.setIfInBounds_toArray, List.set_cons_zero, List.set_cons_succ]
  refine dw_put (by kernel_rfl) 43 (.tmp 5) (.tmp 16) rfl n9 0 rfl (.agg #[(.bool (r.acc) : Value), .int .i64 r.side, .string r.fb, .int .i64 r.fn, .string r.tb, .int .i64 r.tn, .int .i64 r.s0, .int .i64 r.s1, .int .i64 r.d0, .int .i64 r.d1, .int .i64 r.mask, .int .i64 r.flags, .int .i64 r.classes]) rfl _ _ hBn9 [(.bool (r.acc) : Value), .int .i64 r.side, .string r.fb, .int .i64 r.fn, .string r.tb, .int .i64 r.tn, .int .i64 r.s0, .int .i64 r.s1, .int .i64 r.d0, .int .i64 r.d1, .int .i64 r.mask, .int .i64 r.flags, .int .i64 r.classes] rfl (Nat.le_of_ble_eq_true rfl) (by kernel_rfl) (by kernel_rfl) [(.bool (r.acc) : Value), .int .i64 r.side, .string r.fb, .int .i64 r.fn, .string r.tb, .int .i64 r.tn, .int .i64 r.s0, .int .i64 r.s1, .int .i64 r.d0, .int .i64 r.d1, .int .i64 r.mask, .int .i64 r.flags, .int .i64 r.classes] rfl ?_
  intro w11 hBw11_ hTw11 hSw11
  replace hBn1 := hBn1.keep hTw11 (by intro h; omega)
  replace hBn3 := hBn3.keep hTw11 (by intro h; omega)
  replace hBn5 := hBn5.keep hTw11 (by intro h; omega)
  replace hT0 := hT0.trans hTw11 (fun i hi h => by first | omega | (subst h; omega) | exact h | exact .inl h | exact .inr h)
  clear hBn9
  have hBn9 := hBw11_
  clear hBw11_
  simp only [Act.put]
  refine wl_nil ?_
  refine hK4 _ _ ?_
  refine wp_seq_k fun K5 hK5 => ?_
  refine wl_region ?_
  refine dw_val (by kernel_rfl) (.pointer (some ⟨n9, 1, none⟩)) (by kernel_rfl) ?_
  simp only [Act.put, List.setIfInBounds_toArray, List.set_cons_zero, List.set_cons_succ]
  refine dw_put (by kernel_rfl) 3 (.tmp 17) (.const (.int .i64 1)) rfl n9 1 rfl (.int .i64 1) rfl _ _ hBn9 [(.int .i64 1 : Value)] rfl (Nat.le_of_ble_eq_true rfl) (by kernel_rfl) (by kernel_rfl) [(.bool (r.acc) : Value), .int .i64 1, .string r.fb, .int .i64 r.fn, .string r.tb, .int .i64 r.tn, .int .i64 r.s0, .int .i64 r.s1, .int .i64 r.d0, .int .i64 r.d1, .int .i64 r.mask, .int .i64 r.flags, .int .i64 r.classes] rfl ?_
  intro w12 hBw12_ hTw12 hSw12
  replace hBn1 := hBn1.keep hTw12 (by intro h; omega)
  replace hBn3 := hBn3.keep hTw12 (by intro h; omega)
  replace hBn5 := hBn5.keep hTw12 (by intro h; omega)
  replace hT0 := hT0.trans hTw12 (fun i hi h => by first | omega | (subst h; omega) | exact h | exact .inl h | exact .inr h)
  clear hBn9
  have hBn9 := hBw12_
  clear hBw12_
  simp only [Act.put]
  refine wl_nil ?_
  refine hK5 _ _ ?_
  refine wp_seq_k fun K6 hK6 => ?_
  refine wl_region ?_
  refine dw_row (by kernel_rfl) 43 (.tmp 2) rfl n1 0 rfl _ _ hBn1 [(.bool (r.acc) : Value), .int .i64 r.side, .string r.fb, .int .i64 r.fn, .string r.tb, .int .i64 r.tn, .int .i64 r.s0, .int .i64 r.s1, .int .i64 r.d0, .int .i64 r.d1, .int .i64 r.mask, .int .i64 r.flags, .int .i64 r.classes] rfl _ Try.underlying43 rfl (by kernel_rfl) ?_
  simp only [Act.put, List.setIfInBounds_toArray, List.set_cons_zero, List.set_cons_succ]
  refine dw_new (by kernel_rfl) [(.bool false : Value), .int .i64 0, .string ⟨#[]⟩, .int .i64 0, .string ⟨#[]⟩, .int .i64 0, .int .i64 0, .int .i64 0, .int .i64 0, .int .i64 0, .int .i64 0, .int .i64 0, .int .i64 0] 43 (by kernel_rfl) ?_
  intro n13 w14 hnn13 hsn13 hBn13 hTn13
  have hnen1n13 : n1 ≠ n13 := by have := hBn1.lt; omega
  have hnen3n13 : n3 ≠ n13 := by have := hBn3.lt; omega
  have hnen5n13 : n5 ≠ n13 := by have := hBn5.lt; omega
  have hnen9n13 : n9 ≠ n13 := by have := hBn9.lt; omega
  have hgen13 : w.heap.size ≤ n13 := by have := hT0.size; omega
  replace hBn1 := hBn1.keep hTn13 (fun h => h)
  replace hBn3 := hBn3.keep hTn13 (fun h => h)
  replace hBn5 := hBn5.keep hTn13 (fun h => h)
  replace hBn9 := hBn9.keep hTn13 (fun h => h)
  replace hT0 := hT0.trans hTn13 (fun _ _ h => h.elim)
  simp only [Act.put, List.setIfInBounds_toArray, List.set_cons_zero, List.set_cons_succ]
  refine dw_put (by kernel_rfl) 43 (.tmp 6) (.tmp 18) rfl n13 0 rfl (.agg #[(.bool (r.acc) : Value), .int .i64 r.side, .string r.fb, .int .i64 r.fn, .string r.tb, .int .i64 r.tn, .int .i64 r.s0, .int .i64 r.s1, .int .i64 r.d0, .int .i64 r.d1, .int .i64 r.mask, .int .i64 r.flags, .int .i64 r.classes]) rfl _ _ hBn13 [(.bool (r.acc) : Value), .int .i64 r.side, .string r.fb, .int .i64 r.fn, .string r.tb, .int .i64 r.tn, .int .i64 r.s0, .int .i64 r.s1, .int .i64 r.d0, .int .i64 r.d1, .int .i64 r.mask, .int .i64 r.flags, .int .i64 r.classes] rfl (Nat.le_of_ble_eq_true rfl) (by kernel_rfl) (by kernel_rfl) [(.bool (r.acc) : Value), .int .i64 r.side, .string r.fb, .int .i64 r.fn, .string r.tb, .int .i64 r.tn, .int .i64 r.s0, .int .i64 r.s1, .int .i64 r.d0, .int .i64 r.d1, .int .i64 r.mask, .int .i64 r.flags, .int .i64 r.classes] rfl ?_
  intro w15 hBw15_ hTw15 hSw15
  replace hBn1 := hBn1.keep hTw15 (by intro h; omega)
  replace hBn3 := hBn3.keep hTw15 (by intro h; omega)
  replace hBn5 := hBn5.keep hTw15 (by intro h; omega)
  replace hBn9 := hBn9.keep hTw15 (by intro h; omega)
  replace hT0 := hT0.trans hTw15 (fun i hi h => by first | omega | (subst h; omega) | exact h | exact .inl h | exact .inr h)
  clear hBn13
  have hBn13 := hBw15_
  clear hBw15_
  simp only [Act.put]
  refine wl_nil ?_
  refine hK6 _ _ ?_
  refine wp_seq_k fun K7 hK7 => ?_
  refine wl_region ?_
  refine dw_val (by kernel_rfl) (.pointer (some ⟨n13, 1, none⟩)) (by kernel_rfl) ?_
  simp only [Act.put, List.setIfInBounds_toArray, List.set_cons_zero, List.set_cons_succ]
  refine dw_put (by kernel_rfl) 3 (.tmp 19) (.const (.int .i64 2)) rfl n13 1 rfl (.int .i64 2) rfl _ _ hBn13 [(.int .i64 2 : Value)] rfl (Nat.le_of_ble_eq_true rfl) (by kernel_rfl) (by kernel_rfl) [(.bool (r.acc) : Value), .int .i64 2, .string r.fb, .int .i64 r.fn, .string r.tb, .int .i64 r.tn, .int .i64 r.s0, .int .i64 r.s1, .int .i64 r.d0, .int .i64 r.d1, .int .i64 r.mask, .int .i64 r.flags, .int .i64 r.classes] rfl ?_
  intro w16 hBw16_ hTw16 hSw16
  replace hBn1 := hBn1.keep hTw16 (by intro h; omega)
  replace hBn3 := hBn3.keep hTw16 (by intro h; omega)
  replace hBn5 := hBn5.keep hTw16 (by intro h; omega)
  replace hBn9 := hBn9.keep hTw16 (by intro h; omega)
  replace hT0 := hT0.trans hTw16 (fun i hi h => by first | omega | (subst h; omega) | exact h | exact .inl h | exact .inr h)
  clear hBn13
  have hBn13 := hBw16_
  clear hBw16_
  simp only [Act.put]
  refine wl_nil ?_
  refine hK7 _ _ ?_
  refine wp_seq_k fun K8 hK8 => ?_
  refine wl_region ?_
  refine dw_row (by kernel_rfl) 43 (.tmp 2) rfl n1 0 rfl _ _ hBn1 [(.bool (r.acc) : Value), .int .i64 r.side, .string r.fb, .int .i64 r.fn, .string r.tb, .int .i64 r.tn, .int .i64 r.s0, .int .i64 r.s1, .int .i64 r.d0, .int .i64 r.d1, .int .i64 r.mask, .int .i64 r.flags, .int .i64 r.classes] rfl _ Try.underlying43 rfl (by kernel_rfl) ?_
  simp only [Act.put, List.setIfInBounds_toArray, List.set_cons_zero, List.set_cons_succ]
  refine dw_new (by kernel_rfl) [(.bool false : Value), .int .i64 0, .string ⟨#[]⟩, .int .i64 0, .string ⟨#[]⟩, .int .i64 0, .int .i64 0, .int .i64 0, .int .i64 0, .int .i64 0, .int .i64 0, .int .i64 0, .int .i64 0] 43 (by kernel_rfl) ?_
  intro n17 w18 hnn17 hsn17 hBn17 hTn17
  have hnen1n17 : n1 ≠ n17 := by have := hBn1.lt; omega
  have hnen3n17 : n3 ≠ n17 := by have := hBn3.lt; omega
  have hnen5n17 : n5 ≠ n17 := by have := hBn5.lt; omega
  have hnen9n17 : n9 ≠ n17 := by have := hBn9.lt; omega
  have hnen13n17 : n13 ≠ n17 := by have := hBn13.lt; omega
  have hgen17 : w.heap.size ≤ n17 := by have := hT0.size; omega
  replace hBn1 := hBn1.keep hTn17 (fun h => h)
  replace hBn3 := hBn3.keep hTn17 (fun h => h)
  replace hBn5 := hBn5.keep hTn17 (fun h => h)
  replace hBn9 := hBn9.keep hTn17 (fun h => h)
  replace hBn13 := hBn13.keep hTn17 (fun h => h)
  replace hT0 := hT0.trans hTn17 (fun _ _ h => h.elim)
  simp only [Act.put, List.setIfInBounds_toArray, List.set_cons_zero, List.set_cons_succ]
  refine dw_put (by kernel_rfl) 43 (.tmp 7) (.tmp 20) rfl n17 0 rfl (.agg #[(.bool (r.acc) : Value), .int .i64 r.side, .string r.fb, .int .i64 r.fn, .string r.tb, .int .i64 r.tn, .int .i64 r.s0, .int .i64 r.s1, .int .i64 r.d0, .int .i64 r.d1, .int .i64 r.mask, .int .i64 r.flags, .int .i64 r.classes]) rfl _ _ hBn17 [(.bool (r.acc) : Value), .int .i64 r.side, .string r.fb, .int .i64 r.fn, .string r.tb, .int .i64 r.tn, .int .i64 r.s0, .int .i64 r.s1, .int .i64 r.d0, .int .i64 r.d1, .int .i64 r.mask, .int .i64 r.flags, .int .i64 r.classes] rfl (Nat.le_of_ble_eq_true rfl) (by kernel_rfl) (by kernel_rfl) [(.bool (r.acc) : Value), .int .i64 r.side, .string r.fb, .int .i64 r.fn, .string r.tb, .int .i64 r.tn, .int .i64 r.s0, .int .i64 r.s1, .int .i64 r.d0, .int .i64 r.d1, .int .i64 r.mask, .int .i64 r.flags, .int .i64 r.classes] rfl ?_
  intro w19 hBw19_ hTw19 hSw19
  replace hBn1 := hBn1.keep hTw19 (by intro h; omega)
  replace hBn3 := hBn3.keep hTw19 (by intro h; omega)
  replace hBn5 := hBn5.keep hTw19 (by intro h; omega)
  replace hBn9 := hBn9.keep hTw19 (by intro h; omega)
  replace hBn13 := hBn13.keep hTw19 (by intro h; omega)
  replace hT0 := hT0.trans hTw19 (fun i hi h => by first | omega | (subst h; omega) | exact h | exact .inl h | exact .inr h)
  clear hBn17
  have hBn17 := hBw19_
  clear hBw19_
  simp only [Act.put]
  refine wl_nil ?_
  refine hK8 _ _ ?_
  refine wp_seq_k fun K9 hK9 => ?_
  refine wl_region ?_
  refine dw_val (by kernel_rfl) (.pointer (some ⟨n17, 1, none⟩)) (by kernel_rfl) ?_
  simp only [Act.put, List.setIfInBounds_toArray, List.set_cons_zero, List.set_cons_succ]
  refine dw_put (by kernel_rfl) 3 (.tmp 21) (.const (.int .i64 0)) rfl n17 1 rfl (.int .i64 0) rfl _ _ hBn17 [(.int .i64 0 : Value)] rfl (Nat.le_of_ble_eq_true rfl) (by kernel_rfl) (by kernel_rfl) [(.bool (r.acc) : Value), .int .i64 0, .string r.fb, .int .i64 r.fn, .string r.tb, .int .i64 r.tn, .int .i64 r.s0, .int .i64 r.s1, .int .i64 r.d0, .int .i64 r.d1, .int .i64 r.mask, .int .i64 r.flags, .int .i64 r.classes] rfl ?_
  intro w20 hBw20_ hTw20 hSw20
  replace hBn1 := hBn1.keep hTw20 (by intro h; omega)
  replace hBn3 := hBn3.keep hTw20 (by intro h; omega)
  replace hBn5 := hBn5.keep hTw20 (by intro h; omega)
  replace hBn9 := hBn9.keep hTw20 (by intro h; omega)
  replace hBn13 := hBn13.keep hTw20 (by intro h; omega)
  replace hT0 := hT0.trans hTw20 (fun i hi h => by first | omega | (subst h; omega) | exact h | exact .inl h | exact .inr h)
  clear hBn17
  have hBn17 := hBw20_
  clear hBw20_
  simp only [Act.put]
  refine wl_nil ?_
  refine hK9 _ _ ?_
  refine wp_seq_k fun K10 hK10 => ?_
  refine wl_region ?_
  refine dw_row (by kernel_rfl) 43 (.tmp 5) rfl n9 0 rfl _ _ hBn9 [(.bool (r.acc) : Value), .int .i64 1, .string r.fb, .int .i64 r.fn, .string r.tb, .int .i64 r.tn, .int .i64 r.s0, .int .i64 r.s1, .int .i64 r.d0, .int .i64 r.d1, .int .i64 r.mask, .int .i64 r.flags, .int .i64 r.classes] rfl _ Try.underlying43 rfl (by kernel_rfl) ?_
  simp only [Act.put, List.setIfInBounds_toArray, List.set_cons_zero, List.set_cons_succ]
  refine dw_row (by kernel_rfl) 34 (.tmp 3) rfl n3 0 rfl _ _ hBn3 [(.string a.src : Value), .string a.dst, .int .i64 a.from_, .int .i64 a.to_, .int .u32 a.seq, .int .u32 a.ack, .int .i64 a.flags, .int .i64 a.win, .int .i64 a.urg, .int .i64 a.mss, .int .i64 a.scale, .bool (a.sack), .slice a.ba a.bn a.bc, .bool (a.timed), .int .u32 a.time, .int .u32 a.echo, .string a.data, .int .i64 a.side, .int .i64 a.class_] rfl _ Try.underlying34 rfl (by kernel_rfl) ?_
  simp only [Act.put, List.setIfInBounds_toArray, List.set_cons_zero, List.set_cons_succ]
  refine dw_ret (by kernel_rfl) 10 #[(.agg #[(.bool (r.acc) : Value), .int .i64 1, .string r.fb, .int .i64 r.fn, .string r.tb, .int .i64 r.tn, .int .i64 r.s0, .int .i64 r.s1, .int .i64 r.d0, .int .i64 r.d1, .int .i64 r.mask, .int .i64 r.flags, .int .i64 r.classes] : Value), .agg #[(.string a.src : Value), .string a.dst, .int .i64 a.from_, .int .i64 a.to_, .int .u32 a.seq, .int .u32 a.ack, .int .i64 a.flags, .int .i64 a.win, .int .i64 a.urg, .int .i64 a.mss, .int .i64 a.scale, .bool (a.sack), .slice a.ba a.bn a.bc, .bool (a.timed), .int .u32 a.time, .int .u32 a.echo, .string a.data, .int .i64 a.side, .int .i64 a.class_]] (by kernel_rfl) (hx ▸ one_any { r with side := 1 } a hsm.1 hsm.2 hsrc hdst w20) ?_
  intro w21 hb
  have ht22 : Touch (fun _ => False) w20 w21 := Touch.none hb
  replace hBn1 := hBn1.keep ht22 (fun h => h)
  replace hBn3 := hBn3.keep ht22 (fun h => h)
  replace hBn5 := hBn5.keep ht22 (fun h => h)
  replace hBn9 := hBn9.keep ht22 (fun h => h)
  replace hBn13 := hBn13.keep ht22 (fun h => h)
  replace hBn17 := hBn17.keep ht22 (fun h => h)
  replace hT0 := hT0.trans ht22 (fun _ _ h => h.elim)
  clear hb
  simp only [Act.put, List.setIfInBounds_toArray, List.set_cons_zero, List.set_cons_succ]
  refine dw_val (by kernel_rfl) (.bool false) (by kernel_rfl) ?_
  simp only [Act.put, List.setIfInBounds_toArray, List.set_cons_zero, List.set_cons_succ]
  refine wl_nil ?_
  refine hK10 _ _ ?_
  refine wp_seq_k fun K11 hK11 => ?_
  refine wl_region ?_
  refine dw_row (by kernel_rfl) 43 (.tmp 6) rfl n13 0 rfl _ _ hBn13 [(.bool (r.acc) : Value), .int .i64 2, .string r.fb, .int .i64 r.fn, .string r.tb, .int .i64 r.tn, .int .i64 r.s0, .int .i64 r.s1, .int .i64 r.d0, .int .i64 r.d1, .int .i64 r.mask, .int .i64 r.flags, .int .i64 r.classes] rfl _ Try.underlying43 rfl (by kernel_rfl) ?_
  simp only [Act.put, List.setIfInBounds_toArray, List.set_cons_zero, List.set_cons_succ]
  refine dw_row (by kernel_rfl) 34 (.tmp 3) rfl n3 0 rfl _ _ hBn3 [(.string a.src : Value), .string a.dst, .int .i64 a.from_, .int .i64 a.to_, .int .u32 a.seq, .int .u32 a.ack, .int .i64 a.flags, .int .i64 a.win, .int .i64 a.urg, .int .i64 a.mss, .int .i64 a.scale, .bool (a.sack), .slice a.ba a.bn a.bc, .bool (a.timed), .int .u32 a.time, .int .u32 a.echo, .string a.data, .int .i64 a.side, .int .i64 a.class_] rfl _ Try.underlying34 rfl (by kernel_rfl) ?_
  simp only [Act.put, List.setIfInBounds_toArray, List.set_cons_zero, List.set_cons_succ]
  refine dw_ret (by kernel_rfl) 10 #[(.agg #[(.bool (r.acc) : Value), .int .i64 2, .string r.fb, .int .i64 r.fn, .string r.tb, .int .i64 r.tn, .int .i64 r.s0, .int .i64 r.s1, .int .i64 r.d0, .int .i64 r.d1, .int .i64 r.mask, .int .i64 r.flags, .int .i64 r.classes] : Value), .agg #[(.string a.src : Value), .string a.dst, .int .i64 a.from_, .int .i64 a.to_, .int .u32 a.seq, .int .u32 a.ack, .int .i64 a.flags, .int .i64 a.win, .int .i64 a.urg, .int .i64 a.mss, .int .i64 a.scale, .bool (a.sack), .slice a.ba a.bn a.bc, .bool (a.timed), .int .u32 a.time, .int .u32 a.echo, .string a.data, .int .i64 a.side, .int .i64 a.class_]] (by kernel_rfl) (hy ▸ one_any { r with side := 2 } a hsm.1 hsm.2 hsrc hdst w21) ?_
  intro w23 hb
  have ht24 : Touch (fun _ => False) w21 w23 := Touch.none hb
  replace hBn1 := hBn1.keep ht24 (fun h => h)
  replace hBn3 := hBn3.keep ht24 (fun h => h)
  replace hBn5 := hBn5.keep ht24 (fun h => h)
  replace hBn9 := hBn9.keep ht24 (fun h => h)
  replace hBn13 := hBn13.keep ht24 (fun h => h)
  replace hBn17 := hBn17.keep ht24 (fun h => h)
  replace hT0 := hT0.trans ht24 (fun _ _ h => h.elim)
  clear hb
  simp only [Act.put, List.setIfInBounds_toArray, List.set_cons_zero, List.set_cons_succ]
  refine dw_val (by kernel_rfl) (.bool false) (by kernel_rfl) ?_
  simp only [Act.put, List.setIfInBounds_toArray, List.set_cons_zero, List.set_cons_succ]
  refine wl_nil ?_
  refine hK11 _ _ ?_
  refine wp_seq_k fun K12 hK12 => ?_
  refine wl_region ?_
  refine dw_val (by kernel_rfl) (.bool false) (by kernel_rfl) ?_
  simp only [Act.put, List.setIfInBounds_toArray, List.set_cons_zero, List.set_cons_succ]
  refine dw_val (by kernel_rfl) (.bool false) (by kernel_rfl) ?_
  simp only [Act.put, List.setIfInBounds_toArray, List.set_cons_zero, List.set_cons_succ]
  refine dw_no (by kernel_rfl) ?_
  simp only [Act.put, List.setIfInBounds_toArray, List.set_cons_zero, List.set_cons_succ]
  refine dw_val (by kernel_rfl) (.bool false) (by kernel_rfl) ?_
  simp only [Act.put, List.setIfInBounds_toArray, List.set_cons_zero, List.set_cons_succ]
  refine dw_val (by kernel_rfl) (.bool true) (by kernel_rfl) ?_
  simp only [Act.put, List.setIfInBounds_toArray, List.set_cons_zero, List.set_cons_succ]
  refine dw_val (by kernel_rfl) (.bool true) (by kernel_rfl) ?_
  simp only [Act.put, List.setIfInBounds_toArray, List.set_cons_zero, List.set_cons_succ]
  refine dw_val (by kernel_rfl) (.pointer (some ⟨n3, 17, none⟩)) (by kernel_rfl) ?_
  simp only [Act.put, List.setIfInBounds_toArray, List.set_cons_zero, List.set_cons_succ]
  refine dw_cell (by kernel_rfl) 3 (.tmp 34) rfl n3 17 rfl _ _ hBn3 (.int .i64 a.side) rfl _ Try.underlying3 rfl ?_
  simp only [Act.put, List.setIfInBounds_toArray, List.set_cons_zero, List.set_cons_succ]
  refine dw_bool (by kernel_rfl) (a.side != 1) (by kernel_rfl) (fun hc => ?_) (fun hc => absurd hc (by simp [hs1]))
  simp only [Act.put, List.setIfInBounds_toArray, List.set_cons_zero, List.set_cons_succ]
  refine dw_val (by kernel_rfl) (.bool true) (by kernel_rfl) ?_
  simp only [Act.put, List.setIfInBounds_toArray, List.set_cons_zero, List.set_cons_succ]
  refine dw_val (by kernel_rfl) (.pointer (some ⟨n3, 17, none⟩)) (by kernel_rfl) ?_
  simp only [Act.put, List.setIfInBounds_toArray, List.set_cons_zero, List.set_cons_succ]
  refine dw_cell (by kernel_rfl) 3 (.tmp 38) rfl n3 17 rfl _ _ hBn3 (.int .i64 a.side) rfl _ Try.underlying3 rfl ?_
  simp only [Act.put, List.setIfInBounds_toArray, List.set_cons_zero, List.set_cons_succ]
  refine dw_bool (by kernel_rfl) (a.side != 2) (by kernel_rfl) (fun hc => ?_) (fun hc => absurd hc (by simp [hs2]))
  simp only [Act.put, List.setIfInBounds_toArray, List.set_cons_zero, List.set_cons_succ]
  refine dw_val (by kernel_rfl) (.bool true) (by kernel_rfl) ?_
  simp only [Act.put, List.setIfInBounds_toArray, List.set_cons_zero, List.set_cons_succ]
  refine dw_val (by kernel_rfl) (.bool true) (by kernel_rfl) ?_
  simp only [Act.put, List.setIfInBounds_toArray, List.set_cons_zero, List.set_cons_succ]
  refine dw_no (by kernel_rfl) ?_
  simp only [Act.put, List.setIfInBounds_toArray, List.set_cons_zero, List.set_cons_succ]
  refine dw_no (by kernel_rfl) ?_
  simp only [Act.put, List.setIfInBounds_toArray, List.set_cons_zero, List.set_cons_succ]
  refine dw_no (by kernel_rfl) ?_
  simp only [Act.put, List.setIfInBounds_toArray, List.set_cons_zero, List.set_cons_succ]
  refine dw_no (by kernel_rfl) ?_
  simp only [Act.put, List.setIfInBounds_toArray, List.set_cons_zero, List.set_cons_succ]
  refine dw_no (by kernel_rfl) ?_
  simp only [Act.put, List.setIfInBounds_toArray, List.set_cons_zero, List.set_cons_succ]
  refine dw_no (by kernel_rfl) ?_
  simp only [Act.put, List.setIfInBounds_toArray, List.set_cons_zero, List.set_cons_succ]
  refine dw_no (by kernel_rfl) ?_
  simp only [Act.put, List.setIfInBounds_toArray, List.set_cons_zero, List.set_cons_succ]
  refine dw_no (by kernel_rfl) ?_
  simp only [Act.put, List.setIfInBounds_toArray, List.set_cons_zero, List.set_cons_succ]
  refine dw_val (by kernel_rfl) (.bool true) (by kernel_rfl) ?_
  simp only [Act.put, List.setIfInBounds_toArray, List.set_cons_zero, List.set_cons_succ]
  refine dw_val (by kernel_rfl) (.bool true) (by kernel_rfl) ?_
  simp only [Act.put, List.setIfInBounds_toArray, List.set_cons_zero, List.set_cons_succ]
  refine dw_val (by kernel_rfl) (.bool true) (by kernel_rfl) ?_
  simp only [Act.put, List.setIfInBounds_toArray, List.set_cons_zero, List.set_cons_succ]
  refine dw_val (by kernel_rfl) (.bool false) (by kernel_rfl) ?_
  simp only [Act.put, List.setIfInBounds_toArray, List.set_cons_zero, List.set_cons_succ]
  refine dw_val (by kernel_rfl) (.bool true) (by kernel_rfl) ?_
  simp only [Act.put, List.setIfInBounds_toArray, List.set_cons_zero, List.set_cons_succ]
  refine dw_val (by kernel_rfl) (.bool true) (by kernel_rfl) ?_
  simp only [Act.put, List.setIfInBounds_toArray, List.set_cons_zero, List.set_cons_succ]
  refine dw_no (by kernel_rfl) ?_
  simp only [Act.put, List.setIfInBounds_toArray, List.set_cons_zero, List.set_cons_succ]
  refine dw_no (by kernel_rfl) ?_
  simp only [Act.put, List.setIfInBounds_toArray, List.set_cons_zero, List.set_cons_succ]
  refine dw_no (by kernel_rfl) ?_
  simp only [Act.put, List.setIfInBounds_toArray, List.set_cons_zero, List.set_cons_succ]
  refine dw_val (by kernel_rfl) (.bool true) (by kernel_rfl) ?_
  simp only [Act.put, List.setIfInBounds_toArray, List.set_cons_zero, List.set_cons_succ]
  refine dw_val (by kernel_rfl) (.bool true) (by kernel_rfl) ?_
  simp only [Act.put, List.setIfInBounds_toArray, List.set_cons_zero, List.set_cons_succ]
  refine dw_val (by kernel_rfl) (.bool true) (by kernel_rfl) ?_
  simp only [Act.put, List.setIfInBounds_toArray, List.set_cons_zero, List.set_cons_succ]
  refine dw_val (by kernel_rfl) (.bool false) (by kernel_rfl) ?_
  simp only [Act.put, List.setIfInBounds_toArray, List.set_cons_zero, List.set_cons_succ]
  refine dw_val (by kernel_rfl) (.bool true) (by kernel_rfl) ?_
  simp only [Act.put, List.setIfInBounds_toArray, List.set_cons_zero, List.set_cons_succ]
  refine dw_val (by kernel_rfl) (.bool true) (by kernel_rfl) ?_
  simp only [Act.put, List.setIfInBounds_toArray, List.set_cons_zero, List.set_cons_succ]
  refine dw_no (by kernel_rfl) ?_
  simp only [Act.put, List.setIfInBounds_toArray, List.set_cons_zero, List.set_cons_succ]
  refine dw_no (by kernel_rfl) ?_
  simp only [Act.put, List.setIfInBounds_toArray, List.set_cons_zero, List.set_cons_succ]
  refine dw_no (by kernel_rfl) ?_
  simp only [Act.put, List.setIfInBounds_toArray, List.set_cons_zero, List.set_cons_succ]
  refine dw_val (by kernel_rfl) (.bool true) (by kernel_rfl) ?_
  simp only [Act.put, List.setIfInBounds_toArray, List.set_cons_zero, List.set_cons_succ]
  refine dw_val (by kernel_rfl) (.bool true) (by kernel_rfl) ?_
  simp only [Act.put, List.setIfInBounds_toArray, List.set_cons_zero, List.set_cons_succ]
  refine dw_val (by kernel_rfl) (.bool true) (by kernel_rfl) ?_
  simp only [Act.put, List.setIfInBounds_toArray, List.set_cons_zero, List.set_cons_succ]
  refine dw_ret (by kernel_rfl) 9 #[] (by kernel_rfl) (known_any w23) ?_
  intro w25 hb
  have ht26 : Touch (fun _ => False) w23 w25 := Touch.none hb
  replace hBn1 := hBn1.keep ht26 (fun h => h)
  replace hBn3 := hBn3.keep ht26 (fun h => h)
  replace hBn5 := hBn5.keep ht26 (fun h => h)
  replace hBn9 := hBn9.keep ht26 (fun h => h)
  replace hBn13 := hBn13.keep ht26 (fun h => h)
  replace hBn17 := hBn17.keep ht26 (fun h => h)
  replace hT0 := hT0.trans ht26 (fun _ _ h => h.elim)
  clear hb
  simp only [Act.put, List.setIfInBounds_toArray, List.set_cons_zero, List.set_cons_succ]
  refine dw_val (by kernel_rfl) (.bool true) (by kernel_rfl) ?_
  simp only [Act.put, List.setIfInBounds_toArray, List.set_cons_zero, List.set_cons_succ]
  refine dw_val (by kernel_rfl) (.bool true) (by kernel_rfl) ?_
  simp only [Act.put, List.setIfInBounds_toArray, List.set_cons_zero, List.set_cons_succ]
  refine wl_nil ?_
  refine hK12 _ _ ?_
  refine wp_ret ?_
  repeat (first | with_reducible refine ret_then ?_ | with_reducible refine ret_block ?_)
  refine bodyPost_ret (v := .bool true) (by kernel_rfl) rfl ?_
  exact ⟨rfl, hT0.toBelow⟩
set_option maxRecDepth 100000 in
set_option maxHeartbeats 4000000 in
theorem sides_0_false (r : Rl) (a : Ak) (w : World) (hl : lightB (fun _ => r) 1 a = true) (hsm : r.fb.size ≤ 100 ∧ r.tb.size ≤ 100) (hsrc : a.src.size ≤ 100) (hdst : a.dst.size ≤ 100) (hs1 : a.side ≠ 1) (hs2 : a.side ≠ 2) (hx : oneB { r with side := 1 } a = false) (hy : oneB { r with side := 2 } a = false) (hz : oneB { r with side := 0 } a = false) :
    Calls Try.prog 7 #[.agg r.cs.toArray, .agg a.cs.toArray] w fun e w' => e = .returned (.bool true) ∧ Below w.heap.size w w' := by
  have hT0 := Touch.refl (fun _ => False) w
  go_enter Try.func7, Try.ntmps7
  refine wp_seq_k fun K1 hK1 => ?_
  refine wl_region ?_
  refine dw_new (by kernel_rfl) [(.bool (r.acc) : Value), .int .i64 r.side, .string r.fb, .int .i64 r.fn, .string r.tb, .int .i64 r.tn, .int .i64 r.s0, .int .i64 r.s1, .int .i64 r.d0, .int .i64 r.d1, .int .i64 r.mask, .int .i64 r.flags, .int .i64 r.classes] 43 (by kernel_rfl) ?_
  intro n1 w2 hnn1 hsn1 hBn1 hTn1
  have hgen1 : w.heap.size ≤ n1 := by have := hT0.size; omega
  replace hT0 := hT0.trans hTn1 (fun _ _ h => h.elim)
  simp only [Act.put, List.setIfInBounds_toArray, List.set_cons_zero, List.set_cons_succ]
  refine dw_new (by kernel_rfl) [(.string a.src : Value), .string a.dst, .int .i64 a.from_, .int .i64 a.to_, .int .u32 a.seq, .int .u32 a.ack, .int .i64 a.flags, .int .i64 a.win, .int .i64 a.urg, .int .i64 a.mss, .int .i64 a.scale, .bool (a.sack), .slice a.ba a.bn a.bc, .bool (a.timed), .int .u32 a.time, .int .u32 a.echo, .string a.data, .int .i64 a.side, .int .i64 a.class_] 34 (by kernel_rfl) ?_
  intro n3 w4 hnn3 hsn3 hBn3 hTn3
  have hnen1n3 : n1 ≠ n3 := by have := hBn1.lt; omega
  have hgen3 : w.heap.size ≤ n3 := by have := hT0.size; omega
  replace hBn1 := hBn1.keep hTn3 (fun h => h)
  replace hT0 := hT0.trans hTn3 (fun _ _ h => h.elim)
  simp only [Act.put, List.setIfInBounds_toArray, List.set_cons_zero, List.set_cons_succ]
  refine dw_val (by kernel_rfl) (.bool false) (by kernel_rfl) ?_
  simp only [Act.put, List.setIfInBounds_toArray, List.set_cons_zero, List.set_cons_succ]
  refine wl_nil ?_
  refine hK1 _ _ ?_
  refine wp_seq_k fun K2 hK2 => ?_
  refine wp_seq_k fun K3 hK3 => ?_
  refine wl_region ?_
  refine dw_row (by kernel_rfl) 43 (.tmp 2) rfl n1 0 rfl _ _ hBn1 [(.bool (r.acc) : Value), .int .i64 r.side, .string r.fb, .int .i64 r.fn, .string r.tb, .int .i64 r.tn, .int .i64 r.s0, .int .i64 r.s1, .int .i64 r.d0, .int .i64 r.d1, .int .i64 r.mask, .int .i64 r.flags, .int .i64 r.classes] rfl _ Try.underlying43 rfl (by kernel_rfl) ?_
  simp only [Act.put, List.setIfInBounds_toArray, List.set_cons_zero, List.set_cons_succ]
  refine dw_newSlice (by kernel_rfl) [(.bool (r.acc) : Value), .int .i64 r.side, .string r.fb, .int .i64 r.fn, .string r.tb, .int .i64 r.tn, .int .i64 r.s0, .int .i64 r.s1, .int .i64 r.d0, .int .i64 r.d1, .int .i64 r.mask, .int .i64 r.flags, .int .i64 r.classes] 43 1 (by kernel_rfl) ?_
  intro n5 w6 hnn5 hsn5 hBn5 hTn5
  have hnen1n5 : n1 ≠ n5 := by have := hBn1.lt; omega
  have hnen3n5 : n3 ≠ n5 := by have := hBn3.lt; omega
  have hgen5 : w.heap.size ≤ n5 := by have := hT0.size; omega
  replace hBn1 := hBn1.keep hTn5 (fun h => h)
  replace hBn3 := hBn3.keep hTn5 (fun h => h)
  replace hT0 := hT0.trans hTn5 (fun _ _ h => h.elim)
  simp only [Act.put, List.setIfInBounds_toArray, List.set_cons_zero, List.set_cons_succ]
  refine dw_row (by kernel_rfl) 34 (.tmp 3) rfl n3 0 rfl _ _ hBn3 [(.string a.src : Value), .string a.dst, .int .i64 a.from_, .int .i64 a.to_, .int .u32 a.seq, .int .u32 a.ack, .int .i64 a.flags, .int .i64 a.win, .int .i64 a.urg, .int .i64 a.mss, .int .i64 a.scale, .bool (a.sack), .slice a.ba a.bn a.bc, .bool (a.timed), .int .u32 a.time, .int .u32 a.echo, .string a.data, .int .i64 a.side, .int .i64 a.class_] rfl _ Try.underlying34 rfl (by kernel_rfl) ?_
  simp only [Act.put, List.setIfInBounds_toArray, List.set_cons_zero, List.set_cons_succ]
  refine dw_ret (by kernel_rfl) 8 #[(.slice (some ⟨n5, 0, none⟩) 1 1 : Value), .agg #[(.string a.src : Value), .string a.dst, .int .i64 a.from_, .int .i64 a.to_, .int .u32 a.seq, .int .u32 a.ack, .int .i64 a.flags, .int .i64 a.win, .int .i64 a.urg, .int .i64 a.mss, .int .i64 a.scale, .bool (a.sack), .slice a.ba a.bn a.bc, .bool (a.timed), .int .u32 a.time, .int .u32 a.echo, .string a.data, .int .i64 a.side, .int .i64 a.class_]] (by kernel_rfl) (light_any (some ⟨n5, 0, none⟩) 1 1 (fun _ => r) a w6 (rule1 (r := r) hBn5) (by decide)) ?_
  intro w7 hb
  have ht8 : Touch (fun _ => False) w6 w7 := Touch.none hb
  replace hBn1 := hBn1.keep ht8 (fun h => h)
  replace hBn3 := hBn3.keep ht8 (fun h => h)
  replace hBn5 := hBn5.keep ht8 (fun h => h)
  replace hT0 := hT0.trans ht8 (fun _ _ h => h.elim)
  clear hb
  simp only [Act.put, List.setIfInBounds_toArray, List.set_cons_zero, List.set_cons_succ]
  refine dw_bool (by kernel_rfl) (!(lightB (fun _ => r) 1 a)) (by kernel_rfl) (fun hc => absurd hc (by simp [hl])) (fun hc => ?_)
  simp only [Act.put, List.setIfInBounds_toArray, List.set_cons_zero, List.set_cons_succ]
  refine wl_nil ?_
  refine hK3 _ _ ?_
  refine wp_cond_false rfl ?_
  refine wp_skip ?_
  refine hK2 _ _ ?_
  refine wp_seq_k fun K4 hK4 => ?_
  refine wl_region ?_
  refine dw_row (by kernel_rfl) 43 (.tmp 2) rfl n1 0 rfl _ _ hBn1 [(.bool (r.acc) : Value), .int .i64 r.side, .string r.fb, .int .i64 r.fn, .string r.tb, .int .i64 r.tn, .int .i64 r.s0, .int .i64 r.s1, .int .i64 r.d0, .int .i64 r.d1, .int .i64 r.mask, .int .i64 r.flags, .int .i64 r.classes] rfl _ Try.underlying43 rfl (by kernel_rfl) ?_
  simp only [Act.put, List.setIfInBounds_toArray, List.set_cons_zero, List.set_cons_succ]
  refine dw_new (by kernel_rfl) [(.bool false : Value), .int .i64 0, .string ⟨#[]⟩, .int .i64 0, .string ⟨#[]⟩, .int .i64 0, .int .i64 0, .int .i64 0, .int .i64 0, .int .i64 0, .int .i64 0, .int .i64 0, .int .i64 0] 43 (by kernel_rfl) ?_
  intro n9 w10 hnn9 hsn9 hBn9 hTn9
  have hnen1n9 : n1 ≠ n9 := by have := hBn1.lt; omega
  have hnen3n9 : n3 ≠ n9 := by have := hBn3.lt; omega
  have hnen5n9 : n5 ≠ n9 := by have := hBn5.lt; omega
  have hgen9 : w.heap.size ≤ n9 := by have := hT0.size; omega
  replace hBn1 := hBn1.keep hTn9 (fun h => h)
  replace hBn3 := hBn3.keep hTn9 (fun h => h)
  replace hBn5 := hBn5.keep hTn9 (fun h => h)
  replace hT0 := hT0.trans hTn9 (fun _ _ h => h.elim)
  simp only [Act.put, List.setIfInBounds_toArray, List.set_cons_zero, List.set_cons_succ]
  refine dw_put (by kernel_rfl) 43 (.tmp 5) (.tmp 16) rfl n9 0 rfl (.agg #[(.bool (r.acc) : Value), .int .i64 r.side, .string r.fb, .int .i64 r.fn, .string r.tb, .int .i64 r.tn, .int .i64 r.s0, .int .i64 r.s1, .int .i64 r.d0, .int .i64 r.d1, .int .i64 r.mask, .int .i64 r.flags, .int .i64 r.classes]) rfl _ _ hBn9 [(.bool (r.acc) : Value), .int .i64 r.side, .string r.fb, .int .i64 r.fn, .string r.tb, .int .i64 r.tn, .int .i64 r.s0, .int .i64 r.s1, .int .i64 r.d0, .int .i64 r.d1, .int .i64 r.mask, .int .i64 r.flags, .int .i64 r.classes] rfl (Nat.le_of_ble_eq_true rfl) (by kernel_rfl) (by kernel_rfl) [(.bool (r.acc) : Value), .int .i64 r.side, .string r.fb, .int .i64 r.fn, .string r.tb, .int .i64 r.tn, .int .i64 r.s0, .int .i64 r.s1, .int .i64 r.d0, .int .i64 r.d1, .int .i64 r.mask, .int .i64 r.flags, .int .i64 r.classes] rfl ?_
  intro w11 hBw11_ hTw11 hSw11
  replace hBn1 := hBn1.keep hTw11 (by intro h; omega)
  replace hBn3 := hBn3.keep hTw11 (by intro h; omega)
  replace hBn5 := hBn5.keep hTw11 (by intro h; omega)
  replace hT0 := hT0.trans hTw11 (fun i hi h => by first | omega | (subst h; omega) | exact h | exact .inl h | exact .inr h)
  clear hBn9
  have hBn9 := hBw11_
  clear hBw11_
  simp only [Act.put]
  refine wl_nil ?_
  refine hK4 _ _ ?_
  refine wp_seq_k fun K5 hK5 => ?_
  refine wl_region ?_
  refine dw_val (by kernel_rfl) (.pointer (some ⟨n9, 1, none⟩)) (by kernel_rfl) ?_
  simp only [Act.put, List.setIfInBounds_toArray, List.set_cons_zero, List.set_cons_succ]
  refine dw_put (by kernel_rfl) 3 (.tmp 17) (.const (.int .i64 1)) rfl n9 1 rfl (.int .i64 1) rfl _ _ hBn9 [(.int .i64 1 : Value)] rfl (Nat.le_of_ble_eq_true rfl) (by kernel_rfl) (by kernel_rfl) [(.bool (r.acc) : Value), .int .i64 1, .string r.fb, .int .i64 r.fn, .string r.tb, .int .i64 r.tn, .int .i64 r.s0, .int .i64 r.s1, .int .i64 r.d0, .int .i64 r.d1, .int .i64 r.mask, .int .i64 r.flags, .int .i64 r.classes] rfl ?_
  intro w12 hBw12_ hTw12 hSw12
  replace hBn1 := hBn1.keep hTw12 (by intro h; omega)
  replace hBn3 := hBn3.keep hTw12 (by intro h; omega)
  replace hBn5 := hBn5.keep hTw12 (by intro h; omega)
  replace hT0 := hT0.trans hTw12 (fun i hi h => by first | omega | (subst h; omega) | exact h | exact .inl h | exact .inr h)
  clear hBn9
  have hBn9 := hBw12_
  clear hBw12_
  simp only [Act.put]
  refine wl_nil ?_
  refine hK5 _ _ ?_
  refine wp_seq_k fun K6 hK6 => ?_
  refine wl_region ?_
  refine dw_row (by kernel_rfl) 43 (.tmp 2) rfl n1 0 rfl _ _ hBn1 [(.bool (r.acc) : Value), .int .i64 r.side, .string r.fb, .int .i64 r.fn, .string r.tb, .int .i64 r.tn, .int .i64 r.s0, .int .i64 r.s1, .int .i64 r.d0, .int .i64 r.d1, .int .i64 r.mask, .int .i64 r.flags, .int .i64 r.classes] rfl _ Try.underlying43 rfl (by kernel_rfl) ?_
  simp only [Act.put, List.setIfInBounds_toArray, List.set_cons_zero, List.set_cons_succ]
  refine dw_new (by kernel_rfl) [(.bool false : Value), .int .i64 0, .string ⟨#[]⟩, .int .i64 0, .string ⟨#[]⟩, .int .i64 0, .int .i64 0, .int .i64 0, .int .i64 0, .int .i64 0, .int .i64 0, .int .i64 0, .int .i64 0] 43 (by kernel_rfl) ?_
  intro n13 w14 hnn13 hsn13 hBn13 hTn13
  have hnen1n13 : n1 ≠ n13 := by have := hBn1.lt; omega
  have hnen3n13 : n3 ≠ n13 := by have := hBn3.lt; omega
  have hnen5n13 : n5 ≠ n13 := by have := hBn5.lt; omega
  have hnen9n13 : n9 ≠ n13 := by have := hBn9.lt; omega
  have hgen13 : w.heap.size ≤ n13 := by have := hT0.size; omega
  replace hBn1 := hBn1.keep hTn13 (fun h => h)
  replace hBn3 := hBn3.keep hTn13 (fun h => h)
  replace hBn5 := hBn5.keep hTn13 (fun h => h)
  replace hBn9 := hBn9.keep hTn13 (fun h => h)
  replace hT0 := hT0.trans hTn13 (fun _ _ h => h.elim)
  simp only [Act.put, List.setIfInBounds_toArray, List.set_cons_zero, List.set_cons_succ]
  refine dw_put (by kernel_rfl) 43 (.tmp 6) (.tmp 18) rfl n13 0 rfl (.agg #[(.bool (r.acc) : Value), .int .i64 r.side, .string r.fb, .int .i64 r.fn, .string r.tb, .int .i64 r.tn, .int .i64 r.s0, .int .i64 r.s1, .int .i64 r.d0, .int .i64 r.d1, .int .i64 r.mask, .int .i64 r.flags, .int .i64 r.classes]) rfl _ _ hBn13 [(.bool (r.acc) : Value), .int .i64 r.side, .string r.fb, .int .i64 r.fn, .string r.tb, .int .i64 r.tn, .int .i64 r.s0, .int .i64 r.s1, .int .i64 r.d0, .int .i64 r.d1, .int .i64 r.mask, .int .i64 r.flags, .int .i64 r.classes] rfl (Nat.le_of_ble_eq_true rfl) (by kernel_rfl) (by kernel_rfl) [(.bool (r.acc) : Value), .int .i64 r.side, .string r.fb, .int .i64 r.fn, .string r.tb, .int .i64 r.tn, .int .i64 r.s0, .int .i64 r.s1, .int .i64 r.d0, .int .i64 r.d1, .int .i64 r.mask, .int .i64 r.flags, .int .i64 r.classes] rfl ?_
  intro w15 hBw15_ hTw15 hSw15
  replace hBn1 := hBn1.keep hTw15 (by intro h; omega)
  replace hBn3 := hBn3.keep hTw15 (by intro h; omega)
  replace hBn5 := hBn5.keep hTw15 (by intro h; omega)
  replace hBn9 := hBn9.keep hTw15 (by intro h; omega)
  replace hT0 := hT0.trans hTw15 (fun i hi h => by first | omega | (subst h; omega) | exact h | exact .inl h | exact .inr h)
  clear hBn13
  have hBn13 := hBw15_
  clear hBw15_
  simp only [Act.put]
  refine wl_nil ?_
  refine hK6 _ _ ?_
  refine wp_seq_k fun K7 hK7 => ?_
  refine wl_region ?_
  refine dw_val (by kernel_rfl) (.pointer (some ⟨n13, 1, none⟩)) (by kernel_rfl) ?_
  simp only [Act.put, List.setIfInBounds_toArray, List.set_cons_zero, List.set_cons_succ]
  refine dw_put (by kernel_rfl) 3 (.tmp 19) (.const (.int .i64 2)) rfl n13 1 rfl (.int .i64 2) rfl _ _ hBn13 [(.int .i64 2 : Value)] rfl (Nat.le_of_ble_eq_true rfl) (by kernel_rfl) (by kernel_rfl) [(.bool (r.acc) : Value), .int .i64 2, .string r.fb, .int .i64 r.fn, .string r.tb, .int .i64 r.tn, .int .i64 r.s0, .int .i64 r.s1, .int .i64 r.d0, .int .i64 r.d1, .int .i64 r.mask, .int .i64 r.flags, .int .i64 r.classes] rfl ?_
  intro w16 hBw16_ hTw16 hSw16
  replace hBn1 := hBn1.keep hTw16 (by intro h; omega)
  replace hBn3 := hBn3.keep hTw16 (by intro h; omega)
  replace hBn5 := hBn5.keep hTw16 (by intro h; omega)
  replace hBn9 := hBn9.keep hTw16 (by intro h; omega)
  replace hT0 := hT0.trans hTw16 (fun i hi h => by first | omega | (subst h; omega) | exact h | exact .inl h | exact .inr h)
  clear hBn13
  have hBn13 := hBw16_
  clear hBw16_
  simp only [Act.put]
  refine wl_nil ?_
  refine hK7 _ _ ?_
  refine wp_seq_k fun K8 hK8 => ?_
  refine wl_region ?_
  refine dw_row (by kernel_rfl) 43 (.tmp 2) rfl n1 0 rfl _ _ hBn1 [(.bool (r.acc) : Value), .int .i64 r.side, .string r.fb, .int .i64 r.fn, .string r.tb, .int .i64 r.tn, .int .i64 r.s0, .int .i64 r.s1, .int .i64 r.d0, .int .i64 r.d1, .int .i64 r.mask, .int .i64 r.flags, .int .i64 r.classes] rfl _ Try.underlying43 rfl (by kernel_rfl) ?_
  simp only [Act.put, List.setIfInBounds_toArray, List.set_cons_zero, List.set_cons_succ]
  refine dw_new (by kernel_rfl) [(.bool false : Value), .int .i64 0, .string ⟨#[]⟩, .int .i64 0, .string ⟨#[]⟩, .int .i64 0, .int .i64 0, .int .i64 0, .int .i64 0, .int .i64 0, .int .i64 0, .int .i64 0, .int .i64 0] 43 (by kernel_rfl) ?_
  intro n17 w18 hnn17 hsn17 hBn17 hTn17
  have hnen1n17 : n1 ≠ n17 := by have := hBn1.lt; omega
  have hnen3n17 : n3 ≠ n17 := by have := hBn3.lt; omega
  have hnen5n17 : n5 ≠ n17 := by have := hBn5.lt; omega
  have hnen9n17 : n9 ≠ n17 := by have := hBn9.lt; omega
  have hnen13n17 : n13 ≠ n17 := by have := hBn13.lt; omega
  have hgen17 : w.heap.size ≤ n17 := by have := hT0.size; omega
  replace hBn1 := hBn1.keep hTn17 (fun h => h)
  replace hBn3 := hBn3.keep hTn17 (fun h => h)
  replace hBn5 := hBn5.keep hTn17 (fun h => h)
  replace hBn9 := hBn9.keep hTn17 (fun h => h)
  replace hBn13 := hBn13.keep hTn17 (fun h => h)
  replace hT0 := hT0.trans hTn17 (fun _ _ h => h.elim)
  simp only [Act.put, List.setIfInBounds_toArray, List.set_cons_zero, List.set_cons_succ]
  refine dw_put (by kernel_rfl) 43 (.tmp 7) (.tmp 20) rfl n17 0 rfl (.agg #[(.bool (r.acc) : Value), .int .i64 r.side, .string r.fb, .int .i64 r.fn, .string r.tb, .int .i64 r.tn, .int .i64 r.s0, .int .i64 r.s1, .int .i64 r.d0, .int .i64 r.d1, .int .i64 r.mask, .int .i64 r.flags, .int .i64 r.classes]) rfl _ _ hBn17 [(.bool (r.acc) : Value), .int .i64 r.side, .string r.fb, .int .i64 r.fn, .string r.tb, .int .i64 r.tn, .int .i64 r.s0, .int .i64 r.s1, .int .i64 r.d0, .int .i64 r.d1, .int .i64 r.mask, .int .i64 r.flags, .int .i64 r.classes] rfl (Nat.le_of_ble_eq_true rfl) (by kernel_rfl) (by kernel_rfl) [(.bool (r.acc) : Value), .int .i64 r.side, .string r.fb, .int .i64 r.fn, .string r.tb, .int .i64 r.tn, .int .i64 r.s0, .int .i64 r.s1, .int .i64 r.d0, .int .i64 r.d1, .int .i64 r.mask, .int .i64 r.flags, .int .i64 r.classes] rfl ?_
  intro w19 hBw19_ hTw19 hSw19
  replace hBn1 := hBn1.keep hTw19 (by intro h; omega)
  replace hBn3 := hBn3.keep hTw19 (by intro h; omega)
  replace hBn5 := hBn5.keep hTw19 (by intro h; omega)
  replace hBn9 := hBn9.keep hTw19 (by intro h; omega)
  replace hBn13 := hBn13.keep hTw19 (by intro h; omega)
  replace hT0 := hT0.trans hTw19 (fun i hi h => by first | omega | (subst h; omega) | exact h | exact .inl h | exact .inr h)
  clear hBn17
  have hBn17 := hBw19_
  clear hBw19_
  simp only [Act.put]
  refine wl_nil ?_
  refine hK8 _ _ ?_
  refine wp_seq_k fun K9 hK9 => ?_
  refine wl_region ?_
  refine dw_val (by kernel_rfl) (.pointer (some ⟨n17, 1, none⟩)) (by kernel_rfl) ?_
  simp only [Act.put, List.setIfInBounds_toArray, List.set_cons_zero, List.set_cons_succ]
  refine dw_put (by kernel_rfl) 3 (.tmp 21) (.const (.int .i64 0)) rfl n17 1 rfl (.int .i64 0) rfl _ _ hBn17 [(.int .i64 0 : Value)] rfl (Nat.le_of_ble_eq_true rfl) (by kernel_rfl) (by kernel_rfl) [(.bool (r.acc) : Value), .int .i64 0, .string r.fb, .int .i64 r.fn, .string r.tb, .int .i64 r.tn, .int .i64 r.s0, .int .i64 r.s1, .int .i64 r.d0, .int .i64 r.d1, .int .i64 r.mask, .int .i64 r.flags, .int .i64 r.classes] rfl ?_
  intro w20 hBw20_ hTw20 hSw20
  replace hBn1 := hBn1.keep hTw20 (by intro h; omega)
  replace hBn3 := hBn3.keep hTw20 (by intro h; omega)
  replace hBn5 := hBn5.keep hTw20 (by intro h; omega)
  replace hBn9 := hBn9.keep hTw20 (by intro h; omega)
  replace hBn13 := hBn13.keep hTw20 (by intro h; omega)
  replace hT0 := hT0.trans hTw20 (fun i hi h => by first | omega | (subst h; omega) | exact h | exact .inl h | exact .inr h)
  clear hBn17
  have hBn17 := hBw20_
  clear hBw20_
  simp only [Act.put]
  refine wl_nil ?_
  refine hK9 _ _ ?_
  refine wp_seq_k fun K10 hK10 => ?_
  refine wl_region ?_
  refine dw_row (by kernel_rfl) 43 (.tmp 5) rfl n9 0 rfl _ _ hBn9 [(.bool (r.acc) : Value), .int .i64 1, .string r.fb, .int .i64 r.fn, .string r.tb, .int .i64 r.tn, .int .i64 r.s0, .int .i64 r.s1, .int .i64 r.d0, .int .i64 r.d1, .int .i64 r.mask, .int .i64 r.flags, .int .i64 r.classes] rfl _ Try.underlying43 rfl (by kernel_rfl) ?_
  simp only [Act.put, List.setIfInBounds_toArray, List.set_cons_zero, List.set_cons_succ]
  refine dw_row (by kernel_rfl) 34 (.tmp 3) rfl n3 0 rfl _ _ hBn3 [(.string a.src : Value), .string a.dst, .int .i64 a.from_, .int .i64 a.to_, .int .u32 a.seq, .int .u32 a.ack, .int .i64 a.flags, .int .i64 a.win, .int .i64 a.urg, .int .i64 a.mss, .int .i64 a.scale, .bool (a.sack), .slice a.ba a.bn a.bc, .bool (a.timed), .int .u32 a.time, .int .u32 a.echo, .string a.data, .int .i64 a.side, .int .i64 a.class_] rfl _ Try.underlying34 rfl (by kernel_rfl) ?_
  simp only [Act.put, List.setIfInBounds_toArray, List.set_cons_zero, List.set_cons_succ]
  refine dw_ret (by kernel_rfl) 10 #[(.agg #[(.bool (r.acc) : Value), .int .i64 1, .string r.fb, .int .i64 r.fn, .string r.tb, .int .i64 r.tn, .int .i64 r.s0, .int .i64 r.s1, .int .i64 r.d0, .int .i64 r.d1, .int .i64 r.mask, .int .i64 r.flags, .int .i64 r.classes] : Value), .agg #[(.string a.src : Value), .string a.dst, .int .i64 a.from_, .int .i64 a.to_, .int .u32 a.seq, .int .u32 a.ack, .int .i64 a.flags, .int .i64 a.win, .int .i64 a.urg, .int .i64 a.mss, .int .i64 a.scale, .bool (a.sack), .slice a.ba a.bn a.bc, .bool (a.timed), .int .u32 a.time, .int .u32 a.echo, .string a.data, .int .i64 a.side, .int .i64 a.class_]] (by kernel_rfl) (hx ▸ one_any { r with side := 1 } a hsm.1 hsm.2 hsrc hdst w20) ?_
  intro w21 hb
  have ht22 : Touch (fun _ => False) w20 w21 := Touch.none hb
  replace hBn1 := hBn1.keep ht22 (fun h => h)
  replace hBn3 := hBn3.keep ht22 (fun h => h)
  replace hBn5 := hBn5.keep ht22 (fun h => h)
  replace hBn9 := hBn9.keep ht22 (fun h => h)
  replace hBn13 := hBn13.keep ht22 (fun h => h)
  replace hBn17 := hBn17.keep ht22 (fun h => h)
  replace hT0 := hT0.trans ht22 (fun _ _ h => h.elim)
  clear hb
  simp only [Act.put, List.setIfInBounds_toArray, List.set_cons_zero, List.set_cons_succ]
  refine dw_val (by kernel_rfl) (.bool false) (by kernel_rfl) ?_
  simp only [Act.put, List.setIfInBounds_toArray, List.set_cons_zero, List.set_cons_succ]
  refine wl_nil ?_
  refine hK10 _ _ ?_
  refine wp_seq_k fun K11 hK11 => ?_
  refine wl_region ?_
  refine dw_row (by kernel_rfl) 43 (.tmp 6) rfl n13 0 rfl _ _ hBn13 [(.bool (r.acc) : Value), .int .i64 2, .string r.fb, .int .i64 r.fn, .string r.tb, .int .i64 r.tn, .int .i64 r.s0, .int .i64 r.s1, .int .i64 r.d0, .int .i64 r.d1, .int .i64 r.mask, .int .i64 r.flags, .int .i64 r.classes] rfl _ Try.underlying43 rfl (by kernel_rfl) ?_
  simp only [Act.put, List.setIfInBounds_toArray, List.set_cons_zero, List.set_cons_succ]
  refine dw_row (by kernel_rfl) 34 (.tmp 3) rfl n3 0 rfl _ _ hBn3 [(.string a.src : Value), .string a.dst, .int .i64 a.from_, .int .i64 a.to_, .int .u32 a.seq, .int .u32 a.ack, .int .i64 a.flags, .int .i64 a.win, .int .i64 a.urg, .int .i64 a.mss, .int .i64 a.scale, .bool (a.sack), .slice a.ba a.bn a.bc, .bool (a.timed), .int .u32 a.time, .int .u32 a.echo, .string a.data, .int .i64 a.side, .int .i64 a.class_] rfl _ Try.underlying34 rfl (by kernel_rfl) ?_
  simp only [Act.put, List.setIfInBounds_toArray, List.set_cons_zero, List.set_cons_succ]
  refine dw_ret (by kernel_rfl) 10 #[(.agg #[(.bool (r.acc) : Value), .int .i64 2, .string r.fb, .int .i64 r.fn, .string r.tb, .int .i64 r.tn, .int .i64 r.s0, .int .i64 r.s1, .int .i64 r.d0, .int .i64 r.d1, .int .i64 r.mask, .int .i64 r.flags, .int .i64 r.classes] : Value), .agg #[(.string a.src : Value), .string a.dst, .int .i64 a.from_, .int .i64 a.to_, .int .u32 a.seq, .int .u32 a.ack, .int .i64 a.flags, .int .i64 a.win, .int .i64 a.urg, .int .i64 a.mss, .int .i64 a.scale, .bool (a.sack), .slice a.ba a.bn a.bc, .bool (a.timed), .int .u32 a.time, .int .u32 a.echo, .string a.data, .int .i64 a.side, .int .i64 a.class_]] (by kernel_rfl) (hy ▸ one_any { r with side := 2 } a hsm.1 hsm.2 hsrc hdst w21) ?_
  intro w23 hb
  have ht24 : Touch (fun _ => False) w21 w23 := Touch.none hb
  replace hBn1 := hBn1.keep ht24 (fun h => h)
  replace hBn3 := hBn3.keep ht24 (fun h => h)
  replace hBn5 := hBn5.keep ht24 (fun h => h)
  replace hBn9 := hBn9.keep ht24 (fun h => h)
  replace hBn13 := hBn13.keep ht24 (fun h => h)
  replace hBn17 := hBn17.keep ht24 (fun h => h)
  replace hT0 := hT0.trans ht24 (fun _ _ h => h.elim)
  clear hb
  simp only [Act.put, List.setIfInBounds_toArray, List.set_cons_zero, List.set_cons_succ]
  refine dw_val (by kernel_rfl) (.bool false) (by kernel_rfl) ?_
  simp only [Act.put, List.setIfInBounds_toArray, List.set_cons_zero, List.set_cons_succ]
  refine wl_nil ?_
  refine hK11 _ _ ?_
  refine wp_seq_k fun K12 hK12 => ?_
  refine wl_region ?_
  refine dw_val (by kernel_rfl) (.bool false) (by kernel_rfl) ?_
  simp only [Act.put, List.setIfInBounds_toArray, List.set_cons_zero, List.set_cons_succ]
  refine dw_val (by kernel_rfl) (.bool false) (by kernel_rfl) ?_
  simp only [Act.put, List.setIfInBounds_toArray, List.set_cons_zero, List.set_cons_succ]
  refine dw_no (by kernel_rfl) ?_
  simp only [Act.put, List.setIfInBounds_toArray, List.set_cons_zero, List.set_cons_succ]
  refine dw_val (by kernel_rfl) (.bool false) (by kernel_rfl) ?_
  simp only [Act.put, List.setIfInBounds_toArray, List.set_cons_zero, List.set_cons_succ]
  refine dw_val (by kernel_rfl) (.bool true) (by kernel_rfl) ?_
  simp only [Act.put, List.setIfInBounds_toArray, List.set_cons_zero, List.set_cons_succ]
  refine dw_val (by kernel_rfl) (.bool true) (by kernel_rfl) ?_
  simp only [Act.put, List.setIfInBounds_toArray, List.set_cons_zero, List.set_cons_succ]
  refine dw_val (by kernel_rfl) (.pointer (some ⟨n3, 17, none⟩)) (by kernel_rfl) ?_
  simp only [Act.put, List.setIfInBounds_toArray, List.set_cons_zero, List.set_cons_succ]
  refine dw_cell (by kernel_rfl) 3 (.tmp 34) rfl n3 17 rfl _ _ hBn3 (.int .i64 a.side) rfl _ Try.underlying3 rfl ?_
  simp only [Act.put, List.setIfInBounds_toArray, List.set_cons_zero, List.set_cons_succ]
  refine dw_bool (by kernel_rfl) (a.side != 1) (by kernel_rfl) (fun hc => ?_) (fun hc => absurd hc (by simp [hs1]))
  simp only [Act.put, List.setIfInBounds_toArray, List.set_cons_zero, List.set_cons_succ]
  refine dw_val (by kernel_rfl) (.bool true) (by kernel_rfl) ?_
  simp only [Act.put, List.setIfInBounds_toArray, List.set_cons_zero, List.set_cons_succ]
  refine dw_val (by kernel_rfl) (.pointer (some ⟨n3, 17, none⟩)) (by kernel_rfl) ?_
  simp only [Act.put, List.setIfInBounds_toArray, List.set_cons_zero, List.set_cons_succ]
  refine dw_cell (by kernel_rfl) 3 (.tmp 38) rfl n3 17 rfl _ _ hBn3 (.int .i64 a.side) rfl _ Try.underlying3 rfl ?_
  simp only [Act.put, List.setIfInBounds_toArray, List.set_cons_zero, List.set_cons_succ]
  refine dw_bool (by kernel_rfl) (a.side != 2) (by kernel_rfl) (fun hc => ?_) (fun hc => absurd hc (by simp [hs2]))
  simp only [Act.put, List.setIfInBounds_toArray, List.set_cons_zero, List.set_cons_succ]
  refine dw_val (by kernel_rfl) (.bool true) (by kernel_rfl) ?_
  simp only [Act.put, List.setIfInBounds_toArray, List.set_cons_zero, List.set_cons_succ]
  refine dw_val (by kernel_rfl) (.bool true) (by kernel_rfl) ?_
  simp only [Act.put, List.setIfInBounds_toArray, List.set_cons_zero, List.set_cons_succ]
  refine dw_no (by kernel_rfl) ?_
  simp only [Act.put, List.setIfInBounds_toArray, List.set_cons_zero, List.set_cons_succ]
  refine dw_no (by kernel_rfl) ?_
  simp only [Act.put, List.setIfInBounds_toArray, List.set_cons_zero, List.set_cons_succ]
  refine dw_no (by kernel_rfl) ?_
  simp only [Act.put, List.setIfInBounds_toArray, List.set_cons_zero, List.set_cons_succ]
  refine dw_no (by kernel_rfl) ?_
  simp only [Act.put, List.setIfInBounds_toArray, List.set_cons_zero, List.set_cons_succ]
  refine dw_no (by kernel_rfl) ?_
  simp only [Act.put, List.setIfInBounds_toArray, List.set_cons_zero, List.set_cons_succ]
  refine dw_no (by kernel_rfl) ?_
  simp only [Act.put, List.setIfInBounds_toArray, List.set_cons_zero, List.set_cons_succ]
  refine dw_no (by kernel_rfl) ?_
  simp only [Act.put, List.setIfInBounds_toArray, List.set_cons_zero, List.set_cons_succ]
  refine dw_no (by kernel_rfl) ?_
  simp only [Act.put, List.setIfInBounds_toArray, List.set_cons_zero, List.set_cons_succ]
  refine dw_val (by kernel_rfl) (.bool true) (by kernel_rfl) ?_
  simp only [Act.put, List.setIfInBounds_toArray, List.set_cons_zero, List.set_cons_succ]
  refine dw_val (by kernel_rfl) (.bool true) (by kernel_rfl) ?_
  simp only [Act.put, List.setIfInBounds_toArray, List.set_cons_zero, List.set_cons_succ]
  refine dw_val (by kernel_rfl) (.bool true) (by kernel_rfl) ?_
  simp only [Act.put, List.setIfInBounds_toArray, List.set_cons_zero, List.set_cons_succ]
  refine dw_val (by kernel_rfl) (.bool false) (by kernel_rfl) ?_
  simp only [Act.put, List.setIfInBounds_toArray, List.set_cons_zero, List.set_cons_succ]
  refine dw_val (by kernel_rfl) (.bool true) (by kernel_rfl) ?_
  simp only [Act.put, List.setIfInBounds_toArray, List.set_cons_zero, List.set_cons_succ]
  refine dw_val (by kernel_rfl) (.bool true) (by kernel_rfl) ?_
  simp only [Act.put, List.setIfInBounds_toArray, List.set_cons_zero, List.set_cons_succ]
  refine dw_no (by kernel_rfl) ?_
  simp only [Act.put, List.setIfInBounds_toArray, List.set_cons_zero, List.set_cons_succ]
  refine dw_no (by kernel_rfl) ?_
  simp only [Act.put, List.setIfInBounds_toArray, List.set_cons_zero, List.set_cons_succ]
  refine dw_no (by kernel_rfl) ?_
  simp only [Act.put, List.setIfInBounds_toArray, List.set_cons_zero, List.set_cons_succ]
  refine dw_val (by kernel_rfl) (.bool true) (by kernel_rfl) ?_
  simp only [Act.put, List.setIfInBounds_toArray, List.set_cons_zero, List.set_cons_succ]
  refine dw_val (by kernel_rfl) (.bool true) (by kernel_rfl) ?_
  simp only [Act.put, List.setIfInBounds_toArray, List.set_cons_zero, List.set_cons_succ]
  refine dw_val (by kernel_rfl) (.bool true) (by kernel_rfl) ?_
  simp only [Act.put, List.setIfInBounds_toArray, List.set_cons_zero, List.set_cons_succ]
  refine dw_val (by kernel_rfl) (.bool false) (by kernel_rfl) ?_
  simp only [Act.put, List.setIfInBounds_toArray, List.set_cons_zero, List.set_cons_succ]
  refine dw_val (by kernel_rfl) (.bool true) (by kernel_rfl) ?_
  simp only [Act.put, List.setIfInBounds_toArray, List.set_cons_zero, List.set_cons_succ]
  refine dw_val (by kernel_rfl) (.bool true) (by kernel_rfl) ?_
  simp only [Act.put, List.setIfInBounds_toArray, List.set_cons_zero, List.set_cons_succ]
  refine dw_no (by kernel_rfl) ?_
  simp only [Act.put, List.setIfInBounds_toArray, List.set_cons_zero, List.set_cons_succ]
  refine dw_no (by kernel_rfl) ?_
  simp only [Act.put, List.setIfInBounds_toArray, List.set_cons_zero, List.set_cons_succ]
  refine dw_no (by kernel_rfl) ?_
  simp only [Act.put, List.setIfInBounds_toArray, List.set_cons_zero, List.set_cons_succ]
  refine dw_val (by kernel_rfl) (.bool true) (by kernel_rfl) ?_
  simp only [Act.put, List.setIfInBounds_toArray, List.set_cons_zero, List.set_cons_succ]
  refine dw_val (by kernel_rfl) (.bool true) (by kernel_rfl) ?_
  simp only [Act.put, List.setIfInBounds_toArray, List.set_cons_zero, List.set_cons_succ]
  refine dw_val (by kernel_rfl) (.bool true) (by kernel_rfl) ?_
  simp only [Act.put, List.setIfInBounds_toArray, List.set_cons_zero, List.set_cons_succ]
  refine dw_ret (by kernel_rfl) 9 #[] (by kernel_rfl) (known_any w23) ?_
  intro w25 hb
  have ht26 : Touch (fun _ => False) w23 w25 := Touch.none hb
  replace hBn1 := hBn1.keep ht26 (fun h => h)
  replace hBn3 := hBn3.keep ht26 (fun h => h)
  replace hBn5 := hBn5.keep ht26 (fun h => h)
  replace hBn9 := hBn9.keep ht26 (fun h => h)
  replace hBn13 := hBn13.keep ht26 (fun h => h)
  replace hBn17 := hBn17.keep ht26 (fun h => h)
  replace hT0 := hT0.trans ht26 (fun _ _ h => h.elim)
  clear hb
  simp only [Act.put, List.setIfInBounds_toArray, List.set_cons_zero, List.set_cons_succ]
  refine dw_val (by kernel_rfl) (.bool true) (by kernel_rfl) ?_
  simp only [Act.put, List.setIfInBounds_toArray, List.set_cons_zero, List.set_cons_succ]
  refine dw_val (by kernel_rfl) (.bool true) (by kernel_rfl) ?_
  simp only [Act.put, List.setIfInBounds_toArray, List.set_cons_zero, List.set_cons_succ]
  refine wl_nil ?_
  refine hK12 _ _ ?_
  refine wp_ret ?_
  repeat (first | with_reducible refine ret_then ?_ | with_reducible refine ret_block ?_)
  refine bodyPost_ret (v := .bool true) (by kernel_rfl) rfl ?_
  exact ⟨rfl, hT0.toBelow⟩
theorem side_set (r : Rl) (a : Ak) (s : Int) : oneB { r with side := s } a = (sideB s a.side && oneB { r with side := a.side } a) := by
  unfold oneB oneK
  by_cases h : a.class_ < 0 ∨ 3 < a.class_
  · simp [h]
  · rw [if_neg h, if_neg h]
    have e : sideB a.side a.side = true := by simp [sideB]
    by_cases h3 : a.class_ = 3
    · simp [h3, e, bareB]
    · simp [h3, e]
theorem matchSides_walk {w : World} (cs0 : Array Value) (n0 : cs0.size = Try.prog.cellsOf 43) (w0 : ∀ o ty, (o, ty) ∈ leavesAt Try.prog 9 43 → ∃ v, cs0.toList[o]? = some v ∧ leafOk Try.prog ty v)
    (cs1 : Array Value) (n1 : cs1.size = Try.prog.cellsOf 34) (w1 : ∀ o ty, (o, ty) ∈ leavesAt Try.prog 9 34 → ∃ v, cs1.toList[o]? = some v ∧ leafOk Try.prog ty v) :
    Calls Try.prog 7 #[.agg cs0, .agg cs1] w fun e w' => e = .returned (.bool true) ∧ Below w.heap.size w w' := by
  obtain ⟨r, rfl⟩ := rule_agg n0 w0
  obtain ⟨a, rfl⟩ := ask_agg n1 w1
  cases hl : lightB (fun _ => r) 1 a with
  | false => exact sides_dark r a w hl
  | true =>
    obtain ⟨_, _, hsm, hsrc, hdst⟩ := light_parts hl
    have hsm0 := hsm 0 (by omega)
    have e1 := side_set r a 1
    have e2 := side_set r a 2
    have e0 := side_set r a 0
    have z : sideB 0 a.side = true := by simp [sideB]
    rw [z, Bool.true_and] at e0
    by_cases h1 : a.side = 1
    · have x1 : sideB 1 a.side = true := by simp [sideB, h1]
      have x2 : sideB 2 a.side = false := by simp [sideB, h1]
      rw [x1, Bool.true_and] at e1
      rw [x2, Bool.false_and] at e2
      cases hb : oneB { r with side := a.side } a with
      | true => exact sides_1_true r a w hl hsm0 hsrc hdst h1 (by omega) (e1.trans hb) e2 (e0.trans hb)
      | false => exact sides_1_false r a w hl hsm0 hsrc hdst h1 (by omega) (e1.trans hb) e2 (e0.trans hb)
    · by_cases h2 : a.side = 2
      · have x1 : sideB 1 a.side = false := by simp [sideB, h2]
        have x2 : sideB 2 a.side = true := by simp [sideB, h2]
        rw [x1, Bool.false_and] at e1
        rw [x2, Bool.true_and] at e2
        cases hb : oneB { r with side := a.side } a with
        | true => exact sides_2_true r a w hl hsm0 hsrc hdst h1 h2 e1 (e2.trans hb) (e0.trans hb)
        | false => exact sides_2_false r a w hl hsm0 hsrc hdst h1 h2 e1 (e2.trans hb) (e0.trans hb)
      · have x1 : sideB 1 a.side = false := by simp [sideB]; omega
        have x2 : sideB 2 a.side = false := by simp [sideB]; omega
        rw [x1, Bool.false_and] at e1
        rw [x2, Bool.false_and] at e2
        cases hb : oneB { r with side := a.side } a with
        | true => exact sides_0_true r a w hl hsm0 hsrc hdst h1 h2 e1 e2 (e0.trans hb)
        | false => exact sides_0_false r a w hl hsm0 hsrc hdst h1 h2 e1 e2 (e0.trans hb)
end Go.Proofs.Ytolkimdfnlfpbaa
