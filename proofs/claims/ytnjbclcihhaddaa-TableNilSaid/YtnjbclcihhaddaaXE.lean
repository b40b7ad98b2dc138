/- Slots in memory; there, find. Conditions: as each states. -/
import Derived.Test.YtnjbclcihhaddaaXD
import Derived.Test.YtnjbclcihhaddaaTheo
import Derived.Test.YtnjbclcihhaddaaTell3
set_option linter.unusedVariables false
set_option linter.unusedSimpArgs false
namespace Go.Proofs.Ytnjbclcihhaddaa
open Go.RowKit Go.Op
def Sl.cs (s : Sl) : List Value := [.int .i64 s.st, .string s.p.lb, .int .i64 s.p.lp, .string s.p.hb, .int .i64 s.p.hp, .int .i64 s.x]
def rowC (sl : List Sl) : List Value := sl.flatMap Sl.cs
theorem row_len : ∀ sl : List Sl, (rowC sl).length = sl.length * 6
  | [] => rfl
  | s :: r => by
    have e : rowC (s :: r) = s.cs ++ rowC r := rfl
    rw [e, List.length_append, row_len r, List.length_cons]
    show 6 + r.length * 6 = _
    omega
theorem row_drop : ∀ (sl : List Sl) (i : Nat), (rowC sl).drop (i * 6) = rowC (sl.drop i)
  | sl, 0 => by simp
  | [], i + 1 => by simp [rowC]
  | s :: r, i + 1 => by
    have e : rowC (s :: r) = s.cs ++ rowC r := rfl
    rw [e, show (i + 1) * 6 = s.cs.length + i * 6 by show _ = 6 + i * 6; omega, List.drop_length_add_append, row_drop r i, List.drop_succ_cons]
theorem row_take : ∀ (sl : List Sl) (i : Nat), (rowC sl).take (i * 6) = rowC (sl.take i)
  | sl, 0 => by simp [rowC]
  | [], i + 1 => by simp [rowC]
  | s :: r, i + 1 => by
    have e : rowC (s :: r) = s.cs ++ rowC r := rfl
    have e2 : rowC ((s :: r).take (i + 1)) = s.cs ++ rowC (r.take i) := rfl
    rw [e, e2, show (i + 1) * 6 = s.cs.length + i * 6 by show _ = 6 + i * 6; omega, List.take_length_add_append, row_take r i]
theorem row_at {sl : List Sl} {i : Nat} {s : Sl} (h : sl[i]? = some s) (o : Nat) (ho : o ≤ 6) : (rowC sl).drop (i * 6 + o) = s.cs.drop o ++ rowC (sl.drop (i + 1)) := by
  obtain ⟨hi, rfl⟩ := List.getElem?_eq_some_iff.1 h
  rw [← List.drop_drop, row_drop, List.drop_eq_getElem_cons hi]
  show (Sl.cs _ ++ rowC _).drop o = _
  rw [List.drop_append_of_le_length (by exact ho)]
theorem slot_cell {w : World} {g : Nat} {sl : List Sl} {i : Nat} {s : Sl} (hG : Blk w g (rowC sl) 135) (hs : sl[i]? = some s) (o : Nat) (v : Value) (hv : s.cs[o]? = some v) : w.cell? ⟨g, i * 6 + o, none⟩ = some v := by
  have ho : o < 6 := (List.getElem?_eq_some_iff.1 hv).1
  rw [hG.cell]
  have := row_at hs o (by omega)
  have h0 : ((rowC sl).drop (i * 6 + o))[0]? = some v := by
    rw [this, List.getElem?_append_left (by rw [List.length_drop]; show 0 < 6 - o; omega), List.getElem?_drop]
    exact hv
  rw [List.getElem?_drop] at h0
  exact h0
theorem slot_range {w : World} {g : Nat} {sl : List Sl} {i : Nat} {s : Sl} (hG : Blk w g (rowC sl) 135) (hs : sl[i]? = some s) (o : Nat) (vs : List Value) (hv : (s.cs.drop o).take vs.length = vs) (ho : o + vs.length ≤ 6) : w.rangeAt g (i * 6 + o) vs := by
  refine hG.range ?_
  rw [row_at hs o (by omega), List.take_append_of_le_length (by rw [List.length_drop]; show _ ≤ 6 - o; omega)]
  exact hv
theorem row_set {sl : List Sl} {i : Nat} {s : Sl} (h : sl[i]? = some s) (o : Nat) (vs : List Value) (ho : o + vs.length ≤ 6) (t : Sl) (ht : s.cs.take o ++ vs ++ s.cs.drop (o + vs.length) = t.cs) :
    (rowC sl).take (i * 6 + o) ++ vs ++ (rowC sl).drop (i * 6 + o + vs.length) = rowC (sl.set i t) := by
  have h1 : (rowC sl).take (i * 6 + o) = rowC (sl.take i) ++ s.cs.take o := by
    rw [List.take_add, row_take]
    congr 1
    have := row_at h 0 (by omega)
    simp only [Nat.add_zero, List.drop_zero] at this
    rw [this, List.take_append_of_le_length (by show o ≤ 6; omega)]
  rw [h1, Nat.add_assoc, row_at h _ ho, set_at h]
  unfold rowC at *
  rw [List.flatMap_append, List.flatMap_cons, ← ht]
  simp
theorem slot_room {sl : List Sl} {i : Nat} {s : Sl} (h : sl[i]? = some s) (o n : Nat) (ho : o + n ≤ 6) : i * 6 + o + n ≤ (rowC sl).length := by
  have := (List.getElem?_eq_some_iff.1 h).1
  rw [row_len]; omega
theorem ev_rem {o : Oper} {c : Act} {w : World} (x y : Operand) {m n : Nat} (hn : 1 ≤ n) (ho : o.op = .binOp .rem 3 x y 3) (hx : c.eval x = .int .i64 (m : Int)) (hy : c.eval y = .int .i64 (n : Int)) :
    (execOp c.eval o).run Try.prog w = .ok (.value (.int .i64 ((m % n : Nat) : Int))) w := by
  have e : Int.tmod (m : Int) n = ((m % n : Nat) : Int) := rfl
  have hn1 : ¬ n = 0 := by omega
  unfold execOp
  simp only [ho, hx, hy]
  rw [← e]
  simp [eqGuard, binOp, intDiv, hn1]
theorem pr_eq {p q : Pr} : ((p.lb = q.lb ∧ p.lp = q.lp) ∧ (p.hb = q.hb ∧ p.hp = q.hp)) ↔ p = q := by
  cases p; cases q; simp [and_assoc]
theorem find_step {sl : List Sl} {p : Pr} {N k i : Nat} {room : Int} {s : Sl} (hs : sl[i]? = some s) (hk : k < N) : findF sl p N (N - k) i room =
    if s.st = 0 then (-1, if room = -1 then (i : Int) else room)
    else if s.st = 2 then findF sl p N (N - (k + 1)) ((i + 1) % N) (if room = -1 then (i : Int) else room)
    else if s.p = p then ((i : Int), room)
    else findF sl p N (N - (k + 1)) ((i + 1) % N) room := by
  rw [show N - k = (N - (k + 1)) + 1 by omega]
  simp only [findF, hs]
theorem ret_two {a b c d : Int} (h : (a, b) = (c, d)) : Ending.returned (.tuple #[.int .i64 a, .int .i64 b]) = .returned (.tuple #[.int .i64 c, .int .i64 d]) := by
  cases h; rfl
set_option maxRecDepth 100000 in
set_option maxHeartbeats 4000000 in
theorem there_any (m g N : Nat) (most count spent : Int) (w : World) (hM : Blk w m [(.slice (some ⟨g, 0, none⟩) N N : Value), .int .i64 most, .int .i64 count, .int .i64 spent] 95) : Calls Try.prog 78 #[.pointer (some ⟨m, 0, none⟩)] w fun e w' => e = .returned (.bool (decide (0 < most))) ∧ Below w.heap.size w w' := by
  have hT0 := Touch.refl (fun _ => False) w
  go_enter Try.func78, Try.ntmps78
  refine wp_seq_k fun K1 hK1 => ?_
  refine wl_region ?_
  refine dw_val (by kernel_rfl) (.bool false) (by kernel_rfl) ?_
  simp only [Act.put, List.setIfInBounds_toArray, List.set_cons_zero, List.set_cons_succ]
  refine wl_nil ?_
  refine hK1 _ _ ?_
  refine wp_seq_k fun K2 hK2 => ?_
  refine wl_region ?_
  refine dw_val (by kernel_rfl) (.pointer (some ⟨m, 0, none⟩)) (by kernel_rfl) ?_
  simp only [Act.put, List.setIfInBounds_toArray, List.set_cons_zero, List.set_cons_succ]
  refine dw_val (by kernel_rfl) (.bool true) (by kernel_rfl) ?_
  simp only [Act.put, List.setIfInBounds_toArray, List.set_cons_zero, List.set_cons_succ]
  refine dw_val (by kernel_rfl) (.bool true) (by kernel_rfl) ?_
  simp only [Act.put, List.setIfInBounds_toArray, List.set_cons_zero, List.set_cons_succ]
  refine dw_val (by kernel_rfl) (.pointer (some ⟨m, 0, none⟩)) (by kernel_rfl) ?_
  simp only [Act.put, List.setIfInBounds_toArray, List.set_cons_zero, List.set_cons_succ]
  refine dw_val (by kernel_rfl) (.pointer (some ⟨m, 0, none⟩)) (by kernel_rfl) ?_
  simp only [Act.put, List.setIfInBounds_toArray, List.set_cons_zero, List.set_cons_succ]
  refine dw_val (by kernel_rfl) (.pointer (some ⟨m, 1, none⟩)) (by kernel_rfl) ?_
  simp only [Act.put, List.setIfInBounds_toArray, List.set_cons_zero, List.set_cons_succ]
  refine dw_cell (by kernel_rfl) 3 (.tmp 8) rfl m 1 rfl _ _ hM (.int .i64 most) rfl _ Try.underlying3 rfl ?_
  simp only [Act.put, List.setIfInBounds_toArray, List.set_cons_zero, List.set_cons_succ]
  refine dw_val (by kernel_rfl) (.bool (decide (0 < most))) (by kernel_rfl) ?_
  simp only [Act.put, List.setIfInBounds_toArray, List.set_cons_zero, List.set_cons_succ]
  refine dw_val (by kernel_rfl) (.bool (decide (0 < most))) (by kernel_rfl) ?_
  simp only [Act.put, List.setIfInBounds_toArray, List.set_cons_zero, List.set_cons_succ]
  refine dw_val (by kernel_rfl) (.bool (decide (0 < most))) (by kernel_rfl) ?_
  simp only [Act.put, List.setIfInBounds_toArray, List.set_cons_zero, List.set_cons_succ]
  refine wl_nil ?_
  refine hK2 _ _ ?_
  refine wp_ret ?_
  repeat (first | with_reducible refine ret_then ?_ | with_reducible refine ret_block ?_)
  refine bodyPost_ret (v := .bool (decide (0 < most))) (by kernel_rfl) rfl ?_
  exact ⟨ret_bool (by simp), hT0.toBelow⟩
set_option maxRecDepth 100000 in
set_option maxHeartbeats 4000000 in
theorem there_zero (m : Nat) (w : World) (hM : Blk w m [(.slice none 0 0 : Value), .int .i64 0, .int .i64 0, .int .i64 0] 95) : Calls Try.prog 78 #[.pointer (some ⟨m, 0, none⟩)] w fun e w' => e = .returned (.bool false) ∧ Below w.heap.size w w' := by
  have hT0 := Touch.refl (fun _ => False) w
  go_enter Try.func78, Try.ntmps78
  refine wp_seq_k fun K1 hK1 => ?_
  refine wl_region ?_
  refine dw_val (by kernel_rfl) (.bool false) (by kernel_rfl) ?_
  simp only [Act.put, List.setIfInBounds_toArray, List.set_cons_zero, List.set_cons_succ]
  refine wl_nil ?_
  refine hK1 _ _ ?_
  refine wp_seq_k fun K2 hK2 => ?_
  refine wl_region ?_
  refine dw_val (by kernel_rfl) (.pointer (some ⟨m, 0, none⟩)) (by kernel_rfl) ?_
  simp only [Act.put, List.setIfInBounds_toArray, List.set_cons_zero, List.set_cons_succ]
  refine dw_val (by kernel_rfl) (.bool true) (by kernel_rfl) ?_
  simp only [Act.put, List.setIfInBounds_toArray, List.set_cons_zero, List.set_cons_succ]
  refine dw_val (by kernel_rfl) (.bool true) (by kernel_rfl) ?_
  simp only [Act.put, List.setIfInBounds_toArray, List.set_cons_zero, List.set_cons_succ]
  refine dw_val (by kernel_rfl) (.pointer (some ⟨m, 0, none⟩)) (by kernel_rfl) ?_
  simp only [Act.put, List.setIfInBounds_toArray, List.set_cons_zero, List.set_cons_succ]
  refine dw_val (by kernel_rfl) (.pointer (some ⟨m, 0, none⟩)) (by kernel_rfl) ?_
  simp only [Act.put, List.setIfInBounds_toArray, List.set_cons_zero, List.set_cons_succ]
  refine dw_val (by kernel_rfl) (.pointer (some ⟨m, 1, none⟩)) (by kernel_rfl) ?_
  simp only [Act.put, List.setIfInBounds_toArray, List.set_cons_zero, List.set_cons_succ]
  refine dw_cell (by kernel_rfl) 3 (.tmp 8) rfl m 1 rfl _ _ hM (.int .i64 0) rfl _ Try.underlying3 rfl ?_
  simp only [Act.put, List.setIfInBounds_toArray, List.set_cons_zero, List.set_cons_succ]
  refine dw_val (by kernel_rfl) (.bool false) (by kernel_rfl) ?_
  simp only [Act.put, List.setIfInBounds_toArray, List.set_cons_zero, List.set_cons_succ]
  refine dw_val (by kernel_rfl) (.bool false) (by kernel_rfl) ?_
  simp only [Act.put, List.setIfInBounds_toArray, List.set_cons_zero, List.set_cons_succ]
  refine dw_val (by kernel_rfl) (.bool false) (by kernel_rfl) ?_
  simp only [Act.put, List.setIfInBounds_toArray, List.set_cons_zero, List.set_cons_succ]
  refine wl_nil ?_
  refine hK2 _ _ ?_
  refine wp_ret ?_
  repeat (first | with_reducible refine ret_then ?_ | with_reducible refine ret_block ?_)
  refine bodyPost_ret (v := .bool false) (by kernel_rfl) rfl ?_
  exact ⟨ret_bool (by simp), hT0.toBelow⟩
set_option maxRecDepth 100000 in
set_option maxHeartbeats 4000000 in
theorem there_nil (w : World) : Calls Try.prog 78 #[.pointer none] w fun e w' => e = .returned (.bool false) ∧ Below w.heap.size w w' := by
  have hT0 := Touch.refl (fun _ => False) w
  go_enter Try.func78, Try.ntmps78
  refine wp_seq_k fun K1 hK1 => ?_
  refine wl_region ?_
  refine dw_val (by kernel_rfl) (.bool false) (by kernel_rfl) ?_
  simp only [Act.put, List.setIfInBounds_toArray, List.set_cons_zero, List.set_cons_succ]
  refine wl_nil ?_
  refine hK1 _ _ ?_
  refine wp_seq_k fun K2 hK2 => ?_
  refine wl_region ?_
  refine dw_val (by kernel_rfl) (.pointer none) (by kernel_rfl) ?_
  simp only [Act.put, List.setIfInBounds_toArray, List.set_cons_zero, List.set_cons_succ]
  refine dw_val (by kernel_rfl) (.bool false) (by kernel_rfl) ?_
  simp only [Act.put, List.setIfInBounds_toArray, List.set_cons_zero, List.set_cons_succ]
  refine dw_val (by kernel_rfl) (.bool false) (by kernel_rfl) ?_
  simp only [Act.put, List.setIfInBounds_toArray, List.set_cons_zero, List.set_cons_succ]
  refine dw_no (by kernel_rfl) ?_
  simp only [Act.put, List.setIfInBounds_toArray, List.set_cons_zero, List.set_cons_succ]
  refine dw_no (by kernel_rfl) ?_
  simp only [Act.put, List.setIfInBounds_toArray, List.set_cons_zero, List.set_cons_succ]
  refine dw_no (by kernel_rfl) ?_
  simp only [Act.put, List.setIfInBounds_toArray, List.set_cons_zero, List.set_cons_succ]
  refine dw_no (by kernel_rfl) ?_
  simp only [Act.put, List.setIfInBounds_toArray, List.set_cons_zero, List.set_cons_succ]
  refine dw_no (by kernel_rfl) ?_
  simp only [Act.put, List.setIfInBounds_toArray, List.set_cons_zero, List.set_cons_succ]
  refine dw_val (by kernel_rfl) (.bool false) (by kernel_rfl) ?_
  simp only [Act.put, List.setIfInBounds_toArray, List.set_cons_zero, List.set_cons_succ]
  refine dw_val (by kernel_rfl) (.bool false) (by kernel_rfl) ?_
  simp only [Act.put, List.setIfInBounds_toArray, List.set_cons_zero, List.set_cons_succ]
  refine wl_nil ?_
  refine hK2 _ _ ?_
  refine wp_ret ?_
  repeat (first | with_reducible refine ret_then ?_ | with_reducible refine ret_block ?_)
  refine bodyPost_ret (v := .bool false) (by kernel_rfl) rfl ?_
  exact ⟨ret_bool (by simp), hT0.toBelow⟩
set_option maxRecDepth 100000 in
set_option maxHeartbeats 4000000 in
theorem find_any (m g : Nat) (sl : List Sl) (N : Nat) (most count spent : Int) (w : World) (hM : Blk w m [(.slice (some ⟨g, 0, none⟩) N N : Value), .int .i64 most, .int .i64 count, .int .i64 spent] 95) (hG : Blk w g (rowC sl) 135) (hmg : m ≠ g) (p : Pr) (hN : 1 ≤ N) (hNN : N ≤ 10000) (hsl : sl.length = N) (hl : p.lb.size ≤ 100) (hh : p.hb.size ≤ 100) : Calls Try.prog 79 #[.pointer (some ⟨m, 0, none⟩), .agg #[.string p.lb, .int .i64 p.lp, .string p.hb, .int .i64 p.hp]] w fun e w' => e = .returned (.tuple #[.int .i64 (findP (hashF N) sl N p).1, .int .i64 (findP (hashF N) sl N p).2]) ∧ Below w.heap.size w w' := by
  have hT0 := Touch.refl (fun _ => False) w
  go_enter Try.func79, Try.ntmps79
  refine wp_seq_k fun K1 hK1 => ?_
  refine wl_region ?_
  refine dw_new (by kernel_rfl) [(.string p.lb : Value), .int .i64 p.lp, .string p.hb, .int .i64 p.hp] 61 (by kernel_rfl) ?_
  intro n1 w2 hnn1 hsn1 hBn1 hTn1
  have hnemn1 : m ≠ n1 := by have := hM.lt; omega
  have hnegn1 : g ≠ n1 := by have := hG.lt; omega
  have hgen1 : w.heap.size ≤ n1 := by have := hT0.size; omega
  replace hM := hM.keep hTn1 (fun h => h)
  replace hG := hG.keep hTn1 (fun h => h)
  replace hT0 := hT0.trans hTn1 (fun _ _ h => h.elim)
  simp only [Act.put, List.setIfInBounds_toArray, List.set_cons_zero, List.set_cons_succ]
  refine dw_val (by kernel_rfl) (.int .i64 0) (by kernel_rfl) ?_
  simp only [Act.put, List.setIfInBounds_toArray, List.set_cons_zero, List.set_cons_succ]
  refine dw_val (by kernel_rfl) (.int .i64 0) (by kernel_rfl) ?_
  simp only [Act.put, List.setIfInBounds_toArray, List.set_cons_zero, List.set_cons_succ]
  refine wl_nil ?_
  refine hK1 _ _ ?_
  refine wp_seq_k fun K2 hK2 => ?_
  refine wl_region ?_
  refine dw_val (by kernel_rfl) (.pointer (some ⟨m, 0, none⟩)) (by kernel_rfl) ?_
  simp only [Act.put, List.setIfInBounds_toArray, List.set_cons_zero, List.set_cons_succ]
  refine dw_val (by kernel_rfl) (.pointer (some ⟨m, 0, none⟩)) (by kernel_rfl) ?_
  simp only [Act.put, List.setIfInBounds_toArray, List.set_cons_zero, List.set_cons_succ]
  refine dw_val (by kernel_rfl) (.pointer (some ⟨m, 0, none⟩)) (by kernel_rfl) ?_
  simp only [Act.put, List.setIfInBounds_toArray, List.set_cons_zero, List.set_cons_succ]
  refine dw_cell (by kernel_rfl) 93 (.tmp 12) rfl m 0 rfl _ _ hM (.slice (some ⟨g, 0, none⟩) N N) rfl _ Try.underlying93 rfl ?_
  simp only [Act.put, List.setIfInBounds_toArray, List.set_cons_zero, List.set_cons_succ]
  refine dw_val (by kernel_rfl) (.int .i64 (N : Int)) (by kernel_rfl) ?_
  simp only [Act.put, List.setIfInBounds_toArray, List.set_cons_zero, List.set_cons_succ]
  refine dw_val (by kernel_rfl) (.int .i64 (N : Int)) (by kernel_rfl) ?_
  simp only [Act.put, List.setIfInBounds_toArray, List.set_cons_zero, List.set_cons_succ]
  refine wl_nil ?_
  refine hK2 _ _ ?_
  refine wp_seq_k fun K3 hK3 => ?_
  refine wl_region ?_
  refine dw_val (by kernel_rfl) (.int .i64 (-1)) (by kernel_rfl) ?_
  simp only [Act.put, List.setIfInBounds_toArray, List.set_cons_zero, List.set_cons_succ]
  refine wl_nil ?_
  refine hK3 _ _ ?_
  refine wp_seq_k fun K4 hK4 => ?_
  refine wl_region ?_
  refine dw_row (by kernel_rfl) 61 (.tmp 3) rfl n1 0 rfl _ _ hBn1 [(.string p.lb : Value), .int .i64 p.lp, .string p.hb, .int .i64 p.hp] rfl _ Try.underlying61 rfl (by kernel_rfl) ?_
  simp only [Act.put, List.setIfInBounds_toArray, List.set_cons_zero, List.set_cons_succ]
  refine dw_val (by kernel_rfl) (.int .i64 (N : Int)) (by kernel_rfl) ?_
  simp only [Act.put, List.setIfInBounds_toArray, List.set_cons_zero, List.set_cons_succ]
  refine dw_ret (by kernel_rfl) 90 #[(.agg #[(.string p.lb : Value), .int .i64 p.lp, .string p.hb, .int .i64 p.hp] : Value), .int .i64 (N : Int)] (by kernel_rfl) (hash_any p N hN hl hh w2) ?_
  intro w3 hb
  have ht4 : Touch (fun _ => False) w2 w3 := Touch.none hb
  replace hM := hM.keep ht4 (fun h => h)
  replace hG := hG.keep ht4 (fun h => h)
  replace hBn1 := hBn1.keep ht4 (fun h => h)
  replace hT0 := hT0.trans ht4 (fun _ _ h => h.elim)
  clear hb
  simp only [Act.put, List.setIfInBounds_toArray, List.set_cons_zero, List.set_cons_succ]
  refine dw_val (by kernel_rfl) (.int .i64 ((hashF N p : Nat) : Int)) (by kernel_rfl) ?_
  simp only [Act.put, List.setIfInBounds_toArray, List.set_cons_zero, List.set_cons_succ]
  refine wl_nil ?_
  refine hK4 _ _ ?_
  refine wp_seq_k fun K5 hK5 => ?_
  refine wp_seq_k fun K6 hK6 => ?_
  refine wl_region ?_
  refine dw_val (by kernel_rfl) (.int .i64 (N : Int)) (by kernel_rfl) ?_
  simp only [Act.put, List.setIfInBounds_toArray, List.set_cons_zero, List.set_cons_succ]
  refine dw_val (by kernel_rfl) (.int .i64 0) (by kernel_rfl) ?_
  simp only [Act.put, List.setIfInBounds_toArray, List.set_cons_zero, List.set_cons_succ]
  refine wl_nil ?_
  refine hK6 _ _ ?_
  refine wp_block ?_
  refine wp_loop (fun (aL : Act) (wL : World) => ∃ (k : Nat), ∃ (i : Nat), ∃ (room : Int), ∃ (u20_0 u21_0 u22_0 u23_0 u24_0 u25_0 u26_0 u9_0 u28_0 u29_0 u30_0 u31_0 u32_0 u27_0 u33_0 u34_0 u35_0 u36_0 u4_0 u5_0 u38_0 u39_0 u40_0 u41_0 u42_0 u37_0 u43_0 u44_0 u45_0 u47_0 u48_0 u49_0 u50_0 u51_0 u52_0 u46_0 u53_0 u54_0 u55_0 u56_0 u57_0 u58_0 u59_0 : Value), (k ≤ N) ∧ (i < N) ∧ (findF sl p N N (hashF N p) (-1) = findF sl p N (N - k) i room) ∧ Blk wL m [(.slice (some ⟨g, 0, none⟩) N N : Value), .int .i64 most, .int .i64 count, .int .i64 spent] 95 ∧ Blk wL g (rowC sl) 135 ∧ Blk wL n1 [(.string p.lb : Value), .int .i64 p.lp, .string p.hb, .int .i64 p.hp] 61 ∧ Touch (fun _ => False) w wL ∧ aL = ⟨#[(.pointer (some ⟨m, 0, none⟩) : Value), .agg #[(.string p.lb : Value), .int .i64 p.lp, .string p.hb, .int .i64 p.hp], undef, .pointer (some ⟨n1, 0, none⟩), u4_0, u5_0, .int .i64 (N : Int), .int .i64 room, .int .i64 (i : Int), u9_0, .pointer (some ⟨m, 0, none⟩), .pointer (some ⟨m, 0, none⟩), .pointer (some ⟨m, 0, none⟩), .slice (some ⟨g, 0, none⟩) N N, .int .i64 (N : Int), .agg #[(.string p.lb : Value), .int .i64 p.lp, .string p.hb, .int .i64 p.hp], .int .i64 (N : Int), .int .i64 ((hashF N p : Nat) : Int), .int .i64 (N : Int), .int .i64 (k : Int), u20_0, u21_0, u22_0, u23_0, u24_0, u25_0, u26_0, u27_0, u28_0, u29_0, u30_0, u31_0, u32_0, u33_0, u34_0, u35_0, u36_0, u37_0, u38_0, u39_0, u40_0, u41_0, u42_0, u43_0, u44_0, u45_0, u46_0, u47_0, u48_0, u49_0, u50_0, u51_0, u52_0, u53_0, u54_0, u55_0, u56_0, u57_0, u58_0, u59_0, undef], []⟩) (fun (aL : Act) (wL : World) => N - (intOf (aL.tmps.getD 19 undef)).toNat) ?_ ?_
  · exact ⟨0, (hashF N p), (-1), undef, undef, undef, undef, undef, undef, undef, undef, undef, undef, undef, undef, undef, undef, undef, undef, undef, undef, (.int .i64 0), (.int .i64 0), undef, undef, undef, undef, undef, undef, undef, undef, undef, undef, undef, undef, undef, undef, undef, undef, undef, undef, undef, undef, undef, undef, undef, (Nat.zero_le _), (hashF_lt (by omega) p), rfl, hM, hG, hBn1, hT0, rfl⟩
  · intro aL w5 hI
    clear hM hG hBn1 hT0
    obtain ⟨k, i, room, u20_0, u21_0, u22_0, u23_0, u24_0, u25_0, u26_0, u9_0, u28_0, u29_0, u30_0, u31_0, u32_0, u27_0, u33_0, u34_0, u35_0, u36_0, u4_0, u5_0, u38_0, u39_0, u40_0, u41_0, u42_0, u37_0, u43_0, u44_0, u45_0, u47_0, u48_0, u49_0, u50_0, u51_0, u52_0, u46_0, u53_0, u54_0, u55_0, u56_0, u57_0, u58_0, u59_0, hk, hi, hf, hM, hG, hBn1, hT0, rfl⟩ := hI
    by_cases hlt : k < N
    · obtain ⟨s, hs⟩ : ∃ s, sl[i]? = some s := ⟨_, List.getElem?_eq_getElem (by omega)⟩
      rw [find_step hs hlt] at hf
      refine wp_seq_k fun K7 hK7 => ?_
      refine wl_region ?_
      refine dw_bool (by kernel_rfl) (decide ((k : Int) < (N : Int))) (by kernel_rfl) (fun hc => ?_) (fun hc => absurd hc (by simp; omega))
      simp only [Act.put, List.setIfInBounds_toArray, List.set_cons_zero, List.set_cons_succ]
      refine wl_nil ?_
      refine hK7 _ _ ?_
      refine wp_seq_k fun K8 hK8 => ?_
      refine wp_cond_true rfl ?_
      refine wp_skip ?_
      refine hK8 _ _ ?_
      refine wp_seq_k fun K9 hK9 => ?_
      refine wp_block ?_
      refine wp_seq_k fun K10 hK10 => ?_
      refine wl_region ?_
      refine dw_val (by kernel_rfl) (.pointer (some ⟨m, 0, none⟩)) (by kernel_rfl) ?_
      simp only [Act.put, List.setIfInBounds_toArray, List.set_cons_zero, List.set_cons_succ]
      refine dw_val (by kernel_rfl) (.pointer (some ⟨m, 0, none⟩)) (by kernel_rfl) ?_
      simp only [Act.put, List.setIfInBounds_toArray, List.set_cons_zero, List.set_cons_succ]
      refine dw_val (by kernel_rfl) (.pointer (some ⟨m, 0, none⟩)) (by kernel_rfl) ?_
      simp only [Act.put, List.setIfInBounds_toArray, List.set_cons_zero, List.set_cons_succ]
      refine dw_cell (by kernel_rfl) 93 (.tmp 23) rfl m 0 rfl _ _ hM (.slice (some ⟨g, 0, none⟩) N N) rfl _ Try.underlying93 rfl ?_
      simp only [Act.put, List.setIfInBounds_toArray, List.set_cons_zero, List.set_cons_succ]
      refine dw_val (by kernel_rfl) (.int .i64 (i : Int)) (by kernel_rfl) ?_
      simp only [Act.put, List.setIfInBounds_toArray, List.set_cons_zero, List.set_cons_succ]
      refine dw_val (by kernel_rfl) (.pointer (some ⟨g, i * 6, none⟩)) (ev_index 93 135 (.tmp 24) (.tmp 25) rfl g 0 N N i 6 .i64 rfl rfl (by omega) Try.underlying93 (by kernel_rfl) (i * 6) (by omega)) ?_
      simp only [Act.put, List.setIfInBounds_toArray, List.set_cons_zero, List.set_cons_succ]
      refine dw_val (by kernel_rfl) (.pointer (some ⟨g, i * 6, none⟩)) (by kernel_rfl) ?_
      simp only [Act.put, List.setIfInBounds_toArray, List.set_cons_zero, List.set_cons_succ]
      refine wl_nil ?_
      refine hK10 _ _ ?_
      refine wp_seq_k fun K11 hK11 => ?_
      refine wp_block ?_
      refine wp_seq_k fun K12 hK12 => ?_
      refine wl_region ?_
      refine dw_val (by kernel_rfl) (.pointer (some ⟨g, i * 6, none⟩)) (by kernel_rfl) ?_
      simp only [Act.put, List.setIfInBounds_toArray, List.set_cons_zero, List.set_cons_succ]
      refine dw_val (by kernel_rfl) (.pointer (some ⟨g, i * 6, none⟩)) (by kernel_rfl) ?_
      simp only [Act.put, List.setIfInBounds_toArray, List.set_cons_zero, List.set_cons_succ]
      refine dw_val (by kernel_rfl) (.pointer (some ⟨g, i * 6, none⟩)) (by kernel_rfl) ?_
      simp only [Act.put, List.setIfInBounds_toArray, List.set_cons_zero, List.set_cons_succ]
      refine dw_val (by kernel_rfl) (.int .i64 s.st) (ev_cell 3 (.tmp 30) rfl g (i * 6) rfl _ (slot_cell hG hs 0 _ rfl) _ Try.underlying3 rfl) ?_
      simp only [Act.put, List.setIfInBounds_toArray, List.set_cons_zero, List.set_cons_succ]
      refine dw_val (by kernel_rfl) (.bool (s.st == 0)) (by kernel_rfl) ?_
      simp only [Act.put, List.setIfInBounds_toArray, List.set_cons_zero, List.set_cons_succ]
      refine dw_val (by kernel_rfl) (.bool (s.st == 0)) (by kernel_rfl) ?_
      simp only [Act.put, List.setIfInBounds_toArray, List.set_cons_zero, List.set_cons_succ]
      refine wl_nil ?_
      refine hK12 _ _ ?_
      refine wp_cond_split (t := s.st == 0) rfl (fun c6 => ?_) (fun c6 => ?_)
      · skip
        simp at c6
        refine wp_seq_k fun K13 hK13 => ?_
        refine wp_seq_k fun K14 hK14 => ?_
        refine wl_region ?_
        refine dw_val (by kernel_rfl) (.int .i64 room) (by kernel_rfl) ?_
        simp only [Act.put, List.setIfInBounds_toArray, List.set_cons_zero, List.set_cons_succ]
        refine dw_val (by kernel_rfl) (.bool (room == (-1))) (by kernel_rfl) ?_
        simp only [Act.put, List.setIfInBounds_toArray, List.set_cons_zero, List.set_cons_succ]
        refine wl_nil ?_
        refine hK14 _ _ ?_
        refine wp_cond_split (t := room == (-1)) rfl (fun c7 => ?_) (fun c7 => ?_)
        · skip
          simp at c7
          refine wl_region ?_
          refine dw_val (by kernel_rfl) (.int .i64 (i : Int)) (by kernel_rfl) ?_
          simp only [Act.put, List.setIfInBounds_toArray, List.set_cons_zero, List.set_cons_succ]
          refine dw_val (by kernel_rfl) (.int .i64 (i : Int)) (by kernel_rfl) ?_
          simp only [Act.put, List.setIfInBounds_toArray, List.set_cons_zero, List.set_cons_succ]
          refine wl_nil ?_
          refine hK13 _ _ ?_
          refine wp_seq_k fun K15 hK15 => ?_
          refine wl_region ?_
          refine dw_val (by kernel_rfl) (.int .i64 (i : Int)) (by kernel_rfl) ?_
          simp only [Act.put, List.setIfInBounds_toArray, List.set_cons_zero, List.set_cons_succ]
          refine dw_val (by kernel_rfl) (.int .i64 (-1)) (by kernel_rfl) ?_
          simp only [Act.put, List.setIfInBounds_toArray, List.set_cons_zero, List.set_cons_succ]
          refine dw_val (by kernel_rfl) (.int .i64 (i : Int)) (by kernel_rfl) ?_
          simp only [Act.put, List.setIfInBounds_toArray, List.set_cons_zero, List.set_cons_succ]
          refine wl_nil ?_
          refine hK15 _ _ ?_
          refine wp_ret ?_
          repeat (first | with_reducible refine ret_then ?_ | with_reducible refine ret_block ?_)
          refine bodyPost_ret (v := .tuple #[(.int .i64 (-1) : Value), .int .i64 (i : Int)]) (by kernel_rfl) rfl ?_
          refine ⟨ret_two ?_, hT0.toBelow⟩
          unfold findP
          rw [hf]
          simp [findF, c6, c7]
        · skip
          simp at c7
          refine wp_skip ?_
          refine hK13 _ _ ?_
          refine wp_seq_k fun K16 hK16 => ?_
          refine wl_region ?_
          refine dw_val (by kernel_rfl) (.int .i64 room) (by kernel_rfl) ?_
          simp only [Act.put, List.setIfInBounds_toArray, List.set_cons_zero, List.set_cons_succ]
          refine dw_val (by kernel_rfl) (.int .i64 (-1)) (by kernel_rfl) ?_
          simp only [Act.put, List.setIfInBounds_toArray, List.set_cons_zero, List.set_cons_succ]
          refine dw_val (by kernel_rfl) (.int .i64 room) (by kernel_rfl) ?_
          simp only [Act.put, List.setIfInBounds_toArray, List.set_cons_zero, List.set_cons_succ]
          refine wl_nil ?_
          refine hK16 _ _ ?_
          refine wp_ret ?_
          repeat (first | with_reducible refine ret_then ?_ | with_reducible refine ret_block ?_)
          refine bodyPost_ret (v := .tuple #[(.int .i64 (-1) : Value), .int .i64 room]) (by kernel_rfl) rfl ?_
          refine ⟨ret_two ?_, hT0.toBelow⟩
          unfold findP
          rw [hf]
          simp [findF, c6, c7]
      · skip
        simp at c6
        refine wp_seq_k fun K17 hK17 => ?_
        refine wl_region ?_
        refine dw_val (by kernel_rfl) (.pointer (some ⟨g, i * 6, none⟩)) (by kernel_rfl) ?_
        simp only [Act.put, List.setIfInBounds_toArray, List.set_cons_zero, List.set_cons_succ]
        refine dw_val (by kernel_rfl) (.pointer (some ⟨g, i * 6, none⟩)) (by kernel_rfl) ?_
        simp only [Act.put, List.setIfInBounds_toArray, List.set_cons_zero, List.set_cons_succ]
        refine dw_val (by kernel_rfl) (.pointer (some ⟨g, i * 6, none⟩)) (by kernel_rfl) ?_
        simp only [Act.put, List.setIfInBounds_toArray, List.set_cons_zero, List.set_cons_succ]
        refine dw_val (by kernel_rfl) (.int .i64 s.st) (ev_cell 3 (.tmp 40) rfl g (i * 6) rfl _ (slot_cell hG hs 0 _ rfl) _ Try.underlying3 rfl) ?_
        simp only [Act.put, List.setIfInBounds_toArray, List.set_cons_zero, List.set_cons_succ]
        refine dw_val (by kernel_rfl) (.bool (s.st == 2)) (by kernel_rfl) ?_
        simp only [Act.put, List.setIfInBounds_toArray, List.set_cons_zero, List.set_cons_succ]
        refine dw_val (by kernel_rfl) (.bool (s.st == 2)) (by kernel_rfl) ?_
        simp only [Act.put, List.setIfInBounds_toArray, List.set_cons_zero, List.set_cons_succ]
        refine wl_nil ?_
        refine hK17 _ _ ?_
        refine wp_cond_split (t := s.st == 2) rfl (fun c8 => ?_) (fun c8 => ?_)
        · skip
          simp at c8
          refine wp_seq_k fun K18 hK18 => ?_
          refine wl_region ?_
          refine dw_val (by kernel_rfl) (.int .i64 room) (by kernel_rfl) ?_
          simp only [Act.put, List.setIfInBounds_toArray, List.set_cons_zero, List.set_cons_succ]
          refine dw_val (by kernel_rfl) (.bool (room == (-1))) (by kernel_rfl) ?_
          simp only [Act.put, List.setIfInBounds_toArray, List.set_cons_zero, List.set_cons_succ]
          refine wl_nil ?_
          refine hK18 _ _ ?_
          refine wp_cond_split (t := room == (-1)) rfl (fun c9 => ?_) (fun c9 => ?_)
          · skip
            simp at c9
            refine wl_region ?_
            refine dw_val (by kernel_rfl) (.int .i64 (i : Int)) (by kernel_rfl) ?_
            simp only [Act.put, List.setIfInBounds_toArray, List.set_cons_zero, List.set_cons_succ]
            refine dw_val (by kernel_rfl) (.int .i64 (i : Int)) (by kernel_rfl) ?_
            simp only [Act.put, List.setIfInBounds_toArray, List.set_cons_zero, List.set_cons_succ]
            refine wl_nil ?_
            refine hK11 _ _ ?_
            refine wl_region ?_
            refine dw_val (by kernel_rfl) (.int .i64 (i : Int)) (by kernel_rfl) ?_
            simp only [Act.put, List.setIfInBounds_toArray, List.set_cons_zero, List.set_cons_succ]
            refine dw_val2 (by kernel_rfl) (.int .i64 (IntKind.i64.wrap ((i : Int) + 1))) (.int .i64 ((i + 1 : Nat) : Int)) (by kernel_rfl) (by rw [show IntKind.i64.wrap ((i : Int) + 1) = ((i + 1 : Nat) : Int) from by rw [IntWalk.i64_in _ (by omega)]; rfl]) ?_
            simp only [Act.put, List.setIfInBounds_toArray, List.set_cons_zero, List.set_cons_succ]
            refine dw_val (by kernel_rfl) (.int .i64 (N : Int)) (by kernel_rfl) ?_
            simp only [Act.put, List.setIfInBounds_toArray, List.set_cons_zero, List.set_cons_succ]
            refine dw_val (by kernel_rfl) (.int .i64 (((i + 1) % N : Nat) : Int)) (ev_rem (.tmp 56) (.tmp 57) hN rfl rfl rfl) ?_
            simp only [Act.put, List.setIfInBounds_toArray, List.set_cons_zero, List.set_cons_succ]
            refine dw_val (by kernel_rfl) (.int .i64 (((i + 1) % N : Nat) : Int)) (by kernel_rfl) ?_
            simp only [Act.put, List.setIfInBounds_toArray, List.set_cons_zero, List.set_cons_succ]
            refine wl_nil ?_
            refine hK9 _ _ ?_
            refine wl_region ?_
            refine dw_val2 (by kernel_rfl) (.int .i64 (IntKind.i64.wrap ((k : Int) + 1))) (.int .i64 ((k + 1 : Nat) : Int)) (by kernel_rfl) (by rw [show IntKind.i64.wrap ((k : Int) + 1) = ((k + 1 : Nat) : Int) from by rw [IntWalk.i64_in _ (by omega)]; rfl]) ?_
            simp only [Act.put, List.setIfInBounds_toArray, List.set_cons_zero, List.set_cons_succ]
            refine dw_val (by kernel_rfl) (.int .i64 ((k + 1 : Nat) : Int)) (by kernel_rfl) ?_
            simp only [Act.put, List.setIfInBounds_toArray, List.set_cons_zero, List.set_cons_succ]
            refine wl_nil ?_
            refine then_normal ?_
            refine ⟨⟨(k + 1), ((i + 1) % N), (i : Int), (.bool true), (.pointer (some ⟨m, 0, none⟩)), (.pointer (some ⟨m, 0, none⟩)), (.pointer (some ⟨m, 0, none⟩)), (.slice (some ⟨g, 0, none⟩) N N), (.int .i64 (i : Int)), (.pointer (some ⟨g, i * 6, none⟩)), (.pointer (some ⟨g, i * 6, none⟩)), (.pointer (some ⟨g, i * 6, none⟩)), (.pointer (some ⟨g, i * 6, none⟩)), (.pointer (some ⟨g, i * 6, none⟩)), (.int .i64 s.st), (.bool (s.st == 0)), (.bool (s.st == 0)), u33_0, u34_0, u35_0, u36_0, u4_0, u5_0, (.pointer (some ⟨g, i * 6, none⟩)), (.pointer (some ⟨g, i * 6, none⟩)), (.pointer (some ⟨g, i * 6, none⟩)), (.int .i64 s.st), (.bool (s.st == 2)), (.bool (s.st == 2)), (.int .i64 room), (.bool (room == (-1))), (.int .i64 (i : Int)), u47_0, u48_0, u49_0, u50_0, u51_0, u52_0, u46_0, u53_0, u54_0, (.int .i64 (i : Int)), (.int .i64 ((i + 1 : Nat) : Int)), (.int .i64 (N : Int)), (.int .i64 (((i + 1) % N : Nat) : Int)), (.int .i64 ((k + 1 : Nat) : Int)), (by omega), (Nat.mod_lt _ (by omega)), (by rw [hf]; simp [c6, c8, c9]), hM, hG, hBn1, hT0, rfl⟩, ?_⟩
            simp [intOf]; omega
          · skip
            simp at c9
            refine wp_skip ?_
            refine hK11 _ _ ?_
            refine wl_region ?_
            refine dw_val (by kernel_rfl) (.int .i64 (i : Int)) (by kernel_rfl) ?_
            simp only [Act.put, List.setIfInBounds_toArray, List.set_cons_zero, List.set_cons_succ]
            refine dw_val2 (by kernel_rfl) (.int .i64 (IntKind.i64.wrap ((i : Int) + 1))) (.int .i64 ((i + 1 : Nat) : Int)) (by kernel_rfl) (by rw [show IntKind.i64.wrap ((i : Int) + 1) = ((i + 1 : Nat) : Int) from by rw [IntWalk.i64_in _ (by omega)]; rfl]) ?_
            simp only [Act.put, List.setIfInBounds_toArray, List.set_cons_zero, List.set_cons_succ]
            refine dw_val (by kernel_rfl) (.int .i64 (N : Int)) (by kernel_rfl) ?_
            simp only [Act.put, List.setIfInBounds_toArray, List.set_cons_zero, List.set_cons_succ]
            refine dw_val (by kernel_rfl) (.int .i64 (((i + 1) % N : Nat) : Int)) (ev_rem (.tmp 56) (.tmp 57) hN rfl rfl rfl) ?_
            simp only [Act.put, List.setIfInBounds_toArray, List.set_cons_zero, List.set_cons_succ]
            refine dw_val (by kernel_rfl) (.int .i64 (((i + 1) % N : Nat) : Int)) (by kernel_rfl) ?_
            simp only [Act.put, List.setIfInBounds_toArray, List.set_cons_zero, List.set_cons_succ]
            refine wl_nil ?_
            refine hK9 _ _ ?_
            refine wl_region ?_
            refine dw_val2 (by kernel_rfl) (.int .i64 (IntKind.i64.wrap ((k : Int) + 1))) (.int .i64 ((k + 1 : Nat) : Int)) (by kernel_rfl) (by rw [show IntKind.i64.wrap ((k : Int) + 1) = ((k + 1 : Nat) : Int) from by rw [IntWalk.i64_in _ (by omega)]; rfl]) ?_
            simp only [Act.put, List.setIfInBounds_toArray, List.set_cons_zero, List.set_cons_succ]
            refine dw_val (by kernel_rfl) (.int .i64 ((k + 1 : Nat) : Int)) (by kernel_rfl) ?_
            simp only [Act.put, List.setIfInBounds_toArray, List.set_cons_zero, List.set_cons_succ]
            refine wl_nil ?_
            refine then_normal ?_
            refine ⟨⟨(k + 1), ((i + 1) % N), room, (.bool true), (.pointer (some ⟨m, 0, none⟩)), (.pointer (some ⟨m, 0, none⟩)), (.pointer (some ⟨m, 0, none⟩)), (.slice (some ⟨g, 0, none⟩) N N), (.int .i64 (i : Int)), (.pointer (some ⟨g, i * 6, none⟩)), (.pointer (some ⟨g, i * 6, none⟩)), (.pointer (some ⟨g, i * 6, none⟩)), (.pointer (some ⟨g, i * 6, none⟩)), (.pointer (some ⟨g, i * 6, none⟩)), (.int .i64 s.st), (.bool (s.st == 0)), (.bool (s.st == 0)), u33_0, u34_0, u35_0, u36_0, u4_0, u5_0, (.pointer (some ⟨g, i * 6, none⟩)), (.pointer (some ⟨g, i * 6, none⟩)), (.pointer (some ⟨g, i * 6, none⟩)), (.int .i64 s.st), (.bool (s.st == 2)), (.bool (s.st == 2)), (.int .i64 room), (.bool (room == (-1))), u45_0, u47_0, u48_0, u49_0, u50_0, u51_0, u52_0, u46_0, u53_0, u54_0, (.int .i64 (i : Int)), (.int .i64 ((i + 1 : Nat) : Int)), (.int .i64 (N : Int)), (.int .i64 (((i + 1) % N : Nat) : Int)), (.int .i64 ((k + 1 : Nat) : Int)), (by omega), (Nat.mod_lt _ (by omega)), (by rw [hf]; simp [c6, c8, c9]), hM, hG, hBn1, hT0, rfl⟩, ?_⟩
            simp [intOf]; omega
        · skip
          simp at c8
          refine wp_seq_k fun K19 hK19 => ?_
          refine wq_region (Touch (fun _ => False) w5) (by kernel_rfl) (by kernel_rfl) (Touch.refl _ _).drew ?_
          refine dq_val (by kernel_rfl) (.pointer (some ⟨g, i * 6, none⟩)) (fun w' _ => by kernel_rfl) ?_
          simp only [Act.put, List.setIfInBounds_toArray, List.set_cons_zero, List.set_cons_succ]
          refine dq_val (by kernel_rfl) (.pointer (some ⟨g, i * 6, none⟩)) (fun w' _ => by kernel_rfl) ?_
          simp only [Act.put, List.setIfInBounds_toArray, List.set_cons_zero, List.set_cons_succ]
          refine dq_val (by kernel_rfl) (.pointer (some ⟨g, i * 6 + 1, none⟩)) (fun w' _ => by kernel_rfl) ?_
          simp only [Act.put, List.setIfInBounds_toArray, List.set_cons_zero, List.set_cons_succ]
          refine dq_val (by kernel_rfl) (.agg #[(.string s.p.lb : Value), .int .i64 s.p.lp, .string s.p.hb, .int .i64 s.p.hp]) (fun w' hC => ev_row 61 (.tmp 49) rfl g (i * 6 + 1) rfl [(.string s.p.lb : Value), .int .i64 s.p.lp, .string s.p.hb, .int .i64 s.p.hp] (slot_range (hG.keep hC (fun h => h)) hs 1 [(.string s.p.lb : Value), .int .i64 s.p.lp, .string s.p.hb, .int .i64 s.p.hp] rfl (Nat.le_of_ble_eq_true rfl)) _ Try.underlying61 rfl (by kernel_rfl)) ?_
          simp only [Act.put, List.setIfInBounds_toArray, List.set_cons_zero, List.set_cons_succ]
          refine dq_val (by kernel_rfl) (.agg #[(.string p.lb : Value), .int .i64 p.lp, .string p.hb, .int .i64 p.hp]) (fun w' hC => ev_row 61 (.tmp 3) rfl n1 0 rfl [(.string p.lb : Value), .int .i64 p.lp, .string p.hb, .int .i64 p.hp] ((hBn1.keep hC (fun h => h)).range rfl) _ Try.underlying61 rfl (by kernel_rfl)) ?_
          simp only [Act.put, List.setIfInBounds_toArray, List.set_cons_zero, List.set_cons_succ]
          refine dq_val (by kernel_rfl) (.bool (decide ((s.p.lb = p.lb ∧ s.p.lp = p.lp) ∧ (s.p.hb = p.hb ∧ s.p.hp = p.hp)))) (fun w' _ => ev_eql61 (.tmp 50) (.tmp 51) rfl rfl rfl) ?_
          simp only [Act.put, List.setIfInBounds_toArray, List.set_cons_zero, List.set_cons_succ]
          refine dq_val (by kernel_rfl) (.bool (decide ((s.p.lb = p.lb ∧ s.p.lp = p.lp) ∧ (s.p.hb = p.hb ∧ s.p.hp = p.hp)))) (fun w' _ => by kernel_rfl) ?_
          simp only [Act.put, List.setIfInBounds_toArray, List.set_cons_zero, List.set_cons_succ]
          refine wq_nil ?_
          intro w10 hT11
          replace hM := hM.keep hT11 (fun h => h)
          replace hG := hG.keep hT11 (fun h => h)
          replace hBn1 := hBn1.keep hT11 (fun h => h)
          replace hT0 := hT0.trans hT11 (fun _ _ h => h.elim)
          refine hK19 _ _ ?_
          refine wp_cond_split (t := decide ((s.p.lb = p.lb ∧ s.p.lp = p.lp) ∧ (s.p.hb = p.hb ∧ s.p.hp = p.hp))) rfl (fun c12 => ?_) (fun c12 => ?_)
          · skip
            replace c12 := of_decide_eq_true c12
            replace c12 := pr_eq.1 c12
            refine wp_seq_k fun K20 hK20 => ?_
            refine wl_region ?_
            refine dw_val (by kernel_rfl) (.int .i64 (i : Int)) (by kernel_rfl) ?_
            simp only [Act.put, List.setIfInBounds_toArray, List.set_cons_zero, List.set_cons_succ]
            refine dw_val (by kernel_rfl) (.int .i64 room) (by kernel_rfl) ?_
            simp only [Act.put, List.setIfInBounds_toArray, List.set_cons_zero, List.set_cons_succ]
            refine dw_val (by kernel_rfl) (.int .i64 (i : Int)) (by kernel_rfl) ?_
            simp only [Act.put, List.setIfInBounds_toArray, List.set_cons_zero, List.set_cons_succ]
            refine dw_val (by kernel_rfl) (.int .i64 room) (by kernel_rfl) ?_
            simp only [Act.put, List.setIfInBounds_toArray, List.set_cons_zero, List.set_cons_succ]
            refine wl_nil ?_
            refine hK20 _ _ ?_
            refine wp_ret ?_
            repeat (first | with_reducible refine ret_then ?_ | with_reducible refine ret_block ?_)
            refine bodyPost_ret (v := .tuple #[(.int .i64 (i : Int) : Value), .int .i64 room]) (by kernel_rfl) rfl ?_
            refine ⟨ret_two ?_, hT0.toBelow⟩
            unfold findP
            rw [hf]
            simp [findF, c6, c8, c12]
          · skip
            replace c12 := of_decide_eq_false c12
            replace c12 : ¬ s.p = p := fun h => c12 (pr_eq.2 h)
            refine wp_skip ?_
            refine hK11 _ _ ?_
            refine wl_region ?_
            refine dw_val (by kernel_rfl) (.int .i64 (i : Int)) (by kernel_rfl) ?_
            simp only [Act.put, List.setIfInBounds_toArray, List.set_cons_zero, List.set_cons_succ]
            refine dw_val2 (by kernel_rfl) (.int .i64 (IntKind.i64.wrap ((i : Int) + 1))) (.int .i64 ((i + 1 : Nat) : Int)) (by kernel_rfl) (by rw [show IntKind.i64.wrap ((i : Int) + 1) = ((i + 1 : Nat) : Int) from by rw [IntWalk.i64_in _ (by omega)]; rfl]) ?_
            simp only [Act.put, List.setIfInBounds_toArray, List.set_cons_zero, List.set_cons_succ]
            refine dw_val (by kernel_rfl) (.int .i64 (N : Int)) (by kernel_rfl) ?_
            simp only [Act.put, List.setIfInBounds_toArray, List.set_cons_zero, List.set_cons_succ]
            refine dw_val (by kernel_rfl) (.int .i64 (((i + 1) % N : Nat) : Int)) (ev_rem (.tmp 56) (.tmp 57) hN rfl rfl rfl) ?_
            simp only [Act.put, List.setIfInBounds_toArray, List.set_cons_zero, List.set_cons_succ]
            refine dw_val (by kernel_rfl) (.int .i64 (((i + 1) % N : Nat) : Int)) (by kernel_rfl) ?_
            simp only [Act.put, List.setIfInBounds_toArray, List.set_cons_zero, List.set_cons_succ]
            refine wl_nil ?_
            refine hK9 _ _ ?_
            refine wl_region ?_
            refine dw_val2 (by kernel_rfl) (.int .i64 (IntKind.i64.wrap ((k : Int) + 1))) (.int .i64 ((k + 1 : Nat) : Int)) (by kernel_rfl) (by rw [show IntKind.i64.wrap ((k : Int) + 1) = ((k + 1 : Nat) : Int) from by rw [IntWalk.i64_in _ (by omega)]; rfl]) ?_
            simp only [Act.put, List.setIfInBounds_toArray, List.set_cons_zero, List.set_cons_succ]
            refine dw_val (by kernel_rfl) (.int .i64 ((k + 1 : Nat) : Int)) (by kernel_rfl) ?_
            simp only [Act.put, List.setIfInBounds_toArray, List.set_cons_zero, List.set_cons_succ]
            refine wl_nil ?_
            refine then_normal ?_
            refine ⟨⟨(k + 1), ((i + 1) % N), room, (.bool true), (.pointer (some ⟨m, 0, none⟩)), (.pointer (some ⟨m, 0, none⟩)), (.pointer (some ⟨m, 0, none⟩)), (.slice (some ⟨g, 0, none⟩) N N), (.int .i64 (i : Int)), (.pointer (some ⟨g, i * 6, none⟩)), (.pointer (some ⟨g, i * 6, none⟩)), (.pointer (some ⟨g, i * 6, none⟩)), (.pointer (some ⟨g, i * 6, none⟩)), (.pointer (some ⟨g, i * 6, none⟩)), (.int .i64 s.st), (.bool (s.st == 0)), (.bool (s.st == 0)), u33_0, u34_0, u35_0, u36_0, u4_0, u5_0, (.pointer (some ⟨g, i * 6, none⟩)), (.pointer (some ⟨g, i * 6, none⟩)), (.pointer (some ⟨g, i * 6, none⟩)), (.int .i64 s.st), (.bool (s.st == 2)), (.bool (s.st == 2)), u43_0, u44_0, u45_0, (.pointer (some ⟨g, i * 6, none⟩)), (.pointer (some ⟨g, i * 6, none⟩)), (.pointer (some ⟨g, i * 6 + 1, none⟩)), (.agg #[(.string s.p.lb : Value), .int .i64 s.p.lp, .string s.p.hb, .int .i64 s.p.hp]), (.agg #[(.string p.lb : Value), .int .i64 p.lp, .string p.hb, .int .i64 p.hp]), (.bool (decide ((s.p.lb = p.lb ∧ s.p.lp = p.lp) ∧ (s.p.hb = p.hb ∧ s.p.hp = p.hp)))), (.bool (decide ((s.p.lb = p.lb ∧ s.p.lp = p.lp) ∧ (s.p.hb = p.hb ∧ s.p.hp = p.hp)))), u53_0, u54_0, (.int .i64 (i : Int)), (.int .i64 ((i + 1 : Nat) : Int)), (.int .i64 (N : Int)), (.int .i64 (((i + 1) % N : Nat) : Int)), (.int .i64 ((k + 1 : Nat) : Int)), (by omega), (Nat.mod_lt _ (by omega)), (by rw [hf]; simp [c6, c8, c12]), hM, hG, hBn1, hT0, rfl⟩, ?_⟩
            simp [intOf]; omega
    · have hge : ¬ k < N := hlt
      rw [show N - k = 0 by omega] at hf
      refine wp_seq_k fun K21 hK21 => ?_
      refine wl_region ?_
      refine dw_bool (by kernel_rfl) (decide ((k : Int) < (N : Int))) (by kernel_rfl) (fun hc => absurd hc (by simp; omega)) (fun hc => ?_)
      simp only [Act.put, List.setIfInBounds_toArray, List.set_cons_zero, List.set_cons_succ]
      refine wl_nil ?_
      refine hK21 _ _ ?_
      refine wp_seq_k fun K22 hK22 => ?_
      refine wp_cond_false rfl ?_
      refine wp_exit ?_
      refine hK5 _ _ ?_
      refine wp_seq_k fun K23 hK23 => ?_
      refine wl_region ?_
      refine dw_val (by kernel_rfl) (.int .i64 room) (by kernel_rfl) ?_
      simp only [Act.put, List.setIfInBounds_toArray, List.set_cons_zero, List.set_cons_succ]
      refine dw_val (by kernel_rfl) (.int .i64 (-1)) (by kernel_rfl) ?_
      simp only [Act.put, List.setIfInBounds_toArray, List.set_cons_zero, List.set_cons_succ]
      refine dw_val (by kernel_rfl) (.int .i64 room) (by kernel_rfl) ?_
      simp only [Act.put, List.setIfInBounds_toArray, List.set_cons_zero, List.set_cons_succ]
      refine wl_nil ?_
      refine hK23 _ _ ?_
      refine wp_ret ?_
      repeat (first | with_reducible refine ret_then ?_ | with_reducible refine ret_block ?_)
      refine bodyPost_ret (v := .tuple #[(.int .i64 (-1) : Value), .int .i64 room]) (by kernel_rfl) rfl ?_
      refine ⟨ret_two ?_, hT0.toBelow⟩
      unfold findP
      rw [hf]
      simp [findF]
end Go.Proofs.Ytnjbclcihhaddaa
