/- Ends and pairs: what is less, plain, short. Conditions: as each states. -/
import Derived.Test.YtnjbclcihhaddaaXA
set_option linter.unusedVariables false
set_option linter.unusedSimpArgs false
namespace Go.Proofs.Ytnjbclcihhaddaa
open Go.RowKit Go.Op
def Pr.cs (p : Pr) : List Value := [.string p.lb, .int .i64 p.lp, .string p.hb, .int .i64 p.hp]
theorem ev_str {o : Oper} {c : Act} {w : World} (x i : Operand) (s : ByteArray) (k : Nat) (ho : o.op = .index 9 x i) (hx : c.eval x = .string s) (hi : c.eval i = .int .i64 k) (hk : k < s.size) :
    (execOp c.eval o).run Try.prog w = .ok (.value (.int .u8 ((s.data.toList.getD k 0).toNat : Nat))) w := by
  have h1 : (0 : Int) ≤ k ∧ (k : Int) < s.size := by omega
  unfold execOp
  simp only [ho, hx, hi]
  have h2 : s.data.toList.getD k 0 = s[k]'hk := by
    rw [List.getD_eq_getElem?_getD, List.getElem?_eq_getElem (by simpa using hk)]
    rfl
  rw [h2]
  simp [run_index_string w 9 s .i64 k Try.underlying9, h1, hk]
theorem bl_first : ∀ (x y : List UInt8) (k : Nat), x.length = y.length → k < x.length → (∀ j, j < k → x.getD j 0 = y.getD j 0) → x.getD k 0 ≠ y.getD k 0 → bytesLess x y = decide ((x.getD k 0).toNat < (y.getD k 0).toNat)
  | [], _, k, _, hk, _, _ => by simp at hk
  | _ :: _, [], k, hl, _, _, _ => by simp at hl
  | a :: x, b :: y, 0, hl, hk, h1, h2 => by
    simp at h2
    simp [bytesLess, h2, UInt8.lt_iff_toNat_lt]
  | a :: x, b :: y, k + 1, hl, hk, h1, h2 => by
    have h0 := h1 0 (by omega)
    simp at h0
    subst h0
    have := bl_first x y k (by simpa using hl) (by simpa using hk) (fun j hj => by simpa using h1 (j + 1) (by omega)) (by simpa using h2)
    simp [bytesLess, this]
theorem str_ext {a b : ByteArray} (hs : a.size = b.size) (h : ∀ j, j < a.size → a.data.toList.getD j 0 = b.data.toList.getD j 0) : a = b := by
  have : a.data.toList = b.data.toList := by
    apply List.ext_getElem?
    intro j
    by_cases hj : j < a.size
    · have := h j hj
      rw [List.getD_eq_getElem?_getD, List.getD_eq_getElem?_getD] at this
      rw [List.getElem?_eq_getElem (by simpa using hj), List.getElem?_eq_getElem (by rw [hs] at hj; simpa using hj)] at this ⊢
      simpa using this
    · rw [List.getElem?_eq_none (by simpa using hj), List.getElem?_eq_none (by rw [hs] at hj; simpa using hj)]
  cases a; cases b; simp at this; simpa using this
set_option maxRecDepth 100000 in
set_option maxHeartbeats 4000000 in
theorem lessE_any (a : ByteArray) (p : Int) (b : ByteArray) (q : Int) (w : World) : Calls Try.prog 91 #[.agg #[.string a, .int .i64 p], .agg #[.string b, .int .i64 q]] w fun e w' => e = .returned (.bool (lessE a p b q)) ∧ Below w.heap.size w w' := by
  have hT0 := Touch.refl (fun _ => False) w
  go_enter Try.func91, Try.ntmps91
  refine wp_seq_k fun K1 hK1 => ?_
  refine wl_region ?_
  refine dw_new (by kernel_rfl) [(.string a : Value), .int .i64 p] 59 (by kernel_rfl) ?_
  intro n1 w2 hnn1 hsn1 hBn1 hTn1
  have hgen1 : w.heap.size ≤ n1 := by have := hT0.size; omega
  replace hT0 := hT0.trans hTn1 (fun _ _ h => h.elim)
  simp only [Act.put, List.setIfInBounds_toArray, List.set_cons_zero, List.set_cons_succ]
  refine dw_new (by kernel_rfl) [(.string b : Value), .int .i64 q] 59 (by kernel_rfl) ?_
  intro n3 w4 hnn3 hsn3 hBn3 hTn3
  have hnen1n3 : n1 ≠ n3 := by have := hBn1.lt; omega
  have hgen3 : w.heap.size ≤ n3 := by have := hT0.size; omega
  replace hBn1 := hBn1.keep hTn3 (fun h => h)
  replace hT0 := hT0.trans hTn3 (fun _ _ h => h.elim)
  simp only [Act.put, List.setIfInBounds_toArray, List.set_cons_zero, List.set_cons_succ]
  refine dw_val (by kernel_rfl) (.bool false) (by kernel_rfl) ?_
  simp only [Act.put, List.setIfInBounds_toArray, List.set_cons_zero, List.set_cons_succ]
  refine wl_nil ?_
  refine hK1 _ _ ?_
  refine wp_seq_k fun K2 hK2 => ?_
  refine wp_block ?_
  refine wp_seq_k fun K3 hK3 => ?_
  refine wl_region ?_
  refine dw_val (by kernel_rfl) (.pointer (some ⟨n1, 0, none⟩)) (by kernel_rfl) ?_
  simp only [Act.put, List.setIfInBounds_toArray, List.set_cons_zero, List.set_cons_succ]
  refine dw_val (by kernel_rfl) (.pointer (some ⟨n1, 0, none⟩)) (by kernel_rfl) ?_
  simp only [Act.put, List.setIfInBounds_toArray, List.set_cons_zero, List.set_cons_succ]
  refine dw_cell (by kernel_rfl) 9 (.tmp 7) rfl n1 0 rfl _ _ hBn1 (.string a) rfl _ Try.underlying9 rfl ?_
  simp only [Act.put, List.setIfInBounds_toArray, List.set_cons_zero, List.set_cons_succ]
  refine dw_val (by kernel_rfl) (.int .i64 (a.size : Int)) (by kernel_rfl) ?_
  simp only [Act.put, List.setIfInBounds_toArray, List.set_cons_zero, List.set_cons_succ]
  refine dw_val (by kernel_rfl) (.pointer (some ⟨n3, 0, none⟩)) (by kernel_rfl) ?_
  simp only [Act.put, List.setIfInBounds_toArray, List.set_cons_zero, List.set_cons_succ]
  refine dw_val (by kernel_rfl) (.pointer (some ⟨n3, 0, none⟩)) (by kernel_rfl) ?_
  simp only [Act.put, List.setIfInBounds_toArray, List.set_cons_zero, List.set_cons_succ]
  refine dw_cell (by kernel_rfl) 9 (.tmp 11) rfl n3 0 rfl _ _ hBn3 (.string b) rfl _ Try.underlying9 rfl ?_
  simp only [Act.put, List.setIfInBounds_toArray, List.set_cons_zero, List.set_cons_succ]
  refine dw_val (by kernel_rfl) (.int .i64 (b.size : Int)) (by kernel_rfl) ?_
  simp only [Act.put, List.setIfInBounds_toArray, List.set_cons_zero, List.set_cons_succ]
  refine dw_val (by kernel_rfl) (.bool ((a.size : Int) != (b.size : Int))) (by kernel_rfl) ?_
  simp only [Act.put, List.setIfInBounds_toArray, List.set_cons_zero, List.set_cons_succ]
  refine dw_val (by kernel_rfl) (.bool ((a.size : Int) != (b.size : Int))) (by kernel_rfl) ?_
  simp only [Act.put, List.setIfInBounds_toArray, List.set_cons_zero, List.set_cons_succ]
  refine wl_nil ?_
  refine hK3 _ _ ?_
  refine wp_cond_split (t := (a.size : Int) != (b.size : Int)) rfl (fun c5 => ?_) (fun c5 => ?_)
  · skip
    refine wp_seq_k fun K4 hK4 => ?_
    refine wl_region ?_
    refine dw_val (by kernel_rfl) (.pointer (some ⟨n1, 0, none⟩)) (by kernel_rfl) ?_
    simp only [Act.put, List.setIfInBounds_toArray, List.set_cons_zero, List.set_cons_succ]
    refine dw_val (by kernel_rfl) (.pointer (some ⟨n1, 0, none⟩)) (by kernel_rfl) ?_
    simp only [Act.put, List.setIfInBounds_toArray, List.set_cons_zero, List.set_cons_succ]
    refine dw_cell (by kernel_rfl) 9 (.tmp 16) rfl n1 0 rfl _ _ hBn1 (.string a) rfl _ Try.underlying9 rfl ?_
    simp only [Act.put, List.setIfInBounds_toArray, List.set_cons_zero, List.set_cons_succ]
    refine dw_val (by kernel_rfl) (.int .i64 (a.size : Int)) (by kernel_rfl) ?_
    simp only [Act.put, List.setIfInBounds_toArray, List.set_cons_zero, List.set_cons_succ]
    refine dw_val (by kernel_rfl) (.pointer (some ⟨n3, 0, none⟩)) (by kernel_rfl) ?_
    simp only [Act.put, List.setIfInBounds_toArray, List.set_cons_zero, List.set_cons_succ]
    refine dw_val (by kernel_rfl) (.pointer (some ⟨n3, 0, none⟩)) (by kernel_rfl) ?_
    simp only [Act.put, List.setIfInBounds_toArray, List.set_cons_zero, List.set_cons_succ]
    refine dw_cell (by kernel_rfl) 9 (.tmp 20) rfl n3 0 rfl _ _ hBn3 (.string b) rfl _ Try.underlying9 rfl ?_
    simp only [Act.put, List.setIfInBounds_toArray, List.set_cons_zero, List.set_cons_succ]
    refine dw_val (by kernel_rfl) (.int .i64 (b.size : Int)) (by kernel_rfl) ?_
    simp only [Act.put, List.setIfInBounds_toArray, List.set_cons_zero, List.set_cons_succ]
    refine dw_val (by kernel_rfl) (.bool (decide ((a.size : Int) < (b.size : Int)))) (by kernel_rfl) ?_
    simp only [Act.put, List.setIfInBounds_toArray, List.set_cons_zero, List.set_cons_succ]
    refine dw_val (by kernel_rfl) (.bool (decide ((a.size : Int) < (b.size : Int)))) (by kernel_rfl) ?_
    simp only [Act.put, List.setIfInBounds_toArray, List.set_cons_zero, List.set_cons_succ]
    refine wl_nil ?_
    refine hK4 _ _ ?_
    refine wp_ret ?_
    repeat (first | with_reducible refine ret_then ?_ | with_reducible refine ret_block ?_)
    refine bodyPost_ret (v := .bool (decide ((a.size : Int) < (b.size : Int)))) (by kernel_rfl) rfl ?_
    refine ⟨ret_bool ?_, hT0.toBelow⟩
    unfold lessE
    simp [Int.natCast_inj] at c5
    simp [c5]
  · skip
    refine wp_seq_k fun K5 hK5 => ?_
    refine wl_region ?_
    refine dw_val (by kernel_rfl) (.pointer (some ⟨n1, 0, none⟩)) (by kernel_rfl) ?_
    simp only [Act.put, List.setIfInBounds_toArray, List.set_cons_zero, List.set_cons_succ]
    refine dw_row (by kernel_rfl) 57 (.tmp 25) rfl n1 0 rfl _ _ hBn1 [(.string a : Value)] rfl _ Try.underlying57 rfl (by kernel_rfl) ?_
    simp only [Act.put, List.setIfInBounds_toArray, List.set_cons_zero, List.set_cons_succ]
    refine dw_val (by kernel_rfl) (.pointer (some ⟨n3, 0, none⟩)) (by kernel_rfl) ?_
    simp only [Act.put, List.setIfInBounds_toArray, List.set_cons_zero, List.set_cons_succ]
    refine dw_row (by kernel_rfl) 57 (.tmp 27) rfl n3 0 rfl _ _ hBn3 [(.string b : Value)] rfl _ Try.underlying57 rfl (by kernel_rfl) ?_
    simp only [Act.put, List.setIfInBounds_toArray, List.set_cons_zero, List.set_cons_succ]
    refine dw_val (by kernel_rfl) (.bool (!decide (a = b))) (ev_neq57 (.tmp 26) (.tmp 28) rfl rfl rfl) ?_
    simp only [Act.put, List.setIfInBounds_toArray, List.set_cons_zero, List.set_cons_succ]
    refine dw_val (by kernel_rfl) (.bool (!decide (a = b))) (by kernel_rfl) ?_
    simp only [Act.put, List.setIfInBounds_toArray, List.set_cons_zero, List.set_cons_succ]
    refine wl_nil ?_
    refine hK5 _ _ ?_
    refine wp_cond_split (t := !decide (a = b)) rfl (fun c6 => ?_) (fun c6 => ?_)
    · skip
      refine wp_seq_k fun K6 hK6 => ?_
      refine wl_region ?_
      refine dw_val (by kernel_rfl) (.pointer (some ⟨n1, 0, none⟩)) (by kernel_rfl) ?_
      simp only [Act.put, List.setIfInBounds_toArray, List.set_cons_zero, List.set_cons_succ]
      refine dw_val (by kernel_rfl) (.pointer (some ⟨n1, 0, none⟩)) (by kernel_rfl) ?_
      simp only [Act.put, List.setIfInBounds_toArray, List.set_cons_zero, List.set_cons_succ]
      refine dw_cell (by kernel_rfl) 9 (.tmp 31) rfl n1 0 rfl _ _ hBn1 (.string a) rfl _ Try.underlying9 rfl ?_
      simp only [Act.put, List.setIfInBounds_toArray, List.set_cons_zero, List.set_cons_succ]
      refine dw_val (by kernel_rfl) (.pointer (some ⟨n3, 0, none⟩)) (by kernel_rfl) ?_
      simp only [Act.put, List.setIfInBounds_toArray, List.set_cons_zero, List.set_cons_succ]
      refine dw_val (by kernel_rfl) (.pointer (some ⟨n3, 0, none⟩)) (by kernel_rfl) ?_
      simp only [Act.put, List.setIfInBounds_toArray, List.set_cons_zero, List.set_cons_succ]
      refine dw_cell (by kernel_rfl) 9 (.tmp 34) rfl n3 0 rfl _ _ hBn3 (.string b) rfl _ Try.underlying9 rfl ?_
      simp only [Act.put, List.setIfInBounds_toArray, List.set_cons_zero, List.set_cons_succ]
      refine dw_val (by kernel_rfl) (.bool (bytesLess a.toList b.toList)) (by kernel_rfl) ?_
      simp only [Act.put, List.setIfInBounds_toArray, List.set_cons_zero, List.set_cons_succ]
      refine dw_val (by kernel_rfl) (.bool (bytesLess a.toList b.toList)) (by kernel_rfl) ?_
      simp only [Act.put, List.setIfInBounds_toArray, List.set_cons_zero, List.set_cons_succ]
      refine wl_nil ?_
      refine hK6 _ _ ?_
      refine wp_ret ?_
      repeat (first | with_reducible refine ret_then ?_ | with_reducible refine ret_block ?_)
      refine bodyPost_ret (v := .bool (bytesLess a.toList b.toList)) (by kernel_rfl) rfl ?_
      refine ⟨ret_bool ?_, hT0.toBelow⟩
      unfold lessE
      simp [Int.natCast_inj] at c5 c6
      simp [c5, c6]
    · skip
      refine wp_skip ?_
      refine hK2 _ _ ?_
      refine wp_seq_k fun K7 hK7 => ?_
      refine wl_region ?_
      refine dw_val (by kernel_rfl) (.pointer (some ⟨n1, 1, none⟩)) (by kernel_rfl) ?_
      simp only [Act.put, List.setIfInBounds_toArray, List.set_cons_zero, List.set_cons_succ]
      refine dw_cell (by kernel_rfl) 3 (.tmp 37) rfl n1 1 rfl _ _ hBn1 (.int .i64 p) rfl _ Try.underlying3 rfl ?_
      simp only [Act.put, List.setIfInBounds_toArray, List.set_cons_zero, List.set_cons_succ]
      refine dw_val (by kernel_rfl) (.pointer (some ⟨n3, 1, none⟩)) (by kernel_rfl) ?_
      simp only [Act.put, List.setIfInBounds_toArray, List.set_cons_zero, List.set_cons_succ]
      refine dw_cell (by kernel_rfl) 3 (.tmp 39) rfl n3 1 rfl _ _ hBn3 (.int .i64 q) rfl _ Try.underlying3 rfl ?_
      simp only [Act.put, List.setIfInBounds_toArray, List.set_cons_zero, List.set_cons_succ]
      refine dw_val (by kernel_rfl) (.bool (decide (p < q))) (by kernel_rfl) ?_
      simp only [Act.put, List.setIfInBounds_toArray, List.set_cons_zero, List.set_cons_succ]
      refine dw_val (by kernel_rfl) (.bool (decide (p < q))) (by kernel_rfl) ?_
      simp only [Act.put, List.setIfInBounds_toArray, List.set_cons_zero, List.set_cons_succ]
      refine wl_nil ?_
      refine hK7 _ _ ?_
      refine wp_ret ?_
      repeat (first | with_reducible refine ret_then ?_ | with_reducible refine ret_block ?_)
      refine bodyPost_ret (v := .bool (decide (p < q))) (by kernel_rfl) rfl ?_
      refine ⟨ret_bool ?_, hT0.toBelow⟩
      unfold lessE
      simp [Int.natCast_inj] at c5 c6
      simp [c5, c6]
set_option maxRecDepth 100000 in
set_option maxHeartbeats 4000000 in
theorem lessP_any (a b : Pr) (w : World) : Calls Try.prog 81 #[.agg #[.string a.lb, .int .i64 a.lp, .string a.hb, .int .i64 a.hp], .agg #[.string b.lb, .int .i64 b.lp, .string b.hb, .int .i64 b.hp]] w fun e w' => e = .returned (.bool (lessP a b)) ∧ Below w.heap.size w w' := by
  have hT0 := Touch.refl (fun _ => False) w
  go_enter Try.func81, Try.ntmps81
  refine wp_seq_k fun K1 hK1 => ?_
  refine wl_region ?_
  refine dw_new (by kernel_rfl) [(.string a.lb : Value), .int .i64 a.lp, .string a.hb, .int .i64 a.hp] 61 (by kernel_rfl) ?_
  intro n1 w2 hnn1 hsn1 hBn1 hTn1
  have hgen1 : w.heap.size ≤ n1 := by have := hT0.size; omega
  replace hT0 := hT0.trans hTn1 (fun _ _ h => h.elim)
  simp only [Act.put, List.setIfInBounds_toArray, List.set_cons_zero, List.set_cons_succ]
  refine dw_new (by kernel_rfl) [(.string b.lb : Value), .int .i64 b.lp, .string b.hb, .int .i64 b.hp] 61 (by kernel_rfl) ?_
  intro n3 w4 hnn3 hsn3 hBn3 hTn3
  have hnen1n3 : n1 ≠ n3 := by have := hBn1.lt; omega
  have hgen3 : w.heap.size ≤ n3 := by have := hT0.size; omega
  replace hBn1 := hBn1.keep hTn3 (fun h => h)
  replace hT0 := hT0.trans hTn3 (fun _ _ h => h.elim)
  simp only [Act.put, List.setIfInBounds_toArray, List.set_cons_zero, List.set_cons_succ]
  refine dw_val (by kernel_rfl) (.bool false) (by kernel_rfl) ?_
  simp only [Act.put, List.setIfInBounds_toArray, List.set_cons_zero, List.set_cons_succ]
  refine wl_nil ?_
  refine hK1 _ _ ?_
  refine wp_seq_k fun K2 hK2 => ?_
  refine wp_seq_k fun K3 hK3 => ?_
  refine wl_region ?_
  refine dw_val (by kernel_rfl) (.pointer (some ⟨n1, 0, none⟩)) (by kernel_rfl) ?_
  simp only [Act.put, List.setIfInBounds_toArray, List.set_cons_zero, List.set_cons_succ]
  refine dw_row (by kernel_rfl) 59 (.tmp 5) rfl n1 0 rfl _ _ hBn1 [(.string a.lb : Value), .int .i64 a.lp] rfl _ Try.underlying59 rfl (by kernel_rfl) ?_
  simp only [Act.put, List.setIfInBounds_toArray, List.set_cons_zero, List.set_cons_succ]
  refine dw_val (by kernel_rfl) (.pointer (some ⟨n3, 0, none⟩)) (by kernel_rfl) ?_
  simp only [Act.put, List.setIfInBounds_toArray, List.set_cons_zero, List.set_cons_succ]
  refine dw_row (by kernel_rfl) 59 (.tmp 7) rfl n3 0 rfl _ _ hBn3 [(.string b.lb : Value), .int .i64 b.lp] rfl _ Try.underlying59 rfl (by kernel_rfl) ?_
  simp only [Act.put, List.setIfInBounds_toArray, List.set_cons_zero, List.set_cons_succ]
  refine dw_val (by kernel_rfl) (.bool (!decide (a.lb = b.lb ∧ a.lp = b.lp))) (ev_neq59 (.tmp 6) (.tmp 8) rfl rfl rfl) ?_
  simp only [Act.put, List.setIfInBounds_toArray, List.set_cons_zero, List.set_cons_succ]
  refine wl_nil ?_
  refine hK3 _ _ ?_
  refine wp_cond_split (t := !decide (a.lb = b.lb ∧ a.lp = b.lp)) rfl (fun c5 => ?_) (fun c5 => ?_)
  · skip
    refine wp_seq_k fun K4 hK4 => ?_
    refine wl_region ?_
    refine dw_val (by kernel_rfl) (.pointer (some ⟨n1, 0, none⟩)) (by kernel_rfl) ?_
    simp only [Act.put, List.setIfInBounds_toArray, List.set_cons_zero, List.set_cons_succ]
    refine dw_row (by kernel_rfl) 59 (.tmp 10) rfl n1 0 rfl _ _ hBn1 [(.string a.lb : Value), .int .i64 a.lp] rfl _ Try.underlying59 rfl (by kernel_rfl) ?_
    simp only [Act.put, List.setIfInBounds_toArray, List.set_cons_zero, List.set_cons_succ]
    refine dw_val (by kernel_rfl) (.pointer (some ⟨n3, 0, none⟩)) (by kernel_rfl) ?_
    simp only [Act.put, List.setIfInBounds_toArray, List.set_cons_zero, List.set_cons_succ]
    refine dw_row (by kernel_rfl) 59 (.tmp 12) rfl n3 0 rfl _ _ hBn3 [(.string b.lb : Value), .int .i64 b.lp] rfl _ Try.underlying59 rfl (by kernel_rfl) ?_
    simp only [Act.put, List.setIfInBounds_toArray, List.set_cons_zero, List.set_cons_succ]
    refine dw_ret (by kernel_rfl) 91 #[(.agg #[(.string a.lb : Value), .int .i64 a.lp] : Value), .agg #[(.string b.lb : Value), .int .i64 b.lp]] (by kernel_rfl) (lessE_any a.lb a.lp b.lb b.lp w4) ?_
    intro w6 hb
    have ht7 : Touch (fun _ => False) w4 w6 := Touch.none hb
    replace hBn1 := hBn1.keep ht7 (fun h => h)
    replace hBn3 := hBn3.keep ht7 (fun h => h)
    replace hT0 := hT0.trans ht7 (fun _ _ h => h.elim)
    clear hb
    simp only [Act.put, List.setIfInBounds_toArray, List.set_cons_zero, List.set_cons_succ]
    refine dw_val (by kernel_rfl) (.bool (lessE a.lb a.lp b.lb b.lp)) (by kernel_rfl) ?_
    simp only [Act.put, List.setIfInBounds_toArray, List.set_cons_zero, List.set_cons_succ]
    refine wl_nil ?_
    refine hK4 _ _ ?_
    refine wp_ret ?_
    repeat (first | with_reducible refine ret_then ?_ | with_reducible refine ret_block ?_)
    refine bodyPost_ret (v := .bool (lessE a.lb a.lp b.lb b.lp)) (by kernel_rfl) rfl ?_
    refine ⟨ret_bool ?_, hT0.toBelow⟩
    unfold lessP
    rw [if_neg (by intro h; simp [h] at c5)]
  · skip
    refine wp_skip ?_
    refine hK2 _ _ ?_
    refine wp_seq_k fun K5 hK5 => ?_
    refine wl_region ?_
    refine dw_val (by kernel_rfl) (.pointer (some ⟨n1, 2, none⟩)) (by kernel_rfl) ?_
    simp only [Act.put, List.setIfInBounds_toArray, List.set_cons_zero, List.set_cons_succ]
    refine dw_row (by kernel_rfl) 59 (.tmp 15) rfl n1 2 rfl _ _ hBn1 [(.string a.hb : Value), .int .i64 a.hp] rfl _ Try.underlying59 rfl (by kernel_rfl) ?_
    simp only [Act.put, List.setIfInBounds_toArray, List.set_cons_zero, List.set_cons_succ]
    refine dw_val (by kernel_rfl) (.pointer (some ⟨n3, 2, none⟩)) (by kernel_rfl) ?_
    simp only [Act.put, List.setIfInBounds_toArray, List.set_cons_zero, List.set_cons_succ]
    refine dw_row (by kernel_rfl) 59 (.tmp 17) rfl n3 2 rfl _ _ hBn3 [(.string b.hb : Value), .int .i64 b.hp] rfl _ Try.underlying59 rfl (by kernel_rfl) ?_
    simp only [Act.put, List.setIfInBounds_toArray, List.set_cons_zero, List.set_cons_succ]
    refine dw_ret (by kernel_rfl) 91 #[(.agg #[(.string a.hb : Value), .int .i64 a.hp] : Value), .agg #[(.string b.hb : Value), .int .i64 b.hp]] (by kernel_rfl) (lessE_any a.hb a.hp b.hb b.hp w4) ?_
    intro w8 hb
    have ht9 : Touch (fun _ => False) w4 w8 := Touch.none hb
    replace hBn1 := hBn1.keep ht9 (fun h => h)
    replace hBn3 := hBn3.keep ht9 (fun h => h)
    replace hT0 := hT0.trans ht9 (fun _ _ h => h.elim)
    clear hb
    simp only [Act.put, List.setIfInBounds_toArray, List.set_cons_zero, List.set_cons_succ]
    refine dw_val (by kernel_rfl) (.bool (lessE a.hb a.hp b.hb b.hp)) (by kernel_rfl) ?_
    simp only [Act.put, List.setIfInBounds_toArray, List.set_cons_zero, List.set_cons_succ]
    refine wl_nil ?_
    refine hK5 _ _ ?_
    refine wp_ret ?_
    repeat (first | with_reducible refine ret_then ?_ | with_reducible refine ret_block ?_)
    refine bodyPost_ret (v := .bool (lessE a.hb a.hp b.hb b.hp)) (by kernel_rfl) rfl ?_
    refine ⟨ret_bool ?_, hT0.toBelow⟩
    unfold lessP
    rw [if_pos (by simpa using c5)]
set_option maxRecDepth 100000 in
set_option maxHeartbeats 4000000 in
theorem rlessE_ne (a : ByteArray) (p : Int) (b : ByteArray) (q : Int) (hb : a.size ≤ 100) (hsz : a.size ≠ b.size) (w : World) : Calls Try.prog 92 #[.agg #[.string a, .int .i64 p], .agg #[.string b, .int .i64 q]] w fun e w' => e = .returned (.bool (lessE a p b q)) ∧ Below w.heap.size w w' := by
  have hT0 := Touch.refl (fun _ => False) w
  go_enter Try.func92, Try.ntmps92
  refine wp_seq_k fun K1 hK1 => ?_
  refine wl_region ?_
  refine dw_new (by kernel_rfl) [(.string a : Value), .int .i64 p] 80 (by kernel_rfl) ?_
  intro n1 w2 hnn1 hsn1 hBn1 hTn1
  have hgen1 : w.heap.size ≤ n1 := by have := hT0.size; omega
  replace hT0 := hT0.trans hTn1 (fun _ _ h => h.elim)
  simp only [Act.put, List.setIfInBounds_toArray, List.set_cons_zero, List.set_cons_succ]
  refine dw_new (by kernel_rfl) [(.string b : Value), .int .i64 q] 80 (by kernel_rfl) ?_
  intro n3 w4 hnn3 hsn3 hBn3 hTn3
  have hnen1n3 : n1 ≠ n3 := by have := hBn1.lt; omega
  have hgen3 : w.heap.size ≤ n3 := by have := hT0.size; omega
  replace hBn1 := hBn1.keep hTn3 (fun h => h)
  replace hT0 := hT0.trans hTn3 (fun _ _ h => h.elim)
  simp only [Act.put, List.setIfInBounds_toArray, List.set_cons_zero, List.set_cons_succ]
  refine dw_val (by kernel_rfl) (.bool false) (by kernel_rfl) ?_
  simp only [Act.put, List.setIfInBounds_toArray, List.set_cons_zero, List.set_cons_succ]
  refine wl_nil ?_
  refine hK1 _ _ ?_
  refine wp_seq_k fun K2 hK2 => ?_
  refine wp_seq_k fun K3 hK3 => ?_
  refine wl_region ?_
  refine dw_val (by kernel_rfl) (.pointer (some ⟨n1, 0, none⟩)) (by kernel_rfl) ?_
  simp only [Act.put, List.setIfInBounds_toArray, List.set_cons_zero, List.set_cons_succ]
  refine dw_val (by kernel_rfl) (.pointer (some ⟨n1, 0, none⟩)) (by kernel_rfl) ?_
  simp only [Act.put, List.setIfInBounds_toArray, List.set_cons_zero, List.set_cons_succ]
  refine dw_cell (by kernel_rfl) 9 (.tmp 7) rfl n1 0 rfl _ _ hBn1 (.string a) rfl _ Try.underlying9 rfl ?_
  simp only [Act.put, List.setIfInBounds_toArray, List.set_cons_zero, List.set_cons_succ]
  refine dw_val (by kernel_rfl) (.int .i64 (a.size : Int)) (by kernel_rfl) ?_
  simp only [Act.put, List.setIfInBounds_toArray, List.set_cons_zero, List.set_cons_succ]
  refine dw_val (by kernel_rfl) (.pointer (some ⟨n3, 0, none⟩)) (by kernel_rfl) ?_
  simp only [Act.put, List.setIfInBounds_toArray, List.set_cons_zero, List.set_cons_succ]
  refine dw_val (by kernel_rfl) (.pointer (some ⟨n3, 0, none⟩)) (by kernel_rfl) ?_
  simp only [Act.put, List.setIfInBounds_toArray, List.set_cons_zero, List.set_cons_succ]
  refine dw_cell (by kernel_rfl) 9 (.tmp 11) rfl n3 0 rfl _ _ hBn3 (.string b) rfl _ Try.underlying9 rfl ?_
  simp only [Act.put, List.setIfInBounds_toArray, List.set_cons_zero, List.set_cons_succ]
  refine dw_val (by kernel_rfl) (.int .i64 (b.size : Int)) (by kernel_rfl) ?_
  simp only [Act.put, List.setIfInBounds_toArray, List.set_cons_zero, List.set_cons_succ]
  refine dw_bool (by kernel_rfl) ((a.size : Int) != (b.size : Int)) (by kernel_rfl) (fun hc => ?_) (fun hc => absurd hc (by simp; omega))
  simp only [Act.put, List.setIfInBounds_toArray, List.set_cons_zero, List.set_cons_succ]
  refine wl_nil ?_
  refine hK3 _ _ ?_
  refine wp_cond_true rfl ?_
  refine wp_seq_k fun K4 hK4 => ?_
  refine wl_region ?_
  refine dw_val (by kernel_rfl) (.pointer (some ⟨n1, 0, none⟩)) (by kernel_rfl) ?_
  simp only [Act.put, List.setIfInBounds_toArray, List.set_cons_zero, List.set_cons_succ]
  refine dw_val (by kernel_rfl) (.pointer (some ⟨n1, 0, none⟩)) (by kernel_rfl) ?_
  simp only [Act.put, List.setIfInBounds_toArray, List.set_cons_zero, List.set_cons_succ]
  refine dw_cell (by kernel_rfl) 9 (.tmp 16) rfl n1 0 rfl _ _ hBn1 (.string a) rfl _ Try.underlying9 rfl ?_
  simp only [Act.put, List.setIfInBounds_toArray, List.set_cons_zero, List.set_cons_succ]
  refine dw_val (by kernel_rfl) (.int .i64 (a.size : Int)) (by kernel_rfl) ?_
  simp only [Act.put, List.setIfInBounds_toArray, List.set_cons_zero, List.set_cons_succ]
  refine dw_val (by kernel_rfl) (.pointer (some ⟨n3, 0, none⟩)) (by kernel_rfl) ?_
  simp only [Act.put, List.setIfInBounds_toArray, List.set_cons_zero, List.set_cons_succ]
  refine dw_val (by kernel_rfl) (.pointer (some ⟨n3, 0, none⟩)) (by kernel_rfl) ?_
  simp only [Act.put, List.setIfInBounds_toArray, List.set_cons_zero, List.set_cons_succ]
  refine dw_cell (by kernel_rfl) 9 (.tmp 20) rfl n3 0 rfl _ _ hBn3 (.string b) rfl _ Try.underlying9 rfl ?_
  simp only [Act.put, List.setIfInBounds_toArray, List.set_cons_zero, List.set_cons_succ]
  refine dw_val (by kernel_rfl) (.int .i64 (b.size : Int)) (by kernel_rfl) ?_
  simp only [Act.put, List.setIfInBounds_toArray, List.set_cons_zero, List.set_cons_succ]
  refine dw_val (by kernel_rfl) (.bool (decide ((a.size : Int) < (b.size : Int)))) (by kernel_rfl) ?_
  simp only [Act.put, List.setIfInBounds_toArray, List.set_cons_zero, List.set_cons_succ]
  refine dw_val (by kernel_rfl) (.bool (decide ((a.size : Int) < (b.size : Int)))) (by kernel_rfl) ?_
  simp only [Act.put, List.setIfInBounds_toArray, List.set_cons_zero, List.set_cons_succ]
  refine wl_nil ?_
  refine hK4 _ _ ?_
  refine wp_ret ?_
  repeat (first | with_reducible refine ret_then ?_ | with_reducible refine ret_block ?_)
  refine bodyPost_ret (v := .bool (decide ((a.size : Int) < (b.size : Int)))) (by kernel_rfl) rfl ?_
  refine ⟨ret_bool ?_, hT0.toBelow⟩
  unfold lessE
  rw [if_pos hsz]; first | done | simp
set_option maxRecDepth 100000 in
set_option maxHeartbeats 4000000 in
theorem rlessE_eq (a : ByteArray) (p : Int) (b : ByteArray) (q : Int) (hb : a.size ≤ 100) (hsz : a.size = b.size) (w : World) : Calls Try.prog 92 #[.agg #[.string a, .int .i64 p], .agg #[.string b, .int .i64 q]] w fun e w' => e = .returned (.bool (lessE a p b q)) ∧ Below w.heap.size w w' := by
  have hT0 := Touch.refl (fun _ => False) w
  go_enter Try.func92, Try.ntmps92
  refine wp_seq_k fun K1 hK1 => ?_
  refine wl_region ?_
  refine dw_new (by kernel_rfl) [(.string a : Value), .int .i64 p] 80 (by kernel_rfl) ?_
  intro n1 w2 hnn1 hsn1 hBn1 hTn1
  have hgen1 : w.heap.size ≤ n1 := by have := hT0.size; omega
  replace hT0 := hT0.trans hTn1 (fun _ _ h => h.elim)
  simp only [Act.put, List.setIfInBounds_toArray, List.set_cons_zero, List.set_cons_succ]
  refine dw_new (by kernel_rfl) [(.string b : Value), .int .i64 q] 80 (by kernel_rfl) ?_
  intro n3 w4 hnn3 hsn3 hBn3 hTn3
  have hnen1n3 : n1 ≠ n3 := by have := hBn1.lt; omega
  have hgen3 : w.heap.size ≤ n3 := by have := hT0.size; omega
  replace hBn1 := hBn1.keep hTn3 (fun h => h)
  replace hT0 := hT0.trans hTn3 (fun _ _ h => h.elim)
  simp only [Act.put, List.setIfInBounds_toArray, List.set_cons_zero, List.set_cons_succ]
  refine dw_val (by kernel_rfl) (.bool false) (by kernel_rfl) ?_
  simp only [Act.put, List.setIfInBounds_toArray, List.set_cons_zero, List.set_cons_succ]
  refine wl_nil ?_
  refine hK1 _ _ ?_
  refine wp_seq_k fun K2 hK2 => ?_
  refine wp_seq_k fun K3 hK3 => ?_
  refine wl_region ?_
  refine dw_val (by kernel_rfl) (.pointer (some ⟨n1, 0, none⟩)) (by kernel_rfl) ?_
  simp only [Act.put, List.setIfInBounds_toArray, List.set_cons_zero, List.set_cons_succ]
  refine dw_val (by kernel_rfl) (.pointer (some ⟨n1, 0, none⟩)) (by kernel_rfl) ?_
  simp only [Act.put, List.setIfInBounds_toArray, List.set_cons_zero, List.set_cons_succ]
  refine dw_cell (by kernel_rfl) 9 (.tmp 7) rfl n1 0 rfl _ _ hBn1 (.string a) rfl _ Try.underlying9 rfl ?_
  simp only [Act.put, List.setIfInBounds_toArray, List.set_cons_zero, List.set_cons_succ]
  refine dw_val (by kernel_rfl) (.int .i64 (a.size : Int)) (by kernel_rfl) ?_
  simp only [Act.put, List.setIfInBounds_toArray, List.set_cons_zero, List.set_cons_succ]
  refine dw_val (by kernel_rfl) (.pointer (some ⟨n3, 0, none⟩)) (by kernel_rfl) ?_
  simp only [Act.put, List.setIfInBounds_toArray, List.set_cons_zero, List.set_cons_succ]
  refine dw_val (by kernel_rfl) (.pointer (some ⟨n3, 0, none⟩)) (by kernel_rfl) ?_
  simp only [Act.put, List.setIfInBounds_toArray, List.set_cons_zero, List.set_cons_succ]
  refine dw_cell (by kernel_rfl) 9 (.tmp 11) rfl n3 0 rfl _ _ hBn3 (.string b) rfl _ Try.underlying9 rfl ?_
  simp only [Act.put, List.setIfInBounds_toArray, List.set_cons_zero, List.set_cons_succ]
  refine dw_val (by kernel_rfl) (.int .i64 (b.size : Int)) (by kernel_rfl) ?_
  simp only [Act.put, List.setIfInBounds_toArray, List.set_cons_zero, List.set_cons_succ]
  refine dw_bool (by kernel_rfl) ((a.size : Int) != (b.size : Int)) (by kernel_rfl) (fun hc => absurd hc (by simp; omega)) (fun hc => ?_)
  simp only [Act.put, List.setIfInBounds_toArray, List.set_cons_zero, List.set_cons_succ]
  refine wl_nil ?_
  refine hK3 _ _ ?_
  refine wp_cond_false rfl ?_
  refine wp_skip ?_
  refine hK2 _ _ ?_
  refine wp_seq_k fun K4 hK4 => ?_
  refine wp_seq_k fun K5 hK5 => ?_
  refine wl_region ?_
  refine dw_val (by kernel_rfl) (.int .i64 0) (by kernel_rfl) ?_
  simp only [Act.put, List.setIfInBounds_toArray, List.set_cons_zero, List.set_cons_succ]
  refine wl_nil ?_
  refine hK5 _ _ ?_
  refine wp_block ?_
  refine wp_loop (fun (aL : Act) (wL : World) => ∃ (k : Nat), ∃ (u24_0 u25_0 u26_0 u27_0 u28_0 u29_0 u32_0 u33_0 u34_0 u35_0 u36_0 u37_0 u38_0 u39_0 u40_0 u41_0 u42_0 u43_0 u44_0 u45_0 u46_0 u47_0 u48_0 u49_0 u50_0 u51_0 u52_0 u53_0 u4_0 u30_0 u31_0 : Value), (k ≤ a.size) ∧ (∀ j, j < k → a.data.toList.getD j 0 = b.data.toList.getD j 0) ∧ Blk wL n1 [(.string a : Value), .int .i64 p] 80 ∧ Blk wL n3 [(.string b : Value), .int .i64 q] 80 ∧ Touch (fun _ => False) w wL ∧ aL = ⟨#[(.agg #[(.string a : Value), .int .i64 p] : Value), .agg #[(.string b : Value), .int .i64 q], .pointer (some ⟨n1, 0, none⟩), .pointer (some ⟨n3, 0, none⟩), u4_0, .int .i64 (k : Int), .pointer (some ⟨n1, 0, none⟩), .pointer (some ⟨n1, 0, none⟩), .string a, .int .i64 (a.size : Int), .pointer (some ⟨n3, 0, none⟩), .pointer (some ⟨n3, 0, none⟩), .string b, .int .i64 (b.size : Int), .bool false, undef, undef, undef, undef, undef, undef, undef, undef, undef, u24_0, u25_0, u26_0, u27_0, u28_0, u29_0, u30_0, u31_0, u32_0, u33_0, u34_0, u35_0, u36_0, u37_0, u38_0, u39_0, u40_0, u41_0, u42_0, u43_0, u44_0, u45_0, u46_0, u47_0, u48_0, u49_0, u50_0, u51_0, u52_0, u53_0, undef, undef, undef, undef, undef], []⟩) (fun (aL : Act) (wL : World) => a.size - (intOf (aL.tmps.getD 5 undef)).toNat) ?_ ?_
  · exact ⟨0, undef, undef, undef, undef, undef, undef, undef, undef, undef, undef, undef, undef, undef, undef, undef, undef, undef, undef, undef, undef, undef, undef, undef, undef, undef, undef, undef, undef, (.bool false), undef, undef, (Nat.zero_le _), (fun j h => by omega), hBn1, hBn3, hT0, rfl⟩
  · intro aL w5 hI
    clear hBn1 hBn3 hT0
    obtain ⟨k, u24_0, u25_0, u26_0, u27_0, u28_0, u29_0, u32_0, u33_0, u34_0, u35_0, u36_0, u37_0, u38_0, u39_0, u40_0, u41_0, u42_0, u43_0, u44_0, u45_0, u46_0, u47_0, u48_0, u49_0, u50_0, u51_0, u52_0, u53_0, u4_0, u30_0, u31_0, hk, hz, hBn1, hBn3, hT0, rfl⟩ := hI
    by_cases hlt : k < a.size
    · have hlb : k < b.size := by omega
      refine wp_seq_k fun K6 hK6 => ?_
      refine wp_seq_k fun K7 hK7 => ?_
      refine wl_region ?_
      refine dw_val (by kernel_rfl) (.int .i64 (k : Int)) (by kernel_rfl) ?_
      simp only [Act.put, List.setIfInBounds_toArray, List.set_cons_zero, List.set_cons_succ]
      refine dw_val (by kernel_rfl) (.pointer (some ⟨n1, 0, none⟩)) (by kernel_rfl) ?_
      simp only [Act.put, List.setIfInBounds_toArray, List.set_cons_zero, List.set_cons_succ]
      refine dw_val (by kernel_rfl) (.pointer (some ⟨n1, 0, none⟩)) (by kernel_rfl) ?_
      simp only [Act.put, List.setIfInBounds_toArray, List.set_cons_zero, List.set_cons_succ]
      refine dw_cell (by kernel_rfl) 9 (.tmp 26) rfl n1 0 rfl _ _ hBn1 (.string a) rfl _ Try.underlying9 rfl ?_
      simp only [Act.put, List.setIfInBounds_toArray, List.set_cons_zero, List.set_cons_succ]
      refine dw_val (by kernel_rfl) (.int .i64 (a.size : Int)) (by kernel_rfl) ?_
      simp only [Act.put, List.setIfInBounds_toArray, List.set_cons_zero, List.set_cons_succ]
      refine dw_bool (by kernel_rfl) (decide ((k : Int) < (a.size : Int))) (by kernel_rfl) (fun hc => ?_) (fun hc => absurd hc (by simp; omega))
      simp only [Act.put, List.setIfInBounds_toArray, List.set_cons_zero, List.set_cons_succ]
      refine wl_nil ?_
      refine hK7 _ _ ?_
      refine wp_cond_true rfl ?_
      refine wp_skip ?_
      refine hK6 _ _ ?_
      refine wp_seq_k fun K8 hK8 => ?_
      refine wp_block ?_
      refine wp_seq_k fun K9 hK9 => ?_
      refine wq_region (Touch (fun _ => False) w5) (by kernel_rfl) (by kernel_rfl) (Touch.refl _ _).drew ?_
      refine dq_val (by kernel_rfl) (.pointer (some ⟨n1, 0, none⟩)) (fun w' _ => by kernel_rfl) ?_
      simp only [Act.put, List.setIfInBounds_toArray, List.set_cons_zero, List.set_cons_succ]
      refine dq_val (by kernel_rfl) (.pointer (some ⟨n1, 0, none⟩)) (fun w' _ => by kernel_rfl) ?_
      simp only [Act.put, List.setIfInBounds_toArray, List.set_cons_zero, List.set_cons_succ]
      refine dq_val (by kernel_rfl) (.string a) (fun w' hC => ev_cell 9 (.tmp 33) rfl n1 0 rfl _ (((hBn1.keep hC (fun h => h)).cell 0).trans rfl) _ Try.underlying9 rfl) ?_
      simp only [Act.put, List.setIfInBounds_toArray, List.set_cons_zero, List.set_cons_succ]
      refine dq_val (by kernel_rfl) (.int .i64 (k : Int)) (fun w' _ => by kernel_rfl) ?_
      simp only [Act.put, List.setIfInBounds_toArray, List.set_cons_zero, List.set_cons_succ]
      refine dq_val (by kernel_rfl) (.int .u8 (((a.data.toList.getD k 0).toNat : Nat) : Int)) (fun w' _ => ev_str (.tmp 34) (.tmp 35) a k rfl rfl rfl hlt) ?_
      simp only [Act.put, List.setIfInBounds_toArray, List.set_cons_zero, List.set_cons_succ]
      refine dq_val (by kernel_rfl) (.pointer (some ⟨n3, 0, none⟩)) (fun w' _ => by kernel_rfl) ?_
      simp only [Act.put, List.setIfInBounds_toArray, List.set_cons_zero, List.set_cons_succ]
      refine dq_val (by kernel_rfl) (.pointer (some ⟨n3, 0, none⟩)) (fun w' _ => by kernel_rfl) ?_
      simp only [Act.put, List.setIfInBounds_toArray, List.set_cons_zero, List.set_cons_succ]
      refine dq_val (by kernel_rfl) (.string b) (fun w' hC => ev_cell 9 (.tmp 38) rfl n3 0 rfl _ (((hBn3.keep hC (fun h => h)).cell 0).trans rfl) _ Try.underlying9 rfl) ?_
      simp only [Act.put, List.setIfInBounds_toArray, List.set_cons_zero, List.set_cons_succ]
      refine dq_val (by kernel_rfl) (.int .i64 (k : Int)) (fun w' _ => by kernel_rfl) ?_
      simp only [Act.put, List.setIfInBounds_toArray, List.set_cons_zero, List.set_cons_succ]
      refine dq_val (by kernel_rfl) (.int .u8 (((b.data.toList.getD k 0).toNat : Nat) : Int)) (fun w' _ => ev_str (.tmp 39) (.tmp 40) b k rfl rfl rfl hlb) ?_
      simp only [Act.put, List.setIfInBounds_toArray, List.set_cons_zero, List.set_cons_succ]
      refine dq_val (by kernel_rfl) (.bool ((((a.data.toList.getD k 0).toNat : Nat) : Int) != (((b.data.toList.getD k 0).toNat : Nat) : Int))) (fun w' _ => by kernel_rfl) ?_
      simp only [Act.put, List.setIfInBounds_toArray, List.set_cons_zero, List.set_cons_succ]
      refine wq_nil ?_
      intro w6 hT7
      replace hBn1 := hBn1.keep hT7 (fun h => h)
      replace hBn3 := hBn3.keep hT7 (fun h => h)
      replace hT0 := hT0.trans hT7 (fun _ _ h => h.elim)
      refine hK9 _ _ ?_
      refine wp_cond_split (t := (((a.data.toList.getD k 0).toNat : Nat) : Int) != (((b.data.toList.getD k 0).toNat : Nat) : Int)) rfl (fun c8 => ?_) (fun c8 => ?_)
      · skip
        refine wp_seq_k fun K10 hK10 => ?_
        refine wq_region (Touch (fun _ => False) w6) (by kernel_rfl) (by kernel_rfl) (Touch.refl _ _).drew ?_
        refine dq_val (by kernel_rfl) (.pointer (some ⟨n1, 0, none⟩)) (fun w' _ => by kernel_rfl) ?_
        simp only [Act.put, List.setIfInBounds_toArray, List.set_cons_zero, List.set_cons_succ]
        refine dq_val (by kernel_rfl) (.pointer (some ⟨n1, 0, none⟩)) (fun w' _ => by kernel_rfl) ?_
        simp only [Act.put, List.setIfInBounds_toArray, List.set_cons_zero, List.set_cons_succ]
        refine dq_val (by kernel_rfl) (.string a) (fun w' hC => ev_cell 9 (.tmp 44) rfl n1 0 rfl _ (((hBn1.keep hC (fun h => h)).cell 0).trans rfl) _ Try.underlying9 rfl) ?_
        simp only [Act.put, List.setIfInBounds_toArray, List.set_cons_zero, List.set_cons_succ]
        refine dq_val (by kernel_rfl) (.int .i64 (k : Int)) (fun w' _ => by kernel_rfl) ?_
        simp only [Act.put, List.setIfInBounds_toArray, List.set_cons_zero, List.set_cons_succ]
        refine dq_val (by kernel_rfl) (.int .u8 (((a.data.toList.getD k 0).toNat : Nat) : Int)) (fun w' _ => ev_str (.tmp 45) (.tmp 46) a k rfl rfl rfl hlt) ?_
        simp only [Act.put, List.setIfInBounds_toArray, List.set_cons_zero, List.set_cons_succ]
        refine dq_val (by kernel_rfl) (.pointer (some ⟨n3, 0, none⟩)) (fun w' _ => by kernel_rfl) ?_
        simp only [Act.put, List.setIfInBounds_toArray, List.set_cons_zero, List.set_cons_succ]
        refine dq_val (by kernel_rfl) (.pointer (some ⟨n3, 0, none⟩)) (fun w' _ => by kernel_rfl) ?_
        simp only [Act.put, List.setIfInBounds_toArray, List.set_cons_zero, List.set_cons_succ]
        refine dq_val (by kernel_rfl) (.string b) (fun w' hC => ev_cell 9 (.tmp 49) rfl n3 0 rfl _ (((hBn3.keep hC (fun h => h)).cell 0).trans rfl) _ Try.underlying9 rfl) ?_
        simp only [Act.put, List.setIfInBounds_toArray, List.set_cons_zero, List.set_cons_succ]
        refine dq_val (by kernel_rfl) (.int .i64 (k : Int)) (fun w' _ => by kernel_rfl) ?_
        simp only [Act.put, List.setIfInBounds_toArray, List.set_cons_zero, List.set_cons_succ]
        refine dq_val (by kernel_rfl) (.int .u8 (((b.data.toList.getD k 0).toNat : Nat) : Int)) (fun w' _ => ev_str (.tmp 50) (.tmp 51) b k rfl rfl rfl hlb) ?_
        simp only [Act.put, List.setIfInBounds_toArray, List.set_cons_zero, List.set_cons_succ]
        refine dq_val (by kernel_rfl) (.bool (decide ((((a.data.toList.getD k 0).toNat : Nat) : Int) < (((b.data.toList.getD k 0).toNat : Nat) : Int)))) (fun w' _ => by kernel_rfl) ?_
        simp only [Act.put, List.setIfInBounds_toArray, List.set_cons_zero, List.set_cons_succ]
        refine dq_val (by kernel_rfl) (.bool (decide ((((a.data.toList.getD k 0).toNat : Nat) : Int) < (((b.data.toList.getD k 0).toNat : Nat) : Int)))) (fun w' _ => by kernel_rfl) ?_
        simp only [Act.put, List.setIfInBounds_toArray, List.set_cons_zero, List.set_cons_succ]
        refine wq_nil ?_
        intro w9 hT10
        replace hBn1 := hBn1.keep hT10 (fun h => h)
        replace hBn3 := hBn3.keep hT10 (fun h => h)
        replace hT0 := hT0.trans hT10 (fun _ _ h => h.elim)
        refine hK10 _ _ ?_
        refine wp_ret ?_
        repeat (first | with_reducible refine ret_then ?_ | with_reducible refine ret_block ?_)
        refine bodyPost_ret (v := .bool (decide ((((a.data.toList.getD k 0).toNat : Nat) : Int) < (((b.data.toList.getD k 0).toNat : Nat) : Int)))) (by kernel_rfl) rfl ?_
        refine ⟨ret_bool ?_, hT0.toBelow⟩
        unfold lessE
        have hne : a.data.toList.getD k 0 ≠ b.data.toList.getD k 0 := by intro h; rw [h] at c8; simp at c8
        have hab : a ≠ b := fun h => hne (by rw [h])
        rw [if_neg (by simp [hsz]), if_pos hab, ByteArray.toList_eq, ByteArray.toList_eq, bl_first _ _ k (by simpa using hsz) (by simpa using hlt) hz hne]
        first | done | simp
      · skip
        refine wp_skip ?_
        refine hK8 _ _ ?_
        refine wl_region ?_
        refine dw_val (by kernel_rfl) (.int .i64 (k : Int)) (by kernel_rfl) ?_
        simp only [Act.put, List.setIfInBounds_toArray, List.set_cons_zero, List.set_cons_succ]
        refine dw_val2 (by kernel_rfl) (.int .i64 (IntKind.i64.wrap ((k : Int) + 1))) (.int .i64 ((k + 1 : Nat) : Int)) (by kernel_rfl) (by rw [show IntKind.i64.wrap ((k : Int) + 1) = ((k + 1 : Nat) : Int) from by rw [IntWalk.i64_in _ (by omega)]; rfl]) ?_
        simp only [Act.put, List.setIfInBounds_toArray, List.set_cons_zero, List.set_cons_succ]
        refine dw_val (by kernel_rfl) (.int .i64 ((k + 1 : Nat) : Int)) (by kernel_rfl) ?_
        simp only [Act.put, List.setIfInBounds_toArray, List.set_cons_zero, List.set_cons_succ]
        refine wl_nil ?_
        refine then_normal ?_
        refine ⟨⟨(k + 1), (.int .i64 (k : Int)), (.pointer (some ⟨n1, 0, none⟩)), (.pointer (some ⟨n1, 0, none⟩)), (.string a), (.int .i64 (a.size : Int)), (.bool true), (.pointer (some ⟨n1, 0, none⟩)), (.pointer (some ⟨n1, 0, none⟩)), (.string a), (.int .i64 (k : Int)), (.int .u8 (((a.data.toList.getD k 0).toNat : Nat) : Int)), (.pointer (some ⟨n3, 0, none⟩)), (.pointer (some ⟨n3, 0, none⟩)), (.string b), (.int .i64 (k : Int)), (.int .u8 (((b.data.toList.getD k 0).toNat : Nat) : Int)), (.bool ((((a.data.toList.getD k 0).toNat : Nat) : Int) != (((b.data.toList.getD k 0).toNat : Nat) : Int))), u43_0, u44_0, u45_0, u46_0, u47_0, u48_0, u49_0, u50_0, u51_0, u52_0, u53_0, u4_0, (.int .i64 (k : Int)), (.int .i64 ((k + 1 : Nat) : Int)), (by omega), (fun j hj => if e : j = k then (by rw [e]; exact UInt8.toNat_inj.1 (by simpa only [bne_eq_false_iff_eq, Int.natCast_inj] using c8)) else hz j (by omega)), hBn1, hBn3, hT0, rfl⟩, ?_⟩
        simp [intOf]; omega
    · have hge : ¬ k < a.size := hlt
      refine wp_seq_k fun K11 hK11 => ?_
      refine wp_seq_k fun K12 hK12 => ?_
      refine wl_region ?_
      refine dw_val (by kernel_rfl) (.int .i64 (k : Int)) (by kernel_rfl) ?_
      simp only [Act.put, List.setIfInBounds_toArray, List.set_cons_zero, List.set_cons_succ]
      refine dw_val (by kernel_rfl) (.pointer (some ⟨n1, 0, none⟩)) (by kernel_rfl) ?_
      simp only [Act.put, List.setIfInBounds_toArray, List.set_cons_zero, List.set_cons_succ]
      refine dw_val (by kernel_rfl) (.pointer (some ⟨n1, 0, none⟩)) (by kernel_rfl) ?_
      simp only [Act.put, List.setIfInBounds_toArray, List.set_cons_zero, List.set_cons_succ]
      refine dw_cell (by kernel_rfl) 9 (.tmp 26) rfl n1 0 rfl _ _ hBn1 (.string a) rfl _ Try.underlying9 rfl ?_
      simp only [Act.put, List.setIfInBounds_toArray, List.set_cons_zero, List.set_cons_succ]
      refine dw_val (by kernel_rfl) (.int .i64 (a.size : Int)) (by kernel_rfl) ?_
      simp only [Act.put, List.setIfInBounds_toArray, List.set_cons_zero, List.set_cons_succ]
      refine dw_bool (by kernel_rfl) (decide ((k : Int) < (a.size : Int))) (by kernel_rfl) (fun hc => absurd hc (by simp; omega)) (fun hc => ?_)
      simp only [Act.put, List.setIfInBounds_toArray, List.set_cons_zero, List.set_cons_succ]
      refine wl_nil ?_
      refine hK12 _ _ ?_
      refine wp_cond_false rfl ?_
      refine wp_exit ?_
      refine hK4 _ _ ?_
      refine wp_seq_k fun K13 hK13 => ?_
      refine wl_region ?_
      refine dw_val (by kernel_rfl) (.pointer (some ⟨n1, 1, none⟩)) (by kernel_rfl) ?_
      simp only [Act.put, List.setIfInBounds_toArray, List.set_cons_zero, List.set_cons_succ]
      refine dw_cell (by kernel_rfl) 3 (.tmp 54) rfl n1 1 rfl _ _ hBn1 (.int .i64 p) rfl _ Try.underlying3 rfl ?_
      simp only [Act.put, List.setIfInBounds_toArray, List.set_cons_zero, List.set_cons_succ]
      refine dw_val (by kernel_rfl) (.pointer (some ⟨n3, 1, none⟩)) (by kernel_rfl) ?_
      simp only [Act.put, List.setIfInBounds_toArray, List.set_cons_zero, List.set_cons_succ]
      refine dw_cell (by kernel_rfl) 3 (.tmp 56) rfl n3 1 rfl _ _ hBn3 (.int .i64 q) rfl _ Try.underlying3 rfl ?_
      simp only [Act.put, List.setIfInBounds_toArray, List.set_cons_zero, List.set_cons_succ]
      refine dw_val (by kernel_rfl) (.bool (decide (p < q))) (by kernel_rfl) ?_
      simp only [Act.put, List.setIfInBounds_toArray, List.set_cons_zero, List.set_cons_succ]
      refine dw_val (by kernel_rfl) (.bool (decide (p < q))) (by kernel_rfl) ?_
      simp only [Act.put, List.setIfInBounds_toArray, List.set_cons_zero, List.set_cons_succ]
      refine wl_nil ?_
      refine hK13 _ _ ?_
      refine wp_ret ?_
      repeat (first | with_reducible refine ret_then ?_ | with_reducible refine ret_block ?_)
      refine bodyPost_ret (v := .bool (decide (p < q))) (by kernel_rfl) rfl ?_
      refine ⟨ret_bool ?_, hT0.toBelow⟩
      unfold lessE
      have hab : a = b := str_ext hsz (fun j hj => hz j (by omega))
      rw [if_neg (by simp [hsz]), if_neg (by simp [hab])]
theorem rlessE_any (a : ByteArray) (p : Int) (b : ByteArray) (q : Int) (hb : a.size ≤ 100) (w : World) : Calls Try.prog 92 #[.agg #[.string a, .int .i64 p], .agg #[.string b, .int .i64 q]] w fun e w' => e = .returned (.bool (lessE a p b q)) ∧ Below w.heap.size w w' := by
  by_cases h : a.size = b.size
  · exact rlessE_eq a p b q hb h w
  · exact rlessE_ne a p b q hb h w
set_option maxRecDepth 100000 in
set_option maxHeartbeats 4000000 in
theorem rlessP_any (a b : Pr) (h1 : a.lb.size ≤ 100) (h2 : a.hb.size ≤ 100) (w : World) : Calls Try.prog 82 #[.agg #[.string a.lb, .int .i64 a.lp, .string a.hb, .int .i64 a.hp], .agg #[.string b.lb, .int .i64 b.lp, .string b.hb, .int .i64 b.hp]] w fun e w' => e = .returned (.bool (lessP a b)) ∧ Below w.heap.size w w' := by
  have hT0 := Touch.refl (fun _ => False) w
  go_enter Try.func82, Try.ntmps82
  refine wp_seq_k fun K1 hK1 => ?_
  refine wl_region ?_
  refine dw_new (by kernel_rfl) [(.string a.lb : Value), .int .i64 a.lp, .string a.hb, .int .i64 a.hp] 82 (by kernel_rfl) ?_
  intro n1 w2 hnn1 hsn1 hBn1 hTn1
  have hgen1 : w.heap.size ≤ n1 := by have := hT0.size; omega
  replace hT0 := hT0.trans hTn1 (fun _ _ h => h.elim)
  simp only [Act.put, List.setIfInBounds_toArray, List.set_cons_zero, List.set_cons_succ]
  refine dw_new (by kernel_rfl) [(.string b.lb : Value), .int .i64 b.lp, .string b.hb, .int .i64 b.hp] 82 (by kernel_rfl) ?_
  intro n3 w4 hnn3 hsn3 hBn3 hTn3
  have hnen1n3 : n1 ≠ n3 := by have := hBn1.lt; omega
  have hgen3 : w.heap.size ≤ n3 := by have := hT0.size; omega
  replace hBn1 := hBn1.keep hTn3 (fun h => h)
  replace hT0 := hT0.trans hTn3 (fun _ _ h => h.elim)
  simp only [Act.put, List.setIfInBounds_toArray, List.set_cons_zero, List.set_cons_succ]
  refine dw_val (by kernel_rfl) (.bool false) (by kernel_rfl) ?_
  simp only [Act.put, List.setIfInBounds_toArray, List.set_cons_zero, List.set_cons_succ]
  refine wl_nil ?_
  refine hK1 _ _ ?_
  refine wp_seq_k fun K2 hK2 => ?_
  refine wp_seq_k fun K3 hK3 => ?_
  refine wl_region ?_
  refine dw_val (by kernel_rfl) (.pointer (some ⟨n1, 0, none⟩)) (by kernel_rfl) ?_
  simp only [Act.put, List.setIfInBounds_toArray, List.set_cons_zero, List.set_cons_succ]
  refine dw_row (by kernel_rfl) 80 (.tmp 5) rfl n1 0 rfl _ _ hBn1 [(.string a.lb : Value), .int .i64 a.lp] rfl _ Try.underlying80 rfl (by kernel_rfl) ?_
  simp only [Act.put, List.setIfInBounds_toArray, List.set_cons_zero, List.set_cons_succ]
  refine dw_val (by kernel_rfl) (.pointer (some ⟨n3, 0, none⟩)) (by kernel_rfl) ?_
  simp only [Act.put, List.setIfInBounds_toArray, List.set_cons_zero, List.set_cons_succ]
  refine dw_row (by kernel_rfl) 80 (.tmp 7) rfl n3 0 rfl _ _ hBn3 [(.string b.lb : Value), .int .i64 b.lp] rfl _ Try.underlying80 rfl (by kernel_rfl) ?_
  simp only [Act.put, List.setIfInBounds_toArray, List.set_cons_zero, List.set_cons_succ]
  refine dw_val (by kernel_rfl) (.bool (!decide (a.lb = b.lb ∧ a.lp = b.lp))) (ev_neq80 (.tmp 6) (.tmp 8) rfl rfl rfl) ?_
  simp only [Act.put, List.setIfInBounds_toArray, List.set_cons_zero, List.set_cons_succ]
  refine wl_nil ?_
  refine hK3 _ _ ?_
  refine wp_cond_split (t := !decide (a.lb = b.lb ∧ a.lp = b.lp)) rfl (fun c5 => ?_) (fun c5 => ?_)
  · skip
    refine wp_seq_k fun K4 hK4 => ?_
    refine wl_region ?_
    refine dw_val (by kernel_rfl) (.pointer (some ⟨n1, 0, none⟩)) (by kernel_rfl) ?_
    simp only [Act.put, List.setIfInBounds_toArray, List.set_cons_zero, List.set_cons_succ]
    refine dw_row (by kernel_rfl) 80 (.tmp 10) rfl n1 0 rfl _ _ hBn1 [(.string a.lb : Value), .int .i64 a.lp] rfl _ Try.underlying80 rfl (by kernel_rfl) ?_
    simp only [Act.put, List.setIfInBounds_toArray, List.set_cons_zero, List.set_cons_succ]
    refine dw_val (by kernel_rfl) (.pointer (some ⟨n3, 0, none⟩)) (by kernel_rfl) ?_
    simp only [Act.put, List.setIfInBounds_toArray, List.set_cons_zero, List.set_cons_succ]
    refine dw_row (by kernel_rfl) 80 (.tmp 12) rfl n3 0 rfl _ _ hBn3 [(.string b.lb : Value), .int .i64 b.lp] rfl _ Try.underlying80 rfl (by kernel_rfl) ?_
    simp only [Act.put, List.setIfInBounds_toArray, List.set_cons_zero, List.set_cons_succ]
    refine dw_ret (by kernel_rfl) 92 #[(.agg #[(.string a.lb : Value), .int .i64 a.lp] : Value), .agg #[(.string b.lb : Value), .int .i64 b.lp]] (by kernel_rfl) (rlessE_any a.lb a.lp b.lb b.lp (by assumption) w4) ?_
    intro w6 hb
    have ht7 : Touch (fun _ => False) w4 w6 := Touch.none hb
    replace hBn1 := hBn1.keep ht7 (fun h => h)
    replace hBn3 := hBn3.keep ht7 (fun h => h)
    replace hT0 := hT0.trans ht7 (fun _ _ h => h.elim)
    clear hb
    simp only [Act.put, List.setIfInBounds_toArray, List.set_cons_zero, List.set_cons_succ]
    refine dw_val (by kernel_rfl) (.bool (lessE a.lb a.lp b.lb b.lp)) (by kernel_rfl) ?_
    simp only [Act.put, List.setIfInBounds_toArray, List.set_cons_zero, List.set_cons_succ]
    refine wl_nil ?_
    refine hK4 _ _ ?_
    refine wp_ret ?_
    repeat (first | with_reducible refine ret_then ?_ | with_reducible refine ret_block ?_)
    refine bodyPost_ret (v := .bool (lessE a.lb a.lp b.lb b.lp)) (by kernel_rfl) rfl ?_
    refine ⟨ret_bool ?_, hT0.toBelow⟩
    unfold lessP
    rw [if_neg (by intro h; simp [h] at c5)]
  · skip
    refine wp_skip ?_
    refine hK2 _ _ ?_
    refine wp_seq_k fun K5 hK5 => ?_
    refine wl_region ?_
    refine dw_val (by kernel_rfl) (.pointer (some ⟨n1, 2, none⟩)) (by kernel_rfl) ?_
    simp only [Act.put, List.setIfInBounds_toArray, List.set_cons_zero, List.set_cons_succ]
    refine dw_row (by kernel_rfl) 80 (.tmp 15) rfl n1 2 rfl _ _ hBn1 [(.string a.hb : Value), .int .i64 a.hp] rfl _ Try.underlying80 rfl (by kernel_rfl) ?_
    simp only [Act.put, List.setIfInBounds_toArray, List.set_cons_zero, List.set_cons_succ]
    refine dw_val (by kernel_rfl) (.pointer (some ⟨n3, 2, none⟩)) (by kernel_rfl) ?_
    simp only [Act.put, List.setIfInBounds_toArray, List.set_cons_zero, List.set_cons_succ]
    refine dw_row (by kernel_rfl) 80 (.tmp 17) rfl n3 2 rfl _ _ hBn3 [(.string b.hb : Value), .int .i64 b.hp] rfl _ Try.underlying80 rfl (by kernel_rfl) ?_
    simp only [Act.put, List.setIfInBounds_toArray, List.set_cons_zero, List.set_cons_succ]
    refine dw_ret (by kernel_rfl) 92 #[(.agg #[(.string a.hb : Value), .int .i64 a.hp] : Value), .agg #[(.string b.hb : Value), .int .i64 b.hp]] (by kernel_rfl) (rlessE_any a.hb a.hp b.hb b.hp (by assumption) w4) ?_
    intro w8 hb
    have ht9 : Touch (fun _ => False) w4 w8 := Touch.none hb
    replace hBn1 := hBn1.keep ht9 (fun h => h)
    replace hBn3 := hBn3.keep ht9 (fun h => h)
    replace hT0 := hT0.trans ht9 (fun _ _ h => h.elim)
    clear hb
    simp only [Act.put, List.setIfInBounds_toArray, List.set_cons_zero, List.set_cons_succ]
    refine dw_val (by kernel_rfl) (.bool (lessE a.hb a.hp b.hb b.hp)) (by kernel_rfl) ?_
    simp only [Act.put, List.setIfInBounds_toArray, List.set_cons_zero, List.set_cons_succ]
    refine wl_nil ?_
    refine hK5 _ _ ?_
    refine wp_ret ?_
    repeat (first | with_reducible refine ret_then ?_ | with_reducible refine ret_block ?_)
    refine bodyPost_ret (v := .bool (lessE a.hb a.hp b.hb b.hp)) (by kernel_rfl) rfl ?_
    refine ⟨ret_bool ?_, hT0.toBelow⟩
    unfold lessP
    rw [if_pos (by simpa using c5)]
set_option maxRecDepth 100000 in
set_option maxHeartbeats 4000000 in
theorem plain_any (p : Pr) (w : World) : Calls Try.prog 45 #[.agg #[.string p.lb, .int .i64 p.lp, .string p.hb, .int .i64 p.hp]] w fun e w' => e = .returned (.agg #[.string p.lb, .int .i64 p.lp, .string p.hb, .int .i64 p.hp]) ∧ Below w.heap.size w w' := by
  have hT0 := Touch.refl (fun _ => False) w
  go_enter Try.func45, Try.ntmps45
  refine wp_seq_k fun K1 hK1 => ?_
  refine wl_region ?_
  refine dw_new (by kernel_rfl) [(.string p.lb : Value), .int .i64 p.lp, .string p.hb, .int .i64 p.hp] 61 (by kernel_rfl) ?_
  intro n1 w2 hnn1 hsn1 hBn1 hTn1
  have hgen1 : w.heap.size ≤ n1 := by have := hT0.size; omega
  replace hT0 := hT0.trans hTn1 (fun _ _ h => h.elim)
  simp only [Act.put, List.setIfInBounds_toArray, List.set_cons_zero, List.set_cons_succ]
  refine dw_new (by kernel_rfl) [(.string ⟨#[]⟩ : Value), .int .i64 0, .string ⟨#[]⟩, .int .i64 0] 82 (by kernel_rfl) ?_
  intro n3 w4 hnn3 hsn3 hBn3 hTn3
  have hnen1n3 : n1 ≠ n3 := by have := hBn1.lt; omega
  have hgen3 : w.heap.size ≤ n3 := by have := hT0.size; omega
  replace hBn1 := hBn1.keep hTn3 (fun h => h)
  replace hT0 := hT0.trans hTn3 (fun _ _ h => h.elim)
  simp only [Act.put, List.setIfInBounds_toArray, List.set_cons_zero, List.set_cons_succ]
  refine wl_nil ?_
  refine hK1 _ _ ?_
  refine wp_seq_k fun K2 hK2 => ?_
  refine wl_region ?_
  refine dw_val (by kernel_rfl) (.pointer (some ⟨n1, 0, none⟩)) (by kernel_rfl) ?_
  simp only [Act.put, List.setIfInBounds_toArray, List.set_cons_zero, List.set_cons_succ]
  refine dw_val (by kernel_rfl) (.pointer (some ⟨n1, 0, none⟩)) (by kernel_rfl) ?_
  simp only [Act.put, List.setIfInBounds_toArray, List.set_cons_zero, List.set_cons_succ]
  refine dw_row (by kernel_rfl) 57 (.tmp 4) rfl n1 0 rfl _ _ hBn1 [(.string p.lb : Value)] rfl _ Try.underlying57 rfl (by kernel_rfl) ?_
  simp only [Act.put, List.setIfInBounds_toArray, List.set_cons_zero, List.set_cons_succ]
  refine dw_val (by kernel_rfl) (.pointer (some ⟨n1, 0, none⟩)) (by kernel_rfl) ?_
  simp only [Act.put, List.setIfInBounds_toArray, List.set_cons_zero, List.set_cons_succ]
  refine dw_val (by kernel_rfl) (.pointer (some ⟨n1, 1, none⟩)) (by kernel_rfl) ?_
  simp only [Act.put, List.setIfInBounds_toArray, List.set_cons_zero, List.set_cons_succ]
  refine dw_cell (by kernel_rfl) 3 (.tmp 7) rfl n1 1 rfl _ _ hBn1 (.int .i64 p.lp) rfl _ Try.underlying3 rfl ?_
  simp only [Act.put, List.setIfInBounds_toArray, List.set_cons_zero, List.set_cons_succ]
  refine dw_val (by kernel_rfl) (.agg #[(.string p.lb : Value), .int .i64 p.lp]) (by kernel_rfl) ?_
  simp only [Act.put, List.setIfInBounds_toArray, List.set_cons_zero, List.set_cons_succ]
  refine dw_val (by kernel_rfl) (.pointer (some ⟨n1, 2, none⟩)) (by kernel_rfl) ?_
  simp only [Act.put, List.setIfInBounds_toArray, List.set_cons_zero, List.set_cons_succ]
  refine dw_val (by kernel_rfl) (.pointer (some ⟨n1, 2, none⟩)) (by kernel_rfl) ?_
  simp only [Act.put, List.setIfInBounds_toArray, List.set_cons_zero, List.set_cons_succ]
  refine dw_row (by kernel_rfl) 57 (.tmp 11) rfl n1 2 rfl _ _ hBn1 [(.string p.hb : Value)] rfl _ Try.underlying57 rfl (by kernel_rfl) ?_
  simp only [Act.put, List.setIfInBounds_toArray, List.set_cons_zero, List.set_cons_succ]
  refine dw_val (by kernel_rfl) (.pointer (some ⟨n1, 2, none⟩)) (by kernel_rfl) ?_
  simp only [Act.put, List.setIfInBounds_toArray, List.set_cons_zero, List.set_cons_succ]
  refine dw_val (by kernel_rfl) (.pointer (some ⟨n1, 3, none⟩)) (by kernel_rfl) ?_
  simp only [Act.put, List.setIfInBounds_toArray, List.set_cons_zero, List.set_cons_succ]
  refine dw_cell (by kernel_rfl) 3 (.tmp 14) rfl n1 3 rfl _ _ hBn1 (.int .i64 p.hp) rfl _ Try.underlying3 rfl ?_
  simp only [Act.put, List.setIfInBounds_toArray, List.set_cons_zero, List.set_cons_succ]
  refine dw_val (by kernel_rfl) (.agg #[(.string p.hb : Value), .int .i64 p.hp]) (by kernel_rfl) ?_
  simp only [Act.put, List.setIfInBounds_toArray, List.set_cons_zero, List.set_cons_succ]
  refine dw_val (by kernel_rfl) (.agg #[(.string p.lb : Value), .int .i64 p.lp, .string p.hb, .int .i64 p.hp]) (by kernel_rfl) ?_
  simp only [Act.put, List.setIfInBounds_toArray, List.set_cons_zero, List.set_cons_succ]
  refine dw_put (by kernel_rfl) 82 (.tmp 2) (.tmp 17) rfl n3 0 rfl (.agg #[(.string p.lb : Value), .int .i64 p.lp, .string p.hb, .int .i64 p.hp]) rfl _ _ hBn3 [(.string p.lb : Value), .int .i64 p.lp, .string p.hb, .int .i64 p.hp] rfl (Nat.le_of_ble_eq_true rfl) (by kernel_rfl) (by kernel_rfl) [(.string p.lb : Value), .int .i64 p.lp, .string p.hb, .int .i64 p.hp] rfl ?_
  intro w5 hBw5_ hTw5 hSw5
  replace hBn1 := hBn1.keep hTw5 (by intro h; omega)
  replace hT0 := hT0.trans hTw5 (fun i hi h => by first | omega | (subst h; omega) | exact h | exact .inl h | exact .inr h)
  clear hBn3
  have hBn3 := hBw5_
  clear hBw5_
  simp only [Act.put]
  refine wl_nil ?_
  refine hK2 _ _ ?_
  refine wp_ret ?_
  repeat (first | with_reducible refine ret_then ?_ | with_reducible refine ret_block ?_)
  refine bodyPost_ret (v := .agg #[(.string p.lb : Value), .int .i64 p.lp, .string p.hb, .int .i64 p.hp]) (results_cell_row rfl _ _ n3 82 #[(.string p.lb : Value), .int .i64 p.lp, .string p.hb, .int .i64 p.hp] (0, 0) _ rfl hBn3 Try.underlying82 rfl (by kernel_rfl)) rfl ?_
  exact ⟨rfl, hT0.toBelow⟩
def shortB (p : Pr) : Bool := decide (p.lb.size ≤ 100 ∧ p.hb.size ≤ 100)
set_option maxRecDepth 100000 in
set_option maxHeartbeats 4000000 in
theorem short_any (p : Pr) (w : World) : Calls Try.prog 34 #[.agg #[.string p.lb, .int .i64 p.lp, .string p.hb, .int .i64 p.hp]] w fun e w' => e = .returned (.bool (shortB p)) ∧ Below w.heap.size w w' := by
  have hT0 := Touch.refl (fun _ => False) w
  go_enter Try.func34, Try.ntmps34
  refine wp_seq_k fun K1 hK1 => ?_
  refine wl_region ?_
  refine dw_new (by kernel_rfl) [(.string p.lb : Value), .int .i64 p.lp, .string p.hb, .int .i64 p.hp] 61 (by kernel_rfl) ?_
  intro n1 w2 hnn1 hsn1 hBn1 hTn1
  have hgen1 : w.heap.size ≤ n1 := by have := hT0.size; omega
  replace hT0 := hT0.trans hTn1 (fun _ _ h => h.elim)
  simp only [Act.put, List.setIfInBounds_toArray, List.set_cons_zero, List.set_cons_succ]
  refine dw_val (by kernel_rfl) (.bool false) (by kernel_rfl) ?_
  simp only [Act.put, List.setIfInBounds_toArray, List.set_cons_zero, List.set_cons_succ]
  refine wl_nil ?_
  refine hK1 _ _ ?_
  refine wp_seq_k fun K2 hK2 => ?_
  refine wl_region ?_
  refine dw_val (by kernel_rfl) (.pointer (some ⟨n1, 0, none⟩)) (by kernel_rfl) ?_
  simp only [Act.put, List.setIfInBounds_toArray, List.set_cons_zero, List.set_cons_succ]
  refine dw_val (by kernel_rfl) (.pointer (some ⟨n1, 0, none⟩)) (by kernel_rfl) ?_
  simp only [Act.put, List.setIfInBounds_toArray, List.set_cons_zero, List.set_cons_succ]
  refine dw_val (by kernel_rfl) (.pointer (some ⟨n1, 0, none⟩)) (by kernel_rfl) ?_
  simp only [Act.put, List.setIfInBounds_toArray, List.set_cons_zero, List.set_cons_succ]
  refine dw_cell (by kernel_rfl) 9 (.tmp 5) rfl n1 0 rfl _ _ hBn1 (.string p.lb) rfl _ Try.underlying9 rfl ?_
  simp only [Act.put, List.setIfInBounds_toArray, List.set_cons_zero, List.set_cons_succ]
  refine dw_val (by kernel_rfl) (.int .i64 (p.lb.size : Int)) (by kernel_rfl) ?_
  simp only [Act.put, List.setIfInBounds_toArray, List.set_cons_zero, List.set_cons_succ]
  refine dw_val (by kernel_rfl) (.bool (decide ((p.lb.size : Int) ≤ 100))) (by kernel_rfl) ?_
  simp only [Act.put, List.setIfInBounds_toArray, List.set_cons_zero, List.set_cons_succ]
  refine dw_bool (by kernel_rfl) (decide ((p.lb.size : Int) ≤ 100)) (by kernel_rfl) (fun c3 => ?_) (fun c3 => ?_)
  · skip
    replace c3 := of_decide_eq_true c3
    simp only [Act.put, List.setIfInBounds_toArray, List.set_cons_zero, List.set_cons_succ]
    refine dw_val (by kernel_rfl) (.pointer (some ⟨n1, 2, none⟩)) (by kernel_rfl) ?_
    simp only [Act.put, List.setIfInBounds_toArray, List.set_cons_zero, List.set_cons_succ]
    refine dw_val (by kernel_rfl) (.pointer (some ⟨n1, 2, none⟩)) (by kernel_rfl) ?_
    simp only [Act.put, List.setIfInBounds_toArray, List.set_cons_zero, List.set_cons_succ]
    refine dw_val (by kernel_rfl) (.pointer (some ⟨n1, 2, none⟩)) (by kernel_rfl) ?_
    simp only [Act.put, List.setIfInBounds_toArray, List.set_cons_zero, List.set_cons_succ]
    refine dw_cell (by kernel_rfl) 9 (.tmp 12) rfl n1 2 rfl _ _ hBn1 (.string p.hb) rfl _ Try.underlying9 rfl ?_
    simp only [Act.put, List.setIfInBounds_toArray, List.set_cons_zero, List.set_cons_succ]
    refine dw_val (by kernel_rfl) (.int .i64 (p.hb.size : Int)) (by kernel_rfl) ?_
    simp only [Act.put, List.setIfInBounds_toArray, List.set_cons_zero, List.set_cons_succ]
    refine dw_val (by kernel_rfl) (.bool (decide ((p.hb.size : Int) ≤ 100))) (by kernel_rfl) ?_
    simp only [Act.put, List.setIfInBounds_toArray, List.set_cons_zero, List.set_cons_succ]
    refine dw_val (by kernel_rfl) (.bool (decide ((p.hb.size : Int) ≤ 100))) (by kernel_rfl) ?_
    simp only [Act.put, List.setIfInBounds_toArray, List.set_cons_zero, List.set_cons_succ]
    refine dw_val (by kernel_rfl) (.bool (decide ((p.hb.size : Int) ≤ 100))) (by kernel_rfl) ?_
    simp only [Act.put, List.setIfInBounds_toArray, List.set_cons_zero, List.set_cons_succ]
    refine wl_nil ?_
    refine hK2 _ _ ?_
    refine wp_ret ?_
    repeat (first | with_reducible refine ret_then ?_ | with_reducible refine ret_block ?_)
    refine bodyPost_ret (v := .bool (decide ((p.hb.size : Int) ≤ 100))) (by kernel_rfl) rfl ?_
    refine ⟨ret_bool ?_, hT0.toBelow⟩
    unfold shortB
    first | (rw [Bool.eq_iff_iff]; simp; omega) | (simp; omega)
  · skip
    replace c3 := of_decide_eq_false c3
    simp only [Act.put, List.setIfInBounds_toArray, List.set_cons_zero, List.set_cons_succ]
    refine dw_no (by kernel_rfl) ?_
    simp only [Act.put, List.setIfInBounds_toArray, List.set_cons_zero, List.set_cons_succ]
    refine dw_no (by kernel_rfl) ?_
    simp only [Act.put, List.setIfInBounds_toArray, List.set_cons_zero, List.set_cons_succ]
    refine dw_no (by kernel_rfl) ?_
    simp only [Act.put, List.setIfInBounds_toArray, List.set_cons_zero, List.set_cons_succ]
    refine dw_no (by kernel_rfl) ?_
    simp only [Act.put, List.setIfInBounds_toArray, List.set_cons_zero, List.set_cons_succ]
    refine dw_no (by kernel_rfl) ?_
    simp only [Act.put, List.setIfInBounds_toArray, List.set_cons_zero, List.set_cons_succ]
    refine dw_no (by kernel_rfl) ?_
    simp only [Act.put, List.setIfInBounds_toArray, List.set_cons_zero, List.set_cons_succ]
    refine dw_val (by kernel_rfl) (.bool false) (by kernel_rfl) ?_
    simp only [Act.put, List.setIfInBounds_toArray, List.set_cons_zero, List.set_cons_succ]
    refine dw_val (by kernel_rfl) (.bool false) (by kernel_rfl) ?_
    simp only [Act.put, List.setIfInBounds_toArray, List.set_cons_zero, List.set_cons_succ]
    refine wl_nil ?_
    refine hK2 _ _ ?_
    refine wp_ret ?_
    repeat (first | with_reducible refine ret_then ?_ | with_reducible refine ret_block ?_)
    refine bodyPost_ret (v := .bool false) (by kernel_rfl) rfl ?_
    refine ⟨ret_bool ?_, hT0.toBelow⟩
    unfold shortB
    first | (rw [Bool.eq_iff_iff]; simp; omega) | (simp; omega)
def pairP (p q : Int) : Pr := ⟨⟨#[10, 0, 0, 1]⟩, p, ⟨#[10, 0, 0, 1]⟩, q⟩
set_option maxRecDepth 100000 in
set_option maxHeartbeats 4000000 in
theorem pair_any (p q : Int) (w : World) : Calls Try.prog 41 #[.int .i64 p, .int .i64 q] w fun e w' => e = .returned (.agg #[.string ((pairP p q).lb), .int .i64 ((pairP p q).lp), .string ((pairP p q).hb), .int .i64 ((pairP p q).hp)]) ∧ Below w.heap.size w w' := by
  have hT0 := Touch.refl (fun _ => False) w
  go_enter Try.func41, Try.ntmps41
  refine wp_seq_k fun K1 hK1 => ?_
  refine wl_region ?_
  refine dw_new (by kernel_rfl) [(.string ⟨#[]⟩ : Value), .int .i64 0, .string ⟨#[]⟩, .int .i64 0] 61 (by kernel_rfl) ?_
  intro n1 w2 hnn1 hsn1 hBn1 hTn1
  have hgen1 : w.heap.size ≤ n1 := by have := hT0.size; omega
  replace hT0 := hT0.trans hTn1 (fun _ _ h => h.elim)
  simp only [Act.put, List.setIfInBounds_toArray, List.set_cons_zero, List.set_cons_succ]
  refine wl_nil ?_
  refine hK1 _ _ ?_
  refine wp_seq_k fun K2 hK2 => ?_
  refine wl_region ?_
  refine dw_val (by kernel_rfl) (.agg #[(.string ⟨#[10, 0, 0, 1]⟩ : Value)]) (by kernel_rfl) ?_
  simp only [Act.put, List.setIfInBounds_toArray, List.set_cons_zero, List.set_cons_succ]
  refine dw_new (by kernel_rfl) [(.string ⟨#[]⟩ : Value)] 57 (by kernel_rfl) ?_
  intro n3 w4 hnn3 hsn3 hBn3 hTn3
  have hnen1n3 : n1 ≠ n3 := by have := hBn1.lt; omega
  have hgen3 : w.heap.size ≤ n3 := by have := hT0.size; omega
  replace hBn1 := hBn1.keep hTn3 (fun h => h)
  replace hT0 := hT0.trans hTn3 (fun _ _ h => h.elim)
  simp only [Act.put, List.setIfInBounds_toArray, List.set_cons_zero, List.set_cons_succ]
  refine dw_put (by kernel_rfl) 57 (.tmp 5) (.tmp 6) rfl n3 0 rfl (.agg #[(.string ⟨#[10, 0, 0, 1]⟩ : Value)]) rfl _ _ hBn3 [(.string ⟨#[10, 0, 0, 1]⟩ : Value)] rfl (Nat.le_of_ble_eq_true rfl) (by kernel_rfl) (by kernel_rfl) [(.string ⟨#[10, 0, 0, 1]⟩ : Value)] rfl ?_
  intro w5 hBw5_ hTw5 hSw5
  replace hBn1 := hBn1.keep hTw5 (by intro h; omega)
  replace hT0 := hT0.trans hTw5 (fun i hi h => by first | omega | (subst h; omega) | exact h | exact .inl h | exact .inr h)
  clear hBn3
  have hBn3 := hBw5_
  clear hBw5_
  simp only [Act.put]
  refine wl_nil ?_
  refine hK2 _ _ ?_
  refine wp_seq_k fun K3 hK3 => ?_
  refine wl_region ?_
  refine dw_row (by kernel_rfl) 57 (.tmp 5) rfl n3 0 rfl _ _ hBn3 [(.string ⟨#[10, 0, 0, 1]⟩ : Value)] rfl _ Try.underlying57 rfl (by kernel_rfl) ?_
  simp only [Act.put, List.setIfInBounds_toArray, List.set_cons_zero, List.set_cons_succ]
  refine dw_val (by kernel_rfl) (.int .i64 p) (by kernel_rfl) ?_
  simp only [Act.put, List.setIfInBounds_toArray, List.set_cons_zero, List.set_cons_succ]
  refine dw_val (by kernel_rfl) (.agg #[(.string ⟨#[10, 0, 0, 1]⟩ : Value), .int .i64 p]) (by kernel_rfl) ?_
  simp only [Act.put, List.setIfInBounds_toArray, List.set_cons_zero, List.set_cons_succ]
  refine dw_row (by kernel_rfl) 57 (.tmp 5) rfl n3 0 rfl _ _ hBn3 [(.string ⟨#[10, 0, 0, 1]⟩ : Value)] rfl _ Try.underlying57 rfl (by kernel_rfl) ?_
  simp only [Act.put, List.setIfInBounds_toArray, List.set_cons_zero, List.set_cons_succ]
  refine dw_val (by kernel_rfl) (.int .i64 q) (by kernel_rfl) ?_
  simp only [Act.put, List.setIfInBounds_toArray, List.set_cons_zero, List.set_cons_succ]
  refine dw_val (by kernel_rfl) (.agg #[(.string ⟨#[10, 0, 0, 1]⟩ : Value), .int .i64 q]) (by kernel_rfl) ?_
  simp only [Act.put, List.setIfInBounds_toArray, List.set_cons_zero, List.set_cons_succ]
  refine dw_val (by kernel_rfl) (.agg #[(.string ⟨#[10, 0, 0, 1]⟩ : Value), .int .i64 p, .string ⟨#[10, 0, 0, 1]⟩, .int .i64 q]) (by kernel_rfl) ?_
  simp only [Act.put, List.setIfInBounds_toArray, List.set_cons_zero, List.set_cons_succ]
  refine dw_put (by kernel_rfl) 61 (.tmp 4) (.tmp 13) rfl n1 0 rfl (.agg #[(.string ⟨#[10, 0, 0, 1]⟩ : Value), .int .i64 p, .string ⟨#[10, 0, 0, 1]⟩, .int .i64 q]) rfl _ _ hBn1 [(.string ⟨#[10, 0, 0, 1]⟩ : Value), .int .i64 p, .string ⟨#[10, 0, 0, 1]⟩, .int .i64 q] rfl (Nat.le_of_ble_eq_true rfl) (by kernel_rfl) (by kernel_rfl) [(.string ⟨#[10, 0, 0, 1]⟩ : Value), .int .i64 p, .string ⟨#[10, 0, 0, 1]⟩, .int .i64 q] rfl ?_
  intro w6 hBw6_ hTw6 hSw6
  replace hBn3 := hBn3.keep hTw6 (by intro h; omega)
  replace hT0 := hT0.trans hTw6 (fun i hi h => by first | omega | (subst h; omega) | exact h | exact .inl h | exact .inr h)
  clear hBn1
  have hBn1 := hBw6_
  clear hBw6_
  simp only [Act.put]
  refine wl_nil ?_
  refine hK3 _ _ ?_
  refine wp_ret ?_
  repeat (first | with_reducible refine ret_then ?_ | with_reducible refine ret_block ?_)
  refine bodyPost_ret (v := .agg #[(.string ⟨#[10, 0, 0, 1]⟩ : Value), .int .i64 p, .string ⟨#[10, 0, 0, 1]⟩, .int .i64 q]) (results_cell_row rfl _ _ n1 61 #[(.string ⟨#[10, 0, 0, 1]⟩ : Value), .int .i64 p, .string ⟨#[10, 0, 0, 1]⟩, .int .i64 q] (0, 0) _ rfl hBn1 Try.underlying61 rfl (by kernel_rfl)) rfl ?_
  exact ⟨rfl, hT0.toBelow⟩
end Go.Proofs.Ytnjbclcihhaddaa
