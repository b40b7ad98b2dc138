/- TableNil: for every pair the law answers true. -/
import Derived.Test.YtnjbclcihhaddaaXK
import Derived.Test.YtnjbclcihhaddaaFlat
set_option linter.unusedVariables false
set_option linter.unusedSimpArgs false
namespace Go.Proofs.Ytnjbclcihhaddaa
open Go.RowKit Go.Op
set_option maxRecDepth 100000
theorem leaf_int {v : Value} (h : leafOk Try.prog 3 v) : ∃ n, v = .int .i64 n := by
  unfold leafOk at h; rw [Try.underlying3] at h; obtain ⟨n, h, _⟩ := h; exact ⟨n, h⟩
theorem leaf_str {v : Value} (h : leafOk Try.prog 9 v) : ∃ s, v = .string s := by
  unfold leafOk at h; rw [Try.underlying9] at h; obtain ⟨n, h, _⟩ := h; exact ⟨n, h⟩
theorem leaves61 : leavesAt Try.prog 9 61 = [(0, 9), (1, 3), (2, 9), (3, 3)] := by decide +kernel
theorem size61 : Try.prog.cellsOf 61 = 4 := by decide +kernel
theorem arr_of {cs : Array Value} {l : List Value} (hn : cs.size = l.length) (h : ∀ (j : Nat) (v : Value), l[j]? = some v → cs.toList[j]? = some v) : cs = l.toArray := by
  apply Array.ext'
  apply List.ext_getElem?
  intro j
  by_cases hj : j < l.length
  · rw [h j l[j] (List.getElem?_eq_getElem hj)]; simp [hj]
  · rw [List.getElem?_eq_none (by simp; omega), List.getElem?_eq_none (by simp; omega)]
theorem pr_of {f : Nat → Option Value} (h : ∀ o ty, (o, ty) ∈ leavesAt Try.prog 9 61 → ∃ v, f o = some v ∧ leafOk Try.prog ty v) : ∃ r : Pr, ∀ j v, r.cs[j]? = some v → f j = some v := by
  rw [leaves61] at h
  obtain ⟨v0, h0, l0⟩ := h 0 9 (by simp)
  obtain ⟨v1, h1, l1⟩ := h 1 3 (by simp)
  obtain ⟨v2, h2, l2⟩ := h 2 9 (by simp)
  obtain ⟨v3, h3, l3⟩ := h 3 3 (by simp)
  obtain ⟨x0, rfl⟩ := leaf_str l0
  obtain ⟨x1, rfl⟩ := leaf_int l1
  obtain ⟨x2, rfl⟩ := leaf_str l2
  obtain ⟨x3, rfl⟩ := leaf_int l3
  refine ⟨⟨x0, x1, x2, x3⟩, fun j v hj => ?_⟩
  have hl : j < 4 := (List.getElem?_eq_some_iff.1 hj).1
  match j, hl with
  | 0, _ => rw [h0]; exact hj
  | 1, _ => rw [h1]; exact hj
  | 2, _ => rw [h2]; exact hj
  | 3, _ => rw [h3]; exact hj
  | n + 4, h => exact absurd h (by omega)
theorem pr_agg {cs : Array Value} (hn : cs.size = Try.prog.cellsOf 61) (h : ∀ o ty, (o, ty) ∈ leavesAt Try.prog 9 61 → ∃ v, cs.toList[o]? = some v ∧ leafOk Try.prog ty v) : ∃ r : Pr, cs = r.cs.toArray := by
  obtain ⟨r, hr⟩ := pr_of (f := fun o => cs.toList[o]?) h
  exact ⟨r, arr_of (by rw [hn, size61]; rfl) hr⟩
set_option maxRecDepth 100000 in
set_option maxHeartbeats 4000000 in
theorem tableNil_walk {w : World} (cs0 : Array Value) (n0 : cs0.size = Try.prog.cellsOf 61) (w0 : ∀ o ty, (o, ty) ∈ leavesAt Try.prog 9 61 → ∃ v, cs0.toList[o]? = some v ∧ leafOk Try.prog ty v) :
    Calls Try.prog 11 #[.agg cs0] w fun e w' => e = .returned (.bool true) ∧ Below w.heap.size w w' := by
  obtain ⟨p, rfl⟩ := pr_agg n0 w0
  clear n0 w0
  have hT0 := Touch.refl (fun _ => False) w
  go_enter Try.func11, Try.ntmps11
  refine wp_seq_k fun K1 hK1 => ?_
  refine wl_region ?_
  refine dw_new (by kernel_rfl) [(.string p.lb : Value), .int .i64 p.lp, .string p.hb, .int .i64 p.hp] 61 (by kernel_rfl) ?_
  intro n1 w2 hnn1 hsn1 hBn1 hTn1
  have hgen1 : w.heap.size ≤ n1 := by have := hT0.size; omega
  replace hT0 := hT0.trans hTn1 (fun _ _ h => h.elim)
  simp only [Act.put, List.setIfInBounds_toArray, List.set_cons_zero, List.set_cons_succ]
  refine dw_val (by kernel_rfl) (.bool false) (by kernel_rfl) ?_
  simp only [Act.put, List.setIfInBounds_toArray, List.set_cons_zero, List.set_cons_succ]
  refine wl_nil ?_
  refine hK1 _ _ ?_
  refine wp_seq_k fun K2 hK2 => ?_
  refine wl_region ?_
  refine dw_val (by kernel_rfl) (.pointer none) (by kernel_rfl) ?_
  simp only [Act.put, List.setIfInBounds_toArray, List.set_cons_zero, List.set_cons_succ]
  refine wl_nil ?_
  refine hK2 _ _ ?_
  refine wp_seq_k fun K3 hK3 => ?_
  refine wl_region ?_
  refine dw_val (by kernel_rfl) (.agg #[(.slice none 0 0 : Value), .int .i64 0, .int .i64 0, .int .i64 0]) (by kernel_rfl) ?_
  simp only [Act.put, List.setIfInBounds_toArray, List.set_cons_zero, List.set_cons_succ]
  refine dw_new (by kernel_rfl) [(.slice none 0 0 : Value), .int .i64 0, .int .i64 0, .int .i64 0] 95 (by kernel_rfl) ?_
  intro n3 w4 hnn3 hsn3 hBn3 hTn3
  have hnen1n3 : n1 ≠ n3 := by have := hBn1.lt; omega
  have hgen3 : w.heap.size ≤ n3 := by have := hT0.size; omega
  replace hBn1 := hBn1.keep hTn3 (fun h => h)
  replace hT0 := hT0.trans hTn3 (fun _ _ h => h.elim)
  simp only [Act.put, List.setIfInBounds_toArray, List.set_cons_zero, List.set_cons_succ]
  refine dw_val (by kernel_rfl) (.pointer (some ⟨n3, 0, none⟩)) (by kernel_rfl) ?_
  simp only [Act.put, List.setIfInBounds_toArray, List.set_cons_zero, List.set_cons_succ]
  refine wl_nil ?_
  refine hK3 _ _ ?_
  refine wp_seq_k fun K4 hK4 => ?_
  refine wp_seq_k fun K5 hK5 => ?_
  refine wl_region ?_
  refine dw_row (by kernel_rfl) 61 (.tmp 1) rfl n1 0 rfl _ _ hBn1 [(.string p.lb : Value), .int .i64 p.lp, .string p.hb, .int .i64 p.hp] rfl _ Try.underlying61 rfl (by kernel_rfl) ?_
  simp only [Act.put, List.setIfInBounds_toArray, List.set_cons_zero, List.set_cons_succ]
  refine dw_ret (by kernel_rfl) 34 #[(.agg #[(.string p.lb : Value), .int .i64 p.lp, .string p.hb, .int .i64 p.hp] : Value)] (by kernel_rfl) (short_any p w4) ?_
  intro w5 hb
  have ht6 : Touch (fun _ => False) w4 w5 := Touch.none hb
  replace hBn1 := hBn1.keep ht6 (fun h => h)
  replace hBn3 := hBn3.keep ht6 (fun h => h)
  replace hT0 := hT0.trans ht6 (fun _ _ h => h.elim)
  clear hb
  simp only [Act.put, List.setIfInBounds_toArray, List.set_cons_zero, List.set_cons_succ]
  refine dw_val (by kernel_rfl) (.bool (!(shortB p))) (by kernel_rfl) ?_
  simp only [Act.put, List.setIfInBounds_toArray, List.set_cons_zero, List.set_cons_succ]
  refine wl_nil ?_
  refine hK5 _ _ ?_
  refine wp_cond_split (t := !(shortB p)) rfl (fun c7 => ?_) (fun c7 => ?_)
  · skip
    refine wp_seq_k fun K6 hK6 => ?_
    refine wl_region ?_
    refine dw_ret (by kernel_rfl) 35 #[] (by kernel_rfl) (tknown_any w5) ?_
    intro w8 hb
    have ht9 : Touch (fun _ => False) w5 w8 := Touch.none hb
    replace hBn1 := hBn1.keep ht9 (fun h => h)
    replace hBn3 := hBn3.keep ht9 (fun h => h)
    replace hT0 := hT0.trans ht9 (fun _ _ h => h.elim)
    clear hb
    simp only [Act.put, List.setIfInBounds_toArray, List.set_cons_zero, List.set_cons_succ]
    refine dw_val (by kernel_rfl) (.bool true) (by kernel_rfl) ?_
    simp only [Act.put, List.setIfInBounds_toArray, List.set_cons_zero, List.set_cons_succ]
    refine wl_nil ?_
    refine hK6 _ _ ?_
    refine wp_ret ?_
    repeat (first | with_reducible refine ret_then ?_ | with_reducible refine ret_block ?_)
    refine bodyPost_ret (v := .bool true) (by kernel_rfl) rfl ?_
    exact ⟨rfl, hT0.toBelow⟩
  · skip
    refine wp_skip ?_
    refine hK4 _ _ ?_
    refine wp_seq_k fun K7 hK7 => ?_
    refine wl_region ?_
    refine dw_val (by kernel_rfl) (.pointer none) (by kernel_rfl) ?_
    simp only [Act.put, List.setIfInBounds_toArray, List.set_cons_zero, List.set_cons_succ]
    refine dw_row (by kernel_rfl) 61 (.tmp 1) rfl n1 0 rfl _ _ hBn1 [(.string p.lb : Value), .int .i64 p.lp, .string p.hb, .int .i64 p.hp] rfl _ Try.underlying61 rfl (by kernel_rfl) ?_
    simp only [Act.put, List.setIfInBounds_toArray, List.set_cons_zero, List.set_cons_succ]
    refine dw_ret (by kernel_rfl) 39 #[(.pointer none : Value), .agg #[(.string p.lb : Value), .int .i64 p.lp, .string p.hb, .int .i64 p.hp]] (by kernel_rfl) (get_nil p w5) ?_
    intro w10 hb
    have ht11 : Touch (fun _ => False) w5 w10 := Touch.none hb
    replace hBn1 := hBn1.keep ht11 (fun h => h)
    replace hBn3 := hBn3.keep ht11 (fun h => h)
    replace hT0 := hT0.trans ht11 (fun _ _ h => h.elim)
    clear hb
    simp only [Act.put, List.setIfInBounds_toArray, List.set_cons_zero, List.set_cons_succ]
    refine dw_val (by kernel_rfl) (.tuple #[(.int .i64 0 : Value), .bool false]) (by kernel_rfl) ?_
    simp only [Act.put, List.setIfInBounds_toArray, List.set_cons_zero, List.set_cons_succ]
    refine dw_val (by kernel_rfl) (.int .i64 0) (by kernel_rfl) ?_
    simp only [Act.put, List.setIfInBounds_toArray, List.set_cons_zero, List.set_cons_succ]
    refine dw_val (by kernel_rfl) (.bool false) (by kernel_rfl) ?_
    simp only [Act.put, List.setIfInBounds_toArray, List.set_cons_zero, List.set_cons_succ]
    refine dw_val (by kernel_rfl) (.int .i64 0) (by kernel_rfl) ?_
    simp only [Act.put, List.setIfInBounds_toArray, List.set_cons_zero, List.set_cons_succ]
    refine dw_val (by kernel_rfl) (.bool false) (by kernel_rfl) ?_
    simp only [Act.put, List.setIfInBounds_toArray, List.set_cons_zero, List.set_cons_succ]
    refine wl_nil ?_
    refine hK7 _ _ ?_
    refine wp_seq_k fun K8 hK8 => ?_
    refine wl_region ?_
    refine dw_val (by kernel_rfl) (.pointer (some ⟨n3, 0, none⟩)) (by kernel_rfl) ?_
    simp only [Act.put, List.setIfInBounds_toArray, List.set_cons_zero, List.set_cons_succ]
    refine dw_row (by kernel_rfl) 61 (.tmp 1) rfl n1 0 rfl _ _ hBn1 [(.string p.lb : Value), .int .i64 p.lp, .string p.hb, .int .i64 p.hp] rfl _ Try.underlying61 rfl (by kernel_rfl) ?_
    simp only [Act.put, List.setIfInBounds_toArray, List.set_cons_zero, List.set_cons_succ]
    refine dw_ret (by kernel_rfl) 39 #[(.pointer (some ⟨n3, 0, none⟩) : Value), .agg #[(.string p.lb : Value), .int .i64 p.lp, .string p.hb, .int .i64 p.hp]] (by kernel_rfl) (get_zero n3 p w10 hBn3) ?_
    intro w12 hb
    have ht13 : Touch (fun _ => False) w10 w12 := Touch.none hb
    replace hBn1 := hBn1.keep ht13 (fun h => h)
    replace hBn3 := hBn3.keep ht13 (fun h => h)
    replace hT0 := hT0.trans ht13 (fun _ _ h => h.elim)
    clear hb
    simp only [Act.put, List.setIfInBounds_toArray, List.set_cons_zero, List.set_cons_succ]
    refine dw_val (by kernel_rfl) (.tuple #[(.int .i64 0 : Value), .bool false]) (by kernel_rfl) ?_
    simp only [Act.put, List.setIfInBounds_toArray, List.set_cons_zero, List.set_cons_succ]
    refine dw_val (by kernel_rfl) (.int .i64 0) (by kernel_rfl) ?_
    simp only [Act.put, List.setIfInBounds_toArray, List.set_cons_zero, List.set_cons_succ]
    refine dw_val (by kernel_rfl) (.bool false) (by kernel_rfl) ?_
    simp only [Act.put, List.setIfInBounds_toArray, List.set_cons_zero, List.set_cons_succ]
    refine dw_val (by kernel_rfl) (.int .i64 0) (by kernel_rfl) ?_
    simp only [Act.put, List.setIfInBounds_toArray, List.set_cons_zero, List.set_cons_succ]
    refine dw_val (by kernel_rfl) (.bool false) (by kernel_rfl) ?_
    simp only [Act.put, List.setIfInBounds_toArray, List.set_cons_zero, List.set_cons_succ]
    refine wl_nil ?_
    refine hK8 _ _ ?_
    refine wp_seq_k fun K9 hK9 => ?_
    refine wl_region ?_
    refine dw_val (by kernel_rfl) (.pointer none) (by kernel_rfl) ?_
    simp only [Act.put, List.setIfInBounds_toArray, List.set_cons_zero, List.set_cons_succ]
    refine dw_row (by kernel_rfl) 61 (.tmp 1) rfl n1 0 rfl _ _ hBn1 [(.string p.lb : Value), .int .i64 p.lp, .string p.hb, .int .i64 p.hp] rfl _ Try.underlying61 rfl (by kernel_rfl) ?_
    simp only [Act.put, List.setIfInBounds_toArray, List.set_cons_zero, List.set_cons_succ]
    refine dw_ret (by kernel_rfl) 36 #[(.pointer none : Value), .agg #[(.string p.lb : Value), .int .i64 p.lp, .string p.hb, .int .i64 p.hp], .int .i64 1] (by kernel_rfl) (put_nil p 1 w12) ?_
    intro w14 hb
    have ht15 : Touch (fun _ => False) w12 w14 := Touch.none hb
    replace hBn1 := hBn1.keep ht15 (fun h => h)
    replace hBn3 := hBn3.keep ht15 (fun h => h)
    replace hT0 := hT0.trans ht15 (fun _ _ h => h.elim)
    clear hb
    simp only [Act.put, List.setIfInBounds_toArray, List.set_cons_zero, List.set_cons_succ]
    refine dw_val (by kernel_rfl) (.bool true) (by kernel_rfl) ?_
    simp only [Act.put, List.setIfInBounds_toArray, List.set_cons_zero, List.set_cons_succ]
    refine dw_val (by kernel_rfl) (.bool true) (by kernel_rfl) ?_
    simp only [Act.put, List.setIfInBounds_toArray, List.set_cons_zero, List.set_cons_succ]
    refine dw_val (by kernel_rfl) (.pointer (some ⟨n3, 0, none⟩)) (by kernel_rfl) ?_
    simp only [Act.put, List.setIfInBounds_toArray, List.set_cons_zero, List.set_cons_succ]
    refine dw_row (by kernel_rfl) 61 (.tmp 1) rfl n1 0 rfl _ _ hBn1 [(.string p.lb : Value), .int .i64 p.lp, .string p.hb, .int .i64 p.hp] rfl _ Try.underlying61 rfl (by kernel_rfl) ?_
    simp only [Act.put, List.setIfInBounds_toArray, List.set_cons_zero, List.set_cons_succ]
    refine dw_ret (by kernel_rfl) 36 #[(.pointer (some ⟨n3, 0, none⟩) : Value), .agg #[(.string p.lb : Value), .int .i64 p.lp, .string p.hb, .int .i64 p.hp], .int .i64 1] (by kernel_rfl) (put_zero n3 p 1 w14 hBn3) ?_
    intro w16 hb
    have ht17 : Touch (fun _ => False) w14 w16 := Touch.none hb
    replace hBn1 := hBn1.keep ht17 (fun h => h)
    replace hBn3 := hBn3.keep ht17 (fun h => h)
    replace hT0 := hT0.trans ht17 (fun _ _ h => h.elim)
    clear hb
    simp only [Act.put, List.setIfInBounds_toArray, List.set_cons_zero, List.set_cons_succ]
    refine dw_val (by kernel_rfl) (.bool true) (by kernel_rfl) ?_
    simp only [Act.put, List.setIfInBounds_toArray, List.set_cons_zero, List.set_cons_succ]
    refine dw_val (by kernel_rfl) (.bool true) (by kernel_rfl) ?_
    simp only [Act.put, List.setIfInBounds_toArray, List.set_cons_zero, List.set_cons_succ]
    refine dw_val (by kernel_rfl) (.bool true) (by kernel_rfl) ?_
    simp only [Act.put, List.setIfInBounds_toArray, List.set_cons_zero, List.set_cons_succ]
    refine dw_val (by kernel_rfl) (.bool false) (by kernel_rfl) ?_
    simp only [Act.put, List.setIfInBounds_toArray, List.set_cons_zero, List.set_cons_succ]
    refine dw_val (by kernel_rfl) (.bool true) (by kernel_rfl) ?_
    simp only [Act.put, List.setIfInBounds_toArray, List.set_cons_zero, List.set_cons_succ]
    refine dw_val (by kernel_rfl) (.bool true) (by kernel_rfl) ?_
    simp only [Act.put, List.setIfInBounds_toArray, List.set_cons_zero, List.set_cons_succ]
    refine dw_val (by kernel_rfl) (.bool true) (by kernel_rfl) ?_
    simp only [Act.put, List.setIfInBounds_toArray, List.set_cons_zero, List.set_cons_succ]
    refine dw_val (by kernel_rfl) (.bool false) (by kernel_rfl) ?_
    simp only [Act.put, List.setIfInBounds_toArray, List.set_cons_zero, List.set_cons_succ]
    refine dw_val (by kernel_rfl) (.bool true) (by kernel_rfl) ?_
    simp only [Act.put, List.setIfInBounds_toArray, List.set_cons_zero, List.set_cons_succ]
    refine dw_val (by kernel_rfl) (.bool true) (by kernel_rfl) ?_
    simp only [Act.put, List.setIfInBounds_toArray, List.set_cons_zero, List.set_cons_succ]
    refine dw_val (by kernel_rfl) (.bool true) (by kernel_rfl) ?_
    simp only [Act.put, List.setIfInBounds_toArray, List.set_cons_zero, List.set_cons_succ]
    refine dw_val (by kernel_rfl) (.pointer none) (by kernel_rfl) ?_
    simp only [Act.put, List.setIfInBounds_toArray, List.set_cons_zero, List.set_cons_succ]
    refine dw_row (by kernel_rfl) 61 (.tmp 1) rfl n1 0 rfl _ _ hBn1 [(.string p.lb : Value), .int .i64 p.lp, .string p.hb, .int .i64 p.hp] rfl _ Try.underlying61 rfl (by kernel_rfl) ?_
    simp only [Act.put, List.setIfInBounds_toArray, List.set_cons_zero, List.set_cons_succ]
    refine dw_ret (by kernel_rfl) 38 #[(.pointer none : Value), .agg #[(.string p.lb : Value), .int .i64 p.lp, .string p.hb, .int .i64 p.hp]] (by kernel_rfl) (drop_nil p w16) ?_
    intro w18 hb
    have ht19 : Touch (fun _ => False) w16 w18 := Touch.none hb
    replace hBn1 := hBn1.keep ht19 (fun h => h)
    replace hBn3 := hBn3.keep ht19 (fun h => h)
    replace hT0 := hT0.trans ht19 (fun _ _ h => h.elim)
    clear hb
    simp only [Act.put, List.setIfInBounds_toArray, List.set_cons_zero, List.set_cons_succ]
    refine dw_val (by kernel_rfl) (.bool true) (by kernel_rfl) ?_
    simp only [Act.put, List.setIfInBounds_toArray, List.set_cons_zero, List.set_cons_succ]
    refine dw_val (by kernel_rfl) (.bool true) (by kernel_rfl) ?_
    simp only [Act.put, List.setIfInBounds_toArray, List.set_cons_zero, List.set_cons_succ]
    refine dw_val (by kernel_rfl) (.bool true) (by kernel_rfl) ?_
    simp only [Act.put, List.setIfInBounds_toArray, List.set_cons_zero, List.set_cons_succ]
    refine dw_val (by kernel_rfl) (.pointer (some ⟨n3, 0, none⟩)) (by kernel_rfl) ?_
    simp only [Act.put, List.setIfInBounds_toArray, List.set_cons_zero, List.set_cons_succ]
    refine dw_row (by kernel_rfl) 61 (.tmp 1) rfl n1 0 rfl _ _ hBn1 [(.string p.lb : Value), .int .i64 p.lp, .string p.hb, .int .i64 p.hp] rfl _ Try.underlying61 rfl (by kernel_rfl) ?_
    simp only [Act.put, List.setIfInBounds_toArray, List.set_cons_zero, List.set_cons_succ]
    refine dw_ret (by kernel_rfl) 38 #[(.pointer (some ⟨n3, 0, none⟩) : Value), .agg #[(.string p.lb : Value), .int .i64 p.lp, .string p.hb, .int .i64 p.hp]] (by kernel_rfl) (drop_zero n3 p w18 hBn3) ?_
    intro w20 hb
    have ht21 : Touch (fun _ => False) w18 w20 := Touch.none hb
    replace hBn1 := hBn1.keep ht21 (fun h => h)
    replace hBn3 := hBn3.keep ht21 (fun h => h)
    replace hT0 := hT0.trans ht21 (fun _ _ h => h.elim)
    clear hb
    simp only [Act.put, List.setIfInBounds_toArray, List.set_cons_zero, List.set_cons_succ]
    refine dw_val (by kernel_rfl) (.bool true) (by kernel_rfl) ?_
    simp only [Act.put, List.setIfInBounds_toArray, List.set_cons_zero, List.set_cons_succ]
    refine dw_val (by kernel_rfl) (.bool true) (by kernel_rfl) ?_
    simp only [Act.put, List.setIfInBounds_toArray, List.set_cons_zero, List.set_cons_succ]
    refine dw_val (by kernel_rfl) (.bool true) (by kernel_rfl) ?_
    simp only [Act.put, List.setIfInBounds_toArray, List.set_cons_zero, List.set_cons_succ]
    refine dw_val (by kernel_rfl) (.pointer none) (by kernel_rfl) ?_
    simp only [Act.put, List.setIfInBounds_toArray, List.set_cons_zero, List.set_cons_succ]
    refine dw_ret (by kernel_rfl) 37 #[(.pointer none : Value)] (by kernel_rfl) (len_nil w20) ?_
    intro w22 hb
    have ht23 : Touch (fun _ => False) w20 w22 := Touch.none hb
    replace hBn1 := hBn1.keep ht23 (fun h => h)
    replace hBn3 := hBn3.keep ht23 (fun h => h)
    replace hT0 := hT0.trans ht23 (fun _ _ h => h.elim)
    clear hb
    simp only [Act.put, List.setIfInBounds_toArray, List.set_cons_zero, List.set_cons_succ]
    refine dw_val (by kernel_rfl) (.bool true) (by kernel_rfl) ?_
    simp only [Act.put, List.setIfInBounds_toArray, List.set_cons_zero, List.set_cons_succ]
    refine dw_val (by kernel_rfl) (.bool true) (by kernel_rfl) ?_
    simp only [Act.put, List.setIfInBounds_toArray, List.set_cons_zero, List.set_cons_succ]
    refine dw_val (by kernel_rfl) (.bool true) (by kernel_rfl) ?_
    simp only [Act.put, List.setIfInBounds_toArray, List.set_cons_zero, List.set_cons_succ]
    refine dw_val (by kernel_rfl) (.pointer (some ⟨n3, 0, none⟩)) (by kernel_rfl) ?_
    simp only [Act.put, List.setIfInBounds_toArray, List.set_cons_zero, List.set_cons_succ]
    refine dw_ret (by kernel_rfl) 40 #[(.pointer (some ⟨n3, 0, none⟩) : Value)] (by kernel_rfl) (room_zero n3 w22 hBn3) ?_
    intro w24 hb
    have ht25 : Touch (fun _ => False) w22 w24 := Touch.none hb
    replace hBn1 := hBn1.keep ht25 (fun h => h)
    replace hBn3 := hBn3.keep ht25 (fun h => h)
    replace hT0 := hT0.trans ht25 (fun _ _ h => h.elim)
    clear hb
    simp only [Act.put, List.setIfInBounds_toArray, List.set_cons_zero, List.set_cons_succ]
    refine dw_val (by kernel_rfl) (.bool true) (by kernel_rfl) ?_
    simp only [Act.put, List.setIfInBounds_toArray, List.set_cons_zero, List.set_cons_succ]
    refine dw_val (by kernel_rfl) (.bool true) (by kernel_rfl) ?_
    simp only [Act.put, List.setIfInBounds_toArray, List.set_cons_zero, List.set_cons_succ]
    refine dw_val (by kernel_rfl) (.bool true) (by kernel_rfl) ?_
    simp only [Act.put, List.setIfInBounds_toArray, List.set_cons_zero, List.set_cons_succ]
    refine dw_val (by kernel_rfl) (.pointer none) (by kernel_rfl) ?_
    simp only [Act.put, List.setIfInBounds_toArray, List.set_cons_zero, List.set_cons_succ]
    refine dw_ret (by kernel_rfl) 42 #[(.pointer none : Value)] (by kernel_rfl) (pairs_nil w24) ?_
    intro w26 hb
    have ht27 : Touch (fun _ => False) w24 w26 := Touch.none hb
    replace hBn1 := hBn1.keep ht27 (fun h => h)
    replace hBn3 := hBn3.keep ht27 (fun h => h)
    replace hT0 := hT0.trans ht27 (fun _ _ h => h.elim)
    clear hb
    simp only [Act.put, List.setIfInBounds_toArray, List.set_cons_zero, List.set_cons_succ]
    refine dw_val (by kernel_rfl) (.int .i64 0) (by kernel_rfl) ?_
    simp only [Act.put, List.setIfInBounds_toArray, List.set_cons_zero, List.set_cons_succ]
    refine dw_val (by kernel_rfl) (.bool true) (by kernel_rfl) ?_
    simp only [Act.put, List.setIfInBounds_toArray, List.set_cons_zero, List.set_cons_succ]
    refine dw_val (by kernel_rfl) (.bool true) (by kernel_rfl) ?_
    simp only [Act.put, List.setIfInBounds_toArray, List.set_cons_zero, List.set_cons_succ]
    refine dw_val (by kernel_rfl) (.bool true) (by kernel_rfl) ?_
    simp only [Act.put, List.setIfInBounds_toArray, List.set_cons_zero, List.set_cons_succ]
    refine dw_val (by kernel_rfl) (.pointer (some ⟨n3, 0, none⟩)) (by kernel_rfl) ?_
    simp only [Act.put, List.setIfInBounds_toArray, List.set_cons_zero, List.set_cons_succ]
    refine dw_ret (by kernel_rfl) 42 #[(.pointer (some ⟨n3, 0, none⟩) : Value)] (by kernel_rfl) (pairs_zero n3 w26 hBn3) ?_
    intro w28 hb
    have ht29 : Touch (fun _ => False) w26 w28 := Touch.none hb
    replace hBn1 := hBn1.keep ht29 (fun h => h)
    replace hBn3 := hBn3.keep ht29 (fun h => h)
    replace hT0 := hT0.trans ht29 (fun _ _ h => h.elim)
    clear hb
    simp only [Act.put, List.setIfInBounds_toArray, List.set_cons_zero, List.set_cons_succ]
    refine dw_val (by kernel_rfl) (.int .i64 0) (by kernel_rfl) ?_
    simp only [Act.put, List.setIfInBounds_toArray, List.set_cons_zero, List.set_cons_succ]
    refine dw_val (by kernel_rfl) (.bool true) (by kernel_rfl) ?_
    simp only [Act.put, List.setIfInBounds_toArray, List.set_cons_zero, List.set_cons_succ]
    refine dw_val (by kernel_rfl) (.bool true) (by kernel_rfl) ?_
    simp only [Act.put, List.setIfInBounds_toArray, List.set_cons_zero, List.set_cons_succ]
    refine dw_val (by kernel_rfl) (.bool true) (by kernel_rfl) ?_
    simp only [Act.put, List.setIfInBounds_toArray, List.set_cons_zero, List.set_cons_succ]
    refine dw_val (by kernel_rfl) (.pointer none) (by kernel_rfl) ?_
    simp only [Act.put, List.setIfInBounds_toArray, List.set_cons_zero, List.set_cons_succ]
    refine dw_ret (by kernel_rfl) 47 #[(.pointer none : Value)] (by kernel_rfl) (copy_nil w28) ?_
    intro w30 hb
    have ht31 : Touch (fun _ => False) w28 w30 := Touch.none hb
    replace hBn1 := hBn1.keep ht31 (fun h => h)
    replace hBn3 := hBn3.keep ht31 (fun h => h)
    replace hT0 := hT0.trans ht31 (fun _ _ h => h.elim)
    clear hb
    simp only [Act.put, List.setIfInBounds_toArray, List.set_cons_zero, List.set_cons_succ]
    refine dw_val (by kernel_rfl) (.bool true) (by kernel_rfl) ?_
    simp only [Act.put, List.setIfInBounds_toArray, List.set_cons_zero, List.set_cons_succ]
    refine dw_val (by kernel_rfl) (.bool true) (by kernel_rfl) ?_
    simp only [Act.put, List.setIfInBounds_toArray, List.set_cons_zero, List.set_cons_succ]
    refine dw_val (by kernel_rfl) (.bool true) (by kernel_rfl) ?_
    simp only [Act.put, List.setIfInBounds_toArray, List.set_cons_zero, List.set_cons_succ]
    refine dw_val (by kernel_rfl) (.pointer (some ⟨n3, 0, none⟩)) (by kernel_rfl) ?_
    simp only [Act.put, List.setIfInBounds_toArray, List.set_cons_zero, List.set_cons_succ]
    refine dw_ret (by kernel_rfl) 47 #[(.pointer (some ⟨n3, 0, none⟩) : Value)] (by kernel_rfl) (copy_zero n3 w30 hBn3) ?_
    intro w32 hb
    have ht33 : Touch (fun _ => False) w30 w32 := Touch.none hb
    replace hBn1 := hBn1.keep ht33 (fun h => h)
    replace hBn3 := hBn3.keep ht33 (fun h => h)
    replace hT0 := hT0.trans ht33 (fun _ _ h => h.elim)
    clear hb
    simp only [Act.put, List.setIfInBounds_toArray, List.set_cons_zero, List.set_cons_succ]
    refine dw_val (by kernel_rfl) (.bool true) (by kernel_rfl) ?_
    simp only [Act.put, List.setIfInBounds_toArray, List.set_cons_zero, List.set_cons_succ]
    refine dw_val (by kernel_rfl) (.bool true) (by kernel_rfl) ?_
    simp only [Act.put, List.setIfInBounds_toArray, List.set_cons_zero, List.set_cons_succ]
    refine dw_val (by kernel_rfl) (.bool true) (by kernel_rfl) ?_
    simp only [Act.put, List.setIfInBounds_toArray, List.set_cons_zero, List.set_cons_succ]
    refine dw_ret (by kernel_rfl) 35 #[] (by kernel_rfl) (tknown_any w32) ?_
    intro w34 hb
    have ht35 : Touch (fun _ => False) w32 w34 := Touch.none hb
    replace hBn1 := hBn1.keep ht35 (fun h => h)
    replace hBn3 := hBn3.keep ht35 (fun h => h)
    replace hT0 := hT0.trans ht35 (fun _ _ h => h.elim)
    clear hb
    simp only [Act.put, List.setIfInBounds_toArray, List.set_cons_zero, List.set_cons_succ]
    refine dw_val (by kernel_rfl) (.bool true) (by kernel_rfl) ?_
    simp only [Act.put, List.setIfInBounds_toArray, List.set_cons_zero, List.set_cons_succ]
    refine dw_val (by kernel_rfl) (.bool true) (by kernel_rfl) ?_
    simp only [Act.put, List.setIfInBounds_toArray, List.set_cons_zero, List.set_cons_succ]
    refine wl_nil ?_
    refine hK9 _ _ ?_
    refine wp_ret ?_
    repeat (first | with_reducible refine ret_then ?_ | with_reducible refine ret_block ?_)
    refine bodyPost_ret (v := .bool true) (by kernel_rfl) rfl ?_
    exact ⟨rfl, hT0.toBelow⟩
end Go.Proofs.Ytnjbclcihhaddaa
