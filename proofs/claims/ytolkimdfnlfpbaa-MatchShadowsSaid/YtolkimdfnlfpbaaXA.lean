/- What the reference's covers and One answer. Conditions: lengths fit; classes are of 1 to 15. -/
import Derived.Test.YtolkimdfnlfpbaaV
import Derived.Test.YtolkimdfnlfpbaaDw
set_option linter.unusedVariables false
set_option linter.unusedSimpArgs false
namespace Go.Proofs.Ytolkimdfnlfpbaa
open Go.RowKit
set_option maxHeartbeats 4000000 in
theorem rcovers_any (b : ByteArray) (n : Int) (a : ByteArray) (k : Int) (hb : b.size ≤ 100) (ha : a.size ≤ 100) (w : World) :
    Calls Try.prog 42 #[.agg #[.string b, .int .i64 n], .agg #[.string a, .int .i64 k]] w fun e w' => e = .returned (.bool (coverB b n a k)) ∧ Below w.heap.size w w' := by
  have hT0 := Touch.refl (fun _ => False) w
  go_enter Try.func42, Try.ntmps42
  refine wp_seq_k fun K1 hK1 => ?_
  refine wl_region ?_
  refine dw_new (by kernel_rfl) [(.string b : Value), .int .i64 n] 40 (by kernel_rfl) ?_
  intro n1 w2 hnn1 hsn1 hBn1 hTn1
  have hgen1 : w.heap.size ≤ n1 := by have := hT0.size; omega
  replace hT0 := hT0.trans hTn1 (fun _ _ h => h.elim)
  simp only [Act.put, List.setIfInBounds_toArray, List.set_cons_zero, List.set_cons_succ]
  refine dw_new (by kernel_rfl) [(.string a : Value), .int .i64 k] 40 (by kernel_rfl) ?_
  intro n3 w4 hnn3 hsn3 hBn3 hTn3
  have hnen1n3 : n1 ≠ n3 := by have := hBn1.lt; omega
  have hgen3 : w.heap.size ≤ n3 := by have := hT0.size; omega
  replace hBn1 := hBn1.keep hTn3 (fun h => h)
  replace hT0 := hT0.trans hTn3 (fun _ _ h => h.elim)
  simp only [Act.put, List.setIfInBounds_toArray, List.set_cons_zero, List.set_cons_succ]
  refine dw_val (by kernel_rfl) (.bool false) (by kernel_rfl) ?_
  simp only [Act.put, List.setIfInBounds_toArray, List.set_cons_zero, List.set_cons_succ]
  refine wl_nil ?_
  refine hK1 _ _ ?_
  refine wp_seq_k fun K2 hK2 => ?_
  refine wl_region ?_
  refine dw_row (by kernel_rfl) 40 (.tmp 2) rfl n1 0 rfl _ _ hBn1 [(.string b : Value), .int .i64 n] rfl _ Try.underlying40 rfl (by kernel_rfl) ?_
  simp only [Act.put, List.setIfInBounds_toArray, List.set_cons_zero, List.set_cons_succ]
  refine dw_ret (by kernel_rfl) 34 #[(.agg #[(.string b : Value), .int .i64 n] : Value)] (by kernel_rfl) (rwide_any b n w4) ?_
  intro w5 hb
  have ht6 : Touch (fun _ => False) w4 w5 := Touch.none hb
  replace hBn1 := hBn1.keep ht6 (fun h => h)
  replace hBn3 := hBn3.keep ht6 (fun h => h)
  replace hT0 := hT0.trans ht6 (fun _ _ h => h.elim)
  clear hb
  simp only [Act.put, List.setIfInBounds_toArray, List.set_cons_zero, List.set_cons_succ]
  refine dw_bool (by kernel_rfl) (wideB b n) (by kernel_rfl) (fun c7 => ?_) (fun c7 => ?_)
  · skip
    simp only [Act.put, List.setIfInBounds_toArray, List.set_cons_zero, List.set_cons_succ]
    refine dw_no (by kernel_rfl) ?_
    simp only [Act.put, List.setIfInBounds_toArray, List.set_cons_zero, List.set_cons_succ]
    refine dw_no (by kernel_rfl) ?_
    simp only [Act.put, List.setIfInBounds_toArray, List.set_cons_zero, List.set_cons_succ]
    refine dw_no (by kernel_rfl) ?_
    simp only [Act.put, List.setIfInBounds_toArray, List.set_cons_zero, List.set_cons_succ]
    refine dw_no (by kernel_rfl) ?_
    simp only [Act.put, List.setIfInBounds_toArray, List.set_cons_zero, List.set_cons_succ]
    refine dw_no (by kernel_rfl) ?_
    simp only [Act.put, List.setIfInBounds_toArray, List.set_cons_zero, List.set_cons_succ]
    refine dw_no (by kernel_rfl) ?_
    simp only [Act.put, List.setIfInBounds_toArray, List.set_cons_zero, List.set_cons_succ]
    refine dw_no (by kernel_rfl) ?_
    simp only [Act.put, List.setIfInBounds_toArray, List.set_cons_zero, List.set_cons_succ]
    refine dw_no (by kernel_rfl) ?_
    simp only [Act.put, List.setIfInBounds_toArray, List.set_cons_zero, List.set_cons_succ]
    refine dw_val (by kernel_rfl) (.bool true) (by kernel_rfl) ?_
    simp only [Act.put, List.setIfInBounds_toArray, List.set_cons_zero, List.set_cons_succ]
    refine dw_val (by kernel_rfl) (.bool true) (by kernel_rfl) ?_
    simp only [Act.put, List.setIfInBounds_toArray, List.set_cons_zero, List.set_cons_succ]
    refine wl_nil ?_
    refine hK2 _ _ ?_
    refine wp_ret ?_
    repeat (first | with_reducible refine ret_then ?_ | with_reducible refine ret_block ?_)
    refine bodyPost_ret (v := .bool true) (by kernel_rfl) rfl ?_
    exact ⟨ret_bool (by unfold coverB; simp [c7]), hT0.toBelow⟩
  · skip
    simp only [Act.put, List.setIfInBounds_toArray, List.set_cons_zero, List.set_cons_succ]
    refine dw_row (by kernel_rfl) 40 (.tmp 3) rfl n3 0 rfl _ _ hBn3 [(.string a : Value), .int .i64 k] rfl _ Try.underlying40 rfl (by kernel_rfl) ?_
    simp only [Act.put, List.setIfInBounds_toArray, List.set_cons_zero, List.set_cons_succ]
    refine dw_ret (by kernel_rfl) 34 #[(.agg #[(.string a : Value), .int .i64 k] : Value)] (by kernel_rfl) (rwide_any a k w5) ?_
    intro w8 hb
    have ht9 : Touch (fun _ => False) w5 w8 := Touch.none hb
    replace hBn1 := hBn1.keep ht9 (fun h => h)
    replace hBn3 := hBn3.keep ht9 (fun h => h)
    replace hT0 := hT0.trans ht9 (fun _ _ h => h.elim)
    clear hb
    simp only [Act.put, List.setIfInBounds_toArray, List.set_cons_zero, List.set_cons_succ]
    refine dw_val (by kernel_rfl) (.bool (!(wideB a k))) (by kernel_rfl) ?_
    simp only [Act.put, List.setIfInBounds_toArray, List.set_cons_zero, List.set_cons_succ]
    refine dw_bool (by kernel_rfl) (!(wideB a k)) (by kernel_rfl) (fun c10 => ?_) (fun c10 => ?_)
    · skip
      simp only [Act.put, List.setIfInBounds_toArray, List.set_cons_zero, List.set_cons_succ]
      refine dw_row (by kernel_rfl) 40 (.tmp 3) rfl n3 0 rfl _ _ hBn3 [(.string a : Value), .int .i64 k] rfl _ Try.underlying40 rfl (by kernel_rfl) ?_
      simp only [Act.put, List.setIfInBounds_toArray, List.set_cons_zero, List.set_cons_succ]
      refine dw_row (by kernel_rfl) 40 (.tmp 2) rfl n1 0 rfl _ _ hBn1 [(.string b : Value), .int .i64 n] rfl _ Try.underlying40 rfl (by kernel_rfl) ?_
      simp only [Act.put, List.setIfInBounds_toArray, List.set_cons_zero, List.set_cons_succ]
      refine dw_ret (by kernel_rfl) 55 #[(.agg #[(.string a : Value), .int .i64 k] : Value), .agg #[(.string b : Value), .int .i64 n]] (by kernel_rfl) (rinside_any a k b n (by first | assumption | omega) (by first | assumption | omega) w8) ?_
      intro w11 hb
      have ht12 : Touch (fun _ => False) w8 w11 := Touch.none hb
      replace hBn1 := hBn1.keep ht12 (fun h => h)
      replace hBn3 := hBn3.keep ht12 (fun h => h)
      replace hT0 := hT0.trans ht12 (fun _ _ h => h.elim)
      clear hb
      simp only [Act.put, List.setIfInBounds_toArray, List.set_cons_zero, List.set_cons_succ]
      refine dw_val (by kernel_rfl) (.bool (insideB a k b n)) (by kernel_rfl) ?_
      simp only [Act.put, List.setIfInBounds_toArray, List.set_cons_zero, List.set_cons_succ]
      refine dw_val (by kernel_rfl) (.bool (insideB a k b n)) (by kernel_rfl) ?_
      simp only [Act.put, List.setIfInBounds_toArray, List.set_cons_zero, List.set_cons_succ]
      refine dw_val (by kernel_rfl) (.bool (insideB a k b n)) (by kernel_rfl) ?_
      simp only [Act.put, List.setIfInBounds_toArray, List.set_cons_zero, List.set_cons_succ]
      refine wl_nil ?_
      refine hK2 _ _ ?_
      refine wp_ret ?_
      repeat (first | with_reducible refine ret_then ?_ | with_reducible refine ret_block ?_)
      refine bodyPost_ret (v := .bool (insideB a k b n)) (by kernel_rfl) rfl ?_
      exact ⟨ret_bool (by unfold coverB; simp [c7, c10]), hT0.toBelow⟩
    · skip
      simp only [Act.put, List.setIfInBounds_toArray, List.set_cons_zero, List.set_cons_succ]
      refine dw_no (by kernel_rfl) ?_
      simp only [Act.put, List.setIfInBounds_toArray, List.set_cons_zero, List.set_cons_succ]
      refine dw_no (by kernel_rfl) ?_
      simp only [Act.put, List.setIfInBounds_toArray, List.set_cons_zero, List.set_cons_succ]
      refine dw_no (by kernel_rfl) ?_
      simp only [Act.put, List.setIfInBounds_toArray, List.set_cons_zero, List.set_cons_succ]
      refine dw_val (by kernel_rfl) (.bool false) (by kernel_rfl) ?_
      simp only [Act.put, List.setIfInBounds_toArray, List.set_cons_zero, List.set_cons_succ]
      refine dw_val (by kernel_rfl) (.bool false) (by kernel_rfl) ?_
      simp only [Act.put, List.setIfInBounds_toArray, List.set_cons_zero, List.set_cons_succ]
      refine dw_val (by kernel_rfl) (.bool false) (by kernel_rfl) ?_
      simp only [Act.put, List.setIfInBounds_toArray, List.set_cons_zero, List.set_cons_succ]
      refine wl_nil ?_
      refine hK2 _ _ ?_
      refine wp_ret ?_
      repeat (first | with_reducible refine ret_then ?_ | with_reducible refine ret_block ?_)
      refine bodyPost_ret (v := .bool false) (by kernel_rfl) rfl ?_
      exact ⟨ret_bool (by unfold coverB; simp [c7, c10]), hT0.toBelow⟩
theorem ev_eq2 {o : Oper} {a : Act} {w : World} (x y : Operand) {p q r s : Int} (ho : o.op = .binOp .eql 41 x y 41) (hx : a.eval x = .agg #[.int .i64 p, .int .i64 q]) (hy : a.eval y = .agg #[.int .i64 r, .int .i64 s]) :
    (execOp a.eval o).run Try.prog w = .ok (.value (.bool (decide (p = r ∧ q = s)))) w := by
  have h : (Op.equal 41 (.agg #[.int .i64 p, .int .i64 q]) (.agg #[.int .i64 r, .int .i64 s])).run Try.prog w = .ok (decide (p = r ∧ q = s)) w := eq2 p q r s w
  unfold execOp
  simp only [ho, hx, hy]
  simp [eqGuard, binOp, h, Result.andThen]
theorem cls_lem (c : Int) (h1 : 1 ≤ c) (h2 : c ≤ 15) : (Int.tmod (IntKind.i64.wrap (Int.tdiv c 1)) 2 == 0) = !classB c 0 ∧ (Int.tmod (IntKind.i64.wrap (Int.tdiv c 2)) 2 == 0) = !classB c 1 ∧ (Int.tmod (IntKind.i64.wrap (Int.tdiv c 4)) 2 == 0) = !classB c 2 ∧ (Int.tmod (IntKind.i64.wrap (Int.tdiv c 8)) 2 == 0) = !classB c 3 := by
  have : c = 1 ∨ c = 2 ∨ c = 3 ∨ c = 4 ∨ c = 5 ∨ c = 6 ∨ c = 7 ∨ c = 8 ∨ c = 9 ∨ c = 10 ∨ c = 11 ∨ c = 12 ∨ c = 13 ∨ c = 14 ∨ c = 15 := by omega
  rcases this with rfl | rfl | rfl | rfl | rfl | rfl | rfl | rfl | rfl | rfl | rfl | rfl | rfl | rfl | rfl <;> decide +kernel
set_option maxRecDepth 100000 in
set_option maxHeartbeats 4000000 in
theorem rone_0 (r : Rl) (a : Ak) (hc1 : 1 ≤ r.classes) (hc2 : r.classes ≤ 15) (hfb : r.fb.size ≤ 100) (htb : r.tb.size ≤ 100) (hsrc : a.src.size ≤ 100) (hdst : a.dst.size ≤ 100) (w : World) :
    Calls Try.prog 11 #[.agg #[.bool (r.acc), .int .i64 r.side, .string r.fb, .int .i64 r.fn, .string r.tb, .int .i64 r.tn, .int .i64 r.s0, .int .i64 r.s1, .int .i64 r.d0, .int .i64 r.d1, .int .i64 r.mask, .int .i64 r.flags, .int .i64 r.classes], .agg #[.string a.src, .string a.dst, .int .i64 a.from_, .int .i64 a.to_, .int .u32 a.seq, .int .u32 a.ack, .int .i64 a.flags, .int .i64 a.win, .int .i64 a.urg, .int .i64 a.mss, .int .i64 a.scale, .bool (a.sack), .slice a.ba a.bn a.bc, .bool (a.timed), .int .u32 a.time, .int .u32 a.echo, .string a.data, .int .i64 a.side, .int .i64 0]] w fun e w' => e = .returned (.bool (oneK r a 0)) ∧ Below w.heap.size w w' := by
  have hcls := (cls_lem r.classes hc1 hc2).1
  have hT0 := Touch.refl (fun _ => False) w
  go_enter Try.func11, Try.ntmps11
  refine wp_seq_k fun K1 hK1 => ?_
  refine wl_region ?_
  refine dw_new (by kernel_rfl) [(.bool (r.acc) : Value), .int .i64 r.side, .string r.fb, .int .i64 r.fn, .string r.tb, .int .i64 r.tn, .int .i64 r.s0, .int .i64 r.s1, .int .i64 r.d0, .int .i64 r.d1, .int .i64 r.mask, .int .i64 r.flags, .int .i64 r.classes] 45 (by kernel_rfl) ?_
  intro n1 w2 hnn1 hsn1 hBn1 hTn1
  have hgen1 : w.heap.size ≤ n1 := by have := hT0.size; omega
  replace hT0 := hT0.trans hTn1 (fun _ _ h => h.elim)
  simp only [Act.put, List.setIfInBounds_toArray, List.set_cons_zero, List.set_cons_succ]
  refine dw_new (by kernel_rfl) [(.string a.src : Value), .string a.dst, .int .i64 a.from_, .int .i64 a.to_, .int .u32 a.seq, .int .u32 a.ack, .int .i64 a.flags, .int .i64 a.win, .int .i64 a.urg, .int .i64 a.mss, .int .i64 a.scale, .bool (a.sack), .slice a.ba a.bn a.bc, .bool (a.timed), .int .u32 a.time, .int .u32 a.echo, .string a.data, .int .i64 a.side, .int .i64 0] 37 (by kernel_rfl) ?_
  intro n3 w4 hnn3 hsn3 hBn3 hTn3
  have hnen1n3 : n1 ≠ n3 := by have := hBn1.lt; omega
  have hgen3 : w.heap.size ≤ n3 := by have := hT0.size; omega
  replace hBn1 := hBn1.keep hTn3 (fun h => h)
  replace hT0 := hT0.trans hTn3 (fun _ _ h => h.elim)
  simp only [Act.put, List.setIfInBounds_toArray, List.set_cons_zero, List.set_cons_succ]
  refine dw_val (by kernel_rfl) (.bool false) (by kernel_rfl) ?_
  simp only [Act.put, List.setIfInBounds_toArray, List.set_cons_zero, List.set_cons_succ]
  refine wl_nil ?_
  refine hK1 _ _ ?_
  refine wp_seq_k fun K2 hK2 => ?_
  refine wp_seq_k fun K3 hK3 => ?_
  have hJK3 : ∀ (u6 u7 u8 u9 u10 u11 u12 u13 u14 u15 u16 u17 u18 u19 u20 u21 u22 u23 u24 u_ : Value) (bb : Bool) (w5 : World), bb = (!sideB r.side a.side) → Blk w5 n1 [(.bool (r.acc) : Value), .int .i64 r.side, .string r.fb, .int .i64 r.fn, .string r.tb, .int .i64 r.tn, .int .i64 r.s0, .int .i64 r.s1, .int .i64 r.d0, .int .i64 r.d1, .int .i64 r.mask, .int .i64 r.flags, .int .i64 r.classes] 45 → Blk w5 n3 [(.string a.src : Value), .string a.dst, .int .i64 a.from_, .int .i64 a.to_, .int .u32 a.seq, .int .u32 a.ack, .int .i64 a.flags, .int .i64 a.win, .int .i64 a.urg, .int .i64 a.mss, .int .i64 a.scale, .bool (a.sack), .slice a.ba a.bn a.bc, .bool (a.timed), .int .u32 a.time, .int .u32 a.echo, .string a.data, .int .i64 a.side, .int .i64 0] 37 → Touch (fun _ => False) w w5 → K3 ⟨#[(.agg #[(.bool (r.acc) : Value), .int .i64 r.side, .string r.fb, .int .i64 r.fn, .string r.tb, .int .i64 r.tn, .int .i64 r.s0, .int .i64 r.s1, .int .i64 r.d0, .int .i64 r.d1, .int .i64 r.mask, .int .i64 r.flags, .int .i64 r.classes] : Value), .agg #[(.string a.src : Value), .string a.dst, .int .i64 a.from_, .int .i64 a.to_, .int .u32 a.seq, .int .u32 a.ack, .int .i64 a.flags, .int .i64 a.win, .int .i64 a.urg, .int .i64 a.mss, .int .i64 a.scale, .bool (a.sack), .slice a.ba a.bn a.bc, .bool (a.timed), .int .u32 a.time, .int .u32 a.echo, .string a.data, .int .i64 a.side, .int .i64 0], .pointer (some ⟨n1, 0, none⟩), .pointer (some ⟨n3, 0, none⟩), .bool false, undef, u6, u7, u8, u9, u10, u11, u12, u13, u14, u15, u16, u17, u18, u19, u20, u21, u22, u23, u24, .bool bb, undef, undef, undef, undef, undef, undef, undef, undef, undef, undef, undef, undef, undef, undef, undef, undef, undef, undef, undef, undef, undef, undef, undef, undef, undef, undef, undef, undef, undef, undef, undef, undef, undef, undef, undef, undef, undef, undef, undef, undef, undef, undef, undef, undef, undef, undef, undef, undef, undef, undef, undef, undef, undef, undef, undef, undef, undef, undef, undef, undef, undef, undef, undef, undef, undef, undef, undef, undef, undef, undef, undef, undef, undef, undef, undef, undef, undef, undef, undef, undef, undef, undef, undef, undef, undef, undef, undef, undef, undef, undef, undef, undef, undef, undef, undef], []⟩ w5 := by
    clear hT0 hBn1 hBn3
    intro u6 u7 u8 u9 u10 u11 u12 u13 u14 u15 u16 u17 u18 u19 u20 u21 u22 u23 u24 u_ bb w5 hbb hBn1 hBn3 hT0
    subst hbb
    refine hK3 _ _ ?_
    refine wp_cond_split (t := !sideB r.side a.side) rfl (fun c6 => ?_) (fun c6 => ?_)
    · skip
      refine wp_seq_k fun K4 hK4 => ?_
      refine wl_region ?_
      refine dw_val (by kernel_rfl) (.bool false) (by kernel_rfl) ?_
      simp only [Act.put, List.setIfInBounds_toArray, List.set_cons_zero, List.set_cons_succ]
      refine wl_nil ?_
      refine hK4 _ _ ?_
      refine wp_ret ?_
      repeat (first | with_reducible refine ret_then ?_ | with_reducible refine ret_block ?_)
      refine bodyPost_ret (v := .bool false) (by kernel_rfl) rfl ?_
      try rw [hcls] at c6
      refine ⟨ret_bool ?_, hT0.toBelow⟩
      unfold oneK andI
      simp at c6
      first | (simp [c6]; done) | (simp [c6]; intro h1 h2; simp [h1, h2] at c6; done)
    · skip
      refine wp_skip ?_
      refine hK2 _ _ ?_
      refine wp_seq_k fun K5 hK5 => ?_
      refine wl_region ?_
      refine dw_newSlice (by kernel_rfl) [(.int .i64 1 : Value), .int .i64 2, .int .i64 4, .int .i64 8] 3 4 (by kernel_rfl) ?_
      intro n7 w8 hnn7 hsn7 hBn7 hTn7
      have hnen1n7 : n1 ≠ n7 := by have := hBn1.lt; omega
      have hnen3n7 : n3 ≠ n7 := by have := hBn3.lt; omega
      have hgen7 : w.heap.size ≤ n7 := by have := hT0.size; omega
      replace hBn1 := hBn1.keep hTn7 (fun h => h)
      replace hBn3 := hBn3.keep hTn7 (fun h => h)
      replace hT0 := hT0.trans hTn7 (fun _ _ h => h.elim)
      simp only [Act.put, List.setIfInBounds_toArray, List.set_cons_zero, List.set_cons_succ]
      refine dw_val (by kernel_rfl) (.pointer (some ⟨n3, 18, none⟩)) (by kernel_rfl) ?_
      simp only [Act.put, List.setIfInBounds_toArray, List.set_cons_zero, List.set_cons_succ]
      refine dw_cell (by kernel_rfl) 3 (.tmp 27) rfl n3 18 rfl _ _ hBn3 (.int .i64 0) rfl _ Try.underlying3 rfl ?_
      simp only [Act.put, List.setIfInBounds_toArray, List.set_cons_zero, List.set_cons_succ]
      refine dw_val (by kernel_rfl) (.pointer (some ⟨n7, 0, none⟩)) (ev_index 55 3 (.tmp 26) (.tmp 28) rfl n7 0 4 4 0 1 .i64 rfl rfl (by omega) Try.underlying55 (by kernel_rfl) (0) (by omega)) ?_
      simp only [Act.put, List.setIfInBounds_toArray, List.set_cons_zero, List.set_cons_succ]
      refine dw_cell (by kernel_rfl) 3 (.tmp 29) rfl n7 0 rfl _ _ hBn7 (.int .i64 1) rfl _ Try.underlying3 rfl ?_
      simp only [Act.put, List.setIfInBounds_toArray, List.set_cons_zero, List.set_cons_succ]
      refine dw_val (by kernel_rfl) (.int .i64 1) (by kernel_rfl) ?_
      simp only [Act.put, List.setIfInBounds_toArray, List.set_cons_zero, List.set_cons_succ]
      refine wl_nil ?_
      refine hK5 _ _ ?_
      refine wp_seq_k fun K6 hK6 => ?_
      refine wp_seq_k fun K7 hK7 => ?_
      refine wl_region ?_
      refine dw_val (by kernel_rfl) (.pointer (some ⟨n1, 12, none⟩)) (by kernel_rfl) ?_
      simp only [Act.put, List.setIfInBounds_toArray, List.set_cons_zero, List.set_cons_succ]
      refine dw_cell (by kernel_rfl) 3 (.tmp 31) rfl n1 12 rfl _ _ hBn1 (.int .i64 r.classes) rfl _ Try.underlying3 rfl ?_
      simp only [Act.put, List.setIfInBounds_toArray, List.set_cons_zero, List.set_cons_succ]
      refine dw_val (by kernel_rfl) (.int .i64 1) (by kernel_rfl) ?_
      simp only [Act.put, List.setIfInBounds_toArray, List.set_cons_zero, List.set_cons_succ]
      refine dw_val (by kernel_rfl) (.int .i64 (IntKind.i64.wrap (Int.tdiv r.classes 1))) (by kernel_rfl) ?_
      simp only [Act.put, List.setIfInBounds_toArray, List.set_cons_zero, List.set_cons_succ]
      refine dw_val (by kernel_rfl) (.int .i64 (Int.tmod (IntKind.i64.wrap (Int.tdiv r.classes 1)) 2)) (by kernel_rfl) ?_
      simp only [Act.put, List.setIfInBounds_toArray, List.set_cons_zero, List.set_cons_succ]
      refine dw_val (by kernel_rfl) (.bool ((Int.tmod (IntKind.i64.wrap (Int.tdiv r.classes 1)) 2) == 0)) (by kernel_rfl) ?_
      simp only [Act.put, List.setIfInBounds_toArray, List.set_cons_zero, List.set_cons_succ]
      refine wl_nil ?_
      refine hK7 _ _ ?_
      refine wp_cond_split (t := (Int.tmod (IntKind.i64.wrap (Int.tdiv r.classes 1)) 2) == 0) rfl (fun c9 => ?_) (fun c9 => ?_)
      · skip
        refine wp_seq_k fun K8 hK8 => ?_
        refine wl_region ?_
        refine dw_val (by kernel_rfl) (.bool false) (by kernel_rfl) ?_
        simp only [Act.put, List.setIfInBounds_toArray, List.set_cons_zero, List.set_cons_succ]
        refine wl_nil ?_
        refine hK8 _ _ ?_
        refine wp_ret ?_
        repeat (first | with_reducible refine ret_then ?_ | with_reducible refine ret_block ?_)
        refine bodyPost_ret (v := .bool false) (by kernel_rfl) rfl ?_
        try rw [hcls] at c6
        try rw [hcls] at c9
        refine ⟨ret_bool ?_, hT0.toBelow⟩
        unfold oneK andI
        simp at c6 c9
        first | (simp [c6, c9]; done) | (simp [c6, c9]; intro h1 h2; simp [h1, h2] at c9; done)
      · skip
        refine wp_skip ?_
        refine hK6 _ _ ?_
        refine wp_seq_k fun K9 hK9 => ?_
        refine wp_seq_k fun K10 hK10 => ?_
        refine wl_region ?_
        refine dw_val (by kernel_rfl) (.pointer (some ⟨n3, 18, none⟩)) (by kernel_rfl) ?_
        simp only [Act.put, List.setIfInBounds_toArray, List.set_cons_zero, List.set_cons_succ]
        refine dw_cell (by kernel_rfl) 3 (.tmp 37) rfl n3 18 rfl _ _ hBn3 (.int .i64 0) rfl _ Try.underlying3 rfl ?_
        simp only [Act.put, List.setIfInBounds_toArray, List.set_cons_zero, List.set_cons_succ]
        refine dw_val (by kernel_rfl) (.bool false) (by kernel_rfl) ?_
        simp only [Act.put, List.setIfInBounds_toArray, List.set_cons_zero, List.set_cons_succ]
        refine wl_nil ?_
        refine hK10 _ _ ?_
        refine wp_cond_false rfl ?_
        refine wp_skip ?_
        refine hK9 _ _ ?_
        refine wp_seq_k fun K11 hK11 => ?_
        refine wp_seq_k fun K12 hK12 => ?_
        have hJK12 : ∀ (u65 u66 u67 u68 u69 u70 u71 u72 u73 u74 u75 u76 u77 u78 u79 u80 u81 u82 u83 u84 u85 u86 u87 u88 u89 u90 u91 u_ : Value) (bb : Bool) (w10 : World), bb = (!(mayB r.fb r.fn a.src && mayB r.tb r.tn a.dst)) → Blk w10 n1 [(.bool (r.acc) : Value), .int .i64 r.side, .string r.fb, .int .i64 r.fn, .string r.tb, .int .i64 r.tn, .int .i64 r.s0, .int .i64 r.s1, .int .i64 r.d0, .int .i64 r.d1, .int .i64 r.mask, .int .i64 r.flags, .int .i64 r.classes] 45 → Blk w10 n3 [(.string a.src : Value), .string a.dst, .int .i64 a.from_, .int .i64 a.to_, .int .u32 a.seq, .int .u32 a.ack, .int .i64 a.flags, .int .i64 a.win, .int .i64 a.urg, .int .i64 a.mss, .int .i64 a.scale, .bool (a.sack), .slice a.ba a.bn a.bc, .bool (a.timed), .int .u32 a.time, .int .u32 a.echo, .string a.data, .int .i64 a.side, .int .i64 0] 37 → Blk w10 n7 [(.int .i64 1 : Value), .int .i64 2, .int .i64 4, .int .i64 8] 3 → Touch (fun _ => False) w w10 → K12 ⟨#[(.agg #[(.bool (r.acc) : Value), .int .i64 r.side, .string r.fb, .int .i64 r.fn, .string r.tb, .int .i64 r.tn, .int .i64 r.s0, .int .i64 r.s1, .int .i64 r.d0, .int .i64 r.d1, .int .i64 r.mask, .int .i64 r.flags, .int .i64 r.classes] : Value), .agg #[(.string a.src : Value), .string a.dst, .int .i64 a.from_, .int .i64 a.to_, .int .u32 a.seq, .int .u32 a.ack, .int .i64 a.flags, .int .i64 a.win, .int .i64 a.urg, .int .i64 a.mss, .int .i64 a.scale, .bool (a.sack), .slice a.ba a.bn a.bc, .bool (a.timed), .int .u32 a.time, .int .u32 a.echo, .string a.data, .int .i64 a.side, .int .i64 0], .pointer (some ⟨n1, 0, none⟩), .pointer (some ⟨n3, 0, none⟩), .bool false, .int .i64 1, u6, u7, u8, u9, u10, u11, u12, u13, u14, u15, u16, u17, u18, u19, u20, u21, u22, u23, u24, .bool (!sideB r.side a.side), .slice (some ⟨n7, 0, none⟩) 4 4, .pointer (some ⟨n3, 18, none⟩), .int .i64 0, .pointer (some ⟨n7, 0, none⟩), .int .i64 1, .pointer (some ⟨n1, 12, none⟩), .int .i64 r.classes, .int .i64 1, .int .i64 (IntKind.i64.wrap (Int.tdiv r.classes 1)), .int .i64 (Int.tmod (IntKind.i64.wrap (Int.tdiv r.classes 1)) 2), .bool ((Int.tmod (IntKind.i64.wrap (Int.tdiv r.classes 1)) 2) == 0), .pointer (some ⟨n3, 18, none⟩), .int .i64 0, .bool false, undef, undef, undef, undef, undef, undef, undef, undef, undef, undef, undef, undef, undef, undef, undef, undef, undef, undef, undef, undef, undef, undef, undef, undef, undef, u65, u66, u67, u68, u69, u70, u71, u72, u73, u74, u75, u76, u77, u78, u79, u80, u81, u82, u83, u84, u85, u86, u87, u88, u89, u90, u91, .bool bb, undef, undef, undef, undef, undef, undef, undef, undef, undef, undef, undef, undef, undef, undef, undef, undef, undef, undef, undef, undef, undef, undef, undef, undef, undef, undef, undef, undef], []⟩ w10 := by
          clear hT0 hBn1 hBn3 hBn7
          intro u65 u66 u67 u68 u69 u70 u71 u72 u73 u74 u75 u76 u77 u78 u79 u80 u81 u82 u83 u84 u85 u86 u87 u88 u89 u90 u91 u_ bb w10 hbb hBn1 hBn3 hBn7 hT0
          subst hbb
          refine hK12 _ _ ?_
          refine wp_cond_split (t := !(mayB r.fb r.fn a.src && mayB r.tb r.tn a.dst)) rfl (fun c11 => ?_) (fun c11 => ?_)
          · skip
            refine wp_seq_k fun K13 hK13 => ?_
            refine wl_region ?_
            refine dw_val (by kernel_rfl) (.bool false) (by kernel_rfl) ?_
            simp only [Act.put, List.setIfInBounds_toArray, List.set_cons_zero, List.set_cons_succ]
            refine wl_nil ?_
            refine hK13 _ _ ?_
            refine wp_ret ?_
            repeat (first | with_reducible refine ret_then ?_ | with_reducible refine ret_block ?_)
            refine bodyPost_ret (v := .bool false) (by kernel_rfl) rfl ?_
            try rw [hcls] at c6
            try rw [hcls] at c9
            try rw [hcls] at c11
            refine ⟨ret_bool ?_, hT0.toBelow⟩
            unfold oneK andI
            simp at c6 c9 c11
            first | (simp [c6, c9, c11]; done) | (simp [c6, c9, c11]; intro h1 h2; simp [h1, h2] at c11; done)
          · skip
            refine wp_skip ?_
            refine hK11 _ _ ?_
            refine wp_seq_k fun K14 hK14 => ?_
            refine wl_region ?_
            refine dw_val (by kernel_rfl) (.pointer (some ⟨n3, 0, none⟩)) (by kernel_rfl) ?_
            simp only [Act.put, List.setIfInBounds_toArray, List.set_cons_zero, List.set_cons_succ]
            refine dw_val (by kernel_rfl) (.pointer (some ⟨n3, 2, none⟩)) (by kernel_rfl) ?_
            simp only [Act.put, List.setIfInBounds_toArray, List.set_cons_zero, List.set_cons_succ]
            refine dw_val (by kernel_rfl) (.pointer (some ⟨n3, 2, none⟩)) (by kernel_rfl) ?_
            simp only [Act.put, List.setIfInBounds_toArray, List.set_cons_zero, List.set_cons_succ]
            refine dw_cell (by kernel_rfl) 3 (.tmp 95) rfl n3 2 rfl _ _ hBn3 (.int .i64 a.from_) rfl _ Try.underlying3 rfl ?_
            simp only [Act.put, List.setIfInBounds_toArray, List.set_cons_zero, List.set_cons_succ]
            refine dw_val (by kernel_rfl) (.pointer (some ⟨n1, 6, none⟩)) (by kernel_rfl) ?_
            simp only [Act.put, List.setIfInBounds_toArray, List.set_cons_zero, List.set_cons_succ]
            refine dw_row (by kernel_rfl) 41 (.tmp 97) rfl n1 6 rfl _ _ hBn1 [(.int .i64 r.s0 : Value), .int .i64 r.s1] rfl _ Try.underlying41 rfl (by kernel_rfl) ?_
            simp only [Act.put, List.setIfInBounds_toArray, List.set_cons_zero, List.set_cons_succ]
            refine dw_ret (by kernel_rfl) 36 #[(.int .i64 a.from_ : Value), .agg #[(.int .i64 r.s0 : Value), .int .i64 r.s1]] (by kernel_rfl) (rwithin_any a.from_ r.s0 r.s1 w10) ?_
            intro w12 hb
            have ht13 : Touch (fun _ => False) w10 w12 := Touch.none hb
            replace hBn1 := hBn1.keep ht13 (fun h => h)
            replace hBn3 := hBn3.keep ht13 (fun h => h)
            replace hBn7 := hBn7.keep ht13 (fun h => h)
            replace hT0 := hT0.trans ht13 (fun _ _ h => h.elim)
            clear hb
            simp only [Act.put, List.setIfInBounds_toArray, List.set_cons_zero, List.set_cons_succ]
            refine dw_bool (by kernel_rfl) (inB a.from_ r.s0 r.s1) (by kernel_rfl) (fun c14 => ?_) (fun c14 => ?_)
            · skip
              simp only [Act.put, List.setIfInBounds_toArray, List.set_cons_zero, List.set_cons_succ]
              refine dw_val (by kernel_rfl) (.pointer (some ⟨n3, 0, none⟩)) (by kernel_rfl) ?_
              simp only [Act.put, List.setIfInBounds_toArray, List.set_cons_zero, List.set_cons_succ]
              refine dw_val (by kernel_rfl) (.pointer (some ⟨n3, 2, none⟩)) (by kernel_rfl) ?_
              simp only [Act.put, List.setIfInBounds_toArray, List.set_cons_zero, List.set_cons_succ]
              refine dw_val (by kernel_rfl) (.pointer (some ⟨n3, 3, none⟩)) (by kernel_rfl) ?_
              simp only [Act.put, List.setIfInBounds_toArray, List.set_cons_zero, List.set_cons_succ]
              refine dw_cell (by kernel_rfl) 3 (.tmp 103) rfl n3 3 rfl _ _ hBn3 (.int .i64 a.to_) rfl _ Try.underlying3 rfl ?_
              simp only [Act.put, List.setIfInBounds_toArray, List.set_cons_zero, List.set_cons_succ]
              refine dw_val (by kernel_rfl) (.pointer (some ⟨n1, 8, none⟩)) (by kernel_rfl) ?_
              simp only [Act.put, List.setIfInBounds_toArray, List.set_cons_zero, List.set_cons_succ]
              refine dw_row (by kernel_rfl) 41 (.tmp 105) rfl n1 8 rfl _ _ hBn1 [(.int .i64 r.d0 : Value), .int .i64 r.d1] rfl _ Try.underlying41 rfl (by kernel_rfl) ?_
              simp only [Act.put, List.setIfInBounds_toArray, List.set_cons_zero, List.set_cons_succ]
              refine dw_ret (by kernel_rfl) 36 #[(.int .i64 a.to_ : Value), .agg #[(.int .i64 r.d0 : Value), .int .i64 r.d1]] (by kernel_rfl) (rwithin_any a.to_ r.d0 r.d1 w12) ?_
              intro w15 hb
              have ht16 : Touch (fun _ => False) w12 w15 := Touch.none hb
              replace hBn1 := hBn1.keep ht16 (fun h => h)
              replace hBn3 := hBn3.keep ht16 (fun h => h)
              replace hBn7 := hBn7.keep ht16 (fun h => h)
              replace hT0 := hT0.trans ht16 (fun _ _ h => h.elim)
              clear hb
              simp only [Act.put, List.setIfInBounds_toArray, List.set_cons_zero, List.set_cons_succ]
              refine dw_val (by kernel_rfl) (.bool (inB a.to_ r.d0 r.d1)) (by kernel_rfl) ?_
              simp only [Act.put, List.setIfInBounds_toArray, List.set_cons_zero, List.set_cons_succ]
              refine dw_bool (by kernel_rfl) (inB a.to_ r.d0 r.d1) (by kernel_rfl) (fun c17 => ?_) (fun c17 => ?_)
              · skip
                simp only [Act.put, List.setIfInBounds_toArray, List.set_cons_zero, List.set_cons_succ]
                refine dw_val (by kernel_rfl) (.pointer (some ⟨n3, 0, none⟩)) (by kernel_rfl) ?_
                simp only [Act.put, List.setIfInBounds_toArray, List.set_cons_zero, List.set_cons_succ]
                refine dw_val (by kernel_rfl) (.pointer (some ⟨n3, 2, none⟩)) (by kernel_rfl) ?_
                simp only [Act.put, List.setIfInBounds_toArray, List.set_cons_zero, List.set_cons_succ]
                refine dw_val (by kernel_rfl) (.pointer (some ⟨n3, 6, none⟩)) (by kernel_rfl) ?_
                simp only [Act.put, List.setIfInBounds_toArray, List.set_cons_zero, List.set_cons_succ]
                refine dw_cell (by kernel_rfl) 3 (.tmp 112) rfl n3 6 rfl _ _ hBn3 (.int .i64 a.flags) rfl _ Try.underlying3 rfl ?_
                simp only [Act.put, List.setIfInBounds_toArray, List.set_cons_zero, List.set_cons_succ]
                refine dw_val (by kernel_rfl) (.pointer (some ⟨n1, 10, none⟩)) (by kernel_rfl) ?_
                simp only [Act.put, List.setIfInBounds_toArray, List.set_cons_zero, List.set_cons_succ]
                refine dw_cell (by kernel_rfl) 3 (.tmp 114) rfl n1 10 rfl _ _ hBn1 (.int .i64 r.mask) rfl _ Try.underlying3 rfl ?_
                simp only [Act.put, List.setIfInBounds_toArray, List.set_cons_zero, List.set_cons_succ]
                refine dw_val (by kernel_rfl) (.int .i64 (bits .and .i64 a.flags r.mask)) (by kernel_rfl) ?_
                simp only [Act.put, List.setIfInBounds_toArray, List.set_cons_zero, List.set_cons_succ]
                refine dw_val (by kernel_rfl) (.pointer (some ⟨n1, 11, none⟩)) (by kernel_rfl) ?_
                simp only [Act.put, List.setIfInBounds_toArray, List.set_cons_zero, List.set_cons_succ]
                refine dw_cell (by kernel_rfl) 3 (.tmp 117) rfl n1 11 rfl _ _ hBn1 (.int .i64 r.flags) rfl _ Try.underlying3 rfl ?_
                simp only [Act.put, List.setIfInBounds_toArray, List.set_cons_zero, List.set_cons_succ]
                refine dw_val (by kernel_rfl) (.bool ((bits .and .i64 a.flags r.mask) == r.flags)) (by kernel_rfl) ?_
                simp only [Act.put, List.setIfInBounds_toArray, List.set_cons_zero, List.set_cons_succ]
                refine dw_val (by kernel_rfl) (.bool ((bits .and .i64 a.flags r.mask) == r.flags)) (by kernel_rfl) ?_
                simp only [Act.put, List.setIfInBounds_toArray, List.set_cons_zero, List.set_cons_succ]
                refine dw_val (by kernel_rfl) (.bool ((bits .and .i64 a.flags r.mask) == r.flags)) (by kernel_rfl) ?_
                simp only [Act.put, List.setIfInBounds_toArray, List.set_cons_zero, List.set_cons_succ]
                refine wl_nil ?_
                refine hK14 _ _ ?_
                refine wp_ret ?_
                repeat (first | with_reducible refine ret_then ?_ | with_reducible refine ret_block ?_)
                refine bodyPost_ret (v := .bool ((bits .and .i64 a.flags r.mask) == r.flags)) (by kernel_rfl) rfl ?_
                try rw [hcls] at c6
                try rw [hcls] at c9
                try rw [hcls] at c11
                try rw [hcls] at c14
                try rw [hcls] at c17
                refine ⟨ret_bool ?_, hT0.toBelow⟩
                unfold oneK andI
                simp at c6 c9 c11 c14 c17
                first | (simp [c6, c9, c11, c14, c17]; done) | (simp [c6, c9, c11, c14, c17]; intro h1 h2; simp [h1, h2] at c17; done)
              · skip
                simp only [Act.put, List.setIfInBounds_toArray, List.set_cons_zero, List.set_cons_succ]
                refine dw_no (by kernel_rfl) ?_
                simp only [Act.put, List.setIfInBounds_toArray, List.set_cons_zero, List.set_cons_succ]
                refine dw_no (by kernel_rfl) ?_
                simp only [Act.put, List.setIfInBounds_toArray, List.set_cons_zero, List.set_cons_succ]
                refine dw_no (by kernel_rfl) ?_
                simp only [Act.put, List.setIfInBounds_toArray, List.set_cons_zero, List.set_cons_succ]
                refine dw_no (by kernel_rfl) ?_
                simp only [Act.put, List.setIfInBounds_toArray, List.set_cons_zero, List.set_cons_succ]
                refine dw_no (by kernel_rfl) ?_
                simp only [Act.put, List.setIfInBounds_toArray, List.set_cons_zero, List.set_cons_succ]
                refine dw_no (by kernel_rfl) ?_
                simp only [Act.put, List.setIfInBounds_toArray, List.set_cons_zero, List.set_cons_succ]
                refine dw_no (by kernel_rfl) ?_
                simp only [Act.put, List.setIfInBounds_toArray, List.set_cons_zero, List.set_cons_succ]
                refine dw_no (by kernel_rfl) ?_
                simp only [Act.put, List.setIfInBounds_toArray, List.set_cons_zero, List.set_cons_succ]
                refine dw_no (by kernel_rfl) ?_
                simp only [Act.put, List.setIfInBounds_toArray, List.set_cons_zero, List.set_cons_succ]
                refine dw_no (by kernel_rfl) ?_
                simp only [Act.put, List.setIfInBounds_toArray, List.set_cons_zero, List.set_cons_succ]
                refine dw_val (by kernel_rfl) (.bool false) (by kernel_rfl) ?_
                simp only [Act.put, List.setIfInBounds_toArray, List.set_cons_zero, List.set_cons_succ]
                refine dw_val (by kernel_rfl) (.bool false) (by kernel_rfl) ?_
                simp only [Act.put, List.setIfInBounds_toArray, List.set_cons_zero, List.set_cons_succ]
                refine wl_nil ?_
                refine hK14 _ _ ?_
                refine wp_ret ?_
                repeat (first | with_reducible refine ret_then ?_ | with_reducible refine ret_block ?_)
                refine bodyPost_ret (v := .bool false) (by kernel_rfl) rfl ?_
                try rw [hcls] at c6
                try rw [hcls] at c9
                try rw [hcls] at c11
                try rw [hcls] at c14
                try rw [hcls] at c17
                refine ⟨ret_bool ?_, hT0.toBelow⟩
                unfold oneK andI
                simp at c6 c9 c11 c14 c17
                first | (simp [c6, c9, c11, c14, c17]; done) | (simp [c6, c9, c11, c14, c17]; intro h1 h2; simp [h1, h2] at c17; done)
            · skip
              simp only [Act.put, List.setIfInBounds_toArray, List.set_cons_zero, List.set_cons_succ]
              refine dw_no (by kernel_rfl) ?_
              simp only [Act.put, List.setIfInBounds_toArray, List.set_cons_zero, List.set_cons_succ]
              refine dw_no (by kernel_rfl) ?_
              simp only [Act.put, List.setIfInBounds_toArray, List.set_cons_zero, List.set_cons_succ]
              refine dw_no (by kernel_rfl) ?_
              simp only [Act.put, List.setIfInBounds_toArray, List.set_cons_zero, List.set_cons_succ]
              refine dw_no (by kernel_rfl) ?_
              simp only [Act.put, List.setIfInBounds_toArray, List.set_cons_zero, List.set_cons_succ]
              refine dw_no (by kernel_rfl) ?_
              simp only [Act.put, List.setIfInBounds_toArray, List.set_cons_zero, List.set_cons_succ]
              refine dw_no (by kernel_rfl) ?_
              simp only [Act.put, List.setIfInBounds_toArray, List.set_cons_zero, List.set_cons_succ]
              refine dw_no (by kernel_rfl) ?_
              simp only [Act.put, List.setIfInBounds_toArray, List.set_cons_zero, List.set_cons_succ]
              refine dw_val (by kernel_rfl) (.bool false) (by kernel_rfl) ?_
              simp only [Act.put, List.setIfInBounds_toArray, List.set_cons_zero, List.set_cons_succ]
              refine dw_val (by kernel_rfl) (.bool false) (by kernel_rfl) ?_
              simp only [Act.put, List.setIfInBounds_toArray, List.set_cons_zero, List.set_cons_succ]
              refine dw_no (by kernel_rfl) ?_
              simp only [Act.put, List.setIfInBounds_toArray, List.set_cons_zero, List.set_cons_succ]
              refine dw_no (by kernel_rfl) ?_
              simp only [Act.put, List.setIfInBounds_toArray, List.set_cons_zero, List.set_cons_succ]
              refine dw_no (by kernel_rfl) ?_
              simp only [Act.put, List.setIfInBounds_toArray, List.set_cons_zero, List.set_cons_succ]
              refine dw_no (by kernel_rfl) ?_
              simp only [Act.put, List.setIfInBounds_toArray, List.set_cons_zero, List.set_cons_succ]
              refine dw_no (by kernel_rfl) ?_
              simp only [Act.put, List.setIfInBounds_toArray, List.set_cons_zero, List.set_cons_succ]
              refine dw_no (by kernel_rfl) ?_
              simp only [Act.put, List.setIfInBounds_toArray, List.set_cons_zero, List.set_cons_succ]
              refine dw_no (by kernel_rfl) ?_
              simp only [Act.put, List.setIfInBounds_toArray, List.set_cons_zero, List.set_cons_succ]
              refine dw_no (by kernel_rfl) ?_
              simp only [Act.put, List.setIfInBounds_toArray, List.set_cons_zero, List.set_cons_succ]
              refine dw_no (by kernel_rfl) ?_
              simp only [Act.put, List.setIfInBounds_toArray, List.set_cons_zero, List.set_cons_succ]
              refine dw_no (by kernel_rfl) ?_
              simp only [Act.put, List.setIfInBounds_toArray, List.set_cons_zero, List.set_cons_succ]
              refine dw_val (by kernel_rfl) (.bool false) (by kernel_rfl) ?_
              simp only [Act.put, List.setIfInBounds_toArray, List.set_cons_zero, List.set_cons_succ]
              refine dw_val (by kernel_rfl) (.bool false) (by kernel_rfl) ?_
              simp only [Act.put, List.setIfInBounds_toArray, List.set_cons_zero, List.set_cons_succ]
              refine wl_nil ?_
              refine hK14 _ _ ?_
              refine wp_ret ?_
              repeat (first | with_reducible refine ret_then ?_ | with_reducible refine ret_block ?_)
              refine bodyPost_ret (v := .bool false) (by kernel_rfl) rfl ?_
              try rw [hcls] at c6
              try rw [hcls] at c9
              try rw [hcls] at c11
              try rw [hcls] at c14
              refine ⟨ret_bool ?_, hT0.toBelow⟩
              unfold oneK andI
              simp at c6 c9 c11 c14
              first | (simp [c6, c9, c11, c14]; done) | (simp [c6, c9, c11, c14]; intro h1 h2; simp [h1, h2] at c14; done)
        refine wl_region ?_
        refine dw_val (by kernel_rfl) (.pointer (some ⟨n1, 2, none⟩)) (by kernel_rfl) ?_
        simp only [Act.put, List.setIfInBounds_toArray, List.set_cons_zero, List.set_cons_succ]
        refine dw_row (by kernel_rfl) 40 (.tmp 65) rfl n1 2 rfl _ _ hBn1 [(.string r.fb : Value), .int .i64 r.fn] rfl _ Try.underlying40 rfl (by kernel_rfl) ?_
        simp only [Act.put, List.setIfInBounds_toArray, List.set_cons_zero, List.set_cons_succ]
        refine dw_ret (by kernel_rfl) 34 #[(.agg #[(.string r.fb : Value), .int .i64 r.fn] : Value)] (by kernel_rfl) (rwide_any r.fb r.fn w8) ?_
        intro w18 hb
        have ht19 : Touch (fun _ => False) w8 w18 := Touch.none hb
        replace hBn1 := hBn1.keep ht19 (fun h => h)
        replace hBn3 := hBn3.keep ht19 (fun h => h)
        replace hBn7 := hBn7.keep ht19 (fun h => h)
        replace hT0 := hT0.trans ht19 (fun _ _ h => h.elim)
        clear hb
        simp only [Act.put, List.setIfInBounds_toArray, List.set_cons_zero, List.set_cons_succ]
        refine dw_val (by kernel_rfl) (.bool (!(wideB r.fb r.fn))) (by kernel_rfl) ?_
        simp only [Act.put, List.setIfInBounds_toArray, List.set_cons_zero, List.set_cons_succ]
        refine dw_bool (by kernel_rfl) (!(wideB r.fb r.fn)) (by kernel_rfl) (fun c20 => ?_) (fun c20 => ?_)
        · skip
          simp only [Act.put, List.setIfInBounds_toArray, List.set_cons_zero, List.set_cons_succ]
          refine dw_val (by kernel_rfl) (.pointer (some ⟨n1, 2, none⟩)) (by kernel_rfl) ?_
          simp only [Act.put, List.setIfInBounds_toArray, List.set_cons_zero, List.set_cons_succ]
          refine dw_row (by kernel_rfl) 40 (.tmp 70) rfl n1 2 rfl _ _ hBn1 [(.string r.fb : Value), .int .i64 r.fn] rfl _ Try.underlying40 rfl (by kernel_rfl) ?_
          simp only [Act.put, List.setIfInBounds_toArray, List.set_cons_zero, List.set_cons_succ]
          refine dw_val (by kernel_rfl) (.pointer (some ⟨n3, 0, none⟩)) (by kernel_rfl) ?_
          simp only [Act.put, List.setIfInBounds_toArray, List.set_cons_zero, List.set_cons_succ]
          refine dw_val (by kernel_rfl) (.pointer (some ⟨n3, 0, none⟩)) (by kernel_rfl) ?_
          simp only [Act.put, List.setIfInBounds_toArray, List.set_cons_zero, List.set_cons_succ]
          refine dw_row (by kernel_rfl) 24 (.tmp 73) rfl n3 0 rfl _ _ hBn3 [(.string a.src : Value)] rfl _ Try.underlying24 rfl (by kernel_rfl) ?_
          simp only [Act.put, List.setIfInBounds_toArray, List.set_cons_zero, List.set_cons_succ]
          refine dw_ret (by kernel_rfl) 35 #[(.agg #[(.string r.fb : Value), .int .i64 r.fn] : Value), .agg #[(.string a.src : Value)]] (by kernel_rfl) (rhas_any r.fb r.fn a.src (by first | assumption | omega) (by first | assumption | omega) w18) ?_
          intro w21 hb
          have ht22 : Touch (fun _ => False) w18 w21 := Touch.none hb
          replace hBn1 := hBn1.keep ht22 (fun h => h)
          replace hBn3 := hBn3.keep ht22 (fun h => h)
          replace hBn7 := hBn7.keep ht22 (fun h => h)
          replace hT0 := hT0.trans ht22 (fun _ _ h => h.elim)
          clear hb
          simp only [Act.put, List.setIfInBounds_toArray, List.set_cons_zero, List.set_cons_succ]
          refine dw_val (by kernel_rfl) (.bool (!(hasB r.fb r.fn a.src))) (by kernel_rfl) ?_
          simp only [Act.put, List.setIfInBounds_toArray, List.set_cons_zero, List.set_cons_succ]
          refine dw_val (by kernel_rfl) (.bool (!(hasB r.fb r.fn a.src))) (by kernel_rfl) ?_
          simp only [Act.put, List.setIfInBounds_toArray, List.set_cons_zero, List.set_cons_succ]
          refine dw_bool (by kernel_rfl) (!(hasB r.fb r.fn a.src)) (by kernel_rfl) (fun c23 => ?_) (fun c23 => ?_)
          · skip
            simp only [Act.put, List.setIfInBounds_toArray, List.set_cons_zero, List.set_cons_succ]
            refine dw_no (by kernel_rfl) ?_
            simp only [Act.put, List.setIfInBounds_toArray, List.set_cons_zero, List.set_cons_succ]
            refine dw_no (by kernel_rfl) ?_
            simp only [Act.put, List.setIfInBounds_toArray, List.set_cons_zero, List.set_cons_succ]
            refine dw_no (by kernel_rfl) ?_
            simp only [Act.put, List.setIfInBounds_toArray, List.set_cons_zero, List.set_cons_succ]
            refine dw_no (by kernel_rfl) ?_
            simp only [Act.put, List.setIfInBounds_toArray, List.set_cons_zero, List.set_cons_succ]
            refine dw_no (by kernel_rfl) ?_
            simp only [Act.put, List.setIfInBounds_toArray, List.set_cons_zero, List.set_cons_succ]
            refine dw_no (by kernel_rfl) ?_
            simp only [Act.put, List.setIfInBounds_toArray, List.set_cons_zero, List.set_cons_succ]
            refine dw_no (by kernel_rfl) ?_
            simp only [Act.put, List.setIfInBounds_toArray, List.set_cons_zero, List.set_cons_succ]
            refine dw_no (by kernel_rfl) ?_
            simp only [Act.put, List.setIfInBounds_toArray, List.set_cons_zero, List.set_cons_succ]
            refine dw_no (by kernel_rfl) ?_
            simp only [Act.put, List.setIfInBounds_toArray, List.set_cons_zero, List.set_cons_succ]
            refine dw_no (by kernel_rfl) ?_
            simp only [Act.put, List.setIfInBounds_toArray, List.set_cons_zero, List.set_cons_succ]
            refine dw_no (by kernel_rfl) ?_
            simp only [Act.put, List.setIfInBounds_toArray, List.set_cons_zero, List.set_cons_succ]
            refine dw_no (by kernel_rfl) ?_
            simp only [Act.put, List.setIfInBounds_toArray, List.set_cons_zero, List.set_cons_succ]
            refine dw_no (by kernel_rfl) ?_
            simp only [Act.put, List.setIfInBounds_toArray, List.set_cons_zero, List.set_cons_succ]
            refine dw_val (by kernel_rfl) (.bool true) (by kernel_rfl) ?_
            simp only [Act.put, List.setIfInBounds_toArray, List.set_cons_zero, List.set_cons_succ]
            refine wl_nil ?_
            skip
            exact hJK12 _ _ _ _ _ _ _ _ _ _ _ _ _ _ _ _ _ _ _ _ _ _ _ _ _ _ _ undef true _ (by unfold mayB; simp [c6, c9, c20, c23]) hBn1 hBn3 hBn7 hT0
          · skip
            simp only [Act.put, List.setIfInBounds_toArray, List.set_cons_zero, List.set_cons_succ]
            refine dw_val (by kernel_rfl) (.pointer (some ⟨n1, 4, none⟩)) (by kernel_rfl) ?_
            simp only [Act.put, List.setIfInBounds_toArray, List.set_cons_zero, List.set_cons_succ]
            refine dw_row (by kernel_rfl) 40 (.tmp 79) rfl n1 4 rfl _ _ hBn1 [(.string r.tb : Value), .int .i64 r.tn] rfl _ Try.underlying40 rfl (by kernel_rfl) ?_
            simp only [Act.put, List.setIfInBounds_toArray, List.set_cons_zero, List.set_cons_succ]
            refine dw_ret (by kernel_rfl) 34 #[(.agg #[(.string r.tb : Value), .int .i64 r.tn] : Value)] (by kernel_rfl) (rwide_any r.tb r.tn w21) ?_
            intro w24 hb
            have ht25 : Touch (fun _ => False) w21 w24 := Touch.none hb
            replace hBn1 := hBn1.keep ht25 (fun h => h)
            replace hBn3 := hBn3.keep ht25 (fun h => h)
            replace hBn7 := hBn7.keep ht25 (fun h => h)
            replace hT0 := hT0.trans ht25 (fun _ _ h => h.elim)
            clear hb
            simp only [Act.put, List.setIfInBounds_toArray, List.set_cons_zero, List.set_cons_succ]
            refine dw_val (by kernel_rfl) (.bool (!(wideB r.tb r.tn))) (by kernel_rfl) ?_
            simp only [Act.put, List.setIfInBounds_toArray, List.set_cons_zero, List.set_cons_succ]
            refine dw_bool (by kernel_rfl) (!(wideB r.tb r.tn)) (by kernel_rfl) (fun c26 => ?_) (fun c26 => ?_)
            · skip
              simp only [Act.put, List.setIfInBounds_toArray, List.set_cons_zero, List.set_cons_succ]
              refine dw_val (by kernel_rfl) (.pointer (some ⟨n1, 4, none⟩)) (by kernel_rfl) ?_
              simp only [Act.put, List.setIfInBounds_toArray, List.set_cons_zero, List.set_cons_succ]
              refine dw_row (by kernel_rfl) 40 (.tmp 84) rfl n1 4 rfl _ _ hBn1 [(.string r.tb : Value), .int .i64 r.tn] rfl _ Try.underlying40 rfl (by kernel_rfl) ?_
              simp only [Act.put, List.setIfInBounds_toArray, List.set_cons_zero, List.set_cons_succ]
              refine dw_val (by kernel_rfl) (.pointer (some ⟨n3, 0, none⟩)) (by kernel_rfl) ?_
              simp only [Act.put, List.setIfInBounds_toArray, List.set_cons_zero, List.set_cons_succ]
              refine dw_val (by kernel_rfl) (.pointer (some ⟨n3, 1, none⟩)) (by kernel_rfl) ?_
              simp only [Act.put, List.setIfInBounds_toArray, List.set_cons_zero, List.set_cons_succ]
              refine dw_row (by kernel_rfl) 24 (.tmp 87) rfl n3 1 rfl _ _ hBn3 [(.string a.dst : Value)] rfl _ Try.underlying24 rfl (by kernel_rfl) ?_
              simp only [Act.put, List.setIfInBounds_toArray, List.set_cons_zero, List.set_cons_succ]
              refine dw_ret (by kernel_rfl) 35 #[(.agg #[(.string r.tb : Value), .int .i64 r.tn] : Value), .agg #[(.string a.dst : Value)]] (by kernel_rfl) (rhas_any r.tb r.tn a.dst (by first | assumption | omega) (by first | assumption | omega) w24) ?_
              intro w27 hb
              have ht28 : Touch (fun _ => False) w24 w27 := Touch.none hb
              replace hBn1 := hBn1.keep ht28 (fun h => h)
              replace hBn3 := hBn3.keep ht28 (fun h => h)
              replace hBn7 := hBn7.keep ht28 (fun h => h)
              replace hT0 := hT0.trans ht28 (fun _ _ h => h.elim)
              clear hb
              simp only [Act.put, List.setIfInBounds_toArray, List.set_cons_zero, List.set_cons_succ]
              refine dw_val (by kernel_rfl) (.bool (!(hasB r.tb r.tn a.dst))) (by kernel_rfl) ?_
              simp only [Act.put, List.setIfInBounds_toArray, List.set_cons_zero, List.set_cons_succ]
              refine dw_val (by kernel_rfl) (.bool (!(hasB r.tb r.tn a.dst))) (by kernel_rfl) ?_
              simp only [Act.put, List.setIfInBounds_toArray, List.set_cons_zero, List.set_cons_succ]
              refine dw_val (by kernel_rfl) (.bool (!(hasB r.tb r.tn a.dst))) (by kernel_rfl) ?_
              simp only [Act.put, List.setIfInBounds_toArray, List.set_cons_zero, List.set_cons_succ]
              refine wl_nil ?_
              skip
              exact hJK12 _ _ _ _ _ _ _ _ _ _ _ _ _ _ _ _ _ _ _ _ _ _ _ _ _ _ _ undef (!(hasB r.tb r.tn a.dst)) _ (by unfold mayB; simp [c6, c9, c20, c23, c26]) hBn1 hBn3 hBn7 hT0
            · skip
              simp only [Act.put, List.setIfInBounds_toArray, List.set_cons_zero, List.set_cons_succ]
              refine dw_no (by kernel_rfl) ?_
              simp only [Act.put, List.setIfInBounds_toArray, List.set_cons_zero, List.set_cons_succ]
              refine dw_no (by kernel_rfl) ?_
              simp only [Act.put, List.setIfInBounds_toArray, List.set_cons_zero, List.set_cons_succ]
              refine dw_no (by kernel_rfl) ?_
              simp only [Act.put, List.setIfInBounds_toArray, List.set_cons_zero, List.set_cons_succ]
              refine dw_no (by kernel_rfl) ?_
              simp only [Act.put, List.setIfInBounds_toArray, List.set_cons_zero, List.set_cons_succ]
              refine dw_no (by kernel_rfl) ?_
              simp only [Act.put, List.setIfInBounds_toArray, List.set_cons_zero, List.set_cons_succ]
              refine dw_no (by kernel_rfl) ?_
              simp only [Act.put, List.setIfInBounds_toArray, List.set_cons_zero, List.set_cons_succ]
              refine dw_no (by kernel_rfl) ?_
              simp only [Act.put, List.setIfInBounds_toArray, List.set_cons_zero, List.set_cons_succ]
              refine dw_val (by kernel_rfl) (.bool false) (by kernel_rfl) ?_
              simp only [Act.put, List.setIfInBounds_toArray, List.set_cons_zero, List.set_cons_succ]
              refine dw_val (by kernel_rfl) (.bool false) (by kernel_rfl) ?_
              simp only [Act.put, List.setIfInBounds_toArray, List.set_cons_zero, List.set_cons_succ]
              refine wl_nil ?_
              skip
              exact hJK12 _ _ _ _ _ _ _ _ _ _ _ _ _ _ _ _ _ _ _ _ _ _ _ _ _ _ _ undef false _ (by unfold mayB; simp [c6, c9, c20, c23, c26]) hBn1 hBn3 hBn7 hT0
        · skip
          simp only [Act.put, List.setIfInBounds_toArray, List.set_cons_zero, List.set_cons_succ]
          refine dw_no (by kernel_rfl) ?_
          simp only [Act.put, List.setIfInBounds_toArray, List.set_cons_zero, List.set_cons_succ]
          refine dw_no (by kernel_rfl) ?_
          simp only [Act.put, List.setIfInBounds_toArray, List.set_cons_zero, List.set_cons_succ]
          refine dw_no (by kernel_rfl) ?_
          simp only [Act.put, List.setIfInBounds_toArray, List.set_cons_zero, List.set_cons_succ]
          refine dw_no (by kernel_rfl) ?_
          simp only [Act.put, List.setIfInBounds_toArray, List.set_cons_zero, List.set_cons_succ]
          refine dw_no (by kernel_rfl) ?_
          simp only [Act.put, List.setIfInBounds_toArray, List.set_cons_zero, List.set_cons_succ]
          refine dw_no (by kernel_rfl) ?_
          simp only [Act.put, List.setIfInBounds_toArray, List.set_cons_zero, List.set_cons_succ]
          refine dw_no (by kernel_rfl) ?_
          simp only [Act.put, List.setIfInBounds_toArray, List.set_cons_zero, List.set_cons_succ]
          refine dw_val (by kernel_rfl) (.bool false) (by kernel_rfl) ?_
          simp only [Act.put, List.setIfInBounds_toArray, List.set_cons_zero, List.set_cons_succ]
          refine dw_val (by kernel_rfl) (.bool false) (by kernel_rfl) ?_
          simp only [Act.put, List.setIfInBounds_toArray, List.set_cons_zero, List.set_cons_succ]
          refine dw_val (by kernel_rfl) (.pointer (some ⟨n1, 4, none⟩)) (by kernel_rfl) ?_
          simp only [Act.put, List.setIfInBounds_toArray, List.set_cons_zero, List.set_cons_succ]
          refine dw_row (by kernel_rfl) 40 (.tmp 79) rfl n1 4 rfl _ _ hBn1 [(.string r.tb : Value), .int .i64 r.tn] rfl _ Try.underlying40 rfl (by kernel_rfl) ?_
          simp only [Act.put, List.setIfInBounds_toArray, List.set_cons_zero, List.set_cons_succ]
          refine dw_ret (by kernel_rfl) 34 #[(.agg #[(.string r.tb : Value), .int .i64 r.tn] : Value)] (by kernel_rfl) (rwide_any r.tb r.tn w18) ?_
          intro w29 hb
          have ht30 : Touch (fun _ => False) w18 w29 := Touch.none hb
          replace hBn1 := hBn1.keep ht30 (fun h => h)
          replace hBn3 := hBn3.keep ht30 (fun h => h)
          replace hBn7 := hBn7.keep ht30 (fun h => h)
          replace hT0 := hT0.trans ht30 (fun _ _ h => h.elim)
          clear hb
          simp only [Act.put, List.setIfInBounds_toArray, List.set_cons_zero, List.set_cons_succ]
          refine dw_val (by kernel_rfl) (.bool (!(wideB r.tb r.tn))) (by kernel_rfl) ?_
          simp only [Act.put, List.setIfInBounds_toArray, List.set_cons_zero, List.set_cons_succ]
          refine dw_bool (by kernel_rfl) (!(wideB r.tb r.tn)) (by kernel_rfl) (fun c31 => ?_) (fun c31 => ?_)
          · skip
            simp only [Act.put, List.setIfInBounds_toArray, List.set_cons_zero, List.set_cons_succ]
            refine dw_val (by kernel_rfl) (.pointer (some ⟨n1, 4, none⟩)) (by kernel_rfl) ?_
            simp only [Act.put, List.setIfInBounds_toArray, List.set_cons_zero, List.set_cons_succ]
            refine dw_row (by kernel_rfl) 40 (.tmp 84) rfl n1 4 rfl _ _ hBn1 [(.string r.tb : Value), .int .i64 r.tn] rfl _ Try.underlying40 rfl (by kernel_rfl) ?_
            simp only [Act.put, List.setIfInBounds_toArray, List.set_cons_zero, List.set_cons_succ]
            refine dw_val (by kernel_rfl) (.pointer (some ⟨n3, 0, none⟩)) (by kernel_rfl) ?_
            simp only [Act.put, List.setIfInBounds_toArray, List.set_cons_zero, List.set_cons_succ]
            refine dw_val (by kernel_rfl) (.pointer (some ⟨n3, 1, none⟩)) (by kernel_rfl) ?_
            simp only [Act.put, List.setIfInBounds_toArray, List.set_cons_zero, List.set_cons_succ]
            refine dw_row (by kernel_rfl) 24 (.tmp 87) rfl n3 1 rfl _ _ hBn3 [(.string a.dst : Value)] rfl _ Try.underlying24 rfl (by kernel_rfl) ?_
            simp only [Act.put, List.setIfInBounds_toArray, List.set_cons_zero, List.set_cons_succ]
            refine dw_ret (by kernel_rfl) 35 #[(.agg #[(.string r.tb : Value), .int .i64 r.tn] : Value), .agg #[(.string a.dst : Value)]] (by kernel_rfl) (rhas_any r.tb r.tn a.dst (by first | assumption | omega) (by first | assumption | omega) w29) ?_
            intro w32 hb
            have ht33 : Touch (fun _ => False) w29 w32 := Touch.none hb
            replace hBn1 := hBn1.keep ht33 (fun h => h)
            replace hBn3 := hBn3.keep ht33 (fun h => h)
            replace hBn7 := hBn7.keep ht33 (fun h => h)
            replace hT0 := hT0.trans ht33 (fun _ _ h => h.elim)
            clear hb
            simp only [Act.put, List.setIfInBounds_toArray, List.set_cons_zero, List.set_cons_succ]
            refine dw_val (by kernel_rfl) (.bool (!(hasB r.tb r.tn a.dst))) (by kernel_rfl) ?_
            simp only [Act.put, List.setIfInBounds_toArray, List.set_cons_zero, List.set_cons_succ]
            refine dw_val (by kernel_rfl) (.bool (!(hasB r.tb r.tn a.dst))) (by kernel_rfl) ?_
            simp only [Act.put, List.setIfInBounds_toArray, List.set_cons_zero, List.set_cons_succ]
            refine dw_val (by kernel_rfl) (.bool (!(hasB r.tb r.tn a.dst))) (by kernel_rfl) ?_
            simp only [Act.put, List.setIfInBounds_toArray, List.set_cons_zero, List.set_cons_succ]
            refine wl_nil ?_
            skip
            exact hJK12 _ _ _ _ _ _ _ _ _ _ _ _ _ _ _ _ _ _ _ _ _ _ _ _ _ _ _ undef (!(hasB r.tb r.tn a.dst)) _ (by unfold mayB; simp [c6, c9, c20, c31]) hBn1 hBn3 hBn7 hT0
          · skip
            simp only [Act.put, List.setIfInBounds_toArray, List.set_cons_zero, List.set_cons_succ]
            refine dw_no (by kernel_rfl) ?_
            simp only [Act.put, List.setIfInBounds_toArray, List.set_cons_zero, List.set_cons_succ]
            refine dw_no (by kernel_rfl) ?_
            simp only [Act.put, List.setIfInBounds_toArray, List.set_cons_zero, List.set_cons_succ]
            refine dw_no (by kernel_rfl) ?_
            simp only [Act.put, List.setIfInBounds_toArray, List.set_cons_zero, List.set_cons_succ]
            refine dw_no (by kernel_rfl) ?_
            simp only [Act.put, List.setIfInBounds_toArray, List.set_cons_zero, List.set_cons_succ]
            refine dw_no (by kernel_rfl) ?_
            simp only [Act.put, List.setIfInBounds_toArray, List.set_cons_zero, List.set_cons_succ]
            refine dw_no (by kernel_rfl) ?_
            simp only [Act.put, List.setIfInBounds_toArray, List.set_cons_zero, List.set_cons_succ]
            refine dw_no (by kernel_rfl) ?_
            simp only [Act.put, List.setIfInBounds_toArray, List.set_cons_zero, List.set_cons_succ]
            refine dw_val (by kernel_rfl) (.bool false) (by kernel_rfl) ?_
            simp only [Act.put, List.setIfInBounds_toArray, List.set_cons_zero, List.set_cons_succ]
            refine dw_val (by kernel_rfl) (.bool false) (by kernel_rfl) ?_
            simp only [Act.put, List.setIfInBounds_toArray, List.set_cons_zero, List.set_cons_succ]
            refine wl_nil ?_
            skip
            exact hJK12 _ _ _ _ _ _ _ _ _ _ _ _ _ _ _ _ _ _ _ _ _ _ _ _ _ _ _ undef false _ (by unfold mayB; simp [c6, c9, c20, c31]) hBn1 hBn3 hBn7 hT0
  refine wl_region ?_
  refine dw_val (by kernel_rfl) (.pointer (some ⟨n1, 1, none⟩)) (by kernel_rfl) ?_
  simp only [Act.put, List.setIfInBounds_toArray, List.set_cons_zero, List.set_cons_succ]
  refine dw_cell (by kernel_rfl) 3 (.tmp 6) rfl n1 1 rfl _ _ hBn1 (.int .i64 r.side) rfl _ Try.underlying3 rfl ?_
  simp only [Act.put, List.setIfInBounds_toArray, List.set_cons_zero, List.set_cons_succ]
  refine dw_val (by kernel_rfl) (.bool (r.side != 0)) (by kernel_rfl) ?_
  simp only [Act.put, List.setIfInBounds_toArray, List.set_cons_zero, List.set_cons_succ]
  refine dw_bool (by kernel_rfl) (r.side != 0) (by kernel_rfl) (fun c34 => ?_) (fun c34 => ?_)
  · skip
    simp only [Act.put, List.setIfInBounds_toArray, List.set_cons_zero, List.set_cons_succ]
    refine dw_val (by kernel_rfl) (.pointer (some ⟨n1, 1, none⟩)) (by kernel_rfl) ?_
    simp only [Act.put, List.setIfInBounds_toArray, List.set_cons_zero, List.set_cons_succ]
    refine dw_cell (by kernel_rfl) 3 (.tmp 10) rfl n1 1 rfl _ _ hBn1 (.int .i64 r.side) rfl _ Try.underlying3 rfl ?_
    simp only [Act.put, List.setIfInBounds_toArray, List.set_cons_zero, List.set_cons_succ]
    refine dw_val (by kernel_rfl) (.pointer (some ⟨n3, 17, none⟩)) (by kernel_rfl) ?_
    simp only [Act.put, List.setIfInBounds_toArray, List.set_cons_zero, List.set_cons_succ]
    refine dw_cell (by kernel_rfl) 3 (.tmp 12) rfl n3 17 rfl _ _ hBn3 (.int .i64 a.side) rfl _ Try.underlying3 rfl ?_
    simp only [Act.put, List.setIfInBounds_toArray, List.set_cons_zero, List.set_cons_succ]
    refine dw_val (by kernel_rfl) (.bool (r.side != a.side)) (by kernel_rfl) ?_
    simp only [Act.put, List.setIfInBounds_toArray, List.set_cons_zero, List.set_cons_succ]
    refine dw_val (by kernel_rfl) (.bool (r.side != a.side)) (by kernel_rfl) ?_
    simp only [Act.put, List.setIfInBounds_toArray, List.set_cons_zero, List.set_cons_succ]
    refine dw_bool (by kernel_rfl) (r.side != a.side) (by kernel_rfl) (fun c35 => ?_) (fun c35 => ?_)
    · skip
      simp only [Act.put, List.setIfInBounds_toArray, List.set_cons_zero, List.set_cons_succ]
      refine dw_no (by kernel_rfl) ?_
      simp only [Act.put, List.setIfInBounds_toArray, List.set_cons_zero, List.set_cons_succ]
      refine dw_no (by kernel_rfl) ?_
      simp only [Act.put, List.setIfInBounds_toArray, List.set_cons_zero, List.set_cons_succ]
      refine dw_no (by kernel_rfl) ?_
      simp only [Act.put, List.setIfInBounds_toArray, List.set_cons_zero, List.set_cons_succ]
      refine dw_val (by kernel_rfl) (.bool true) (by kernel_rfl) ?_
      simp only [Act.put, List.setIfInBounds_toArray, List.set_cons_zero, List.set_cons_succ]
      refine dw_val (by kernel_rfl) (.bool true) (by kernel_rfl) ?_
      simp only [Act.put, List.setIfInBounds_toArray, List.set_cons_zero, List.set_cons_succ]
      refine dw_no (by kernel_rfl) ?_
      simp only [Act.put, List.setIfInBounds_toArray, List.set_cons_zero, List.set_cons_succ]
      refine dw_no (by kernel_rfl) ?_
      simp only [Act.put, List.setIfInBounds_toArray, List.set_cons_zero, List.set_cons_succ]
      refine dw_no (by kernel_rfl) ?_
      simp only [Act.put, List.setIfInBounds_toArray, List.set_cons_zero, List.set_cons_succ]
      refine dw_val (by kernel_rfl) (.bool true) (by kernel_rfl) ?_
      simp only [Act.put, List.setIfInBounds_toArray, List.set_cons_zero, List.set_cons_succ]
      refine wl_nil ?_
      skip
      exact hJK3 _ _ _ _ _ _ _ _ _ _ _ _ _ _ _ _ _ _ _ undef true _ (by unfold sideB; simp at c34 c35; simp [c34, c35]) hBn1 hBn3 hT0
    · skip
      simp only [Act.put, List.setIfInBounds_toArray, List.set_cons_zero, List.set_cons_succ]
      refine dw_val (by kernel_rfl) (.pointer (some ⟨n3, 18, none⟩)) (by kernel_rfl) ?_
      simp only [Act.put, List.setIfInBounds_toArray, List.set_cons_zero, List.set_cons_succ]
      refine dw_cell (by kernel_rfl) 3 (.tmp 17) rfl n3 18 rfl _ _ hBn3 (.int .i64 0) rfl _ Try.underlying3 rfl ?_
      simp only [Act.put, List.setIfInBounds_toArray, List.set_cons_zero, List.set_cons_succ]
      refine dw_val (by kernel_rfl) (.bool false) (by kernel_rfl) ?_
      simp only [Act.put, List.setIfInBounds_toArray, List.set_cons_zero, List.set_cons_succ]
      refine dw_val (by kernel_rfl) (.bool false) (by kernel_rfl) ?_
      simp only [Act.put, List.setIfInBounds_toArray, List.set_cons_zero, List.set_cons_succ]
      refine dw_val (by kernel_rfl) (.bool false) (by kernel_rfl) ?_
      simp only [Act.put, List.setIfInBounds_toArray, List.set_cons_zero, List.set_cons_succ]
      refine dw_val (by kernel_rfl) (.pointer (some ⟨n3, 18, none⟩)) (by kernel_rfl) ?_
      simp only [Act.put, List.setIfInBounds_toArray, List.set_cons_zero, List.set_cons_succ]
      refine dw_cell (by kernel_rfl) 3 (.tmp 22) rfl n3 18 rfl _ _ hBn3 (.int .i64 0) rfl _ Try.underlying3 rfl ?_
      simp only [Act.put, List.setIfInBounds_toArray, List.set_cons_zero, List.set_cons_succ]
      refine dw_val (by kernel_rfl) (.bool false) (by kernel_rfl) ?_
      simp only [Act.put, List.setIfInBounds_toArray, List.set_cons_zero, List.set_cons_succ]
      refine dw_val (by kernel_rfl) (.bool false) (by kernel_rfl) ?_
      simp only [Act.put, List.setIfInBounds_toArray, List.set_cons_zero, List.set_cons_succ]
      refine wl_nil ?_
      skip
      exact hJK3 _ _ _ _ _ _ _ _ _ _ _ _ _ _ _ _ _ _ _ undef false _ (by unfold sideB; simp at c34 c35; simp [c34, c35]) hBn1 hBn3 hT0
  · skip
    simp only [Act.put, List.setIfInBounds_toArray, List.set_cons_zero, List.set_cons_succ]
    refine dw_no (by kernel_rfl) ?_
    simp only [Act.put, List.setIfInBounds_toArray, List.set_cons_zero, List.set_cons_succ]
    refine dw_no (by kernel_rfl) ?_
    simp only [Act.put, List.setIfInBounds_toArray, List.set_cons_zero, List.set_cons_succ]
    refine dw_no (by kernel_rfl) ?_
    simp only [Act.put, List.setIfInBounds_toArray, List.set_cons_zero, List.set_cons_succ]
    refine dw_no (by kernel_rfl) ?_
    simp only [Act.put, List.setIfInBounds_toArray, List.set_cons_zero, List.set_cons_succ]
    refine dw_no (by kernel_rfl) ?_
    simp only [Act.put, List.setIfInBounds_toArray, List.set_cons_zero, List.set_cons_succ]
    refine dw_val (by kernel_rfl) (.bool false) (by kernel_rfl) ?_
    simp only [Act.put, List.setIfInBounds_toArray, List.set_cons_zero, List.set_cons_succ]
    refine dw_val (by kernel_rfl) (.bool false) (by kernel_rfl) ?_
    simp only [Act.put, List.setIfInBounds_toArray, List.set_cons_zero, List.set_cons_succ]
    refine dw_val (by kernel_rfl) (.pointer (some ⟨n3, 18, none⟩)) (by kernel_rfl) ?_
    simp only [Act.put, List.setIfInBounds_toArray, List.set_cons_zero, List.set_cons_succ]
    refine dw_cell (by kernel_rfl) 3 (.tmp 17) rfl n3 18 rfl _ _ hBn3 (.int .i64 0) rfl _ Try.underlying3 rfl ?_
    simp only [Act.put, List.setIfInBounds_toArray, List.set_cons_zero, List.set_cons_succ]
    refine dw_val (by kernel_rfl) (.bool false) (by kernel_rfl) ?_
    simp only [Act.put, List.setIfInBounds_toArray, List.set_cons_zero, List.set_cons_succ]
    refine dw_val (by kernel_rfl) (.bool false) (by kernel_rfl) ?_
    simp only [Act.put, List.setIfInBounds_toArray, List.set_cons_zero, List.set_cons_succ]
    refine dw_val (by kernel_rfl) (.bool false) (by kernel_rfl) ?_
    simp only [Act.put, List.setIfInBounds_toArray, List.set_cons_zero, List.set_cons_succ]
    refine dw_val (by kernel_rfl) (.pointer (some ⟨n3, 18, none⟩)) (by kernel_rfl) ?_
    simp only [Act.put, List.setIfInBounds_toArray, List.set_cons_zero, List.set_cons_succ]
    refine dw_cell (by kernel_rfl) 3 (.tmp 22) rfl n3 18 rfl _ _ hBn3 (.int .i64 0) rfl _ Try.underlying3 rfl ?_
    simp only [Act.put, List.setIfInBounds_toArray, List.set_cons_zero, List.set_cons_succ]
    refine dw_val (by kernel_rfl) (.bool false) (by kernel_rfl) ?_
    simp only [Act.put, List.setIfInBounds_toArray, List.set_cons_zero, List.set_cons_succ]
    refine dw_val (by kernel_rfl) (.bool false) (by kernel_rfl) ?_
    simp only [Act.put, List.setIfInBounds_toArray, List.set_cons_zero, List.set_cons_succ]
    refine wl_nil ?_
    skip
    exact hJK3 _ _ _ _ _ _ _ _ _ _ _ _ _ _ _ _ _ _ _ undef false _ (by unfold sideB; simp at c34; simp [c34]) hBn1 hBn3 hT0
set_option maxRecDepth 100000 in
set_option maxHeartbeats 4000000 in
theorem rone_1 (r : Rl) (a : Ak) (hc1 : 1 ≤ r.classes) (hc2 : r.classes ≤ 15) (hfb : r.fb.size ≤ 100) (htb : r.tb.size ≤ 100) (hsrc : a.src.size ≤ 100) (hdst : a.dst.size ≤ 100) (w : World) :
    Calls Try.prog 11 #[.agg #[.bool (r.acc), .int .i64 r.side, .string r.fb, .int .i64 r.fn, .string r.tb, .int .i64 r.tn, .int .i64 r.s0, .int .i64 r.s1, .int .i64 r.d0, .int .i64 r.d1, .int .i64 r.mask, .int .i64 r.flags, .int .i64 r.classes], .agg #[.string a.src, .string a.dst, .int .i64 a.from_, .int .i64 a.to_, .int .u32 a.seq, .int .u32 a.ack, .int .i64 a.flags, .int .i64 a.win, .int .i64 a.urg, .int .i64 a.mss, .int .i64 a.scale, .bool (a.sack), .slice a.ba a.bn a.bc, .bool (a.timed), .int .u32 a.time, .int .u32 a.echo, .string a.data, .int .i64 a.side, .int .i64 1]] w fun e w' => e = .returned (.bool (oneK r a 1)) ∧ Below w.heap.size w w' := by
  have hcls := (cls_lem r.classes hc1 hc2).2.1
  have hT0 := Touch.refl (fun _ => False) w
  go_enter Try.func11, Try.ntmps11
  refine wp_seq_k fun K1 hK1 => ?_
  refine wl_region ?_
  refine dw_new (by kernel_rfl) [(.bool (r.acc) : Value), .int .i64 r.side, .string r.fb, .int .i64 r.fn, .string r.tb, .int .i64 r.tn, .int .i64 r.s0, .int .i64 r.s1, .int .i64 r.d0, .int .i64 r.d1, .int .i64 r.mask, .int .i64 r.flags, .int .i64 r.classes] 45 (by kernel_rfl) ?_
  intro n1 w2 hnn1 hsn1 hBn1 hTn1
  have hgen1 : w.heap.size ≤ n1 := by have := hT0.size; omega
  replace hT0 := hT0.trans hTn1 (fun _ _ h => h.elim)
  simp only [Act.put, List.setIfInBounds_toArray, List.set_cons_zero, List.set_cons_succ]
  refine dw_new (by kernel_rfl) [(.string a.src : Value), .string a.dst, .int .i64 a.from_, .int .i64 a.to_, .int .u32 a.seq, .int .u32 a.ack, .int .i64 a.flags, .int .i64 a.win, .int .i64 a.urg, .int .i64 a.mss, .int .i64 a.scale, .bool (a.sack), .slice a.ba a.bn a.bc, .bool (a.timed), .int .u32 a.time, .int .u32 a.echo, .string a.data, .int .i64 a.side, .int .i64 1] 37 (by kernel_rfl) ?_
  intro n3 w4 hnn3 hsn3 hBn3 hTn3
  have hnen1n3 : n1 ≠ n3 := by have := hBn1.lt; omega
  have hgen3 : w.heap.size ≤ n3 := by have := hT0.size; omega
  replace hBn1 := hBn1.keep hTn3 (fun h => h)
  replace hT0 := hT0.trans hTn3 (fun _ _ h => h.elim)
  simp only [Act.put, List.setIfInBounds_toArray, List.set_cons_zero, List.set_cons_succ]
  refine dw_val (by kernel_rfl) (.bool false) (by kernel_rfl) ?_
  simp only [Act.put, List.setIfInBounds_toArray, List.set_cons_zero, List.set_cons_succ]
  refine wl_nil ?_
  refine hK1 _ _ ?_
  refine wp_seq_k fun K2 hK2 => ?_
  refine wp_seq_k fun K3 hK3 => ?_
  have hJK3 : ∀ (u6 u7 u8 u9 u10 u11 u12 u13 u14 u15 u16 u17 u18 u19 u20 u21 u22 u23 u24 u_ : Value) (bb : Bool) (w5 : World), bb = (!sideB r.side a.side) → Blk w5 n1 [(.bool (r.acc) : Value), .int .i64 r.side, .string r.fb, .int .i64 r.fn, .string r.tb, .int .i64 r.tn, .int .i64 r.s0, .int .i64 r.s1, .int .i64 r.d0, .int .i64 r.d1, .int .i64 r.mask, .int .i64 r.flags, .int .i64 r.classes] 45 → Blk w5 n3 [(.string a.src : Value), .string a.dst, .int .i64 a.from_, .int .i64 a.to_, .int .u32 a.seq, .int .u32 a.ack, .int .i64 a.flags, .int .i64 a.win, .int .i64 a.urg, .int .i64 a.mss, .int .i64 a.scale, .bool (a.sack), .slice a.ba a.bn a.bc, .bool (a.timed), .int .u32 a.time, .int .u32 a.echo, .string a.data, .int .i64 a.side, .int .i64 1] 37 → Touch (fun _ => False) w w5 → K3 ⟨#[(.agg #[(.bool (r.acc) : Value), .int .i64 r.side, .string r.fb, .int .i64 r.fn, .string r.tb, .int .i64 r.tn, .int .i64 r.s0, .int .i64 r.s1, .int .i64 r.d0, .int .i64 r.d1, .int .i64 r.mask, .int .i64 r.flags, .int .i64 r.classes] : Value), .agg #[(.string a.src : Value), .string a.dst, .int .i64 a.from_, .int .i64 a.to_, .int .u32 a.seq, .int .u32 a.ack, .int .i64 a.flags, .int .i64 a.win, .int .i64 a.urg, .int .i64 a.mss, .int .i64 a.scale, .bool (a.sack), .slice a.ba a.bn a.bc, .bool (a.timed), .int .u32 a.time, .int .u32 a.echo, .string a.data, .int .i64 a.side, .int .i64 1], .pointer (some ⟨n1, 0, none⟩), .pointer (some ⟨n3, 0, none⟩), .bool false, undef, u6, u7, u8, u9, u10, u11, u12, u13, u14, u15, u16, u17, u18, u19, u20, u21, u22, u23, u24, .bool bb, undef, undef, undef, undef, undef, undef, undef, undef, undef, undef, undef, undef, undef, undef, undef, undef, undef, undef, undef, undef, undef, undef, undef, undef, undef, undef, undef, undef, undef, undef, undef, undef, undef, undef, undef, undef, undef, undef, undef, undef, undef, undef, undef, undef, undef, undef, undef, undef, undef, undef, undef, undef, undef, undef, undef, undef, undef, undef, undef, undef, undef, undef, undef, undef, undef, undef, undef, undef, undef, undef, undef, undef, undef, undef, undef, undef, undef, undef, undef, undef, undef, undef, undef, undef, undef, undef, undef, undef, undef, undef, undef, undef, undef, undef, undef], []⟩ w5 := by
    clear hT0 hBn1 hBn3
    intro u6 u7 u8 u9 u10 u11 u12 u13 u14 u15 u16 u17 u18 u19 u20 u21 u22 u23 u24 u_ bb w5 hbb hBn1 hBn3 hT0
    subst hbb
    refine hK3 _ _ ?_
    refine wp_cond_split (t := !sideB r.side a.side) rfl (fun c6 => ?_) (fun c6 => ?_)
    · skip
      refine wp_seq_k fun K4 hK4 => ?_
      refine wl_region ?_
      refine dw_val (by kernel_rfl) (.bool false) (by kernel_rfl) ?_
      simp only [Act.put, List.setIfInBounds_toArray, List.set_cons_zero, List.set_cons_succ]
      refine wl_nil ?_
      refine hK4 _ _ ?_
      refine wp_ret ?_
      repeat (first | with_reducible refine ret_then ?_ | with_reducible refine ret_block ?_)
      refine bodyPost_ret (v := .bool false) (by kernel_rfl) rfl ?_
      try rw [hcls] at c6
      refine ⟨ret_bool ?_, hT0.toBelow⟩
      unfold oneK andI
      simp at c6
      first | (simp [c6]; done) | (simp [c6]; intro h1 h2; simp [h1, h2] at c6; done)
    · skip
      refine wp_skip ?_
      refine hK2 _ _ ?_
      refine wp_seq_k fun K5 hK5 => ?_
      refine wl_region ?_
      refine dw_newSlice (by kernel_rfl) [(.int .i64 1 : Value), .int .i64 2, .int .i64 4, .int .i64 8] 3 4 (by kernel_rfl) ?_
      intro n7 w8 hnn7 hsn7 hBn7 hTn7
      have hnen1n7 : n1 ≠ n7 := by have := hBn1.lt; omega
      have hnen3n7 : n3 ≠ n7 := by have := hBn3.lt; omega
      have hgen7 : w.heap.size ≤ n7 := by have := hT0.size; omega
      replace hBn1 := hBn1.keep hTn7 (fun h => h)
      replace hBn3 := hBn3.keep hTn7 (fun h => h)
      replace hT0 := hT0.trans hTn7 (fun _ _ h => h.elim)
      simp only [Act.put, List.setIfInBounds_toArray, List.set_cons_zero, List.set_cons_succ]
      refine dw_val (by kernel_rfl) (.pointer (some ⟨n3, 18, none⟩)) (by kernel_rfl) ?_
      simp only [Act.put, List.setIfInBounds_toArray, List.set_cons_zero, List.set_cons_succ]
      refine dw_cell (by kernel_rfl) 3 (.tmp 27) rfl n3 18 rfl _ _ hBn3 (.int .i64 1) rfl _ Try.underlying3 rfl ?_
      simp only [Act.put, List.setIfInBounds_toArray, List.set_cons_zero, List.set_cons_succ]
      refine dw_val (by kernel_rfl) (.pointer (some ⟨n7, 1, none⟩)) (ev_index 55 3 (.tmp 26) (.tmp 28) rfl n7 0 4 4 1 1 .i64 rfl rfl (by omega) Try.underlying55 (by kernel_rfl) (1) (by omega)) ?_
      simp only [Act.put, List.setIfInBounds_toArray, List.set_cons_zero, List.set_cons_succ]
      refine dw_cell (by kernel_rfl) 3 (.tmp 29) rfl n7 1 rfl _ _ hBn7 (.int .i64 2) rfl _ Try.underlying3 rfl ?_
      simp only [Act.put, List.setIfInBounds_toArray, List.set_cons_zero, List.set_cons_succ]
      refine dw_val (by kernel_rfl) (.int .i64 2) (by kernel_rfl) ?_
      simp only [Act.put, List.setIfInBounds_toArray, List.set_cons_zero, List.set_cons_succ]
      refine wl_nil ?_
      refine hK5 _ _ ?_
      refine wp_seq_k fun K6 hK6 => ?_
      refine wp_seq_k fun K7 hK7 => ?_
      refine wl_region ?_
      refine dw_val (by kernel_rfl) (.pointer (some ⟨n1, 12, none⟩)) (by kernel_rfl) ?_
      simp only [Act.put, List.setIfInBounds_toArray, List.set_cons_zero, List.set_cons_succ]
      refine dw_cell (by kernel_rfl) 3 (.tmp 31) rfl n1 12 rfl _ _ hBn1 (.int .i64 r.classes) rfl _ Try.underlying3 rfl ?_
      simp only [Act.put, List.setIfInBounds_toArray, List.set_cons_zero, List.set_cons_succ]
      refine dw_val (by kernel_rfl) (.int .i64 2) (by kernel_rfl) ?_
      simp only [Act.put, List.setIfInBounds_toArray, List.set_cons_zero, List.set_cons_succ]
      refine dw_val (by kernel_rfl) (.int .i64 (IntKind.i64.wrap (Int.tdiv r.classes 2))) (by kernel_rfl) ?_
      simp only [Act.put, List.setIfInBounds_toArray, List.set_cons_zero, List.set_cons_succ]
      refine dw_val (by kernel_rfl) (.int .i64 (Int.tmod (IntKind.i64.wrap (Int.tdiv r.classes 2)) 2)) (by kernel_rfl) ?_
      simp only [Act.put, List.setIfInBounds_toArray, List.set_cons_zero, List.set_cons_succ]
      refine dw_val (by kernel_rfl) (.bool ((Int.tmod (IntKind.i64.wrap (Int.tdiv r.classes 2)) 2) == 0)) (by kernel_rfl) ?_
      simp only [Act.put, List.setIfInBounds_toArray, List.set_cons_zero, List.set_cons_succ]
      refine wl_nil ?_
      refine hK7 _ _ ?_
      refine wp_cond_split (t := (Int.tmod (IntKind.i64.wrap (Int.tdiv r.classes 2)) 2) == 0) rfl (fun c9 => ?_) (fun c9 => ?_)
      · skip
        refine wp_seq_k fun K8 hK8 => ?_
        refine wl_region ?_
        refine dw_val (by kernel_rfl) (.bool false) (by kernel_rfl) ?_
        simp only [Act.put, List.setIfInBounds_toArray, List.set_cons_zero, List.set_cons_succ]
        refine wl_nil ?_
        refine hK8 _ _ ?_
        refine wp_ret ?_
        repeat (first | with_reducible refine ret_then ?_ | with_reducible refine ret_block ?_)
        refine bodyPost_ret (v := .bool false) (by kernel_rfl) rfl ?_
        try rw [hcls] at c6
        try rw [hcls] at c9
        refine ⟨ret_bool ?_, hT0.toBelow⟩
        unfold oneK andI
        simp at c6 c9
        first | (simp [c6, c9]; done) | (simp [c6, c9]; intro h1 h2; simp [h1, h2] at c9; done)
      · skip
        refine wp_skip ?_
        refine hK6 _ _ ?_
        refine wp_seq_k fun K9 hK9 => ?_
        refine wp_seq_k fun K10 hK10 => ?_
        refine wl_region ?_
        refine dw_val (by kernel_rfl) (.pointer (some ⟨n3, 18, none⟩)) (by kernel_rfl) ?_
        simp only [Act.put, List.setIfInBounds_toArray, List.set_cons_zero, List.set_cons_succ]
        refine dw_cell (by kernel_rfl) 3 (.tmp 37) rfl n3 18 rfl _ _ hBn3 (.int .i64 1) rfl _ Try.underlying3 rfl ?_
        simp only [Act.put, List.setIfInBounds_toArray, List.set_cons_zero, List.set_cons_succ]
        refine dw_val (by kernel_rfl) (.bool false) (by kernel_rfl) ?_
        simp only [Act.put, List.setIfInBounds_toArray, List.set_cons_zero, List.set_cons_succ]
        refine wl_nil ?_
        refine hK10 _ _ ?_
        refine wp_cond_false rfl ?_
        refine wp_skip ?_
        refine hK9 _ _ ?_
        refine wp_seq_k fun K11 hK11 => ?_
        refine wp_seq_k fun K12 hK12 => ?_
        have hJK12 : ∀ (u65 u66 u67 u68 u69 u70 u71 u72 u73 u74 u75 u76 u77 u78 u79 u80 u81 u82 u83 u84 u85 u86 u87 u88 u89 u90 u91 u_ : Value) (bb : Bool) (w10 : World), bb = (!(mayB r.fb r.fn a.src && mayB r.tb r.tn a.dst)) → Blk w10 n1 [(.bool (r.acc) : Value), .int .i64 r.side, .string r.fb, .int .i64 r.fn, .string r.tb, .int .i64 r.tn, .int .i64 r.s0, .int .i64 r.s1, .int .i64 r.d0, .int .i64 r.d1, .int .i64 r.mask, .int .i64 r.flags, .int .i64 r.classes] 45 → Blk w10 n3 [(.string a.src : Value), .string a.dst, .int .i64 a.from_, .int .i64 a.to_, .int .u32 a.seq, .int .u32 a.ack, .int .i64 a.flags, .int .i64 a.win, .int .i64 a.urg, .int .i64 a.mss, .int .i64 a.scale, .bool (a.sack), .slice a.ba a.bn a.bc, .bool (a.timed), .int .u32 a.time, .int .u32 a.echo, .string a.data, .int .i64 a.side, .int .i64 1] 37 → Blk w10 n7 [(.int .i64 1 : Value), .int .i64 2, .int .i64 4, .int .i64 8] 3 → Touch (fun _ => False) w w10 → K12 ⟨#[(.agg #[(.bool (r.acc) : Value), .int .i64 r.side, .string r.fb, .int .i64 r.fn, .string r.tb, .int .i64 r.tn, .int .i64 r.s0, .int .i64 r.s1, .int .i64 r.d0, .int .i64 r.d1, .int .i64 r.mask, .int .i64 r.flags, .int .i64 r.classes] : Value), .agg #[(.string a.src : Value), .string a.dst, .int .i64 a.from_, .int .i64 a.to_, .int .u32 a.seq, .int .u32 a.ack, .int .i64 a.flags, .int .i64 a.win, .int .i64 a.urg, .int .i64 a.mss, .int .i64 a.scale, .bool (a.sack), .slice a.ba a.bn a.bc, .bool (a.timed), .int .u32 a.time, .int .u32 a.echo, .string a.data, .int .i64 a.side, .int .i64 1], .pointer (some ⟨n1, 0, none⟩), .pointer (some ⟨n3, 0, none⟩), .bool false, .int .i64 2, u6, u7, u8, u9, u10, u11, u12, u13, u14, u15, u16, u17, u18, u19, u20, u21, u22, u23, u24, .bool (!sideB r.side a.side), .slice (some ⟨n7, 0, none⟩) 4 4, .pointer (some ⟨n3, 18, none⟩), .int .i64 1, .pointer (some ⟨n7, 1, none⟩), .int .i64 2, .pointer (some ⟨n1, 12, none⟩), .int .i64 r.classes, .int .i64 2, .int .i64 (IntKind.i64.wrap (Int.tdiv r.classes 2)), .int .i64 (Int.tmod (IntKind.i64.wrap (Int.tdiv r.classes 2)) 2), .bool ((Int.tmod (IntKind.i64.wrap (Int.tdiv r.classes 2)) 2) == 0), .pointer (some ⟨n3, 18, none⟩), .int .i64 1, .bool false, undef, undef, undef, undef, undef, undef, undef, undef, undef, undef, undef, undef, undef, undef, undef, undef, undef, undef, undef, undef, undef, undef, undef, undef, undef, u65, u66, u67, u68, u69, u70, u71, u72, u73, u74, u75, u76, u77, u78, u79, u80, u81, u82, u83, u84, u85, u86, u87, u88, u89, u90, u91, .bool bb, undef, undef, undef, undef, undef, undef, undef, undef, undef, undef, undef, undef, undef, undef, undef, undef, undef, undef, undef, undef, undef, undef, undef, undef, undef, undef, undef, undef], []⟩ w10 := by
          clear hT0 hBn1 hBn3 hBn7
          intro u65 u66 u67 u68 u69 u70 u71 u72 u73 u74 u75 u76 u77 u78 u79 u80 u81 u82 u83 u84 u85 u86 u87 u88 u89 u90 u91 u_ bb w10 hbb hBn1 hBn3 hBn7 hT0
          subst hbb
          refine hK12 _ _ ?_
          refine wp_cond_split (t := !(mayB r.fb r.fn a.src && mayB r.tb r.tn a.dst)) rfl (fun c11 => ?_) (fun c11 => ?_)
          · skip
            refine wp_seq_k fun K13 hK13 => ?_
            refine wl_region ?_
            refine dw_val (by kernel_rfl) (.bool false) (by kernel_rfl) ?_
            simp only [Act.put, List.setIfInBounds_toArray, List.set_cons_zero, List.set_cons_succ]
            refine wl_nil ?_
            refine hK13 _ _ ?_
            refine wp_ret ?_
            repeat (first | with_reducible refine ret_then ?_ | with_reducible refine ret_block ?_)
            refine bodyPost_ret (v := .bool false) (by kernel_rfl) rfl ?_
            try rw [hcls] at c6
            try rw [hcls] at c9
            try rw [hcls] at c11
            refine ⟨ret_bool ?_, hT0.toBelow⟩
            unfold oneK andI
            simp at c6 c9 c11
            first | (simp [c6, c9, c11]; done) | (simp [c6, c9, c11]; intro h1 h2; simp [h1, h2] at c11; done)
          · skip
            refine wp_skip ?_
            refine hK11 _ _ ?_
            refine wp_seq_k fun K14 hK14 => ?_
            refine wl_region ?_
            refine dw_val (by kernel_rfl) (.pointer (some ⟨n3, 0, none⟩)) (by kernel_rfl) ?_
            simp only [Act.put, List.setIfInBounds_toArray, List.set_cons_zero, List.set_cons_succ]
            refine dw_val (by kernel_rfl) (.pointer (some ⟨n3, 2, none⟩)) (by kernel_rfl) ?_
            simp only [Act.put, List.setIfInBounds_toArray, List.set_cons_zero, List.set_cons_succ]
            refine dw_val (by kernel_rfl) (.pointer (some ⟨n3, 2, none⟩)) (by kernel_rfl) ?_
            simp only [Act.put, List.setIfInBounds_toArray, List.set_cons_zero, List.set_cons_succ]
            refine dw_cell (by kernel_rfl) 3 (.tmp 95) rfl n3 2 rfl _ _ hBn3 (.int .i64 a.from_) rfl _ Try.underlying3 rfl ?_
            simp only [Act.put, List.setIfInBounds_toArray, List.set_cons_zero, List.set_cons_succ]
            refine dw_val (by kernel_rfl) (.pointer (some ⟨n1, 6, none⟩)) (by kernel_rfl) ?_
            simp only [Act.put, List.setIfInBounds_toArray, List.set_cons_zero, List.set_cons_succ]
            refine dw_row (by kernel_rfl) 41 (.tmp 97) rfl n1 6 rfl _ _ hBn1 [(.int .i64 r.s0 : Value), .int .i64 r.s1] rfl _ Try.underlying41 rfl (by kernel_rfl) ?_
            simp only [Act.put, List.setIfInBounds_toArray, List.set_cons_zero, List.set_cons_succ]
            refine dw_ret (by kernel_rfl) 36 #[(.int .i64 a.from_ : Value), .agg #[(.int .i64 r.s0 : Value), .int .i64 r.s1]] (by kernel_rfl) (rwithin_any a.from_ r.s0 r.s1 w10) ?_
            intro w12 hb
            have ht13 : Touch (fun _ => False) w10 w12 := Touch.none hb
            replace hBn1 := hBn1.keep ht13 (fun h => h)
            replace hBn3 := hBn3.keep ht13 (fun h => h)
            replace hBn7 := hBn7.keep ht13 (fun h => h)
            replace hT0 := hT0.trans ht13 (fun _ _ h => h.elim)
            clear hb
            simp only [Act.put, List.setIfInBounds_toArray, List.set_cons_zero, List.set_cons_succ]
            refine dw_bool (by kernel_rfl) (inB a.from_ r.s0 r.s1) (by kernel_rfl) (fun c14 => ?_) (fun c14 => ?_)
            · skip
              simp only [Act.put, List.setIfInBounds_toArray, List.set_cons_zero, List.set_cons_succ]
              refine dw_val (by kernel_rfl) (.pointer (some ⟨n3, 0, none⟩)) (by kernel_rfl) ?_
              simp only [Act.put, List.setIfInBounds_toArray, List.set_cons_zero, List.set_cons_succ]
              refine dw_val (by kernel_rfl) (.pointer (some ⟨n3, 2, none⟩)) (by kernel_rfl) ?_
              simp only [Act.put, List.setIfInBounds_toArray, List.set_cons_zero, List.set_cons_succ]
              refine dw_val (by kernel_rfl) (.pointer (some ⟨n3, 3, none⟩)) (by kernel_rfl) ?_
              simp only [Act.put, List.setIfInBounds_toArray, List.set_cons_zero, List.set_cons_succ]
              refine dw_cell (by kernel_rfl) 3 (.tmp 103) rfl n3 3 rfl _ _ hBn3 (.int .i64 a.to_) rfl _ Try.underlying3 rfl ?_
              simp only [Act.put, List.setIfInBounds_toArray, List.set_cons_zero, List.set_cons_succ]
              refine dw_val (by kernel_rfl) (.pointer (some ⟨n1, 8, none⟩)) (by kernel_rfl) ?_
              simp only [Act.put, List.setIfInBounds_toArray, List.set_cons_zero, List.set_cons_succ]
              refine dw_row (by kernel_rfl) 41 (.tmp 105) rfl n1 8 rfl _ _ hBn1 [(.int .i64 r.d0 : Value), .int .i64 r.d1] rfl _ Try.underlying41 rfl (by kernel_rfl) ?_
              simp only [Act.put, List.setIfInBounds_toArray, List.set_cons_zero, List.set_cons_succ]
              refine dw_ret (by kernel_rfl) 36 #[(.int .i64 a.to_ : Value), .agg #[(.int .i64 r.d0 : Value), .int .i64 r.d1]] (by kernel_rfl) (rwithin_any a.to_ r.d0 r.d1 w12) ?_
              intro w15 hb
              have ht16 : Touch (fun _ => False) w12 w15 := Touch.none hb
              replace hBn1 := hBn1.keep ht16 (fun h => h)
              replace hBn3 := hBn3.keep ht16 (fun h => h)
              replace hBn7 := hBn7.keep ht16 (fun h => h)
              replace hT0 := hT0.trans ht16 (fun _ _ h => h.elim)
              clear hb
              simp only [Act.put, List.setIfInBounds_toArray, List.set_cons_zero, List.set_cons_succ]
              refine dw_val (by kernel_rfl) (.bool (inB a.to_ r.d0 r.d1)) (by kernel_rfl) ?_
              simp only [Act.put, List.setIfInBounds_toArray, List.set_cons_zero, List.set_cons_succ]
              refine dw_bool (by kernel_rfl) (inB a.to_ r.d0 r.d1) (by kernel_rfl) (fun c17 => ?_) (fun c17 => ?_)
              · skip
                simp only [Act.put, List.setIfInBounds_toArray, List.set_cons_zero, List.set_cons_succ]
                refine dw_val (by kernel_rfl) (.pointer (some ⟨n3, 0, none⟩)) (by kernel_rfl) ?_
                simp only [Act.put, List.setIfInBounds_toArray, List.set_cons_zero, List.set_cons_succ]
                refine dw_val (by kernel_rfl) (.pointer (some ⟨n3, 2, none⟩)) (by kernel_rfl) ?_
                simp only [Act.put, List.setIfInBounds_toArray, List.set_cons_zero, List.set_cons_succ]
                refine dw_val (by kernel_rfl) (.pointer (some ⟨n3, 6, none⟩)) (by kernel_rfl) ?_
                simp only [Act.put, List.setIfInBounds_toArray, List.set_cons_zero, List.set_cons_succ]
                refine dw_cell (by kernel_rfl) 3 (.tmp 112) rfl n3 6 rfl _ _ hBn3 (.int .i64 a.flags) rfl _ Try.underlying3 rfl ?_
                simp only [Act.put, List.setIfInBounds_toArray, List.set_cons_zero, List.set_cons_succ]
                refine dw_val (by kernel_rfl) (.pointer (some ⟨n1, 10, none⟩)) (by kernel_rfl) ?_
                simp only [Act.put, List.setIfInBounds_toArray, List.set_cons_zero, List.set_cons_succ]
                refine dw_cell (by kernel_rfl) 3 (.tmp 114) rfl n1 10 rfl _ _ hBn1 (.int .i64 r.mask) rfl _ Try.underlying3 rfl ?_
                simp only [Act.put, List.setIfInBounds_toArray, List.set_cons_zero, List.set_cons_succ]
                refine dw_val (by kernel_rfl) (.int .i64 (bits .and .i64 a.flags r.mask)) (by kernel_rfl) ?_
                simp only [Act.put, List.setIfInBounds_toArray, List.set_cons_zero, List.set_cons_succ]
                refine dw_val (by kernel_rfl) (.pointer (some ⟨n1, 11, none⟩)) (by kernel_rfl) ?_
                simp only [Act.put, List.setIfInBounds_toArray, List.set_cons_zero, List.set_cons_succ]
                refine dw_cell (by kernel_rfl) 3 (.tmp 117) rfl n1 11 rfl _ _ hBn1 (.int .i64 r.flags) rfl _ Try.underlying3 rfl ?_
                simp only [Act.put, List.setIfInBounds_toArray, List.set_cons_zero, List.set_cons_succ]
                refine dw_val (by kernel_rfl) (.bool ((bits .and .i64 a.flags r.mask) == r.flags)) (by kernel_rfl) ?_
                simp only [Act.put, List.setIfInBounds_toArray, List.set_cons_zero, List.set_cons_succ]
                refine dw_val (by kernel_rfl) (.bool ((bits .and .i64 a.flags r.mask) == r.flags)) (by kernel_rfl) ?_
                simp only [Act.put, List.setIfInBounds_toArray, List.set_cons_zero, List.set_cons_succ]
                refine dw_val (by kernel_rfl) (.bool ((bits .and .i64 a.flags r.mask) == r.flags)) (by kernel_rfl) ?_
                simp only [Act.put, List.setIfInBounds_toArray, List.set_cons_zero, List.set_cons_succ]
                refine wl_nil ?_
                refine hK14 _ _ ?_
                refine wp_ret ?_
                repeat (first | with_reducible refine ret_then ?_ | with_reducible refine ret_block ?_)
                refine bodyPost_ret (v := .bool ((bits .and .i64 a.flags r.mask) == r.flags)) (by kernel_rfl) rfl ?_
                try rw [hcls] at c6
                try rw [hcls] at c9
                try rw [hcls] at c11
                try rw [hcls] at c14
                try rw [hcls] at c17
                refine ⟨ret_bool ?_, hT0.toBelow⟩
                unfold oneK andI
                simp at c6 c9 c11 c14 c17
                first | (simp [c6, c9, c11, c14, c17]; done) | (simp [c6, c9, c11, c14, c17]; intro h1 h2; simp [h1, h2] at c17; done)
              · skip
                simp only [Act.put, List.setIfInBounds_toArray, List.set_cons_zero, List.set_cons_succ]
                refine dw_no (by kernel_rfl) ?_
                simp only [Act.put, List.setIfInBounds_toArray, List.set_cons_zero, List.set_cons_succ]
                refine dw_no (by kernel_rfl) ?_
                simp only [Act.put, List.setIfInBounds_toArray, List.set_cons_zero, List.set_cons_succ]
                refine dw_no (by kernel_rfl) ?_
                simp only [Act.put, List.setIfInBounds_toArray, List.set_cons_zero, List.set_cons_succ]
                refine dw_no (by kernel_rfl) ?_
                simp only [Act.put, List.setIfInBounds_toArray, List.set_cons_zero, List.set_cons_succ]
                refine dw_no (by kernel_rfl) ?_
                simp only [Act.put, List.setIfInBounds_toArray, List.set_cons_zero, List.set_cons_succ]
                refine dw_no (by kernel_rfl) ?_
                simp only [Act.put, List.setIfInBounds_toArray, List.set_cons_zero, List.set_cons_succ]
                refine dw_no (by kernel_rfl) ?_
                simp only [Act.put, List.setIfInBounds_toArray, List.set_cons_zero, List.set_cons_succ]
                refine dw_no (by kernel_rfl) ?_
                simp only [Act.put, List.setIfInBounds_toArray, List.set_cons_zero, List.set_cons_succ]
                refine dw_no (by kernel_rfl) ?_
                simp only [Act.put, List.setIfInBounds_toArray, List.set_cons_zero, List.set_cons_succ]
                refine dw_no (by kernel_rfl) ?_
                simp only [Act.put, List.setIfInBounds_toArray, List.set_cons_zero, List.set_cons_succ]
                refine dw_val (by kernel_rfl) (.bool false) (by kernel_rfl) ?_
                simp only [Act.put, List.setIfInBounds_toArray, List.set_cons_zero, List.set_cons_succ]
                refine dw_val (by kernel_rfl) (.bool false) (by kernel_rfl) ?_
                simp only [Act.put, List.setIfInBounds_toArray, List.set_cons_zero, List.set_cons_succ]
                refine wl_nil ?_
                refine hK14 _ _ ?_
                refine wp_ret ?_
                repeat (first | with_reducible refine ret_then ?_ | with_reducible refine ret_block ?_)
                refine bodyPost_ret (v := .bool false) (by kernel_rfl) rfl ?_
                try rw [hcls] at c6
                try rw [hcls] at c9
                try rw [hcls] at c11
                try rw [hcls] at c14
                try rw [hcls] at c17
                refine ⟨ret_bool ?_, hT0.toBelow⟩
                unfold oneK andI
                simp at c6 c9 c11 c14 c17
                first | (simp [c6, c9, c11, c14, c17]; done) | (simp [c6, c9, c11, c14, c17]; intro h1 h2; simp [h1, h2] at c17; done)
            · skip
              simp only [Act.put, List.setIfInBounds_toArray, List.set_cons_zero, List.set_cons_succ]
              refine dw_no (by kernel_rfl) ?_
              simp only [Act.put, List.setIfInBounds_toArray, List.set_cons_zero, List.set_cons_succ]
              refine dw_no (by kernel_rfl) ?_
              simp only [Act.put, List.setIfInBounds_toArray, List.set_cons_zero, List.set_cons_succ]
              refine dw_no (by kernel_rfl) ?_
              simp only [Act.put, List.setIfInBounds_toArray, List.set_cons_zero, List.set_cons_succ]
              refine dw_no (by kernel_rfl) ?_
              simp only [Act.put, List.setIfInBounds_toArray, List.set_cons_zero, List.set_cons_succ]
              refine dw_no (by kernel_rfl) ?_
              simp only [Act.put, List.setIfInBounds_toArray, List.set_cons_zero, List.set_cons_succ]
              refine dw_no (by kernel_rfl) ?_
              simp only [Act.put, List.setIfInBounds_toArray, List.set_cons_zero, List.set_cons_succ]
              refine dw_no (by kernel_rfl) ?_
              simp only [Act.put, List.setIfInBounds_toArray, List.set_cons_zero, List.set_cons_succ]
              refine dw_val (by kernel_rfl) (.bool false) (by kernel_rfl) ?_
              simp only [Act.put, List.setIfInBounds_toArray, List.set_cons_zero, List.set_cons_succ]
              refine dw_val (by kernel_rfl) (.bool false) (by kernel_rfl) ?_
              simp only [Act.put, List.setIfInBounds_toArray, List.set_cons_zero, List.set_cons_succ]
              refine dw_no (by kernel_rfl) ?_
              simp only [Act.put, List.setIfInBounds_toArray, List.set_cons_zero, List.set_cons_succ]
              refine dw_no (by kernel_rfl) ?_
              simp only [Act.put, List.setIfInBounds_toArray, List.set_cons_zero, List.set_cons_succ]
              refine dw_no (by kernel_rfl) ?_
              simp only [Act.put, List.setIfInBounds_toArray, List.set_cons_zero, List.set_cons_succ]
              refine dw_no (by kernel_rfl) ?_
              simp only [Act.put, List.setIfInBounds_toArray, List.set_cons_zero, List.set_cons_succ]
              refine dw_no (by kernel_rfl) ?_
              simp only [Act.put, List.setIfInBounds_toArray, List.set_cons_zero, List.set_cons_succ]
              refine dw_no (by kernel_rfl) ?_
              simp only [Act.put, List.setIfInBounds_toArray, List.set_cons_zero, List.set_cons_succ]
              refine dw_no (by kernel_rfl) ?_
              simp only [Act.put, List.setIfInBounds_toArray, List.set_cons_zero, List.set_cons_succ]
              refine dw_no (by kernel_rfl) ?_
              simp only [Act.put, List.setIfInBounds_toArray, List.set_cons_zero, List.set_cons_succ]
              refine dw_no (by kernel_rfl) ?_
              simp only [Act.put, List.setIfInBounds_toArray, List.set_cons_zero, List.set_cons_succ]
              refine dw_no (by kernel_rfl) ?_
              simp only [Act.put, List.setIfInBounds_toArray, List.set_cons_zero, List.set_cons_succ]
              refine dw_val (by kernel_rfl) (.bool false) (by kernel_rfl) ?_
              simp only [Act.put, List.setIfInBounds_toArray, List.set_cons_zero, List.set_cons_succ]
              refine dw_val (by kernel_rfl) (.bool false) (by kernel_rfl) ?_
              simp only [Act.put, List.setIfInBounds_toArray, List.set_cons_zero, List.set_cons_succ]
              refine wl_nil ?_
              refine hK14 _ _ ?_
              refine wp_ret ?_
              repeat (first | with_reducible refine ret_then ?_ | with_reducible refine ret_block ?_)
              refine bodyPost_ret (v := .bool false) (by kernel_rfl) rfl ?_
              try rw [hcls] at c6
              try rw [hcls] at c9
              try rw [hcls] at c11
              try rw [hcls] at c14
              refine ⟨ret_bool ?_, hT0.toBelow⟩
              unfold oneK andI
              simp at c6 c9 c11 c14
              first | (simp [c6, c9, c11, c14]; done) | (simp [c6, c9, c11, c14]; intro h1 h2; simp [h1, h2] at c14; done)
        refine wl_region ?_
        refine dw_val (by kernel_rfl) (.pointer (some ⟨n1, 2, none⟩)) (by kernel_rfl) ?_
        simp only [Act.put, List.setIfInBounds_toArray, List.set_cons_zero, List.set_cons_succ]
        refine dw_row (by kernel_rfl) 40 (.tmp 65) rfl n1 2 rfl _ _ hBn1 [(.string r.fb : Value), .int .i64 r.fn] rfl _ Try.underlying40 rfl (by kernel_rfl) ?_
        simp only [Act.put, List.setIfInBounds_toArray, List.set_cons_zero, List.set_cons_succ]
        refine dw_ret (by kernel_rfl) 34 #[(.agg #[(.string r.fb : Value), .int .i64 r.fn] : Value)] (by kernel_rfl) (rwide_any r.fb r.fn w8) ?_
        intro w18 hb
        have ht19 : Touch (fun _ => False) w8 w18 := Touch.none hb
        replace hBn1 := hBn1.keep ht19 (fun h => h)
        replace hBn3 := hBn3.keep ht19 (fun h => h)
        replace hBn7 := hBn7.keep ht19 (fun h => h)
        replace hT0 := hT0.trans ht19 (fun _ _ h => h.elim)
        clear hb
        simp only [Act.put, List.setIfInBounds_toArray, List.set_cons_zero, List.set_cons_succ]
        refine dw_val (by kernel_rfl) (.bool (!(wideB r.fb r.fn))) (by kernel_rfl) ?_
        simp only [Act.put, List.setIfInBounds_toArray, List.set_cons_zero, List.set_cons_succ]
        refine dw_bool (by kernel_rfl) (!(wideB r.fb r.fn)) (by kernel_rfl) (fun c20 => ?_) (fun c20 => ?_)
        · skip
          simp only [Act.put, List.setIfInBounds_toArray, List.set_cons_zero, List.set_cons_succ]
          refine dw_val (by kernel_rfl) (.pointer (some ⟨n1, 2, none⟩)) (by kernel_rfl) ?_
          simp only [Act.put, List.setIfInBounds_toArray, List.set_cons_zero, List.set_cons_succ]
          refine dw_row (by kernel_rfl) 40 (.tmp 70) rfl n1 2 rfl _ _ hBn1 [(.string r.fb : Value), .int .i64 r.fn] rfl _ Try.underlying40 rfl (by kernel_rfl) ?_
          simp only [Act.put, List.setIfInBounds_toArray, List.set_cons_zero, List.set_cons_succ]
          refine dw_val (by kernel_rfl) (.pointer (some ⟨n3, 0, none⟩)) (by kernel_rfl) ?_
          simp only [Act.put, List.setIfInBounds_toArray, List.set_cons_zero, List.set_cons_succ]
          refine dw_val (by kernel_rfl) (.pointer (some ⟨n3, 0, none⟩)) (by kernel_rfl) ?_
          simp only [Act.put, List.setIfInBounds_toArray, List.set_cons_zero, List.set_cons_succ]
          refine dw_row (by kernel_rfl) 24 (.tmp 73) rfl n3 0 rfl _ _ hBn3 [(.string a.src : Value)] rfl _ Try.underlying24 rfl (by kernel_rfl) ?_
          simp only [Act.put, List.setIfInBounds_toArray, List.set_cons_zero, List.set_cons_succ]
          refine dw_ret (by kernel_rfl) 35 #[(.agg #[(.string r.fb : Value), .int .i64 r.fn] : Value), .agg #[(.string a.src : Value)]] (by kernel_rfl) (rhas_any r.fb r.fn a.src (by first | assumption | omega) (by first | assumption | omega) w18) ?_
          intro w21 hb
          have ht22 : Touch (fun _ => False) w18 w21 := Touch.none hb
          replace hBn1 := hBn1.keep ht22 (fun h => h)
          replace hBn3 := hBn3.keep ht22 (fun h => h)
          replace hBn7 := hBn7.keep ht22 (fun h => h)
          replace hT0 := hT0.trans ht22 (fun _ _ h => h.elim)
          clear hb
          simp only [Act.put, List.setIfInBounds_toArray, List.set_cons_zero, List.set_cons_succ]
          refine dw_val (by kernel_rfl) (.bool (!(hasB r.fb r.fn a.src))) (by kernel_rfl) ?_
          simp only [Act.put, List.setIfInBounds_toArray, List.set_cons_zero, List.set_cons_succ]
          refine dw_val (by kernel_rfl) (.bool (!(hasB r.fb r.fn a.src))) (by kernel_rfl) ?_
          simp only [Act.put, List.setIfInBounds_toArray, List.set_cons_zero, List.set_cons_succ]
          refine dw_bool (by kernel_rfl) (!(hasB r.fb r.fn a.src)) (by kernel_rfl) (fun c23 => ?_) (fun c23 => ?_)
          · skip
            simp only [Act.put, List.setIfInBounds_toArray, List.set_cons_zero, List.set_cons_succ]
            refine dw_no (by kernel_rfl) ?_
            simp only [Act.put, List.setIfInBounds_toArray, List.set_cons_zero, List.set_cons_succ]
            refine dw_no (by kernel_rfl) ?_
            simp only [Act.put, List.setIfInBounds_toArray, List.set_cons_zero, List.set_cons_succ]
            refine dw_no (by kernel_rfl) ?_
            simp only [Act.put, List.setIfInBounds_toArray, List.set_cons_zero, List.set_cons_succ]
            refine dw_no (by kernel_rfl) ?_
            simp only [Act.put, List.setIfInBounds_toArray, List.set_cons_zero, List.set_cons_succ]
            refine dw_no (by kernel_rfl) ?_
            simp only [Act.put, List.setIfInBounds_toArray, List.set_cons_zero, List.set_cons_succ]
            refine dw_no (by kernel_rfl) ?_
            simp only [Act.put, List.setIfInBounds_toArray, List.set_cons_zero, List.set_cons_succ]
            refine dw_no (by kernel_rfl) ?_
            simp only [Act.put, List.setIfInBounds_toArray, List.set_cons_zero, List.set_cons_succ]
            refine dw_no (by kernel_rfl) ?_
            simp only [Act.put, List.setIfInBounds_toArray, List.set_cons_zero, List.set_cons_succ]
            refine dw_no (by kernel_rfl) ?_
            simp only [Act.put, List.setIfInBounds_toArray, List.set_cons_zero, List.set_cons_succ]
            refine dw_no (by kernel_rfl) ?_
            simp only [Act.put, List.setIfInBounds_toArray, List.set_cons_zero, List.set_cons_succ]
            refine dw_no (by kernel_rfl) ?_
            simp only [Act.put, List.setIfInBounds_toArray, List.set_cons_zero, List.set_cons_succ]
            refine dw_no (by kernel_rfl) ?_
            simp only [Act.put, List.setIfInBounds_toArray, List.set_cons_zero, List.set_cons_succ]
            refine dw_no (by kernel_rfl) ?_
            simp only [Act.put, List.setIfInBounds_toArray, List.set_cons_zero, List.set_cons_succ]
            refine dw_val (by kernel_rfl) (.bool true) (by kernel_rfl) ?_
            simp only [Act.put, List.setIfInBounds_toArray, List.set_cons_zero, List.set_cons_succ]
            refine wl_nil ?_
            skip
            exact hJK12 _ _ _ _ _ _ _ _ _ _ _ _ _ _ _ _ _ _ _ _ _ _ _ _ _ _ _ undef true _ (by unfold mayB; simp [c6, c9, c20, c23]) hBn1 hBn3 hBn7 hT0
          · skip
            simp only [Act.put, List.setIfInBounds_toArray, List.set_cons_zero, List.set_cons_succ]
            refine dw_val (by kernel_rfl) (.pointer (some ⟨n1, 4, none⟩)) (by kernel_rfl) ?_
            simp only [Act.put, List.setIfInBounds_toArray, List.set_cons_zero, List.set_cons_succ]
            refine dw_row (by kernel_rfl) 40 (.tmp 79) rfl n1 4 rfl _ _ hBn1 [(.string r.tb : Value), .int .i64 r.tn] rfl _ Try.underlying40 rfl (by kernel_rfl) ?_
            simp only [Act.put, List.setIfInBounds_toArray, List.set_cons_zero, List.set_cons_succ]
            refine dw_ret (by kernel_rfl) 34 #[(.agg #[(.string r.tb : Value), .int .i64 r.tn] : Value)] (by kernel_rfl) (rwide_any r.tb r.tn w21) ?_
            intro w24 hb
            have ht25 : Touch (fun _ => False) w21 w24 := Touch.none hb
            replace hBn1 := hBn1.keep ht25 (fun h => h)
            replace hBn3 := hBn3.keep ht25 (fun h => h)
            replace hBn7 := hBn7.keep ht25 (fun h => h)
            replace hT0 := hT0.trans ht25 (fun _ _ h => h.elim)
            clear hb
            simp only [Act.put, List.setIfInBounds_toArray, List.set_cons_zero, List.set_cons_succ]
            refine dw_val (by kernel_rfl) (.bool (!(wideB r.tb r.tn))) (by kernel_rfl) ?_
            simp only [Act.put, List.setIfInBounds_toArray, List.set_cons_zero, List.set_cons_succ]
            refine dw_bool (by kernel_rfl) (!(wideB r.tb r.tn)) (by kernel_rfl) (fun c26 => ?_) (fun c26 => ?_)
            · skip
              simp only [Act.put, List.setIfInBounds_toArray, List.set_cons_zero, List.set_cons_succ]
              refine dw_val (by kernel_rfl) (.pointer (some ⟨n1, 4, none⟩)) (by kernel_rfl) ?_
              simp only [Act.put, List.setIfInBounds_toArray, List.set_cons_zero, List.set_cons_succ]
              refine dw_row (by kernel_rfl) 40 (.tmp 84) rfl n1 4 rfl _ _ hBn1 [(.string r.tb : Value), .int .i64 r.tn] rfl _ Try.underlying40 rfl (by kernel_rfl) ?_
              simp only [Act.put, List.setIfInBounds_toArray, List.set_cons_zero, List.set_cons_succ]
              refine dw_val (by kernel_rfl) (.pointer (some ⟨n3, 0, none⟩)) (by kernel_rfl) ?_
              simp only [Act.put, List.setIfInBounds_toArray, List.set_cons_zero, List.set_cons_succ]
              refine dw_val (by kernel_rfl) (.pointer (some ⟨n3, 1, none⟩)) (by kernel_rfl) ?_
              simp only [Act.put, List.setIfInBounds_toArray, List.set_cons_zero, List.set_cons_succ]
              refine dw_row (by kernel_rfl) 24 (.tmp 87) rfl n3 1 rfl _ _ hBn3 [(.string a.dst : Value)] rfl _ Try.underlying24 rfl (by kernel_rfl) ?_
              simp only [Act.put, List.setIfInBounds_toArray, List.set_cons_zero, List.set_cons_succ]
              refine dw_ret (by kernel_rfl) 35 #[(.agg #[(.string r.tb : Value), .int .i64 r.tn] : Value), .agg #[(.string a.dst : Value)]] (by kernel_rfl) (rhas_any r.tb r.tn a.dst (by first | assumption | omega) (by first | assumption | omega) w24) ?_
              intro w27 hb
              have ht28 : Touch (fun _ => False) w24 w27 := Touch.none hb
              replace hBn1 := hBn1.keep ht28 (fun h => h)
              replace hBn3 := hBn3.keep ht28 (fun h => h)
              replace hBn7 := hBn7.keep ht28 (fun h => h)
              replace hT0 := hT0.trans ht28 (fun _ _ h => h.elim)
              clear hb
              simp only [Act.put, List.setIfInBounds_toArray, List.set_cons_zero, List.set_cons_succ]
              refine dw_val (by kernel_rfl) (.bool (!(hasB r.tb r.tn a.dst))) (by kernel_rfl) ?_
              simp only [Act.put, List.setIfInBounds_toArray, List.set_cons_zero, List.set_cons_succ]
              refine dw_val (by kernel_rfl) (.bool (!(hasB r.tb r.tn a.dst))) (by kernel_rfl) ?_
              simp only [Act.put, List.setIfInBounds_toArray, List.set_cons_zero, List.set_cons_succ]
              refine dw_val (by kernel_rfl) (.bool (!(hasB r.tb r.tn a.dst))) (by kernel_rfl) ?_
              simp only [Act.put, List.setIfInBounds_toArray, List.set_cons_zero, List.set_cons_succ]
              refine wl_nil ?_
              skip
              exact hJK12 _ _ _ _ _ _ _ _ _ _ _ _ _ _ _ _ _ _ _ _ _ _ _ _ _ _ _ undef (!(hasB r.tb r.tn a.dst)) _ (by unfold mayB; simp [c6, c9, c20, c23, c26]) hBn1 hBn3 hBn7 hT0
            · skip
              simp only [Act.put, List.setIfInBounds_toArray, List.set_cons_zero, List.set_cons_succ]
              refine dw_no (by kernel_rfl) ?_
              simp only [Act.put, List.setIfInBounds_toArray, List.set_cons_zero, List.set_cons_succ]
              refine dw_no (by kernel_rfl) ?_
              simp only [Act.put, List.setIfInBounds_toArray, List.set_cons_zero, List.set_cons_succ]
              refine dw_no (by kernel_rfl) ?_
              simp only [Act.put, List.setIfInBounds_toArray, List.set_cons_zero, List.set_cons_succ]
              refine dw_no (by kernel_rfl) ?_
              simp only [Act.put, List.setIfInBounds_toArray, List.set_cons_zero, List.set_cons_succ]
              refine dw_no (by kernel_rfl) ?_
              simp only [Act.put, List.setIfInBounds_toArray, List.set_cons_zero, List.set_cons_succ]
              refine dw_no (by kernel_rfl) ?_
              simp only [Act.put, List.setIfInBounds_toArray, List.set_cons_zero, List.set_cons_succ]
              refine dw_no (by kernel_rfl) ?_
              simp only [Act.put, List.setIfInBounds_toArray, List.set_cons_zero, List.set_cons_succ]
              refine dw_val (by kernel_rfl) (.bool false) (by kernel_rfl) ?_
              simp only [Act.put, List.setIfInBounds_toArray, List.set_cons_zero, List.set_cons_succ]
              refine dw_val (by kernel_rfl) (.bool false) (by kernel_rfl) ?_
              simp only [Act.put, List.setIfInBounds_toArray, List.set_cons_zero, List.set_cons_succ]
              refine wl_nil ?_
              skip
              exact hJK12 _ _ _ _ _ _ _ _ _ _ _ _ _ _ _ _ _ _ _ _ _ _ _ _ _ _ _ undef false _ (by unfold mayB; simp [c6, c9, c20, c23, c26]) hBn1 hBn3 hBn7 hT0
        · skip
          simp only [Act.put, List.setIfInBounds_toArray, List.set_cons_zero, List.set_cons_succ]
          refine dw_no (by kernel_rfl) ?_
          simp only [Act.put, List.setIfInBounds_toArray, List.set_cons_zero, List.set_cons_succ]
          refine dw_no (by kernel_rfl) ?_
          simp only [Act.put, List.setIfInBounds_toArray, List.set_cons_zero, List.set_cons_succ]
          refine dw_no (by kernel_rfl) ?_
          simp only [Act.put, List.setIfInBounds_toArray, List.set_cons_zero, List.set_cons_succ]
          refine dw_no (by kernel_rfl) ?_
          simp only [Act.put, List.setIfInBounds_toArray, List.set_cons_zero, List.set_cons_succ]
          refine dw_no (by kernel_rfl) ?_
          simp only [Act.put, List.setIfInBounds_toArray, List.set_cons_zero, List.set_cons_succ]
          refine dw_no (by kernel_rfl) ?_
          simp only [Act.put, List.setIfInBounds_toArray, List.set_cons_zero, List.set_cons_succ]
          refine dw_no (by kernel_rfl) ?_
          simp only [Act.put, List.setIfInBounds_toArray, List.set_cons_zero, List.set_cons_succ]
          refine dw_val (by kernel_rfl) (.bool false) (by kernel_rfl) ?_
          simp only [Act.put, List.setIfInBounds_toArray, List.set_cons_zero, List.set_cons_succ]
          refine dw_val (by kernel_rfl) (.bool false) (by kernel_rfl) ?_
          simp only [Act.put, List.setIfInBounds_toArray, List.set_cons_zero, List.set_cons_succ]
          refine dw_val (by kernel_rfl) (.pointer (some ⟨n1, 4, none⟩)) (by kernel_rfl) ?_
          simp only [Act.put, List.setIfInBounds_toArray, List.set_cons_zero, List.set_cons_succ]
          refine dw_row (by kernel_rfl) 40 (.tmp 79) rfl n1 4 rfl _ _ hBn1 [(.string r.tb : Value), .int .i64 r.tn] rfl _ Try.underlying40 rfl (by kernel_rfl) ?_
          simp only [Act.put, List.setIfInBounds_toArray, List.set_cons_zero, List.set_cons_succ]
          refine dw_ret (by kernel_rfl) 34 #[(.agg #[(.string r.tb : Value), .int .i64 r.tn] : Value)] (by kernel_rfl) (rwide_any r.tb r.tn w18) ?_
          intro w29 hb
          have ht30 : Touch (fun _ => False) w18 w29 := Touch.none hb
          replace hBn1 := hBn1.keep ht30 (fun h => h)
          replace hBn3 := hBn3.keep ht30 (fun h => h)
          replace hBn7 := hBn7.keep ht30 (fun h => h)
          replace hT0 := hT0.trans ht30 (fun _ _ h => h.elim)
          clear hb
          simp only [Act.put, List.setIfInBounds_toArray, List.set_cons_zero, List.set_cons_succ]
          refine dw_val (by kernel_rfl) (.bool (!(wideB r.tb r.tn))) (by kernel_rfl) ?_
          simp only [Act.put, List.setIfInBounds_toArray, List.set_cons_zero, List.set_cons_succ]
          refine dw_bool (by kernel_rfl) (!(wideB r.tb r.tn)) (by kernel_rfl) (fun c31 => ?_) (fun c31 => ?_)
          · skip
            simp only [Act.put, List.setIfInBounds_toArray, List.set_cons_zero, List.set_cons_succ]
            refine dw_val (by kernel_rfl) (.pointer (some ⟨n1, 4, none⟩)) (by kernel_rfl) ?_
            simp only [Act.put, List.setIfInBounds_toArray, List.set_cons_zero, List.set_cons_succ]
            refine dw_row (by kernel_rfl) 40 (.tmp 84) rfl n1 4 rfl _ _ hBn1 [(.string r.tb : Value), .int .i64 r.tn] rfl _ Try.underlying40 rfl (by kernel_rfl) ?_
            simp only [Act.put, List.setIfInBounds_toArray, List.set_cons_zero, List.set_cons_succ]
            refine dw_val (by kernel_rfl) (.pointer (some ⟨n3, 0, none⟩)) (by kernel_rfl) ?_
            simp only [Act.put, List.setIfInBounds_toArray, List.set_cons_zero, List.set_cons_succ]
            refine dw_val (by kernel_rfl) (.pointer (some ⟨n3, 1, none⟩)) (by kernel_rfl) ?_
            simp only [Act.put, List.setIfInBounds_toArray, List.set_cons_zero, List.set_cons_succ]
            refine dw_row (by kernel_rfl) 24 (.tmp 87) rfl n3 1 rfl _ _ hBn3 [(.string a.dst : Value)] rfl _ Try.underlying24 rfl (by kernel_rfl) ?_
            simp only [Act.put, List.setIfInBounds_toArray, List.set_cons_zero, List.set_cons_succ]
            refine dw_ret (by kernel_rfl) 35 #[(.agg #[(.string r.tb : Value), .int .i64 r.tn] : Value), .agg #[(.string a.dst : Value)]] (by kernel_rfl) (rhas_any r.tb r.tn a.dst (by first | assumption | omega) (by first | assumption | omega) w29) ?_
            intro w32 hb
            have ht33 : Touch (fun _ => False) w29 w32 := Touch.none hb
            replace hBn1 := hBn1.keep ht33 (fun h => h)
            replace hBn3 := hBn3.keep ht33 (fun h => h)
            replace hBn7 := hBn7.keep ht33 (fun h => h)
            replace hT0 := hT0.trans ht33 (fun _ _ h => h.elim)
            clear hb
            simp only [Act.put, List.setIfInBounds_toArray, List.set_cons_zero, List.set_cons_succ]
            refine dw_val (by kernel_rfl) (.bool (!(hasB r.tb r.tn a.dst))) (by kernel_rfl) ?_
            simp only [Act.put, List.setIfInBounds_toArray, List.set_cons_zero, List.set_cons_succ]
            refine dw_val (by kernel_rfl) (.bool (!(hasB r.tb r.tn a.dst))) (by kernel_rfl) ?_
            simp only [Act.put, List.setIfInBounds_toArray, List.set_cons_zero, List.set_cons_succ]
            refine dw_val (by kernel_rfl) (.bool (!(hasB r.tb r.tn a.dst))) (by kernel_rfl) ?_
            simp only [Act.put, List.setIfInBounds_toArray, List.set_cons_zero, List.set_cons_succ]
            refine wl_nil ?_
            skip
            exact hJK12 _ _ _ _ _ _ _ _ _ _ _ _ _ _ _ _ _ _ _ _ _ _ _ _ _ _ _ undef (!(hasB r.tb r.tn a.dst)) _ (by unfold mayB; simp [c6, c9, c20, c31]) hBn1 hBn3 hBn7 hT0
          · skip
            simp only [Act.put, List.setIfInBounds_toArray, List.set_cons_zero, List.set_cons_succ]
            refine dw_no (by kernel_rfl) ?_
            simp only [Act.put, List.setIfInBounds_toArray, List.set_cons_zero, List.set_cons_succ]
            refine dw_no (by kernel_rfl) ?_
            simp only [Act.put, List.setIfInBounds_toArray, List.set_cons_zero, List.set_cons_succ]
            refine dw_no (by kernel_rfl) ?_
            simp only [Act.put, List.setIfInBounds_toArray, List.set_cons_zero, List.set_cons_succ]
            refine dw_no (by kernel_rfl) ?_
            simp only [Act.put, List.setIfInBounds_toArray, List.set_cons_zero, List.set_cons_succ]
            refine dw_no (by kernel_rfl) ?_
            simp only [Act.put, List.setIfInBounds_toArray, List.set_cons_zero, List.set_cons_succ]
            refine dw_no (by kernel_rfl) ?_
            simp only [Act.put, List.setIfInBounds_toArray, List.set_cons_zero, List.set_cons_succ]
            refine dw_no (by kernel_rfl) ?_
            simp only [Act.put, List.setIfInBounds_toArray, List.set_cons_zero, List.set_cons_succ]
            refine dw_val (by kernel_rfl) (.bool false) (by kernel_rfl) ?_
            simp only [Act.put, List.setIfInBounds_toArray, List.set_cons_zero, List.set_cons_succ]
            refine dw_val (by kernel_rfl) (.bool false) (by kernel_rfl) ?_
            simp only [Act.put, List.setIfInBounds_toArray, List.set_cons_zero, List.set_cons_succ]
            refine wl_nil ?_
            skip
            exact hJK12 _ _ _ _ _ _ _ _ _ _ _ _ _ _ _ _ _ _ _ _ _ _ _ _ _ _ _ undef false _ (by unfold mayB; simp [c6, c9, c20, c31]) hBn1 hBn3 hBn7 hT0
  refine wl_region ?_
  refine dw_val (by kernel_rfl) (.pointer (some ⟨n1, 1, none⟩)) (by kernel_rfl) ?_
  simp only [Act.put, List.setIfInBounds_toArray, List.set_cons_zero, List.set_cons_succ]
  refine dw_cell (by kernel_rfl) 3 (.tmp 6) rfl n1 1 rfl _ _ hBn1 (.int .i64 r.side) rfl _ Try.underlying3 rfl ?_
  simp only [Act.put, List.setIfInBounds_toArray, List.set_cons_zero, List.set_cons_succ]
  refine dw_val (by kernel_rfl) (.bool (r.side != 0)) (by kernel_rfl) ?_
  simp only [Act.put, List.setIfInBounds_toArray, List.set_cons_zero, List.set_cons_succ]
  refine dw_bool (by kernel_rfl) (r.side != 0) (by kernel_rfl) (fun c34 => ?_) (fun c34 => ?_)
  · skip
    simp only [Act.put, List.setIfInBounds_toArray, List.set_cons_zero, List.set_cons_succ]
    refine dw_val (by kernel_rfl) (.pointer (some ⟨n1, 1, none⟩)) (by kernel_rfl) ?_
    simp only [Act.put, List.setIfInBounds_toArray, List.set_cons_zero, List.set_cons_succ]
    refine dw_cell (by kernel_rfl) 3 (.tmp 10) rfl n1 1 rfl _ _ hBn1 (.int .i64 r.side) rfl _ Try.underlying3 rfl ?_
    simp only [Act.put, List.setIfInBounds_toArray, List.set_cons_zero, List.set_cons_succ]
    refine dw_val (by kernel_rfl) (.pointer (some ⟨n3, 17, none⟩)) (by kernel_rfl) ?_
    simp only [Act.put, List.setIfInBounds_toArray, List.set_cons_zero, List.set_cons_succ]
    refine dw_cell (by kernel_rfl) 3 (.tmp 12) rfl n3 17 rfl _ _ hBn3 (.int .i64 a.side) rfl _ Try.underlying3 rfl ?_
    simp only [Act.put, List.setIfInBounds_toArray, List.set_cons_zero, List.set_cons_succ]
    refine dw_val (by kernel_rfl) (.bool (r.side != a.side)) (by kernel_rfl) ?_
    simp only [Act.put, List.setIfInBounds_toArray, List.set_cons_zero, List.set_cons_succ]
    refine dw_val (by kernel_rfl) (.bool (r.side != a.side)) (by kernel_rfl) ?_
    simp only [Act.put, List.setIfInBounds_toArray, List.set_cons_zero, List.set_cons_succ]
    refine dw_bool (by kernel_rfl) (r.side != a.side) (by kernel_rfl) (fun c35 => ?_) (fun c35 => ?_)
    · skip
      simp only [Act.put, List.setIfInBounds_toArray, List.set_cons_zero, List.set_cons_succ]
      refine dw_no (by kernel_rfl) ?_
      simp only [Act.put, List.setIfInBounds_toArray, List.set_cons_zero, List.set_cons_succ]
      refine dw_no (by kernel_rfl) ?_
      simp only [Act.put, List.setIfInBounds_toArray, List.set_cons_zero, List.set_cons_succ]
      refine dw_no (by kernel_rfl) ?_
      simp only [Act.put, List.setIfInBounds_toArray, List.set_cons_zero, List.set_cons_succ]
      refine dw_val (by kernel_rfl) (.bool true) (by kernel_rfl) ?_
      simp only [Act.put, List.setIfInBounds_toArray, List.set_cons_zero, List.set_cons_succ]
      refine dw_val (by kernel_rfl) (.bool true) (by kernel_rfl) ?_
      simp only [Act.put, List.setIfInBounds_toArray, List.set_cons_zero, List.set_cons_succ]
      refine dw_no (by kernel_rfl) ?_
      simp only [Act.put, List.setIfInBounds_toArray, List.set_cons_zero, List.set_cons_succ]
      refine dw_no (by kernel_rfl) ?_
      simp only [Act.put, List.setIfInBounds_toArray, List.set_cons_zero, List.set_cons_succ]
      refine dw_no (by kernel_rfl) ?_
      simp only [Act.put, List.setIfInBounds_toArray, List.set_cons_zero, List.set_cons_succ]
      refine dw_val (by kernel_rfl) (.bool true) (by kernel_rfl) ?_
      simp only [Act.put, List.setIfInBounds_toArray, List.set_cons_zero, List.set_cons_succ]
      refine wl_nil ?_
      skip
      exact hJK3 _ _ _ _ _ _ _ _ _ _ _ _ _ _ _ _ _ _ _ undef true _ (by unfold sideB; simp at c34 c35; simp [c34, c35]) hBn1 hBn3 hT0
    · skip
      simp only [Act.put, List.setIfInBounds_toArray, List.set_cons_zero, List.set_cons_succ]
      refine dw_val (by kernel_rfl) (.pointer (some ⟨n3, 18, none⟩)) (by kernel_rfl) ?_
      simp only [Act.put, List.setIfInBounds_toArray, List.set_cons_zero, List.set_cons_succ]
      refine dw_cell (by kernel_rfl) 3 (.tmp 17) rfl n3 18 rfl _ _ hBn3 (.int .i64 1) rfl _ Try.underlying3 rfl ?_
      simp only [Act.put, List.setIfInBounds_toArray, List.set_cons_zero, List.set_cons_succ]
      refine dw_val (by kernel_rfl) (.bool false) (by kernel_rfl) ?_
      simp only [Act.put, List.setIfInBounds_toArray, List.set_cons_zero, List.set_cons_succ]
      refine dw_val (by kernel_rfl) (.bool false) (by kernel_rfl) ?_
      simp only [Act.put, List.setIfInBounds_toArray, List.set_cons_zero, List.set_cons_succ]
      refine dw_val (by kernel_rfl) (.bool false) (by kernel_rfl) ?_
      simp only [Act.put, List.setIfInBounds_toArray, List.set_cons_zero, List.set_cons_succ]
      refine dw_val (by kernel_rfl) (.pointer (some ⟨n3, 18, none⟩)) (by kernel_rfl) ?_
      simp only [Act.put, List.setIfInBounds_toArray, List.set_cons_zero, List.set_cons_succ]
      refine dw_cell (by kernel_rfl) 3 (.tmp 22) rfl n3 18 rfl _ _ hBn3 (.int .i64 1) rfl _ Try.underlying3 rfl ?_
      simp only [Act.put, List.setIfInBounds_toArray, List.set_cons_zero, List.set_cons_succ]
      refine dw_val (by kernel_rfl) (.bool false) (by kernel_rfl) ?_
      simp only [Act.put, List.setIfInBounds_toArray, List.set_cons_zero, List.set_cons_succ]
      refine dw_val (by kernel_rfl) (.bool false) (by kernel_rfl) ?_
      simp only [Act.put, List.setIfInBounds_toArray, List.set_cons_zero, List.set_cons_succ]
      refine wl_nil ?_
      skip
      exact hJK3 _ _ _ _ _ _ _ _ _ _ _ _ _ _ _ _ _ _ _ undef false _ (by unfold sideB; simp at c34 c35; simp [c34, c35]) hBn1 hBn3 hT0
  · skip
    simp only [Act.put, List.setIfInBounds_toArray, List.set_cons_zero, List.set_cons_succ]
    refine dw_no (by kernel_rfl) ?_
    simp only [Act.put, List.setIfInBounds_toArray, List.set_cons_zero, List.set_cons_succ]
    refine dw_no (by kernel_rfl) ?_
    simp only [Act.put, List.setIfInBounds_toArray, List.set_cons_zero, List.set_cons_succ]
    refine dw_no (by kernel_rfl) ?_
    simp only [Act.put, List.setIfInBounds_toArray, List.set_cons_zero, List.set_cons_succ]
    refine dw_no (by kernel_rfl) ?_
    simp only [Act.put, List.setIfInBounds_toArray, List.set_cons_zero, List.set_cons_succ]
    refine dw_no (by kernel_rfl) ?_
    simp only [Act.put, List.setIfInBounds_toArray, List.set_cons_zero, List.set_cons_succ]
    refine dw_val (by kernel_rfl) (.bool false) (by kernel_rfl) ?_
    simp only [Act.put, List.setIfInBounds_toArray, List.set_cons_zero, List.set_cons_succ]
    refine dw_val (by kernel_rfl) (.bool false) (by kernel_rfl) ?_
    simp only [Act.put, List.setIfInBounds_toArray, List.set_cons_zero, List.set_cons_succ]
    refine dw_val (by kernel_rfl) (.pointer (some ⟨n3, 18, none⟩)) (by kernel_rfl) ?_
    simp only [Act.put, List.setIfInBounds_toArray, List.set_cons_zero, List.set_cons_succ]
    refine dw_cell (by kernel_rfl) 3 (.tmp 17) rfl n3 18 rfl _ _ hBn3 (.int .i64 1) rfl _ Try.underlying3 rfl ?_
    simp only [Act.put, List.setIfInBounds_toArray, List.set_cons_zero, List.set_cons_succ]
    refine dw_val (by kernel_rfl) (.bool false) (by kernel_rfl) ?_
    simp only [Act.put, List.setIfInBounds_toArray, List.set_cons_zero, List.set_cons_succ]
    refine dw_val (by kernel_rfl) (.bool false) (by kernel_rfl) ?_
    simp only [Act.put, List.setIfInBounds_toArray, List.set_cons_zero, List.set_cons_succ]
    refine dw_val (by kernel_rfl) (.bool false) (by kernel_rfl) ?_
    simp only [Act.put, List.setIfInBounds_toArray, List.set_cons_zero, List.set_cons_succ]
    refine dw_val (by kernel_rfl) (.pointer (some ⟨n3, 18, none⟩)) (by kernel_rfl) ?_
    simp only [Act.put, List.setIfInBounds_toArray, List.set_cons_zero, List.set_cons_succ]
    refine dw_cell (by kernel_rfl) 3 (.tmp 22) rfl n3 18 rfl _ _ hBn3 (.int .i64 1) rfl _ Try.underlying3 rfl ?_
    simp only [Act.put, List.setIfInBounds_toArray, List.set_cons_zero, List.set_cons_succ]
    refine dw_val (by kernel_rfl) (.bool false) (by kernel_rfl) ?_
    simp only [Act.put, List.setIfInBounds_toArray, List.set_cons_zero, List.set_cons_succ]
    refine dw_val (by kernel_rfl) (.bool false) (by kernel_rfl) ?_
    simp only [Act.put, List.setIfInBounds_toArray, List.set_cons_zero, List.set_cons_succ]
    refine wl_nil ?_
    skip
    exact hJK3 _ _ _ _ _ _ _ _ _ _ _ _ _ _ _ _ _ _ _ undef false _ (by unfold sideB; simp at c34; simp [c34]) hBn1 hBn3 hT0
set_option maxRecDepth 100000 in
set_option maxHeartbeats 4000000 in
theorem rone_2 (r : Rl) (a : Ak) (hc1 : 1 ≤ r.classes) (hc2 : r.classes ≤ 15) (hfb : r.fb.size ≤ 100) (htb : r.tb.size ≤ 100) (hsrc : a.src.size ≤ 100) (hdst : a.dst.size ≤ 100) (w : World) :
    Calls Try.prog 11 #[.agg #[.bool (r.acc), .int .i64 r.side, .string r.fb, .int .i64 r.fn, .string r.tb, .int .i64 r.tn, .int .i64 r.s0, .int .i64 r.s1, .int .i64 r.d0, .int .i64 r.d1, .int .i64 r.mask, .int .i64 r.flags, .int .i64 r.classes], .agg #[.string a.src, .string a.dst, .int .i64 a.from_, .int .i64 a.to_, .int .u32 a.seq, .int .u32 a.ack, .int .i64 a.flags, .int .i64 a.win, .int .i64 a.urg, .int .i64 a.mss, .int .i64 a.scale, .bool (a.sack), .slice a.ba a.bn a.bc, .bool (a.timed), .int .u32 a.time, .int .u32 a.echo, .string a.data, .int .i64 a.side, .int .i64 2]] w fun e w' => e = .returned (.bool (oneK r a 2)) ∧ Below w.heap.size w w' := by
  have hcls := (cls_lem r.classes hc1 hc2).2.2.1
  have hT0 := Touch.refl (fun _ => False) w
  go_enter Try.func11, Try.ntmps11
  refine wp_seq_k fun K1 hK1 => ?_
  refine wl_region ?_
  refine dw_new (by kernel_rfl) [(.bool (r.acc) : Value), .int .i64 r.side, .string r.fb, .int .i64 r.fn, .string r.tb, .int .i64 r.tn, .int .i64 r.s0, .int .i64 r.s1, .int .i64 r.d0, .int .i64 r.d1, .int .i64 r.mask, .int .i64 r.flags, .int .i64 r.classes] 45 (by kernel_rfl) ?_
  intro n1 w2 hnn1 hsn1 hBn1 hTn1
  have hgen1 : w.heap.size ≤ n1 := by have := hT0.size; omega
  replace hT0 := hT0.trans hTn1 (fun _ _ h => h.elim)
  simp only [Act.put, List.setIfInBounds_toArray, List.set_cons_zero, List.set_cons_succ]
  refine dw_new (by kernel_rfl) [(.string a.src : Value), .string a.dst, .int .i64 a.from_, .int .i64 a.to_, .int .u32 a.seq, .int .u32 a.ack, .int .i64 a.flags, .int .i64 a.win, .int .i64 a.urg, .int .i64 a.mss, .int .i64 a.scale, .bool (a.sack), .slice a.ba a.bn a.bc, .bool (a.timed), .int .u32 a.time, .int .u32 a.echo, .string a.data, .int .i64 a.side, .int .i64 2] 37 (by kernel_rfl) ?_
  intro n3 w4 hnn3 hsn3 hBn3 hTn3
  have hnen1n3 : n1 ≠ n3 := by have := hBn1.lt; omega
  have hgen3 : w.heap.size ≤ n3 := by have := hT0.size; omega
  replace hBn1 := hBn1.keep hTn3 (fun h => h)
  replace hT0 := hT0.trans hTn3 (fun _ _ h => h.elim)
  simp only [Act.put, List.setIfInBounds_toArray, List.set_cons_zero, List.set_cons_succ]
  refine dw_val (by kernel_rfl) (.bool false) (by kernel_rfl) ?_
  simp only [Act.put, List.setIfInBounds_toArray, List.set_cons_zero, List.set_cons_succ]
  refine wl_nil ?_
  refine hK1 _ _ ?_
  refine wp_seq_k fun K2 hK2 => ?_
  refine wp_seq_k fun K3 hK3 => ?_
  have hJK3 : ∀ (u6 u7 u8 u9 u10 u11 u12 u13 u14 u15 u16 u17 u18 u19 u20 u21 u22 u23 u24 u_ : Value) (bb : Bool) (w5 : World), bb = (!sideB r.side a.side) → Blk w5 n1 [(.bool (r.acc) : Value), .int .i64 r.side, .string r.fb, .int .i64 r.fn, .string r.tb, .int .i64 r.tn, .int .i64 r.s0, .int .i64 r.s1, .int .i64 r.d0, .int .i64 r.d1, .int .i64 r.mask, .int .i64 r.flags, .int .i64 r.classes] 45 → Blk w5 n3 [(.string a.src : Value), .string a.dst, .int .i64 a.from_, .int .i64 a.to_, .int .u32 a.seq, .int .u32 a.ack, .int .i64 a.flags, .int .i64 a.win, .int .i64 a.urg, .int .i64 a.mss, .int .i64 a.scale, .bool (a.sack), .slice a.ba a.bn a.bc, .bool (a.timed), .int .u32 a.time, .int .u32 a.echo, .string a.data, .int .i64 a.side, .int .i64 2] 37 → Touch (fun _ => False) w w5 → K3 ⟨#[(.agg #[(.bool (r.acc) : Value), .int .i64 r.side, .string r.fb, .int .i64 r.fn, .string r.tb, .int .i64 r.tn, .int .i64 r.s0, .int .i64 r.s1, .int .i64 r.d0, .int .i64 r.d1, .int .i64 r.mask, .int .i64 r.flags, .int .i64 r.classes] : Value), .agg #[(.string a.src : Value), .string a.dst, .int .i64 a.from_, .int .i64 a.to_, .int .u32 a.seq, .int .u32 a.ack, .int .i64 a.flags, .int .i64 a.win, .int .i64 a.urg, .int .i64 a.mss, .int .i64 a.scale, .bool (a.sack), .slice a.ba a.bn a.bc, .bool (a.timed), .int .u32 a.time, .int .u32 a.echo, .string a.data, .int .i64 a.side, .int .i64 2], .pointer (some ⟨n1, 0, none⟩), .pointer (some ⟨n3, 0, none⟩), .bool false, undef, u6, u7, u8, u9, u10, u11, u12, u13, u14, u15, u16, u17, u18, u19, u20, u21, u22, u23, u24, .bool bb, undef, undef, undef, undef, undef, undef, undef, undef, undef, undef, undef, undef, undef, undef, undef, undef, undef, undef, undef, undef, undef, undef, undef, undef, undef, undef, undef, undef, undef, undef, undef, undef, undef, undef, undef, undef, undef, undef, undef, undef, undef, undef, undef, undef, undef, undef, undef, undef, undef, undef, undef, undef, undef, undef, undef, undef, undef, undef, undef, undef, undef, undef, undef, undef, undef, undef, undef, undef, undef, undef, undef, undef, undef, undef, undef, undef, undef, undef, undef, undef, undef, undef, undef, undef, undef, undef, undef, undef, undef, undef, undef, undef, undef, undef, undef], []⟩ w5 := by
    clear hT0 hBn1 hBn3
    intro u6 u7 u8 u9 u10 u11 u12 u13 u14 u15 u16 u17 u18 u19 u20 u21 u22 u23 u24 u_ bb w5 hbb hBn1 hBn3 hT0
    subst hbb
    refine hK3 _ _ ?_
    refine wp_cond_split (t := !sideB r.side a.side) rfl (fun c6 => ?_) (fun c6 => ?_)
    · skip
      refine wp_seq_k fun K4 hK4 => ?_
      refine wl_region ?_
      refine dw_val (by kernel_rfl) (.bool false) (by kernel_rfl) ?_
      simp only [Act.put, List.setIfInBounds_toArray, List.set_cons_zero, List.set_cons_succ]
      refine wl_nil ?_
      refine hK4 _ _ ?_
      refine wp_ret ?_
      repeat (first | with_reducible refine ret_then ?_ | with_reducible refine ret_block ?_)
      refine bodyPost_ret (v := .bool false) (by kernel_rfl) rfl ?_
      try rw [hcls] at c6
      refine ⟨ret_bool ?_, hT0.toBelow⟩
      unfold oneK andI
      simp at c6
      first | (simp [c6]; done) | (simp [c6]; intro h1 h2; simp [h1, h2] at c6; done)
    · skip
      refine wp_skip ?_
      refine hK2 _ _ ?_
      refine wp_seq_k fun K5 hK5 => ?_
      refine wl_region ?_
      refine dw_newSlice (by kernel_rfl) [(.int .i64 1 : Value), .int .i64 2, .int .i64 4, .int .i64 8] 3 4 (by kernel_rfl) ?_
      intro n7 w8 hnn7 hsn7 hBn7 hTn7
      have hnen1n7 : n1 ≠ n7 := by have := hBn1.lt; omega
      have hnen3n7 : n3 ≠ n7 := by have := hBn3.lt; omega
      have hgen7 : w.heap.size ≤ n7 := by have := hT0.size; omega
      replace hBn1 := hBn1.keep hTn7 (fun h => h)
      replace hBn3 := hBn3.keep hTn7 (fun h => h)
      replace hT0 := hT0.trans hTn7 (fun _ _ h => h.elim)
      simp only [Act.put, List.setIfInBounds_toArray, List.set_cons_zero, List.set_cons_succ]
      refine dw_val (by kernel_rfl) (.pointer (some ⟨n3, 18, none⟩)) (by kernel_rfl) ?_
      simp only [Act.put, List.setIfInBounds_toArray, List.set_cons_zero, List.set_cons_succ]
      refine dw_cell (by kernel_rfl) 3 (.tmp 27) rfl n3 18 rfl _ _ hBn3 (.int .i64 2) rfl _ Try.underlying3 rfl ?_
      simp only [Act.put, List.setIfInBounds_toArray, List.set_cons_zero, List.set_cons_succ]
      refine dw_val (by kernel_rfl) (.pointer (some ⟨n7, 2, none⟩)) (ev_index 55 3 (.tmp 26) (.tmp 28) rfl n7 0 4 4 2 1 .i64 rfl rfl (by omega) Try.underlying55 (by kernel_rfl) (2) (by omega)) ?_
      simp only [Act.put, List.setIfInBounds_toArray, List.set_cons_zero, List.set_cons_succ]
      refine dw_cell (by kernel_rfl) 3 (.tmp 29) rfl n7 2 rfl _ _ hBn7 (.int .i64 4) rfl _ Try.underlying3 rfl ?_
      simp only [Act.put, List.setIfInBounds_toArray, List.set_cons_zero, List.set_cons_succ]
      refine dw_val (by kernel_rfl) (.int .i64 4) (by kernel_rfl) ?_
      simp only [Act.put, List.setIfInBounds_toArray, List.set_cons_zero, List.set_cons_succ]
      refine wl_nil ?_
      refine hK5 _ _ ?_
      refine wp_seq_k fun K6 hK6 => ?_
      refine wp_seq_k fun K7 hK7 => ?_
      refine wl_region ?_
      refine dw_val (by kernel_rfl) (.pointer (some ⟨n1, 12, none⟩)) (by kernel_rfl) ?_
      simp only [Act.put, List.setIfInBounds_toArray, List.set_cons_zero, List.set_cons_succ]
      refine dw_cell (by kernel_rfl) 3 (.tmp 31) rfl n1 12 rfl _ _ hBn1 (.int .i64 r.classes) rfl _ Try.underlying3 rfl ?_
      simp only [Act.put, List.setIfInBounds_toArray, List.set_cons_zero, List.set_cons_succ]
      refine dw_val (by kernel_rfl) (.int .i64 4) (by kernel_rfl) ?_
      simp only [Act.put, List.setIfInBounds_toArray, List.set_cons_zero, List.set_cons_succ]
      refine dw_val (by kernel_rfl) (.int .i64 (IntKind.i64.wrap (Int.tdiv r.classes 4))) (by kernel_rfl) ?_
      simp only [Act.put, List.setIfInBounds_toArray, List.set_cons_zero, List.set_cons_succ]
      refine dw_val (by kernel_rfl) (.int .i64 (Int.tmod (IntKind.i64.wrap (Int.tdiv r.classes 4)) 2)) (by kernel_rfl) ?_
      simp only [Act.put, List.setIfInBounds_toArray, List.set_cons_zero, List.set_cons_succ]
      refine dw_val (by kernel_rfl) (.bool ((Int.tmod (IntKind.i64.wrap (Int.tdiv r.classes 4)) 2) == 0)) (by kernel_rfl) ?_
      simp only [Act.put, List.setIfInBounds_toArray, List.set_cons_zero, List.set_cons_succ]
      refine wl_nil ?_
      refine hK7 _ _ ?_
      refine wp_cond_split (t := (Int.tmod (IntKind.i64.wrap (Int.tdiv r.classes 4)) 2) == 0) rfl (fun c9 => ?_) (fun c9 => ?_)
      · skip
        refine wp_seq_k fun K8 hK8 => ?_
        refine wl_region ?_
        refine dw_val (by kernel_rfl) (.bool false) (by kernel_rfl) ?_
        simp only [Act.put, List.setIfInBounds_toArray, List.set_cons_zero, List.set_cons_succ]
        refine wl_nil ?_
        refine hK8 _ _ ?_
        refine wp_ret ?_
        repeat (first | with_reducible refine ret_then ?_ | with_reducible refine ret_block ?_)
        refine bodyPost_ret (v := .bool false) (by kernel_rfl) rfl ?_
        try rw [hcls] at c6
        try rw [hcls] at c9
        refine ⟨ret_bool ?_, hT0.toBelow⟩
        unfold oneK andI
        simp at c6 c9
        first | (simp [c6, c9]; done) | (simp [c6, c9]; intro h1 h2; simp [h1, h2] at c9; done)
      · skip
        refine wp_skip ?_
        refine hK6 _ _ ?_
        refine wp_seq_k fun K9 hK9 => ?_
        refine wp_seq_k fun K10 hK10 => ?_
        refine wl_region ?_
        refine dw_val (by kernel_rfl) (.pointer (some ⟨n3, 18, none⟩)) (by kernel_rfl) ?_
        simp only [Act.put, List.setIfInBounds_toArray, List.set_cons_zero, List.set_cons_succ]
        refine dw_cell (by kernel_rfl) 3 (.tmp 37) rfl n3 18 rfl _ _ hBn3 (.int .i64 2) rfl _ Try.underlying3 rfl ?_
        simp only [Act.put, List.setIfInBounds_toArray, List.set_cons_zero, List.set_cons_succ]
        refine dw_val (by kernel_rfl) (.bool false) (by kernel_rfl) ?_
        simp only [Act.put, List.setIfInBounds_toArray, List.set_cons_zero, List.set_cons_succ]
        refine wl_nil ?_
        refine hK10 _ _ ?_
        refine wp_cond_false rfl ?_
        refine wp_skip ?_
        refine hK9 _ _ ?_
        refine wp_seq_k fun K11 hK11 => ?_
        refine wp_seq_k fun K12 hK12 => ?_
        have hJK12 : ∀ (u65 u66 u67 u68 u69 u70 u71 u72 u73 u74 u75 u76 u77 u78 u79 u80 u81 u82 u83 u84 u85 u86 u87 u88 u89 u90 u91 u_ : Value) (bb : Bool) (w10 : World), bb = (!(mayB r.fb r.fn a.src && mayB r.tb r.tn a.dst)) → Blk w10 n1 [(.bool (r.acc) : Value), .int .i64 r.side, .string r.fb, .int .i64 r.fn, .string r.tb, .int .i64 r.tn, .int .i64 r.s0, .int .i64 r.s1, .int .i64 r.d0, .int .i64 r.d1, .int .i64 r.mask, .int .i64 r.flags, .int .i64 r.classes] 45 → Blk w10 n3 [(.string a.src : Value), .string a.dst, .int .i64 a.from_, .int .i64 a.to_, .int .u32 a.seq, .int .u32 a.ack, .int .i64 a.flags, .int .i64 a.win, .int .i64 a.urg, .int .i64 a.mss, .int .i64 a.scale, .bool (a.sack), .slice a.ba a.bn a.bc, .bool (a.timed), .int .u32 a.time, .int .u32 a.echo, .string a.data, .int .i64 a.side, .int .i64 2] 37 → Blk w10 n7 [(.int .i64 1 : Value), .int .i64 2, .int .i64 4, .int .i64 8] 3 → Touch (fun _ => False) w w10 → K12 ⟨#[(.agg #[(.bool (r.acc) : Value), .int .i64 r.side, .string r.fb, .int .i64 r.fn, .string r.tb, .int .i64 r.tn, .int .i64 r.s0, .int .i64 r.s1, .int .i64 r.d0, .int .i64 r.d1, .int .i64 r.mask, .int .i64 r.flags, .int .i64 r.classes] : Value), .agg #[(.string a.src : Value), .string a.dst, .int .i64 a.from_, .int .i64 a.to_, .int .u32 a.seq, .int .u32 a.ack, .int .i64 a.flags, .int .i64 a.win, .int .i64 a.urg, .int .i64 a.mss, .int .i64 a.scale, .bool (a.sack), .slice a.ba a.bn a.bc, .bool (a.timed), .int .u32 a.time, .int .u32 a.echo, .string a.data, .int .i64 a.side, .int .i64 2], .pointer (some ⟨n1, 0, none⟩), .pointer (some ⟨n3, 0, none⟩), .bool false, .int .i64 4, u6, u7, u8, u9, u10, u11, u12, u13, u14, u15, u16, u17, u18, u19, u20, u21, u22, u23, u24, .bool (!sideB r.side a.side), .slice (some ⟨n7, 0, none⟩) 4 4, .pointer (some ⟨n3, 18, none⟩), .int .i64 2, .pointer (some ⟨n7, 2, none⟩), .int .i64 4, .pointer (some ⟨n1, 12, none⟩), .int .i64 r.classes, .int .i64 4, .int .i64 (IntKind.i64.wrap (Int.tdiv r.classes 4)), .int .i64 (Int.tmod (IntKind.i64.wrap (Int.tdiv r.classes 4)) 2), .bool ((Int.tmod (IntKind.i64.wrap (Int.tdiv r.classes 4)) 2) == 0), .pointer (some ⟨n3, 18, none⟩), .int .i64 2, .bool false, undef, undef, undef, undef, undef, undef, undef, undef, undef, undef, undef, undef, undef, undef, undef, undef, undef, undef, undef, undef, undef, undef, undef, undef, undef, u65, u66, u67, u68, u69, u70, u71, u72, u73, u74, u75, u76, u77, u78, u79, u80, u81, u82, u83, u84, u85, u86, u87, u88, u89, u90, u91, .bool bb, undef, undef, undef, undef, undef, undef, undef, undef, undef, undef, undef, undef, undef, undef, undef, undef, undef, undef, undef, undef, undef, undef, undef, undef, undef, undef, undef, undef], []⟩ w10 := by
          clear hT0 hBn1 hBn3 hBn7
          intro u65 u66 u67 u68 u69 u70 u71 u72 u73 u74 u75 u76 u77 u78 u79 u80 u81 u82 u83 u84 u85 u86 u87 u88 u89 u90 u91 u_ bb w10 hbb hBn1 hBn3 hBn7 hT0
          subst hbb
          refine hK12 _ _ ?_
          refine wp_cond_split (t := !(mayB r.fb r.fn a.src && mayB r.tb r.tn a.dst)) rfl (fun c11 => ?_) (fun c11 => ?_)
          · skip
            refine wp_seq_k fun K13 hK13 => ?_
            refine wl_region ?_
            refine dw_val (by kernel_rfl) (.bool false) (by kernel_rfl) ?_
            simp only [Act.put, List.setIfInBounds_toArray, List.set_cons_zero, List.set_cons_succ]
            refine wl_nil ?_
            refine hK13 _ _ ?_
            refine wp_ret ?_
            repeat (first | with_reducible refine ret_then ?_ | with_reducible refine ret_block ?_)
            refine bodyPost_ret (v := .bool false) (by kernel_rfl) rfl ?_
            try rw [hcls] at c6
            try rw [hcls] at c9
            try rw [hcls] at c11
            refine ⟨ret_bool ?_, hT0.toBelow⟩
            unfold oneK andI
            simp at c6 c9 c11
            first | (simp [c6, c9, c11]; done) | (simp [c6, c9, c11]; intro h1 h2; simp [h1, h2] at c11; done)
          · skip
            refine wp_skip ?_
            refine hK11 _ _ ?_
            refine wp_seq_k fun K14 hK14 => ?_
            refine wl_region ?_
            refine dw_val (by kernel_rfl) (.pointer (some ⟨n3, 0, none⟩)) (by kernel_rfl) ?_
            simp only [Act.put, List.setIfInBounds_toArray, List.set_cons_zero, List.set_cons_succ]
            refine dw_val (by kernel_rfl) (.pointer (some ⟨n3, 2, none⟩)) (by kernel_rfl) ?_
            simp only [Act.put, List.setIfInBounds_toArray, List.set_cons_zero, List.set_cons_succ]
            refine dw_val (by kernel_rfl) (.pointer (some ⟨n3, 2, none⟩)) (by kernel_rfl) ?_
            simp only [Act.put, List.setIfInBounds_toArray, List.set_cons_zero, List.set_cons_succ]
            refine dw_cell (by kernel_rfl) 3 (.tmp 95) rfl n3 2 rfl _ _ hBn3 (.int .i64 a.from_) rfl _ Try.underlying3 rfl ?_
            simp only [Act.put, List.setIfInBounds_toArray, List.set_cons_zero, List.set_cons_succ]
            refine dw_val (by kernel_rfl) (.pointer (some ⟨n1, 6, none⟩)) (by kernel_rfl) ?_
            simp only [Act.put, List.setIfInBounds_toArray, List.set_cons_zero, List.set_cons_succ]
            refine dw_row (by kernel_rfl) 41 (.tmp 97) rfl n1 6 rfl _ _ hBn1 [(.int .i64 r.s0 : Value), .int .i64 r.s1] rfl _ Try.underlying41 rfl (by kernel_rfl) ?_
            simp only [Act.put, List.setIfInBounds_toArray, List.set_cons_zero, List.set_cons_succ]
            refine dw_ret (by kernel_rfl) 36 #[(.int .i64 a.from_ : Value), .agg #[(.int .i64 r.s0 : Value), .int .i64 r.s1]] (by kernel_rfl) (rwithin_any a.from_ r.s0 r.s1 w10) ?_
            intro w12 hb
            have ht13 : Touch (fun _ => False) w10 w12 := Touch.none hb
            replace hBn1 := hBn1.keep ht13 (fun h => h)
            replace hBn3 := hBn3.keep ht13 (fun h => h)
            replace hBn7 := hBn7.keep ht13 (fun h => h)
            replace hT0 := hT0.trans ht13 (fun _ _ h => h.elim)
            clear hb
            simp only [Act.put, List.setIfInBounds_toArray, List.set_cons_zero, List.set_cons_succ]
            refine dw_bool (by kernel_rfl) (inB a.from_ r.s0 r.s1) (by kernel_rfl) (fun c14 => ?_) (fun c14 => ?_)
            · skip
              simp only [Act.put, List.setIfInBounds_toArray, List.set_cons_zero, List.set_cons_succ]
              refine dw_val (by kernel_rfl) (.pointer (some ⟨n3, 0, none⟩)) (by kernel_rfl) ?_
              simp only [Act.put, List.setIfInBounds_toArray, List.set_cons_zero, List.set_cons_succ]
              refine dw_val (by kernel_rfl) (.pointer (some ⟨n3, 2, none⟩)) (by kernel_rfl) ?_
              simp only [Act.put, List.setIfInBounds_toArray, List.set_cons_zero, List.set_cons_succ]
              refine dw_val (by kernel_rfl) (.pointer (some ⟨n3, 3, none⟩)) (by kernel_rfl) ?_
              simp only [Act.put, List.setIfInBounds_toArray, List.set_cons_zero, List.set_cons_succ]
              refine dw_cell (by kernel_rfl) 3 (.tmp 103) rfl n3 3 rfl _ _ hBn3 (.int .i64 a.to_) rfl _ Try.underlying3 rfl ?_
              simp only [Act.put, List.setIfInBounds_toArray, List.set_cons_zero, List.set_cons_succ]
              refine dw_val (by kernel_rfl) (.pointer (some ⟨n1, 8, none⟩)) (by kernel_rfl) ?_
              simp only [Act.put, List.setIfInBounds_toArray, List.set_cons_zero, List.set_cons_succ]
              refine dw_row (by kernel_rfl) 41 (.tmp 105) rfl n1 8 rfl _ _ hBn1 [(.int .i64 r.d0 : Value), .int .i64 r.d1] rfl _ Try.underlying41 rfl (by kernel_rfl) ?_
              simp only [Act.put, List.setIfInBounds_toArray, List.set_cons_zero, List.set_cons_succ]
              refine dw_ret (by kernel_rfl) 36 #[(.int .i64 a.to_ : Value), .agg #[(.int .i64 r.d0 : Value), .int .i64 r.d1]] (by kernel_rfl) (rwithin_any a.to_ r.d0 r.d1 w12) ?_
              intro w15 hb
              have ht16 : Touch (fun _ => False) w12 w15 := Touch.none hb
              replace hBn1 := hBn1.keep ht16 (fun h => h)
              replace hBn3 := hBn3.keep ht16 (fun h => h)
              replace hBn7 := hBn7.keep ht16 (fun h => h)
              replace hT0 := hT0.trans ht16 (fun _ _ h => h.elim)
              clear hb
              simp only [Act.put, List.setIfInBounds_toArray, List.set_cons_zero, List.set_cons_succ]
              refine dw_val (by kernel_rfl) (.bool (inB a.to_ r.d0 r.d1)) (by kernel_rfl) ?_
              simp only [Act.put, List.setIfInBounds_toArray, List.set_cons_zero, List.set_cons_succ]
              refine dw_bool (by kernel_rfl) (inB a.to_ r.d0 r.d1) (by kernel_rfl) (fun c17 => ?_) (fun c17 => ?_)
              · skip
                simp only [Act.put, List.setIfInBounds_toArray, List.set_cons_zero, List.set_cons_succ]
                refine dw_val (by kernel_rfl) (.pointer (some ⟨n3, 0, none⟩)) (by kernel_rfl) ?_
                simp only [Act.put, List.setIfInBounds_toArray, List.set_cons_zero, List.set_cons_succ]
                refine dw_val (by kernel_rfl) (.pointer (some ⟨n3, 2, none⟩)) (by kernel_rfl) ?_
                simp only [Act.put, List.setIfInBounds_toArray, List.set_cons_zero, List.set_cons_succ]
                refine dw_val (by kernel_rfl) (.pointer (some ⟨n3, 6, none⟩)) (by kernel_rfl) ?_
                simp only [Act.put, List.setIfInBounds_toArray, List.set_cons_zero, List.set_cons_succ]
                refine dw_cell (by kernel_rfl) 3 (.tmp 112) rfl n3 6 rfl _ _ hBn3 (.int .i64 a.flags) rfl _ Try.underlying3 rfl ?_
                simp only [Act.put, List.setIfInBounds_toArray, List.set_cons_zero, List.set_cons_succ]
                refine dw_val (by kernel_rfl) (.pointer (some ⟨n1, 10, none⟩)) (by kernel_rfl) ?_
                simp only [Act.put, List.setIfInBounds_toArray, List.set_cons_zero, List.set_cons_succ]
                refine dw_cell (by kernel_rfl) 3 (.tmp 114) rfl n1 10 rfl _ _ hBn1 (.int .i64 r.mask) rfl _ Try.underlying3 rfl ?_
                simp only [Act.put, List.setIfInBounds_toArray, List.set_cons_zero, List.set_cons_succ]
                refine dw_val (by kernel_rfl) (.int .i64 (bits .and .i64 a.flags r.mask)) (by kernel_rfl) ?_
                simp only [Act.put, List.setIfInBounds_toArray, List.set_cons_zero, List.set_cons_succ]
                refine dw_val (by kernel_rfl) (.pointer (some ⟨n1, 11, none⟩)) (by kernel_rfl) ?_
                simp only [Act.put, List.setIfInBounds_toArray, List.set_cons_zero, List.set_cons_succ]
                refine dw_cell (by kernel_rfl) 3 (.tmp 117) rfl n1 11 rfl _ _ hBn1 (.int .i64 r.flags) rfl _ Try.underlying3 rfl ?_
                simp only [Act.put, List.setIfInBounds_toArray, List.set_cons_zero, List.set_cons_succ]
                refine dw_val (by kernel_rfl) (.bool ((bits .and .i64 a.flags r.mask) == r.flags)) (by kernel_rfl) ?_
                simp only [Act.put, List.setIfInBounds_toArray, List.set_cons_zero, List.set_cons_succ]
                refine dw_val (by kernel_rfl) (.bool ((bits .and .i64 a.flags r.mask) == r.flags)) (by kernel_rfl) ?_
                simp only [Act.put, List.setIfInBounds_toArray, List.set_cons_zero, List.set_cons_succ]
                refine dw_val (by kernel_rfl) (.bool ((bits .and .i64 a.flags r.mask) == r.flags)) (by kernel_rfl) ?_
                simp only [Act.put, List.setIfInBounds_toArray, List.set_cons_zero, List.set_cons_succ]
                refine wl_nil ?_
                refine hK14 _ _ ?_
                refine wp_ret ?_
                repeat (first | with_reducible refine ret_then ?_ | with_reducible refine ret_block ?_)
                refine bodyPost_ret (v := .bool ((bits .and .i64 a.flags r.mask) == r.flags)) (by kernel_rfl) rfl ?_
                try rw [hcls] at c6
                try rw [hcls] at c9
                try rw [hcls] at c11
                try rw [hcls] at c14
                try rw [hcls] at c17
                refine ⟨ret_bool ?_, hT0.toBelow⟩
                unfold oneK andI
                simp at c6 c9 c11 c14 c17
                first | (simp [c6, c9, c11, c14, c17]; done) | (simp [c6, c9, c11, c14, c17]; intro h1 h2; simp [h1, h2] at c17; done)
              · skip
                simp only [Act.put, List.setIfInBounds_toArray, List.set_cons_zero, List.set_cons_succ]
                refine dw_no (by kernel_rfl) ?_
                simp only [Act.put, List.setIfInBounds_toArray, List.set_cons_zero, List.set_cons_succ]
                refine dw_no (by kernel_rfl) ?_
                simp only [Act.put, List.setIfInBounds_toArray, List.set_cons_zero, List.set_cons_succ]
                refine dw_no (by kernel_rfl) ?_
                simp only [Act.put, List.setIfInBounds_toArray, List.set_cons_zero, List.set_cons_succ]
                refine dw_no (by kernel_rfl) ?_
                simp only [Act.put, List.setIfInBounds_toArray, List.set_cons_zero, List.set_cons_succ]
                refine dw_no (by kernel_rfl) ?_
                simp only [Act.put, List.setIfInBounds_toArray, List.set_cons_zero, List.set_cons_succ]
                refine dw_no (by kernel_rfl) ?_
                simp only [Act.put, List.setIfInBounds_toArray, List.set_cons_zero, List.set_cons_succ]
                refine dw_no (by kernel_rfl) ?_
                simp only [Act.put, List.setIfInBounds_toArray, List.set_cons_zero, List.set_cons_succ]
                refine dw_no (by kernel_rfl) ?_
                simp only [Act.put, List.setIfInBounds_toArray, List.set_cons_zero, List.set_cons_succ]
                refine dw_no (by kernel_rfl) ?_
                simp only [Act.put, List.setIfInBounds_toArray, List.set_cons_zero, List.set_cons_succ]
                refine dw_no (by kernel_rfl) ?_
                simp only [Act.put, List.setIfInBounds_toArray, List.set_cons_zero, List.set_cons_succ]
                refine dw_val (by kernel_rfl) (.bool false) (by kernel_rfl) ?_
                simp only [Act.put, List.setIfInBounds_toArray, List.set_cons_zero, List.set_cons_succ]
                refine dw_val (by kernel_rfl) (.bool false) (by kernel_rfl) ?_
                simp only [Act.put, List.setIfInBounds_toArray, List.set_cons_zero, List.set_cons_succ]
                refine wl_nil ?_
                refine hK14 _ _ ?_
                refine wp_ret ?_
                repeat (first | with_reducible refine ret_then ?_ | with_reducible refine ret_block ?_)
                refine bodyPost_ret (v := .bool false) (by kernel_rfl) rfl ?_
                try rw [hcls] at c6
                try rw [hcls] at c9
                try rw [hcls] at c11
                try rw [hcls] at c14
                try rw [hcls] at c17
                refine ⟨ret_bool ?_, hT0.toBelow⟩
                unfold oneK andI
                simp at c6 c9 c11 c14 c17
                first | (simp [c6, c9, c11, c14, c17]; done) | (simp [c6, c9, c11, c14, c17]; intro h1 h2; simp [h1, h2] at c17; done)
            · skip
              simp only [Act.put, List.setIfInBounds_toArray, List.set_cons_zero, List.set_cons_succ]
              refine dw_no (by kernel_rfl) ?_
              simp only [Act.put, List.setIfInBounds_toArray, List.set_cons_zero, List.set_cons_succ]
              refine dw_no (by kernel_rfl) ?_
              simp only [Act.put, List.setIfInBounds_toArray, List.set_cons_zero, List.set_cons_succ]
              refine dw_no (by kernel_rfl) ?_
              simp only [Act.put, List.setIfInBounds_toArray, List.set_cons_zero, List.set_cons_succ]
              refine dw_no (by kernel_rfl) ?_
              simp only [Act.put, List.setIfInBounds_toArray, List.set_cons_zero, List.set_cons_succ]
              refine dw_no (by kernel_rfl) ?_
              simp only [Act.put, List.setIfInBounds_toArray, List.set_cons_zero, List.set_cons_succ]
              refine dw_no (by kernel_rfl) ?_
              simp only [Act.put, List.setIfInBounds_toArray, List.set_cons_zero, List.set_cons_succ]
              refine dw_no (by kernel_rfl) ?_
              simp only [Act.put, List.setIfInBounds_toArray, List.set_cons_zero, List.set_cons_succ]
              refine dw_val (by kernel_rfl) (.bool false) (by kernel_rfl) ?_
              simp only [Act.put, List.setIfInBounds_toArray, List.set_cons_zero, List.set_cons_succ]
              refine dw_val (by kernel_rfl) (.bool false) (by kernel_rfl) ?_
              simp only [Act.put, List.setIfInBounds_toArray, List.set_cons_zero, List.set_cons_succ]
              refine dw_no (by kernel_rfl) ?_
              simp only [Act.put, List.setIfInBounds_toArray, List.set_cons_zero, List.set_cons_succ]
              refine dw_no (by kernel_rfl) ?_
              simp only [Act.put, List.setIfInBounds_toArray, List.set_cons_zero, List.set_cons_succ]
              refine dw_no (by kernel_rfl) ?_
              simp only [Act.put, List.setIfInBounds_toArray, List.set_cons_zero, List.set_cons_succ]
              refine dw_no (by kernel_rfl) ?_
              simp only [Act.put, List.setIfInBounds_toArray, List.set_cons_zero, List.set_cons_succ]
              refine dw_no (by kernel_rfl) ?_
              simp only [Act.put, List.setIfInBounds_toArray, List.set_cons_zero, List.set_cons_succ]
              refine dw_no (by kernel_rfl) ?_
              simp only [Act.put, List.setIfInBounds_toArray, List.set_cons_zero, List.set_cons_succ]
              refine dw_no (by kernel_rfl) ?_
              simp only [Act.put, List.setIfInBounds_toArray, List.set_cons_zero, List.set_cons_succ]
              refine dw_no (by kernel_rfl) ?_
              simp only [Act.put, List.setIfInBounds_toArray, List.set_cons_zero, List.set_cons_succ]
              refine dw_no (by kernel_rfl) ?_
              simp only [Act.put, List.setIfInBounds_toArray, List.set_cons_zero, List.set_cons_succ]
              refine dw_no (by kernel_rfl) ?_
              simp only [Act.put, List.setIfInBounds_toArray, List.set_cons_zero, List.set_cons_succ]
              refine dw_val (by kernel_rfl) (.bool false) (by kernel_rfl) ?_
              simp only [Act.put, List.setIfInBounds_toArray, List.set_cons_zero, List.set_cons_succ]
              refine dw_val (by kernel_rfl) (.bool false) (by kernel_rfl) ?_
              simp only [Act.put, List.setIfInBounds_toArray, List.set_cons_zero, List.set_cons_succ]
              refine wl_nil ?_
              refine hK14 _ _ ?_
              refine wp_ret ?_
              repeat (first | with_reducible refine ret_then ?_ | with_reducible refine ret_block ?_)
              refine bodyPost_ret (v := .bool false) (by kernel_rfl) rfl ?_
              try rw [hcls] at c6
              try rw [hcls] at c9
              try rw [hcls] at c11
              try rw [hcls] at c14
              refine ⟨ret_bool ?_, hT0.toBelow⟩
              unfold oneK andI
              simp at c6 c9 c11 c14
              first | (simp [c6, c9, c11, c14]; done) | (simp [c6, c9, c11, c14]; intro h1 h2; simp [h1, h2] at c14; done)
        refine wl_region ?_
        refine dw_val (by kernel_rfl) (.pointer (some ⟨n1, 2, none⟩)) (by kernel_rfl) ?_
        simp only [Act.put, List.setIfInBounds_toArray, List.set_cons_zero, List.set_cons_succ]
        refine dw_row (by kernel_rfl) 40 (.tmp 65) rfl n1 2 rfl _ _ hBn1 [(.string r.fb : Value), .int .i64 r.fn] rfl _ Try.underlying40 rfl (by kernel_rfl) ?_
        simp only [Act.put, List.setIfInBounds_toArray, List.set_cons_zero, List.set_cons_succ]
        refine dw_ret (by kernel_rfl) 34 #[(.agg #[(.string r.fb : Value), .int .i64 r.fn] : Value)] (by kernel_rfl) (rwide_any r.fb r.fn w8) ?_
        intro w18 hb
        have ht19 : Touch (fun _ => False) w8 w18 := Touch.none hb
        replace hBn1 := hBn1.keep ht19 (fun h => h)
        replace hBn3 := hBn3.keep ht19 (fun h => h)
        replace hBn7 := hBn7.keep ht19 (fun h => h)
        replace hT0 := hT0.trans ht19 (fun _ _ h => h.elim)
        clear hb
        simp only [Act.put, List.setIfInBounds_toArray, List.set_cons_zero, List.set_cons_succ]
        refine dw_val (by kernel_rfl) (.bool (!(wideB r.fb r.fn))) (by kernel_rfl) ?_
        simp only [Act.put, List.setIfInBounds_toArray, List.set_cons_zero, List.set_cons_succ]
        refine dw_bool (by kernel_rfl) (!(wideB r.fb r.fn)) (by kernel_rfl) (fun c20 => ?_) (fun c20 => ?_)
        · skip
          simp only [Act.put, List.setIfInBounds_toArray, List.set_cons_zero, List.set_cons_succ]
          refine dw_val (by kernel_rfl) (.pointer (some ⟨n1, 2, none⟩)) (by kernel_rfl) ?_
          simp only [Act.put, List.setIfInBounds_toArray, List.set_cons_zero, List.set_cons_succ]
          refine dw_row (by kernel_rfl) 40 (.tmp 70) rfl n1 2 rfl _ _ hBn1 [(.string r.fb : Value), .int .i64 r.fn] rfl _ Try.underlying40 rfl (by kernel_rfl) ?_
          simp only [Act.put, List.setIfInBounds_toArray, List.set_cons_zero, List.set_cons_succ]
          refine dw_val (by kernel_rfl) (.pointer (some ⟨n3, 0, none⟩)) (by kernel_rfl) ?_
          simp only [Act.put, List.setIfInBounds_toArray, List.set_cons_zero, List.set_cons_succ]
          refine dw_val (by kernel_rfl) (.pointer (some ⟨n3, 0, none⟩)) (by kernel_rfl) ?_
          simp only [Act.put, List.setIfInBounds_toArray, List.set_cons_zero, List.set_cons_succ]
          refine dw_row (by kernel_rfl) 24 (.tmp 73) rfl n3 0 rfl _ _ hBn3 [(.string a.src : Value)] rfl _ Try.underlying24 rfl (by kernel_rfl) ?_
          simp only [Act.put, List.setIfInBounds_toArray, List.set_cons_zero, List.set_cons_succ]
          refine dw_ret (by kernel_rfl) 35 #[(.agg #[(.string r.fb : Value), .int .i64 r.fn] : Value), .agg #[(.string a.src : Value)]] (by kernel_rfl) (rhas_any r.fb r.fn a.src (by first | assumption | omega) (by first | assumption | omega) w18) ?_
          intro w21 hb
          have ht22 : Touch (fun _ => False) w18 w21 := Touch.none hb
          replace hBn1 := hBn1.keep ht22 (fun h => h)
          replace hBn3 := hBn3.keep ht22 (fun h => h)
          replace hBn7 := hBn7.keep ht22 (fun h => h)
          replace hT0 := hT0.trans ht22 (fun _ _ h => h.elim)
          clear hb
          simp only [Act.put, List.setIfInBounds_toArray, List.set_cons_zero, List.set_cons_succ]
          refine dw_val (by kernel_rfl) (.bool (!(hasB r.fb r.fn a.src))) (by kernel_rfl) ?_
          simp only [Act.put, List.setIfInBounds_toArray, List.set_cons_zero, List.set_cons_succ]
          refine dw_val (by kernel_rfl) (.bool (!(hasB r.fb r.fn a.src))) (by kernel_rfl) ?_
          simp only [Act.put, List.setIfInBounds_toArray, List.set_cons_zero, List.set_cons_succ]
          refine dw_bool (by kernel_rfl) (!(hasB r.fb r.fn a.src)) (by kernel_rfl) (fun c23 => ?_) (fun c23 => ?_)
          · skip
            simp only [Act.put, List.setIfInBounds_toArray, List.set_cons_zero, List.set_cons_succ]
            refine dw_no (by kernel_rfl) ?_
            simp only [Act.put, List.setIfInBounds_toArray, List.set_cons_zero, List.set_cons_succ]
            refine dw_no (by kernel_rfl) ?_
            simp only [Act.put, List.setIfInBounds_toArray, List.set_cons_zero, List.set_cons_succ]
            refine dw_no (by kernel_rfl) ?_
            simp only [Act.put, List.setIfInBounds_toArray, List.set_cons_zero, List.set_cons_succ]
            refine dw_no (by kernel_rfl) ?_
            simp only [Act.put, List.setIfInBounds_toArray, List.set_cons_zero, List.set_cons_succ]
            refine dw_no (by kernel_rfl) ?_
            simp only [Act.put, List.setIfInBounds_toArray, List.set_cons_zero, List.set_cons_succ]
            refine dw_no (by kernel_rfl) ?_
            simp only [Act.put, List.setIfInBounds_toArray, List.set_cons_zero, List.set_cons_succ]
            refine dw_no (by kernel_rfl) ?_
            simp only [Act.put, List.setIfInBounds_toArray, List.set_cons_zero, List.set_cons_succ]
            refine dw_no (by kernel_rfl) ?_
            simp only [Act.put, List.setIfInBounds_toArray, List.set_cons_zero, List.set_cons_succ]
            refine dw_no (by kernel_rfl) ?_
            simp only [Act.put, List.setIfInBounds_toArray, List.set_cons_zero, List.set_cons_succ]
            refine dw_no (by kernel_rfl) ?_
            simp only [Act.put, List.setIfInBounds_toArray, List.set_cons_zero, List.set_cons_succ]
            refine dw_no (by kernel_rfl) ?_
            simp only [Act.put, List.setIfInBounds_toArray, List.set_cons_zero, List.set_cons_succ]
            refine dw_no (by kernel_rfl) ?_
            simp only [Act.put, List.setIfInBounds_toArray, List.set_cons_zero, List.set_cons_succ]
            refine dw_no (by kernel_rfl) ?_
            simp only [Act.put, List.setIfInBounds_toArray, List.set_cons_zero, List.set_cons_succ]
            refine dw_val (by kernel_rfl) (.bool true) (by kernel_rfl) ?_
            simp only [Act.put, List.setIfInBounds_toArray, List.set_cons_zero, List.set_cons_succ]
            refine wl_nil ?_
            skip
            exact hJK12 _ _ _ _ _ _ _ _ _ _ _ _ _ _ _ _ _ _ _ _ _ _ _ _ _ _ _ undef true _ (by unfold mayB; simp [c6, c9, c20, c23]) hBn1 hBn3 hBn7 hT0
          · skip
            simp only [Act.put, List.setIfInBounds_toArray, List.set_cons_zero, List.set_cons_succ]
            refine dw_val (by kernel_rfl) (.pointer (some ⟨n1, 4, none⟩)) (by kernel_rfl) ?_
            simp only [Act.put, List.setIfInBounds_toArray, List.set_cons_zero, List.set_cons_succ]
            refine dw_row (by kernel_rfl) 40 (.tmp 79) rfl n1 4 rfl _ _ hBn1 [(.string r.tb : Value), .int .i64 r.tn] rfl _ Try.underlying40 rfl (by kernel_rfl) ?_
            simp only [Act.put, List.setIfInBounds_toArray, List.set_cons_zero, List.set_cons_succ]
            refine dw_ret (by kernel_rfl) 34 #[(.agg #[(.string r.tb : Value), .int .i64 r.tn] : Value)] (by kernel_rfl) (rwide_any r.tb r.tn w21) ?_
            intro w24 hb
            have ht25 : Touch (fun _ => False) w21 w24 := Touch.none hb
            replace hBn1 := hBn1.keep ht25 (fun h => h)
            replace hBn3 := hBn3.keep ht25 (fun h => h)
            replace hBn7 := hBn7.keep ht25 (fun h => h)
            replace hT0 := hT0.trans ht25 (fun _ _ h => h.elim)
            clear hb
            simp only [Act.put, List.setIfInBounds_toArray, List.set_cons_zero, List.set_cons_succ]
            refine dw_val (by kernel_rfl) (.bool (!(wideB r.tb r.tn))) (by kernel_rfl) ?_
            simp only [Act.put, List.setIfInBounds_toArray, List.set_cons_zero, List.set_cons_succ]
            refine dw_bool (by kernel_rfl) (!(wideB r.tb r.tn)) (by kernel_rfl) (fun c26 => ?_) (fun c26 => ?_)
            · skip
              simp only [Act.put, List.setIfInBounds_toArray, List.set_cons_zero, List.set_cons_succ]
              refine dw_val (by kernel_rfl) (.pointer (some ⟨n1, 4, none⟩)) (by kernel_rfl) ?_
              simp only [Act.put, List.setIfInBounds_toArray, List.set_cons_zero, List.set_cons_succ]
              refine dw_row (by kernel_rfl) 40 (.tmp 84) rfl n1 4 rfl _ _ hBn1 [(.string r.tb : Value), .int .i64 r.tn] rfl _ Try.underlying40 rfl (by kernel_rfl) ?_
              simp only [Act.put, List.setIfInBounds_toArray, List.set_cons_zero, List.set_cons_succ]
              refine dw_val (by kernel_rfl) (.pointer (some ⟨n3, 0, none⟩)) (by kernel_rfl) ?_
              simp only [Act.put, List.setIfInBounds_toArray, List.set_cons_zero, List.set_cons_succ]
              refine dw_val (by kernel_rfl) (.pointer (some ⟨n3, 1, none⟩)) (by kernel_rfl) ?_
              simp only [Act.put, List.setIfInBounds_toArray, List.set_cons_zero, List.set_cons_succ]
              refine dw_row (by kernel_rfl) 24 (.tmp 87) rfl n3 1 rfl _ _ hBn3 [(.string a.dst : Value)] rfl _ Try.underlying24 rfl (by kernel_rfl) ?_
              simp only [Act.put, List.setIfInBounds_toArray, List.set_cons_zero, List.set_cons_succ]
              refine dw_ret (by kernel_rfl) 35 #[(.agg #[(.string r.tb : Value), .int .i64 r.tn] : Value), .agg #[(.string a.dst : Value)]] (by kernel_rfl) (rhas_any r.tb r.tn a.dst (by first | assumption | omega) (by first | assumption | omega) w24) ?_
              intro w27 hb
              have ht28 : Touch (fun _ => False) w24 w27 := Touch.none hb
              replace hBn1 := hBn1.keep ht28 (fun h => h)
              replace hBn3 := hBn3.keep ht28 (fun h => h)
              replace hBn7 := hBn7.keep ht28 (fun h => h)
              replace hT0 := hT0.trans ht28 (fun _ _ h => h.elim)
              clear hb
              simp only [Act.put, List.setIfInBounds_toArray, List.set_cons_zero, List.set_cons_succ]
              refine dw_val (by kernel_rfl) (.bool (!(hasB r.tb r.tn a.dst))) (by kernel_rfl) ?_
              simp only [Act.put, List.setIfInBounds_toArray, List.set_cons_zero, List.set_cons_succ]
              refine dw_val (by kernel_rfl) (.bool (!(hasB r.tb r.tn a.dst))) (by kernel_rfl) ?_
              simp only [Act.put, List.setIfInBounds_toArray, List.set_cons_zero, List.set_cons_succ]
              refine dw_val (by kernel_rfl) (.bool (!(hasB r.tb r.tn a.dst))) (by kernel_rfl) ?_
              simp only [Act.put, List.setIfInBounds_toArray, List.set_cons_zero, List.set_cons_succ]
              refine wl_nil ?_
              skip
              exact hJK12 _ _ _ _ _ _ _ _ _ _ _ _ _ _ _ _ _ _ _ _ _ _ _ _ _ _ _ undef (!(hasB r.tb r.tn a.dst)) _ (by unfold mayB; simp [c6, c9, c20, c23, c26]) hBn1 hBn3 hBn7 hT0
            · skip
              simp only [Act.put, List.setIfInBounds_toArray, List.set_cons_zero, List.set_cons_succ]
              refine dw_no (by kernel_rfl) ?_
              simp only [Act.put, List.setIfInBounds_toArray, List.set_cons_zero, List.set_cons_succ]
              refine dw_no (by kernel_rfl) ?_
              simp only [Act.put, List.setIfInBounds_toArray, List.set_cons_zero, List.set_cons_succ]
              refine dw_no (by kernel_rfl) ?_
              simp only [Act.put, List.setIfInBounds_toArray, List.set_cons_zero, List.set_cons_succ]
              refine dw_no (by kernel_rfl) ?_
              simp only [Act.put, List.setIfInBounds_toArray, List.set_cons_zero, List.set_cons_succ]
              refine dw_no (by kernel_rfl) ?_
              simp only [Act.put, List.setIfInBounds_toArray, List.set_cons_zero, List.set_cons_succ]
              refine dw_no (by kernel_rfl) ?_
              simp only [Act.put, List.setIfInBounds_toArray, List.set_cons_zero, List.set_cons_succ]
              refine dw_no (by kernel_rfl) ?_
              simp only [Act.put, List.setIfInBounds_toArray, List.set_cons_zero, List.set_cons_succ]
              refine dw_val (by kernel_rfl) (.bool false) (by kernel_rfl) ?_
              simp only [Act.put, List.setIfInBounds_toArray, List.set_cons_zero, List.set_cons_succ]
              refine dw_val (by kernel_rfl) (.bool false) (by kernel_rfl) ?_
              simp only [Act.put, List.setIfInBounds_toArray, List.set_cons_zero, List.set_cons_succ]
              refine wl_nil ?_
              skip
              exact hJK12 _ _ _ _ _ _ _ _ _ _ _ _ _ _ _ _ _ _ _ _ _ _ _ _ _ _ _ undef false _ (by unfold mayB; simp [c6, c9, c20, c23, c26]) hBn1 hBn3 hBn7 hT0
        · skip
          simp only [Act.put, List.setIfInBounds_toArray, List.set_cons_zero, List.set_cons_succ]
          refine dw_no (by kernel_rfl) ?_
          simp only [Act.put, List.setIfInBounds_toArray, List.set_cons_zero, List.set_cons_succ]
          refine dw_no (by kernel_rfl) ?_
          simp only [Act.put, List.setIfInBounds_toArray, List.set_cons_zero, List.set_cons_succ]
          refine dw_no (by kernel_rfl) ?_
          simp only [Act.put, List.setIfInBounds_toArray, List.set_cons_zero, List.set_cons_succ]
          refine dw_no (by kernel_rfl) ?_
          simp only [Act.put, List.setIfInBounds_toArray, List.set_cons_zero, List.set_cons_succ]
          refine dw_no (by kernel_rfl) ?_
          simp only [Act.put, List.setIfInBounds_toArray, List.set_cons_zero, List.set_cons_succ]
          refine dw_no (by kernel_rfl) ?_
          simp only [Act.put, List.setIfInBounds_toArray, List.set_cons_zero, List.set_cons_succ]
          refine dw_no (by kernel_rfl) ?_
          simp only [Act.put, List.setIfInBounds_toArray, List.set_cons_zero, List.set_cons_succ]
          refine dw_val (by kernel_rfl) (.bool false) (by kernel_rfl) ?_
          simp only [Act.put, List.setIfInBounds_toArray, List.set_cons_zero, List.set_cons_succ]
          refine dw_val (by kernel_rfl) (.bool false) (by kernel_rfl) ?_
          simp only [Act.put, List.setIfInBounds_toArray, List.set_cons_zero, List.set_cons_succ]
          refine dw_val (by kernel_rfl) (.pointer (some ⟨n1, 4, none⟩)) (by kernel_rfl) ?_
          simp only [Act.put, List.setIfInBounds_toArray, List.set_cons_zero, List.set_cons_succ]
          refine dw_row (by kernel_rfl) 40 (.tmp 79) rfl n1 4 rfl _ _ hBn1 [(.string r.tb : Value), .int .i64 r.tn] rfl _ Try.underlying40 rfl (by kernel_rfl) ?_
          simp only [Act.put, List.setIfInBounds_toArray, List.set_cons_zero, List.set_cons_succ]
          refine dw_ret (by kernel_rfl) 34 #[(.agg #[(.string r.tb : Value), .int .i64 r.tn] : Value)] (by kernel_rfl) (rwide_any r.tb r.tn w18) ?_
          intro w29 hb
          have ht30 : Touch (fun _ => False) w18 w29 := Touch.none hb
          replace hBn1 := hBn1.keep ht30 (fun h => h)
          replace hBn3 := hBn3.keep ht30 (fun h => h)
          replace hBn7 := hBn7.keep ht30 (fun h => h)
          replace hT0 := hT0.trans ht30 (fun _ _ h => h.elim)
          clear hb
          simp only [Act.put, List.setIfInBounds_toArray, List.set_cons_zero, List.set_cons_succ]
          refine dw_val (by kernel_rfl) (.bool (!(wideB r.tb r.tn))) (by kernel_rfl) ?_
          simp only [Act.put, List.setIfInBounds_toArray, List.set_cons_zero, List.set_cons_succ]
          refine dw_bool (by kernel_rfl) (!(wideB r.tb r.tn)) (by kernel_rfl) (fun c31 => ?_) (fun c31 => ?_)
          · skip
            simp only [Act.put, List.setIfInBounds_toArray, List.set_cons_zero, List.set_cons_succ]
            refine dw_val (by kernel_rfl) (.pointer (some ⟨n1, 4, none⟩)) (by kernel_rfl) ?_
            simp only [Act.put, List.setIfInBounds_toArray, List.set_cons_zero, List.set_cons_succ]
            refine dw_row (by kernel_rfl) 40 (.tmp 84) rfl n1 4 rfl _ _ hBn1 [(.string r.tb : Value), .int .i64 r.tn] rfl _ Try.underlying40 rfl (by kernel_rfl) ?_
            simp only [Act.put, List.setIfInBounds_toArray, List.set_cons_zero, List.set_cons_succ]
            refine dw_val (by kernel_rfl) (.pointer (some ⟨n3, 0, none⟩)) (by kernel_rfl) ?_
            simp only [Act.put, List.setIfInBounds_toArray, List.set_cons_zero, List.set_cons_succ]
            refine dw_val (by kernel_rfl) (.pointer (some ⟨n3, 1, none⟩)) (by kernel_rfl) ?_
            simp only [Act.put, List.setIfInBounds_toArray, List.set_cons_zero, List.set_cons_succ]
            refine dw_row (by kernel_rfl) 24 (.tmp 87) rfl n3 1 rfl _ _ hBn3 [(.string a.dst : Value)] rfl _ Try.underlying24 rfl (by kernel_rfl) ?_
            simp only [Act.put, List.setIfInBounds_toArray, List.set_cons_zero, List.set_cons_succ]
            refine dw_ret (by kernel_rfl) 35 #[(.agg #[(.string r.tb : Value), .int .i64 r.tn] : Value), .agg #[(.string a.dst : Value)]] (by kernel_rfl) (rhas_any r.tb r.tn a.dst (by first | assumption | omega) (by first | assumption | omega) w29) ?_
            intro w32 hb
            have ht33 : Touch (fun _ => False) w29 w32 := Touch.none hb
            replace hBn1 := hBn1.keep ht33 (fun h => h)
            replace hBn3 := hBn3.keep ht33 (fun h => h)
            replace hBn7 := hBn7.keep ht33 (fun h => h)
            replace hT0 := hT0.trans ht33 (fun _ _ h => h.elim)
            clear hb
            simp only [Act.put, List.setIfInBounds_toArray, List.set_cons_zero, List.set_cons_succ]
            refine dw_val (by kernel_rfl) (.bool (!(hasB r.tb r.tn a.dst))) (by kernel_rfl) ?_
            simp only [Act.put, List.setIfInBounds_toArray, List.set_cons_zero, List.set_cons_succ]
            refine dw_val (by kernel_rfl) (.bool (!(hasB r.tb r.tn a.dst))) (by kernel_rfl) ?_
            simp only [Act.put, List.setIfInBounds_toArray, List.set_cons_zero, List.set_cons_succ]
            refine dw_val (by kernel_rfl) (.bool (!(hasB r.tb r.tn a.dst))) (by kernel_rfl) ?_
            simp only [Act.put, List.setIfInBounds_toArray, List.set_cons_zero, List.set_cons_succ]
            refine wl_nil ?_
            skip
            exact hJK12 _ _ _ _ _ _ _ _ _ _ _ _ _ _ _ _ _ _ _ _ _ _ _ _ _ _ _ undef (!(hasB r.tb r.tn a.dst)) _ (by unfold mayB; simp [c6, c9, c20, c31]) hBn1 hBn3 hBn7 hT0
          · skip
            simp only [Act.put, List.setIfInBounds_toArray, List.set_cons_zero, List.set_cons_succ]
            refine dw_no (by kernel_rfl) ?_
            simp only [Act.put, List.setIfInBounds_toArray, List.set_cons_zero, List.set_cons_succ]
            refine dw_no (by kernel_rfl) ?_
            simp only [Act.put, List.setIfInBounds_toArray, List.set_cons_zero, List.set_cons_succ]
            refine dw_no (by kernel_rfl) ?_
            simp only [Act.put, List.setIfInBounds_toArray, List.set_cons_zero, List.set_cons_succ]
            refine dw_no (by kernel_rfl) ?_
            simp only [Act.put, List.setIfInBounds_toArray, List.set_cons_zero, List.set_cons_succ]
            refine dw_no (by kernel_rfl) ?_
            simp only [Act.put, List.setIfInBounds_toArray, List.set_cons_zero, List.set_cons_succ]
            refine dw_no (by kernel_rfl) ?_
            simp only [Act.put, List.setIfInBounds_toArray, List.set_cons_zero, List.set_cons_succ]
            refine dw_no (by kernel_rfl) ?_
            simp only [Act.put, List.setIfInBounds_toArray, List.set_cons_zero, List.set_cons_succ]
            refine dw_val (by kernel_rfl) (.bool false) (by kernel_rfl) ?_
            simp only [Act.put, List.setIfInBounds_toArray, List.set_cons_zero, List.set_cons_succ]
            refine dw_val (by kernel_rfl) (.bool false) (by kernel_rfl) ?_
            simp only [Act.put, List.setIfInBounds_toArray, List.set_cons_zero, List.set_cons_succ]
            refine wl_nil ?_
            skip
            exact hJK12 _ _ _ _ _ _ _ _ _ _ _ _ _ _ _ _ _ _ _ _ _ _ _ _ _ _ _ undef false _ (by unfold mayB; simp [c6, c9, c20, c31]) hBn1 hBn3 hBn7 hT0
  refine wl_region ?_
  refine dw_val (by kernel_rfl) (.pointer (some ⟨n1, 1, none⟩)) (by kernel_rfl) ?_
  simp only [Act.put, List.setIfInBounds_toArray, List.set_cons_zero, List.set_cons_succ]
  refine dw_cell (by kernel_rfl) 3 (.tmp 6) rfl n1 1 rfl _ _ hBn1 (.int .i64 r.side) rfl _ Try.underlying3 rfl ?_
  simp only [Act.put, List.setIfInBounds_toArray, List.set_cons_zero, List.set_cons_succ]
  refine dw_val (by kernel_rfl) (.bool (r.side != 0)) (by kernel_rfl) ?_
  simp only [Act.put, List.setIfInBounds_toArray, List.set_cons_zero, List.set_cons_succ]
  refine dw_bool (by kernel_rfl) (r.side != 0) (by kernel_rfl) (fun c34 => ?_) (fun c34 => ?_)
  · skip
    simp only [Act.put, List.setIfInBounds_toArray, List.set_cons_zero, List.set_cons_succ]
    refine dw_val (by kernel_rfl) (.pointer (some ⟨n1, 1, none⟩)) (by kernel_rfl) ?_
    simp only [Act.put, List.setIfInBounds_toArray, List.set_cons_zero, List.set_cons_succ]
    refine dw_cell (by kernel_rfl) 3 (.tmp 10) rfl n1 1 rfl _ _ hBn1 (.int .i64 r.side) rfl _ Try.underlying3 rfl ?_
    simp only [Act.put, List.setIfInBounds_toArray, List.set_cons_zero, List.set_cons_succ]
    refine dw_val (by kernel_rfl) (.pointer (some ⟨n3, 17, none⟩)) (by kernel_rfl) ?_
    simp only [Act.put, List.setIfInBounds_toArray, List.set_cons_zero, List.set_cons_succ]
    refine dw_cell (by kernel_rfl) 3 (.tmp 12) rfl n3 17 rfl _ _ hBn3 (.int .i64 a.side) rfl _ Try.underlying3 rfl ?_
    simp only [Act.put, List.setIfInBounds_toArray, List.set_cons_zero, List.set_cons_succ]
    refine dw_val (by kernel_rfl) (.bool (r.side != a.side)) (by kernel_rfl) ?_
    simp only [Act.put, List.setIfInBounds_toArray, List.set_cons_zero, List.set_cons_succ]
    refine dw_val (by kernel_rfl) (.bool (r.side != a.side)) (by kernel_rfl) ?_
    simp only [Act.put, List.setIfInBounds_toArray, List.set_cons_zero, List.set_cons_succ]
    refine dw_bool (by kernel_rfl) (r.side != a.side) (by kernel_rfl) (fun c35 => ?_) (fun c35 => ?_)
    · skip
      simp only [Act.put, List.setIfInBounds_toArray, List.set_cons_zero, List.set_cons_succ]
      refine dw_no (by kernel_rfl) ?_
      simp only [Act.put, List.setIfInBounds_toArray, List.set_cons_zero, List.set_cons_succ]
      refine dw_no (by kernel_rfl) ?_
      simp only [Act.put, List.setIfInBounds_toArray, List.set_cons_zero, List.set_cons_succ]
      refine dw_no (by kernel_rfl) ?_
      simp only [Act.put, List.setIfInBounds_toArray, List.set_cons_zero, List.set_cons_succ]
      refine dw_val (by kernel_rfl) (.bool true) (by kernel_rfl) ?_
      simp only [Act.put, List.setIfInBounds_toArray, List.set_cons_zero, List.set_cons_succ]
      refine dw_val (by kernel_rfl) (.bool true) (by kernel_rfl) ?_
      simp only [Act.put, List.setIfInBounds_toArray, List.set_cons_zero, List.set_cons_succ]
      refine dw_no (by kernel_rfl) ?_
      simp only [Act.put, List.setIfInBounds_toArray, List.set_cons_zero, List.set_cons_succ]
      refine dw_no (by kernel_rfl) ?_
      simp only [Act.put, List.setIfInBounds_toArray, List.set_cons_zero, List.set_cons_succ]
      refine dw_no (by kernel_rfl) ?_
      simp only [Act.put, List.setIfInBounds_toArray, List.set_cons_zero, List.set_cons_succ]
      refine dw_val (by kernel_rfl) (.bool true) (by kernel_rfl) ?_
      simp only [Act.put, List.setIfInBounds_toArray, List.set_cons_zero, List.set_cons_succ]
      refine wl_nil ?_
      skip
      exact hJK3 _ _ _ _ _ _ _ _ _ _ _ _ _ _ _ _ _ _ _ undef true _ (by unfold sideB; simp at c34 c35; simp [c34, c35]) hBn1 hBn3 hT0
    · skip
      simp only [Act.put, List.setIfInBounds_toArray, List.set_cons_zero, List.set_cons_succ]
      refine dw_val (by kernel_rfl) (.pointer (some ⟨n3, 18, none⟩)) (by kernel_rfl) ?_
      simp only [Act.put, List.setIfInBounds_toArray, List.set_cons_zero, List.set_cons_succ]
      refine dw_cell (by kernel_rfl) 3 (.tmp 17) rfl n3 18 rfl _ _ hBn3 (.int .i64 2) rfl _ Try.underlying3 rfl ?_
      simp only [Act.put, List.setIfInBounds_toArray, List.set_cons_zero, List.set_cons_succ]
      refine dw_val (by kernel_rfl) (.bool false) (by kernel_rfl) ?_
      simp only [Act.put, List.setIfInBounds_toArray, List.set_cons_zero, List.set_cons_succ]
      refine dw_val (by kernel_rfl) (.bool false) (by kernel_rfl) ?_
      simp only [Act.put, List.setIfInBounds_toArray, List.set_cons_zero, List.set_cons_succ]
      refine dw_val (by kernel_rfl) (.bool false) (by kernel_rfl) ?_
      simp only [Act.put, List.setIfInBounds_toArray, List.set_cons_zero, List.set_cons_succ]
      refine dw_val (by kernel_rfl) (.pointer (some ⟨n3, 18, none⟩)) (by kernel_rfl) ?_
      simp only [Act.put, List.setIfInBounds_toArray, List.set_cons_zero, List.set_cons_succ]
      refine dw_cell (by kernel_rfl) 3 (.tmp 22) rfl n3 18 rfl _ _ hBn3 (.int .i64 2) rfl _ Try.underlying3 rfl ?_
      simp only [Act.put, List.setIfInBounds_toArray, List.set_cons_zero, List.set_cons_succ]
      refine dw_val (by kernel_rfl) (.bool false) (by kernel_rfl) ?_
      simp only [Act.put, List.setIfInBounds_toArray, List.set_cons_zero, List.set_cons_succ]
      refine dw_val (by kernel_rfl) (.bool false) (by kernel_rfl) ?_
      simp only [Act.put, List.setIfInBounds_toArray, List.set_cons_zero, List.set_cons_succ]
      refine wl_nil ?_
      skip
      exact hJK3 _ _ _ _ _ _ _ _ _ _ _ _ _ _ _ _ _ _ _ undef false _ (by unfold sideB; simp at c34 c35; simp [c34, c35]) hBn1 hBn3 hT0
  · skip
    simp only [Act.put, List.setIfInBounds_toArray, List.set_cons_zero, List.set_cons_succ]
    refine dw_no (by kernel_rfl) ?_
    simp only [Act.put, List.setIfInBounds_toArray, List.set_cons_zero, List.set_cons_succ]
    refine dw_no (by kernel_rfl) ?_
    simp only [Act.put, List.setIfInBounds_toArray, List.set_cons_zero, List.set_cons_succ]
    refine dw_no (by kernel_rfl) ?_
    simp only [Act.put, List.setIfInBounds_toArray, List.set_cons_zero, List.set_cons_succ]
    refine dw_no (by kernel_rfl) ?_
    simp only [Act.put, List.setIfInBounds_toArray, List.set_cons_zero, List.set_cons_succ]
    refine dw_no (by kernel_rfl) ?_
    simp only [Act.put, List.setIfInBounds_toArray, List.set_cons_zero, List.set_cons_succ]
    refine dw_val (by kernel_rfl) (.bool false) (by kernel_rfl) ?_
    simp only [Act.put, List.setIfInBounds_toArray, List.set_cons_zero, List.set_cons_succ]
    refine dw_val (by kernel_rfl) (.bool false) (by kernel_rfl) ?_
    simp only [Act.put, List.setIfInBounds_toArray, List.set_cons_zero, List.set_cons_succ]
    refine dw_val (by kernel_rfl) (.pointer (some ⟨n3, 18, none⟩)) (by kernel_rfl) ?_
    simp only [Act.put, List.setIfInBounds_toArray, List.set_cons_zero, List.set_cons_succ]
    refine dw_cell (by kernel_rfl) 3 (.tmp 17) rfl n3 18 rfl _ _ hBn3 (.int .i64 2) rfl _ Try.underlying3 rfl ?_
    simp only [Act.put, List.setIfInBounds_toArray, List.set_cons_zero, List.set_cons_succ]
    refine dw_val (by kernel_rfl) (.bool false) (by kernel_rfl) ?_
    simp only [Act.put, List.setIfInBounds_toArray, List.set_cons_zero, List.set_cons_succ]
    refine dw_val (by kernel_rfl) (.bool false) (by kernel_rfl) ?_
    simp only [Act.put, List.setIfInBounds_toArray, List.set_cons_zero, List.set_cons_succ]
    refine dw_val (by kernel_rfl) (.bool false) (by kernel_rfl) ?_
    simp only [Act.put, List.setIfInBounds_toArray, List.set_cons_zero, List.set_cons_succ]
    refine dw_val (by kernel_rfl) (.pointer (some ⟨n3, 18, none⟩)) (by kernel_rfl) ?_
    simp only [Act.put, List.setIfInBounds_toArray, List.set_cons_zero, List.set_cons_succ]
    refine dw_cell (by kernel_rfl) 3 (.tmp 22) rfl n3 18 rfl _ _ hBn3 (.int .i64 2) rfl _ Try.underlying3 rfl ?_
    simp only [Act.put, List.setIfInBounds_toArray, List.set_cons_zero, List.set_cons_succ]
    refine dw_val (by kernel_rfl) (.bool false) (by kernel_rfl) ?_
    simp only [Act.put, List.setIfInBounds_toArray, List.set_cons_zero, List.set_cons_succ]
    refine dw_val (by kernel_rfl) (.bool false) (by kernel_rfl) ?_
    simp only [Act.put, List.setIfInBounds_toArray, List.set_cons_zero, List.set_cons_succ]
    refine wl_nil ?_
    skip
    exact hJK3 _ _ _ _ _ _ _ _ _ _ _ _ _ _ _ _ _ _ _ undef false _ (by unfold sideB; simp at c34; simp [c34]) hBn1 hBn3 hT0
set_option maxRecDepth 100000 in
set_option maxHeartbeats 4000000 in
theorem rone_3 (r : Rl) (a : Ak) (hc1 : 1 ≤ r.classes) (hc2 : r.classes ≤ 15) (hfb : r.fb.size ≤ 100) (htb : r.tb.size ≤ 100) (hsrc : a.src.size ≤ 100) (hdst : a.dst.size ≤ 100) (w : World) :
    Calls Try.prog 11 #[.agg #[.bool (r.acc), .int .i64 r.side, .string r.fb, .int .i64 r.fn, .string r.tb, .int .i64 r.tn, .int .i64 r.s0, .int .i64 r.s1, .int .i64 r.d0, .int .i64 r.d1, .int .i64 r.mask, .int .i64 r.flags, .int .i64 r.classes], .agg #[.string a.src, .string a.dst, .int .i64 a.from_, .int .i64 a.to_, .int .u32 a.seq, .int .u32 a.ack, .int .i64 a.flags, .int .i64 a.win, .int .i64 a.urg, .int .i64 a.mss, .int .i64 a.scale, .bool (a.sack), .slice a.ba a.bn a.bc, .bool (a.timed), .int .u32 a.time, .int .u32 a.echo, .string a.data, .int .i64 a.side, .int .i64 3]] w fun e w' => e = .returned (.bool (oneK r a 3)) ∧ Below w.heap.size w w' := by
  have hcls := (cls_lem r.classes hc1 hc2).2.2.2
  have hT0 := Touch.refl (fun _ => False) w
  go_enter Try.func11, Try.ntmps11
  refine wp_seq_k fun K1 hK1 => ?_
  refine wl_region ?_
  refine dw_new (by kernel_rfl) [(.bool (r.acc) : Value), .int .i64 r.side, .string r.fb, .int .i64 r.fn, .string r.tb, .int .i64 r.tn, .int .i64 r.s0, .int .i64 r.s1, .int .i64 r.d0, .int .i64 r.d1, .int .i64 r.mask, .int .i64 r.flags, .int .i64 r.classes] 45 (by kernel_rfl) ?_
  intro n1 w2 hnn1 hsn1 hBn1 hTn1
  have hgen1 : w.heap.size ≤ n1 := by have := hT0.size; omega
  replace hT0 := hT0.trans hTn1 (fun _ _ h => h.elim)
  simp only [Act.put, List.setIfInBounds_toArray, List.set_cons_zero, List.set_cons_succ]
  refine dw_new (by kernel_rfl) [(.string a.src : Value), .string a.dst, .int .i64 a.from_, .int .i64 a.to_, .int .u32 a.seq, .int .u32 a.ack, .int .i64 a.flags, .int .i64 a.win, .int .i64 a.urg, .int .i64 a.mss, .int .i64 a.scale, .bool (a.sack), .slice a.ba a.bn a.bc, .bool (a.timed), .int .u32 a.time, .int .u32 a.echo, .string a.data, .int .i64 a.side, .int .i64 3] 37 (by kernel_rfl) ?_
  intro n3 w4 hnn3 hsn3 hBn3 hTn3
  have hnen1n3 : n1 ≠ n3 := by have := hBn1.lt; omega
  have hgen3 : w.heap.size ≤ n3 := by have := hT0.size; omega
  replace hBn1 := hBn1.keep hTn3 (fun h => h)
  replace hT0 := hT0.trans hTn3 (fun _ _ h => h.elim)
  simp only [Act.put, List.setIfInBounds_toArray, List.set_cons_zero, List.set_cons_succ]
  refine dw_val (by kernel_rfl) (.bool false) (by kernel_rfl) ?_
  simp only [Act.put, List.setIfInBounds_toArray, List.set_cons_zero, List.set_cons_succ]
  refine wl_nil ?_
  refine hK1 _ _ ?_
  refine wp_seq_k fun K2 hK2 => ?_
  refine wp_seq_k fun K3 hK3 => ?_
  have hJK3 : ∀ (u6 u7 u8 u9 u10 u11 u12 u13 u14 u15 u16 u17 u18 u19 u20 u21 u22 u23 u24 u_ : Value) (bb : Bool) (w5 : World), bb = (!sideB r.side a.side) → Blk w5 n1 [(.bool (r.acc) : Value), .int .i64 r.side, .string r.fb, .int .i64 r.fn, .string r.tb, .int .i64 r.tn, .int .i64 r.s0, .int .i64 r.s1, .int .i64 r.d0, .int .i64 r.d1, .int .i64 r.mask, .int .i64 r.flags, .int .i64 r.classes] 45 → Blk w5 n3 [(.string a.src : Value), .string a.dst, .int .i64 a.from_, .int .i64 a.to_, .int .u32 a.seq, .int .u32 a.ack, .int .i64 a.flags, .int .i64 a.win, .int .i64 a.urg, .int .i64 a.mss, .int .i64 a.scale, .bool (a.sack), .slice a.ba a.bn a.bc, .bool (a.timed), .int .u32 a.time, .int .u32 a.echo, .string a.data, .int .i64 a.side, .int .i64 3] 37 → Touch (fun _ => False) w w5 → K3 ⟨#[(.agg #[(.bool (r.acc) : Value), .int .i64 r.side, .string r.fb, .int .i64 r.fn, .string r.tb, .int .i64 r.tn, .int .i64 r.s0, .int .i64 r.s1, .int .i64 r.d0, .int .i64 r.d1, .int .i64 r.mask, .int .i64 r.flags, .int .i64 r.classes] : Value), .agg #[(.string a.src : Value), .string a.dst, .int .i64 a.from_, .int .i64 a.to_, .int .u32 a.seq, .int .u32 a.ack, .int .i64 a.flags, .int .i64 a.win, .int .i64 a.urg, .int .i64 a.mss, .int .i64 a.scale, .bool (a.sack), .slice a.ba a.bn a.bc, .bool (a.timed), .int .u32 a.time, .int .u32 a.echo, .string a.data, .int .i64 a.side, .int .i64 3], .pointer (some ⟨n1, 0, none⟩), .pointer (some ⟨n3, 0, none⟩), .bool false, undef, u6, u7, u8, u9, u10, u11, u12, u13, u14, u15, u16, u17, u18, u19, u20, u21, u22, u23, u24, .bool bb, undef, undef, undef, undef, undef, undef, undef, undef, undef, undef, undef, undef, undef, undef, undef, undef, undef, undef, undef, undef, undef, undef, undef, undef, undef, undef, undef, undef, undef, undef, undef, undef, undef, undef, undef, undef, undef, undef, undef, undef, undef, undef, undef, undef, undef, undef, undef, undef, undef, undef, undef, undef, undef, undef, undef, undef, undef, undef, undef, undef, undef, undef, undef, undef, undef, undef, undef, undef, undef, undef, undef, undef, undef, undef, undef, undef, undef, undef, undef, undef, undef, undef, undef, undef, undef, undef, undef, undef, undef, undef, undef, undef, undef, undef, undef], []⟩ w5 := by
    clear hT0 hBn1 hBn3
    intro u6 u7 u8 u9 u10 u11 u12 u13 u14 u15 u16 u17 u18 u19 u20 u21 u22 u23 u24 u_ bb w5 hbb hBn1 hBn3 hT0
    subst hbb
    refine hK3 _ _ ?_
    refine wp_cond_split (t := !sideB r.side a.side) rfl (fun c6 => ?_) (fun c6 => ?_)
    · skip
      refine wp_seq_k fun K4 hK4 => ?_
      refine wl_region ?_
      refine dw_val (by kernel_rfl) (.bool false) (by kernel_rfl) ?_
      simp only [Act.put, List.setIfInBounds_toArray, List.set_cons_zero, List.set_cons_succ]
      refine wl_nil ?_
      refine hK4 _ _ ?_
      refine wp_ret ?_
      repeat (first | with_reducible refine ret_then ?_ | with_reducible refine ret_block ?_)
      refine bodyPost_ret (v := .bool false) (by kernel_rfl) rfl ?_
      try rw [hcls] at c6
      refine ⟨ret_bool ?_, hT0.toBelow⟩
      unfold oneK andI
      simp at c6
      first | (simp [c6]; done) | (simp [c6]; intro h1 h2; simp [h1, h2] at c6; done)
    · skip
      refine wp_skip ?_
      refine hK2 _ _ ?_
      refine wp_seq_k fun K5 hK5 => ?_
      refine wl_region ?_
      refine dw_newSlice (by kernel_rfl) [(.int .i64 1 : Value), .int .i64 2, .int .i64 4, .int .i64 8] 3 4 (by kernel_rfl) ?_
      intro n7 w8 hnn7 hsn7 hBn7 hTn7
      have hnen1n7 : n1 ≠ n7 := by have := hBn1.lt; omega
      have hnen3n7 : n3 ≠ n7 := by have := hBn3.lt; omega
      have hgen7 : w.heap.size ≤ n7 := by have := hT0.size; omega
      replace hBn1 := hBn1.keep hTn7 (fun h => h)
      replace hBn3 := hBn3.keep hTn7 (fun h => h)
      replace hT0 := hT0.trans hTn7 (fun _ _ h => h.elim)
      simp only [Act.put, List.setIfInBounds_toArray, List.set_cons_zero, List.set_cons_succ]
      refine dw_val (by kernel_rfl) (.pointer (some ⟨n3, 18, none⟩)) (by kernel_rfl) ?_
      simp only [Act.put, List.setIfInBounds_toArray, List.set_cons_zero, List.set_cons_succ]
      refine dw_cell (by kernel_rfl) 3 (.tmp 27) rfl n3 18 rfl _ _ hBn3 (.int .i64 3) rfl _ Try.underlying3 rfl ?_
      simp only [Act.put, List.setIfInBounds_toArray, List.set_cons_zero, List.set_cons_succ]
      refine dw_val (by kernel_rfl) (.pointer (some ⟨n7, 3, none⟩)) (ev_index 55 3 (.tmp 26) (.tmp 28) rfl n7 0 4 4 3 1 .i64 rfl rfl (by omega) Try.underlying55 (by kernel_rfl) (3) (by omega)) ?_
      simp only [Act.put, List.setIfInBounds_toArray, List.set_cons_zero, List.set_cons_succ]
      refine dw_cell (by kernel_rfl) 3 (.tmp 29) rfl n7 3 rfl _ _ hBn7 (.int .i64 8) rfl _ Try.underlying3 rfl ?_
      simp only [Act.put, List.setIfInBounds_toArray, List.set_cons_zero, List.set_cons_succ]
      refine dw_val (by kernel_rfl) (.int .i64 8) (by kernel_rfl) ?_
      simp only [Act.put, List.setIfInBounds_toArray, List.set_cons_zero, List.set_cons_succ]
      refine wl_nil ?_
      refine hK5 _ _ ?_
      refine wp_seq_k fun K6 hK6 => ?_
      refine wp_seq_k fun K7 hK7 => ?_
      refine wl_region ?_
      refine dw_val (by kernel_rfl) (.pointer (some ⟨n1, 12, none⟩)) (by kernel_rfl) ?_
      simp only [Act.put, List.setIfInBounds_toArray, List.set_cons_zero, List.set_cons_succ]
      refine dw_cell (by kernel_rfl) 3 (.tmp 31) rfl n1 12 rfl _ _ hBn1 (.int .i64 r.classes) rfl _ Try.underlying3 rfl ?_
      simp only [Act.put, List.setIfInBounds_toArray, List.set_cons_zero, List.set_cons_succ]
      refine dw_val (by kernel_rfl) (.int .i64 8) (by kernel_rfl) ?_
      simp only [Act.put, List.setIfInBounds_toArray, List.set_cons_zero, List.set_cons_succ]
      refine dw_val (by kernel_rfl) (.int .i64 (IntKind.i64.wrap (Int.tdiv r.classes 8))) (by kernel_rfl) ?_
      simp only [Act.put, List.setIfInBounds_toArray, List.set_cons_zero, List.set_cons_succ]
      refine dw_val (by kernel_rfl) (.int .i64 (Int.tmod (IntKind.i64.wrap (Int.tdiv r.classes 8)) 2)) (by kernel_rfl) ?_
      simp only [Act.put, List.setIfInBounds_toArray, List.set_cons_zero, List.set_cons_succ]
      refine dw_val (by kernel_rfl) (.bool ((Int.tmod (IntKind.i64.wrap (Int.tdiv r.classes 8)) 2) == 0)) (by kernel_rfl) ?_
      simp only [Act.put, List.setIfInBounds_toArray, List.set_cons_zero, List.set_cons_succ]
      refine wl_nil ?_
      refine hK7 _ _ ?_
      refine wp_cond_split (t := (Int.tmod (IntKind.i64.wrap (Int.tdiv r.classes 8)) 2) == 0) rfl (fun c9 => ?_) (fun c9 => ?_)
      · skip
        refine wp_seq_k fun K8 hK8 => ?_
        refine wl_region ?_
        refine dw_val (by kernel_rfl) (.bool false) (by kernel_rfl) ?_
        simp only [Act.put, List.setIfInBounds_toArray, List.set_cons_zero, List.set_cons_succ]
        refine wl_nil ?_
        refine hK8 _ _ ?_
        refine wp_ret ?_
        repeat (first | with_reducible refine ret_then ?_ | with_reducible refine ret_block ?_)
        refine bodyPost_ret (v := .bool false) (by kernel_rfl) rfl ?_
        try rw [hcls] at c6
        try rw [hcls] at c9
        refine ⟨ret_bool ?_, hT0.toBelow⟩
        unfold oneK andI
        simp at c6 c9
        first | (simp [c6, c9]; done) | (simp [c6, c9]; intro h1 h2; simp [h1, h2] at c9; done)
      · skip
        refine wp_skip ?_
        refine hK6 _ _ ?_
        refine wp_seq_k fun K9 hK9 => ?_
        refine wp_seq_k fun K10 hK10 => ?_
        refine wl_region ?_
        refine dw_val (by kernel_rfl) (.pointer (some ⟨n3, 18, none⟩)) (by kernel_rfl) ?_
        simp only [Act.put, List.setIfInBounds_toArray, List.set_cons_zero, List.set_cons_succ]
        refine dw_cell (by kernel_rfl) 3 (.tmp 37) rfl n3 18 rfl _ _ hBn3 (.int .i64 3) rfl _ Try.underlying3 rfl ?_
        simp only [Act.put, List.setIfInBounds_toArray, List.set_cons_zero, List.set_cons_succ]
        refine dw_val (by kernel_rfl) (.bool true) (by kernel_rfl) ?_
        simp only [Act.put, List.setIfInBounds_toArray, List.set_cons_zero, List.set_cons_succ]
        refine wl_nil ?_
        refine hK10 _ _ ?_
        refine wp_cond_true rfl ?_
        refine wp_seq_k fun K11 hK11 => ?_
        have hJK11 : ∀ (u40 u41 u42 u43 u44 u45 u46 u47 u48 u49 u50 u51 u52 u53 u54 u55 u56 u57 u58 u59 u60 u61 u62 u63 u64 u_ : Value) (bb : Bool) (w10 : World), bb = (bareB r) → Blk w10 n1 [(.bool (r.acc) : Value), .int .i64 r.side, .string r.fb, .int .i64 r.fn, .string r.tb, .int .i64 r.tn, .int .i64 r.s0, .int .i64 r.s1, .int .i64 r.d0, .int .i64 r.d1, .int .i64 r.mask, .int .i64 r.flags, .int .i64 r.classes] 45 → Blk w10 n3 [(.string a.src : Value), .string a.dst, .int .i64 a.from_, .int .i64 a.to_, .int .u32 a.seq, .int .u32 a.ack, .int .i64 a.flags, .int .i64 a.win, .int .i64 a.urg, .int .i64 a.mss, .int .i64 a.scale, .bool (a.sack), .slice a.ba a.bn a.bc, .bool (a.timed), .int .u32 a.time, .int .u32 a.echo, .string a.data, .int .i64 a.side, .int .i64 3] 37 → Blk w10 n7 [(.int .i64 1 : Value), .int .i64 2, .int .i64 4, .int .i64 8] 3 → Touch (fun _ => False) w w10 → K11 ⟨#[(.agg #[(.bool (r.acc) : Value), .int .i64 r.side, .string r.fb, .int .i64 r.fn, .string r.tb, .int .i64 r.tn, .int .i64 r.s0, .int .i64 r.s1, .int .i64 r.d0, .int .i64 r.d1, .int .i64 r.mask, .int .i64 r.flags, .int .i64 r.classes] : Value), .agg #[(.string a.src : Value), .string a.dst, .int .i64 a.from_, .int .i64 a.to_, .int .u32 a.seq, .int .u32 a.ack, .int .i64 a.flags, .int .i64 a.win, .int .i64 a.urg, .int .i64 a.mss, .int .i64 a.scale, .bool (a.sack), .slice a.ba a.bn a.bc, .bool (a.timed), .int .u32 a.time, .int .u32 a.echo, .string a.data, .int .i64 a.side, .int .i64 3], .pointer (some ⟨n1, 0, none⟩), .pointer (some ⟨n3, 0, none⟩), .bool bb, .int .i64 8, u6, u7, u8, u9, u10, u11, u12, u13, u14, u15, u16, u17, u18, u19, u20, u21, u22, u23, u24, .bool (!sideB r.side a.side), .slice (some ⟨n7, 0, none⟩) 4 4, .pointer (some ⟨n3, 18, none⟩), .int .i64 3, .pointer (some ⟨n7, 3, none⟩), .int .i64 8, .pointer (some ⟨n1, 12, none⟩), .int .i64 r.classes, .int .i64 8, .int .i64 (IntKind.i64.wrap (Int.tdiv r.classes 8)), .int .i64 (Int.tmod (IntKind.i64.wrap (Int.tdiv r.classes 8)) 2), .bool ((Int.tmod (IntKind.i64.wrap (Int.tdiv r.classes 8)) 2) == 0), .pointer (some ⟨n3, 18, none⟩), .int .i64 3, .bool true, u40, u41, u42, u43, u44, u45, u46, u47, u48, u49, u50, u51, u52, u53, u54, u55, u56, u57, u58, u59, u60, u61, u62, u63, u64, undef, undef, undef, undef, undef, undef, undef, undef, undef, undef, undef, undef, undef, undef, undef, undef, undef, undef, undef, undef, undef, undef, undef, undef, undef, undef, undef, undef, undef, undef, undef, undef, undef, undef, undef, undef, undef, undef, undef, undef, undef, undef, undef, undef, undef, undef, undef, undef, undef, undef, undef, undef, undef, undef, undef, undef], []⟩ w10 := by
          clear hT0 hBn1 hBn3 hBn7
          intro u40 u41 u42 u43 u44 u45 u46 u47 u48 u49 u50 u51 u52 u53 u54 u55 u56 u57 u58 u59 u60 u61 u62 u63 u64 u_ bb w10 hbb hBn1 hBn3 hBn7 hT0
          subst hbb
          refine hK11 _ _ ?_
          refine wp_ret ?_
          repeat (first | with_reducible refine ret_then ?_ | with_reducible refine ret_block ?_)
          refine bodyPost_ret (v := .bool (bareB r)) (by kernel_rfl) rfl ?_
          try rw [hcls] at c6
          try rw [hcls] at c9
          refine ⟨ret_bool ?_, hT0.toBelow⟩
          unfold oneK andI
          simp at c6 c9
          first | (simp [c6, c9]; done) | (simp [c6, c9]; intro h1 h2; simp [h1, h2] at c9; done)
        refine wl_region ?_
        refine dw_val (by kernel_rfl) (.pointer (some ⟨n1, 2, none⟩)) (by kernel_rfl) ?_
        simp only [Act.put, List.setIfInBounds_toArray, List.set_cons_zero, List.set_cons_succ]
        refine dw_row (by kernel_rfl) 40 (.tmp 40) rfl n1 2 rfl _ _ hBn1 [(.string r.fb : Value), .int .i64 r.fn] rfl _ Try.underlying40 rfl (by kernel_rfl) ?_
        simp only [Act.put, List.setIfInBounds_toArray, List.set_cons_zero, List.set_cons_succ]
        refine dw_ret (by kernel_rfl) 34 #[(.agg #[(.string r.fb : Value), .int .i64 r.fn] : Value)] (by kernel_rfl) (rwide_any r.fb r.fn w8) ?_
        intro w11 hb
        have ht12 : Touch (fun _ => False) w8 w11 := Touch.none hb
        replace hBn1 := hBn1.keep ht12 (fun h => h)
        replace hBn3 := hBn3.keep ht12 (fun h => h)
        replace hBn7 := hBn7.keep ht12 (fun h => h)
        replace hT0 := hT0.trans ht12 (fun _ _ h => h.elim)
        clear hb
        simp only [Act.put, List.setIfInBounds_toArray, List.set_cons_zero, List.set_cons_succ]
        refine dw_bool (by kernel_rfl) (wideB r.fb r.fn) (by kernel_rfl) (fun c13 => ?_) (fun c13 => ?_)
        · skip
          simp only [Act.put, List.setIfInBounds_toArray, List.set_cons_zero, List.set_cons_succ]
          refine dw_val (by kernel_rfl) (.pointer (some ⟨n1, 4, none⟩)) (by kernel_rfl) ?_
          simp only [Act.put, List.setIfInBounds_toArray, List.set_cons_zero, List.set_cons_succ]
          refine dw_row (by kernel_rfl) 40 (.tmp 44) rfl n1 4 rfl _ _ hBn1 [(.string r.tb : Value), .int .i64 r.tn] rfl _ Try.underlying40 rfl (by kernel_rfl) ?_
          simp only [Act.put, List.setIfInBounds_toArray, List.set_cons_zero, List.set_cons_succ]
          refine dw_ret (by kernel_rfl) 34 #[(.agg #[(.string r.tb : Value), .int .i64 r.tn] : Value)] (by kernel_rfl) (rwide_any r.tb r.tn w11) ?_
          intro w14 hb
          have ht15 : Touch (fun _ => False) w11 w14 := Touch.none hb
          replace hBn1 := hBn1.keep ht15 (fun h => h)
          replace hBn3 := hBn3.keep ht15 (fun h => h)
          replace hBn7 := hBn7.keep ht15 (fun h => h)
          replace hT0 := hT0.trans ht15 (fun _ _ h => h.elim)
          clear hb
          simp only [Act.put, List.setIfInBounds_toArray, List.set_cons_zero, List.set_cons_succ]
          refine dw_val (by kernel_rfl) (.bool (wideB r.tb r.tn)) (by kernel_rfl) ?_
          simp only [Act.put, List.setIfInBounds_toArray, List.set_cons_zero, List.set_cons_succ]
          refine dw_bool (by kernel_rfl) (wideB r.tb r.tn) (by kernel_rfl) (fun c16 => ?_) (fun c16 => ?_)
          · skip
            simp only [Act.put, List.setIfInBounds_toArray, List.set_cons_zero, List.set_cons_succ]
            refine dw_val (by kernel_rfl) (.pointer (some ⟨n1, 6, none⟩)) (by kernel_rfl) ?_
            simp only [Act.put, List.setIfInBounds_toArray, List.set_cons_zero, List.set_cons_succ]
            refine dw_row (by kernel_rfl) 41 (.tmp 49) rfl n1 6 rfl _ _ hBn1 [(.int .i64 r.s0 : Value), .int .i64 r.s1] rfl _ Try.underlying41 rfl (by kernel_rfl) ?_
            simp only [Act.put, List.setIfInBounds_toArray, List.set_cons_zero, List.set_cons_succ]
            refine dw_val (by kernel_rfl) (.agg #[(.int .i64 0 : Value), .int .i64 65535]) (by kernel_rfl) ?_
            simp only [Act.put, List.setIfInBounds_toArray, List.set_cons_zero, List.set_cons_succ]
            refine dw_val (by kernel_rfl) (.bool (decide (r.s0 = 0 ∧ r.s1 = 65535))) (ev_eq2 (.tmp 50) (.tmp 51) rfl rfl rfl) ?_
            simp only [Act.put, List.setIfInBounds_toArray, List.set_cons_zero, List.set_cons_succ]
            refine dw_val (by kernel_rfl) (.bool (decide (r.s0 = 0 ∧ r.s1 = 65535))) (by kernel_rfl) ?_
            simp only [Act.put, List.setIfInBounds_toArray, List.set_cons_zero, List.set_cons_succ]
            refine dw_bool (by kernel_rfl) (decide (r.s0 = 0 ∧ r.s1 = 65535)) (by kernel_rfl) (fun c17 => ?_) (fun c17 => ?_)
            · skip
              replace c17 := of_decide_eq_true c17
              simp only [Act.put, List.setIfInBounds_toArray, List.set_cons_zero, List.set_cons_succ]
              refine dw_val (by kernel_rfl) (.pointer (some ⟨n1, 8, none⟩)) (by kernel_rfl) ?_
              simp only [Act.put, List.setIfInBounds_toArray, List.set_cons_zero, List.set_cons_succ]
              refine dw_row (by kernel_rfl) 41 (.tmp 55) rfl n1 8 rfl _ _ hBn1 [(.int .i64 r.d0 : Value), .int .i64 r.d1] rfl _ Try.underlying41 rfl (by kernel_rfl) ?_
              simp only [Act.put, List.setIfInBounds_toArray, List.set_cons_zero, List.set_cons_succ]
              refine dw_val (by kernel_rfl) (.agg #[(.int .i64 0 : Value), .int .i64 65535]) (by kernel_rfl) ?_
              simp only [Act.put, List.setIfInBounds_toArray, List.set_cons_zero, List.set_cons_succ]
              refine dw_val (by kernel_rfl) (.bool (decide (r.d0 = 0 ∧ r.d1 = 65535))) (ev_eq2 (.tmp 56) (.tmp 57) rfl rfl rfl) ?_
              simp only [Act.put, List.setIfInBounds_toArray, List.set_cons_zero, List.set_cons_succ]
              refine dw_val (by kernel_rfl) (.bool (decide (r.d0 = 0 ∧ r.d1 = 65535))) (by kernel_rfl) ?_
              simp only [Act.put, List.setIfInBounds_toArray, List.set_cons_zero, List.set_cons_succ]
              refine dw_bool (by kernel_rfl) (decide (r.d0 = 0 ∧ r.d1 = 65535)) (by kernel_rfl) (fun c18 => ?_) (fun c18 => ?_)
              · skip
                replace c18 := of_decide_eq_true c18
                simp only [Act.put, List.setIfInBounds_toArray, List.set_cons_zero, List.set_cons_succ]
                refine dw_val (by kernel_rfl) (.pointer (some ⟨n1, 10, none⟩)) (by kernel_rfl) ?_
                simp only [Act.put, List.setIfInBounds_toArray, List.set_cons_zero, List.set_cons_succ]
                refine dw_cell (by kernel_rfl) 3 (.tmp 61) rfl n1 10 rfl _ _ hBn1 (.int .i64 r.mask) rfl _ Try.underlying3 rfl ?_
                simp only [Act.put, List.setIfInBounds_toArray, List.set_cons_zero, List.set_cons_succ]
                refine dw_val (by kernel_rfl) (.bool (r.mask == 0)) (by kernel_rfl) ?_
                simp only [Act.put, List.setIfInBounds_toArray, List.set_cons_zero, List.set_cons_succ]
                refine dw_val (by kernel_rfl) (.bool (r.mask == 0)) (by kernel_rfl) ?_
                simp only [Act.put, List.setIfInBounds_toArray, List.set_cons_zero, List.set_cons_succ]
                refine dw_val (by kernel_rfl) (.bool (r.mask == 0)) (by kernel_rfl) ?_
                simp only [Act.put, List.setIfInBounds_toArray, List.set_cons_zero, List.set_cons_succ]
                refine wl_nil ?_
                skip
                exact hJK11 _ _ _ _ _ _ _ _ _ _ _ _ _ _ _ _ _ _ _ _ _ _ _ _ _ undef (r.mask == 0) _ (by unfold bareB; first | (simp [c6, c9, c13, c16, c17, c18]; done) | (simp [c6, c9, c13, c16, c17, c18]; rfl)) hBn1 hBn3 hBn7 hT0
              · skip
                replace c18 := of_decide_eq_false c18
                simp only [Act.put, List.setIfInBounds_toArray, List.set_cons_zero, List.set_cons_succ]
                refine dw_no (by kernel_rfl) ?_
                simp only [Act.put, List.setIfInBounds_toArray, List.set_cons_zero, List.set_cons_succ]
                refine dw_no (by kernel_rfl) ?_
                simp only [Act.put, List.setIfInBounds_toArray, List.set_cons_zero, List.set_cons_succ]
                refine dw_no (by kernel_rfl) ?_
                simp only [Act.put, List.setIfInBounds_toArray, List.set_cons_zero, List.set_cons_succ]
                refine dw_val (by kernel_rfl) (.bool false) (by kernel_rfl) ?_
                simp only [Act.put, List.setIfInBounds_toArray, List.set_cons_zero, List.set_cons_succ]
                refine dw_val (by kernel_rfl) (.bool false) (by kernel_rfl) ?_
                simp only [Act.put, List.setIfInBounds_toArray, List.set_cons_zero, List.set_cons_succ]
                refine wl_nil ?_
                skip
                exact hJK11 _ _ _ _ _ _ _ _ _ _ _ _ _ _ _ _ _ _ _ _ _ _ _ _ _ undef false _ (by unfold bareB; first | (simp [c6, c9, c13, c16, c17, c18]; done) | (simp [c6, c9, c13, c16, c17, c18]; rfl)) hBn1 hBn3 hBn7 hT0
            · skip
              replace c17 := of_decide_eq_false c17
              simp only [Act.put, List.setIfInBounds_toArray, List.set_cons_zero, List.set_cons_succ]
              refine dw_no (by kernel_rfl) ?_
              simp only [Act.put, List.setIfInBounds_toArray, List.set_cons_zero, List.set_cons_succ]
              refine dw_no (by kernel_rfl) ?_
              simp only [Act.put, List.setIfInBounds_toArray, List.set_cons_zero, List.set_cons_succ]
              refine dw_no (by kernel_rfl) ?_
              simp only [Act.put, List.setIfInBounds_toArray, List.set_cons_zero, List.set_cons_succ]
              refine dw_no (by kernel_rfl) ?_
              simp only [Act.put, List.setIfInBounds_toArray, List.set_cons_zero, List.set_cons_succ]
              refine dw_val (by kernel_rfl) (.bool false) (by kernel_rfl) ?_
              simp only [Act.put, List.setIfInBounds_toArray, List.set_cons_zero, List.set_cons_succ]
              refine dw_val (by kernel_rfl) (.bool false) (by kernel_rfl) ?_
              simp only [Act.put, List.setIfInBounds_toArray, List.set_cons_zero, List.set_cons_succ]
              refine dw_no (by kernel_rfl) ?_
              simp only [Act.put, List.setIfInBounds_toArray, List.set_cons_zero, List.set_cons_succ]
              refine dw_no (by kernel_rfl) ?_
              simp only [Act.put, List.setIfInBounds_toArray, List.set_cons_zero, List.set_cons_succ]
              refine dw_no (by kernel_rfl) ?_
              simp only [Act.put, List.setIfInBounds_toArray, List.set_cons_zero, List.set_cons_succ]
              refine dw_val (by kernel_rfl) (.bool false) (by kernel_rfl) ?_
              simp only [Act.put, List.setIfInBounds_toArray, List.set_cons_zero, List.set_cons_succ]
              refine dw_val (by kernel_rfl) (.bool false) (by kernel_rfl) ?_
              simp only [Act.put, List.setIfInBounds_toArray, List.set_cons_zero, List.set_cons_succ]
              refine wl_nil ?_
              skip
              exact hJK11 _ _ _ _ _ _ _ _ _ _ _ _ _ _ _ _ _ _ _ _ _ _ _ _ _ undef false _ (by unfold bareB; first | (simp [c6, c9, c13, c16, c17]; done) | (simp [c6, c9, c13, c16, c17]; rfl)) hBn1 hBn3 hBn7 hT0
          · skip
            simp only [Act.put, List.setIfInBounds_toArray, List.set_cons_zero, List.set_cons_succ]
            refine dw_no (by kernel_rfl) ?_
            simp only [Act.put, List.setIfInBounds_toArray, List.set_cons_zero, List.set_cons_succ]
            refine dw_no (by kernel_rfl) ?_
            simp only [Act.put, List.setIfInBounds_toArray, List.set_cons_zero, List.set_cons_succ]
            refine dw_no (by kernel_rfl) ?_
            simp only [Act.put, List.setIfInBounds_toArray, List.set_cons_zero, List.set_cons_succ]
            refine dw_no (by kernel_rfl) ?_
            simp only [Act.put, List.setIfInBounds_toArray, List.set_cons_zero, List.set_cons_succ]
            refine dw_val (by kernel_rfl) (.bool false) (by kernel_rfl) ?_
            simp only [Act.put, List.setIfInBounds_toArray, List.set_cons_zero, List.set_cons_succ]
            refine dw_val (by kernel_rfl) (.bool false) (by kernel_rfl) ?_
            simp only [Act.put, List.setIfInBounds_toArray, List.set_cons_zero, List.set_cons_succ]
            refine dw_no (by kernel_rfl) ?_
            simp only [Act.put, List.setIfInBounds_toArray, List.set_cons_zero, List.set_cons_succ]
            refine dw_no (by kernel_rfl) ?_
            simp only [Act.put, List.setIfInBounds_toArray, List.set_cons_zero, List.set_cons_succ]
            refine dw_no (by kernel_rfl) ?_
            simp only [Act.put, List.setIfInBounds_toArray, List.set_cons_zero, List.set_cons_succ]
            refine dw_no (by kernel_rfl) ?_
            simp only [Act.put, List.setIfInBounds_toArray, List.set_cons_zero, List.set_cons_succ]
            refine dw_val (by kernel_rfl) (.bool false) (by kernel_rfl) ?_
            simp only [Act.put, List.setIfInBounds_toArray, List.set_cons_zero, List.set_cons_succ]
            refine dw_val (by kernel_rfl) (.bool false) (by kernel_rfl) ?_
            simp only [Act.put, List.setIfInBounds_toArray, List.set_cons_zero, List.set_cons_succ]
            refine dw_no (by kernel_rfl) ?_
            simp only [Act.put, List.setIfInBounds_toArray, List.set_cons_zero, List.set_cons_succ]
            refine dw_no (by kernel_rfl) ?_
            simp only [Act.put, List.setIfInBounds_toArray, List.set_cons_zero, List.set_cons_succ]
            refine dw_no (by kernel_rfl) ?_
            simp only [Act.put, List.setIfInBounds_toArray, List.set_cons_zero, List.set_cons_succ]
            refine dw_val (by kernel_rfl) (.bool false) (by kernel_rfl) ?_
            simp only [Act.put, List.setIfInBounds_toArray, List.set_cons_zero, List.set_cons_succ]
            refine dw_val (by kernel_rfl) (.bool false) (by kernel_rfl) ?_
            simp only [Act.put, List.setIfInBounds_toArray, List.set_cons_zero, List.set_cons_succ]
            refine wl_nil ?_
            skip
            exact hJK11 _ _ _ _ _ _ _ _ _ _ _ _ _ _ _ _ _ _ _ _ _ _ _ _ _ undef false _ (by unfold bareB; first | (simp [c6, c9, c13, c16]; done) | (simp [c6, c9, c13, c16]; rfl)) hBn1 hBn3 hBn7 hT0
        · skip
          simp only [Act.put, List.setIfInBounds_toArray, List.set_cons_zero, List.set_cons_succ]
          refine dw_no (by kernel_rfl) ?_
          simp only [Act.put, List.setIfInBounds_toArray, List.set_cons_zero, List.set_cons_succ]
          refine dw_no (by kernel_rfl) ?_
          simp only [Act.put, List.setIfInBounds_toArray, List.set_cons_zero, List.set_cons_succ]
          refine dw_no (by kernel_rfl) ?_
          simp only [Act.put, List.setIfInBounds_toArray, List.set_cons_zero, List.set_cons_succ]
          refine dw_val (by kernel_rfl) (.bool false) (by kernel_rfl) ?_
          simp only [Act.put, List.setIfInBounds_toArray, List.set_cons_zero, List.set_cons_succ]
          refine dw_val (by kernel_rfl) (.bool false) (by kernel_rfl) ?_
          simp only [Act.put, List.setIfInBounds_toArray, List.set_cons_zero, List.set_cons_succ]
          refine dw_no (by kernel_rfl) ?_
          simp only [Act.put, List.setIfInBounds_toArray, List.set_cons_zero, List.set_cons_succ]
          refine dw_no (by kernel_rfl) ?_
          simp only [Act.put, List.setIfInBounds_toArray, List.set_cons_zero, List.set_cons_succ]
          refine dw_no (by kernel_rfl) ?_
          simp only [Act.put, List.setIfInBounds_toArray, List.set_cons_zero, List.set_cons_succ]
          refine dw_no (by kernel_rfl) ?_
          simp only [Act.put, List.setIfInBounds_toArray, List.set_cons_zero, List.set_cons_succ]
          refine dw_val (by kernel_rfl) (.bool false) (by kernel_rfl) ?_
          simp only [Act.put, List.setIfInBounds_toArray, List.set_cons_zero, List.set_cons_succ]
          refine dw_val (by kernel_rfl) (.bool false) (by kernel_rfl) ?_
          simp only [Act.put, List.setIfInBounds_toArray, List.set_cons_zero, List.set_cons_succ]
          refine dw_no (by kernel_rfl) ?_
          simp only [Act.put, List.setIfInBounds_toArray, List.set_cons_zero, List.set_cons_succ]
          refine dw_no (by kernel_rfl) ?_
          simp only [Act.put, List.setIfInBounds_toArray, List.set_cons_zero, List.set_cons_succ]
          refine dw_no (by kernel_rfl) ?_
          simp only [Act.put, List.setIfInBounds_toArray, List.set_cons_zero, List.set_cons_succ]
          refine dw_no (by kernel_rfl) ?_
          simp only [Act.put, List.setIfInBounds_toArray, List.set_cons_zero, List.set_cons_succ]
          refine dw_val (by kernel_rfl) (.bool false) (by kernel_rfl) ?_
          simp only [Act.put, List.setIfInBounds_toArray, List.set_cons_zero, List.set_cons_succ]
          refine dw_val (by kernel_rfl) (.bool false) (by kernel_rfl) ?_
          simp only [Act.put, List.setIfInBounds_toArray, List.set_cons_zero, List.set_cons_succ]
          refine dw_no (by kernel_rfl) ?_
          simp only [Act.put, List.setIfInBounds_toArray, List.set_cons_zero, List.set_cons_succ]
          refine dw_no (by kernel_rfl) ?_
          simp only [Act.put, List.setIfInBounds_toArray, List.set_cons_zero, List.set_cons_succ]
          refine dw_no (by kernel_rfl) ?_
          simp only [Act.put, List.setIfInBounds_toArray, List.set_cons_zero, List.set_cons_succ]
          refine dw_val (by kernel_rfl) (.bool false) (by kernel_rfl) ?_
          simp only [Act.put, List.setIfInBounds_toArray, List.set_cons_zero, List.set_cons_succ]
          refine dw_val (by kernel_rfl) (.bool false) (by kernel_rfl) ?_
          simp only [Act.put, List.setIfInBounds_toArray, List.set_cons_zero, List.set_cons_succ]
          refine wl_nil ?_
          skip
          exact hJK11 _ _ _ _ _ _ _ _ _ _ _ _ _ _ _ _ _ _ _ _ _ _ _ _ _ undef false _ (by unfold bareB; first | (simp [c6, c9, c13]; done) | (simp [c6, c9, c13]; rfl)) hBn1 hBn3 hBn7 hT0
  refine wl_region ?_
  refine dw_val (by kernel_rfl) (.pointer (some ⟨n1, 1, none⟩)) (by kernel_rfl) ?_
  simp only [Act.put, List.setIfInBounds_toArray, List.set_cons_zero, List.set_cons_succ]
  refine dw_cell (by kernel_rfl) 3 (.tmp 6) rfl n1 1 rfl _ _ hBn1 (.int .i64 r.side) rfl _ Try.underlying3 rfl ?_
  simp only [Act.put, List.setIfInBounds_toArray, List.set_cons_zero, List.set_cons_succ]
  refine dw_val (by kernel_rfl) (.bool (r.side != 0)) (by kernel_rfl) ?_
  simp only [Act.put, List.setIfInBounds_toArray, List.set_cons_zero, List.set_cons_succ]
  refine dw_bool (by kernel_rfl) (r.side != 0) (by kernel_rfl) (fun c19 => ?_) (fun c19 => ?_)
  · skip
    simp only [Act.put, List.setIfInBounds_toArray, List.set_cons_zero, List.set_cons_succ]
    refine dw_val (by kernel_rfl) (.pointer (some ⟨n1, 1, none⟩)) (by kernel_rfl) ?_
    simp only [Act.put, List.setIfInBounds_toArray, List.set_cons_zero, List.set_cons_succ]
    refine dw_cell (by kernel_rfl) 3 (.tmp 10) rfl n1 1 rfl _ _ hBn1 (.int .i64 r.side) rfl _ Try.underlying3 rfl ?_
    simp only [Act.put, List.setIfInBounds_toArray, List.set_cons_zero, List.set_cons_succ]
    refine dw_val (by kernel_rfl) (.pointer (some ⟨n3, 17, none⟩)) (by kernel_rfl) ?_
    simp only [Act.put, List.setIfInBounds_toArray, List.set_cons_zero, List.set_cons_succ]
    refine dw_cell (by kernel_rfl) 3 (.tmp 12) rfl n3 17 rfl _ _ hBn3 (.int .i64 a.side) rfl _ Try.underlying3 rfl ?_
    simp only [Act.put, List.setIfInBounds_toArray, List.set_cons_zero, List.set_cons_succ]
    refine dw_val (by kernel_rfl) (.bool (r.side != a.side)) (by kernel_rfl) ?_
    simp only [Act.put, List.setIfInBounds_toArray, List.set_cons_zero, List.set_cons_succ]
    refine dw_val (by kernel_rfl) (.bool (r.side != a.side)) (by kernel_rfl) ?_
    simp only [Act.put, List.setIfInBounds_toArray, List.set_cons_zero, List.set_cons_succ]
    refine dw_bool (by kernel_rfl) (r.side != a.side) (by kernel_rfl) (fun c20 => ?_) (fun c20 => ?_)
    · skip
      simp only [Act.put, List.setIfInBounds_toArray, List.set_cons_zero, List.set_cons_succ]
      refine dw_no (by kernel_rfl) ?_
      simp only [Act.put, List.setIfInBounds_toArray, List.set_cons_zero, List.set_cons_succ]
      refine dw_no (by kernel_rfl) ?_
      simp only [Act.put, List.setIfInBounds_toArray, List.set_cons_zero, List.set_cons_succ]
      refine dw_no (by kernel_rfl) ?_
      simp only [Act.put, List.setIfInBounds_toArray, List.set_cons_zero, List.set_cons_succ]
      refine dw_val (by kernel_rfl) (.bool true) (by kernel_rfl) ?_
      simp only [Act.put, List.setIfInBounds_toArray, List.set_cons_zero, List.set_cons_succ]
      refine dw_val (by kernel_rfl) (.bool true) (by kernel_rfl) ?_
      simp only [Act.put, List.setIfInBounds_toArray, List.set_cons_zero, List.set_cons_succ]
      refine dw_no (by kernel_rfl) ?_
      simp only [Act.put, List.setIfInBounds_toArray, List.set_cons_zero, List.set_cons_succ]
      refine dw_no (by kernel_rfl) ?_
      simp only [Act.put, List.setIfInBounds_toArray, List.set_cons_zero, List.set_cons_succ]
      refine dw_no (by kernel_rfl) ?_
      simp only [Act.put, List.setIfInBounds_toArray, List.set_cons_zero, List.set_cons_succ]
      refine dw_val (by kernel_rfl) (.bool true) (by kernel_rfl) ?_
      simp only [Act.put, List.setIfInBounds_toArray, List.set_cons_zero, List.set_cons_succ]
      refine wl_nil ?_
      skip
      exact hJK3 _ _ _ _ _ _ _ _ _ _ _ _ _ _ _ _ _ _ _ undef true _ (by unfold sideB; simp at c19 c20; simp [c19, c20]) hBn1 hBn3 hT0
    · skip
      simp only [Act.put, List.setIfInBounds_toArray, List.set_cons_zero, List.set_cons_succ]
      refine dw_val (by kernel_rfl) (.pointer (some ⟨n3, 18, none⟩)) (by kernel_rfl) ?_
      simp only [Act.put, List.setIfInBounds_toArray, List.set_cons_zero, List.set_cons_succ]
      refine dw_cell (by kernel_rfl) 3 (.tmp 17) rfl n3 18 rfl _ _ hBn3 (.int .i64 3) rfl _ Try.underlying3 rfl ?_
      simp only [Act.put, List.setIfInBounds_toArray, List.set_cons_zero, List.set_cons_succ]
      refine dw_val (by kernel_rfl) (.bool false) (by kernel_rfl) ?_
      simp only [Act.put, List.setIfInBounds_toArray, List.set_cons_zero, List.set_cons_succ]
      refine dw_val (by kernel_rfl) (.bool false) (by kernel_rfl) ?_
      simp only [Act.put, List.setIfInBounds_toArray, List.set_cons_zero, List.set_cons_succ]
      refine dw_val (by kernel_rfl) (.bool false) (by kernel_rfl) ?_
      simp only [Act.put, List.setIfInBounds_toArray, List.set_cons_zero, List.set_cons_succ]
      refine dw_val (by kernel_rfl) (.pointer (some ⟨n3, 18, none⟩)) (by kernel_rfl) ?_
      simp only [Act.put, List.setIfInBounds_toArray, List.set_cons_zero, List.set_cons_succ]
      refine dw_cell (by kernel_rfl) 3 (.tmp 22) rfl n3 18 rfl _ _ hBn3 (.int .i64 3) rfl _ Try.underlying3 rfl ?_
      simp only [Act.put, List.setIfInBounds_toArray, List.set_cons_zero, List.set_cons_succ]
      refine dw_val (by kernel_rfl) (.bool false) (by kernel_rfl) ?_
      simp only [Act.put, List.setIfInBounds_toArray, List.set_cons_zero, List.set_cons_succ]
      refine dw_val (by kernel_rfl) (.bool false) (by kernel_rfl) ?_
      simp only [Act.put, List.setIfInBounds_toArray, List.set_cons_zero, List.set_cons_succ]
      refine wl_nil ?_
      skip
      exact hJK3 _ _ _ _ _ _ _ _ _ _ _ _ _ _ _ _ _ _ _ undef false _ (by unfold sideB; simp at c19 c20; simp [c19, c20]) hBn1 hBn3 hT0
  · skip
    simp only [Act.put, List.setIfInBounds_toArray, List.set_cons_zero, List.set_cons_succ]
    refine dw_no (by kernel_rfl) ?_
    simp only [Act.put, List.setIfInBounds_toArray, List.set_cons_zero, List.set_cons_succ]
    refine dw_no (by kernel_rfl) ?_
    simp only [Act.put, List.setIfInBounds_toArray, List.set_cons_zero, List.set_cons_succ]
    refine dw_no (by kernel_rfl) ?_
    simp only [Act.put, List.setIfInBounds_toArray, List.set_cons_zero, List.set_cons_succ]
    refine dw_no (by kernel_rfl) ?_
    simp only [Act.put, List.setIfInBounds_toArray, List.set_cons_zero, List.set_cons_succ]
    refine dw_no (by kernel_rfl) ?_
    simp only [Act.put, List.setIfInBounds_toArray, List.set_cons_zero, List.set_cons_succ]
    refine dw_val (by kernel_rfl) (.bool false) (by kernel_rfl) ?_
    simp only [Act.put, List.setIfInBounds_toArray, List.set_cons_zero, List.set_cons_succ]
    refine dw_val (by kernel_rfl) (.bool false) (by kernel_rfl) ?_
    simp only [Act.put, List.setIfInBounds_toArray, List.set_cons_zero, List.set_cons_succ]
    refine dw_val (by kernel_rfl) (.pointer (some ⟨n3, 18, none⟩)) (by kernel_rfl) ?_
    simp only [Act.put, List.setIfInBounds_toArray, List.set_cons_zero, List.set_cons_succ]
    refine dw_cell (by kernel_rfl) 3 (.tmp 17) rfl n3 18 rfl _ _ hBn3 (.int .i64 3) rfl _ Try.underlying3 rfl ?_
    simp only [Act.put, List.setIfInBounds_toArray, List.set_cons_zero, List.set_cons_succ]
    refine dw_val (by kernel_rfl) (.bool false) (by kernel_rfl) ?_
    simp only [Act.put, List.setIfInBounds_toArray, List.set_cons_zero, List.set_cons_succ]
    refine dw_val (by kernel_rfl) (.bool false) (by kernel_rfl) ?_
    simp only [Act.put, List.setIfInBounds_toArray, List.set_cons_zero, List.set_cons_succ]
    refine dw_val (by kernel_rfl) (.bool false) (by kernel_rfl) ?_
    simp only [Act.put, List.setIfInBounds_toArray, List.set_cons_zero, List.set_cons_succ]
    refine dw_val (by kernel_rfl) (.pointer (some ⟨n3, 18, none⟩)) (by kernel_rfl) ?_
    simp only [Act.put, List.setIfInBounds_toArray, List.set_cons_zero, List.set_cons_succ]
    refine dw_cell (by kernel_rfl) 3 (.tmp 22) rfl n3 18 rfl _ _ hBn3 (.int .i64 3) rfl _ Try.underlying3 rfl ?_
    simp only [Act.put, List.setIfInBounds_toArray, List.set_cons_zero, List.set_cons_succ]
    refine dw_val (by kernel_rfl) (.bool false) (by kernel_rfl) ?_
    simp only [Act.put, List.setIfInBounds_toArray, List.set_cons_zero, List.set_cons_succ]
    refine dw_val (by kernel_rfl) (.bool false) (by kernel_rfl) ?_
    simp only [Act.put, List.setIfInBounds_toArray, List.set_cons_zero, List.set_cons_succ]
    refine wl_nil ?_
    skip
    exact hJK3 _ _ _ _ _ _ _ _ _ _ _ _ _ _ _ _ _ _ _ undef false _ (by unfold sideB; simp at c19; simp [c19]) hBn1 hBn3 hT0
set_option maxRecDepth 100000 in
set_option maxHeartbeats 4000000 in
theorem rone_lt (r : Rl) (a : Ak) (k : Int) (hk : k < 0) (w : World) :
    Calls Try.prog 11 #[.agg #[.bool (r.acc), .int .i64 r.side, .string r.fb, .int .i64 r.fn, .string r.tb, .int .i64 r.tn, .int .i64 r.s0, .int .i64 r.s1, .int .i64 r.d0, .int .i64 r.d1, .int .i64 r.mask, .int .i64 r.flags, .int .i64 r.classes], .agg #[.string a.src, .string a.dst, .int .i64 a.from_, .int .i64 a.to_, .int .u32 a.seq, .int .u32 a.ack, .int .i64 a.flags, .int .i64 a.win, .int .i64 a.urg, .int .i64 a.mss, .int .i64 a.scale, .bool (a.sack), .slice a.ba a.bn a.bc, .bool (a.timed), .int .u32 a.time, .int .u32 a.echo, .string a.data, .int .i64 a.side, .int .i64 k]] w fun e w' => e = .returned (.bool (oneK r a k)) ∧ Below w.heap.size w w' := by
  have hT0 := Touch.refl (fun _ => False) w
  go_enter Try.func11, Try.ntmps11
  refine wp_seq_k fun K1 hK1 => ?_
  refine wl_region ?_
  refine dw_new (by kernel_rfl) [(.bool (r.acc) : Value), .int .i64 r.side, .string r.fb, .int .i64 r.fn, .string r.tb, .int .i64 r.tn, .int .i64 r.s0, .int .i64 r.s1, .int .i64 r.d0, .int .i64 r.d1, .int .i64 r.mask, .int .i64 r.flags, .int .i64 r.classes] 45 (by kernel_rfl) ?_
  intro n1 w2 hnn1 hsn1 hBn1 hTn1
  have hgen1 : w.heap.size ≤ n1 := by have := hT0.size; omega
  replace hT0 := hT0.trans hTn1 (fun _ _ h => h.elim)
  simp only [Act.put, List.setIfInBounds_toArray, List.set_cons_zero, List.set_cons_succ]
  refine dw_new (by kernel_rfl) [(.string a.src : Value), .string a.dst, .int .i64 a.from_, .int .i64 a.to_, .int .u32 a.seq, .int .u32 a.ack, .int .i64 a.flags, .int .i64 a.win, .int .i64 a.urg, .int .i64 a.mss, .int .i64 a.scale, .bool (a.sack), .slice a.ba a.bn a.bc, .bool (a.timed), .int .u32 a.time, .int .u32 a.echo, .string a.data, .int .i64 a.side, .int .i64 k] 37 (by kernel_rfl) ?_
  intro n3 w4 hnn3 hsn3 hBn3 hTn3
  have hnen1n3 : n1 ≠ n3 := by have := hBn1.lt; omega
  have hgen3 : w.heap.size ≤ n3 := by have := hT0.size; omega
  replace hBn1 := hBn1.keep hTn3 (fun h => h)
  replace hT0 := hT0.trans hTn3 (fun _ _ h => h.elim)
  simp only [Act.put, List.setIfInBounds_toArray, List.set_cons_zero, List.set_cons_succ]
  refine dw_val (by kernel_rfl) (.bool false) (by kernel_rfl) ?_
  simp only [Act.put, List.setIfInBounds_toArray, List.set_cons_zero, List.set_cons_succ]
  refine wl_nil ?_
  refine hK1 _ _ ?_
  refine wp_seq_k fun K2 hK2 => ?_
  refine wp_seq_k fun K3 hK3 => ?_
  have hJK3 : ∀ (u6 u7 u8 u9 u10 u11 u12 u13 u14 u15 u16 u17 u18 u19 u20 u21 u22 u23 u24 u_ : Value) (bb : Bool) (w5 : World), bb = (true) → Blk w5 n1 [(.bool (r.acc) : Value), .int .i64 r.side, .string r.fb, .int .i64 r.fn, .string r.tb, .int .i64 r.tn, .int .i64 r.s0, .int .i64 r.s1, .int .i64 r.d0, .int .i64 r.d1, .int .i64 r.mask, .int .i64 r.flags, .int .i64 r.classes] 45 → Blk w5 n3 [(.string a.src : Value), .string a.dst, .int .i64 a.from_, .int .i64 a.to_, .int .u32 a.seq, .int .u32 a.ack, .int .i64 a.flags, .int .i64 a.win, .int .i64 a.urg, .int .i64 a.mss, .int .i64 a.scale, .bool (a.sack), .slice a.ba a.bn a.bc, .bool (a.timed), .int .u32 a.time, .int .u32 a.echo, .string a.data, .int .i64 a.side, .int .i64 k] 37 → Touch (fun _ => False) w w5 → K3 ⟨#[(.agg #[(.bool (r.acc) : Value), .int .i64 r.side, .string r.fb, .int .i64 r.fn, .string r.tb, .int .i64 r.tn, .int .i64 r.s0, .int .i64 r.s1, .int .i64 r.d0, .int .i64 r.d1, .int .i64 r.mask, .int .i64 r.flags, .int .i64 r.classes] : Value), .agg #[(.string a.src : Value), .string a.dst, .int .i64 a.from_, .int .i64 a.to_, .int .u32 a.seq, .int .u32 a.ack, .int .i64 a.flags, .int .i64 a.win, .int .i64 a.urg, .int .i64 a.mss, .int .i64 a.scale, .bool (a.sack), .slice a.ba a.bn a.bc, .bool (a.timed), .int .u32 a.time, .int .u32 a.echo, .string a.data, .int .i64 a.side, .int .i64 k], .pointer (some ⟨n1, 0, none⟩), .pointer (some ⟨n3, 0, none⟩), .bool false, undef, u6, u7, u8, u9, u10, u11, u12, u13, u14, u15, u16, u17, u18, u19, u20, u21, u22, u23, u24, .bool bb, undef, undef, undef, undef, undef, undef, undef, undef, undef, undef, undef, undef, undef, undef, undef, undef, undef, undef, undef, undef, undef, undef, undef, undef, undef, undef, undef, undef, undef, undef, undef, undef, undef, undef, undef, undef, undef, undef, undef, undef, undef, undef, undef, undef, undef, undef, undef, undef, undef, undef, undef, undef, undef, undef, undef, undef, undef, undef, undef, undef, undef, undef, undef, undef, undef, undef, undef, undef, undef, undef, undef, undef, undef, undef, undef, undef, undef, undef, undef, undef, undef, undef, undef, undef, undef, undef, undef, undef, undef, undef, undef, undef, undef, undef, undef], []⟩ w5 := by
    clear hT0 hBn1 hBn3
    intro u6 u7 u8 u9 u10 u11 u12 u13 u14 u15 u16 u17 u18 u19 u20 u21 u22 u23 u24 u_ bb w5 hbb hBn1 hBn3 hT0
    subst hbb
    refine hK3 _ _ ?_
    refine wp_cond_true rfl ?_
    refine wp_seq_k fun K4 hK4 => ?_
    refine wl_region ?_
    refine dw_val (by kernel_rfl) (.bool false) (by kernel_rfl) ?_
    simp only [Act.put, List.setIfInBounds_toArray, List.set_cons_zero, List.set_cons_succ]
    refine wl_nil ?_
    refine hK4 _ _ ?_
    refine wp_ret ?_
    repeat (first | with_reducible refine ret_then ?_ | with_reducible refine ret_block ?_)
    refine bodyPost_ret (v := .bool false) (by kernel_rfl) rfl ?_
    refine ⟨ret_bool ?_, hT0.toBelow⟩
    unfold oneK
    rw [if_pos (by omega)]
  refine wl_region ?_
  refine dw_val (by kernel_rfl) (.pointer (some ⟨n1, 1, none⟩)) (by kernel_rfl) ?_
  simp only [Act.put, List.setIfInBounds_toArray, List.set_cons_zero, List.set_cons_succ]
  refine dw_cell (by kernel_rfl) 3 (.tmp 6) rfl n1 1 rfl _ _ hBn1 (.int .i64 r.side) rfl _ Try.underlying3 rfl ?_
  simp only [Act.put, List.setIfInBounds_toArray, List.set_cons_zero, List.set_cons_succ]
  refine dw_val (by kernel_rfl) (.bool (r.side != 0)) (by kernel_rfl) ?_
  simp only [Act.put, List.setIfInBounds_toArray, List.set_cons_zero, List.set_cons_succ]
  refine dw_bool (by kernel_rfl) (r.side != 0) (by kernel_rfl) (fun c6 => ?_) (fun c6 => ?_)
  · skip
    simp only [Act.put, List.setIfInBounds_toArray, List.set_cons_zero, List.set_cons_succ]
    refine dw_val (by kernel_rfl) (.pointer (some ⟨n1, 1, none⟩)) (by kernel_rfl) ?_
    simp only [Act.put, List.setIfInBounds_toArray, List.set_cons_zero, List.set_cons_succ]
    refine dw_cell (by kernel_rfl) 3 (.tmp 10) rfl n1 1 rfl _ _ hBn1 (.int .i64 r.side) rfl _ Try.underlying3 rfl ?_
    simp only [Act.put, List.setIfInBounds_toArray, List.set_cons_zero, List.set_cons_succ]
    refine dw_val (by kernel_rfl) (.pointer (some ⟨n3, 17, none⟩)) (by kernel_rfl) ?_
    simp only [Act.put, List.setIfInBounds_toArray, List.set_cons_zero, List.set_cons_succ]
    refine dw_cell (by kernel_rfl) 3 (.tmp 12) rfl n3 17 rfl _ _ hBn3 (.int .i64 a.side) rfl _ Try.underlying3 rfl ?_
    simp only [Act.put, List.setIfInBounds_toArray, List.set_cons_zero, List.set_cons_succ]
    refine dw_val (by kernel_rfl) (.bool (r.side != a.side)) (by kernel_rfl) ?_
    simp only [Act.put, List.setIfInBounds_toArray, List.set_cons_zero, List.set_cons_succ]
    refine dw_val (by kernel_rfl) (.bool (r.side != a.side)) (by kernel_rfl) ?_
    simp only [Act.put, List.setIfInBounds_toArray, List.set_cons_zero, List.set_cons_succ]
    refine dw_bool (by kernel_rfl) (r.side != a.side) (by kernel_rfl) (fun c7 => ?_) (fun c7 => ?_)
    · skip
      simp only [Act.put, List.setIfInBounds_toArray, List.set_cons_zero, List.set_cons_succ]
      refine dw_no (by kernel_rfl) ?_
      simp only [Act.put, List.setIfInBounds_toArray, List.set_cons_zero, List.set_cons_succ]
      refine dw_no (by kernel_rfl) ?_
      simp only [Act.put, List.setIfInBounds_toArray, List.set_cons_zero, List.set_cons_succ]
      refine dw_no (by kernel_rfl) ?_
      simp only [Act.put, List.setIfInBounds_toArray, List.set_cons_zero, List.set_cons_succ]
      refine dw_val (by kernel_rfl) (.bool true) (by kernel_rfl) ?_
      simp only [Act.put, List.setIfInBounds_toArray, List.set_cons_zero, List.set_cons_succ]
      refine dw_val (by kernel_rfl) (.bool true) (by kernel_rfl) ?_
      simp only [Act.put, List.setIfInBounds_toArray, List.set_cons_zero, List.set_cons_succ]
      refine dw_no (by kernel_rfl) ?_
      simp only [Act.put, List.setIfInBounds_toArray, List.set_cons_zero, List.set_cons_succ]
      refine dw_no (by kernel_rfl) ?_
      simp only [Act.put, List.setIfInBounds_toArray, List.set_cons_zero, List.set_cons_succ]
      refine dw_no (by kernel_rfl) ?_
      simp only [Act.put, List.setIfInBounds_toArray, List.set_cons_zero, List.set_cons_succ]
      refine dw_val (by kernel_rfl) (.bool true) (by kernel_rfl) ?_
      simp only [Act.put, List.setIfInBounds_toArray, List.set_cons_zero, List.set_cons_succ]
      refine wl_nil ?_
      skip
      exact hJK3 _ _ _ _ _ _ _ _ _ _ _ _ _ _ _ _ _ _ _ undef true _ (rfl) hBn1 hBn3 hT0
    · skip
      simp only [Act.put, List.setIfInBounds_toArray, List.set_cons_zero, List.set_cons_succ]
      refine dw_val (by kernel_rfl) (.pointer (some ⟨n3, 18, none⟩)) (by kernel_rfl) ?_
      simp only [Act.put, List.setIfInBounds_toArray, List.set_cons_zero, List.set_cons_succ]
      refine dw_cell (by kernel_rfl) 3 (.tmp 17) rfl n3 18 rfl _ _ hBn3 (.int .i64 k) rfl _ Try.underlying3 rfl ?_
      simp only [Act.put, List.setIfInBounds_toArray, List.set_cons_zero, List.set_cons_succ]
      refine dw_bool (by kernel_rfl) (decide (k < 0)) (by kernel_rfl) (fun hc => ?_) (fun hc => absurd hc (by simp; omega))
      simp only [Act.put, List.setIfInBounds_toArray, List.set_cons_zero, List.set_cons_succ]
      refine dw_val (by kernel_rfl) (.bool true) (by kernel_rfl) ?_
      simp only [Act.put, List.setIfInBounds_toArray, List.set_cons_zero, List.set_cons_succ]
      refine dw_val (by kernel_rfl) (.bool true) (by kernel_rfl) ?_
      simp only [Act.put, List.setIfInBounds_toArray, List.set_cons_zero, List.set_cons_succ]
      refine dw_no (by kernel_rfl) ?_
      simp only [Act.put, List.setIfInBounds_toArray, List.set_cons_zero, List.set_cons_succ]
      refine dw_no (by kernel_rfl) ?_
      simp only [Act.put, List.setIfInBounds_toArray, List.set_cons_zero, List.set_cons_succ]
      refine dw_no (by kernel_rfl) ?_
      simp only [Act.put, List.setIfInBounds_toArray, List.set_cons_zero, List.set_cons_succ]
      refine dw_val (by kernel_rfl) (.bool true) (by kernel_rfl) ?_
      simp only [Act.put, List.setIfInBounds_toArray, List.set_cons_zero, List.set_cons_succ]
      refine wl_nil ?_
      skip
      exact hJK3 _ _ _ _ _ _ _ _ _ _ _ _ _ _ _ _ _ _ _ undef true _ (rfl) hBn1 hBn3 hT0
  · skip
    simp only [Act.put, List.setIfInBounds_toArray, List.set_cons_zero, List.set_cons_succ]
    refine dw_no (by kernel_rfl) ?_
    simp only [Act.put, List.setIfInBounds_toArray, List.set_cons_zero, List.set_cons_succ]
    refine dw_no (by kernel_rfl) ?_
    simp only [Act.put, List.setIfInBounds_toArray, List.set_cons_zero, List.set_cons_succ]
    refine dw_no (by kernel_rfl) ?_
    simp only [Act.put, List.setIfInBounds_toArray, List.set_cons_zero, List.set_cons_succ]
    refine dw_no (by kernel_rfl) ?_
    simp only [Act.put, List.setIfInBounds_toArray, List.set_cons_zero, List.set_cons_succ]
    refine dw_no (by kernel_rfl) ?_
    simp only [Act.put, List.setIfInBounds_toArray, List.set_cons_zero, List.set_cons_succ]
    refine dw_val (by kernel_rfl) (.bool false) (by kernel_rfl) ?_
    simp only [Act.put, List.setIfInBounds_toArray, List.set_cons_zero, List.set_cons_succ]
    refine dw_val (by kernel_rfl) (.bool false) (by kernel_rfl) ?_
    simp only [Act.put, List.setIfInBounds_toArray, List.set_cons_zero, List.set_cons_succ]
    refine dw_val (by kernel_rfl) (.pointer (some ⟨n3, 18, none⟩)) (by kernel_rfl) ?_
    simp only [Act.put, List.setIfInBounds_toArray, List.set_cons_zero, List.set_cons_succ]
    refine dw_cell (by kernel_rfl) 3 (.tmp 17) rfl n3 18 rfl _ _ hBn3 (.int .i64 k) rfl _ Try.underlying3 rfl ?_
    simp only [Act.put, List.setIfInBounds_toArray, List.set_cons_zero, List.set_cons_succ]
    refine dw_bool (by kernel_rfl) (decide (k < 0)) (by kernel_rfl) (fun hc => ?_) (fun hc => absurd hc (by simp; omega))
    simp only [Act.put, List.setIfInBounds_toArray, List.set_cons_zero, List.set_cons_succ]
    refine dw_val (by kernel_rfl) (.bool true) (by kernel_rfl) ?_
    simp only [Act.put, List.setIfInBounds_toArray, List.set_cons_zero, List.set_cons_succ]
    refine dw_val (by kernel_rfl) (.bool true) (by kernel_rfl) ?_
    simp only [Act.put, List.setIfInBounds_toArray, List.set_cons_zero, List.set_cons_succ]
    refine dw_no (by kernel_rfl) ?_
    simp only [Act.put, List.setIfInBounds_toArray, List.set_cons_zero, List.set_cons_succ]
    refine dw_no (by kernel_rfl) ?_
    simp only [Act.put, List.setIfInBounds_toArray, List.set_cons_zero, List.set_cons_succ]
    refine dw_no (by kernel_rfl) ?_
    simp only [Act.put, List.setIfInBounds_toArray, List.set_cons_zero, List.set_cons_succ]
    refine dw_val (by kernel_rfl) (.bool true) (by kernel_rfl) ?_
    simp only [Act.put, List.setIfInBounds_toArray, List.set_cons_zero, List.set_cons_succ]
    refine wl_nil ?_
    skip
    exact hJK3 _ _ _ _ _ _ _ _ _ _ _ _ _ _ _ _ _ _ _ undef true _ (rfl) hBn1 hBn3 hT0
set_option maxRecDepth 100000 in
set_option maxHeartbeats 4000000 in
theorem rone_gt (r : Rl) (a : Ak) (k : Int) (hk : 3 < k) (w : World) :
    Calls Try.prog 11 #[.agg #[.bool (r.acc), .int .i64 r.side, .string r.fb, .int .i64 r.fn, .string r.tb, .int .i64 r.tn, .int .i64 r.s0, .int .i64 r.s1, .int .i64 r.d0, .int .i64 r.d1, .int .i64 r.mask, .int .i64 r.flags, .int .i64 r.classes], .agg #[.string a.src, .string a.dst, .int .i64 a.from_, .int .i64 a.to_, .int .u32 a.seq, .int .u32 a.ack, .int .i64 a.flags, .int .i64 a.win, .int .i64 a.urg, .int .i64 a.mss, .int .i64 a.scale, .bool (a.sack), .slice a.ba a.bn a.bc, .bool (a.timed), .int .u32 a.time, .int .u32 a.echo, .string a.data, .int .i64 a.side, .int .i64 k]] w fun e w' => e = .returned (.bool (oneK r a k)) ∧ Below w.heap.size w w' := by
  have hT0 := Touch.refl (fun _ => False) w
  go_enter Try.func11, Try.ntmps11
  refine wp_seq_k fun K1 hK1 => ?_
  refine wl_region ?_
  refine dw_new (by kernel_rfl) [(.bool (r.acc) : Value), .int .i64 r.side, .string r.fb, .int .i64 r.fn, .string r.tb, .int .i64 r.tn, .int .i64 r.s0, .int .i64 r.s1, .int .i64 r.d0, .int .i64 r.d1, .int .i64 r.mask, .int .i64 r.flags, .int .i64 r.classes] 45 (by kernel_rfl) ?_
  intro n1 w2 hnn1 hsn1 hBn1 hTn1
  have hgen1 : w.heap.size ≤ n1 := by have := hT0.size; omega
  replace hT0 := hT0.trans hTn1 (fun _ _ h => h.elim)
  simp only [Act.put, List.setIfInBounds_toArray, List.set_cons_zero, List.set_cons_succ]
  refine dw_new (by kernel_rfl) [(.string a.src : Value), .string a.dst, .int .i64 a.from_, .int .i64 a.to_, .int .u32 a.seq, .int .u32 a.ack, .int .i64 a.flags, .int .i64 a.win, .int .i64 a.urg, .int .i64 a.mss, .int .i64 a.scale, .bool (a.sack), .slice a.ba a.bn a.bc, .bool (a.timed), .int .u32 a.time, .int .u32 a.echo, .string a.data, .int .i64 a.side, .int .i64 k] 37 (by kernel_rfl) ?_
  intro n3 w4 hnn3 hsn3 hBn3 hTn3
  have hnen1n3 : n1 ≠ n3 := by have := hBn1.lt; omega
  have hgen3 : w.heap.size ≤ n3 := by have := hT0.size; omega
  replace hBn1 := hBn1.keep hTn3 (fun h => h)
  replace hT0 := hT0.trans hTn3 (fun _ _ h => h.elim)
  simp only [Act.put, List.setIfInBounds_toArray, List.set_cons_zero, List.set_cons_succ]
  refine dw_val (by kernel_rfl) (.bool false) (by kernel_rfl) ?_
  simp only [Act.put, List.setIfInBounds_toArray, List.set_cons_zero, List.set_cons_succ]
  refine wl_nil ?_
  refine hK1 _ _ ?_
  refine wp_seq_k fun K2 hK2 => ?_
  refine wp_seq_k fun K3 hK3 => ?_
  have hJK3 : ∀ (u6 u7 u8 u9 u10 u11 u12 u13 u14 u15 u16 u17 u18 u19 u20 u21 u22 u23 u24 u_ : Value) (bb : Bool) (w5 : World), bb = (true) → Blk w5 n1 [(.bool (r.acc) : Value), .int .i64 r.side, .string r.fb, .int .i64 r.fn, .string r.tb, .int .i64 r.tn, .int .i64 r.s0, .int .i64 r.s1, .int .i64 r.d0, .int .i64 r.d1, .int .i64 r.mask, .int .i64 r.flags, .int .i64 r.classes] 45 → Blk w5 n3 [(.string a.src : Value), .string a.dst, .int .i64 a.from_, .int .i64 a.to_, .int .u32 a.seq, .int .u32 a.ack, .int .i64 a.flags, .int .i64 a.win, .int .i64 a.urg, .int .i64 a.mss, .int .i64 a.scale, .bool (a.sack), .slice a.ba a.bn a.bc, .bool (a.timed), .int .u32 a.time, .int .u32 a.echo, .string a.data, .int .i64 a.side, .int .i64 k] 37 → Touch (fun _ => False) w w5 → K3 ⟨#[(.agg #[(.bool (r.acc) : Value), .int .i64 r.side, .string r.fb, .int .i64 r.fn, .string r.tb, .int .i64 r.tn, .int .i64 r.s0, .int .i64 r.s1, .int .i64 r.d0, .int .i64 r.d1, .int .i64 r.mask, .int .i64 r.flags, .int .i64 r.classes] : Value), .agg #[(.string a.src : Value), .string a.dst, .int .i64 a.from_, .int .i64 a.to_, .int .u32 a.seq, .int .u32 a.ack, .int .i64 a.flags, .int .i64 a.win, .int .i64 a.urg, .int .i64 a.mss, .int .i64 a.scale, .bool (a.sack), .slice a.ba a.bn a.bc, .bool (a.timed), .int .u32 a.time, .int .u32 a.echo, .string a.data, .int .i64 a.side, .int .i64 k], .pointer (some ⟨n1, 0, none⟩), .pointer (some ⟨n3, 0, none⟩), .bool false, undef, u6, u7, u8, u9, u10, u11, u12, u13, u14, u15, u16, u17, u18, u19, u20, u21, u22, u23, u24, .bool bb, undef, undef, undef, undef, undef, undef, undef, undef, undef, undef, undef, undef, undef, undef, undef, undef, undef, undef, undef, undef, undef, undef, undef, undef, undef, undef, undef, undef, undef, undef, undef, undef, undef, undef, undef, undef, undef, undef, undef, undef, undef, undef, undef, undef, undef, undef, undef, undef, undef, undef, undef, undef, undef, undef, undef, undef, undef, undef, undef, undef, undef, undef, undef, undef, undef, undef, undef, undef, undef, undef, undef, undef, undef, undef, undef, undef, undef, undef, undef, undef, undef, undef, undef, undef, undef, undef, undef, undef, undef, undef, undef, undef, undef, undef, undef], []⟩ w5 := by
    clear hT0 hBn1 hBn3
    intro u6 u7 u8 u9 u10 u11 u12 u13 u14 u15 u16 u17 u18 u19 u20 u21 u22 u23 u24 u_ bb w5 hbb hBn1 hBn3 hT0
    subst hbb
    refine hK3 _ _ ?_
    refine wp_cond_true rfl ?_
    refine wp_seq_k fun K4 hK4 => ?_
    refine wl_region ?_
    refine dw_val (by kernel_rfl) (.bool false) (by kernel_rfl) ?_
    simp only [Act.put, List.setIfInBounds_toArray, List.set_cons_zero, List.set_cons_succ]
    refine wl_nil ?_
    refine hK4 _ _ ?_
    refine wp_ret ?_
    repeat (first | with_reducible refine ret_then ?_ | with_reducible refine ret_block ?_)
    refine bodyPost_ret (v := .bool false) (by kernel_rfl) rfl ?_
    refine ⟨ret_bool ?_, hT0.toBelow⟩
    unfold oneK
    rw [if_pos (by omega)]
  refine wl_region ?_
  refine dw_val (by kernel_rfl) (.pointer (some ⟨n1, 1, none⟩)) (by kernel_rfl) ?_
  simp only [Act.put, List.setIfInBounds_toArray, List.set_cons_zero, List.set_cons_succ]
  refine dw_cell (by kernel_rfl) 3 (.tmp 6) rfl n1 1 rfl _ _ hBn1 (.int .i64 r.side) rfl _ Try.underlying3 rfl ?_
  simp only [Act.put, List.setIfInBounds_toArray, List.set_cons_zero, List.set_cons_succ]
  refine dw_val (by kernel_rfl) (.bool (r.side != 0)) (by kernel_rfl) ?_
  simp only [Act.put, List.setIfInBounds_toArray, List.set_cons_zero, List.set_cons_succ]
  refine dw_bool (by kernel_rfl) (r.side != 0) (by kernel_rfl) (fun c6 => ?_) (fun c6 => ?_)
  · skip
    simp only [Act.put, List.setIfInBounds_toArray, List.set_cons_zero, List.set_cons_succ]
    refine dw_val (by kernel_rfl) (.pointer (some ⟨n1, 1, none⟩)) (by kernel_rfl) ?_
    simp only [Act.put, List.setIfInBounds_toArray, List.set_cons_zero, List.set_cons_succ]
    refine dw_cell (by kernel_rfl) 3 (.tmp 10) rfl n1 1 rfl _ _ hBn1 (.int .i64 r.side) rfl _ Try.underlying3 rfl ?_
    simp only [Act.put, List.setIfInBounds_toArray, List.set_cons_zero, List.set_cons_succ]
    refine dw_val (by kernel_rfl) (.pointer (some ⟨n3, 17, none⟩)) (by kernel_rfl) ?_
    simp only [Act.put, List.setIfInBounds_toArray, List.set_cons_zero, List.set_cons_succ]
    refine dw_cell (by kernel_rfl) 3 (.tmp 12) rfl n3 17 rfl _ _ hBn3 (.int .i64 a.side) rfl _ Try.underlying3 rfl ?_
    simp only [Act.put, List.setIfInBounds_toArray, List.set_cons_zero, List.set_cons_succ]
    refine dw_val (by kernel_rfl) (.bool (r.side != a.side)) (by kernel_rfl) ?_
    simp only [Act.put, List.setIfInBounds_toArray, List.set_cons_zero, List.set_cons_succ]
    refine dw_val (by kernel_rfl) (.bool (r.side != a.side)) (by kernel_rfl) ?_
    simp only [Act.put, List.setIfInBounds_toArray, List.set_cons_zero, List.set_cons_succ]
    refine dw_bool (by kernel_rfl) (r.side != a.side) (by kernel_rfl) (fun c7 => ?_) (fun c7 => ?_)
    · skip
      simp only [Act.put, List.setIfInBounds_toArray, List.set_cons_zero, List.set_cons_succ]
      refine dw_no (by kernel_rfl) ?_
      simp only [Act.put, List.setIfInBounds_toArray, List.set_cons_zero, List.set_cons_succ]
      refine dw_no (by kernel_rfl) ?_
      simp only [Act.put, List.setIfInBounds_toArray, List.set_cons_zero, List.set_cons_succ]
      refine dw_no (by kernel_rfl) ?_
      simp only [Act.put, List.setIfInBounds_toArray, List.set_cons_zero, List.set_cons_succ]
      refine dw_val (by kernel_rfl) (.bool true) (by kernel_rfl) ?_
      simp only [Act.put, List.setIfInBounds_toArray, List.set_cons_zero, List.set_cons_succ]
      refine dw_val (by kernel_rfl) (.bool true) (by kernel_rfl) ?_
      simp only [Act.put, List.setIfInBounds_toArray, List.set_cons_zero, List.set_cons_succ]
      refine dw_no (by kernel_rfl) ?_
      simp only [Act.put, List.setIfInBounds_toArray, List.set_cons_zero, List.set_cons_succ]
      refine dw_no (by kernel_rfl) ?_
      simp only [Act.put, List.setIfInBounds_toArray, List.set_cons_zero, List.set_cons_succ]
      refine dw_no (by kernel_rfl) ?_
      simp only [Act.put, List.setIfInBounds_toArray, List.set_cons_zero, List.set_cons_succ]
      refine dw_val (by kernel_rfl) (.bool true) (by kernel_rfl) ?_
      simp only [Act.put, List.setIfInBounds_toArray, List.set_cons_zero, List.set_cons_succ]
      refine wl_nil ?_
      skip
      exact hJK3 _ _ _ _ _ _ _ _ _ _ _ _ _ _ _ _ _ _ _ undef true _ (rfl) hBn1 hBn3 hT0
    · skip
      simp only [Act.put, List.setIfInBounds_toArray, List.set_cons_zero, List.set_cons_succ]
      refine dw_val (by kernel_rfl) (.pointer (some ⟨n3, 18, none⟩)) (by kernel_rfl) ?_
      simp only [Act.put, List.setIfInBounds_toArray, List.set_cons_zero, List.set_cons_succ]
      refine dw_cell (by kernel_rfl) 3 (.tmp 17) rfl n3 18 rfl _ _ hBn3 (.int .i64 k) rfl _ Try.underlying3 rfl ?_
      simp only [Act.put, List.setIfInBounds_toArray, List.set_cons_zero, List.set_cons_succ]
      refine dw_bool (by kernel_rfl) (decide (k < 0)) (by kernel_rfl) (fun hc => absurd hc (by simp; omega)) (fun hc => ?_)
      simp only [Act.put, List.setIfInBounds_toArray, List.set_cons_zero, List.set_cons_succ]
      refine dw_val (by kernel_rfl) (.bool false) (by kernel_rfl) ?_
      simp only [Act.put, List.setIfInBounds_toArray, List.set_cons_zero, List.set_cons_succ]
      refine dw_val (by kernel_rfl) (.bool false) (by kernel_rfl) ?_
      simp only [Act.put, List.setIfInBounds_toArray, List.set_cons_zero, List.set_cons_succ]
      refine dw_val (by kernel_rfl) (.pointer (some ⟨n3, 18, none⟩)) (by kernel_rfl) ?_
      simp only [Act.put, List.setIfInBounds_toArray, List.set_cons_zero, List.set_cons_succ]
      refine dw_cell (by kernel_rfl) 3 (.tmp 22) rfl n3 18 rfl _ _ hBn3 (.int .i64 k) rfl _ Try.underlying3 rfl ?_
      simp only [Act.put, List.setIfInBounds_toArray, List.set_cons_zero, List.set_cons_succ]
      refine dw_bool (by kernel_rfl) (decide (3 < k)) (by kernel_rfl) (fun hc => ?_) (fun hc => absurd hc (by simp; omega))
      simp only [Act.put, List.setIfInBounds_toArray, List.set_cons_zero, List.set_cons_succ]
      refine dw_val (by kernel_rfl) (.bool true) (by kernel_rfl) ?_
      simp only [Act.put, List.setIfInBounds_toArray, List.set_cons_zero, List.set_cons_succ]
      refine wl_nil ?_
      skip
      exact hJK3 _ _ _ _ _ _ _ _ _ _ _ _ _ _ _ _ _ _ _ undef true _ (rfl) hBn1 hBn3 hT0
  · skip
    simp only [Act.put, List.setIfInBounds_toArray, List.set_cons_zero, List.set_cons_succ]
    refine dw_no (by kernel_rfl) ?_
    simp only [Act.put, List.setIfInBounds_toArray, List.set_cons_zero, List.set_cons_succ]
    refine dw_no (by kernel_rfl) ?_
    simp only [Act.put, List.setIfInBounds_toArray, List.set_cons_zero, List.set_cons_succ]
    refine dw_no (by kernel_rfl) ?_
    simp only [Act.put, List.setIfInBounds_toArray, List.set_cons_zero, List.set_cons_succ]
    refine dw_no (by kernel_rfl) ?_
    simp only [Act.put, List.setIfInBounds_toArray, List.set_cons_zero, List.set_cons_succ]
    refine dw_no (by kernel_rfl) ?_
    simp only [Act.put, List.setIfInBounds_toArray, List.set_cons_zero, List.set_cons_succ]
    refine dw_val (by kernel_rfl) (.bool false) (by kernel_rfl) ?_
    simp only [Act.put, List.setIfInBounds_toArray, List.set_cons_zero, List.set_cons_succ]
    refine dw_val (by kernel_rfl) (.bool false) (by kernel_rfl) ?_
    simp only [Act.put, List.setIfInBounds_toArray, List.set_cons_zero, List.set_cons_succ]
    refine dw_val (by kernel_rfl) (.pointer (some ⟨n3, 18, none⟩)) (by kernel_rfl) ?_
    simp only [Act.put, List.setIfInBounds_toArray, List.set_cons_zero, List.set_cons_succ]
    refine dw_cell (by kernel_rfl) 3 (.tmp 17) rfl n3 18 rfl _ _ hBn3 (.int .i64 k) rfl _ Try.underlying3 rfl ?_
    simp only [Act.put, List.setIfInBounds_toArray, List.set_cons_zero, List.set_cons_succ]
    refine dw_bool (by kernel_rfl) (decide (k < 0)) (by kernel_rfl) (fun hc => absurd hc (by simp; omega)) (fun hc => ?_)
    simp only [Act.put, List.setIfInBounds_toArray, List.set_cons_zero, List.set_cons_succ]
    refine dw_val (by kernel_rfl) (.bool false) (by kernel_rfl) ?_
    simp only [Act.put, List.setIfInBounds_toArray, List.set_cons_zero, List.set_cons_succ]
    refine dw_val (by kernel_rfl) (.bool false) (by kernel_rfl) ?_
    simp only [Act.put, List.setIfInBounds_toArray, List.set_cons_zero, List.set_cons_succ]
    refine dw_val (by kernel_rfl) (.pointer (some ⟨n3, 18, none⟩)) (by kernel_rfl) ?_
    simp only [Act.put, List.setIfInBounds_toArray, List.set_cons_zero, List.set_cons_succ]
    refine dw_cell (by kernel_rfl) 3 (.tmp 22) rfl n3 18 rfl _ _ hBn3 (.int .i64 k) rfl _ Try.underlying3 rfl ?_
    simp only [Act.put, List.setIfInBounds_toArray, List.set_cons_zero, List.set_cons_succ]
    refine dw_bool (by kernel_rfl) (decide (3 < k)) (by kernel_rfl) (fun hc => ?_) (fun hc => absurd hc (by simp; omega))
    simp only [Act.put, List.setIfInBounds_toArray, List.set_cons_zero, List.set_cons_succ]
    refine dw_val (by kernel_rfl) (.bool true) (by kernel_rfl) ?_
    simp only [Act.put, List.setIfInBounds_toArray, List.set_cons_zero, List.set_cons_succ]
    refine wl_nil ?_
    skip
    exact hJK3 _ _ _ _ _ _ _ _ _ _ _ _ _ _ _ _ _ _ _ undef true _ (rfl) hBn1 hBn3 hT0
theorem rone_any (r : Rl) (a : Ak) (hc1 : 1 ≤ r.classes) (hc2 : r.classes ≤ 15) (hfb : r.fb.size ≤ 100) (htb : r.tb.size ≤ 100) (hsrc : a.src.size ≤ 100) (hdst : a.dst.size ≤ 100) (w : World) :
    Calls Try.prog 11 #[.agg #[.bool (r.acc), .int .i64 r.side, .string r.fb, .int .i64 r.fn, .string r.tb, .int .i64 r.tn, .int .i64 r.s0, .int .i64 r.s1, .int .i64 r.d0, .int .i64 r.d1, .int .i64 r.mask, .int .i64 r.flags, .int .i64 r.classes], .agg #[.string a.src, .string a.dst, .int .i64 a.from_, .int .i64 a.to_, .int .u32 a.seq, .int .u32 a.ack, .int .i64 a.flags, .int .i64 a.win, .int .i64 a.urg, .int .i64 a.mss, .int .i64 a.scale, .bool (a.sack), .slice a.ba a.bn a.bc, .bool (a.timed), .int .u32 a.time, .int .u32 a.echo, .string a.data, .int .i64 a.side, .int .i64 a.class_]] w fun e w' => e = .returned (.bool (oneB r a)) ∧ Below w.heap.size w w' := by
  unfold oneB
  generalize a.class_ = k
  by_cases h1 : k < 0
  · exact rone_lt r a k h1 w
  · by_cases h2 : 3 < k
    · exact rone_gt r a k h2 w
    · have : k = 0 ∨ k = 1 ∨ k = 2 ∨ k = 3 := by omega
      rcases this with rfl | rfl | rfl | rfl
      · exact rone_0 r a hc1 hc2 hfb htb hsrc hdst w
      · exact rone_1 r a hc1 hc2 hfb htb hsrc hdst w
      · exact rone_2 r a hc1 hc2 hfb htb hsrc hdst w
      · exact rone_3 r a hc1 hc2 hfb htb hsrc hdst w
end Go.Proofs.Ytolkimdfnlfpbaa
