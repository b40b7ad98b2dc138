/- Laying anew. Conditions: as each states. -/
import Derived.Test.YtnjbclcihhaddaaXF
set_option linter.unusedVariables false
set_option linter.unusedSimpArgs false
namespace Go.Proofs.Ytnjbclcihhaddaa
open Go.RowKit Go.Op
theorem exit_then {K : Act → World → Prop} {Q : Exit → Act → World → Prop} {i : Nat} {a : Act} {w : World} (h : Q (.exit i) a w) : Exit.then K Q (.exit i) a w := h
theorem exit_block {id : Nat} {Q : Exit → Act → World → Prop} {a : Act} {w : World} (h : Q .normal a w) : Exit.inBlock id Q (.exit id) a w := by simp [Exit.inBlock]; exact h
set_option maxRecDepth 100000 in
set_option maxHeartbeats 4000000 in
theorem rebuild_any (m g : Nat) (sl : List Sl) (N M c sp : Nat) (w : World) (hM : Blk w m [(.slice (some ⟨g, 0, none⟩) N N : Value), .int .i64 (M : Int), .int .i64 (c : Int), .int .i64 (sp : Int)] 95) (hG : Blk w g (rowC sl) 135) (hmg : m ≠ g) (L : PL) (ht : TOk (hashF N) sl N L) (hN : 1 ≤ N) (hNN : N ≤ 10000) (hsl : sl.length = N) (hsh : ∀ (k : Nat) s, sl[k]? = some s → s.st = 1 → s.p.lb.size ≤ 100 ∧ s.p.hb.size ≤ 100) : Calls Try.prog 80 #[.pointer (some ⟨m, 0, none⟩)] w fun e w' => e = .returned (.tuple #[]) ∧ ∃ g2 acc, Blk w' m [(.slice (some ⟨g2, 0, none⟩) N N : Value), .int .i64 (M : Int), .int .i64 (c : Int), .int .i64 (c : Int)] 95 ∧ Blk w' g2 (rowC acc) 135 ∧ w.heap.size ≤ g2 ∧ Touch (fun b => b = m) w w' ∧ Relaid (hashF N) sl N N acc := by
  have hT0 := Touch.refl (fun b => b = m) w
  go_enter Try.func80, Try.ntmps80
  refine wp_seq_k fun K1 hK1 => ?_
  refine wl_region ?_
  refine dw_val (by kernel_rfl) (.pointer (some ⟨m, 0, none⟩)) (by kernel_rfl) ?_
  simp only [Act.put, List.setIfInBounds_toArray, List.set_cons_zero, List.set_cons_succ]
  refine dw_val (by kernel_rfl) (.pointer (some ⟨m, 0, none⟩)) (by kernel_rfl) ?_
  simp only [Act.put, List.setIfInBounds_toArray, List.set_cons_zero, List.set_cons_succ]
  refine dw_val (by kernel_rfl) (.pointer (some ⟨m, 0, none⟩)) (by kernel_rfl) ?_
  simp only [Act.put, List.setIfInBounds_toArray, List.set_cons_zero, List.set_cons_succ]
  refine dw_cell (by kernel_rfl) 93 (.tmp 9) rfl m 0 rfl _ _ hM (.slice (some ⟨g, 0, none⟩) N N) rfl _ Try.underlying93 rfl ?_
  simp only [Act.put, List.setIfInBounds_toArray, List.set_cons_zero, List.set_cons_succ]
  refine dw_val (by kernel_rfl) (.slice (some ⟨g, 0, none⟩) N N) (by kernel_rfl) ?_
  simp only [Act.put, List.setIfInBounds_toArray, List.set_cons_zero, List.set_cons_succ]
  refine wl_nil ?_
  refine hK1 _ _ ?_
  refine wp_seq_k fun K2 hK2 => ?_
  refine wl_region ?_
  refine dw_val (by kernel_rfl) (.pointer (some ⟨m, 0, none⟩)) (by kernel_rfl) ?_
  simp only [Act.put, List.setIfInBounds_toArray, List.set_cons_zero, List.set_cons_succ]
  refine dw_val (by kernel_rfl) (.slice (some ⟨g, 0, none⟩) N N) (by kernel_rfl) ?_
  simp only [Act.put, List.setIfInBounds_toArray, List.set_cons_zero, List.set_cons_succ]
  refine dw_val (by kernel_rfl) (.int .i64 (N : Int)) (by kernel_rfl) ?_
  simp only [Act.put, List.setIfInBounds_toArray, List.set_cons_zero, List.set_cons_succ]
  refine dw_newSlice (by kernel_rfl) (rowC (zeros N)) 135 N (ev_make (.tmp 13) (by omega) rfl rfl) ?_
  intro g2 w1 hn2 hs2 hG2 hTg2
  have hmg2 : m ≠ g2 := by have := hM.lt; omega
  have hgg2 : g ≠ g2 := by have := hG.lt; omega
  have hg2 : w.heap.size ≤ g2 := by have := hT0.size; omega
  replace hM := hM.keep hTg2 (fun h => h)
  replace hG := hG.keep hTg2 (fun h => h)
  replace hT0 := hT0.trans hTg2 (fun _ _ h => h.elim)
  simp only [Act.put, List.setIfInBounds_toArray, List.set_cons_zero, List.set_cons_succ]
  refine dw_val (by kernel_rfl) (.pointer (some ⟨m, 0, none⟩)) (by kernel_rfl) ?_
  simp only [Act.put, List.setIfInBounds_toArray, List.set_cons_zero, List.set_cons_succ]
  refine dw_val (by kernel_rfl) (.pointer (some ⟨m, 0, none⟩)) (by kernel_rfl) ?_
  simp only [Act.put, List.setIfInBounds_toArray, List.set_cons_zero, List.set_cons_succ]
  refine dw_put (by kernel_rfl) 93 (.tmp 16) (.tmp 14) rfl m 0 rfl (.slice (some ⟨g2, 0, none⟩) N N) rfl _ _ hM [(.slice (some ⟨g2, 0, none⟩) N N : Value)] rfl (Nat.le_of_ble_eq_true rfl) (by kernel_rfl) (by kernel_rfl) [(.slice (some ⟨g2, 0, none⟩) N N : Value), .int .i64 (M : Int), .int .i64 (c : Int), .int .i64 (sp : Int)] rfl ?_
  intro w2 hBw2_ hTw2 hSw2
  replace hG := hG.keep hTw2 (by intro h; omega)
  replace hG2 := hG2.keep hTw2 (by intro h; omega)
  replace hT0 := hT0.trans hTw2 (fun i hi h => by first | omega | (subst h; omega) | exact h | exact .inl h | exact .inr h)
  clear hM
  have hM := hBw2_
  clear hBw2_
  simp only [Act.put]
  refine wl_nil ?_
  refine hK2 _ _ ?_
  refine wp_seq_k fun K3 hK3 => ?_
  refine wl_region ?_
  refine dw_val (by kernel_rfl) (.pointer (some ⟨m, 0, none⟩)) (by kernel_rfl) ?_
  simp only [Act.put, List.setIfInBounds_toArray, List.set_cons_zero, List.set_cons_succ]
  refine dw_val (by kernel_rfl) (.pointer (some ⟨m, 0, none⟩)) (by kernel_rfl) ?_
  simp only [Act.put, List.setIfInBounds_toArray, List.set_cons_zero, List.set_cons_succ]
  refine dw_val (by kernel_rfl) (.pointer (some ⟨m, 0, none⟩)) (by kernel_rfl) ?_
  simp only [Act.put, List.setIfInBounds_toArray, List.set_cons_zero, List.set_cons_succ]
  refine dw_val (by kernel_rfl) (.pointer (some ⟨m, 2, none⟩)) (by kernel_rfl) ?_
  simp only [Act.put, List.setIfInBounds_toArray, List.set_cons_zero, List.set_cons_succ]
  refine dw_cell (by kernel_rfl) 3 (.tmp 20) rfl m 2 rfl _ _ hM (.int .i64 (c : Int)) rfl _ Try.underlying3 rfl ?_
  simp only [Act.put, List.setIfInBounds_toArray, List.set_cons_zero, List.set_cons_succ]
  refine dw_val (by kernel_rfl) (.pointer (some ⟨m, 0, none⟩)) (by kernel_rfl) ?_
  simp only [Act.put, List.setIfInBounds_toArray, List.set_cons_zero, List.set_cons_succ]
  refine dw_val (by kernel_rfl) (.pointer (some ⟨m, 3, none⟩)) (by kernel_rfl) ?_
  simp only [Act.put, List.setIfInBounds_toArray, List.set_cons_zero, List.set_cons_succ]
  refine dw_put (by kernel_rfl) 3 (.tmp 23) (.tmp 21) rfl m 3 rfl (.int .i64 (c : Int)) rfl _ _ hM [(.int .i64 (c : Int) : Value)] rfl (Nat.le_of_ble_eq_true rfl) (by kernel_rfl) (by kernel_rfl) [(.slice (some ⟨g2, 0, none⟩) N N : Value), .int .i64 (M : Int), .int .i64 (c : Int), .int .i64 (c : Int)] rfl ?_
  intro w3 hBw3_ hTw3 hSw3
  replace hG := hG.keep hTw3 (by intro h; omega)
  replace hG2 := hG2.keep hTw3 (by intro h; omega)
  replace hT0 := hT0.trans hTw3 (fun i hi h => by first | omega | (subst h; omega) | exact h | exact .inl h | exact .inr h)
  clear hM
  have hM := hBw3_
  clear hBw3_
  simp only [Act.put]
  refine wl_nil ?_
  refine hK3 _ _ ?_
  refine wp_seq_k fun K4 hK4 => ?_
  refine wl_region ?_
  refine dw_val (by kernel_rfl) (.slice (some ⟨g, 0, none⟩) N N) (by kernel_rfl) ?_
  simp only [Act.put, List.setIfInBounds_toArray, List.set_cons_zero, List.set_cons_succ]
  refine dw_val (by kernel_rfl) (.int .i64 (N : Int)) (by kernel_rfl) ?_
  simp only [Act.put, List.setIfInBounds_toArray, List.set_cons_zero, List.set_cons_succ]
  refine dw_val (by kernel_rfl) (.int .i64 0) (by kernel_rfl) ?_
  simp only [Act.put, List.setIfInBounds_toArray, List.set_cons_zero, List.set_cons_succ]
  refine wl_nil ?_
  refine hK4 _ _ ?_
  refine wp_block ?_
  refine wp_loop (fun (aL : Act) (wL : World) => ∃ (k : Nat), ∃ (acc : List Sl), ∃ (u27_0 u28_0 u29_0 u4_0 u30_0 u31_0 u32_0 u34_0 u35_0 u36_0 u37_0 u33_0 u38_0 u39_0 u5_0 u6_0 u40_0 u41_0 u42_0 u43_0 u44_0 u45_0 u46_0 u47_0 : Value), (k ≤ N) ∧ (Relaid (hashF N) sl N k acc) ∧ Blk wL m [(.slice (some ⟨g2, 0, none⟩) N N : Value), .int .i64 (M : Int), .int .i64 (c : Int), .int .i64 (c : Int)] 95 ∧ Blk wL g (rowC sl) 135 ∧ Blk wL g2 (rowC acc) 135 ∧ Touch (fun b => b = m) w wL ∧ aL = ⟨#[(.pointer (some ⟨m, 0, none⟩) : Value), undef, .slice (some ⟨g, 0, none⟩) N N, undef, u4_0, u5_0, u6_0, .pointer (some ⟨m, 0, none⟩), .pointer (some ⟨m, 0, none⟩), .pointer (some ⟨m, 0, none⟩), .slice (some ⟨g, 0, none⟩) N N, .pointer (some ⟨m, 0, none⟩), .slice (some ⟨g, 0, none⟩) N N, .int .i64 (N : Int), .slice (some ⟨g2, 0, none⟩) N N, .pointer (some ⟨m, 0, none⟩), .pointer (some ⟨m, 0, none⟩), .pointer (some ⟨m, 0, none⟩), .pointer (some ⟨m, 0, none⟩), .pointer (some ⟨m, 0, none⟩), .pointer (some ⟨m, 2, none⟩), .int .i64 (c : Int), .pointer (some ⟨m, 0, none⟩), .pointer (some ⟨m, 3, none⟩), .slice (some ⟨g, 0, none⟩) N N, .int .i64 (N : Int), .int .i64 (k : Int), u27_0, u28_0, u29_0, u30_0, u31_0, u32_0, u33_0, u34_0, u35_0, u36_0, u37_0, u38_0, u39_0, u40_0, u41_0, u42_0, u43_0, u44_0, u45_0, u46_0, u47_0], []⟩) (fun (aL : Act) (wL : World) => N - (intOf (aL.tmps.getD 26 undef)).toNat) ?_ ?_
  · exact ⟨0, (zeros N), undef, undef, undef, undef, undef, undef, undef, undef, undef, undef, undef, undef, undef, undef, undef, undef, undef, undef, undef, undef, undef, undef, undef, undef, (Nat.zero_le _), (relaid_start ht), hM, hG, hG2, hT0, rfl⟩
  · intro aL w4 hI
    clear hM hG hG2 hT0
    obtain ⟨k, acc, u27_0, u28_0, u29_0, u4_0, u30_0, u31_0, u32_0, u34_0, u35_0, u36_0, u37_0, u33_0, u38_0, u39_0, u5_0, u6_0, u40_0, u41_0, u42_0, u43_0, u44_0, u45_0, u46_0, u47_0, hk, hR, hM, hG, hG2, hT0, rfl⟩ := hI
    have hacc : acc.length = N := by obtain ⟨M2, hM2, _⟩ := hR; exact hM2.len
    by_cases hlt : k < N
    · obtain ⟨s, hs⟩ : ∃ s, sl[k]? = some s := ⟨_, List.getElem?_eq_getElem (by omega)⟩
      by_cases h1 : s.st = 1
      · obtain ⟨j, hj, hfj, hR2⟩ := relaid_step ht hR hs h1
        obtain ⟨t, htt⟩ : ∃ t, acc[j]? = some t := ⟨_, List.getElem?_eq_getElem (by omega)⟩
        refine wp_seq_k fun K5 hK5 => ?_
        refine wl_region ?_
        refine dw_bool (by kernel_rfl) (decide ((k : Int) < (N : Int))) (by kernel_rfl) (fun hc => ?_) (fun hc => absurd hc (by simp; omega))
        simp only [Act.put, List.setIfInBounds_toArray, List.set_cons_zero, List.set_cons_succ]
        refine wl_nil ?_
        refine hK5 _ _ ?_
        refine wp_seq_k fun K6 hK6 => ?_
        refine wp_cond_true rfl ?_
        refine wp_skip ?_
        refine hK6 _ _ ?_
        refine wp_seq_k fun K7 hK7 => ?_
        refine wp_block ?_
        refine wp_seq_k fun K8 hK8 => ?_
        refine wl_region ?_
        refine dw_val (by kernel_rfl) (.pointer (some ⟨g, k * 6, none⟩)) (ev_index 93 135 (.tmp 24) (.tmp 26) rfl g 0 N N k 6 .i64 rfl rfl (by omega) Try.underlying93 (by kernel_rfl) (k * 6) (by omega)) ?_
        simp only [Act.put, List.setIfInBounds_toArray, List.set_cons_zero, List.set_cons_succ]
        refine dw_val (by kernel_rfl) (.agg #[(.int .i64 s.st : Value), .string s.p.lb, .int .i64 s.p.lp, .string s.p.hb, .int .i64 s.p.hp, .int .i64 s.x]) (ev_row 135 (.tmp 28) rfl g (k * 6) rfl [(.int .i64 s.st : Value), .string s.p.lb, .int .i64 s.p.lp, .string s.p.hb, .int .i64 s.p.hp, .int .i64 s.x] (slot_range hG hs 0 [(.int .i64 s.st : Value), .string s.p.lb, .int .i64 s.p.lp, .string s.p.hb, .int .i64 s.p.hp, .int .i64 s.x] rfl (Nat.le_of_ble_eq_true rfl)) _ Try.underlying135 rfl (by kernel_rfl)) ?_
        simp only [Act.put, List.setIfInBounds_toArray, List.set_cons_zero, List.set_cons_succ]
        refine dw_new (by kernel_rfl) [(.int .i64 0 : Value), .string ⟨#[]⟩, .int .i64 0, .string ⟨#[]⟩, .int .i64 0, .int .i64 0] 135 (by kernel_rfl) ?_
        intro n5 w6 hnn5 hsn5 hBn5 hTn5
        have hnemn5 : m ≠ n5 := by have := hM.lt; omega
        have hnegn5 : g ≠ n5 := by have := hG.lt; omega
        have hneg2n5 : g2 ≠ n5 := by have := hG2.lt; omega
        have hgen5 : w.heap.size ≤ n5 := by have := hT0.size; omega
        replace hM := hM.keep hTn5 (fun h => h)
        replace hG := hG.keep hTn5 (fun h => h)
        replace hG2 := hG2.keep hTn5 (fun h => h)
        replace hT0 := hT0.trans hTn5 (fun _ _ h => h.elim)
        simp only [Act.put, List.setIfInBounds_toArray, List.set_cons_zero, List.set_cons_succ]
        refine dw_put (by kernel_rfl) 135 (.tmp 4) (.tmp 29) rfl n5 0 rfl (.agg #[(.int .i64 s.st : Value), .string s.p.lb, .int .i64 s.p.lp, .string s.p.hb, .int .i64 s.p.hp, .int .i64 s.x]) rfl _ _ hBn5 [(.int .i64 s.st : Value), .string s.p.lb, .int .i64 s.p.lp, .string s.p.hb, .int .i64 s.p.hp, .int .i64 s.x] rfl (Nat.le_of_ble_eq_true rfl) (by kernel_rfl) (by kernel_rfl) [(.int .i64 s.st : Value), .string s.p.lb, .int .i64 s.p.lp, .string s.p.hb, .int .i64 s.p.hp, .int .i64 s.x] rfl ?_
        intro w7 hBw7_ hTw7 hSw7
        replace hM := hM.keep hTw7 (by intro h; omega)
        replace hG := hG.keep hTw7 (by intro h; omega)
        replace hG2 := hG2.keep hTw7 (by intro h; omega)
        replace hT0 := hT0.trans hTw7 (fun i hi h => by first | omega | (subst h; omega) | exact h | exact .inl h | exact .inr h)
        clear hBn5
        have hBn5 := hBw7_
        clear hBw7_
        simp only [Act.put]
        refine wl_nil ?_
        refine hK8 _ _ ?_
        refine wp_seq_k fun K9 hK9 => ?_
        refine wl_region ?_
        refine dw_val (by kernel_rfl) (.pointer (some ⟨n5, 0, none⟩)) (by kernel_rfl) ?_
        simp only [Act.put, List.setIfInBounds_toArray, List.set_cons_zero, List.set_cons_succ]
        refine dw_cell (by kernel_rfl) 3 (.tmp 30) rfl n5 0 rfl _ _ hBn5 (.int .i64 s.st) rfl _ Try.underlying3 rfl ?_
        simp only [Act.put, List.setIfInBounds_toArray, List.set_cons_zero, List.set_cons_succ]
        refine dw_bool (by kernel_rfl) (s.st == 1) (by kernel_rfl) (fun hc => ?_) (fun hc => absurd hc (by simp [h1]))
        simp only [Act.put, List.setIfInBounds_toArray, List.set_cons_zero, List.set_cons_succ]
        refine wl_nil ?_
        refine hK9 _ _ ?_
        refine wp_cond_true rfl ?_
        refine wp_seq_k fun K10 hK10 => ?_
        refine wl_region ?_
        refine dw_val (by kernel_rfl) (.pointer (some ⟨m, 0, none⟩)) (by kernel_rfl) ?_
        simp only [Act.put, List.setIfInBounds_toArray, List.set_cons_zero, List.set_cons_succ]
        refine dw_val (by kernel_rfl) (.pointer (some ⟨n5, 1, none⟩)) (by kernel_rfl) ?_
        simp only [Act.put, List.setIfInBounds_toArray, List.set_cons_zero, List.set_cons_succ]
        refine dw_row (by kernel_rfl) 61 (.tmp 35) rfl n5 1 rfl _ _ hBn5 [(.string s.p.lb : Value), .int .i64 s.p.lp, .string s.p.hb, .int .i64 s.p.hp] rfl _ Try.underlying61 rfl (by kernel_rfl) ?_
        simp only [Act.put, List.setIfInBounds_toArray, List.set_cons_zero, List.set_cons_succ]
        refine dw_ret (by kernel_rfl) 79 #[(.pointer (some ⟨m, 0, none⟩) : Value), .agg #[(.string s.p.lb : Value), .int .i64 s.p.lp, .string s.p.hb, .int .i64 s.p.hp]] (by kernel_rfl) (find_as m g2 acc N M c c w7 hM hG2 (by omega) s.p (findP (hashF N) acc N s.p).1 (j : Int) (by rw [← hfj]) hN hNN hacc (hsh k s hs h1).1 (hsh k s hs h1).2) ?_
        intro w8 hb
        have ht9 : Touch (fun _ => False) w7 w8 := Touch.none hb
        replace hM := hM.keep ht9 (fun h => h)
        replace hG := hG.keep ht9 (fun h => h)
        replace hG2 := hG2.keep ht9 (fun h => h)
        replace hBn5 := hBn5.keep ht9 (fun h => h)
        replace hT0 := hT0.trans ht9 (fun _ _ h => h.elim)
        clear hb
        simp only [Act.put, List.setIfInBounds_toArray, List.set_cons_zero, List.set_cons_succ]
        refine dw_val (by kernel_rfl) (.tuple #[(.int .i64 ((findP (hashF N) acc N s.p).1) : Value), .int .i64 (j : Int)]) (by kernel_rfl) ?_
        simp only [Act.put, List.setIfInBounds_toArray, List.set_cons_zero, List.set_cons_succ]
        refine dw_val (by kernel_rfl) (.int .i64 ((findP (hashF N) acc N s.p).1)) (by kernel_rfl) ?_
        simp only [Act.put, List.setIfInBounds_toArray, List.set_cons_zero, List.set_cons_succ]
        refine dw_val (by kernel_rfl) (.int .i64 (j : Int)) (by kernel_rfl) ?_
        simp only [Act.put, List.setIfInBounds_toArray, List.set_cons_zero, List.set_cons_succ]
        refine dw_val (by kernel_rfl) (.int .i64 ((findP (hashF N) acc N s.p).1)) (by kernel_rfl) ?_
        simp only [Act.put, List.setIfInBounds_toArray, List.set_cons_zero, List.set_cons_succ]
        refine dw_val (by kernel_rfl) (.int .i64 (j : Int)) (by kernel_rfl) ?_
        simp only [Act.put, List.setIfInBounds_toArray, List.set_cons_zero, List.set_cons_succ]
        refine wl_nil ?_
        refine hK10 _ _ ?_
        refine ws_region 7 (by kernel_rfl) (by kernel_rfl) (fun w10 hT11 _ => ?_)
        replace hM := hM.keep hT11 (fun h => h)
        replace hG := hG.keep hT11 (fun h => h)
        replace hG2 := hG2.keep hT11 (fun h => h)
        replace hBn5 := hBn5.keep hT11 (fun h => h)
        replace hT0 := hT0.trans hT11 (fun _ _ h => h.elim)
        simp only [List.take_succ_cons, List.take_zero, List.drop_succ_cons, List.drop_zero]
        refine ds_val (by kernel_rfl) (.pointer (some ⟨m, 0, none⟩)) (by kernel_rfl) ?_
        simp only [Act.put, List.setIfInBounds_toArray, List.set_cons_zero, List.set_cons_succ]
        refine ds_val (by kernel_rfl) (.pointer (some ⟨m, 0, none⟩)) (by kernel_rfl) ?_
        simp only [Act.put, List.setIfInBounds_toArray, List.set_cons_zero, List.set_cons_succ]
        refine ds_val (by kernel_rfl) (.pointer (some ⟨m, 0, none⟩)) (by kernel_rfl) ?_
        simp only [Act.put, List.setIfInBounds_toArray, List.set_cons_zero, List.set_cons_succ]
        refine ds_val (by kernel_rfl) (.slice (some ⟨g2, 0, none⟩) N N) (ev_cell 93 (.tmp 42) rfl m 0 rfl _ ((hM.cell 0).trans rfl) _ Try.underlying93 rfl) ?_
        simp only [Act.put, List.setIfInBounds_toArray, List.set_cons_zero, List.set_cons_succ]
        refine ds_val (by kernel_rfl) (.int .i64 (j : Int)) (by kernel_rfl) ?_
        simp only [Act.put, List.setIfInBounds_toArray, List.set_cons_zero, List.set_cons_succ]
        refine ds_val (by kernel_rfl) (.agg #[(.int .i64 s.st : Value), .string s.p.lb, .int .i64 s.p.lp, .string s.p.hb, .int .i64 s.p.hp, .int .i64 s.x]) (ev_row 135 (.tmp 4) rfl n5 0 rfl [(.int .i64 s.st : Value), .string s.p.lb, .int .i64 s.p.lp, .string s.p.hb, .int .i64 s.p.hp, .int .i64 s.x] (hBn5.range rfl) _ Try.underlying135 rfl (by kernel_rfl)) ?_
        simp only [Act.put, List.setIfInBounds_toArray, List.set_cons_zero, List.set_cons_succ]
        refine ds_val (by kernel_rfl) (.pointer (some ⟨g2, j * 6, none⟩)) (ev_index 93 135 (.tmp 43) (.tmp 44) rfl g2 0 N N j 6 .i64 rfl rfl (by omega) Try.underlying93 (by kernel_rfl) (j * 6) (by omega)) ?_
        simp only [Act.put, List.setIfInBounds_toArray, List.set_cons_zero, List.set_cons_succ]
        refine ws_nil ?_
        refine dw_put (by kernel_rfl) 135 (.tmp 46) (.tmp 45) rfl g2 (j * 6) rfl (.agg #[(.int .i64 s.st : Value), .string s.p.lb, .int .i64 s.p.lp, .string s.p.hb, .int .i64 s.p.hp, .int .i64 s.x]) rfl _ _ hG2 [(.int .i64 s.st : Value), .string s.p.lb, .int .i64 s.p.lp, .string s.p.hb, .int .i64 s.p.hp, .int .i64 s.x] rfl (slot_room htt 0 6 (Nat.le_of_ble_eq_true rfl)) (by kernel_rfl) (by kernel_rfl) _ (row_set htt 0 [(.int .i64 s.st : Value), .string s.p.lb, .int .i64 s.p.lp, .string s.p.hb, .int .i64 s.p.hp, .int .i64 s.x] (Nat.le_of_ble_eq_true rfl) s rfl) ?_
        intro w12 hBw12_ hTw12 hSw12
        replace hM := hM.keep hTw12 (by intro h; omega)
        replace hG := hG.keep hTw12 (by intro h; omega)
        replace hBn5 := hBn5.keep hTw12 (by intro h; omega)
        replace hT0 := hT0.trans hTw12 (fun i hi h => by first | omega | (subst h; omega) | exact h | exact .inl h | exact .inr h)
        clear hG2
        have hG2 := hBw12_
        clear hBw12_
        simp only [Act.put]
        refine wl_nil ?_
        refine hK7 _ _ ?_
        refine wl_region ?_
        refine dw_val2 (by kernel_rfl) (.int .i64 (IntKind.i64.wrap ((k : Int) + 1))) (.int .i64 ((k + 1 : Nat) : Int)) (by kernel_rfl) (by rw [show IntKind.i64.wrap ((k : Int) + 1) = ((k + 1 : Nat) : Int) from by rw [IntWalk.i64_in _ (by omega)]; rfl]) ?_
        simp only [Act.put, List.setIfInBounds_toArray, List.set_cons_zero, List.set_cons_succ]
        refine dw_val (by kernel_rfl) (.int .i64 ((k + 1 : Nat) : Int)) (by kernel_rfl) ?_
        simp only [Act.put, List.setIfInBounds_toArray, List.set_cons_zero, List.set_cons_succ]
        refine wl_nil ?_
        refine then_normal ?_
        refine ⟨⟨(k + 1), (acc.set j s), (.bool true), (.pointer (some ⟨g, k * 6, none⟩)), (.agg #[(.int .i64 s.st : Value), .string s.p.lb, .int .i64 s.p.lp, .string s.p.hb, .int .i64 s.p.hp, .int .i64 s.x]), (.pointer (some ⟨n5, 0, none⟩)), (.pointer (some ⟨n5, 0, none⟩)), (.int .i64 s.st), (.bool true), (.pointer (some ⟨m, 0, none⟩)), (.pointer (some ⟨n5, 1, none⟩)), (.agg #[(.string s.p.lb : Value), .int .i64 s.p.lp, .string s.p.hb, .int .i64 s.p.hp]), (.tuple #[(.int .i64 ((findP (hashF N) acc N s.p).1) : Value), .int .i64 (j : Int)]), (.tuple #[(.int .i64 ((findP (hashF N) acc N s.p).1) : Value), .int .i64 (j : Int)]), (.int .i64 ((findP (hashF N) acc N s.p).1)), (.int .i64 (j : Int)), (.int .i64 ((findP (hashF N) acc N s.p).1)), (.int .i64 (j : Int)), (.pointer (some ⟨m, 0, none⟩)), (.pointer (some ⟨m, 0, none⟩)), (.pointer (some ⟨m, 0, none⟩)), (.slice (some ⟨g2, 0, none⟩) N N), (.int .i64 (j : Int)), (.agg #[(.int .i64 s.st : Value), .string s.p.lb, .int .i64 s.p.lp, .string s.p.hb, .int .i64 s.p.hp, .int .i64 s.x]), (.pointer (some ⟨g2, j * 6, none⟩)), (.int .i64 ((k + 1 : Nat) : Int)), (by omega), hR2, hM, hG, hG2, hT0, rfl⟩, ?_⟩
        simp [intOf]; omega
      · have hR2 := relaid_skip hR hs h1
        refine wp_seq_k fun K11 hK11 => ?_
        refine wl_region ?_
        refine dw_bool (by kernel_rfl) (decide ((k : Int) < (N : Int))) (by kernel_rfl) (fun hc => ?_) (fun hc => absurd hc (by simp; omega))
        simp only [Act.put, List.setIfInBounds_toArray, List.set_cons_zero, List.set_cons_succ]
        refine wl_nil ?_
        refine hK11 _ _ ?_
        refine wp_seq_k fun K12 hK12 => ?_
        refine wp_cond_true rfl ?_
        refine wp_skip ?_
        refine hK12 _ _ ?_
        refine wp_seq_k fun K13 hK13 => ?_
        refine wp_block ?_
        refine wp_seq_k fun K14 hK14 => ?_
        refine wl_region ?_
        refine dw_val (by kernel_rfl) (.pointer (some ⟨g, k * 6, none⟩)) (ev_index 93 135 (.tmp 24) (.tmp 26) rfl g 0 N N k 6 .i64 rfl rfl (by omega) Try.underlying93 (by kernel_rfl) (k * 6) (by omega)) ?_
        simp only [Act.put, List.setIfInBounds_toArray, List.set_cons_zero, List.set_cons_succ]
        refine dw_val (by kernel_rfl) (.agg #[(.int .i64 s.st : Value), .string s.p.lb, .int .i64 s.p.lp, .string s.p.hb, .int .i64 s.p.hp, .int .i64 s.x]) (ev_row 135 (.tmp 28) rfl g (k * 6) rfl [(.int .i64 s.st : Value), .string s.p.lb, .int .i64 s.p.lp, .string s.p.hb, .int .i64 s.p.hp, .int .i64 s.x] (slot_range hG hs 0 [(.int .i64 s.st : Value), .string s.p.lb, .int .i64 s.p.lp, .string s.p.hb, .int .i64 s.p.hp, .int .i64 s.x] rfl (Nat.le_of_ble_eq_true rfl)) _ Try.underlying135 rfl (by kernel_rfl)) ?_
        simp only [Act.put, List.setIfInBounds_toArray, List.set_cons_zero, List.set_cons_succ]
        refine dw_new (by kernel_rfl) [(.int .i64 0 : Value), .string ⟨#[]⟩, .int .i64 0, .string ⟨#[]⟩, .int .i64 0, .int .i64 0] 135 (by kernel_rfl) ?_
        intro n13 w14 hnn13 hsn13 hBn13 hTn13
        have hnemn13 : m ≠ n13 := by have := hM.lt; omega
        have hnegn13 : g ≠ n13 := by have := hG.lt; omega
        have hneg2n13 : g2 ≠ n13 := by have := hG2.lt; omega
        have hgen13 : w.heap.size ≤ n13 := by have := hT0.size; omega
        replace hM := hM.keep hTn13 (fun h => h)
        replace hG := hG.keep hTn13 (fun h => h)
        replace hG2 := hG2.keep hTn13 (fun h => h)
        replace hT0 := hT0.trans hTn13 (fun _ _ h => h.elim)
        simp only [Act.put, List.setIfInBounds_toArray, List.set_cons_zero, List.set_cons_succ]
        refine dw_put (by kernel_rfl) 135 (.tmp 4) (.tmp 29) rfl n13 0 rfl (.agg #[(.int .i64 s.st : Value), .string s.p.lb, .int .i64 s.p.lp, .string s.p.hb, .int .i64 s.p.hp, .int .i64 s.x]) rfl _ _ hBn13 [(.int .i64 s.st : Value), .string s.p.lb, .int .i64 s.p.lp, .string s.p.hb, .int .i64 s.p.hp, .int .i64 s.x] rfl (Nat.le_of_ble_eq_true rfl) (by kernel_rfl) (by kernel_rfl) [(.int .i64 s.st : Value), .string s.p.lb, .int .i64 s.p.lp, .string s.p.hb, .int .i64 s.p.hp, .int .i64 s.x] rfl ?_
        intro w15 hBw15_ hTw15 hSw15
        replace hM := hM.keep hTw15 (by intro h; omega)
        replace hG := hG.keep hTw15 (by intro h; omega)
        replace hG2 := hG2.keep hTw15 (by intro h; omega)
        replace hT0 := hT0.trans hTw15 (fun i hi h => by first | omega | (subst h; omega) | exact h | exact .inl h | exact .inr h)
        clear hBn13
        have hBn13 := hBw15_
        clear hBw15_
        simp only [Act.put]
        refine wl_nil ?_
        refine hK14 _ _ ?_
        refine wp_seq_k fun K15 hK15 => ?_
        refine wl_region ?_
        refine dw_val (by kernel_rfl) (.pointer (some ⟨n13, 0, none⟩)) (by kernel_rfl) ?_
        simp only [Act.put, List.setIfInBounds_toArray, List.set_cons_zero, List.set_cons_succ]
        refine dw_cell (by kernel_rfl) 3 (.tmp 30) rfl n13 0 rfl _ _ hBn13 (.int .i64 s.st) rfl _ Try.underlying3 rfl ?_
        simp only [Act.put, List.setIfInBounds_toArray, List.set_cons_zero, List.set_cons_succ]
        refine dw_bool (by kernel_rfl) (s.st == 1) (by kernel_rfl) (fun hc => absurd hc (by simp [h1])) (fun hc => ?_)
        simp only [Act.put, List.setIfInBounds_toArray, List.set_cons_zero, List.set_cons_succ]
        refine wl_nil ?_
        refine hK15 _ _ ?_
        refine wp_cond_false rfl ?_
        refine wp_skip ?_
        refine hK13 _ _ ?_
        refine wl_region ?_
        refine dw_val2 (by kernel_rfl) (.int .i64 (IntKind.i64.wrap ((k : Int) + 1))) (.int .i64 ((k + 1 : Nat) : Int)) (by kernel_rfl) (by rw [show IntKind.i64.wrap ((k : Int) + 1) = ((k + 1 : Nat) : Int) from by rw [IntWalk.i64_in _ (by omega)]; rfl]) ?_
        simp only [Act.put, List.setIfInBounds_toArray, List.set_cons_zero, List.set_cons_succ]
        refine dw_val (by kernel_rfl) (.int .i64 ((k + 1 : Nat) : Int)) (by kernel_rfl) ?_
        simp only [Act.put, List.setIfInBounds_toArray, List.set_cons_zero, List.set_cons_succ]
        refine wl_nil ?_
        refine then_normal ?_
        refine ⟨⟨(k + 1), acc, (.bool true), (.pointer (some ⟨g, k * 6, none⟩)), (.agg #[(.int .i64 s.st : Value), .string s.p.lb, .int .i64 s.p.lp, .string s.p.hb, .int .i64 s.p.hp, .int .i64 s.x]), (.pointer (some ⟨n13, 0, none⟩)), (.pointer (some ⟨n13, 0, none⟩)), (.int .i64 s.st), (.bool false), u34_0, u35_0, u36_0, u37_0, u33_0, u38_0, u39_0, u5_0, u6_0, u40_0, u41_0, u42_0, u43_0, u44_0, u45_0, u46_0, (.int .i64 ((k + 1 : Nat) : Int)), (by omega), hR2, hM, hG, hG2, hT0, rfl⟩, ?_⟩
        simp [intOf]; omega
    · have hge : ¬ k < N := hlt
      have hkN : k = N := by omega
      refine wp_seq_k fun K16 hK16 => ?_
      refine wl_region ?_
      refine dw_bool (by kernel_rfl) (decide ((k : Int) < (N : Int))) (by kernel_rfl) (fun hc => absurd hc (by simp; omega)) (fun hc => ?_)
      simp only [Act.put, List.setIfInBounds_toArray, List.set_cons_zero, List.set_cons_succ]
      refine wl_nil ?_
      refine hK16 _ _ ?_
      refine wp_seq_k fun K17 hK17 => ?_
      refine wp_cond_false rfl ?_
      refine wp_exit ?_
      repeat (first | with_reducible refine ret_then ?_ | with_reducible refine ret_block ?_)
      repeat (first | with_reducible refine exit_then ?_ | with_reducible refine exit_block ?_)
      refine bodyPost_end (v := .tuple #[]) (by kernel_rfl) rfl ?_
      rw [show k = N by omega] at hR
      exact ⟨rfl, g2, acc, hM, hG2, hg2, hT0, hR⟩
end Go.Proofs.Ytnjbclcihhaddaa
