/- Pairs: what the table lists, in order. Conditions: as each states. -/
import Derived.Test.YtnjbclcihhaddaaXH
set_option linter.unusedVariables false
set_option linter.unusedSimpArgs false
namespace Go.Proofs.Ytnjbclcihhaddaa
open Go.RowKit Go.Op
def prC (l : List Pr) : List Value := l.flatMap Pr.cs
theorem prC_len : ∀ l : List Pr, (prC l).length = l.length * 4
  | [] => rfl
  | s :: r => by
    have e : prC (s :: r) = s.cs ++ prC r := rfl
    rw [e, List.length_append, prC_len r, List.length_cons]
    show 4 + r.length * 4 = _
    omega
theorem prC_split {l : List Pr} {i : Nat} {y : Pr} (h : l[i]? = some y) : prC l = prC (l.take i) ++ (y.cs ++ prC (l.drop (i + 1))) := by
  obtain ⟨hi, rfl⟩ := List.getElem?_eq_some_iff.1 h
  conv => lhs; rw [← List.take_append_drop i l, List.drop_eq_getElem_cons hi]
  unfold prC
  rw [List.flatMap_append, List.flatMap_cons]
theorem prC_range {w : World} {q i : Nat} {l : List Pr} {rest : List Value} {y : Pr} (hB : Blk w q (prC l ++ rest) 61) (h : l[i]? = some y) : w.rangeAt q (i * 4) y.cs := by
  refine hB.range ?_
  have hi := (List.getElem?_eq_some_iff.1 h).1
  have h4 : (prC (l.take i)).length = i * 4 := by rw [prC_len, List.length_take]; congr 1; omega
  rw [prC_split h, List.append_assoc, ← h4, List.drop_left, List.append_assoc]
  exact List.take_left
theorem prC_set {l : List Pr} {i : Nat} (h : i < l.length) (rest : List Value) (y : Pr) : (prC l ++ rest).take (i * 4) ++ y.cs ++ (prC l ++ rest).drop (i * 4 + y.cs.length) = prC (l.set i y) ++ rest := by
  obtain ⟨z, hz⟩ : ∃ z, l[i]? = some z := ⟨_, List.getElem?_eq_getElem h⟩
  have h4 : (prC (l.take i)).length = i * 4 := by rw [prC_len, List.length_take]; congr 1; omega
  rw [prC_split hz, ← h4]
  have hl : l.set i y = l.take i ++ y :: l.drop (i + 1) := by rw [List.set_eq_take_append_cons_drop, if_pos h]
  have hp : prC (l.set i y) = prC (l.take i) ++ (y.cs ++ prC (l.drop (i + 1))) := by
    rw [hl]; unfold prC; rw [List.flatMap_append, List.flatMap_cons]
  rw [hp, List.append_assoc (prC (l.take i)), List.take_left, List.append_assoc z.cs, ← List.drop_drop, List.drop_left]
  have : (z.cs ++ (prC (l.drop (i + 1)) ++ rest)).drop y.cs.length = prC (l.drop (i + 1)) ++ rest := List.drop_left (l₁ := z.cs)
  rw [this]
  simp
theorem block_normal {id : Nat} {Q : Exit → Act → World → Prop} {a : Act} {w : World} (h : Q .normal a w) : Exit.inBlock id Q .normal a w := h
theorem info61 : (Try.prog.info? 61).map (fun i => (i.zero, i.size, i.bytes)) = some (some (.agg #[.string ⟨#[]⟩, .int .i64 0, .string ⟨#[]⟩, .int .i64 0]), 4, 48) := by kernel_rfl
theorem info_parts {P : Program} {e : TypeId} {z : Value} {n b : Nat} (h : (P.info? e).map (fun i => (i.zero, i.size, i.bytes)) = some (some z, n, b)) : ∃ i, P.info? e = some i ∧ i.zero = some z ∧ i.size = n ∧ i.bytes = b := by
  obtain ⟨i, hi, h⟩ := Option.map_eq_some_iff.1 h
  simp only [Prod.mk.injEq] at h
  exact ⟨i, hi, h.1, h.2.1, h.2.2⟩
theorem own_keep61 {w w' : World} {B n : Nat} {v : Value} {l : List Value} (h : w.ownsRow B 61 4 v n l) (t : Touch (fun _ => False) w w') : w'.ownsRow B 61 4 v n l := by
  refine ⟨h.1, ?_⟩
  rcases h.2 with h | ⟨g, cap, cur, hv, hB, hg, hn, hm, hcs, ht⟩
  · exact .inl h
  · have hlt := (Array.getElem?_eq_some_iff.1 hg).1
    exact .inr ⟨g, cap, cur, hv, hB, (t.block g hlt (fun h => h)).trans hg, hn, hm, hcs, ht⟩
theorem own_ne {w : World} {B n b : Nat} {v : Value} {l cs : List Value} {e : TypeId} (h : w.ownsRow B 61 4 v n l) (hB : Blk w b cs e) (he : e ≠ 61) : ¬ (some b = v.ownBlock) := by
  intro hb
  rcases h.2 with ⟨rfl, _⟩ | ⟨g, cap, cur, rfl, _, hg, _⟩
  · simp [Value.ownBlock] at hb
  · simp [Value.ownBlock] at hb
    subst hb
    unfold Blk at hB
    rw [hB] at hg
    simp at hg
    exact he hg.2
theorem own_keepS {S : Nat → Prop} {w w' : World} {B n : Nat} {v : Value} {l : List Value} (h : w.ownsRow B 61 4 v n l) (t : Touch S w w') (hS : ∀ b, S b → ¬ (some b = v.ownBlock)) : w'.ownsRow B 61 4 v n l := by
  refine ⟨h.1, ?_⟩
  rcases h.2 with h | ⟨g, cap, cur, hv, hB, hg, hn, hm, hcs, ht⟩
  · exact .inl h
  · have hlt := (Array.getElem?_eq_some_iff.1 hg).1
    exact .inr ⟨g, cap, cur, hv, hB, (t.block g hlt (fun h => hS g h (by rw [hv]; rfl))).trans hg, hn, hm, hcs, ht⟩
theorem own_slice {w : World} {B n : Nat} {v : Value} {l : List Value} (h : w.ownsRow B 61 4 v n l) : ∃ ad cap, v = .slice ad n cap := by
  rcases h.2 with ⟨rfl, rfl⟩ | ⟨g, cap, cur, rfl, _⟩
  · exact ⟨_, _, rfl⟩
  · exact ⟨_, _, rfl⟩
theorem own_blk {w : World} {B n : Nat} {v : Value} {l : List Value} (h : w.ownsRow B 61 4 v (n + 1) l) : ∃ q cap rest, v = .slice (some ⟨q, 0, none⟩) (n + 1) cap ∧ B ≤ q ∧ Blk w q (l ++ rest) 61 ∧ n + 1 ≤ cap ∧ cap ≤ maxLen ∧ (l ++ rest).length = cap * 4 := by
  rcases h.2 with ⟨_, h0⟩ | ⟨g, cap, cur, rfl, hB, hg, hn, hm, hcs, ht⟩
  · omega
  · have e : l ++ cur.toList.drop ((n + 1) * 4) = cur.toList := by rw [← ht, List.take_append_drop]
    refine ⟨g, cap, cur.toList.drop ((n + 1) * 4), rfl, hB, ?_, hn, hm, by rw [e]; simpa using hcs⟩
    unfold Blk; rw [e]; simpa using hg
theorem blk_own {w : World} {B n q cap : Nat} {l rest : List Value} (hB : B ≤ q) (h : Blk w q (l ++ rest) 61) (hl : l.length = n * 4) (hn : n ≤ cap) (hm : cap ≤ maxLen) (hlen : (l ++ rest).length = cap * 4) : w.ownsRow B 61 4 (.slice (some ⟨q, 0, none⟩) n cap) n l := by
  refine ⟨hl, .inr ⟨q, cap, _, rfl, hB, h, hn, hm, by simpa using hlen, ?_⟩⟩
  show (l ++ rest).take _ = l
  rw [← hl]; exact List.take_left
theorem blk_ne {w : World} {a b : Nat} {cs ds : List Value} {e f : TypeId} (h : Blk w a cs e) (h2 : Blk w b ds f) (hef : e ≠ f) : a ≠ b := by
  rintro rfl
  unfold Blk at h h2
  rw [h] at h2
  simp at h2
  exact hef h2.2
theorem shifted (l : List Pr) (i j : Nat) (hij : i = j + 1) (x y : Pr) (hi : i ≤ l.length) (hy : l[j]? = some y) : (l.take i ++ x :: l.drop i).set i y = l.take j ++ y :: l.drop j := by
  subst hij
  obtain ⟨hj, rfl⟩ := List.getElem?_eq_some_iff.1 hy
  rw [List.set_append_right _ _ (by rw [List.length_take]; omega), List.length_take, Nat.min_eq_left hi, Nat.sub_self, List.set_cons_zero]
  have e1 : l.take (j + 1) = l.take j ++ [l[j]] := List.take_succ_eq_append_getElem hj
  have e2 : l.drop j = l[j] :: l.drop (j + 1) := List.drop_eq_getElem_cons hj
  rw [e1, e2, List.append_assoc]
  rfl
theorem placed (l : List Pr) (i : Nat) (x y : Pr) (hi : i ≤ l.length) : (l.take i ++ x :: l.drop i).set i y = l.take i ++ y :: l.drop i := by
  rw [List.set_append_right _ _ (by rw [List.length_take]; omega), List.length_take, Nat.min_eq_left hi, Nat.sub_self, List.set_cons_zero]
theorem before_it (l : List Pr) (i j : Nat) (hij : i = j + 1) (x y : Pr) (hi : i ≤ l.length) (hy : l[j]? = some y) : (l.take i ++ x :: l.drop i)[j]? = some y := by
  rw [List.getElem?_append_left (by rw [List.length_take]; omega), List.getElem?_take, if_pos (by omega)]
  exact hy
theorem mid_len (l : List Pr) (i : Nat) (x : Pr) (hi : i ≤ l.length) : (l.take i ++ x :: l.drop i).length = l.length + 1 := by simp; omega
set_option maxRecDepth 100000 in
set_option maxHeartbeats 4000000 in
theorem pairs_any (m g : Nat) (sl : List Sl) (N M c sp : Nat) (w : World) (hM : Blk w m [(.slice (some ⟨g, 0, none⟩) N N : Value), .int .i64 (M : Int), .int .i64 (c : Int), .int .i64 (sp : Int)] 95) (hG : Blk w g (rowC sl) 135) (hmg : m ≠ g) (L : PL) (ht : TOk (hashF N) sl N L) (hN : 1 ≤ N) (hNN : N ≤ 10000) (hsl : sl.length = N) (hMp : 1 ≤ M) : Calls Try.prog 42 #[.pointer (some ⟨m, 0, none⟩)] w fun e w' => ∃ v l, e = .returned v ∧ Listed sl N l ∧ w'.ownsRow w.heap.size 61 4 v l.length (prC l) ∧ Below w.heap.size w w' := by
  obtain ⟨i0, hi, hz0, hz1, hz2⟩ := info_parts info61
  have hT0 := Touch.refl (fun _ => False) w
  go_enter Try.func42, Try.ntmps42
  refine wp_seq_k fun K1 hK1 => ?_
  refine wl_region ?_
  refine dw_val (by kernel_rfl) (.slice none 0 0) (by kernel_rfl) ?_
  simp only [Act.put, List.setIfInBounds_toArray, List.set_cons_zero, List.set_cons_succ]
  refine wl_nil ?_
  refine hK1 _ _ ?_
  refine wp_seq_k fun K2 hK2 => ?_
  refine wp_seq_k fun K3 hK3 => ?_
  refine wl_region ?_
  refine dw_val (by kernel_rfl) (.pointer (some ⟨m, 0, none⟩)) (by kernel_rfl) ?_
  simp only [Act.put, List.setIfInBounds_toArray, List.set_cons_zero, List.set_cons_succ]
  refine dw_ret (by kernel_rfl) 78 #[(.pointer (some ⟨m, 0, none⟩) : Value)] (by kernel_rfl) (there_yes m g N _ _ _ w hM (by omega)) ?_
  intro w1 hb
  have ht2 : Touch (fun _ => False) w w1 := Touch.none hb
  replace hM := hM.keep ht2 (fun h => h)
  replace hG := hG.keep ht2 (fun h => h)
  replace hT0 := hT0.trans ht2 (fun _ _ h => h.elim)
  clear hb
  simp only [Act.put, List.setIfInBounds_toArray, List.set_cons_zero, List.set_cons_succ]
  refine dw_val (by kernel_rfl) (.bool false) (by kernel_rfl) ?_
  simp only [Act.put, List.setIfInBounds_toArray, List.set_cons_zero, List.set_cons_succ]
  refine wl_nil ?_
  refine hK3 _ _ ?_
  refine wp_cond_false rfl ?_
  refine wp_skip ?_
  refine hK2 _ _ ?_
  refine wp_seq_k fun K4 hK4 => ?_
  refine wl_region ?_
  refine dw_val (by kernel_rfl) (.slice none 0 0) (by kernel_rfl) ?_
  simp only [Act.put, List.setIfInBounds_toArray, List.set_cons_zero, List.set_cons_succ]
  refine wl_nil ?_
  refine hK4 _ _ ?_
  refine wp_seq_k fun K5 hK5 => ?_
  refine wp_seq_k fun K6 hK6 => ?_
  refine wl_region ?_
  refine dw_val (by kernel_rfl) (.pointer (some ⟨m, 0, none⟩)) (by kernel_rfl) ?_
  simp only [Act.put, List.setIfInBounds_toArray, List.set_cons_zero, List.set_cons_succ]
  refine dw_val (by kernel_rfl) (.pointer (some ⟨m, 0, none⟩)) (by kernel_rfl) ?_
  simp only [Act.put, List.setIfInBounds_toArray, List.set_cons_zero, List.set_cons_succ]
  refine dw_val (by kernel_rfl) (.pointer (some ⟨m, 0, none⟩)) (by kernel_rfl) ?_
  simp only [Act.put, List.setIfInBounds_toArray, List.set_cons_zero, List.set_cons_succ]
  refine dw_cell (by kernel_rfl) 93 (.tmp 12) rfl m 0 rfl _ _ hM (.slice (some ⟨g, 0, none⟩) N N) rfl _ Try.underlying93 rfl ?_
  simp only [Act.put, List.setIfInBounds_toArray, List.set_cons_zero, List.set_cons_succ]
  refine dw_val (by kernel_rfl) (.int .i64 (N : Int)) (by kernel_rfl) ?_
  simp only [Act.put, List.setIfInBounds_toArray, List.set_cons_zero, List.set_cons_succ]
  refine dw_val (by kernel_rfl) (.int .i64 0) (by kernel_rfl) ?_
  simp only [Act.put, List.setIfInBounds_toArray, List.set_cons_zero, List.set_cons_succ]
  refine wl_nil ?_
  refine hK6 _ _ ?_
  refine wp_block ?_
  refine wp_loop (fun (aL : Act) (wL : World) => ∃ (k : Nat), ∃ (v : Value), ∃ (l : List Pr), ∃ (u16_0 u17_0 u18_0 u5_0 u19_0 u20_0 u21_0 u22_0 u23_0 u6_0 u24_0 u25_0 u26_0 u27_0 u28_0 u29_0 u30_0 u31_0 u32_0 u33_0 u34_0 u35_0 u36_0 u37_0 u38_0 u39_0 u40_0 u41_0 u42_0 u43_0 u44_0 u45_0 u46_0 u47_0 u48_0 u49_0 u50_0 u51_0 u52_0 u53_0 u54_0 u55_0 u56_0 : Value), (k ≤ N) ∧ (l.length ≤ k) ∧ (Listed sl k l) ∧ (wL.ownsRow w.heap.size 61 4 v l.length (prC l)) ∧ Blk wL m [(.slice (some ⟨g, 0, none⟩) N N : Value), .int .i64 (M : Int), .int .i64 (c : Int), .int .i64 (sp : Int)] 95 ∧ Blk wL g (rowC sl) 135 ∧ Touch (fun _ => False) w wL ∧ aL = ⟨#[(.pointer (some ⟨m, 0, none⟩) : Value), undef, .slice none 0 0, v, undef, u5_0, u6_0, .pointer (some ⟨m, 0, none⟩), .bool true, .bool false, .pointer (some ⟨m, 0, none⟩), .pointer (some ⟨m, 0, none⟩), .pointer (some ⟨m, 0, none⟩), .slice (some ⟨g, 0, none⟩) N N, .int .i64 (N : Int), .int .i64 (k : Int), u16_0, u17_0, u18_0, u19_0, u20_0, u21_0, u22_0, u23_0, u24_0, u25_0, u26_0, u27_0, u28_0, u29_0, u30_0, u31_0, u32_0, u33_0, u34_0, u35_0, u36_0, u37_0, u38_0, u39_0, u40_0, u41_0, u42_0, u43_0, u44_0, u45_0, u46_0, u47_0, u48_0, u49_0, u50_0, u51_0, u52_0, u53_0, u54_0, u55_0, u56_0, undef], []⟩) (fun (aL : Act) (wL : World) => N - (intOf (aL.tmps.getD 15 undef)).toNat) ?_ ?_
  · exact ⟨0, (.slice none 0 0), ([]), undef, undef, undef, undef, undef, undef, undef, undef, undef, undef, undef, undef, undef, undef, undef, undef, undef, undef, undef, undef, undef, undef, undef, undef, undef, undef, undef, undef, undef, undef, undef, undef, undef, undef, undef, undef, undef, undef, undef, undef, undef, undef, undef, (Nat.zero_le _), (Nat.le_refl _), listed_start, (World.ownsRow_nil _ _ _ _), hM, hG, hT0, rfl⟩
  · intro aL w3 hI
    clear hM hG hT0
    obtain ⟨k, v, l, u16_0, u17_0, u18_0, u5_0, u19_0, u20_0, u21_0, u22_0, u23_0, u6_0, u24_0, u25_0, u26_0, u27_0, u28_0, u29_0, u30_0, u31_0, u32_0, u33_0, u34_0, u35_0, u36_0, u37_0, u38_0, u39_0, u40_0, u41_0, u42_0, u43_0, u44_0, u45_0, u46_0, u47_0, u48_0, u49_0, u50_0, u51_0, u52_0, u53_0, u54_0, u55_0, u56_0, hk, hlk, hL, hown, hM, hG, hT0, rfl⟩ := hI
    by_cases hlt : k < N
    · obtain ⟨s, hs⟩ : ∃ s, sl[k]? = some s := ⟨_, List.getElem?_eq_getElem (by omega)⟩
      obtain ⟨ad, cap, rfl⟩ := own_slice hown
      by_cases h1 : s.st = 1
      · skip
        refine wp_seq_k fun K7 hK7 => ?_
        refine wl_region ?_
        refine dw_bool (by kernel_rfl) (decide ((k : Int) < (N : Int))) (by kernel_rfl) (fun hc => ?_) (fun hc => absurd hc (by simp; omega))
        simp only [Act.put, List.setIfInBounds_toArray, List.set_cons_zero, List.set_cons_succ]
        refine wl_nil ?_
        refine hK7 _ _ ?_
        refine wp_seq_k fun K8 hK8 => ?_
        refine wp_cond_true rfl ?_
        refine wp_skip ?_
        refine hK8 _ _ ?_
        refine wp_seq_k fun K9 hK9 => ?_
        refine wp_block ?_
        refine wp_seq_k fun K10 hK10 => ?_
        refine wl_region ?_
        refine dw_val (by kernel_rfl) (.pointer (some ⟨g, k * 6, none⟩)) (ev_index 93 135 (.tmp 13) (.tmp 15) rfl g 0 N N k 6 .i64 rfl rfl (by omega) Try.underlying93 (by kernel_rfl) (k * 6) (by omega)) ?_
        simp only [Act.put, List.setIfInBounds_toArray, List.set_cons_zero, List.set_cons_succ]
        refine dw_val (by kernel_rfl) (.agg #[(.int .i64 s.st : Value), .string s.p.lb, .int .i64 s.p.lp, .string s.p.hb, .int .i64 s.p.hp, .int .i64 s.x]) (ev_row 135 (.tmp 17) rfl g (k * 6) rfl [(.int .i64 s.st : Value), .string s.p.lb, .int .i64 s.p.lp, .string s.p.hb, .int .i64 s.p.hp, .int .i64 s.x] (slot_range hG hs 0 [(.int .i64 s.st : Value), .string s.p.lb, .int .i64 s.p.lp, .string s.p.hb, .int .i64 s.p.hp, .int .i64 s.x] rfl (Nat.le_of_ble_eq_true rfl)) _ Try.underlying135 rfl (by kernel_rfl)) ?_
        simp only [Act.put, List.setIfInBounds_toArray, List.set_cons_zero, List.set_cons_succ]
        refine dw_new (by kernel_rfl) [(.int .i64 0 : Value), .string ⟨#[]⟩, .int .i64 0, .string ⟨#[]⟩, .int .i64 0, .int .i64 0] 135 (by kernel_rfl) ?_
        intro n4 w5 hnn4 hsn4 hBn4 hTn4
        have hnemn4 : m ≠ n4 := by have := hM.lt; omega
        have hnegn4 : g ≠ n4 := by have := hG.lt; omega
        have hgen4 : w.heap.size ≤ n4 := by have := hT0.size; omega
        replace hM := hM.keep hTn4 (fun h => h)
        replace hG := hG.keep hTn4 (fun h => h)
        replace hown := own_keepS hown hTn4 (fun b h => by first | exact h.elim | (rw [h]; exact own_ne (e := 135) hown (by assumption) (by decide)))
        replace hT0 := hT0.trans hTn4 (fun _ _ h => h.elim)
        simp only [Act.put, List.setIfInBounds_toArray, List.set_cons_zero, List.set_cons_succ]
        refine dw_put (by kernel_rfl) 135 (.tmp 5) (.tmp 18) rfl n4 0 rfl (.agg #[(.int .i64 s.st : Value), .string s.p.lb, .int .i64 s.p.lp, .string s.p.hb, .int .i64 s.p.hp, .int .i64 s.x]) rfl _ _ hBn4 [(.int .i64 s.st : Value), .string s.p.lb, .int .i64 s.p.lp, .string s.p.hb, .int .i64 s.p.hp, .int .i64 s.x] rfl (Nat.le_of_ble_eq_true rfl) (by kernel_rfl) (by kernel_rfl) [(.int .i64 s.st : Value), .string s.p.lb, .int .i64 s.p.lp, .string s.p.hb, .int .i64 s.p.hp, .int .i64 s.x] rfl ?_
        intro w6 hBw6_ hTw6 hSw6
        replace hM := hM.keep hTw6 (by intro h; omega)
        replace hG := hG.keep hTw6 (by intro h; omega)
        replace hown := own_keepS hown hTw6 (fun b h => by first | exact h.elim | (rw [h]; exact own_ne (e := 135) hown (by assumption) (by decide)))
        replace hT0 := hT0.trans hTw6 (fun i hi h => by first | omega | (subst h; omega) | exact h | exact .inl h | exact .inr h)
        clear hBn4
        have hBn4 := hBw6_
        clear hBw6_
        simp only [Act.put]
        refine wl_nil ?_
        refine hK10 _ _ ?_
        refine wp_seq_k fun K11 hK11 => ?_
        refine wp_seq_k fun K12 hK12 => ?_
        refine wl_region ?_
        refine dw_val (by kernel_rfl) (.pointer (some ⟨n4, 0, none⟩)) (by kernel_rfl) ?_
        simp only [Act.put, List.setIfInBounds_toArray, List.set_cons_zero, List.set_cons_succ]
        refine dw_cell (by kernel_rfl) 3 (.tmp 19) rfl n4 0 rfl _ _ hBn4 (.int .i64 s.st) rfl _ Try.underlying3 rfl ?_
        simp only [Act.put, List.setIfInBounds_toArray, List.set_cons_zero, List.set_cons_succ]
        refine dw_bool (by kernel_rfl) (s.st != 1) (by kernel_rfl) (fun hc => absurd hc (by simp [h1])) (fun hc => ?_)
        simp only [Act.put, List.setIfInBounds_toArray, List.set_cons_zero, List.set_cons_succ]
        refine wl_nil ?_
        refine hK12 _ _ ?_
        refine wp_cond_false rfl ?_
        refine wp_skip ?_
        refine hK11 _ _ ?_
        refine wp_seq_k fun K13 hK13 => ?_
        refine wl_region ?_
        refine dw_val (by kernel_rfl) (.slice ad l.length cap) (by kernel_rfl) ?_
        simp only [Act.put, List.setIfInBounds_toArray, List.set_cons_zero, List.set_cons_succ]
        refine dw_val (by kernel_rfl) (.int .i64 (l.length : Int)) (by kernel_rfl) ?_
        simp only [Act.put, List.setIfInBounds_toArray, List.set_cons_zero, List.set_cons_succ]
        refine dw_val (by kernel_rfl) (.int .i64 (l.length : Int)) (by kernel_rfl) ?_
        simp only [Act.put, List.setIfInBounds_toArray, List.set_cons_zero, List.set_cons_succ]
        refine wl_nil ?_
        refine hK13 _ _ ?_
        refine wp_seq_k fun K14 hK14 => ?_
        refine wl_region ?_
        refine dw_val (by kernel_rfl) (.slice ad l.length cap) (by kernel_rfl) ?_
        simp only [Act.put, List.setIfInBounds_toArray, List.set_cons_zero, List.set_cons_succ]
        refine dw_val (by kernel_rfl) (.pointer (some ⟨n4, 1, none⟩)) (by kernel_rfl) ?_
        simp only [Act.put, List.setIfInBounds_toArray, List.set_cons_zero, List.set_cons_succ]
        refine dw_row (by kernel_rfl) 61 (.tmp 25) rfl n4 1 rfl _ _ hBn4 [(.string s.p.lb : Value), .int .i64 s.p.lp, .string s.p.hb, .int .i64 s.p.hp] rfl _ Try.underlying61 rfl (by kernel_rfl) ?_
        simp only [Act.put, List.setIfInBounds_toArray, List.set_cons_zero, List.set_cons_succ]
        refine dw_newSlice (by kernel_rfl) [(.string s.p.lb : Value), .int .i64 s.p.lp, .string s.p.hb, .int .i64 s.p.hp] 61 1 (by kernel_rfl) ?_
        intro n7 w8 hnn7 hsn7 hBn7 hTn7
        have hnemn7 : m ≠ n7 := by have := hM.lt; omega
        have hnegn7 : g ≠ n7 := by have := hG.lt; omega
        have hnen4n7 : n4 ≠ n7 := by have := hBn4.lt; omega
        have hgen7 : w.heap.size ≤ n7 := by have := hT0.size; omega
        replace hM := hM.keep hTn7 (fun h => h)
        replace hG := hG.keep hTn7 (fun h => h)
        replace hBn4 := hBn4.keep hTn7 (fun h => h)
        replace hown := own_keepS hown hTn7 (fun b h => by first | exact h.elim | (rw [h]; exact own_ne (e := 135) hown (by assumption) (by decide)))
        replace hT0 := hT0.trans hTn7 (fun _ _ h => h.elim)
        simp only [Act.put, List.setIfInBounds_toArray, List.set_cons_zero, List.set_cons_succ]
        refine dw_append rfl (.tmp 24) (.tmp 27) 72 rfl w.heap.size 61 i0 (.agg #[.string ⟨#[]⟩, .int .i64 0, .string ⟨#[]⟩, .int .i64 0]) 4 48 Try.underlying72 hi hz0 hz1 hz2 rfl (by decide) (.slice ad l.length cap) _ _ rfl hown n7 1 1 [(.string s.p.lb : Value), .int .i64 s.p.lp, .string s.p.hb, .int .i64 s.p.hp] 61 rfl rfl hBn7 rfl (by unfold maxLen; omega) (by omega) hT0.size ?_
        intro v2 w9 hown2 hT10 hg11
        clear hBn7
        replace hM := hM.keep hT10 (own_ne hown hM (by decide))
        replace hG := hG.keep hT10 (own_ne hown hG (by decide))
        replace hBn4 := hBn4.keep hT10 (own_ne hown hBn4 (by decide))
        replace hT0 := hT0.trans hT10 (fun i hi h => by have := hg11 i h; omega)
        clear hg11 hT10 hown
        obtain ⟨q, cap2, rest, rfl, hq, hBq, hcap2, hcm2, hlen2⟩ := own_blk hown2
        clear hown2
        replace hBq : Blk w9 q (prC (l.take l.length ++ s.p :: l.drop l.length) ++ rest) 61 := by rw [List.take_length, List.drop_length]; unfold prC; rw [List.flatMap_append]; simpa [prC, Pr.cs] using hBq
        replace hlen2 : (l.length + 1) * 4 + rest.length = cap2 * 4 := by rw [← hlen2]; simp [prC_len]; omega
        simp only [Act.put, List.setIfInBounds_toArray, List.set_cons_zero, List.set_cons_succ]
        refine dw_val (by kernel_rfl) (.slice (some ⟨q, 0, none⟩) (l.length + 1) cap2) (by kernel_rfl) ?_
        simp only [Act.put, List.setIfInBounds_toArray, List.set_cons_zero, List.set_cons_succ]
        refine wl_nil ?_
        refine hK14 _ _ ?_
        refine wp_seq_k fun K15 hK15 => ?_
        refine wp_block ?_
        refine wp_loop (fun (aL : Act) (wL : World) => ∃ (i : Nat), ∃ (x : Pr), ∃ (u29_1 u30_1 u31_1 u32_1 u33_1 u34_1 u35_1 u36_1 u37_1 u38_1 u39_1 u40_1 u41_1 u42_1 u43_1 u44_1 u45_1 u46_1 u47_1 u48_1 u49_1 u50_1 : Value), (i ≤ l.length) ∧ (∀ (j : Nat) q, i ≤ j → l[j]? = some q → lessP s.p q = true) ∧ Blk wL m [(.slice (some ⟨g, 0, none⟩) N N : Value), .int .i64 (M : Int), .int .i64 (c : Int), .int .i64 (sp : Int)] 95 ∧ Blk wL g (rowC sl) 135 ∧ Blk wL n4 [(.int .i64 s.st : Value), .string s.p.lb, .int .i64 s.p.lp, .string s.p.hb, .int .i64 s.p.hp, .int .i64 s.x] 135 ∧ Blk wL q (prC (l.take i ++ x :: l.drop i) ++ rest) 61 ∧ Touch (fun _ => False) w wL ∧ aL = ⟨#[(.pointer (some ⟨m, 0, none⟩) : Value), undef, .slice none 0 0, .slice (some ⟨q, 0, none⟩) (l.length + 1) cap2, undef, .pointer (some ⟨n4, 0, none⟩), .int .i64 (i : Int), .pointer (some ⟨m, 0, none⟩), .bool true, .bool false, .pointer (some ⟨m, 0, none⟩), .pointer (some ⟨m, 0, none⟩), .pointer (some ⟨m, 0, none⟩), .slice (some ⟨g, 0, none⟩) N N, .int .i64 (N : Int), .int .i64 (k : Int), .bool true, .pointer (some ⟨g, k * 6, none⟩), .agg #[(.int .i64 s.st : Value), .string s.p.lb, .int .i64 s.p.lp, .string s.p.hb, .int .i64 s.p.hp, .int .i64 s.x], .pointer (some ⟨n4, 0, none⟩), .int .i64 s.st, .bool false, .slice ad l.length cap, .int .i64 (l.length : Int), .slice ad l.length cap, .pointer (some ⟨n4, 1, none⟩), .agg #[(.string s.p.lb : Value), .int .i64 s.p.lp, .string s.p.hb, .int .i64 s.p.hp], .slice (some ⟨n7, 0, none⟩) 1 1, .slice (some ⟨q, 0, none⟩) (l.length + 1) cap2, u29_1, u30_1, u31_1, u32_1, u33_1, u34_1, u35_1, u36_1, u37_1, u38_1, u39_1, u40_1, u41_1, u42_1, u43_1, u44_1, u45_1, u46_1, u47_1, u48_1, u49_1, u50_1, u51_0, u52_0, u53_0, u54_0, u55_0, u56_0, undef], []⟩) (fun (aL : Act) (wL : World) => (intOf (aL.tmps.getD 6 undef)).toNat) ?_ ?_
        · exact ⟨l.length, s.p, u29_0, u30_0, u31_0, u32_0, u33_0, u34_0, u35_0, u36_0, u37_0, u38_0, u39_0, u40_0, u41_0, u42_0, u43_0, u44_0, u45_0, u46_0, u47_0, u48_0, u49_0, u50_0, (Nat.le_refl _), (fun j q hj hq => by rw [List.getElem?_eq_none hj] at hq; cases hq), hM, hG, hBn4, hBq, hT0, rfl⟩
        · intro aL w12 hI
          clear hM hG hBn4 hBq hT0
          obtain ⟨i, x, u29_1, u30_1, u31_1, u32_1, u33_1, u34_1, u35_1, u36_1, u37_1, u38_1, u39_1, u40_1, u41_1, u42_1, u43_1, u44_1, u45_1, u46_1, u47_1, u48_1, u49_1, u50_1, hi, h3, hM, hG, hBn4, hBq, hT0, rfl⟩ := hI
          have hne5 : n4 ≠ q := blk_ne hBn4 hBq (by decide)
          have hneg : g ≠ q := blk_ne hG hBq (by decide)
          have hnem : m ≠ q := blk_ne hM hBq (by decide)
          by_cases hi0 : 0 < i
          · obtain ⟨j, hij⟩ : ∃ j, i = j + 1 := ⟨i - 1, by omega⟩
            obtain ⟨y, hy⟩ : ∃ y, l[j]? = some y := ⟨_, List.getElem?_eq_getElem (by omega)⟩
            have hyL := before_it l i j hij x y hi hy
            refine wp_seq_k fun K16 hK16 => ?_
            refine wp_seq_k fun K17 hK17 => ?_
            refine wq_region (Touch (fun _ => False) w12) (by kernel_rfl) (by kernel_rfl) (Touch.refl _ _).drew ?_
            refine dq_val (by kernel_rfl) (.int .i64 (i : Int)) (fun w' _ => by kernel_rfl) ?_
            simp only [Act.put, List.setIfInBounds_toArray, List.set_cons_zero, List.set_cons_succ]
            refine dq_bool (by kernel_rfl) (decide (0 < (i : Int))) (fun w' _ => by kernel_rfl) (fun hc => ?_) (fun hc => absurd hc (by simp; omega))
            simp only [Act.put, List.setIfInBounds_toArray, List.set_cons_zero, List.set_cons_succ]
            refine dq_val (by kernel_rfl) (.bool true) (fun w' _ => by kernel_rfl) ?_
            simp only [Act.put, List.setIfInBounds_toArray, List.set_cons_zero, List.set_cons_succ]
            refine dq_val (by kernel_rfl) (.pointer (some ⟨n4, 1, none⟩)) (fun w' _ => by kernel_rfl) ?_
            simp only [Act.put, List.setIfInBounds_toArray, List.set_cons_zero, List.set_cons_succ]
            refine dq_val (by kernel_rfl) (.agg #[(.string s.p.lb : Value), .int .i64 s.p.lp, .string s.p.hb, .int .i64 s.p.hp]) (fun w' hC => ev_row 61 (.tmp 32) rfl n4 1 rfl [(.string s.p.lb : Value), .int .i64 s.p.lp, .string s.p.hb, .int .i64 s.p.hp] ((hBn4.keep hC (fun h => h)).range rfl) _ Try.underlying61 rfl (by kernel_rfl)) ?_
            simp only [Act.put, List.setIfInBounds_toArray, List.set_cons_zero, List.set_cons_succ]
            refine dq_val (by kernel_rfl) (.slice (some ⟨q, 0, none⟩) (l.length + 1) cap2) (fun w' _ => by kernel_rfl) ?_
            simp only [Act.put, List.setIfInBounds_toArray, List.set_cons_zero, List.set_cons_succ]
            refine dq_val (by kernel_rfl) (.int .i64 (i : Int)) (fun w' _ => by kernel_rfl) ?_
            simp only [Act.put, List.setIfInBounds_toArray, List.set_cons_zero, List.set_cons_succ]
            refine dq_val (by kernel_rfl) (.int .i64 (j : Int)) (fun w' _ => (show _ = Result.ok (.value (.int .i64 (IntKind.i64.wrap ((i : Int) - 1)))) w' from by kernel_rfl).trans (by rw [show IntKind.i64.wrap ((i : Int) - 1) = (j : Int) from by rw [IntWalk.i64_in _ (by omega)]; omega])) ?_
            simp only [Act.put, List.setIfInBounds_toArray, List.set_cons_zero, List.set_cons_succ]
            refine dq_val (by kernel_rfl) (.pointer (some ⟨q, j * 4, none⟩)) (fun w' _ => ev_index 72 61 (.tmp 34) (.tmp 36) rfl q 0 (l.length + 1) cap2 j 4 .i64 rfl rfl (by omega) Try.underlying72 (by kernel_rfl) (j * 4) (by omega)) ?_
            simp only [Act.put, List.setIfInBounds_toArray, List.set_cons_zero, List.set_cons_succ]
            refine dq_val (by kernel_rfl) (.agg #[(.string y.lb : Value), .int .i64 y.lp, .string y.hb, .int .i64 y.hp]) (fun w' hC => ev_row 61 (.tmp 37) rfl q (j * 4) rfl [(.string y.lb : Value), .int .i64 y.lp, .string y.hb, .int .i64 y.hp] (prC_range (hBq.keep hC (fun h => h)) hyL) _ Try.underlying61 rfl (by kernel_rfl)) ?_
            simp only [Act.put, List.setIfInBounds_toArray, List.set_cons_zero, List.set_cons_succ]
            refine dq_ret (by kernel_rfl) 81 #[(.agg #[(.string s.p.lb : Value), .int .i64 s.p.lp, .string s.p.hb, .int .i64 s.p.hp] : Value), .agg #[(.string y.lb : Value), .int .i64 y.lp, .string y.hb, .int .i64 y.hp]] (fun w' _ => by kernel_rfl) (fun w' hC => lessP_any s.p y w') (fun w1 w2 hC hb => hC.trans (Touch.none hb) (fun _ _ h => h)) ?_
            simp only [Act.put, List.setIfInBounds_toArray, List.set_cons_zero, List.set_cons_succ]
            refine dq_val (by kernel_rfl) (.bool (lessP s.p y)) (fun w' _ => by kernel_rfl) ?_
            simp only [Act.put, List.setIfInBounds_toArray, List.set_cons_zero, List.set_cons_succ]
            refine wq_nil ?_
            intro w13 hT14
            replace hM := hM.keep hT14 (fun h => h)
            replace hG := hG.keep hT14 (fun h => h)
            replace hBn4 := hBn4.keep hT14 (fun h => h)
            replace hBq := hBq.keep hT14 (fun h => h)
            replace hT0 := hT0.trans hT14 (fun _ _ h => h.elim)
            refine hK17 _ _ ?_
            refine wp_cond_split (t := lessP s.p y) rfl (fun c15 => ?_) (fun c15 => ?_)
            · skip
              refine wp_skip ?_
              refine hK16 _ _ ?_
              refine wp_block ?_
              refine wp_seq_k fun K18 hK18 => ?_
              refine wl_region ?_
              refine dw_val (by kernel_rfl) (.slice (some ⟨q, 0, none⟩) (l.length + 1) cap2) (by kernel_rfl) ?_
              simp only [Act.put, List.setIfInBounds_toArray, List.set_cons_zero, List.set_cons_succ]
              refine dw_val (by kernel_rfl) (.int .i64 (i : Int)) (by kernel_rfl) ?_
              simp only [Act.put, List.setIfInBounds_toArray, List.set_cons_zero, List.set_cons_succ]
              refine dw_val (by kernel_rfl) (.slice (some ⟨q, 0, none⟩) (l.length + 1) cap2) (by kernel_rfl) ?_
              simp only [Act.put, List.setIfInBounds_toArray, List.set_cons_zero, List.set_cons_succ]
              refine dw_val (by kernel_rfl) (.int .i64 (i : Int)) (by kernel_rfl) ?_
              simp only [Act.put, List.setIfInBounds_toArray, List.set_cons_zero, List.set_cons_succ]
              refine dw_val2 (by kernel_rfl) (.int .i64 (IntKind.i64.wrap ((i : Int) - 1))) (.int .i64 (j : Int)) (by kernel_rfl) (by rw [show IntKind.i64.wrap ((i : Int) - 1) = (j : Int) from by rw [IntWalk.i64_in _ (by omega)]; omega]) ?_
              simp only [Act.put, List.setIfInBounds_toArray, List.set_cons_zero, List.set_cons_succ]
              refine dw_val (by kernel_rfl) (.pointer (some ⟨q, j * 4, none⟩)) (ev_index 72 61 (.tmp 43) (.tmp 45) rfl q 0 (l.length + 1) cap2 j 4 .i64 rfl rfl (by omega) Try.underlying72 (by kernel_rfl) (j * 4) (by omega)) ?_
              simp only [Act.put, List.setIfInBounds_toArray, List.set_cons_zero, List.set_cons_succ]
              refine dw_val (by kernel_rfl) (.agg #[(.string y.lb : Value), .int .i64 y.lp, .string y.hb, .int .i64 y.hp]) (ev_row 61 (.tmp 46) rfl q (j * 4) rfl [(.string y.lb : Value), .int .i64 y.lp, .string y.hb, .int .i64 y.hp] (prC_range hBq hyL) _ Try.underlying61 rfl (by kernel_rfl)) ?_
              simp only [Act.put, List.setIfInBounds_toArray, List.set_cons_zero, List.set_cons_succ]
              refine dw_val (by kernel_rfl) (.pointer (some ⟨q, i * 4, none⟩)) (ev_index 72 61 (.tmp 41) (.tmp 42) rfl q 0 (l.length + 1) cap2 i 4 .i64 rfl rfl (by omega) Try.underlying72 (by kernel_rfl) (i * 4) (by omega)) ?_
              simp only [Act.put, List.setIfInBounds_toArray, List.set_cons_zero, List.set_cons_succ]
              refine dw_put (by kernel_rfl) 61 (.tmp 48) (.tmp 47) rfl q (i * 4) rfl (.agg #[(.string y.lb : Value), .int .i64 y.lp, .string y.hb, .int .i64 y.hp]) rfl _ _ hBq [(.string y.lb : Value), .int .i64 y.lp, .string y.hb, .int .i64 y.hp] rfl (by rw [List.length_append, prC_len, mid_len _ _ _ hi]; show i * 4 + 4 ≤ _; omega) (by kernel_rfl) (by kernel_rfl) (prC (l.take j ++ y :: l.drop j) ++ rest) ((prC_set (i := i) (by rw [mid_len _ _ _ hi]; omega) rest y).trans (by rw [shifted l i j hij x y hi hy])) ?_
              intro w16 hBw16_ hTw16 hSw16
              replace hM := hM.keep hTw16 (by intro h; omega)
              replace hG := hG.keep hTw16 (by intro h; omega)
              replace hBn4 := hBn4.keep hTw16 (by intro h; omega)
              replace hT0 := hT0.trans hTw16 (fun i hi h => by first | omega | (subst h; omega) | exact h | exact .inl h | exact .inr h)
              clear hBq
              have hBq := hBw16_
              clear hBw16_
              simp only [Act.put]
              refine wl_nil ?_
              refine hK18 _ _ ?_
              refine wl_region ?_
              refine dw_val (by kernel_rfl) (.int .i64 (i : Int)) (by kernel_rfl) ?_
              simp only [Act.put, List.setIfInBounds_toArray, List.set_cons_zero, List.set_cons_succ]
              refine dw_val2 (by kernel_rfl) (.int .i64 (IntKind.i64.wrap ((i : Int) - 1))) (.int .i64 (j : Int)) (by kernel_rfl) (by rw [show IntKind.i64.wrap ((i : Int) - 1) = (j : Int) from by rw [IntWalk.i64_in _ (by omega)]; omega]) ?_
              simp only [Act.put, List.setIfInBounds_toArray, List.set_cons_zero, List.set_cons_succ]
              refine dw_val (by kernel_rfl) (.int .i64 (j : Int)) (by kernel_rfl) ?_
              simp only [Act.put, List.setIfInBounds_toArray, List.set_cons_zero, List.set_cons_succ]
              refine wl_nil ?_
              refine block_normal ?_
              refine then_normal ?_
              refine ⟨⟨j, y, (.int .i64 (i : Int)), (.bool true), (.bool true), (.pointer (some ⟨n4, 1, none⟩)), (.agg #[(.string s.p.lb : Value), .int .i64 s.p.lp, .string s.p.hb, .int .i64 s.p.hp]), (.slice (some ⟨q, 0, none⟩) (l.length + 1) cap2), (.int .i64 (i : Int)), (.int .i64 (j : Int)), (.pointer (some ⟨q, j * 4, none⟩)), (.agg #[(.string y.lb : Value), .int .i64 y.lp, .string y.hb, .int .i64 y.hp]), (.bool (lessP s.p y)), (.bool (lessP s.p y)), (.slice (some ⟨q, 0, none⟩) (l.length + 1) cap2), (.int .i64 (i : Int)), (.slice (some ⟨q, 0, none⟩) (l.length + 1) cap2), (.int .i64 (i : Int)), (.int .i64 (j : Int)), (.pointer (some ⟨q, j * 4, none⟩)), (.agg #[(.string y.lb : Value), .int .i64 y.lp, .string y.hb, .int .i64 y.hp]), (.pointer (some ⟨q, i * 4, none⟩)), (.int .i64 (i : Int)), (.int .i64 (j : Int)), (by omega), (fun j2 q2 hj2 hq2 => if e : j2 = j then (by subst e; rw [hy] at hq2; cases hq2; exact c15) else h3 j2 q2 (by omega) hq2), hM, hG, hBn4, hBq, hT0, rfl⟩, ?_⟩
              simp [intOf]; omega
            · skip
              refine wp_exit ?_
              refine hK15 _ _ ?_
              refine wl_region ?_
              refine dw_val (by kernel_rfl) (.slice (some ⟨q, 0, none⟩) (l.length + 1) cap2) (by kernel_rfl) ?_
              simp only [Act.put, List.setIfInBounds_toArray, List.set_cons_zero, List.set_cons_succ]
              refine dw_val (by kernel_rfl) (.int .i64 (i : Int)) (by kernel_rfl) ?_
              simp only [Act.put, List.setIfInBounds_toArray, List.set_cons_zero, List.set_cons_succ]
              refine dw_val (by kernel_rfl) (.pointer (some ⟨n4, 1, none⟩)) (by kernel_rfl) ?_
              simp only [Act.put, List.setIfInBounds_toArray, List.set_cons_zero, List.set_cons_succ]
              refine dw_row (by kernel_rfl) 61 (.tmp 53) rfl n4 1 rfl _ _ hBn4 [(.string s.p.lb : Value), .int .i64 s.p.lp, .string s.p.hb, .int .i64 s.p.hp] rfl _ Try.underlying61 rfl (by kernel_rfl) ?_
              simp only [Act.put, List.setIfInBounds_toArray, List.set_cons_zero, List.set_cons_succ]
              refine dw_val (by kernel_rfl) (.pointer (some ⟨q, i * 4, none⟩)) (ev_index 72 61 (.tmp 51) (.tmp 52) rfl q 0 (l.length + 1) cap2 i 4 .i64 rfl rfl (by omega) Try.underlying72 (by kernel_rfl) (i * 4) (by omega)) ?_
              simp only [Act.put, List.setIfInBounds_toArray, List.set_cons_zero, List.set_cons_succ]
              refine dw_put (by kernel_rfl) 61 (.tmp 55) (.tmp 54) rfl q (i * 4) rfl (.agg #[(.string s.p.lb : Value), .int .i64 s.p.lp, .string s.p.hb, .int .i64 s.p.hp]) rfl _ _ hBq [(.string s.p.lb : Value), .int .i64 s.p.lp, .string s.p.hb, .int .i64 s.p.hp] rfl (by rw [List.length_append, prC_len, mid_len _ _ _ hi]; show i * 4 + 4 ≤ _; omega) (by kernel_rfl) (by kernel_rfl) (prC (l.take i ++ s.p :: l.drop i) ++ rest) ((prC_set (i := i) (by rw [mid_len _ _ _ hi]; omega) rest s.p).trans (by rw [placed l i x s.p hi])) ?_
              intro w17 hBw17_ hTw17 hSw17
              replace hM := hM.keep hTw17 (by intro h; omega)
              replace hG := hG.keep hTw17 (by intro h; omega)
              replace hBn4 := hBn4.keep hTw17 (by intro h; omega)
              replace hT0 := hT0.trans hTw17 (fun i hi h => by first | omega | (subst h; omega) | exact h | exact .inl h | exact .inr h)
              clear hBq
              have hBq := hBw17_
              clear hBw17_
              simp only [Act.put]
              refine wl_nil ?_
              refine hK9 _ _ ?_
              refine wl_region ?_
              refine dw_val2 (by kernel_rfl) (.int .i64 (IntKind.i64.wrap ((k : Int) + 1))) (.int .i64 ((k + 1 : Nat) : Int)) (by kernel_rfl) (by rw [show IntKind.i64.wrap ((k : Int) + 1) = ((k + 1 : Nat) : Int) from by rw [IntWalk.i64_in _ (by omega)]; rfl]) ?_
              simp only [Act.put, List.setIfInBounds_toArray, List.set_cons_zero, List.set_cons_succ]
              refine dw_val (by kernel_rfl) (.int .i64 ((k + 1 : Nat) : Int)) (by kernel_rfl) ?_
              simp only [Act.put, List.setIfInBounds_toArray, List.set_cons_zero, List.set_cons_succ]
              refine wl_nil ?_
              refine then_normal ?_
              refine ⟨⟨(k + 1), (.slice (some ⟨q, 0, none⟩) (l.length + 1) cap2), (l.take i ++ s.p :: l.drop i), (.bool true), (.pointer (some ⟨g, k * 6, none⟩)), (.agg #[(.int .i64 s.st : Value), .string s.p.lb, .int .i64 s.p.lp, .string s.p.hb, .int .i64 s.p.hp, .int .i64 s.x]), (.pointer (some ⟨n4, 0, none⟩)), (.pointer (some ⟨n4, 0, none⟩)), (.int .i64 s.st), (.bool false), (.slice ad l.length cap), (.int .i64 (l.length : Int)), (.int .i64 (i : Int)), (.slice ad l.length cap), (.pointer (some ⟨n4, 1, none⟩)), (.agg #[(.string s.p.lb : Value), .int .i64 s.p.lp, .string s.p.hb, .int .i64 s.p.hp]), (.slice (some ⟨n7, 0, none⟩) 1 1), (.slice (some ⟨q, 0, none⟩) (l.length + 1) cap2), (.int .i64 (i : Int)), (.bool true), (.bool true), (.pointer (some ⟨n4, 1, none⟩)), (.agg #[(.string s.p.lb : Value), .int .i64 s.p.lp, .string s.p.hb, .int .i64 s.p.hp]), (.slice (some ⟨q, 0, none⟩) (l.length + 1) cap2), (.int .i64 (i : Int)), (.int .i64 (j : Int)), (.pointer (some ⟨q, j * 4, none⟩)), (.agg #[(.string y.lb : Value), .int .i64 y.lp, .string y.hb, .int .i64 y.hp]), (.bool (lessP s.p y)), (.bool (lessP s.p y)), u41_1, u42_1, u43_1, u44_1, u45_1, u46_1, u47_1, u48_1, u49_1, u50_1, (.slice (some ⟨q, 0, none⟩) (l.length + 1) cap2), (.int .i64 (i : Int)), (.pointer (some ⟨n4, 1, none⟩)), (.agg #[(.string s.p.lb : Value), .int .i64 s.p.lp, .string s.p.hb, .int .i64 s.p.hp]), (.pointer (some ⟨q, i * 4, none⟩)), (.int .i64 ((k + 1 : Nat) : Int)), (by omega), (by rw [mid_len _ _ _ hi]; omega), (listed_step ht hL hs h1 hi (.inr ⟨y, by rw [hij, Nat.add_sub_cancel]; exact hy, c15⟩) h3), (by rw [mid_len _ _ _ hi]; exact blk_own hq hBq (by rw [prC_len, mid_len _ _ _ hi]) hcap2 hcm2 (by rw [List.length_append, prC_len, mid_len _ _ _ hi]; exact hlen2)), hM, hG, hT0, rfl⟩, ?_⟩
              simp [intOf]; omega
          · have hi00 : i = 0 := by omega
            refine wp_seq_k fun K19 hK19 => ?_
            refine wp_seq_k fun K20 hK20 => ?_
            refine wq_region (Touch (fun _ => False) w12) (by kernel_rfl) (by kernel_rfl) (Touch.refl _ _).drew ?_
            refine dq_val (by kernel_rfl) (.int .i64 (i : Int)) (fun w' _ => by kernel_rfl) ?_
            simp only [Act.put, List.setIfInBounds_toArray, List.set_cons_zero, List.set_cons_succ]
            refine dq_bool (by kernel_rfl) (decide (0 < (i : Int))) (fun w' _ => by kernel_rfl) (fun hc => absurd hc (by simp; omega)) (fun hc => ?_)
            simp only [Act.put, List.setIfInBounds_toArray, List.set_cons_zero, List.set_cons_succ]
            refine dq_val (by kernel_rfl) (.bool false) (fun w' _ => by kernel_rfl) ?_
            simp only [Act.put, List.setIfInBounds_toArray, List.set_cons_zero, List.set_cons_succ]
            refine dq_no (by kernel_rfl) ?_
            simp only [Act.put, List.setIfInBounds_toArray, List.set_cons_zero, List.set_cons_succ]
            refine dq_no (by kernel_rfl) ?_
            simp only [Act.put, List.setIfInBounds_toArray, List.set_cons_zero, List.set_cons_succ]
            refine dq_no (by kernel_rfl) ?_
            simp only [Act.put, List.setIfInBounds_toArray, List.set_cons_zero, List.set_cons_succ]
            refine dq_no (by kernel_rfl) ?_
            simp only [Act.put, List.setIfInBounds_toArray, List.set_cons_zero, List.set_cons_succ]
            refine dq_no (by kernel_rfl) ?_
            simp only [Act.put, List.setIfInBounds_toArray, List.set_cons_zero, List.set_cons_succ]
            refine dq_no (by kernel_rfl) ?_
            simp only [Act.put, List.setIfInBounds_toArray, List.set_cons_zero, List.set_cons_succ]
            refine dq_no (by kernel_rfl) ?_
            simp only [Act.put, List.setIfInBounds_toArray, List.set_cons_zero, List.set_cons_succ]
            refine dq_no (by kernel_rfl) ?_
            simp only [Act.put, List.setIfInBounds_toArray, List.set_cons_zero, List.set_cons_succ]
            refine dq_val (by kernel_rfl) (.bool false) (fun w' _ => by kernel_rfl) ?_
            simp only [Act.put, List.setIfInBounds_toArray, List.set_cons_zero, List.set_cons_succ]
            refine wq_nil ?_
            intro w18 hT19
            replace hM := hM.keep hT19 (fun h => h)
            replace hG := hG.keep hT19 (fun h => h)
            replace hBn4 := hBn4.keep hT19 (fun h => h)
            replace hBq := hBq.keep hT19 (fun h => h)
            replace hT0 := hT0.trans hT19 (fun _ _ h => h.elim)
            refine hK20 _ _ ?_
            refine wp_cond_false rfl ?_
            refine wp_exit ?_
            refine hK15 _ _ ?_
            refine wl_region ?_
            refine dw_val (by kernel_rfl) (.slice (some ⟨q, 0, none⟩) (l.length + 1) cap2) (by kernel_rfl) ?_
            simp only [Act.put, List.setIfInBounds_toArray, List.set_cons_zero, List.set_cons_succ]
            refine dw_val (by kernel_rfl) (.int .i64 (i : Int)) (by kernel_rfl) ?_
            simp only [Act.put, List.setIfInBounds_toArray, List.set_cons_zero, List.set_cons_succ]
            refine dw_val (by kernel_rfl) (.pointer (some ⟨n4, 1, none⟩)) (by kernel_rfl) ?_
            simp only [Act.put, List.setIfInBounds_toArray, List.set_cons_zero, List.set_cons_succ]
            refine dw_row (by kernel_rfl) 61 (.tmp 53) rfl n4 1 rfl _ _ hBn4 [(.string s.p.lb : Value), .int .i64 s.p.lp, .string s.p.hb, .int .i64 s.p.hp] rfl _ Try.underlying61 rfl (by kernel_rfl) ?_
            simp only [Act.put, List.setIfInBounds_toArray, List.set_cons_zero, List.set_cons_succ]
            refine dw_val (by kernel_rfl) (.pointer (some ⟨q, i * 4, none⟩)) (ev_index 72 61 (.tmp 51) (.tmp 52) rfl q 0 (l.length + 1) cap2 i 4 .i64 rfl rfl (by omega) Try.underlying72 (by kernel_rfl) (i * 4) (by omega)) ?_
            simp only [Act.put, List.setIfInBounds_toArray, List.set_cons_zero, List.set_cons_succ]
            refine dw_put (by kernel_rfl) 61 (.tmp 55) (.tmp 54) rfl q (i * 4) rfl (.agg #[(.string s.p.lb : Value), .int .i64 s.p.lp, .string s.p.hb, .int .i64 s.p.hp]) rfl _ _ hBq [(.string s.p.lb : Value), .int .i64 s.p.lp, .string s.p.hb, .int .i64 s.p.hp] rfl (by rw [List.length_append, prC_len, mid_len _ _ _ hi]; show i * 4 + 4 ≤ _; omega) (by kernel_rfl) (by kernel_rfl) (prC (l.take i ++ s.p :: l.drop i) ++ rest) ((prC_set (i := i) (by rw [mid_len _ _ _ hi]; omega) rest s.p).trans (by rw [placed l i x s.p hi])) ?_
            intro w20 hBw20_ hTw20 hSw20
            replace hM := hM.keep hTw20 (by intro h; omega)
            replace hG := hG.keep hTw20 (by intro h; omega)
            replace hBn4 := hBn4.keep hTw20 (by intro h; omega)
            replace hT0 := hT0.trans hTw20 (fun i hi h => by first | omega | (subst h; omega) | exact h | exact .inl h | exact .inr h)
            clear hBq
            have hBq := hBw20_
            clear hBw20_
            simp only [Act.put]
            refine wl_nil ?_
            refine hK9 _ _ ?_
            refine wl_region ?_
            refine dw_val2 (by kernel_rfl) (.int .i64 (IntKind.i64.wrap ((k : Int) + 1))) (.int .i64 ((k + 1 : Nat) : Int)) (by kernel_rfl) (by rw [show IntKind.i64.wrap ((k : Int) + 1) = ((k + 1 : Nat) : Int) from by rw [IntWalk.i64_in _ (by omega)]; rfl]) ?_
            simp only [Act.put, List.setIfInBounds_toArray, List.set_cons_zero, List.set_cons_succ]
            refine dw_val (by kernel_rfl) (.int .i64 ((k + 1 : Nat) : Int)) (by kernel_rfl) ?_
            simp only [Act.put, List.setIfInBounds_toArray, List.set_cons_zero, List.set_cons_succ]
            refine wl_nil ?_
            refine then_normal ?_
            refine ⟨⟨(k + 1), (.slice (some ⟨q, 0, none⟩) (l.length + 1) cap2), (l.take i ++ s.p :: l.drop i), (.bool true), (.pointer (some ⟨g, k * 6, none⟩)), (.agg #[(.int .i64 s.st : Value), .string s.p.lb, .int .i64 s.p.lp, .string s.p.hb, .int .i64 s.p.hp, .int .i64 s.x]), (.pointer (some ⟨n4, 0, none⟩)), (.pointer (some ⟨n4, 0, none⟩)), (.int .i64 s.st), (.bool false), (.slice ad l.length cap), (.int .i64 (l.length : Int)), (.int .i64 (i : Int)), (.slice ad l.length cap), (.pointer (some ⟨n4, 1, none⟩)), (.agg #[(.string s.p.lb : Value), .int .i64 s.p.lp, .string s.p.hb, .int .i64 s.p.hp]), (.slice (some ⟨n7, 0, none⟩) 1 1), (.slice (some ⟨q, 0, none⟩) (l.length + 1) cap2), (.int .i64 (i : Int)), (.bool false), (.bool false), undef, undef, undef, undef, undef, undef, undef, undef, (.bool false), u41_1, u42_1, u43_1, u44_1, u45_1, u46_1, u47_1, u48_1, u49_1, u50_1, (.slice (some ⟨q, 0, none⟩) (l.length + 1) cap2), (.int .i64 (i : Int)), (.pointer (some ⟨n4, 1, none⟩)), (.agg #[(.string s.p.lb : Value), .int .i64 s.p.lp, .string s.p.hb, .int .i64 s.p.hp]), (.pointer (some ⟨q, i * 4, none⟩)), (.int .i64 ((k + 1 : Nat) : Int)), (by omega), (by rw [mid_len _ _ _ hi]; omega), (listed_step ht hL hs h1 hi (.inl hi00) h3), (by rw [mid_len _ _ _ hi]; exact blk_own hq hBq (by rw [prC_len, mid_len _ _ _ hi]) hcap2 hcm2 (by rw [List.length_append, prC_len, mid_len _ _ _ hi]; exact hlen2)), hM, hG, hT0, rfl⟩, ?_⟩
            simp [intOf]; omega
      · skip
        refine wp_seq_k fun K21 hK21 => ?_
        refine wl_region ?_
        refine dw_bool (by kernel_rfl) (decide ((k : Int) < (N : Int))) (by kernel_rfl) (fun hc => ?_) (fun hc => absurd hc (by simp; omega))
        simp only [Act.put, List.setIfInBounds_toArray, List.set_cons_zero, List.set_cons_succ]
        refine wl_nil ?_
        refine hK21 _ _ ?_
        refine wp_seq_k fun K22 hK22 => ?_
        refine wp_cond_true rfl ?_
        refine wp_skip ?_
        refine hK22 _ _ ?_
        refine wp_seq_k fun K23 hK23 => ?_
        refine wp_block ?_
        refine wp_seq_k fun K24 hK24 => ?_
        refine wl_region ?_
        refine dw_val (by kernel_rfl) (.pointer (some ⟨g, k * 6, none⟩)) (ev_index 93 135 (.tmp 13) (.tmp 15) rfl g 0 N N k 6 .i64 rfl rfl (by omega) Try.underlying93 (by kernel_rfl) (k * 6) (by omega)) ?_
        simp only [Act.put, List.setIfInBounds_toArray, List.set_cons_zero, List.set_cons_succ]
        refine dw_val (by kernel_rfl) (.agg #[(.int .i64 s.st : Value), .string s.p.lb, .int .i64 s.p.lp, .string s.p.hb, .int .i64 s.p.hp, .int .i64 s.x]) (ev_row 135 (.tmp 17) rfl g (k * 6) rfl [(.int .i64 s.st : Value), .string s.p.lb, .int .i64 s.p.lp, .string s.p.hb, .int .i64 s.p.hp, .int .i64 s.x] (slot_range hG hs 0 [(.int .i64 s.st : Value), .string s.p.lb, .int .i64 s.p.lp, .string s.p.hb, .int .i64 s.p.hp, .int .i64 s.x] rfl (Nat.le_of_ble_eq_true rfl)) _ Try.underlying135 rfl (by kernel_rfl)) ?_
        simp only [Act.put, List.setIfInBounds_toArray, List.set_cons_zero, List.set_cons_succ]
        refine dw_new (by kernel_rfl) [(.int .i64 0 : Value), .string ⟨#[]⟩, .int .i64 0, .string ⟨#[]⟩, .int .i64 0, .int .i64 0] 135 (by kernel_rfl) ?_
        intro n21 w22 hnn21 hsn21 hBn21 hTn21
        have hnemn21 : m ≠ n21 := by have := hM.lt; omega
        have hnegn21 : g ≠ n21 := by have := hG.lt; omega
        have hgen21 : w.heap.size ≤ n21 := by have := hT0.size; omega
        replace hM := hM.keep hTn21 (fun h => h)
        replace hG := hG.keep hTn21 (fun h => h)
        replace hown := own_keepS hown hTn21 (fun b h => by first | exact h.elim | (rw [h]; exact own_ne (e := 135) hown (by assumption) (by decide)))
        replace hT0 := hT0.trans hTn21 (fun _ _ h => h.elim)
        simp only [Act.put, List.setIfInBounds_toArray, List.set_cons_zero, List.set_cons_succ]
        refine dw_put (by kernel_rfl) 135 (.tmp 5) (.tmp 18) rfl n21 0 rfl (.agg #[(.int .i64 s.st : Value), .string s.p.lb, .int .i64 s.p.lp, .string s.p.hb, .int .i64 s.p.hp, .int .i64 s.x]) rfl _ _ hBn21 [(.int .i64 s.st : Value), .string s.p.lb, .int .i64 s.p.lp, .string s.p.hb, .int .i64 s.p.hp, .int .i64 s.x] rfl (Nat.le_of_ble_eq_true rfl) (by kernel_rfl) (by kernel_rfl) [(.int .i64 s.st : Value), .string s.p.lb, .int .i64 s.p.lp, .string s.p.hb, .int .i64 s.p.hp, .int .i64 s.x] rfl ?_
        intro w23 hBw23_ hTw23 hSw23
        replace hM := hM.keep hTw23 (by intro h; omega)
        replace hG := hG.keep hTw23 (by intro h; omega)
        replace hown := own_keepS hown hTw23 (fun b h => by first | exact h.elim | (rw [h]; exact own_ne (e := 135) hown (by assumption) (by decide)))
        replace hT0 := hT0.trans hTw23 (fun i hi h => by first | omega | (subst h; omega) | exact h | exact .inl h | exact .inr h)
        clear hBn21
        have hBn21 := hBw23_
        clear hBw23_
        simp only [Act.put]
        refine wl_nil ?_
        refine hK24 _ _ ?_
        refine wp_seq_k fun K25 hK25 => ?_
        refine wp_seq_k fun K26 hK26 => ?_
        refine wl_region ?_
        refine dw_val (by kernel_rfl) (.pointer (some ⟨n21, 0, none⟩)) (by kernel_rfl) ?_
        simp only [Act.put, List.setIfInBounds_toArray, List.set_cons_zero, List.set_cons_succ]
        refine dw_cell (by kernel_rfl) 3 (.tmp 19) rfl n21 0 rfl _ _ hBn21 (.int .i64 s.st) rfl _ Try.underlying3 rfl ?_
        simp only [Act.put, List.setIfInBounds_toArray, List.set_cons_zero, List.set_cons_succ]
        refine dw_bool (by kernel_rfl) (s.st != 1) (by kernel_rfl) (fun hc => ?_) (fun hc => absurd hc (by simp [h1]))
        simp only [Act.put, List.setIfInBounds_toArray, List.set_cons_zero, List.set_cons_succ]
        refine wl_nil ?_
        refine hK26 _ _ ?_
        refine wp_cond_true rfl ?_
        refine wp_exit ?_
        refine hK23 _ _ ?_
        refine wl_region ?_
        refine dw_val2 (by kernel_rfl) (.int .i64 (IntKind.i64.wrap ((k : Int) + 1))) (.int .i64 ((k + 1 : Nat) : Int)) (by kernel_rfl) (by rw [show IntKind.i64.wrap ((k : Int) + 1) = ((k + 1 : Nat) : Int) from by rw [IntWalk.i64_in _ (by omega)]; rfl]) ?_
        simp only [Act.put, List.setIfInBounds_toArray, List.set_cons_zero, List.set_cons_succ]
        refine dw_val (by kernel_rfl) (.int .i64 ((k + 1 : Nat) : Int)) (by kernel_rfl) ?_
        simp only [Act.put, List.setIfInBounds_toArray, List.set_cons_zero, List.set_cons_succ]
        refine wl_nil ?_
        refine then_normal ?_
        refine ⟨⟨(k + 1), (.slice ad l.length cap), l, (.bool true), (.pointer (some ⟨g, k * 6, none⟩)), (.agg #[(.int .i64 s.st : Value), .string s.p.lb, .int .i64 s.p.lp, .string s.p.hb, .int .i64 s.p.hp, .int .i64 s.x]), (.pointer (some ⟨n21, 0, none⟩)), (.pointer (some ⟨n21, 0, none⟩)), (.int .i64 s.st), (.bool true), u22_0, u23_0, u6_0, u24_0, u25_0, u26_0, u27_0, u28_0, u29_0, u30_0, u31_0, u32_0, u33_0, u34_0, u35_0, u36_0, u37_0, u38_0, u39_0, u40_0, u41_0, u42_0, u43_0, u44_0, u45_0, u46_0, u47_0, u48_0, u49_0, u50_0, u51_0, u52_0, u53_0, u54_0, u55_0, (.int .i64 ((k + 1 : Nat) : Int)), (by omega), (by omega), (listed_skip hL hs h1), hown, hM, hG, hT0, rfl⟩, ?_⟩
        simp [intOf]; omega
    · have hge : ¬ k < N := hlt
      refine wp_seq_k fun K27 hK27 => ?_
      refine wl_region ?_
      refine dw_bool (by kernel_rfl) (decide ((k : Int) < (N : Int))) (by kernel_rfl) (fun hc => absurd hc (by simp; omega)) (fun hc => ?_)
      simp only [Act.put, List.setIfInBounds_toArray, List.set_cons_zero, List.set_cons_succ]
      refine wl_nil ?_
      refine hK27 _ _ ?_
      refine wp_seq_k fun K28 hK28 => ?_
      refine wp_cond_false rfl ?_
      refine wp_exit ?_
      refine hK5 _ _ ?_
      refine wp_seq_k fun K29 hK29 => ?_
      refine wl_region ?_
      refine dw_val (by kernel_rfl) (v) (by kernel_rfl) ?_
      simp only [Act.put, List.setIfInBounds_toArray, List.set_cons_zero, List.set_cons_succ]
      refine dw_val (by kernel_rfl) (v) (by kernel_rfl) ?_
      simp only [Act.put, List.setIfInBounds_toArray, List.set_cons_zero, List.set_cons_succ]
      refine wl_nil ?_
      refine hK29 _ _ ?_
      refine wp_ret ?_
      repeat (first | with_reducible refine ret_then ?_ | with_reducible refine ret_block ?_)
      refine bodyPost_ret (v := v) (by kernel_rfl) rfl ?_
      rw [show k = N by omega] at hL
      exact ⟨_, l, rfl, hL, hown, hT0.toBelow⟩
end Go.Proofs.Ytnjbclcihhaddaa
