/- MatchShadows: what the law walks. Conditions: the arguments read as rules and asks. -/
import Derived.Test.YtolkimdfnlfpbaaXE
import Derived.Laws.Rows
import Derived.Test.YtolkimdfnlfpbaaXG
set_option linter.unusedVariables false
set_option linter.unusedSimpArgs false
namespace Go.Proofs.Ytolkimdfnlfpbaa
open Go.RowKit
set_option maxRecDepth 100000 in
set_option maxHeartbeats 4000000 in
theorem shadows_dark (ad : Option Addr) (len cap : Nat) (R : Nat → Rl) (a : Ak) (w : World) (hR : RulesAt w ad len R) (hcl : len ≤ 9223372036854775807) (hl : lightB R len a = false) :
    Calls Try.prog 5 #[.slice ad len cap, .agg a.cs.toArray] w fun e w' => e = .returned (.bool true) ∧ Below w.heap.size w w' := by
  have hT0 := Touch.refl (fun _ => False) w
  go_enter Try.func5, Try.ntmps5
  refine wp_seq_k fun K1 hK1 => ?_
  refine wl_region ?_
  refine dw_new (by kernel_rfl) [(.string a.src : Value), .string a.dst, .int .i64 a.from_, .int .i64 a.to_, .int .u32 a.seq, .int .u32 a.ack, .int .i64 a.flags, .int .i64 a.win, .int .i64 a.urg, .int .i64 a.mss, .int .i64 a.scale, .bool (a.sack), .slice a.ba a.bn a.bc, .bool (a.timed), .int .u32 a.time, .int .u32 a.echo, .string a.data, .int .i64 a.side, .int .i64 a.class_] 34 (by kernel_rfl) ?_
  intro n1 w2 hnn1 hsn1 hBn1 hTn1
  have hgen1 : w.heap.size ≤ n1 := by have := hT0.size; omega
  replace hT0 := hT0.trans hTn1 (fun _ _ h => h.elim)
  simp only [Act.put, List.setIfInBounds_toArray, List.set_cons_zero, List.set_cons_succ]
  refine dw_val (by kernel_rfl) (.bool false) (by kernel_rfl) ?_
  simp only [Act.put, List.setIfInBounds_toArray, List.set_cons_zero, List.set_cons_succ]
  refine wl_nil ?_
  refine hK1 _ _ ?_
  refine wp_seq_k fun K2 hK2 => ?_
  refine wp_seq_k fun K3 hK3 => ?_
  refine wl_region ?_
  refine dw_val (by kernel_rfl) (.slice ad len cap) (by kernel_rfl) ?_
  simp only [Act.put, List.setIfInBounds_toArray, List.set_cons_zero, List.set_cons_succ]
  refine dw_row (by kernel_rfl) 34 (.tmp 3) rfl n1 0 rfl _ _ hBn1 [(.string a.src : Value), .string a.dst, .int .i64 a.from_, .int .i64 a.to_, .int .u32 a.seq, .int .u32 a.ack, .int .i64 a.flags, .int .i64 a.win, .int .i64 a.urg, .int .i64 a.mss, .int .i64 a.scale, .bool (a.sack), .slice a.ba a.bn a.bc, .bool (a.timed), .int .u32 a.time, .int .u32 a.echo, .string a.data, .int .i64 a.side, .int .i64 a.class_] rfl _ Try.underlying34 rfl (by kernel_rfl) ?_
  simp only [Act.put, List.setIfInBounds_toArray, List.set_cons_zero, List.set_cons_succ]
  refine dw_ret (by kernel_rfl) 8 #[(.slice ad len cap : Value), .agg #[(.string a.src : Value), .string a.dst, .int .i64 a.from_, .int .i64 a.to_, .int .u32 a.seq, .int .u32 a.ack, .int .i64 a.flags, .int .i64 a.win, .int .i64 a.urg, .int .i64 a.mss, .int .i64 a.scale, .bool (a.sack), .slice a.ba a.bn a.bc, .bool (a.timed), .int .u32 a.time, .int .u32 a.echo, .string a.data, .int .i64 a.side, .int .i64 a.class_]] (by kernel_rfl) (light_any ad len cap R a w2 (hR.keep hT0) hcl) ?_
  intro w3 hb
  have ht4 : Touch (fun _ => False) w2 w3 := Touch.none hb
  replace hBn1 := hBn1.keep ht4 (fun h => h)
  replace hT0 := hT0.trans ht4 (fun _ _ h => h.elim)
  clear hb
  simp only [Act.put, List.setIfInBounds_toArray, List.set_cons_zero, List.set_cons_succ]
  refine dw_bool (by kernel_rfl) (!(lightB R len a)) (by kernel_rfl) (fun hc => ?_) (fun hc => absurd hc (by simp [hl]))
  simp only [Act.put, List.setIfInBounds_toArray, List.set_cons_zero, List.set_cons_succ]
  refine wl_nil ?_
  refine hK3 _ _ ?_
  refine wp_cond_true rfl ?_
  refine wp_seq_k fun K4 hK4 => ?_
  refine wl_region ?_
  refine dw_ret (by kernel_rfl) 9 #[] (by kernel_rfl) (known_any w3) ?_
  intro w5 hb
  have ht6 : Touch (fun _ => False) w3 w5 := Touch.none hb
  replace hBn1 := hBn1.keep ht6 (fun h => h)
  replace hT0 := hT0.trans ht6 (fun _ _ h => h.elim)
  clear hb
  simp only [Act.put, List.setIfInBounds_toArray, List.set_cons_zero, List.set_cons_succ]
  refine dw_val (by kernel_rfl) (.bool true) (by kernel_rfl) ?_
  simp only [Act.put, List.setIfInBounds_toArray, List.set_cons_zero, List.set_cons_succ]
  refine wl_nil ?_
  refine hK4 _ _ ?_
  refine wp_ret ?_
  repeat (first | with_reducible refine ret_then ?_ | with_reducible refine ret_block ?_)
  refine bodyPost_ret (v := .bool true) (by kernel_rfl) rfl ?_
  exact ⟨rfl, hT0.toBelow⟩
set_option maxRecDepth 100000 in
set_option maxHeartbeats 4000000 in
theorem shadows_light (ad : Option Addr) (len cap : Nat) (R : Nat → Rl) (a : Ak) (w : World) (hR : RulesAt w ad len R) (hlc : len ≤ cap) (hcap : cap ≤ maxLen) (hcl : len ≤ 9223372036854775807) (hl : lightB R len a = true) (h60 : len ≤ 60) (hla2 : LawR R len) (hsm : SmallR R len) (hsrc : a.src.size ≤ 100) (hdst : a.dst.size ≤ 100) :
    Calls Try.prog 5 #[.slice ad len cap, .agg a.cs.toArray] w fun e w' => e = .returned (.bool true) ∧ Below w.heap.size w w' := by
  obtain ⟨i0, hi, hz0, hz1, hz2⟩ := info_parts info43
  have hT0 := Touch.refl (fun _ => False) w
  go_enter Try.func5, Try.ntmps5
  refine wp_seq_k fun K1 hK1 => ?_
  refine wl_region ?_
  refine dw_new (by kernel_rfl) [(.string a.src : Value), .string a.dst, .int .i64 a.from_, .int .i64 a.to_, .int .u32 a.seq, .int .u32 a.ack, .int .i64 a.flags, .int .i64 a.win, .int .i64 a.urg, .int .i64 a.mss, .int .i64 a.scale, .bool (a.sack), .slice a.ba a.bn a.bc, .bool (a.timed), .int .u32 a.time, .int .u32 a.echo, .string a.data, .int .i64 a.side, .int .i64 a.class_] 34 (by kernel_rfl) ?_
  intro n1 w2 hnn1 hsn1 hBn1 hTn1
  have hgen1 : w.heap.size ≤ n1 := by have := hT0.size; omega
  replace hT0 := hT0.trans hTn1 (fun _ _ h => h.elim)
  simp only [Act.put, List.setIfInBounds_toArray, List.set_cons_zero, List.set_cons_succ]
  refine dw_val (by kernel_rfl) (.bool false) (by kernel_rfl) ?_
  simp only [Act.put, List.setIfInBounds_toArray, List.set_cons_zero, List.set_cons_succ]
  refine wl_nil ?_
  refine hK1 _ _ ?_
  refine wp_seq_k fun K2 hK2 => ?_
  refine wp_seq_k fun K3 hK3 => ?_
  refine wl_region ?_
  refine dw_val (by kernel_rfl) (.slice ad len cap) (by kernel_rfl) ?_
  simp only [Act.put, List.setIfInBounds_toArray, List.set_cons_zero, List.set_cons_succ]
  refine dw_row (by kernel_rfl) 34 (.tmp 3) rfl n1 0 rfl _ _ hBn1 [(.string a.src : Value), .string a.dst, .int .i64 a.from_, .int .i64 a.to_, .int .u32 a.seq, .int .u32 a.ack, .int .i64 a.flags, .int .i64 a.win, .int .i64 a.urg, .int .i64 a.mss, .int .i64 a.scale, .bool (a.sack), .slice a.ba a.bn a.bc, .bool (a.timed), .int .u32 a.time, .int .u32 a.echo, .string a.data, .int .i64 a.side, .int .i64 a.class_] rfl _ Try.underlying34 rfl (by kernel_rfl) ?_
  simp only [Act.put, List.setIfInBounds_toArray, List.set_cons_zero, List.set_cons_succ]
  refine dw_ret (by kernel_rfl) 8 #[(.slice ad len cap : Value), .agg #[(.string a.src : Value), .string a.dst, .int .i64 a.from_, .int .i64 a.to_, .int .u32 a.seq, .int .u32 a.ack, .int .i64 a.flags, .int .i64 a.win, .int .i64 a.urg, .int .i64 a.mss, .int .i64 a.scale, .bool (a.sack), .slice a.ba a.bn a.bc, .bool (a.timed), .int .u32 a.time, .int .u32 a.echo, .string a.data, .int .i64 a.side, .int .i64 a.class_]] (by kernel_rfl) (light_any ad len cap R a w2 (hR.keep hT0) hcl) ?_
  intro w3 hb
  have ht4 : Touch (fun _ => False) w2 w3 := Touch.none hb
  replace hBn1 := hBn1.keep ht4 (fun h => h)
  replace hT0 := hT0.trans ht4 (fun _ _ h => h.elim)
  clear hb
  simp only [Act.put, List.setIfInBounds_toArray, List.set_cons_zero, List.set_cons_succ]
  refine dw_bool (by kernel_rfl) (!(lightB R len a)) (by kernel_rfl) (fun hc => absurd hc (by simp [hl])) (fun hc => ?_)
  simp only [Act.put, List.setIfInBounds_toArray, List.set_cons_zero, List.set_cons_succ]
  refine wl_nil ?_
  refine hK3 _ _ ?_
  refine wp_cond_false rfl ?_
  refine wp_skip ?_
  refine hK2 _ _ ?_
  refine wp_seq_k fun K4 hK4 => ?_
  refine wl_region ?_
  refine dw_val (by kernel_rfl) (.slice ad len cap) (by kernel_rfl) ?_
  simp only [Act.put, List.setIfInBounds_toArray, List.set_cons_zero, List.set_cons_succ]
  refine dw_enter (by kernel_rfl) 21 #[(.slice ad len cap : Value)] (by kernel_rfl) ?_
  (with_reducible refine Calls.mono (shadowed_any ad len cap R w3 (hR.keep hT0) hlc hcap h60 hsm) ?_)
  rintro e w5 ⟨v6, rfl, ho5, hb⟩
  refine ⟨v6, rfl, ?_⟩
  have ht7 : Touch (fun _ => False) w3 w5 := Touch.none hb
  replace hBn1 := hBn1.keep ht7 (fun h => h)
  replace hT0 := hT0.trans ht7 (fun _ _ h => h.elim)
  clear hb
  obtain ⟨ad5, cap5, rfl, hn5⟩ := nums_of_own ho5
  clear ho5
  simp only [Act.put, List.setIfInBounds_toArray, List.set_cons_zero, List.set_cons_succ]
  refine dw_val (by kernel_rfl) (.slice ad5 (shadL R len).length cap5) (by kernel_rfl) ?_
  simp only [Act.put, List.setIfInBounds_toArray, List.set_cons_zero, List.set_cons_succ]
  refine wl_nil ?_
  refine hK4 _ _ ?_
  refine wp_seq_k fun K5 hK5 => ?_
  refine wl_region ?_
  refine dw_val (by kernel_rfl) (.slice ad len cap) (by kernel_rfl) ?_
  simp only [Act.put, List.setIfInBounds_toArray, List.set_cons_zero, List.set_cons_succ]
  refine dw_row (by kernel_rfl) 34 (.tmp 3) rfl n1 0 rfl _ _ hBn1 [(.string a.src : Value), .string a.dst, .int .i64 a.from_, .int .i64 a.to_, .int .u32 a.seq, .int .u32 a.ack, .int .i64 a.flags, .int .i64 a.win, .int .i64 a.urg, .int .i64 a.mss, .int .i64 a.scale, .bool (a.sack), .slice a.ba a.bn a.bc, .bool (a.timed), .int .u32 a.time, .int .u32 a.echo, .string a.data, .int .i64 a.side, .int .i64 a.class_] rfl _ Try.underlying34 rfl (by kernel_rfl) ?_
  simp only [Act.put, List.setIfInBounds_toArray, List.set_cons_zero, List.set_cons_succ]
  refine dw_ret (by kernel_rfl) 13 #[(.slice ad len cap : Value), .agg #[(.string a.src : Value), .string a.dst, .int .i64 a.from_, .int .i64 a.to_, .int .u32 a.seq, .int .u32 a.ack, .int .i64 a.flags, .int .i64 a.win, .int .i64 a.urg, .int .i64 a.mss, .int .i64 a.scale, .bool (a.sack), .slice a.ba a.bn a.bc, .bool (a.timed), .int .u32 a.time, .int .u32 a.echo, .string a.data, .int .i64 a.side, .int .i64 a.class_]] (by kernel_rfl) (first_any ad len cap R a w5 (hR.keep hT0) hcl hsm hsrc hdst) ?_
  intro w8 hb
  have ht9 : Touch (fun _ => False) w5 w8 := Touch.none hb
  replace hBn1 := hBn1.keep ht9 (fun h => h)
  replace hT0 := hT0.trans ht9 (fun _ _ h => h.elim)
  have hn5z := Touch.none hb
  replace hn5 := hn5.keep hn5z (fun _ _ h => h)
  have hsz5 := hn5z.size
  replace hn5 : NumsAt w8 w8.heap.size ad5 (shadL R len) := fun j hj => by obtain ⟨g, h1, h2, h3, h4⟩ := hn5 j hj; exact ⟨g, h1, by omega, h3, h4⟩
  clear hb hn5z hsz5
  simp only [Act.put, List.setIfInBounds_toArray, List.set_cons_zero, List.set_cons_succ]
  refine dw_val (by kernel_rfl) (.int .i64 (firstI R a len)) (by kernel_rfl) ?_
  simp only [Act.put, List.setIfInBounds_toArray, List.set_cons_zero, List.set_cons_succ]
  refine wl_nil ?_
  refine hK5 _ _ ?_
  refine wp_seq_k fun K6 hK6 => ?_
  refine wl_region ?_
  refine dw_val (by kernel_rfl) (.slice none 0 0) (by kernel_rfl) ?_
  simp only [Act.put, List.setIfInBounds_toArray, List.set_cons_zero, List.set_cons_succ]
  refine wl_nil ?_
  refine hK6 _ _ ?_
  refine wp_seq_k fun K7 hK7 => ?_
  refine wl_region ?_
  refine dw_val (by kernel_rfl) (.int .i64 0) (by kernel_rfl) ?_
  simp only [Act.put, List.setIfInBounds_toArray, List.set_cons_zero, List.set_cons_succ]
  refine wl_nil ?_
  refine hK7 _ _ ?_
  refine wp_seq_k fun K8 hK8 => ?_
  refine wp_seq_k fun K9 hK9 => ?_
  refine wl_region ?_
  refine dw_val (by kernel_rfl) (.int .i64 0) (by kernel_rfl) ?_
  simp only [Act.put, List.setIfInBounds_toArray, List.set_cons_zero, List.set_cons_succ]
  refine wl_nil ?_
  refine hK9 _ _ ?_
  refine wp_block ?_
  have hb3 : n1 < w8.heap.size := hBn1.lt
  obtain ⟨B, hBe⟩ : ∃ B, B = w8.heap.size := ⟨_, rfl⟩
  have hBw : w.heap.size ≤ B := by have := hT0.size; omega
  rw [← hBe] at hn5
  rw [← hBe] at hb3
  refine wp_loop (fun (aL : Act) (wL : World) => ∃ (k : Nat), ∃ (v : Value), ∃ (n8 : Nat), ∃ (u20_0 u21_0 u22_0 u23_0 u26_0 u27_0 u28_0 u29_0 u30_0 u31_0 u32_0 u33_0 u34_0 u35_0 u36_0 u37_0 u38_0 u39_0 u40_0 u41_0 u42_0 u4_0 u43_0 u44_0 u45_0 u46_0 u47_0 u48_0 u49_0 u24_0 u25_0 : Value), (n8 = (shadL R k).length) ∧ (k ≤ len) ∧ (n1 < B) ∧ (NumsAt wL B ad5 (shadL R len)) ∧ (wL.ownsRow B 43 13 v (keepR R k).length (kcells R k)) ∧ (B ≤ wL.heap.size) ∧ Blk wL n1 [(.string a.src : Value), .string a.dst, .int .i64 a.from_, .int .i64 a.to_, .int .u32 a.seq, .int .u32 a.ack, .int .i64 a.flags, .int .i64 a.win, .int .i64 a.urg, .int .i64 a.mss, .int .i64 a.scale, .bool (a.sack), .slice a.ba a.bn a.bc, .bool (a.timed), .int .u32 a.time, .int .u32 a.echo, .string a.data, .int .i64 a.side, .int .i64 a.class_] 34 ∧ Touch (fun _ => False) w wL ∧ aL = ⟨#[(.slice ad len cap : Value), .agg #[(.string a.src : Value), .string a.dst, .int .i64 a.from_, .int .i64 a.to_, .int .u32 a.seq, .int .u32 a.ack, .int .i64 a.flags, .int .i64 a.win, .int .i64 a.urg, .int .i64 a.mss, .int .i64 a.scale, .bool (a.sack), .slice a.ba a.bn a.bc, .bool (a.timed), .int .u32 a.time, .int .u32 a.echo, .string a.data, .int .i64 a.side, .int .i64 a.class_], undef, .pointer (some ⟨n1, 0, none⟩), u4_0, .slice ad5 (shadL R len).length cap5, .int .i64 (firstI R a len), v, .int .i64 (n8 : Int), .int .i64 (k : Int), .slice ad len cap, .agg #[(.string a.src : Value), .string a.dst, .int .i64 a.from_, .int .i64 a.to_, .int .u32 a.seq, .int .u32 a.ack, .int .i64 a.flags, .int .i64 a.win, .int .i64 a.urg, .int .i64 a.mss, .int .i64 a.scale, .bool (a.sack), .slice a.ba a.bn a.bc, .bool (a.timed), .int .u32 a.time, .int .u32 a.echo, .string a.data, .int .i64 a.side, .int .i64 a.class_], .bool (lightB R len a), .bool false, undef, .slice ad len cap, .slice ad5 (shadL R len).length cap5, .slice ad len cap, .agg #[(.string a.src : Value), .string a.dst, .int .i64 a.from_, .int .i64 a.to_, .int .u32 a.seq, .int .u32 a.ack, .int .i64 a.flags, .int .i64 a.win, .int .i64 a.urg, .int .i64 a.mss, .int .i64 a.scale, .bool (a.sack), .slice a.ba a.bn a.bc, .bool (a.timed), .int .u32 a.time, .int .u32 a.echo, .string a.data, .int .i64 a.side, .int .i64 a.class_], .int .i64 (firstI R a len), u20_0, u21_0, u22_0, u23_0, u24_0, u25_0, u26_0, u27_0, u28_0, u29_0, u30_0, u31_0, u32_0, u33_0, u34_0, u35_0, u36_0, u37_0, u38_0, u39_0, u40_0, u41_0, u42_0, u43_0, u44_0, u45_0, u46_0, u47_0, u48_0, u49_0, undef, undef, undef, undef, undef, undef, undef, undef, undef, undef, undef, undef, undef, undef, undef, undef, undef, undef, undef, undef], []⟩) (fun (aL : Act) (wL : World) => len - (intOf (aL.tmps.getD 9 undef)).toNat) ?_ ?_
  · exact ⟨0, (.slice none 0 0), 0, undef, undef, undef, undef, undef, undef, undef, undef, undef, undef, undef, undef, undef, undef, undef, undef, undef, undef, undef, undef, undef, (.bool false), undef, undef, undef, undef, undef, undef, undef, undef, undef, rfl, (Nat.zero_le _), hb3, hn5, (World.ownsRow_nil _ _ _ _), (Nat.le_of_eq hBe), hBn1, hT0, rfl⟩
  · intro aL w10 hI
    clear hBn1 hT0 hn5
    obtain ⟨k, v, n8, u20_0, u21_0, u22_0, u23_0, u26_0, u27_0, u28_0, u29_0, u30_0, u31_0, u32_0, u33_0, u34_0, u35_0, u36_0, u37_0, u38_0, u39_0, u40_0, u41_0, u42_0, u4_0, u43_0, u44_0, u45_0, u46_0, u47_0, u48_0, u49_0, u24_0, u25_0, hn8, hk, hbk, hn5, hown, hBs, hBn1, hT0, rfl⟩ := hI
    subst hn8
    have hks := keep_shad R k
    by_cases hlt : k < len
    · obtain ⟨b, off, hab, hbs, -⟩ := hR k hlt
      subst hab
      have hat := shadL_at (R := R) hlt
      by_cases hsh : shadB R k = true
      · have hg5 := hat.1 hsh
        have hat1 : (shadL R k).length < (shadL R len).length := (List.getElem?_eq_some_iff.1 hg5).1
        have hgd : (shadL R len).getD (shadL R k).length 0 = (k : Int) := by rw [List.getD_eq_getElem?_getD, hg5]; rfl
        refine wp_seq_k fun K10 hK10 => ?_
        refine wp_seq_k fun K11 hK11 => ?_
        refine wl_region ?_
        refine dw_val (by kernel_rfl) (.int .i64 (k : Int)) (by kernel_rfl) ?_
        simp only [Act.put, List.setIfInBounds_toArray, List.set_cons_zero, List.set_cons_succ]
        refine dw_val (by kernel_rfl) (.slice (some ⟨b, off, none⟩) len cap) (by kernel_rfl) ?_
        simp only [Act.put, List.setIfInBounds_toArray, List.set_cons_zero, List.set_cons_succ]
        refine dw_val (by kernel_rfl) (.int .i64 (len : Int)) (by kernel_rfl) ?_
        simp only [Act.put, List.setIfInBounds_toArray, List.set_cons_zero, List.set_cons_succ]
        refine dw_bool (by kernel_rfl) (decide ((k : Int) < (len : Int))) (by kernel_rfl) (fun hc => ?_) (fun hc => absurd hc (by simp; omega))
        simp only [Act.put, List.setIfInBounds_toArray, List.set_cons_zero, List.set_cons_succ]
        refine wl_nil ?_
        refine hK11 _ _ ?_
        refine wp_cond_true rfl ?_
        refine wp_skip ?_
        refine hK10 _ _ ?_
        refine wp_seq_k fun K12 hK12 => ?_
        refine wp_block ?_
        refine wp_seq_k fun K13 hK13 => ?_
        refine wp_seq_k fun K14 hK14 => ?_
        refine wl_region ?_
        refine dw_val (by kernel_rfl) (.int .i64 (((shadL R k).length : Nat) : Int)) (by kernel_rfl) ?_
        simp only [Act.put, List.setIfInBounds_toArray, List.set_cons_zero, List.set_cons_succ]
        refine dw_val (by kernel_rfl) (.slice ad5 (shadL R len).length cap5) (by kernel_rfl) ?_
        simp only [Act.put, List.setIfInBounds_toArray, List.set_cons_zero, List.set_cons_succ]
        refine dw_val (by kernel_rfl) (.int .i64 ((shadL R len).length : Int)) (by kernel_rfl) ?_
        simp only [Act.put, List.setIfInBounds_toArray, List.set_cons_zero, List.set_cons_succ]
        refine dw_bool (by kernel_rfl) (decide ((((shadL R k).length : Nat) : Int) < ((shadL R len).length : Int))) (by kernel_rfl) (fun hc => ?_) (fun hc => absurd hc (by simp; omega))
        simp only [Act.put, List.setIfInBounds_toArray, List.set_cons_zero, List.set_cons_succ]
        refine dw_val (by kernel_rfl) (.bool true) (by kernel_rfl) ?_
        simp only [Act.put, List.setIfInBounds_toArray, List.set_cons_zero, List.set_cons_succ]
        refine dw_val (by kernel_rfl) (.slice ad5 (shadL R len).length cap5) (by kernel_rfl) ?_
        simp only [Act.put, List.setIfInBounds_toArray, List.set_cons_zero, List.set_cons_succ]
        refine dw_val (by kernel_rfl) (.int .i64 (((shadL R k).length : Nat) : Int)) (by kernel_rfl) ?_
        simp only [Act.put, List.setIfInBounds_toArray, List.set_cons_zero, List.set_cons_succ]
        obtain ⟨g5, hg5a, hg5b, hg5c, hg5d⟩ := hn5 _ hat1
        refine dw_val (by kernel_rfl) (.pointer (some ⟨g5, (shadL R k).length, none⟩)) (ev_index 55 3 (.tmp 31) (.tmp 32) rfl g5 0 (shadL R len).length cap5 (shadL R k).length 1 .i64 (by rw [← hg5a]; rfl) rfl hat1 Try.underlying55 (by kernel_rfl) _ (by omega)) ?_
        simp only [Act.put, List.setIfInBounds_toArray, List.set_cons_zero, List.set_cons_succ]
        refine dw_cellAt (by kernel_rfl) 3 (.tmp 33) rfl g5 (shadL R k).length rfl (.int .i64 ((shadL R len).getD (shadL R k).length 0)) hg5d _ Try.underlying3 rfl ?_
        simp only [Act.put, List.setIfInBounds_toArray, List.set_cons_zero, List.set_cons_succ]
        refine dw_val (by kernel_rfl) (.int .i64 (k : Int)) (by kernel_rfl) ?_
        simp only [Act.put, List.setIfInBounds_toArray, List.set_cons_zero, List.set_cons_succ]
        refine dw_bool (by kernel_rfl) (((shadL R len).getD (shadL R k).length 0) == (k : Int)) (by kernel_rfl) (fun hc => ?_) (fun hc => absurd hc (by simpa using hgd))
        simp only [Act.put, List.setIfInBounds_toArray, List.set_cons_zero, List.set_cons_succ]
        refine dw_val (by kernel_rfl) (.bool true) (by kernel_rfl) ?_
        simp only [Act.put, List.setIfInBounds_toArray, List.set_cons_zero, List.set_cons_succ]
        refine wl_nil ?_
        refine hK14 _ _ ?_
        refine wp_cond_true rfl ?_
        refine wp_seq_k fun K15 hK15 => ?_
        refine wl_region ?_
        refine dw_val (by kernel_rfl) (.int .i64 (((shadL R k).length : Nat) : Int)) (by kernel_rfl) ?_
        simp only [Act.put, List.setIfInBounds_toArray, List.set_cons_zero, List.set_cons_succ]
        refine dw_val2 (by kernel_rfl) (.int .i64 (IntKind.i64.wrap ((((shadL R k).length : Nat) : Int) + 1))) (.int .i64 (((shadL R k).length + 1 : Nat) : Int)) (by kernel_rfl) (by rw [show IntKind.i64.wrap ((((shadL R k).length : Nat) : Int) + 1) = (((shadL R k).length + 1 : Nat) : Int) from by rw [IntWalk.i64_in _ (by omega)]; rfl]) ?_
        simp only [Act.put, List.setIfInBounds_toArray, List.set_cons_zero, List.set_cons_succ]
        refine dw_val (by kernel_rfl) (.int .i64 (((shadL R k).length + 1 : Nat) : Int)) (by kernel_rfl) ?_
        simp only [Act.put, List.setIfInBounds_toArray, List.set_cons_zero, List.set_cons_succ]
        refine wl_nil ?_
        refine hK15 _ _ ?_
        refine wp_seq_k fun K16 hK16 => ?_
        refine wp_seq_k fun K17 hK17 => ?_
        refine wl_region ?_
        refine dw_val (by kernel_rfl) (.int .i64 (k : Int)) (by kernel_rfl) ?_
        simp only [Act.put, List.setIfInBounds_toArray, List.set_cons_zero, List.set_cons_succ]
        refine dw_val (by kernel_rfl) (.int .i64 (firstI R a len)) (by kernel_rfl) ?_
        simp only [Act.put, List.setIfInBounds_toArray, List.set_cons_zero, List.set_cons_succ]
        refine dw_bool (by kernel_rfl) ((k : Int) == (firstI R a len)) (by kernel_rfl) (fun hc => absurd hc (by simpa using shad_not_first hla2 hlt hsh)) (fun hc => ?_)
        simp only [Act.put, List.setIfInBounds_toArray, List.set_cons_zero, List.set_cons_succ]
        refine wl_nil ?_
        refine hK17 _ _ ?_
        refine wp_cond_false rfl ?_
        refine wp_skip ?_
        refine hK16 _ _ ?_
        refine wp_exit ?_
        refine hK12 _ _ ?_
        refine wl_region ?_
        refine dw_val (by kernel_rfl) (.int .i64 (k : Int)) (by kernel_rfl) ?_
        simp only [Act.put, List.setIfInBounds_toArray, List.set_cons_zero, List.set_cons_succ]
        refine dw_val2 (by kernel_rfl) (.int .i64 (IntKind.i64.wrap ((k : Int) + 1))) (.int .i64 ((k + 1 : Nat) : Int)) (by kernel_rfl) (by rw [show IntKind.i64.wrap ((k : Int) + 1) = ((k + 1 : Nat) : Int) from by rw [IntWalk.i64_in _ (by omega)]; rfl]) ?_
        simp only [Act.put, List.setIfInBounds_toArray, List.set_cons_zero, List.set_cons_succ]
        refine dw_val (by kernel_rfl) (.int .i64 ((k + 1 : Nat) : Int)) (by kernel_rfl) ?_
        simp only [Act.put, List.setIfInBounds_toArray, List.set_cons_zero, List.set_cons_succ]
        refine wl_nil ?_
        refine then_normal ?_
        refine ⟨⟨(k + 1), v, ((shadL R k).length + 1), (.int .i64 (k : Int)), (.slice (some ⟨b, off, none⟩) len cap), (.int .i64 (len : Int)), (.bool true), (.int .i64 (((shadL R k).length : Nat) : Int)), (.slice ad5 (shadL R len).length cap5), (.int .i64 ((shadL R len).length : Int)), (.bool true), (.bool true), (.slice ad5 (shadL R len).length cap5), (.int .i64 (((shadL R k).length : Nat) : Int)), (.pointer (some ⟨g5, (shadL R k).length, none⟩)), (.int .i64 ((shadL R len).getD (shadL R k).length 0)), (.int .i64 (k : Int)), (.bool true), (.bool true), (.int .i64 (((shadL R k).length : Nat) : Int)), (.int .i64 (((shadL R k).length + 1 : Nat) : Int)), (.int .i64 (k : Int)), (.int .i64 (firstI R a len)), (.bool false), u4_0, u43_0, u44_0, u45_0, u46_0, u47_0, u48_0, u49_0, (.int .i64 (k : Int)), (.int .i64 ((k + 1 : Nat) : Int)), (by rw [shadL_yes hsh, List.length_append]; rfl), (by omega), (by omega), hn5, (by rw [keepR_yes hsh, kcells_yes hsh]; exact hown), hBs, hBn1, hT0, rfl⟩, ?_⟩
        simp [intOf]; omega
      · replace hsh : shadB R k = false := by simpa using hsh
        by_cases hat1 : (shadL R k).length < (shadL R len).length
        · have hgd : (shadL R len).getD (shadL R k).length 0 ≠ (k : Int) := hat.2 hsh _ (by rw [List.getD_eq_getElem?_getD, List.getElem?_eq_getElem hat1]; rfl)
          refine wp_seq_k fun K18 hK18 => ?_
          refine wp_seq_k fun K19 hK19 => ?_
          refine wl_region ?_
          refine dw_val (by kernel_rfl) (.int .i64 (k : Int)) (by kernel_rfl) ?_
          simp only [Act.put, List.setIfInBounds_toArray, List.set_cons_zero, List.set_cons_succ]
          refine dw_val (by kernel_rfl) (.slice (some ⟨b, off, none⟩) len cap) (by kernel_rfl) ?_
          simp only [Act.put, List.setIfInBounds_toArray, List.set_cons_zero, List.set_cons_succ]
          refine dw_val (by kernel_rfl) (.int .i64 (len : Int)) (by kernel_rfl) ?_
          simp only [Act.put, List.setIfInBounds_toArray, List.set_cons_zero, List.set_cons_succ]
          refine dw_bool (by kernel_rfl) (decide ((k : Int) < (len : Int))) (by kernel_rfl) (fun hc => ?_) (fun hc => absurd hc (by simp; omega))
          simp only [Act.put, List.setIfInBounds_toArray, List.set_cons_zero, List.set_cons_succ]
          refine wl_nil ?_
          refine hK19 _ _ ?_
          refine wp_cond_true rfl ?_
          refine wp_skip ?_
          refine hK18 _ _ ?_
          refine wp_seq_k fun K20 hK20 => ?_
          refine wp_block ?_
          refine wp_seq_k fun K21 hK21 => ?_
          refine wp_seq_k fun K22 hK22 => ?_
          refine wl_region ?_
          refine dw_val (by kernel_rfl) (.int .i64 (((shadL R k).length : Nat) : Int)) (by kernel_rfl) ?_
          simp only [Act.put, List.setIfInBounds_toArray, List.set_cons_zero, List.set_cons_succ]
          refine dw_val (by kernel_rfl) (.slice ad5 (shadL R len).length cap5) (by kernel_rfl) ?_
          simp only [Act.put, List.setIfInBounds_toArray, List.set_cons_zero, List.set_cons_succ]
          refine dw_val (by kernel_rfl) (.int .i64 ((shadL R len).length : Int)) (by kernel_rfl) ?_
          simp only [Act.put, List.setIfInBounds_toArray, List.set_cons_zero, List.set_cons_succ]
          refine dw_bool (by kernel_rfl) (decide ((((shadL R k).length : Nat) : Int) < ((shadL R len).length : Int))) (by kernel_rfl) (fun hc => ?_) (fun hc => absurd hc (by simp; omega))
          simp only [Act.put, List.setIfInBounds_toArray, List.set_cons_zero, List.set_cons_succ]
          refine dw_val (by kernel_rfl) (.bool true) (by kernel_rfl) ?_
          simp only [Act.put, List.setIfInBounds_toArray, List.set_cons_zero, List.set_cons_succ]
          refine dw_val (by kernel_rfl) (.slice ad5 (shadL R len).length cap5) (by kernel_rfl) ?_
          simp only [Act.put, List.setIfInBounds_toArray, List.set_cons_zero, List.set_cons_succ]
          refine dw_val (by kernel_rfl) (.int .i64 (((shadL R k).length : Nat) : Int)) (by kernel_rfl) ?_
          simp only [Act.put, List.setIfInBounds_toArray, List.set_cons_zero, List.set_cons_succ]
          obtain ⟨g5, hg5a, hg5b, hg5c, hg5d⟩ := hn5 _ hat1
          refine dw_val (by kernel_rfl) (.pointer (some ⟨g5, (shadL R k).length, none⟩)) (ev_index 55 3 (.tmp 31) (.tmp 32) rfl g5 0 (shadL R len).length cap5 (shadL R k).length 1 .i64 (by rw [← hg5a]; rfl) rfl hat1 Try.underlying55 (by kernel_rfl) _ (by omega)) ?_
          simp only [Act.put, List.setIfInBounds_toArray, List.set_cons_zero, List.set_cons_succ]
          refine dw_cellAt (by kernel_rfl) 3 (.tmp 33) rfl g5 (shadL R k).length rfl (.int .i64 ((shadL R len).getD (shadL R k).length 0)) hg5d _ Try.underlying3 rfl ?_
          simp only [Act.put, List.setIfInBounds_toArray, List.set_cons_zero, List.set_cons_succ]
          refine dw_val (by kernel_rfl) (.int .i64 (k : Int)) (by kernel_rfl) ?_
          simp only [Act.put, List.setIfInBounds_toArray, List.set_cons_zero, List.set_cons_succ]
          refine dw_bool (by kernel_rfl) (((shadL R len).getD (shadL R k).length 0) == (k : Int)) (by kernel_rfl) (fun hc => absurd hc (by simpa using hgd)) (fun hc => ?_)
          simp only [Act.put, List.setIfInBounds_toArray, List.set_cons_zero, List.set_cons_succ]
          refine dw_val (by kernel_rfl) (.bool false) (by kernel_rfl) ?_
          simp only [Act.put, List.setIfInBounds_toArray, List.set_cons_zero, List.set_cons_succ]
          refine wl_nil ?_
          refine hK22 _ _ ?_
          refine wp_cond_false rfl ?_
          refine wp_skip ?_
          refine hK21 _ _ ?_
          refine wl_region ?_
          refine dw_val (by kernel_rfl) (v) (by kernel_rfl) ?_
          simp only [Act.put, List.setIfInBounds_toArray, List.set_cons_zero, List.set_cons_succ]
          refine dw_val (by kernel_rfl) (.slice (some ⟨b, off, none⟩) len cap) (by kernel_rfl) ?_
          simp only [Act.put, List.setIfInBounds_toArray, List.set_cons_zero, List.set_cons_succ]
          refine dw_val (by kernel_rfl) (.int .i64 (k : Int)) (by kernel_rfl) ?_
          simp only [Act.put, List.setIfInBounds_toArray, List.set_cons_zero, List.set_cons_succ]
          refine dw_val (by kernel_rfl) (.pointer (some ⟨b, off + k * 13, none⟩)) (ev_index 22 43 (.tmp 44) (.tmp 45) rfl b off len cap k 13 .i64 rfl rfl hlt Try.underlying22 (by kernel_rfl) (off + k * 13) (by omega)) ?_
          simp only [Act.put, List.setIfInBounds_toArray, List.set_cons_zero, List.set_cons_succ]
          refine dw_val (by kernel_rfl) (.agg #[(.bool ((R k).acc) : Value), .int .i64 ((R k).side), .string ((R k).fb), .int .i64 ((R k).fn), .string ((R k).tb), .int .i64 ((R k).tn), .int .i64 ((R k).s0), .int .i64 ((R k).s1), .int .i64 ((R k).d0), .int .i64 ((R k).d1), .int .i64 ((R k).mask), .int .i64 ((R k).flags), .int .i64 ((R k).classes)]) (ev_row 43 (.tmp 46) rfl b (off + k * 13) rfl (R k).cs (rules_range (hR.keep hT0) hlt) _ Try.underlying43 rfl (by kernel_rfl)) ?_
          simp only [Act.put, List.setIfInBounds_toArray, List.set_cons_zero, List.set_cons_succ]
          refine dw_newSlice (by kernel_rfl) [(.bool ((R k).acc) : Value), .int .i64 ((R k).side), .string ((R k).fb), .int .i64 ((R k).fn), .string ((R k).tb), .int .i64 ((R k).tn), .int .i64 ((R k).s0), .int .i64 ((R k).s1), .int .i64 ((R k).d0), .int .i64 ((R k).d1), .int .i64 ((R k).mask), .int .i64 ((R k).flags), .int .i64 ((R k).classes)] 43 1 (by kernel_rfl) ?_
          intro n11 w12 hnn11 hsn11 hBn11 hTn11
          have hnen1n11 : n1 ≠ n11 := by have := hBn1.lt; omega
          have hgen11 : w.heap.size ≤ n11 := by have := hT0.size; omega
          replace hBn1 := hBn1.keep hTn11 (fun h => h)
          replace hn5 := hn5.keep hTn11 (fun _ _ h => h)
          replace hown := own_keepG hown hTn11 (fun _ _ h => h)
          replace hBs := Nat.le_trans hBs hTn11.size
          replace hT0 := hT0.trans hTn11 (fun _ _ h => h.elim)
          simp only [Act.put, List.setIfInBounds_toArray, List.set_cons_zero, List.set_cons_succ]
          refine dw_append rfl (.tmp 43) (.tmp 48) 22 rfl B 43 i0 (.agg #[.bool false, .int .i64 0, .string ⟨#[]⟩, .int .i64 0, .string ⟨#[]⟩, .int .i64 0, .int .i64 0, .int .i64 0, .int .i64 0, .int .i64 0, .int .i64 0, .int .i64 0, .int .i64 0]) 13 120 Try.underlying22 hi hz0 hz1 hz2 rfl (by decide) (v) _ _ rfl hown n11 1 1 (R k).cs 43 rfl rfl hBn11 rfl (by unfold maxLen; omega) (by omega) hBs ?_
          intro v2 w2a hown2 ht2 hg2
          clear hBn11
          replace hBn1 := hBn1.keep ht2 (by intro h; have := hg2 _ h; omega)
          replace hn5 := hn5.keep ht2 (by intro g hg h; have := hg2 _ h; omega)
          replace hBs := Nat.le_trans hBs ht2.size
          clear hown; have hown := hown2; clear hown2
          replace hT0 := hT0.trans ht2 (fun i hi h => by have := hg2 i h; omega)
          simp only [Act.put, List.setIfInBounds_toArray, List.set_cons_zero, List.set_cons_succ]
          refine dw_val (by kernel_rfl) (v2) (by kernel_rfl) ?_
          simp only [Act.put, List.setIfInBounds_toArray, List.set_cons_zero, List.set_cons_succ]
          refine wl_nil ?_
          refine hK20 _ _ ?_
          refine wl_region ?_
          refine dw_val (by kernel_rfl) (.int .i64 (k : Int)) (by kernel_rfl) ?_
          simp only [Act.put, List.setIfInBounds_toArray, List.set_cons_zero, List.set_cons_succ]
          refine dw_val2 (by kernel_rfl) (.int .i64 (IntKind.i64.wrap ((k : Int) + 1))) (.int .i64 ((k + 1 : Nat) : Int)) (by kernel_rfl) (by rw [show IntKind.i64.wrap ((k : Int) + 1) = ((k + 1 : Nat) : Int) from by rw [IntWalk.i64_in _ (by omega)]; rfl]) ?_
          simp only [Act.put, List.setIfInBounds_toArray, List.set_cons_zero, List.set_cons_succ]
          refine dw_val (by kernel_rfl) (.int .i64 ((k + 1 : Nat) : Int)) (by kernel_rfl) ?_
          simp only [Act.put, List.setIfInBounds_toArray, List.set_cons_zero, List.set_cons_succ]
          refine wl_nil ?_
          refine then_normal ?_
          refine ⟨⟨(k + 1), v2, ((shadL R k).length), (.int .i64 (k : Int)), (.slice (some ⟨b, off, none⟩) len cap), (.int .i64 (len : Int)), (.bool true), (.int .i64 (((shadL R k).length : Nat) : Int)), (.slice ad5 (shadL R len).length cap5), (.int .i64 ((shadL R len).length : Int)), (.bool true), (.bool true), (.slice ad5 (shadL R len).length cap5), (.int .i64 (((shadL R k).length : Nat) : Int)), (.pointer (some ⟨g5, (shadL R k).length, none⟩)), (.int .i64 ((shadL R len).getD (shadL R k).length 0)), (.int .i64 (k : Int)), (.bool false), (.bool false), u38_0, u39_0, u40_0, u41_0, u42_0, u4_0, v, (.slice (some ⟨b, off, none⟩) len cap), (.int .i64 (k : Int)), (.pointer (some ⟨b, off + k * 13, none⟩)), (.agg #[(.bool ((R k).acc) : Value), .int .i64 ((R k).side), .string ((R k).fb), .int .i64 ((R k).fn), .string ((R k).tb), .int .i64 ((R k).tn), .int .i64 ((R k).s0), .int .i64 ((R k).s1), .int .i64 ((R k).d0), .int .i64 ((R k).d1), .int .i64 ((R k).mask), .int .i64 ((R k).flags), .int .i64 ((R k).classes)]), (.slice (some ⟨n11, 0, none⟩) 1 1), v2, (.int .i64 (k : Int)), (.int .i64 ((k + 1 : Nat) : Int)), (by rw [shadL_no hsh]), (by omega), (by omega), hn5, (by rw [keepR_no hsh, kcells_no hsh, List.length_append]; exact hown), hBs, hBn1, hT0, rfl⟩, ?_⟩
          simp [intOf]; omega
        · skip
          refine wp_seq_k fun K23 hK23 => ?_
          refine wp_seq_k fun K24 hK24 => ?_
          refine wl_region ?_
          refine dw_val (by kernel_rfl) (.int .i64 (k : Int)) (by kernel_rfl) ?_
          simp only [Act.put, List.setIfInBounds_toArray, List.set_cons_zero, List.set_cons_succ]
          refine dw_val (by kernel_rfl) (.slice (some ⟨b, off, none⟩) len cap) (by kernel_rfl) ?_
          simp only [Act.put, List.setIfInBounds_toArray, List.set_cons_zero, List.set_cons_succ]
          refine dw_val (by kernel_rfl) (.int .i64 (len : Int)) (by kernel_rfl) ?_
          simp only [Act.put, List.setIfInBounds_toArray, List.set_cons_zero, List.set_cons_succ]
          refine dw_bool (by kernel_rfl) (decide ((k : Int) < (len : Int))) (by kernel_rfl) (fun hc => ?_) (fun hc => absurd hc (by simp; omega))
          simp only [Act.put, List.setIfInBounds_toArray, List.set_cons_zero, List.set_cons_succ]
          refine wl_nil ?_
          refine hK24 _ _ ?_
          refine wp_cond_true rfl ?_
          refine wp_skip ?_
          refine hK23 _ _ ?_
          refine wp_seq_k fun K25 hK25 => ?_
          refine wp_block ?_
          refine wp_seq_k fun K26 hK26 => ?_
          refine wp_seq_k fun K27 hK27 => ?_
          refine wl_region ?_
          refine dw_val (by kernel_rfl) (.int .i64 (((shadL R k).length : Nat) : Int)) (by kernel_rfl) ?_
          simp only [Act.put, List.setIfInBounds_toArray, List.set_cons_zero, List.set_cons_succ]
          refine dw_val (by kernel_rfl) (.slice ad5 (shadL R len).length cap5) (by kernel_rfl) ?_
          simp only [Act.put, List.setIfInBounds_toArray, List.set_cons_zero, List.set_cons_succ]
          refine dw_val (by kernel_rfl) (.int .i64 ((shadL R len).length : Int)) (by kernel_rfl) ?_
          simp only [Act.put, List.setIfInBounds_toArray, List.set_cons_zero, List.set_cons_succ]
          refine dw_bool (by kernel_rfl) (decide ((((shadL R k).length : Nat) : Int) < ((shadL R len).length : Int))) (by kernel_rfl) (fun hc => absurd hc (by simp; omega)) (fun hc => ?_)
          simp only [Act.put, List.setIfInBounds_toArray, List.set_cons_zero, List.set_cons_succ]
          refine dw_val (by kernel_rfl) (.bool false) (by kernel_rfl) ?_
          simp only [Act.put, List.setIfInBounds_toArray, List.set_cons_zero, List.set_cons_succ]
          refine dw_no (by kernel_rfl) ?_
          simp only [Act.put, List.setIfInBounds_toArray, List.set_cons_zero, List.set_cons_succ]
          refine dw_no (by kernel_rfl) ?_
          simp only [Act.put, List.setIfInBounds_toArray, List.set_cons_zero, List.set_cons_succ]
          refine dw_no (by kernel_rfl) ?_
          simp only [Act.put, List.setIfInBounds_toArray, List.set_cons_zero, List.set_cons_succ]
          refine dw_no (by kernel_rfl) ?_
          simp only [Act.put, List.setIfInBounds_toArray, List.set_cons_zero, List.set_cons_succ]
          refine dw_no (by kernel_rfl) ?_
          simp only [Act.put, List.setIfInBounds_toArray, List.set_cons_zero, List.set_cons_succ]
          refine dw_no (by kernel_rfl) ?_
          simp only [Act.put, List.setIfInBounds_toArray, List.set_cons_zero, List.set_cons_succ]
          refine dw_val (by kernel_rfl) (.bool false) (by kernel_rfl) ?_
          simp only [Act.put, List.setIfInBounds_toArray, List.set_cons_zero, List.set_cons_succ]
          refine wl_nil ?_
          refine hK27 _ _ ?_
          refine wp_cond_false rfl ?_
          refine wp_skip ?_
          refine hK26 _ _ ?_
          refine wl_region ?_
          refine dw_val (by kernel_rfl) (v) (by kernel_rfl) ?_
          simp only [Act.put, List.setIfInBounds_toArray, List.set_cons_zero, List.set_cons_succ]
          refine dw_val (by kernel_rfl) (.slice (some ⟨b, off, none⟩) len cap) (by kernel_rfl) ?_
          simp only [Act.put, List.setIfInBounds_toArray, List.set_cons_zero, List.set_cons_succ]
          refine dw_val (by kernel_rfl) (.int .i64 (k : Int)) (by kernel_rfl) ?_
          simp only [Act.put, List.setIfInBounds_toArray, List.set_cons_zero, List.set_cons_succ]
          refine dw_val (by kernel_rfl) (.pointer (some ⟨b, off + k * 13, none⟩)) (ev_index 22 43 (.tmp 44) (.tmp 45) rfl b off len cap k 13 .i64 rfl rfl hlt Try.underlying22 (by kernel_rfl) (off + k * 13) (by omega)) ?_
          simp only [Act.put, List.setIfInBounds_toArray, List.set_cons_zero, List.set_cons_succ]
          refine dw_val (by kernel_rfl) (.agg #[(.bool ((R k).acc) : Value), .int .i64 ((R k).side), .string ((R k).fb), .int .i64 ((R k).fn), .string ((R k).tb), .int .i64 ((R k).tn), .int .i64 ((R k).s0), .int .i64 ((R k).s1), .int .i64 ((R k).d0), .int .i64 ((R k).d1), .int .i64 ((R k).mask), .int .i64 ((R k).flags), .int .i64 ((R k).classes)]) (ev_row 43 (.tmp 46) rfl b (off + k * 13) rfl (R k).cs (rules_range (hR.keep hT0) hlt) _ Try.underlying43 rfl (by kernel_rfl)) ?_
          simp only [Act.put, List.setIfInBounds_toArray, List.set_cons_zero, List.set_cons_succ]
          refine dw_newSlice (by kernel_rfl) [(.bool ((R k).acc) : Value), .int .i64 ((R k).side), .string ((R k).fb), .int .i64 ((R k).fn), .string ((R k).tb), .int .i64 ((R k).tn), .int .i64 ((R k).s0), .int .i64 ((R k).s1), .int .i64 ((R k).d0), .int .i64 ((R k).d1), .int .i64 ((R k).mask), .int .i64 ((R k).flags), .int .i64 ((R k).classes)] 43 1 (by kernel_rfl) ?_
          intro n13 w14 hnn13 hsn13 hBn13 hTn13
          have hnen1n13 : n1 ≠ n13 := by have := hBn1.lt; omega
          have hgen13 : w.heap.size ≤ n13 := by have := hT0.size; omega
          replace hBn1 := hBn1.keep hTn13 (fun h => h)
          replace hn5 := hn5.keep hTn13 (fun _ _ h => h)
          replace hown := own_keepG hown hTn13 (fun _ _ h => h)
          replace hBs := Nat.le_trans hBs hTn13.size
          replace hT0 := hT0.trans hTn13 (fun _ _ h => h.elim)
          simp only [Act.put, List.setIfInBounds_toArray, List.set_cons_zero, List.set_cons_succ]
          refine dw_append rfl (.tmp 43) (.tmp 48) 22 rfl B 43 i0 (.agg #[.bool false, .int .i64 0, .string ⟨#[]⟩, .int .i64 0, .string ⟨#[]⟩, .int .i64 0, .int .i64 0, .int .i64 0, .int .i64 0, .int .i64 0, .int .i64 0, .int .i64 0, .int .i64 0]) 13 120 Try.underlying22 hi hz0 hz1 hz2 rfl (by decide) (v) _ _ rfl hown n13 1 1 (R k).cs 43 rfl rfl hBn13 rfl (by unfold maxLen; omega) (by omega) hBs ?_
          intro v2 w2a hown2 ht2 hg2
          clear hBn13
          replace hBn1 := hBn1.keep ht2 (by intro h; have := hg2 _ h; omega)
          replace hn5 := hn5.keep ht2 (by intro g hg h; have := hg2 _ h; omega)
          replace hBs := Nat.le_trans hBs ht2.size
          clear hown; have hown := hown2; clear hown2
          replace hT0 := hT0.trans ht2 (fun i hi h => by have := hg2 i h; omega)
          simp only [Act.put, List.setIfInBounds_toArray, List.set_cons_zero, List.set_cons_succ]
          refine dw_val (by kernel_rfl) (v2) (by kernel_rfl) ?_
          simp only [Act.put, List.setIfInBounds_toArray, List.set_cons_zero, List.set_cons_succ]
          refine wl_nil ?_
          refine hK25 _ _ ?_
          refine wl_region ?_
          refine dw_val (by kernel_rfl) (.int .i64 (k : Int)) (by kernel_rfl) ?_
          simp only [Act.put, List.setIfInBounds_toArray, List.set_cons_zero, List.set_cons_succ]
          refine dw_val2 (by kernel_rfl) (.int .i64 (IntKind.i64.wrap ((k : Int) + 1))) (.int .i64 ((k + 1 : Nat) : Int)) (by kernel_rfl) (by rw [show IntKind.i64.wrap ((k : Int) + 1) = ((k + 1 : Nat) : Int) from by rw [IntWalk.i64_in _ (by omega)]; rfl]) ?_
          simp only [Act.put, List.setIfInBounds_toArray, List.set_cons_zero, List.set_cons_succ]
          refine dw_val (by kernel_rfl) (.int .i64 ((k + 1 : Nat) : Int)) (by kernel_rfl) ?_
          simp only [Act.put, List.setIfInBounds_toArray, List.set_cons_zero, List.set_cons_succ]
          refine wl_nil ?_
          refine then_normal ?_
          refine ⟨⟨(k + 1), v2, ((shadL R k).length), (.int .i64 (k : Int)), (.slice (some ⟨b, off, none⟩) len cap), (.int .i64 (len : Int)), (.bool true), (.int .i64 (((shadL R k).length : Nat) : Int)), (.slice ad5 (shadL R len).length cap5), (.int .i64 ((shadL R len).length : Int)), (.bool false), (.bool false), undef, undef, undef, undef, undef, undef, (.bool false), u38_0, u39_0, u40_0, u41_0, u42_0, u4_0, v, (.slice (some ⟨b, off, none⟩) len cap), (.int .i64 (k : Int)), (.pointer (some ⟨b, off + k * 13, none⟩)), (.agg #[(.bool ((R k).acc) : Value), .int .i64 ((R k).side), .string ((R k).fb), .int .i64 ((R k).fn), .string ((R k).tb), .int .i64 ((R k).tn), .int .i64 ((R k).s0), .int .i64 ((R k).s1), .int .i64 ((R k).d0), .int .i64 ((R k).d1), .int .i64 ((R k).mask), .int .i64 ((R k).flags), .int .i64 ((R k).classes)]), (.slice (some ⟨n13, 0, none⟩) 1 1), v2, (.int .i64 (k : Int)), (.int .i64 ((k + 1 : Nat) : Int)), (by rw [shadL_no hsh]), (by omega), (by omega), hn5, (by rw [keepR_no hsh, kcells_no hsh, List.length_append]; exact hown), hBs, hBn1, hT0, rfl⟩, ?_⟩
          simp [intOf]; omega
    · obtain rfl : k = len := by omega
      obtain ⟨ad7, cap7, rfl, hc71, hc72, hr7⟩ := own_rules43 (kcells_eq R k ▸ hown)
      refine wp_seq_k fun K28 hK28 => ?_
      refine wp_seq_k fun K29 hK29 => ?_
      refine wl_region ?_
      refine dw_val (by kernel_rfl) (.int .i64 (k : Int)) (by kernel_rfl) ?_
      simp only [Act.put, List.setIfInBounds_toArray, List.set_cons_zero, List.set_cons_succ]
      refine dw_val (by kernel_rfl) (.slice ad k cap) (by kernel_rfl) ?_
      simp only [Act.put, List.setIfInBounds_toArray, List.set_cons_zero, List.set_cons_succ]
      refine dw_val (by kernel_rfl) (.int .i64 (k : Int)) (by kernel_rfl) ?_
      simp only [Act.put, List.setIfInBounds_toArray, List.set_cons_zero, List.set_cons_succ]
      refine dw_bool (by kernel_rfl) (decide ((k : Int) < (k : Int))) (by kernel_rfl) (fun hc => absurd hc (by simp)) (fun hc => ?_)
      simp only [Act.put, List.setIfInBounds_toArray, List.set_cons_zero, List.set_cons_succ]
      refine wl_nil ?_
      refine hK29 _ _ ?_
      refine wp_cond_false rfl ?_
      refine wp_exit ?_
      refine hK8 _ _ ?_
      refine wp_seq_k fun K30 hK30 => ?_
      refine wq_region (Touch (fun _ => False) w10) (by kernel_rfl) (by kernel_rfl) (Touch.refl _ _).drew ?_
      refine dq_val (by kernel_rfl) (.slice ad7 (keepR R k).length cap7) (fun w' _ => by kernel_rfl) ?_
      simp only [Act.put, List.setIfInBounds_toArray, List.set_cons_zero, List.set_cons_succ]
      refine dq_val (by kernel_rfl) (.agg #[(.string a.src : Value), .string a.dst, .int .i64 a.from_, .int .i64 a.to_, .int .u32 a.seq, .int .u32 a.ack, .int .i64 a.flags, .int .i64 a.win, .int .i64 a.urg, .int .i64 a.mss, .int .i64 a.scale, .bool (a.sack), .slice a.ba a.bn a.bc, .bool (a.timed), .int .u32 a.time, .int .u32 a.echo, .string a.data, .int .i64 a.side, .int .i64 a.class_]) (fun w' hC => ev_row 34 (.tmp 3) rfl n1 0 rfl [(.string a.src : Value), .string a.dst, .int .i64 a.from_, .int .i64 a.to_, .int .u32 a.seq, .int .u32 a.ack, .int .i64 a.flags, .int .i64 a.win, .int .i64 a.urg, .int .i64 a.mss, .int .i64 a.scale, .bool (a.sack), .slice a.ba a.bn a.bc, .bool (a.timed), .int .u32 a.time, .int .u32 a.echo, .string a.data, .int .i64 a.side, .int .i64 a.class_] ((hBn1.keep hC (fun h => h)).range rfl) _ Try.underlying34 rfl (by kernel_rfl)) ?_
      simp only [Act.put, List.setIfInBounds_toArray, List.set_cons_zero, List.set_cons_succ]
      refine dq_ret (by kernel_rfl) 16 #[(.slice ad7 (keepR R k).length cap7 : Value), .agg #[(.string a.src : Value), .string a.dst, .int .i64 a.from_, .int .i64 a.to_, .int .u32 a.seq, .int .u32 a.ack, .int .i64 a.flags, .int .i64 a.win, .int .i64 a.urg, .int .i64 a.mss, .int .i64 a.scale, .bool (a.sack), .slice a.ba a.bn a.bc, .bool (a.timed), .int .u32 a.time, .int .u32 a.echo, .string a.data, .int .i64 a.side, .int .i64 a.class_]] (fun w' _ => by kernel_rfl) (fun w' hC => acc_rest a hla2 ▸ accepts_any ad7 (keepR R k).length cap7 (restR R k) a w' (RulesAt.keep hr7 (by assumption)) (by omega) (rest_small hsm) hsrc hdst) (fun w1 w2 hC hb => hC.trans (Touch.none hb) (fun _ _ h => h)) ?_
      simp only [Act.put, List.setIfInBounds_toArray, List.set_cons_zero, List.set_cons_succ]
      refine dq_val (by kernel_rfl) (.slice ad k cap) (fun w' _ => by kernel_rfl) ?_
      simp only [Act.put, List.setIfInBounds_toArray, List.set_cons_zero, List.set_cons_succ]
      refine dq_val (by kernel_rfl) (.agg #[(.string a.src : Value), .string a.dst, .int .i64 a.from_, .int .i64 a.to_, .int .u32 a.seq, .int .u32 a.ack, .int .i64 a.flags, .int .i64 a.win, .int .i64 a.urg, .int .i64 a.mss, .int .i64 a.scale, .bool (a.sack), .slice a.ba a.bn a.bc, .bool (a.timed), .int .u32 a.time, .int .u32 a.echo, .string a.data, .int .i64 a.side, .int .i64 a.class_]) (fun w' hC => ev_row 34 (.tmp 3) rfl n1 0 rfl [(.string a.src : Value), .string a.dst, .int .i64 a.from_, .int .i64 a.to_, .int .u32 a.seq, .int .u32 a.ack, .int .i64 a.flags, .int .i64 a.win, .int .i64 a.urg, .int .i64 a.mss, .int .i64 a.scale, .bool (a.sack), .slice a.ba a.bn a.bc, .bool (a.timed), .int .u32 a.time, .int .u32 a.echo, .string a.data, .int .i64 a.side, .int .i64 a.class_] ((hBn1.keep hC (fun h => h)).range rfl) _ Try.underlying34 rfl (by kernel_rfl)) ?_
      simp only [Act.put, List.setIfInBounds_toArray, List.set_cons_zero, List.set_cons_succ]
      refine dq_ret (by kernel_rfl) 16 #[(.slice ad k cap : Value), .agg #[(.string a.src : Value), .string a.dst, .int .i64 a.from_, .int .i64 a.to_, .int .u32 a.seq, .int .u32 a.ack, .int .i64 a.flags, .int .i64 a.win, .int .i64 a.urg, .int .i64 a.mss, .int .i64 a.scale, .bool (a.sack), .slice a.ba a.bn a.bc, .bool (a.timed), .int .u32 a.time, .int .u32 a.echo, .string a.data, .int .i64 a.side, .int .i64 a.class_]] (fun w' _ => by kernel_rfl) (fun w' hC => accepts_any ad k cap R a w' (hR.keep (hT0.trans (by assumption) (fun _ _ h => h))) hcl hsm hsrc hdst) (fun w1 w2 hC hb => hC.trans (Touch.none hb) (fun _ _ h => h)) ?_
      simp only [Act.put, List.setIfInBounds_toArray, List.set_cons_zero, List.set_cons_succ]
      refine dq_bool (by kernel_rfl) ((accB R a k) == (accB R a k)) (fun w' _ => by kernel_rfl) (fun hc => ?_) (fun hc => absurd hc (by simp))
      simp only [Act.put, List.setIfInBounds_toArray, List.set_cons_zero, List.set_cons_succ]
      refine dq_val (by kernel_rfl) (.bool true) (fun w' _ => by kernel_rfl) ?_
      simp only [Act.put, List.setIfInBounds_toArray, List.set_cons_zero, List.set_cons_succ]
      refine dq_val (by kernel_rfl) (.slice ad7 (keepR R k).length cap7) (fun w' _ => by kernel_rfl) ?_
      simp only [Act.put, List.setIfInBounds_toArray, List.set_cons_zero, List.set_cons_succ]
      refine dq_val (by kernel_rfl) (.int .i64 ((keepR R k).length : Int)) (fun w' _ => by kernel_rfl) ?_
      simp only [Act.put, List.setIfInBounds_toArray, List.set_cons_zero, List.set_cons_succ]
      refine dq_val (by kernel_rfl) (.slice ad5 (shadL R k).length cap5) (fun w' _ => by kernel_rfl) ?_
      simp only [Act.put, List.setIfInBounds_toArray, List.set_cons_zero, List.set_cons_succ]
      refine dq_val (by kernel_rfl) (.int .i64 ((shadL R k).length : Int)) (fun w' _ => by kernel_rfl) ?_
      simp only [Act.put, List.setIfInBounds_toArray, List.set_cons_zero, List.set_cons_succ]
      refine dq_val (by kernel_rfl) (.int .i64 (k : Int)) (fun w' _ => (show _ = Result.ok (.value (.int .i64 (IntKind.i64.wrap (((keepR R k).length : Int) + ((shadL R k).length : Int))))) w' from by kernel_rfl).trans (by rw [show IntKind.i64.wrap (((keepR R k).length : Int) + ((shadL R k).length : Int)) = (k : Int) from by rw [IntWalk.i64_in _ (by omega)]; omega])) ?_
      simp only [Act.put, List.setIfInBounds_toArray, List.set_cons_zero, List.set_cons_succ]
      refine dq_val (by kernel_rfl) (.slice ad k cap) (fun w' _ => by kernel_rfl) ?_
      simp only [Act.put, List.setIfInBounds_toArray, List.set_cons_zero, List.set_cons_succ]
      refine dq_val (by kernel_rfl) (.int .i64 (k : Int)) (fun w' _ => by kernel_rfl) ?_
      simp only [Act.put, List.setIfInBounds_toArray, List.set_cons_zero, List.set_cons_succ]
      refine dq_bool (by kernel_rfl) ((k : Int) == (k : Int)) (fun w' _ => by kernel_rfl) (fun hc => ?_) (fun hc => absurd hc (by simp))
      simp only [Act.put, List.setIfInBounds_toArray, List.set_cons_zero, List.set_cons_succ]
      refine dq_val (by kernel_rfl) (.bool true) (fun w' _ => by kernel_rfl) ?_
      simp only [Act.put, List.setIfInBounds_toArray, List.set_cons_zero, List.set_cons_succ]
      refine dq_val (by kernel_rfl) (.bool true) (fun w' _ => by kernel_rfl) ?_
      simp only [Act.put, List.setIfInBounds_toArray, List.set_cons_zero, List.set_cons_succ]
      refine dq_ret (by kernel_rfl) 9 #[] (fun w' _ => by kernel_rfl) (fun w' hC => known_any w') (fun w1 w2 hC hb => hC.trans (Touch.none hb) (fun _ _ h => h)) ?_
      simp only [Act.put, List.setIfInBounds_toArray, List.set_cons_zero, List.set_cons_succ]
      refine dq_val (by kernel_rfl) (.bool true) (fun w' _ => by kernel_rfl) ?_
      simp only [Act.put, List.setIfInBounds_toArray, List.set_cons_zero, List.set_cons_succ]
      refine dq_val (by kernel_rfl) (.bool true) (fun w' _ => by kernel_rfl) ?_
      simp only [Act.put, List.setIfInBounds_toArray, List.set_cons_zero, List.set_cons_succ]
      refine wq_nil ?_
      intro w15 hT16
      replace hBn1 := hBn1.keep hT16 (fun h => h)
      replace hn5 := hn5.keep hT16 (fun _ _ h => h)
      replace hown := own_keepG hown hT16 (fun _ _ h => h)
      replace hBs := Nat.le_trans hBs hT16.size
      replace hT0 := hT0.trans hT16 (fun _ _ h => h.elim)
      refine hK30 _ _ ?_
      refine wp_ret ?_
      repeat (first | with_reducible refine ret_then ?_ | with_reducible refine ret_block ?_)
      refine bodyPost_ret (v := .bool true) (by kernel_rfl) rfl ?_
      exact ⟨rfl, hT0.toBelow⟩
theorem matchShadows_walk {w : World} (ad : Option Addr) (len cap : Nat) (w0 : RowIn Try.prog w 43 13 ad len ∧ len ≤ cap ∧ cap ≤ maxLen)
    (cs1 : Array Value) (n1 : cs1.size = Try.prog.cellsOf 34) (w1 : ∀ o ty, (o, ty) ∈ leavesAt Try.prog 9 34 → ∃ v, cs1.toList[o]? = some v ∧ leafOk Try.prog ty v) :
    Calls Try.prog 5 #[.slice ad len cap, .agg cs1] w fun e w' => e = .returned (.bool true) ∧ Below w.heap.size w w' := by
  obtain ⟨R, hR⟩ := rules_of w0.1
  obtain ⟨a, rfl⟩ := ask_agg n1 w1
  have hcl : len ≤ 9223372036854775807 := by have := w0.2; unfold maxLen at this; omega
  cases hl : lightB R len a with
  | false => exact shadows_dark ad len cap R a w hR hcl hl
  | true =>
    obtain ⟨h60, hla, hsm, hsrc, hdst⟩ := light_parts hl
    exact shadows_light ad len cap R a w hR w0.2.1 w0.2.2 hcl hl h60 (fun i hi => right_of (hla i hi)) hsm hsrc hdst
end Go.Proofs.Ytolkimdfnlfpbaa
