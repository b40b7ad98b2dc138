/- What the reference's First, Accepts and Covers answer. Conditions: the rules stand there, and are right. -/
import Derived.Test.YtolkimdfnlfpbaaV
import Derived.Test.YtolkimdfnlfpbaaDw
import Derived.Test.YtolkimdfnlfpbaaXA
set_option linter.unusedVariables false
set_option linter.unusedSimpArgs false
namespace Go.Proofs.Ytolkimdfnlfpbaa
open Go.RowKit
theorem lightR_facts {r : Rl} (h : lightR r = true) : r.fb.size ≤ 100 ∧ r.tb.size ≤ 100 ∧ 1 ≤ r.classes ∧ r.classes ≤ 15 := by
  unfold lightR rightR at h
  simp only [Bool.and_eq_true, decide_eq_true_eq] at h
  obtain ⟨⟨h1, h2⟩, h3⟩ := h
  exact ⟨h1, h2, h3.2.2.1, h3.2.2.2⟩
def LightAll (R : Nat → Rl) (len : Nat) : Prop := ∀ i, i < len → lightR (R i) = true
theorem rules_range {w : World} {b off len i : Nat} {R : Nat → Rl} (h : RulesAt w (some ⟨b, off, none⟩) len R) (hi : i < len) : w.rangeAt b (off + i * 13) (R i).cs := by
  obtain ⟨b', off', hab, _, hc⟩ := h i hi
  simp only [Option.some.injEq, Addr.mk.injEq, and_true] at hab
  obtain ⟨rfl, rfl⟩ := hab
  exact hc
set_option maxRecDepth 100000 in
set_option maxHeartbeats 4000000 in
theorem rfirst_any (ad : Option Addr) (len cap : Nat) (R : Nat → Rl) (a : Ak) (w : World) (hR : RulesAt w ad len R) (hcap : len ≤ 9223372036854775807) (hl : LightAll R len) (hsrc : a.src.size ≤ 100) (hdst : a.dst.size ≤ 100) :
    Calls Try.prog 14 #[.slice ad len cap, .agg #[.string a.src, .string a.dst, .int .i64 a.from_, .int .i64 a.to_, .int .u32 a.seq, .int .u32 a.ack, .int .i64 a.flags, .int .i64 a.win, .int .i64 a.urg, .int .i64 a.mss, .int .i64 a.scale, .bool (a.sack), .slice a.ba a.bn a.bc, .bool (a.timed), .int .u32 a.time, .int .u32 a.echo, .string a.data, .int .i64 a.side, .int .i64 a.class_]] w fun e w' => e = .returned (.int .i64 (firstI R a len)) ∧ Below w.heap.size w w' := by
  have hT0 := Touch.refl (fun _ => False) w
  go_enter Try.func14, Try.ntmps14
  refine wp_seq_k fun K1 hK1 => ?_
  refine wl_region ?_
  refine dw_new (by kernel_rfl) [(.string a.src : Value), .string a.dst, .int .i64 a.from_, .int .i64 a.to_, .int .u32 a.seq, .int .u32 a.ack, .int .i64 a.flags, .int .i64 a.win, .int .i64 a.urg, .int .i64 a.mss, .int .i64 a.scale, .bool (a.sack), .slice a.ba a.bn a.bc, .bool (a.timed), .int .u32 a.time, .int .u32 a.echo, .string a.data, .int .i64 a.side, .int .i64 a.class_] 37 (by kernel_rfl) ?_
  intro n1 w2 hnn1 hsn1 hBn1 hTn1
  have hgen1 : w.heap.size ≤ n1 := by have := hT0.size; omega
  replace hT0 := hT0.trans hTn1 (fun _ _ h => h.elim)
  simp only [Act.put, List.setIfInBounds_toArray, List.set_cons_zero, List.set_cons_succ]
  refine dw_val (by kernel_rfl) (.int .i64 0) (by kernel_rfl) ?_
  simp only [Act.put, List.setIfInBounds_toArray, List.set_cons_zero, List.set_cons_succ]
  refine wl_nil ?_
  refine hK1 _ _ ?_
  refine wp_seq_k fun K2 hK2 => ?_
  refine wp_seq_k fun K3 hK3 => ?_
  refine wl_region ?_
  refine dw_val (by kernel_rfl) (.int .i64 0) (by kernel_rfl) ?_
  simp only [Act.put, List.setIfInBounds_toArray, List.set_cons_zero, List.set_cons_succ]
  refine wl_nil ?_
  refine hK3 _ _ ?_
  refine wp_block ?_
  refine wp_loop (fun (aL : Act) (wL : World) => ∃ (k : Nat), ∃ (u6_0 u7_0 u8_0 u9_0 u12_0 u13_0 u14_0 u15_0 u16_0 u17_0 u18_0 u4_0 u10_0 u11_0 : Value), (k ≤ len) ∧ (∀ j, j < k → oneB (R j) a = false) ∧ Blk wL n1 [(.string a.src : Value), .string a.dst, .int .i64 a.from_, .int .i64 a.to_, .int .u32 a.seq, .int .u32 a.ack, .int .i64 a.flags, .int .i64 a.win, .int .i64 a.urg, .int .i64 a.mss, .int .i64 a.scale, .bool (a.sack), .slice a.ba a.bn a.bc, .bool (a.timed), .int .u32 a.time, .int .u32 a.echo, .string a.data, .int .i64 a.side, .int .i64 a.class_] 37 ∧ Touch (fun _ => False) w wL ∧ aL = ⟨#[(.slice ad len cap : Value), .agg #[(.string a.src : Value), .string a.dst, .int .i64 a.from_, .int .i64 a.to_, .int .u32 a.seq, .int .u32 a.ack, .int .i64 a.flags, .int .i64 a.win, .int .i64 a.urg, .int .i64 a.mss, .int .i64 a.scale, .bool (a.sack), .slice a.ba a.bn a.bc, .bool (a.timed), .int .u32 a.time, .int .u32 a.echo, .string a.data, .int .i64 a.side, .int .i64 a.class_], undef, .pointer (some ⟨n1, 0, none⟩), u4_0, .int .i64 (k : Int), u6_0, u7_0, u8_0, u9_0, u10_0, u11_0, u12_0, u13_0, u14_0, u15_0, u16_0, u17_0, u18_0], []⟩) (fun (aL : Act) (wL : World) => len - (intOf (aL.tmps.getD 5 undef)).toNat) ?_ ?_
  · exact ⟨0, undef, undef, undef, undef, undef, undef, undef, undef, undef, undef, undef, (.int .i64 0), undef, undef, (Nat.zero_le _), (fun j h => by omega), hBn1, hT0, rfl⟩
  · intro aL w3 hI
    clear hBn1 hT0
    obtain ⟨k, u6_0, u7_0, u8_0, u9_0, u12_0, u13_0, u14_0, u15_0, u16_0, u17_0, u18_0, u4_0, u10_0, u11_0, hk, hz, hBn1, hT0, rfl⟩ := hI
    by_cases hlt : k < len
    · obtain ⟨b, off, hab, hbs, -⟩ := hR k hlt
      subst hab
      have hf := lightR_facts (hl k hlt)
      refine wp_seq_k fun K4 hK4 => ?_
      refine wp_seq_k fun K5 hK5 => ?_
      refine wl_region ?_
      refine dw_val (by kernel_rfl) (.int .i64 (k : Int)) (by kernel_rfl) ?_
      simp only [Act.put, List.setIfInBounds_toArray, List.set_cons_zero, List.set_cons_succ]
      refine dw_val (by kernel_rfl) (.slice (some ⟨b, off, none⟩) len cap) (by kernel_rfl) ?_
      simp only [Act.put, List.setIfInBounds_toArray, List.set_cons_zero, List.set_cons_succ]
      refine dw_val (by kernel_rfl) (.int .i64 (len : Int)) (by kernel_rfl) ?_
      simp only [Act.put, List.setIfInBounds_toArray, List.set_cons_zero, List.set_cons_succ]
      refine dw_bool (by kernel_rfl) (decide ((k : Int) < (len : Int))) (by kernel_rfl) (fun hc => ?_) (fun hc => absurd hc (by simp; omega))
      simp only [Act.put, List.setIfInBounds_toArray, List.set_cons_zero, List.set_cons_succ]
      refine wl_nil ?_
      refine hK5 _ _ ?_
      refine wp_cond_true rfl ?_
      refine wp_skip ?_
      refine hK4 _ _ ?_
      refine wp_seq_k fun K6 hK6 => ?_
      refine wp_block ?_
      refine wp_seq_k fun K7 hK7 => ?_
      refine wq_region (Touch (fun _ => False) w3) (by kernel_rfl) (by kernel_rfl) (Touch.refl _ _).drew ?_
      refine dq_val (by kernel_rfl) (.slice (some ⟨b, off, none⟩) len cap) (fun w' _ => by kernel_rfl) ?_
      simp only [Act.put, List.setIfInBounds_toArray, List.set_cons_zero, List.set_cons_succ]
      refine dq_val (by kernel_rfl) (.int .i64 (k : Int)) (fun w' _ => by kernel_rfl) ?_
      simp only [Act.put, List.setIfInBounds_toArray, List.set_cons_zero, List.set_cons_succ]
      refine dq_val (by kernel_rfl) (.pointer (some ⟨b, off + k * 13, none⟩)) (fun w' _ => ev_index 49 45 (.tmp 12) (.tmp 13) rfl b off len cap k 13 .i64 rfl rfl hlt Try.underlying49 (by kernel_rfl) (off + k * 13) (by omega)) ?_
      simp only [Act.put, List.setIfInBounds_toArray, List.set_cons_zero, List.set_cons_succ]
      refine dq_val (by kernel_rfl) (.agg #[(.bool ((R k).acc) : Value), .int .i64 ((R k).side), .string ((R k).fb), .int .i64 ((R k).fn), .string ((R k).tb), .int .i64 ((R k).tn), .int .i64 ((R k).s0), .int .i64 ((R k).s1), .int .i64 ((R k).d0), .int .i64 ((R k).d1), .int .i64 ((R k).mask), .int .i64 ((R k).flags), .int .i64 ((R k).classes)]) (fun w' hC => ev_row 45 (.tmp 14) rfl b (off + k * 13) rfl (R k).cs (rules_range ((hR.keep hT0).keep hC) hlt) _ Try.underlying45 rfl (by kernel_rfl)) ?_
      simp only [Act.put, List.setIfInBounds_toArray, List.set_cons_zero, List.set_cons_succ]
      refine dq_val (by kernel_rfl) (.agg #[(.string a.src : Value), .string a.dst, .int .i64 a.from_, .int .i64 a.to_, .int .u32 a.seq, .int .u32 a.ack, .int .i64 a.flags, .int .i64 a.win, .int .i64 a.urg, .int .i64 a.mss, .int .i64 a.scale, .bool (a.sack), .slice a.ba a.bn a.bc, .bool (a.timed), .int .u32 a.time, .int .u32 a.echo, .string a.data, .int .i64 a.side, .int .i64 a.class_]) (fun w' hC => ev_row 37 (.tmp 3) rfl n1 0 rfl [(.string a.src : Value), .string a.dst, .int .i64 a.from_, .int .i64 a.to_, .int .u32 a.seq, .int .u32 a.ack, .int .i64 a.flags, .int .i64 a.win, .int .i64 a.urg, .int .i64 a.mss, .int .i64 a.scale, .bool (a.sack), .slice a.ba a.bn a.bc, .bool (a.timed), .int .u32 a.time, .int .u32 a.echo, .string a.data, .int .i64 a.side, .int .i64 a.class_] ((hBn1.keep hC (fun h => h)).range rfl) _ Try.underlying37 rfl (by kernel_rfl)) ?_
      simp only [Act.put, List.setIfInBounds_toArray, List.set_cons_zero, List.set_cons_succ]
      refine dq_ret (by kernel_rfl) 11 #[(.agg #[(.bool ((R k).acc) : Value), .int .i64 ((R k).side), .string ((R k).fb), .int .i64 ((R k).fn), .string ((R k).tb), .int .i64 ((R k).tn), .int .i64 ((R k).s0), .int .i64 ((R k).s1), .int .i64 ((R k).d0), .int .i64 ((R k).d1), .int .i64 ((R k).mask), .int .i64 ((R k).flags), .int .i64 ((R k).classes)] : Value), .agg #[(.string a.src : Value), .string a.dst, .int .i64 a.from_, .int .i64 a.to_, .int .u32 a.seq, .int .u32 a.ack, .int .i64 a.flags, .int .i64 a.win, .int .i64 a.urg, .int .i64 a.mss, .int .i64 a.scale, .bool (a.sack), .slice a.ba a.bn a.bc, .bool (a.timed), .int .u32 a.time, .int .u32 a.echo, .string a.data, .int .i64 a.side, .int .i64 a.class_]] (fun w' _ => by kernel_rfl) (fun w' hC => rone_any (R k) a hf.2.2.1 hf.2.2.2 hf.1 hf.2.1 hsrc hdst w') (fun w1 w2 hC hb => hC.trans (Touch.none hb) (fun _ _ h => h)) ?_
      simp only [Act.put, List.setIfInBounds_toArray, List.set_cons_zero, List.set_cons_succ]
      refine wq_nil ?_
      intro w4 hT5
      replace hBn1 := hBn1.keep hT5 (fun h => h)
      replace hT0 := hT0.trans hT5 (fun _ _ h => h.elim)
      refine hK7 _ _ ?_
      refine wp_cond_split (t := oneB (R k) a) rfl (fun c6 => ?_) (fun c6 => ?_)
      · skip
        refine wp_seq_k fun K8 hK8 => ?_
        refine wl_region ?_
        refine dw_val (by kernel_rfl) (.int .i64 (k : Int)) (by kernel_rfl) ?_
        simp only [Act.put, List.setIfInBounds_toArray, List.set_cons_zero, List.set_cons_succ]
        refine dw_val (by kernel_rfl) (.int .i64 (k : Int)) (by kernel_rfl) ?_
        simp only [Act.put, List.setIfInBounds_toArray, List.set_cons_zero, List.set_cons_succ]
        refine wl_nil ?_
        refine hK8 _ _ ?_
        refine wp_ret ?_
        repeat (first | with_reducible refine ret_then ?_ | with_reducible refine ret_block ?_)
        refine bodyPost_ret (v := .int .i64 (k : Int)) (by kernel_rfl) rfl ?_
        exact ⟨ret_int (firstI_some hlt hz c6).symm, hT0.toBelow⟩
      · skip
        refine wp_skip ?_
        refine hK6 _ _ ?_
        refine wl_region ?_
        refine dw_val (by kernel_rfl) (.int .i64 (k : Int)) (by kernel_rfl) ?_
        simp only [Act.put, List.setIfInBounds_toArray, List.set_cons_zero, List.set_cons_succ]
        refine dw_val2 (by kernel_rfl) (.int .i64 (IntKind.i64.wrap ((k : Int) + 1))) (.int .i64 ((k + 1 : Nat) : Int)) (by kernel_rfl) (by rw [show IntKind.i64.wrap ((k : Int) + 1) = ((k + 1 : Nat) : Int) from by rw [IntWalk.i64_in _ (by omega)]; rfl]) ?_
        simp only [Act.put, List.setIfInBounds_toArray, List.set_cons_zero, List.set_cons_succ]
        refine dw_val (by kernel_rfl) (.int .i64 ((k + 1 : Nat) : Int)) (by kernel_rfl) ?_
        simp only [Act.put, List.setIfInBounds_toArray, List.set_cons_zero, List.set_cons_succ]
        refine wl_nil ?_
        refine then_normal ?_
        refine ⟨⟨(k + 1), (.int .i64 (k : Int)), (.slice (some ⟨b, off, none⟩) len cap), (.int .i64 (len : Int)), (.bool true), (.slice (some ⟨b, off, none⟩) len cap), (.int .i64 (k : Int)), (.pointer (some ⟨b, off + k * 13, none⟩)), (.agg #[(.bool ((R k).acc) : Value), .int .i64 ((R k).side), .string ((R k).fb), .int .i64 ((R k).fn), .string ((R k).tb), .int .i64 ((R k).tn), .int .i64 ((R k).s0), .int .i64 ((R k).s1), .int .i64 ((R k).d0), .int .i64 ((R k).d1), .int .i64 ((R k).mask), .int .i64 ((R k).flags), .int .i64 ((R k).classes)]), (.agg #[(.string a.src : Value), .string a.dst, .int .i64 a.from_, .int .i64 a.to_, .int .u32 a.seq, .int .u32 a.ack, .int .i64 a.flags, .int .i64 a.win, .int .i64 a.urg, .int .i64 a.mss, .int .i64 a.scale, .bool (a.sack), .slice a.ba a.bn a.bc, .bool (a.timed), .int .u32 a.time, .int .u32 a.echo, .string a.data, .int .i64 a.side, .int .i64 a.class_]), (.bool (oneB (R k) a)), u18_0, u4_0, (.int .i64 (k : Int)), (.int .i64 ((k + 1 : Nat) : Int)), (by omega), (fun j hj => if e : j = k then (by rw [e]; exact c6) else hz j (by omega)), hBn1, hT0, rfl⟩, ?_⟩
        simp [intOf]; omega
    · have hge : ¬ k < len := hlt
      refine wp_seq_k fun K9 hK9 => ?_
      refine wp_seq_k fun K10 hK10 => ?_
      refine wl_region ?_
      refine dw_val (by kernel_rfl) (.int .i64 (k : Int)) (by kernel_rfl) ?_
      simp only [Act.put, List.setIfInBounds_toArray, List.set_cons_zero, List.set_cons_succ]
      refine dw_val (by kernel_rfl) (.slice ad len cap) (by kernel_rfl) ?_
      simp only [Act.put, List.setIfInBounds_toArray, List.set_cons_zero, List.set_cons_succ]
      refine dw_val (by kernel_rfl) (.int .i64 (len : Int)) (by kernel_rfl) ?_
      simp only [Act.put, List.setIfInBounds_toArray, List.set_cons_zero, List.set_cons_succ]
      refine dw_bool (by kernel_rfl) (decide ((k : Int) < (len : Int))) (by kernel_rfl) (fun hc => absurd hc (by simp; omega)) (fun hc => ?_)
      simp only [Act.put, List.setIfInBounds_toArray, List.set_cons_zero, List.set_cons_succ]
      refine wl_nil ?_
      refine hK10 _ _ ?_
      refine wp_cond_false rfl ?_
      refine wp_exit ?_
      refine hK2 _ _ ?_
      refine wp_seq_k fun K11 hK11 => ?_
      refine wl_region ?_
      refine dw_val (by kernel_rfl) (.int .i64 (-1)) (by kernel_rfl) ?_
      simp only [Act.put, List.setIfInBounds_toArray, List.set_cons_zero, List.set_cons_succ]
      refine wl_nil ?_
      refine hK11 _ _ ?_
      refine wp_ret ?_
      repeat (first | with_reducible refine ret_then ?_ | with_reducible refine ret_block ?_)
      refine bodyPost_ret (v := .int .i64 (-1)) (by kernel_rfl) rfl ?_
      exact ⟨ret_int (firstI_none (fun j hj => hz j (by omega))).symm, hT0.toBelow⟩
set_option maxRecDepth 100000 in
set_option maxHeartbeats 4000000 in
theorem raccepts_no (ad : Option Addr) (len cap : Nat) (R : Nat → Rl) (a : Ak) (w : World) (hR : RulesAt w ad len R) (hcap : len ≤ 9223372036854775807) (hl : LightAll R len) (hsrc : a.src.size ≤ 100) (hdst : a.dst.size ≤ 100) (hfi : firstI R a len = -1) :
    Calls Try.prog 17 #[.slice ad len cap, .agg #[.string a.src, .string a.dst, .int .i64 a.from_, .int .i64 a.to_, .int .u32 a.seq, .int .u32 a.ack, .int .i64 a.flags, .int .i64 a.win, .int .i64 a.urg, .int .i64 a.mss, .int .i64 a.scale, .bool (a.sack), .slice a.ba a.bn a.bc, .bool (a.timed), .int .u32 a.time, .int .u32 a.echo, .string a.data, .int .i64 a.side, .int .i64 a.class_]] w fun e w' => e = .returned (.bool (false)) ∧ Below w.heap.size w w' := by
  have hT0 := Touch.refl (fun _ => False) w
  go_enter Try.func17, Try.ntmps17
  refine wp_seq_k fun K1 hK1 => ?_
  refine wl_region ?_
  refine dw_new (by kernel_rfl) [(.string a.src : Value), .string a.dst, .int .i64 a.from_, .int .i64 a.to_, .int .u32 a.seq, .int .u32 a.ack, .int .i64 a.flags, .int .i64 a.win, .int .i64 a.urg, .int .i64 a.mss, .int .i64 a.scale, .bool (a.sack), .slice a.ba a.bn a.bc, .bool (a.timed), .int .u32 a.time, .int .u32 a.echo, .string a.data, .int .i64 a.side, .int .i64 a.class_] 37 (by kernel_rfl) ?_
  intro n1 w2 hnn1 hsn1 hBn1 hTn1
  have hgen1 : w.heap.size ≤ n1 := by have := hT0.size; omega
  replace hT0 := hT0.trans hTn1 (fun _ _ h => h.elim)
  simp only [Act.put, List.setIfInBounds_toArray, List.set_cons_zero, List.set_cons_succ]
  refine dw_val (by kernel_rfl) (.bool false) (by kernel_rfl) ?_
  simp only [Act.put, List.setIfInBounds_toArray, List.set_cons_zero, List.set_cons_succ]
  refine wl_nil ?_
  refine hK1 _ _ ?_
  refine wp_seq_k fun K2 hK2 => ?_
  refine wl_region ?_
  refine dw_val (by kernel_rfl) (.slice ad len cap) (by kernel_rfl) ?_
  simp only [Act.put, List.setIfInBounds_toArray, List.set_cons_zero, List.set_cons_succ]
  refine dw_row (by kernel_rfl) 37 (.tmp 3) rfl n1 0 rfl _ _ hBn1 [(.string a.src : Value), .string a.dst, .int .i64 a.from_, .int .i64 a.to_, .int .u32 a.seq, .int .u32 a.ack, .int .i64 a.flags, .int .i64 a.win, .int .i64 a.urg, .int .i64 a.mss, .int .i64 a.scale, .bool (a.sack), .slice a.ba a.bn a.bc, .bool (a.timed), .int .u32 a.time, .int .u32 a.echo, .string a.data, .int .i64 a.side, .int .i64 a.class_] rfl _ Try.underlying37 rfl (by kernel_rfl) ?_
  simp only [Act.put, List.setIfInBounds_toArray, List.set_cons_zero, List.set_cons_succ]
  refine dw_ret (by kernel_rfl) 14 #[(.slice ad len cap : Value), .agg #[(.string a.src : Value), .string a.dst, .int .i64 a.from_, .int .i64 a.to_, .int .u32 a.seq, .int .u32 a.ack, .int .i64 a.flags, .int .i64 a.win, .int .i64 a.urg, .int .i64 a.mss, .int .i64 a.scale, .bool (a.sack), .slice a.ba a.bn a.bc, .bool (a.timed), .int .u32 a.time, .int .u32 a.echo, .string a.data, .int .i64 a.side, .int .i64 a.class_]] (by kernel_rfl) (hfi ▸ rfirst_any ad len cap R a w2 (hR.keep hT0) hcap hl hsrc hdst) ?_
  intro w3 hb
  have ht4 : Touch (fun _ => False) w2 w3 := Touch.none hb
  replace hBn1 := hBn1.keep ht4 (fun h => h)
  replace hT0 := hT0.trans ht4 (fun _ _ h => h.elim)
  clear hb
  simp only [Act.put, List.setIfInBounds_toArray, List.set_cons_zero, List.set_cons_succ]
  refine dw_val (by kernel_rfl) (.int .i64 (-1)) (by kernel_rfl) ?_
  simp only [Act.put, List.setIfInBounds_toArray, List.set_cons_zero, List.set_cons_succ]
  refine wl_nil ?_
  refine hK2 _ _ ?_
  refine wp_seq_k fun K3 hK3 => ?_
  refine wl_region ?_
  refine dw_val (by kernel_rfl) (.int .i64 (-1)) (by kernel_rfl) ?_
  simp only [Act.put, List.setIfInBounds_toArray, List.set_cons_zero, List.set_cons_succ]
  refine dw_val (by kernel_rfl) (.bool false) (by kernel_rfl) ?_
  simp only [Act.put, List.setIfInBounds_toArray, List.set_cons_zero, List.set_cons_succ]
  refine dw_val (by kernel_rfl) (.bool false) (by kernel_rfl) ?_
  simp only [Act.put, List.setIfInBounds_toArray, List.set_cons_zero, List.set_cons_succ]
  refine dw_no (by kernel_rfl) ?_
  simp only [Act.put, List.setIfInBounds_toArray, List.set_cons_zero, List.set_cons_succ]
  refine dw_no (by kernel_rfl) ?_
  simp only [Act.put, List.setIfInBounds_toArray, List.set_cons_zero, List.set_cons_succ]
  refine dw_no (by kernel_rfl) ?_
  simp only [Act.put, List.setIfInBounds_toArray, List.set_cons_zero, List.set_cons_succ]
  refine dw_no (by kernel_rfl) ?_
  simp only [Act.put, List.setIfInBounds_toArray, List.set_cons_zero, List.set_cons_succ]
  refine dw_no (by kernel_rfl) ?_
  simp only [Act.put, List.setIfInBounds_toArray, List.set_cons_zero, List.set_cons_succ]
  refine dw_val (by kernel_rfl) (.bool false) (by kernel_rfl) ?_
  simp only [Act.put, List.setIfInBounds_toArray, List.set_cons_zero, List.set_cons_succ]
  refine dw_val (by kernel_rfl) (.bool false) (by kernel_rfl) ?_
  simp only [Act.put, List.setIfInBounds_toArray, List.set_cons_zero, List.set_cons_succ]
  refine wl_nil ?_
  refine hK3 _ _ ?_
  refine wp_ret ?_
  repeat (first | with_reducible refine ret_then ?_ | with_reducible refine ret_block ?_)
  refine bodyPost_ret (v := .bool false) (by kernel_rfl) rfl ?_
  exact ⟨rfl, hT0.toBelow⟩
set_option maxRecDepth 100000 in
set_option maxHeartbeats 4000000 in
theorem raccepts_yes (ad : Option Addr) (len cap : Nat) (R : Nat → Rl) (a : Ak) (w : World) (hR : RulesAt w ad len R) (hcap : len ≤ 9223372036854775807) (hl : LightAll R len) (hsrc : a.src.size ≤ 100) (hdst : a.dst.size ≤ 100) (k : Nat) (hlt : k < len) (hfi : firstI R a len = (k : Int)) :
    Calls Try.prog 17 #[.slice ad len cap, .agg #[.string a.src, .string a.dst, .int .i64 a.from_, .int .i64 a.to_, .int .u32 a.seq, .int .u32 a.ack, .int .i64 a.flags, .int .i64 a.win, .int .i64 a.urg, .int .i64 a.mss, .int .i64 a.scale, .bool (a.sack), .slice a.ba a.bn a.bc, .bool (a.timed), .int .u32 a.time, .int .u32 a.echo, .string a.data, .int .i64 a.side, .int .i64 a.class_]] w fun e w' => e = .returned (.bool ((R k).acc)) ∧ Below w.heap.size w w' := by
  obtain ⟨b, off, hab, hbs, hcells⟩ := hR k hlt
  subst hab
  have hT0 := Touch.refl (fun _ => False) w
  go_enter Try.func17, Try.ntmps17
  refine wp_seq_k fun K1 hK1 => ?_
  refine wl_region ?_
  refine dw_new (by kernel_rfl) [(.string a.src : Value), .string a.dst, .int .i64 a.from_, .int .i64 a.to_, .int .u32 a.seq, .int .u32 a.ack, .int .i64 a.flags, .int .i64 a.win, .int .i64 a.urg, .int .i64 a.mss, .int .i64 a.scale, .bool (a.sack), .slice a.ba a.bn a.bc, .bool (a.timed), .int .u32 a.time, .int .u32 a.echo, .string a.data, .int .i64 a.side, .int .i64 a.class_] 37 (by kernel_rfl) ?_
  intro n1 w2 hnn1 hsn1 hBn1 hTn1
  have hgen1 : w.heap.size ≤ n1 := by have := hT0.size; omega
  replace hT0 := hT0.trans hTn1 (fun _ _ h => h.elim)
  simp only [Act.put, List.setIfInBounds_toArray, List.set_cons_zero, List.set_cons_succ]
  refine dw_val (by kernel_rfl) (.bool false) (by kernel_rfl) ?_
  simp only [Act.put, List.setIfInBounds_toArray, List.set_cons_zero, List.set_cons_succ]
  refine wl_nil ?_
  refine hK1 _ _ ?_
  refine wp_seq_k fun K2 hK2 => ?_
  refine wl_region ?_
  refine dw_val (by kernel_rfl) (.slice (some ⟨b, off, none⟩) len cap) (by kernel_rfl) ?_
  simp only [Act.put, List.setIfInBounds_toArray, List.set_cons_zero, List.set_cons_succ]
  refine dw_row (by kernel_rfl) 37 (.tmp 3) rfl n1 0 rfl _ _ hBn1 [(.string a.src : Value), .string a.dst, .int .i64 a.from_, .int .i64 a.to_, .int .u32 a.seq, .int .u32 a.ack, .int .i64 a.flags, .int .i64 a.win, .int .i64 a.urg, .int .i64 a.mss, .int .i64 a.scale, .bool (a.sack), .slice a.ba a.bn a.bc, .bool (a.timed), .int .u32 a.time, .int .u32 a.echo, .string a.data, .int .i64 a.side, .int .i64 a.class_] rfl _ Try.underlying37 rfl (by kernel_rfl) ?_
  simp only [Act.put, List.setIfInBounds_toArray, List.set_cons_zero, List.set_cons_succ]
  refine dw_ret (by kernel_rfl) 14 #[(.slice (some ⟨b, off, none⟩) len cap : Value), .agg #[(.string a.src : Value), .string a.dst, .int .i64 a.from_, .int .i64 a.to_, .int .u32 a.seq, .int .u32 a.ack, .int .i64 a.flags, .int .i64 a.win, .int .i64 a.urg, .int .i64 a.mss, .int .i64 a.scale, .bool (a.sack), .slice a.ba a.bn a.bc, .bool (a.timed), .int .u32 a.time, .int .u32 a.echo, .string a.data, .int .i64 a.side, .int .i64 a.class_]] (by kernel_rfl) (hfi ▸ rfirst_any (some ⟨b, off, none⟩) len cap R a w2 (hR.keep hT0) hcap hl hsrc hdst) ?_
  intro w3 hb
  have ht4 : Touch (fun _ => False) w2 w3 := Touch.none hb
  replace hBn1 := hBn1.keep ht4 (fun h => h)
  replace hT0 := hT0.trans ht4 (fun _ _ h => h.elim)
  clear hb
  simp only [Act.put, List.setIfInBounds_toArray, List.set_cons_zero, List.set_cons_succ]
  refine dw_val (by kernel_rfl) (.int .i64 (k : Int)) (by kernel_rfl) ?_
  simp only [Act.put, List.setIfInBounds_toArray, List.set_cons_zero, List.set_cons_succ]
  refine wl_nil ?_
  refine hK2 _ _ ?_
  refine wp_seq_k fun K3 hK3 => ?_
  refine wl_region ?_
  refine dw_val (by kernel_rfl) (.int .i64 (k : Int)) (by kernel_rfl) ?_
  simp only [Act.put, List.setIfInBounds_toArray, List.set_cons_zero, List.set_cons_succ]
  refine dw_bool (by kernel_rfl) (decide (0 ≤ (k : Int))) (by kernel_rfl) (fun hc => ?_) (fun hc => absurd hc (by simp))
  simp only [Act.put, List.setIfInBounds_toArray, List.set_cons_zero, List.set_cons_succ]
  refine dw_val (by kernel_rfl) (.bool true) (by kernel_rfl) ?_
  simp only [Act.put, List.setIfInBounds_toArray, List.set_cons_zero, List.set_cons_succ]
  refine dw_val (by kernel_rfl) (.slice (some ⟨b, off, none⟩) len cap) (by kernel_rfl) ?_
  simp only [Act.put, List.setIfInBounds_toArray, List.set_cons_zero, List.set_cons_succ]
  refine dw_val (by kernel_rfl) (.int .i64 (k : Int)) (by kernel_rfl) ?_
  simp only [Act.put, List.setIfInBounds_toArray, List.set_cons_zero, List.set_cons_succ]
  refine dw_val (by kernel_rfl) (.pointer (some ⟨b, off + k * 13, none⟩)) (ev_index 49 45 (.tmp 12) (.tmp 13) rfl b off len cap k 13 .i64 rfl rfl hlt Try.underlying49 (by kernel_rfl) (off + k * 13) (by omega)) ?_
  simp only [Act.put, List.setIfInBounds_toArray, List.set_cons_zero, List.set_cons_succ]
  refine dw_val (by kernel_rfl) (.pointer (some ⟨b, off + k * 13, none⟩)) (by kernel_rfl) ?_
  simp only [Act.put, List.setIfInBounds_toArray, List.set_cons_zero, List.set_cons_succ]
  refine dw_cellAt (by kernel_rfl) 4 (.tmp 15) rfl b (off + k * 13) rfl (.bool (R k).acc) ((hT0.cell hbs (fun h => h) _).trans (hcells 0 _ rfl)) _ Try.underlying4 rfl ?_
  simp only [Act.put, List.setIfInBounds_toArray, List.set_cons_zero, List.set_cons_succ]
  refine dw_val (by kernel_rfl) (.bool ((R k).acc)) (by kernel_rfl) ?_
  simp only [Act.put, List.setIfInBounds_toArray, List.set_cons_zero, List.set_cons_succ]
  refine dw_val (by kernel_rfl) (.bool ((R k).acc)) (by kernel_rfl) ?_
  simp only [Act.put, List.setIfInBounds_toArray, List.set_cons_zero, List.set_cons_succ]
  refine wl_nil ?_
  refine hK3 _ _ ?_
  refine wp_ret ?_
  repeat (first | with_reducible refine ret_then ?_ | with_reducible refine ret_block ?_)
  refine bodyPost_ret (v := .bool ((R k).acc)) (by kernel_rfl) rfl ?_
  exact ⟨rfl, hT0.toBelow⟩
theorem raccepts_any (ad : Option Addr) (len cap : Nat) (R : Nat → Rl) (a : Ak) (w : World) (hR : RulesAt w ad len R) (hcap : len ≤ 9223372036854775807) (hl : LightAll R len) (hsrc : a.src.size ≤ 100) (hdst : a.dst.size ≤ 100) :
    Calls Try.prog 17 #[.slice ad len cap, .agg #[.string a.src, .string a.dst, .int .i64 a.from_, .int .i64 a.to_, .int .u32 a.seq, .int .u32 a.ack, .int .i64 a.flags, .int .i64 a.win, .int .i64 a.urg, .int .i64 a.mss, .int .i64 a.scale, .bool (a.sack), .slice a.ba a.bn a.bc, .bool (a.timed), .int .u32 a.time, .int .u32 a.echo, .string a.data, .int .i64 a.side, .int .i64 a.class_]] w fun e w' => e = .returned (.bool (accB R a len)) ∧ Below w.heap.size w w' := by
  unfold accB
  rcases firstI_range R a len with h | ⟨k, hk, h, _, _⟩
  · rw [h]
    exact raccepts_no ad len cap R a w hR hcap hl hsrc hdst h
  · have e : (decide (0 ≤ firstI R a len) && (R (firstI R a len).toNat).acc) = (R k).acc := by rw [h]; simp
    rw [e]
    exact raccepts_yes ad len cap R a w hR hcap hl hsrc hdst k hk h
set_option maxRecDepth 100000 in
set_option maxHeartbeats 4000000 in
theorem rcovers19 (r q : Rl) (hm1 : (andI r.mask q.mask == r.mask) = nandB r.mask q.mask) (hm2 : (andI q.classes r.classes == q.classes) = nandB q.classes r.classes) (h1 : r.fb.size ≤ 100) (h2 : r.tb.size ≤ 100) (h3 : q.fb.size ≤ 100) (h4 : q.tb.size ≤ 100) (w : World) :
    Calls Try.prog 19 #[.agg #[.bool (r.acc), .int .i64 r.side, .string r.fb, .int .i64 r.fn, .string r.tb, .int .i64 r.tn, .int .i64 r.s0, .int .i64 r.s1, .int .i64 r.d0, .int .i64 r.d1, .int .i64 r.mask, .int .i64 r.flags, .int .i64 r.classes], .agg #[.bool (q.acc), .int .i64 q.side, .string q.fb, .int .i64 q.fn, .string q.tb, .int .i64 q.tn, .int .i64 q.s0, .int .i64 q.s1, .int .i64 q.d0, .int .i64 q.d1, .int .i64 q.mask, .int .i64 q.flags, .int .i64 q.classes]] w fun e w' => e = .returned (.bool (coversB r q)) ∧ Below w.heap.size w w' := by
  have hT0 := Touch.refl (fun _ => False) w
  go_enter Try.func19, Try.ntmps19
  refine wp_seq_k fun K1 hK1 => ?_
  refine wl_region ?_
  refine dw_new (by kernel_rfl) [(.bool (r.acc) : Value), .int .i64 r.side, .string r.fb, .int .i64 r.fn, .string r.tb, .int .i64 r.tn, .int .i64 r.s0, .int .i64 r.s1, .int .i64 r.d0, .int .i64 r.d1, .int .i64 r.mask, .int .i64 r.flags, .int .i64 r.classes] 45 (by kernel_rfl) ?_
  intro n1 w2 hnn1 hsn1 hBn1 hTn1
  have hgen1 : w.heap.size ≤ n1 := by have := hT0.size; omega
  replace hT0 := hT0.trans hTn1 (fun _ _ h => h.elim)
  simp only [Act.put, List.setIfInBounds_toArray, List.set_cons_zero, List.set_cons_succ]
  refine dw_new (by kernel_rfl) [(.bool (q.acc) : Value), .int .i64 q.side, .string q.fb, .int .i64 q.fn, .string q.tb, .int .i64 q.tn, .int .i64 q.s0, .int .i64 q.s1, .int .i64 q.d0, .int .i64 q.d1, .int .i64 q.mask, .int .i64 q.flags, .int .i64 q.classes] 45 (by kernel_rfl) ?_
  intro n3 w4 hnn3 hsn3 hBn3 hTn3
  have hnen1n3 : n1 ≠ n3 := by have := hBn1.lt; omega
  have hgen3 : w.heap.size ≤ n3 := by have := hT0.size; omega
  replace hBn1 := hBn1.keep hTn3 (fun h => h)
  replace hT0 := hT0.trans hTn3 (fun _ _ h => h.elim)
  simp only [Act.put, List.setIfInBounds_toArray, List.set_cons_zero, List.set_cons_succ]
  refine dw_val (by kernel_rfl) (.bool false) (by kernel_rfl) ?_
  simp only [Act.put, List.setIfInBounds_toArray, List.set_cons_zero, List.set_cons_succ]
  refine wl_nil ?_
  refine hK1 _ _ ?_
  refine wp_seq_k fun K2 hK2 => ?_
  refine wp_seq_k fun K3 hK3 => ?_
  have hJK3 : ∀ (u5 u6 u7 u8 u9 u10 u11 u12 u13 u14 u15 u16 u17 u18 u19 u20 u21 u22 u23 u24 u25 u26 u27 u28 u29 u_ : Value) (bb : Bool) (w5 : World), bb = (!(sideB r.side q.side && (coverB r.fb r.fn q.fb q.fn && coverB r.tb r.tn q.tb q.tn))) → Blk w5 n1 [(.bool (r.acc) : Value), .int .i64 r.side, .string r.fb, .int .i64 r.fn, .string r.tb, .int .i64 r.tn, .int .i64 r.s0, .int .i64 r.s1, .int .i64 r.d0, .int .i64 r.d1, .int .i64 r.mask, .int .i64 r.flags, .int .i64 r.classes] 45 → Blk w5 n3 [(.bool (q.acc) : Value), .int .i64 q.side, .string q.fb, .int .i64 q.fn, .string q.tb, .int .i64 q.tn, .int .i64 q.s0, .int .i64 q.s1, .int .i64 q.d0, .int .i64 q.d1, .int .i64 q.mask, .int .i64 q.flags, .int .i64 q.classes] 45 → Touch (fun _ => False) w w5 → K3 ⟨#[(.agg #[(.bool (r.acc) : Value), .int .i64 r.side, .string r.fb, .int .i64 r.fn, .string r.tb, .int .i64 r.tn, .int .i64 r.s0, .int .i64 r.s1, .int .i64 r.d0, .int .i64 r.d1, .int .i64 r.mask, .int .i64 r.flags, .int .i64 r.classes] : Value), .agg #[(.bool (q.acc) : Value), .int .i64 q.side, .string q.fb, .int .i64 q.fn, .string q.tb, .int .i64 q.tn, .int .i64 q.s0, .int .i64 q.s1, .int .i64 q.d0, .int .i64 q.d1, .int .i64 q.mask, .int .i64 q.flags, .int .i64 q.classes], .pointer (some ⟨n1, 0, none⟩), .pointer (some ⟨n3, 0, none⟩), .bool false, u5, u6, u7, u8, u9, u10, u11, u12, u13, u14, u15, u16, u17, u18, u19, u20, u21, u22, u23, u24, u25, u26, u27, u28, u29, .bool bb, undef, undef, undef, undef, undef, undef, undef, undef, undef, undef, undef, undef, undef, undef, undef, undef, undef, undef, undef, undef, undef, undef, undef, undef, undef, undef, undef, undef, undef, undef, undef, undef, undef, undef, undef, undef, undef, undef, undef, undef, undef, undef, undef, undef, undef, undef, undef, undef, undef, undef, undef, undef, undef, undef, undef, undef, undef, undef, undef, undef, undef, undef], []⟩ w5 := by
    clear hT0 hBn1 hBn3
    intro u5 u6 u7 u8 u9 u10 u11 u12 u13 u14 u15 u16 u17 u18 u19 u20 u21 u22 u23 u24 u25 u26 u27 u28 u29 u_ bb w5 hbb hBn1 hBn3 hT0
    subst hbb
    refine hK3 _ _ ?_
    refine wp_cond_split (t := !(sideB r.side q.side && (coverB r.fb r.fn q.fb q.fn && coverB r.tb r.tn q.tb q.tn))) rfl (fun c6 => ?_) (fun c6 => ?_)
    · skip
      refine wp_seq_k fun K4 hK4 => ?_
      refine wl_region ?_
      refine dw_val (by kernel_rfl) (.bool false) (by kernel_rfl) ?_
      simp only [Act.put, List.setIfInBounds_toArray, List.set_cons_zero, List.set_cons_succ]
      refine wl_nil ?_
      refine hK4 _ _ ?_
      refine wp_ret ?_
      repeat (first | with_reducible refine ret_then ?_ | with_reducible refine ret_block ?_)
      refine bodyPost_ret (v := .bool false) (by kernel_rfl) rfl ?_
      refine ⟨ret_bool ?_, hT0.toBelow⟩
      clear hT0
      unfold coversB
      rw [← hm1, ← hm2]
      revert c6
      generalize sideB r.side q.side = b0
      generalize coverB r.fb r.fn q.fb q.fn = b1
      generalize coverB r.tb r.tn q.tb q.tn = b2
      generalize spanB r.s0 r.s1 q.s0 q.s1 = b3
      generalize spanB r.d0 r.d1 q.d0 q.d1 = b4
      generalize (andI r.mask q.mask == r.mask) = b5
      generalize (andI q.flags r.mask == r.flags) = b6
      generalize (andI q.classes r.classes == q.classes) = b7
      revert b0 b1 b2 b3 b4 b5 b6 b7
      decide
    · skip
      refine wp_skip ?_
      refine hK2 _ _ ?_
      refine wp_seq_k fun K5 hK5 => ?_
      refine wp_seq_k fun K6 hK6 => ?_
      have hJK6 : ∀ (u31 u32 u33 u34 u35 u36 u37 u38 u39 u40 u41 u42 u43 u44 u45 u46 u47 u48 u49 u50 u51 u52 u53 u54 u55 u56 u57 u58 u59 u60 u61 u62 u63 u_ : Value) (bb : Bool) (w7 : World), bb = (!(spanB r.s0 r.s1 q.s0 q.s1 && spanB r.d0 r.d1 q.d0 q.d1)) → Blk w7 n1 [(.bool (r.acc) : Value), .int .i64 r.side, .string r.fb, .int .i64 r.fn, .string r.tb, .int .i64 r.tn, .int .i64 r.s0, .int .i64 r.s1, .int .i64 r.d0, .int .i64 r.d1, .int .i64 r.mask, .int .i64 r.flags, .int .i64 r.classes] 45 → Blk w7 n3 [(.bool (q.acc) : Value), .int .i64 q.side, .string q.fb, .int .i64 q.fn, .string q.tb, .int .i64 q.tn, .int .i64 q.s0, .int .i64 q.s1, .int .i64 q.d0, .int .i64 q.d1, .int .i64 q.mask, .int .i64 q.flags, .int .i64 q.classes] 45 → Touch (fun _ => False) w w7 → K6 ⟨#[(.agg #[(.bool (r.acc) : Value), .int .i64 r.side, .string r.fb, .int .i64 r.fn, .string r.tb, .int .i64 r.tn, .int .i64 r.s0, .int .i64 r.s1, .int .i64 r.d0, .int .i64 r.d1, .int .i64 r.mask, .int .i64 r.flags, .int .i64 r.classes] : Value), .agg #[(.bool (q.acc) : Value), .int .i64 q.side, .string q.fb, .int .i64 q.fn, .string q.tb, .int .i64 q.tn, .int .i64 q.s0, .int .i64 q.s1, .int .i64 q.d0, .int .i64 q.d1, .int .i64 q.mask, .int .i64 q.flags, .int .i64 q.classes], .pointer (some ⟨n1, 0, none⟩), .pointer (some ⟨n3, 0, none⟩), .bool false, u5, u6, u7, u8, u9, u10, u11, u12, u13, u14, u15, u16, u17, u18, u19, u20, u21, u22, u23, u24, u25, u26, u27, u28, u29, .bool (!(sideB r.side q.side && (coverB r.fb r.fn q.fb q.fn && coverB r.tb r.tn q.tb q.tn))), u31, u32, u33, u34, u35, u36, u37, u38, u39, u40, u41, u42, u43, u44, u45, u46, u47, u48, u49, u50, u51, u52, u53, u54, u55, u56, u57, u58, u59, u60, u61, u62, u63, .bool bb, undef, undef, undef, undef, undef, undef, undef, undef, undef, undef, undef, undef, undef, undef, undef, undef, undef, undef, undef, undef, undef, undef, undef, undef, undef, undef, undef, undef], []⟩ w7 := by
        clear hT0 hBn1 hBn3
        intro u31 u32 u33 u34 u35 u36 u37 u38 u39 u40 u41 u42 u43 u44 u45 u46 u47 u48 u49 u50 u51 u52 u53 u54 u55 u56 u57 u58 u59 u60 u61 u62 u63 u_ bb w7 hbb hBn1 hBn3 hT0
        subst hbb
        refine hK6 _ _ ?_
        refine wp_cond_split (t := !(spanB r.s0 r.s1 q.s0 q.s1 && spanB r.d0 r.d1 q.d0 q.d1)) rfl (fun c8 => ?_) (fun c8 => ?_)
        · skip
          refine wp_seq_k fun K7 hK7 => ?_
          refine wl_region ?_
          refine dw_val (by kernel_rfl) (.bool false) (by kernel_rfl) ?_
          simp only [Act.put, List.setIfInBounds_toArray, List.set_cons_zero, List.set_cons_succ]
          refine wl_nil ?_
          refine hK7 _ _ ?_
          refine wp_ret ?_
          repeat (first | with_reducible refine ret_then ?_ | with_reducible refine ret_block ?_)
          refine bodyPost_ret (v := .bool false) (by kernel_rfl) rfl ?_
          refine ⟨ret_bool ?_, hT0.toBelow⟩
          clear hT0
          unfold coversB
          rw [← hm1, ← hm2]
          revert c6 c8
          generalize sideB r.side q.side = b0
          generalize coverB r.fb r.fn q.fb q.fn = b1
          generalize coverB r.tb r.tn q.tb q.tn = b2
          generalize spanB r.s0 r.s1 q.s0 q.s1 = b3
          generalize spanB r.d0 r.d1 q.d0 q.d1 = b4
          generalize (andI r.mask q.mask == r.mask) = b5
          generalize (andI q.flags r.mask == r.flags) = b6
          generalize (andI q.classes r.classes == q.classes) = b7
          revert b0 b1 b2 b3 b4 b5 b6 b7
          decide
        · skip
          refine wp_skip ?_
          refine hK5 _ _ ?_
          refine wp_seq_k fun K8 hK8 => ?_
          have hJK8 : ∀ (u65 u66 u67 u68 u69 u70 u71 u72 u73 u74 u75 u76 u77 u78 u79 u80 u81 u82 u83 u84 u85 u86 u87 u88 u89 u90 u91 u92 u_ : Value) (bb : Bool) (w9 : World), bb = ((andI r.mask q.mask == r.mask) && ((andI q.flags r.mask == r.flags) && (andI q.classes r.classes == q.classes))) → Blk w9 n1 [(.bool (r.acc) : Value), .int .i64 r.side, .string r.fb, .int .i64 r.fn, .string r.tb, .int .i64 r.tn, .int .i64 r.s0, .int .i64 r.s1, .int .i64 r.d0, .int .i64 r.d1, .int .i64 r.mask, .int .i64 r.flags, .int .i64 r.classes] 45 → Blk w9 n3 [(.bool (q.acc) : Value), .int .i64 q.side, .string q.fb, .int .i64 q.fn, .string q.tb, .int .i64 q.tn, .int .i64 q.s0, .int .i64 q.s1, .int .i64 q.d0, .int .i64 q.d1, .int .i64 q.mask, .int .i64 q.flags, .int .i64 q.classes] 45 → Touch (fun _ => False) w w9 → K8 ⟨#[(.agg #[(.bool (r.acc) : Value), .int .i64 r.side, .string r.fb, .int .i64 r.fn, .string r.tb, .int .i64 r.tn, .int .i64 r.s0, .int .i64 r.s1, .int .i64 r.d0, .int .i64 r.d1, .int .i64 r.mask, .int .i64 r.flags, .int .i64 r.classes] : Value), .agg #[(.bool (q.acc) : Value), .int .i64 q.side, .string q.fb, .int .i64 q.fn, .string q.tb, .int .i64 q.tn, .int .i64 q.s0, .int .i64 q.s1, .int .i64 q.d0, .int .i64 q.d1, .int .i64 q.mask, .int .i64 q.flags, .int .i64 q.classes], .pointer (some ⟨n1, 0, none⟩), .pointer (some ⟨n3, 0, none⟩), .bool bb, u5, u6, u7, u8, u9, u10, u11, u12, u13, u14, u15, u16, u17, u18, u19, u20, u21, u22, u23, u24, u25, u26, u27, u28, u29, .bool (!(sideB r.side q.side && (coverB r.fb r.fn q.fb q.fn && coverB r.tb r.tn q.tb q.tn))), u31, u32, u33, u34, u35, u36, u37, u38, u39, u40, u41, u42, u43, u44, u45, u46, u47, u48, u49, u50, u51, u52, u53, u54, u55, u56, u57, u58, u59, u60, u61, u62, u63, .bool (!(spanB r.s0 r.s1 q.s0 q.s1 && spanB r.d0 r.d1 q.d0 q.d1)), u65, u66, u67, u68, u69, u70, u71, u72, u73, u74, u75, u76, u77, u78, u79, u80, u81, u82, u83, u84, u85, u86, u87, u88, u89, u90, u91, u92], []⟩ w9 := by
            clear hT0 hBn1 hBn3
            intro u65 u66 u67 u68 u69 u70 u71 u72 u73 u74 u75 u76 u77 u78 u79 u80 u81 u82 u83 u84 u85 u86 u87 u88 u89 u90 u91 u92 u_ bb w9 hbb hBn1 hBn3 hT0
            subst hbb
            refine hK8 _ _ ?_
            refine wp_ret ?_
            repeat (first | with_reducible refine ret_then ?_ | with_reducible refine ret_block ?_)
            refine bodyPost_ret (v := .bool ((andI r.mask q.mask == r.mask) && ((andI q.flags r.mask == r.flags) && (andI q.classes r.classes == q.classes)))) (by kernel_rfl) rfl ?_
            refine ⟨ret_bool ?_, hT0.toBelow⟩
            clear hT0
            unfold coversB
            rw [← hm1, ← hm2]
            revert c6 c8
            generalize sideB r.side q.side = b0
            generalize coverB r.fb r.fn q.fb q.fn = b1
            generalize coverB r.tb r.tn q.tb q.tn = b2
            generalize spanB r.s0 r.s1 q.s0 q.s1 = b3
            generalize spanB r.d0 r.d1 q.d0 q.d1 = b4
            generalize (andI r.mask q.mask == r.mask) = b5
            generalize (andI q.flags r.mask == r.flags) = b6
            generalize (andI q.classes r.classes == q.classes) = b7
            revert b0 b1 b2 b3 b4 b5 b6 b7
            decide
          refine wl_region ?_
          refine dw_val (by kernel_rfl) (.pointer (some ⟨n1, 10, none⟩)) (by kernel_rfl) ?_
          simp only [Act.put, List.setIfInBounds_toArray, List.set_cons_zero, List.set_cons_succ]
          refine dw_cell (by kernel_rfl) 3 (.tmp 65) rfl n1 10 rfl _ _ hBn1 (.int .i64 r.mask) rfl _ Try.underlying3 rfl ?_
          simp only [Act.put, List.setIfInBounds_toArray, List.set_cons_zero, List.set_cons_succ]
          refine dw_val (by kernel_rfl) (.pointer (some ⟨n3, 10, none⟩)) (by kernel_rfl) ?_
          simp only [Act.put, List.setIfInBounds_toArray, List.set_cons_zero, List.set_cons_succ]
          refine dw_cell (by kernel_rfl) 3 (.tmp 67) rfl n3 10 rfl _ _ hBn3 (.int .i64 q.mask) rfl _ Try.underlying3 rfl ?_
          simp only [Act.put, List.setIfInBounds_toArray, List.set_cons_zero, List.set_cons_succ]
          refine dw_val (by kernel_rfl) (.int .i64 (bits .and .i64 r.mask q.mask)) (by kernel_rfl) ?_
          simp only [Act.put, List.setIfInBounds_toArray, List.set_cons_zero, List.set_cons_succ]
          refine dw_val (by kernel_rfl) (.pointer (some ⟨n1, 10, none⟩)) (by kernel_rfl) ?_
          simp only [Act.put, List.setIfInBounds_toArray, List.set_cons_zero, List.set_cons_succ]
          refine dw_cell (by kernel_rfl) 3 (.tmp 70) rfl n1 10 rfl _ _ hBn1 (.int .i64 r.mask) rfl _ Try.underlying3 rfl ?_
          simp only [Act.put, List.setIfInBounds_toArray, List.set_cons_zero, List.set_cons_succ]
          refine dw_val (by kernel_rfl) (.bool ((bits .and .i64 r.mask q.mask) == r.mask)) (by kernel_rfl) ?_
          simp only [Act.put, List.setIfInBounds_toArray, List.set_cons_zero, List.set_cons_succ]
          refine dw_bool (by kernel_rfl) ((bits .and .i64 r.mask q.mask) == r.mask) (by kernel_rfl) (fun c10 => ?_) (fun c10 => ?_)
          · skip
            simp only [Act.put, List.setIfInBounds_toArray, List.set_cons_zero, List.set_cons_succ]
            refine dw_val (by kernel_rfl) (.pointer (some ⟨n3, 11, none⟩)) (by kernel_rfl) ?_
            simp only [Act.put, List.setIfInBounds_toArray, List.set_cons_zero, List.set_cons_succ]
            refine dw_cell (by kernel_rfl) 3 (.tmp 74) rfl n3 11 rfl _ _ hBn3 (.int .i64 q.flags) rfl _ Try.underlying3 rfl ?_
            simp only [Act.put, List.setIfInBounds_toArray, List.set_cons_zero, List.set_cons_succ]
            refine dw_val (by kernel_rfl) (.pointer (some ⟨n1, 10, none⟩)) (by kernel_rfl) ?_
            simp only [Act.put, List.setIfInBounds_toArray, List.set_cons_zero, List.set_cons_succ]
            refine dw_cell (by kernel_rfl) 3 (.tmp 76) rfl n1 10 rfl _ _ hBn1 (.int .i64 r.mask) rfl _ Try.underlying3 rfl ?_
            simp only [Act.put, List.setIfInBounds_toArray, List.set_cons_zero, List.set_cons_succ]
            refine dw_val (by kernel_rfl) (.int .i64 (bits .and .i64 q.flags r.mask)) (by kernel_rfl) ?_
            simp only [Act.put, List.setIfInBounds_toArray, List.set_cons_zero, List.set_cons_succ]
            refine dw_val (by kernel_rfl) (.pointer (some ⟨n1, 11, none⟩)) (by kernel_rfl) ?_
            simp only [Act.put, List.setIfInBounds_toArray, List.set_cons_zero, List.set_cons_succ]
            refine dw_cell (by kernel_rfl) 3 (.tmp 79) rfl n1 11 rfl _ _ hBn1 (.int .i64 r.flags) rfl _ Try.underlying3 rfl ?_
            simp only [Act.put, List.setIfInBounds_toArray, List.set_cons_zero, List.set_cons_succ]
            refine dw_val (by kernel_rfl) (.bool ((bits .and .i64 q.flags r.mask) == r.flags)) (by kernel_rfl) ?_
            simp only [Act.put, List.setIfInBounds_toArray, List.set_cons_zero, List.set_cons_succ]
            refine dw_val (by kernel_rfl) (.bool ((bits .and .i64 q.flags r.mask) == r.flags)) (by kernel_rfl) ?_
            simp only [Act.put, List.setIfInBounds_toArray, List.set_cons_zero, List.set_cons_succ]
            refine dw_bool (by kernel_rfl) ((bits .and .i64 q.flags r.mask) == r.flags) (by kernel_rfl) (fun c11 => ?_) (fun c11 => ?_)
            · skip
              simp only [Act.put, List.setIfInBounds_toArray, List.set_cons_zero, List.set_cons_succ]
              refine dw_val (by kernel_rfl) (.pointer (some ⟨n3, 12, none⟩)) (by kernel_rfl) ?_
              simp only [Act.put, List.setIfInBounds_toArray, List.set_cons_zero, List.set_cons_succ]
              refine dw_cell (by kernel_rfl) 3 (.tmp 84) rfl n3 12 rfl _ _ hBn3 (.int .i64 q.classes) rfl _ Try.underlying3 rfl ?_
              simp only [Act.put, List.setIfInBounds_toArray, List.set_cons_zero, List.set_cons_succ]
              refine dw_val (by kernel_rfl) (.pointer (some ⟨n1, 12, none⟩)) (by kernel_rfl) ?_
              simp only [Act.put, List.setIfInBounds_toArray, List.set_cons_zero, List.set_cons_succ]
              refine dw_cell (by kernel_rfl) 3 (.tmp 86) rfl n1 12 rfl _ _ hBn1 (.int .i64 r.classes) rfl _ Try.underlying3 rfl ?_
              simp only [Act.put, List.setIfInBounds_toArray, List.set_cons_zero, List.set_cons_succ]
              refine dw_val (by kernel_rfl) (.int .i64 (bits .and .i64 q.classes r.classes)) (by kernel_rfl) ?_
              simp only [Act.put, List.setIfInBounds_toArray, List.set_cons_zero, List.set_cons_succ]
              refine dw_val (by kernel_rfl) (.pointer (some ⟨n3, 12, none⟩)) (by kernel_rfl) ?_
              simp only [Act.put, List.setIfInBounds_toArray, List.set_cons_zero, List.set_cons_succ]
              refine dw_cell (by kernel_rfl) 3 (.tmp 89) rfl n3 12 rfl _ _ hBn3 (.int .i64 q.classes) rfl _ Try.underlying3 rfl ?_
              simp only [Act.put, List.setIfInBounds_toArray, List.set_cons_zero, List.set_cons_succ]
              refine dw_val (by kernel_rfl) (.bool ((bits .and .i64 q.classes r.classes) == q.classes)) (by kernel_rfl) ?_
              simp only [Act.put, List.setIfInBounds_toArray, List.set_cons_zero, List.set_cons_succ]
              refine dw_val (by kernel_rfl) (.bool ((bits .and .i64 q.classes r.classes) == q.classes)) (by kernel_rfl) ?_
              simp only [Act.put, List.setIfInBounds_toArray, List.set_cons_zero, List.set_cons_succ]
              refine dw_val (by kernel_rfl) (.bool ((bits .and .i64 q.classes r.classes) == q.classes)) (by kernel_rfl) ?_
              simp only [Act.put, List.setIfInBounds_toArray, List.set_cons_zero, List.set_cons_succ]
              refine wl_nil ?_
              skip
              exact hJK8 _ _ _ _ _ _ _ _ _ _ _ _ _ _ _ _ _ _ _ _ _ _ _ _ _ _ _ _ undef ((bits .and .i64 q.classes r.classes) == q.classes) _ (by unfold andI; first | (simp at c6 c8 c10 c11; simp [c6, c8, c10, c11]; done) | (simp [c6, c8, c10, c11]; rfl)) hBn1 hBn3 hT0
            · skip
              simp only [Act.put, List.setIfInBounds_toArray, List.set_cons_zero, List.set_cons_succ]
              refine dw_no (by kernel_rfl) ?_
              simp only [Act.put, List.setIfInBounds_toArray, List.set_cons_zero, List.set_cons_succ]
              refine dw_no (by kernel_rfl) ?_
              simp only [Act.put, List.setIfInBounds_toArray, List.set_cons_zero, List.set_cons_succ]
              refine dw_no (by kernel_rfl) ?_
              simp only [Act.put, List.setIfInBounds_toArray, List.set_cons_zero, List.set_cons_succ]
              refine dw_no (by kernel_rfl) ?_
              simp only [Act.put, List.setIfInBounds_toArray, List.set_cons_zero, List.set_cons_succ]
              refine dw_no (by kernel_rfl) ?_
              simp only [Act.put, List.setIfInBounds_toArray, List.set_cons_zero, List.set_cons_succ]
              refine dw_no (by kernel_rfl) ?_
              simp only [Act.put, List.setIfInBounds_toArray, List.set_cons_zero, List.set_cons_succ]
              refine dw_no (by kernel_rfl) ?_
              simp only [Act.put, List.setIfInBounds_toArray, List.set_cons_zero, List.set_cons_succ]
              refine dw_no (by kernel_rfl) ?_
              simp only [Act.put, List.setIfInBounds_toArray, List.set_cons_zero, List.set_cons_succ]
              refine dw_val (by kernel_rfl) (.bool false) (by kernel_rfl) ?_
              simp only [Act.put, List.setIfInBounds_toArray, List.set_cons_zero, List.set_cons_succ]
              refine dw_val (by kernel_rfl) (.bool false) (by kernel_rfl) ?_
              simp only [Act.put, List.setIfInBounds_toArray, List.set_cons_zero, List.set_cons_succ]
              refine wl_nil ?_
              skip
              exact hJK8 _ _ _ _ _ _ _ _ _ _ _ _ _ _ _ _ _ _ _ _ _ _ _ _ _ _ _ _ undef false _ (by unfold andI; first | (simp at c6 c8 c10 c11; simp [c6, c8, c10, c11]; done) | (simp [c6, c8, c10, c11]; rfl)) hBn1 hBn3 hT0
          · skip
            simp only [Act.put, List.setIfInBounds_toArray, List.set_cons_zero, List.set_cons_succ]
            refine dw_no (by kernel_rfl) ?_
            simp only [Act.put, List.setIfInBounds_toArray, List.set_cons_zero, List.set_cons_succ]
            refine dw_no (by kernel_rfl) ?_
            simp only [Act.put, List.setIfInBounds_toArray, List.set_cons_zero, List.set_cons_succ]
            refine dw_no (by kernel_rfl) ?_
            simp only [Act.put, List.setIfInBounds_toArray, List.set_cons_zero, List.set_cons_succ]
            refine dw_no (by kernel_rfl) ?_
            simp only [Act.put, List.setIfInBounds_toArray, List.set_cons_zero, List.set_cons_succ]
            refine dw_no (by kernel_rfl) ?_
            simp only [Act.put, List.setIfInBounds_toArray, List.set_cons_zero, List.set_cons_succ]
            refine dw_no (by kernel_rfl) ?_
            simp only [Act.put, List.setIfInBounds_toArray, List.set_cons_zero, List.set_cons_succ]
            refine dw_no (by kernel_rfl) ?_
            simp only [Act.put, List.setIfInBounds_toArray, List.set_cons_zero, List.set_cons_succ]
            refine dw_no (by kernel_rfl) ?_
            simp only [Act.put, List.setIfInBounds_toArray, List.set_cons_zero, List.set_cons_succ]
            refine dw_val (by kernel_rfl) (.bool false) (by kernel_rfl) ?_
            simp only [Act.put, List.setIfInBounds_toArray, List.set_cons_zero, List.set_cons_succ]
            refine dw_val (by kernel_rfl) (.bool false) (by kernel_rfl) ?_
            simp only [Act.put, List.setIfInBounds_toArray, List.set_cons_zero, List.set_cons_succ]
            refine dw_no (by kernel_rfl) ?_
            simp only [Act.put, List.setIfInBounds_toArray, List.set_cons_zero, List.set_cons_succ]
            refine dw_no (by kernel_rfl) ?_
            simp only [Act.put, List.setIfInBounds_toArray, List.set_cons_zero, List.set_cons_succ]
            refine dw_no (by kernel_rfl) ?_
            simp only [Act.put, List.setIfInBounds_toArray, List.set_cons_zero, List.set_cons_succ]
            refine dw_no (by kernel_rfl) ?_
            simp only [Act.put, List.setIfInBounds_toArray, List.set_cons_zero, List.set_cons_succ]
            refine dw_no (by kernel_rfl) ?_
            simp only [Act.put, List.setIfInBounds_toArray, List.set_cons_zero, List.set_cons_succ]
            refine dw_no (by kernel_rfl) ?_
            simp only [Act.put, List.setIfInBounds_toArray, List.set_cons_zero, List.set_cons_succ]
            refine dw_no (by kernel_rfl) ?_
            simp only [Act.put, List.setIfInBounds_toArray, List.set_cons_zero, List.set_cons_succ]
            refine dw_no (by kernel_rfl) ?_
            simp only [Act.put, List.setIfInBounds_toArray, List.set_cons_zero, List.set_cons_succ]
            refine dw_val (by kernel_rfl) (.bool false) (by kernel_rfl) ?_
            simp only [Act.put, List.setIfInBounds_toArray, List.set_cons_zero, List.set_cons_succ]
            refine dw_val (by kernel_rfl) (.bool false) (by kernel_rfl) ?_
            simp only [Act.put, List.setIfInBounds_toArray, List.set_cons_zero, List.set_cons_succ]
            refine wl_nil ?_
            skip
            exact hJK8 _ _ _ _ _ _ _ _ _ _ _ _ _ _ _ _ _ _ _ _ _ _ _ _ _ _ _ _ undef false _ (by unfold andI; first | (simp at c6 c8 c10; simp [c6, c8, c10]; done) | (simp [c6, c8, c10]; rfl)) hBn1 hBn3 hT0
      refine wl_region ?_
      refine dw_val (by kernel_rfl) (.pointer (some ⟨n1, 6, none⟩)) (by kernel_rfl) ?_
      simp only [Act.put, List.setIfInBounds_toArray, List.set_cons_zero, List.set_cons_succ]
      refine dw_val (by kernel_rfl) (.pointer (some ⟨n1, 6, none⟩)) (ev_arr 41 3 2 (.tmp 31) (.const (.int .i64 0)) rfl n1 6 0 1 .i64 rfl rfl (by decide) Try.underlying41 (by kernel_rfl) (6) (by omega)) ?_
      simp only [Act.put, List.setIfInBounds_toArray, List.set_cons_zero, List.set_cons_succ]
      refine dw_cell (by kernel_rfl) 3 (.tmp 32) rfl n1 6 rfl _ _ hBn1 (.int .i64 r.s0) rfl _ Try.underlying3 rfl ?_
      simp only [Act.put, List.setIfInBounds_toArray, List.set_cons_zero, List.set_cons_succ]
      refine dw_val (by kernel_rfl) (.pointer (some ⟨n3, 6, none⟩)) (by kernel_rfl) ?_
      simp only [Act.put, List.setIfInBounds_toArray, List.set_cons_zero, List.set_cons_succ]
      refine dw_val (by kernel_rfl) (.pointer (some ⟨n3, 6, none⟩)) (ev_arr 41 3 2 (.tmp 34) (.const (.int .i64 0)) rfl n3 6 0 1 .i64 rfl rfl (by decide) Try.underlying41 (by kernel_rfl) (6) (by omega)) ?_
      simp only [Act.put, List.setIfInBounds_toArray, List.set_cons_zero, List.set_cons_succ]
      refine dw_cell (by kernel_rfl) 3 (.tmp 35) rfl n3 6 rfl _ _ hBn3 (.int .i64 q.s0) rfl _ Try.underlying3 rfl ?_
      simp only [Act.put, List.setIfInBounds_toArray, List.set_cons_zero, List.set_cons_succ]
      refine dw_val (by kernel_rfl) (.bool (decide (q.s0 < r.s0))) (by kernel_rfl) ?_
      simp only [Act.put, List.setIfInBounds_toArray, List.set_cons_zero, List.set_cons_succ]
      refine dw_bool (by kernel_rfl) (decide (q.s0 < r.s0)) (by kernel_rfl) (fun c12 => ?_) (fun c12 => ?_)
      · skip
        replace c12 := of_decide_eq_true c12
        simp only [Act.put, List.setIfInBounds_toArray, List.set_cons_zero, List.set_cons_succ]
        refine dw_no (by kernel_rfl) ?_
        simp only [Act.put, List.setIfInBounds_toArray, List.set_cons_zero, List.set_cons_succ]
        refine dw_no (by kernel_rfl) ?_
        simp only [Act.put, List.setIfInBounds_toArray, List.set_cons_zero, List.set_cons_succ]
        refine dw_no (by kernel_rfl) ?_
        simp only [Act.put, List.setIfInBounds_toArray, List.set_cons_zero, List.set_cons_succ]
        refine dw_no (by kernel_rfl) ?_
        simp only [Act.put, List.setIfInBounds_toArray, List.set_cons_zero, List.set_cons_succ]
        refine dw_no (by kernel_rfl) ?_
        simp only [Act.put, List.setIfInBounds_toArray, List.set_cons_zero, List.set_cons_succ]
        refine dw_no (by kernel_rfl) ?_
        simp only [Act.put, List.setIfInBounds_toArray, List.set_cons_zero, List.set_cons_succ]
        refine dw_no (by kernel_rfl) ?_
        simp only [Act.put, List.setIfInBounds_toArray, List.set_cons_zero, List.set_cons_succ]
        refine dw_val (by kernel_rfl) (.bool true) (by kernel_rfl) ?_
        simp only [Act.put, List.setIfInBounds_toArray, List.set_cons_zero, List.set_cons_succ]
        refine dw_val (by kernel_rfl) (.bool true) (by kernel_rfl) ?_
        simp only [Act.put, List.setIfInBounds_toArray, List.set_cons_zero, List.set_cons_succ]
        refine dw_no (by kernel_rfl) ?_
        simp only [Act.put, List.setIfInBounds_toArray, List.set_cons_zero, List.set_cons_succ]
        refine dw_no (by kernel_rfl) ?_
        simp only [Act.put, List.setIfInBounds_toArray, List.set_cons_zero, List.set_cons_succ]
        refine dw_no (by kernel_rfl) ?_
        simp only [Act.put, List.setIfInBounds_toArray, List.set_cons_zero, List.set_cons_succ]
        refine dw_no (by kernel_rfl) ?_
        simp only [Act.put, List.setIfInBounds_toArray, List.set_cons_zero, List.set_cons_succ]
        refine dw_no (by kernel_rfl) ?_
        simp only [Act.put, List.setIfInBounds_toArray, List.set_cons_zero, List.set_cons_succ]
        refine dw_no (by kernel_rfl) ?_
        simp only [Act.put, List.setIfInBounds_toArray, List.set_cons_zero, List.set_cons_succ]
        refine dw_no (by kernel_rfl) ?_
        simp only [Act.put, List.setIfInBounds_toArray, List.set_cons_zero, List.set_cons_succ]
        refine dw_val (by kernel_rfl) (.bool true) (by kernel_rfl) ?_
        simp only [Act.put, List.setIfInBounds_toArray, List.set_cons_zero, List.set_cons_succ]
        refine dw_val (by kernel_rfl) (.bool true) (by kernel_rfl) ?_
        simp only [Act.put, List.setIfInBounds_toArray, List.set_cons_zero, List.set_cons_succ]
        refine dw_no (by kernel_rfl) ?_
        simp only [Act.put, List.setIfInBounds_toArray, List.set_cons_zero, List.set_cons_succ]
        refine dw_no (by kernel_rfl) ?_
        simp only [Act.put, List.setIfInBounds_toArray, List.set_cons_zero, List.set_cons_succ]
        refine dw_no (by kernel_rfl) ?_
        simp only [Act.put, List.setIfInBounds_toArray, List.set_cons_zero, List.set_cons_succ]
        refine dw_no (by kernel_rfl) ?_
        simp only [Act.put, List.setIfInBounds_toArray, List.set_cons_zero, List.set_cons_succ]
        refine dw_no (by kernel_rfl) ?_
        simp only [Act.put, List.setIfInBounds_toArray, List.set_cons_zero, List.set_cons_succ]
        refine dw_no (by kernel_rfl) ?_
        simp only [Act.put, List.setIfInBounds_toArray, List.set_cons_zero, List.set_cons_succ]
        refine dw_no (by kernel_rfl) ?_
        simp only [Act.put, List.setIfInBounds_toArray, List.set_cons_zero, List.set_cons_succ]
        refine dw_val (by kernel_rfl) (.bool true) (by kernel_rfl) ?_
        simp only [Act.put, List.setIfInBounds_toArray, List.set_cons_zero, List.set_cons_succ]
        refine wl_nil ?_
        skip
        exact hJK6 _ _ _ _ _ _ _ _ _ _ _ _ _ _ _ _ _ _ _ _ _ _ _ _ _ _ _ _ _ _ _ _ _ undef true _ (by unfold spanB; simp at c6 c12; first | (simp [c6, c12]; done) | (simp; omega) | (simp; grind)) hBn1 hBn3 hT0
      · skip
        replace c12 := of_decide_eq_false c12
        simp only [Act.put, List.setIfInBounds_toArray, List.set_cons_zero, List.set_cons_succ]
        refine dw_val (by kernel_rfl) (.pointer (some ⟨n1, 6, none⟩)) (by kernel_rfl) ?_
        simp only [Act.put, List.setIfInBounds_toArray, List.set_cons_zero, List.set_cons_succ]
        refine dw_val (by kernel_rfl) (.pointer (some ⟨n1, 7, none⟩)) (ev_arr 41 3 2 (.tmp 39) (.const (.int .i64 1)) rfl n1 6 1 1 .i64 rfl rfl (by decide) Try.underlying41 (by kernel_rfl) (7) (by omega)) ?_
        simp only [Act.put, List.setIfInBounds_toArray, List.set_cons_zero, List.set_cons_succ]
        refine dw_cell (by kernel_rfl) 3 (.tmp 40) rfl n1 7 rfl _ _ hBn1 (.int .i64 r.s1) rfl _ Try.underlying3 rfl ?_
        simp only [Act.put, List.setIfInBounds_toArray, List.set_cons_zero, List.set_cons_succ]
        refine dw_val (by kernel_rfl) (.pointer (some ⟨n3, 6, none⟩)) (by kernel_rfl) ?_
        simp only [Act.put, List.setIfInBounds_toArray, List.set_cons_zero, List.set_cons_succ]
        refine dw_val (by kernel_rfl) (.pointer (some ⟨n3, 7, none⟩)) (ev_arr 41 3 2 (.tmp 42) (.const (.int .i64 1)) rfl n3 6 1 1 .i64 rfl rfl (by decide) Try.underlying41 (by kernel_rfl) (7) (by omega)) ?_
        simp only [Act.put, List.setIfInBounds_toArray, List.set_cons_zero, List.set_cons_succ]
        refine dw_cell (by kernel_rfl) 3 (.tmp 43) rfl n3 7 rfl _ _ hBn3 (.int .i64 q.s1) rfl _ Try.underlying3 rfl ?_
        simp only [Act.put, List.setIfInBounds_toArray, List.set_cons_zero, List.set_cons_succ]
        refine dw_val (by kernel_rfl) (.bool (decide (r.s1 < q.s1))) (by kernel_rfl) ?_
        simp only [Act.put, List.setIfInBounds_toArray, List.set_cons_zero, List.set_cons_succ]
        refine dw_val (by kernel_rfl) (.bool (decide (r.s1 < q.s1))) (by kernel_rfl) ?_
        simp only [Act.put, List.setIfInBounds_toArray, List.set_cons_zero, List.set_cons_succ]
        refine dw_bool (by kernel_rfl) (decide (r.s1 < q.s1)) (by kernel_rfl) (fun c13 => ?_) (fun c13 => ?_)
        · skip
          replace c13 := of_decide_eq_true c13
          simp only [Act.put, List.setIfInBounds_toArray, List.set_cons_zero, List.set_cons_succ]
          refine dw_no (by kernel_rfl) ?_
          simp only [Act.put, List.setIfInBounds_toArray, List.set_cons_zero, List.set_cons_succ]
          refine dw_no (by kernel_rfl) ?_
          simp only [Act.put, List.setIfInBounds_toArray, List.set_cons_zero, List.set_cons_succ]
          refine dw_no (by kernel_rfl) ?_
          simp only [Act.put, List.setIfInBounds_toArray, List.set_cons_zero, List.set_cons_succ]
          refine dw_no (by kernel_rfl) ?_
          simp only [Act.put, List.setIfInBounds_toArray, List.set_cons_zero, List.set_cons_succ]
          refine dw_no (by kernel_rfl) ?_
          simp only [Act.put, List.setIfInBounds_toArray, List.set_cons_zero, List.set_cons_succ]
          refine dw_no (by kernel_rfl) ?_
          simp only [Act.put, List.setIfInBounds_toArray, List.set_cons_zero, List.set_cons_succ]
          refine dw_no (by kernel_rfl) ?_
          simp only [Act.put, List.setIfInBounds_toArray, List.set_cons_zero, List.set_cons_succ]
          refine dw_val (by kernel_rfl) (.bool true) (by kernel_rfl) ?_
          simp only [Act.put, List.setIfInBounds_toArray, List.set_cons_zero, List.set_cons_succ]
          refine dw_val (by kernel_rfl) (.bool true) (by kernel_rfl) ?_
          simp only [Act.put, List.setIfInBounds_toArray, List.set_cons_zero, List.set_cons_succ]
          refine dw_no (by kernel_rfl) ?_
          simp only [Act.put, List.setIfInBounds_toArray, List.set_cons_zero, List.set_cons_succ]
          refine dw_no (by kernel_rfl) ?_
          simp only [Act.put, List.setIfInBounds_toArray, List.set_cons_zero, List.set_cons_succ]
          refine dw_no (by kernel_rfl) ?_
          simp only [Act.put, List.setIfInBounds_toArray, List.set_cons_zero, List.set_cons_succ]
          refine dw_no (by kernel_rfl) ?_
          simp only [Act.put, List.setIfInBounds_toArray, List.set_cons_zero, List.set_cons_succ]
          refine dw_no (by kernel_rfl) ?_
          simp only [Act.put, List.setIfInBounds_toArray, List.set_cons_zero, List.set_cons_succ]
          refine dw_no (by kernel_rfl) ?_
          simp only [Act.put, List.setIfInBounds_toArray, List.set_cons_zero, List.set_cons_succ]
          refine dw_no (by kernel_rfl) ?_
          simp only [Act.put, List.setIfInBounds_toArray, List.set_cons_zero, List.set_cons_succ]
          refine dw_val (by kernel_rfl) (.bool true) (by kernel_rfl) ?_
          simp only [Act.put, List.setIfInBounds_toArray, List.set_cons_zero, List.set_cons_succ]
          refine wl_nil ?_
          skip
          exact hJK6 _ _ _ _ _ _ _ _ _ _ _ _ _ _ _ _ _ _ _ _ _ _ _ _ _ _ _ _ _ _ _ _ _ undef true _ (by unfold spanB; simp at c6 c12 c13; first | (simp [c6, c12, c13]; done) | (simp; omega) | (simp; grind)) hBn1 hBn3 hT0
        · skip
          replace c13 := of_decide_eq_false c13
          simp only [Act.put, List.setIfInBounds_toArray, List.set_cons_zero, List.set_cons_succ]
          refine dw_val (by kernel_rfl) (.pointer (some ⟨n1, 8, none⟩)) (by kernel_rfl) ?_
          simp only [Act.put, List.setIfInBounds_toArray, List.set_cons_zero, List.set_cons_succ]
          refine dw_val (by kernel_rfl) (.pointer (some ⟨n1, 8, none⟩)) (ev_arr 41 3 2 (.tmp 48) (.const (.int .i64 0)) rfl n1 8 0 1 .i64 rfl rfl (by decide) Try.underlying41 (by kernel_rfl) (8) (by omega)) ?_
          simp only [Act.put, List.setIfInBounds_toArray, List.set_cons_zero, List.set_cons_succ]
          refine dw_cell (by kernel_rfl) 3 (.tmp 49) rfl n1 8 rfl _ _ hBn1 (.int .i64 r.d0) rfl _ Try.underlying3 rfl ?_
          simp only [Act.put, List.setIfInBounds_toArray, List.set_cons_zero, List.set_cons_succ]
          refine dw_val (by kernel_rfl) (.pointer (some ⟨n3, 8, none⟩)) (by kernel_rfl) ?_
          simp only [Act.put, List.setIfInBounds_toArray, List.set_cons_zero, List.set_cons_succ]
          refine dw_val (by kernel_rfl) (.pointer (some ⟨n3, 8, none⟩)) (ev_arr 41 3 2 (.tmp 51) (.const (.int .i64 0)) rfl n3 8 0 1 .i64 rfl rfl (by decide) Try.underlying41 (by kernel_rfl) (8) (by omega)) ?_
          simp only [Act.put, List.setIfInBounds_toArray, List.set_cons_zero, List.set_cons_succ]
          refine dw_cell (by kernel_rfl) 3 (.tmp 52) rfl n3 8 rfl _ _ hBn3 (.int .i64 q.d0) rfl _ Try.underlying3 rfl ?_
          simp only [Act.put, List.setIfInBounds_toArray, List.set_cons_zero, List.set_cons_succ]
          refine dw_val (by kernel_rfl) (.bool (decide (q.d0 < r.d0))) (by kernel_rfl) ?_
          simp only [Act.put, List.setIfInBounds_toArray, List.set_cons_zero, List.set_cons_succ]
          refine dw_val (by kernel_rfl) (.bool (decide (q.d0 < r.d0))) (by kernel_rfl) ?_
          simp only [Act.put, List.setIfInBounds_toArray, List.set_cons_zero, List.set_cons_succ]
          refine dw_bool (by kernel_rfl) (decide (q.d0 < r.d0)) (by kernel_rfl) (fun c14 => ?_) (fun c14 => ?_)
          · skip
            replace c14 := of_decide_eq_true c14
            simp only [Act.put, List.setIfInBounds_toArray, List.set_cons_zero, List.set_cons_succ]
            refine dw_no (by kernel_rfl) ?_
            simp only [Act.put, List.setIfInBounds_toArray, List.set_cons_zero, List.set_cons_succ]
            refine dw_no (by kernel_rfl) ?_
            simp only [Act.put, List.setIfInBounds_toArray, List.set_cons_zero, List.set_cons_succ]
            refine dw_no (by kernel_rfl) ?_
            simp only [Act.put, List.setIfInBounds_toArray, List.set_cons_zero, List.set_cons_succ]
            refine dw_no (by kernel_rfl) ?_
            simp only [Act.put, List.setIfInBounds_toArray, List.set_cons_zero, List.set_cons_succ]
            refine dw_no (by kernel_rfl) ?_
            simp only [Act.put, List.setIfInBounds_toArray, List.set_cons_zero, List.set_cons_succ]
            refine dw_no (by kernel_rfl) ?_
            simp only [Act.put, List.setIfInBounds_toArray, List.set_cons_zero, List.set_cons_succ]
            refine dw_no (by kernel_rfl) ?_
            simp only [Act.put, List.setIfInBounds_toArray, List.set_cons_zero, List.set_cons_succ]
            refine dw_val (by kernel_rfl) (.bool true) (by kernel_rfl) ?_
            simp only [Act.put, List.setIfInBounds_toArray, List.set_cons_zero, List.set_cons_succ]
            refine wl_nil ?_
            skip
            exact hJK6 _ _ _ _ _ _ _ _ _ _ _ _ _ _ _ _ _ _ _ _ _ _ _ _ _ _ _ _ _ _ _ _ _ undef true _ (by unfold spanB; simp at c6 c12 c13 c14; first | (simp [c6, c12, c13, c14]; done) | (simp; omega) | (simp; grind)) hBn1 hBn3 hT0
          · skip
            replace c14 := of_decide_eq_false c14
            simp only [Act.put, List.setIfInBounds_toArray, List.set_cons_zero, List.set_cons_succ]
            refine dw_val (by kernel_rfl) (.pointer (some ⟨n1, 8, none⟩)) (by kernel_rfl) ?_
            simp only [Act.put, List.setIfInBounds_toArray, List.set_cons_zero, List.set_cons_succ]
            refine dw_val (by kernel_rfl) (.pointer (some ⟨n1, 9, none⟩)) (ev_arr 41 3 2 (.tmp 57) (.const (.int .i64 1)) rfl n1 8 1 1 .i64 rfl rfl (by decide) Try.underlying41 (by kernel_rfl) (9) (by omega)) ?_
            simp only [Act.put, List.setIfInBounds_toArray, List.set_cons_zero, List.set_cons_succ]
            refine dw_cell (by kernel_rfl) 3 (.tmp 58) rfl n1 9 rfl _ _ hBn1 (.int .i64 r.d1) rfl _ Try.underlying3 rfl ?_
            simp only [Act.put, List.setIfInBounds_toArray, List.set_cons_zero, List.set_cons_succ]
            refine dw_val (by kernel_rfl) (.pointer (some ⟨n3, 8, none⟩)) (by kernel_rfl) ?_
            simp only [Act.put, List.setIfInBounds_toArray, List.set_cons_zero, List.set_cons_succ]
            refine dw_val (by kernel_rfl) (.pointer (some ⟨n3, 9, none⟩)) (ev_arr 41 3 2 (.tmp 60) (.const (.int .i64 1)) rfl n3 8 1 1 .i64 rfl rfl (by decide) Try.underlying41 (by kernel_rfl) (9) (by omega)) ?_
            simp only [Act.put, List.setIfInBounds_toArray, List.set_cons_zero, List.set_cons_succ]
            refine dw_cell (by kernel_rfl) 3 (.tmp 61) rfl n3 9 rfl _ _ hBn3 (.int .i64 q.d1) rfl _ Try.underlying3 rfl ?_
            simp only [Act.put, List.setIfInBounds_toArray, List.set_cons_zero, List.set_cons_succ]
            refine dw_val (by kernel_rfl) (.bool (decide (r.d1 < q.d1))) (by kernel_rfl) ?_
            simp only [Act.put, List.setIfInBounds_toArray, List.set_cons_zero, List.set_cons_succ]
            refine dw_val (by kernel_rfl) (.bool (decide (r.d1 < q.d1))) (by kernel_rfl) ?_
            simp only [Act.put, List.setIfInBounds_toArray, List.set_cons_zero, List.set_cons_succ]
            refine wl_nil ?_
            skip
            exact hJK6 _ _ _ _ _ _ _ _ _ _ _ _ _ _ _ _ _ _ _ _ _ _ _ _ _ _ _ _ _ _ _ _ _ undef (decide (r.d1 < q.d1)) _ (by unfold spanB; simp at c6 c12 c13 c14; first | (simp [c6, c12, c13, c14]; done) | (simp; omega) | (simp; grind)) hBn1 hBn3 hT0
  refine wl_region ?_
  refine dw_val (by kernel_rfl) (.pointer (some ⟨n1, 1, none⟩)) (by kernel_rfl) ?_
  simp only [Act.put, List.setIfInBounds_toArray, List.set_cons_zero, List.set_cons_succ]
  refine dw_cell (by kernel_rfl) 3 (.tmp 5) rfl n1 1 rfl _ _ hBn1 (.int .i64 r.side) rfl _ Try.underlying3 rfl ?_
  simp only [Act.put, List.setIfInBounds_toArray, List.set_cons_zero, List.set_cons_succ]
  refine dw_val (by kernel_rfl) (.bool (r.side != 0)) (by kernel_rfl) ?_
  simp only [Act.put, List.setIfInBounds_toArray, List.set_cons_zero, List.set_cons_succ]
  refine dw_bool (by kernel_rfl) (r.side != 0) (by kernel_rfl) (fun c15 => ?_) (fun c15 => ?_)
  · skip
    simp only [Act.put, List.setIfInBounds_toArray, List.set_cons_zero, List.set_cons_succ]
    refine dw_val (by kernel_rfl) (.pointer (some ⟨n1, 1, none⟩)) (by kernel_rfl) ?_
    simp only [Act.put, List.setIfInBounds_toArray, List.set_cons_zero, List.set_cons_succ]
    refine dw_cell (by kernel_rfl) 3 (.tmp 9) rfl n1 1 rfl _ _ hBn1 (.int .i64 r.side) rfl _ Try.underlying3 rfl ?_
    simp only [Act.put, List.setIfInBounds_toArray, List.set_cons_zero, List.set_cons_succ]
    refine dw_val (by kernel_rfl) (.pointer (some ⟨n3, 1, none⟩)) (by kernel_rfl) ?_
    simp only [Act.put, List.setIfInBounds_toArray, List.set_cons_zero, List.set_cons_succ]
    refine dw_cell (by kernel_rfl) 3 (.tmp 11) rfl n3 1 rfl _ _ hBn3 (.int .i64 q.side) rfl _ Try.underlying3 rfl ?_
    simp only [Act.put, List.setIfInBounds_toArray, List.set_cons_zero, List.set_cons_succ]
    refine dw_val (by kernel_rfl) (.bool (r.side != q.side)) (by kernel_rfl) ?_
    simp only [Act.put, List.setIfInBounds_toArray, List.set_cons_zero, List.set_cons_succ]
    refine dw_val (by kernel_rfl) (.bool (r.side != q.side)) (by kernel_rfl) ?_
    simp only [Act.put, List.setIfInBounds_toArray, List.set_cons_zero, List.set_cons_succ]
    refine dw_bool (by kernel_rfl) (r.side != q.side) (by kernel_rfl) (fun c16 => ?_) (fun c16 => ?_)
    · skip
      simp only [Act.put, List.setIfInBounds_toArray, List.set_cons_zero, List.set_cons_succ]
      refine dw_no (by kernel_rfl) ?_
      simp only [Act.put, List.setIfInBounds_toArray, List.set_cons_zero, List.set_cons_succ]
      refine dw_no (by kernel_rfl) ?_
      simp only [Act.put, List.setIfInBounds_toArray, List.set_cons_zero, List.set_cons_succ]
      refine dw_no (by kernel_rfl) ?_
      simp only [Act.put, List.setIfInBounds_toArray, List.set_cons_zero, List.set_cons_succ]
      refine dw_no (by kernel_rfl) ?_
      simp only [Act.put, List.setIfInBounds_toArray, List.set_cons_zero, List.set_cons_succ]
      refine dw_no (by kernel_rfl) ?_
      simp only [Act.put, List.setIfInBounds_toArray, List.set_cons_zero, List.set_cons_succ]
      refine dw_no (by kernel_rfl) ?_
      simp only [Act.put, List.setIfInBounds_toArray, List.set_cons_zero, List.set_cons_succ]
      refine dw_val (by kernel_rfl) (.bool true) (by kernel_rfl) ?_
      simp only [Act.put, List.setIfInBounds_toArray, List.set_cons_zero, List.set_cons_succ]
      refine dw_val (by kernel_rfl) (.bool true) (by kernel_rfl) ?_
      simp only [Act.put, List.setIfInBounds_toArray, List.set_cons_zero, List.set_cons_succ]
      refine dw_no (by kernel_rfl) ?_
      simp only [Act.put, List.setIfInBounds_toArray, List.set_cons_zero, List.set_cons_succ]
      refine dw_no (by kernel_rfl) ?_
      simp only [Act.put, List.setIfInBounds_toArray, List.set_cons_zero, List.set_cons_succ]
      refine dw_no (by kernel_rfl) ?_
      simp only [Act.put, List.setIfInBounds_toArray, List.set_cons_zero, List.set_cons_succ]
      refine dw_no (by kernel_rfl) ?_
      simp only [Act.put, List.setIfInBounds_toArray, List.set_cons_zero, List.set_cons_succ]
      refine dw_no (by kernel_rfl) ?_
      simp only [Act.put, List.setIfInBounds_toArray, List.set_cons_zero, List.set_cons_succ]
      refine dw_no (by kernel_rfl) ?_
      simp only [Act.put, List.setIfInBounds_toArray, List.set_cons_zero, List.set_cons_succ]
      refine dw_val (by kernel_rfl) (.bool true) (by kernel_rfl) ?_
      simp only [Act.put, List.setIfInBounds_toArray, List.set_cons_zero, List.set_cons_succ]
      refine wl_nil ?_
      skip
      exact hJK3 _ _ _ _ _ _ _ _ _ _ _ _ _ _ _ _ _ _ _ _ _ _ _ _ _ undef true _ (by unfold sideB; simp at c15 c16; simp [c15, c16]) hBn1 hBn3 hT0
    · skip
      simp only [Act.put, List.setIfInBounds_toArray, List.set_cons_zero, List.set_cons_succ]
      refine dw_val (by kernel_rfl) (.pointer (some ⟨n1, 2, none⟩)) (by kernel_rfl) ?_
      simp only [Act.put, List.setIfInBounds_toArray, List.set_cons_zero, List.set_cons_succ]
      refine dw_row (by kernel_rfl) 40 (.tmp 16) rfl n1 2 rfl _ _ hBn1 [(.string r.fb : Value), .int .i64 r.fn] rfl _ Try.underlying40 rfl (by kernel_rfl) ?_
      simp only [Act.put, List.setIfInBounds_toArray, List.set_cons_zero, List.set_cons_succ]
      refine dw_val (by kernel_rfl) (.pointer (some ⟨n3, 2, none⟩)) (by kernel_rfl) ?_
      simp only [Act.put, List.setIfInBounds_toArray, List.set_cons_zero, List.set_cons_succ]
      refine dw_row (by kernel_rfl) 40 (.tmp 18) rfl n3 2 rfl _ _ hBn3 [(.string q.fb : Value), .int .i64 q.fn] rfl _ Try.underlying40 rfl (by kernel_rfl) ?_
      simp only [Act.put, List.setIfInBounds_toArray, List.set_cons_zero, List.set_cons_succ]
      refine dw_ret (by kernel_rfl) 42 #[(.agg #[(.string r.fb : Value), .int .i64 r.fn] : Value), .agg #[(.string q.fb : Value), .int .i64 q.fn]] (by kernel_rfl) (rcovers_any r.fb r.fn q.fb q.fn (by first | assumption | omega) (by first | assumption | omega) w4) ?_
      intro w17 hb
      have ht18 : Touch (fun _ => False) w4 w17 := Touch.none hb
      replace hBn1 := hBn1.keep ht18 (fun h => h)
      replace hBn3 := hBn3.keep ht18 (fun h => h)
      replace hT0 := hT0.trans ht18 (fun _ _ h => h.elim)
      clear hb
      simp only [Act.put, List.setIfInBounds_toArray, List.set_cons_zero, List.set_cons_succ]
      refine dw_val (by kernel_rfl) (.bool (!(coverB r.fb r.fn q.fb q.fn))) (by kernel_rfl) ?_
      simp only [Act.put, List.setIfInBounds_toArray, List.set_cons_zero, List.set_cons_succ]
      refine dw_val (by kernel_rfl) (.bool (!(coverB r.fb r.fn q.fb q.fn))) (by kernel_rfl) ?_
      simp only [Act.put, List.setIfInBounds_toArray, List.set_cons_zero, List.set_cons_succ]
      refine dw_bool (by kernel_rfl) (!(coverB r.fb r.fn q.fb q.fn)) (by kernel_rfl) (fun c19 => ?_) (fun c19 => ?_)
      · skip
        simp only [Act.put, List.setIfInBounds_toArray, List.set_cons_zero, List.set_cons_succ]
        refine dw_no (by kernel_rfl) ?_
        simp only [Act.put, List.setIfInBounds_toArray, List.set_cons_zero, List.set_cons_succ]
        refine dw_no (by kernel_rfl) ?_
        simp only [Act.put, List.setIfInBounds_toArray, List.set_cons_zero, List.set_cons_succ]
        refine dw_no (by kernel_rfl) ?_
        simp only [Act.put, List.setIfInBounds_toArray, List.set_cons_zero, List.set_cons_succ]
        refine dw_no (by kernel_rfl) ?_
        simp only [Act.put, List.setIfInBounds_toArray, List.set_cons_zero, List.set_cons_succ]
        refine dw_no (by kernel_rfl) ?_
        simp only [Act.put, List.setIfInBounds_toArray, List.set_cons_zero, List.set_cons_succ]
        refine dw_no (by kernel_rfl) ?_
        simp only [Act.put, List.setIfInBounds_toArray, List.set_cons_zero, List.set_cons_succ]
        refine dw_val (by kernel_rfl) (.bool true) (by kernel_rfl) ?_
        simp only [Act.put, List.setIfInBounds_toArray, List.set_cons_zero, List.set_cons_succ]
        refine wl_nil ?_
        skip
        exact hJK3 _ _ _ _ _ _ _ _ _ _ _ _ _ _ _ _ _ _ _ _ _ _ _ _ _ undef true _ (by unfold sideB; simp at c15 c16 c19; simp [c15, c16, c19]) hBn1 hBn3 hT0
      · skip
        simp only [Act.put, List.setIfInBounds_toArray, List.set_cons_zero, List.set_cons_succ]
        refine dw_val (by kernel_rfl) (.pointer (some ⟨n1, 4, none⟩)) (by kernel_rfl) ?_
        simp only [Act.put, List.setIfInBounds_toArray, List.set_cons_zero, List.set_cons_succ]
        refine dw_row (by kernel_rfl) 40 (.tmp 24) rfl n1 4 rfl _ _ hBn1 [(.string r.tb : Value), .int .i64 r.tn] rfl _ Try.underlying40 rfl (by kernel_rfl) ?_
        simp only [Act.put, List.setIfInBounds_toArray, List.set_cons_zero, List.set_cons_succ]
        refine dw_val (by kernel_rfl) (.pointer (some ⟨n3, 4, none⟩)) (by kernel_rfl) ?_
        simp only [Act.put, List.setIfInBounds_toArray, List.set_cons_zero, List.set_cons_succ]
        refine dw_row (by kernel_rfl) 40 (.tmp 26) rfl n3 4 rfl _ _ hBn3 [(.string q.tb : Value), .int .i64 q.tn] rfl _ Try.underlying40 rfl (by kernel_rfl) ?_
        simp only [Act.put, List.setIfInBounds_toArray, List.set_cons_zero, List.set_cons_succ]
        refine dw_ret (by kernel_rfl) 42 #[(.agg #[(.string r.tb : Value), .int .i64 r.tn] : Value), .agg #[(.string q.tb : Value), .int .i64 q.tn]] (by kernel_rfl) (rcovers_any r.tb r.tn q.tb q.tn (by first | assumption | omega) (by first | assumption | omega) w17) ?_
        intro w20 hb
        have ht21 : Touch (fun _ => False) w17 w20 := Touch.none hb
        replace hBn1 := hBn1.keep ht21 (fun h => h)
        replace hBn3 := hBn3.keep ht21 (fun h => h)
        replace hT0 := hT0.trans ht21 (fun _ _ h => h.elim)
        clear hb
        simp only [Act.put, List.setIfInBounds_toArray, List.set_cons_zero, List.set_cons_succ]
        refine dw_val (by kernel_rfl) (.bool (!(coverB r.tb r.tn q.tb q.tn))) (by kernel_rfl) ?_
        simp only [Act.put, List.setIfInBounds_toArray, List.set_cons_zero, List.set_cons_succ]
        refine dw_val (by kernel_rfl) (.bool (!(coverB r.tb r.tn q.tb q.tn))) (by kernel_rfl) ?_
        simp only [Act.put, List.setIfInBounds_toArray, List.set_cons_zero, List.set_cons_succ]
        refine wl_nil ?_
        skip
        exact hJK3 _ _ _ _ _ _ _ _ _ _ _ _ _ _ _ _ _ _ _ _ _ _ _ _ _ undef (!(coverB r.tb r.tn q.tb q.tn)) _ (by unfold sideB; simp at c15 c16 c19; simp [c15, c16, c19]) hBn1 hBn3 hT0
  · skip
    simp only [Act.put, List.setIfInBounds_toArray, List.set_cons_zero, List.set_cons_succ]
    refine dw_no (by kernel_rfl) ?_
    simp only [Act.put, List.setIfInBounds_toArray, List.set_cons_zero, List.set_cons_succ]
    refine dw_no (by kernel_rfl) ?_
    simp only [Act.put, List.setIfInBounds_toArray, List.set_cons_zero, List.set_cons_succ]
    refine dw_no (by kernel_rfl) ?_
    simp only [Act.put, List.setIfInBounds_toArray, List.set_cons_zero, List.set_cons_succ]
    refine dw_no (by kernel_rfl) ?_
    simp only [Act.put, List.setIfInBounds_toArray, List.set_cons_zero, List.set_cons_succ]
    refine dw_no (by kernel_rfl) ?_
    simp only [Act.put, List.setIfInBounds_toArray, List.set_cons_zero, List.set_cons_succ]
    refine dw_val (by kernel_rfl) (.bool false) (by kernel_rfl) ?_
    simp only [Act.put, List.setIfInBounds_toArray, List.set_cons_zero, List.set_cons_succ]
    refine dw_val (by kernel_rfl) (.bool false) (by kernel_rfl) ?_
    simp only [Act.put, List.setIfInBounds_toArray, List.set_cons_zero, List.set_cons_succ]
    refine dw_val (by kernel_rfl) (.pointer (some ⟨n1, 2, none⟩)) (by kernel_rfl) ?_
    simp only [Act.put, List.setIfInBounds_toArray, List.set_cons_zero, List.set_cons_succ]
    refine dw_row (by kernel_rfl) 40 (.tmp 16) rfl n1 2 rfl _ _ hBn1 [(.string r.fb : Value), .int .i64 r.fn] rfl _ Try.underlying40 rfl (by kernel_rfl) ?_
    simp only [Act.put, List.setIfInBounds_toArray, List.set_cons_zero, List.set_cons_succ]
    refine dw_val (by kernel_rfl) (.pointer (some ⟨n3, 2, none⟩)) (by kernel_rfl) ?_
    simp only [Act.put, List.setIfInBounds_toArray, List.set_cons_zero, List.set_cons_succ]
    refine dw_row (by kernel_rfl) 40 (.tmp 18) rfl n3 2 rfl _ _ hBn3 [(.string q.fb : Value), .int .i64 q.fn] rfl _ Try.underlying40 rfl (by kernel_rfl) ?_
    simp only [Act.put, List.setIfInBounds_toArray, List.set_cons_zero, List.set_cons_succ]
    refine dw_ret (by kernel_rfl) 42 #[(.agg #[(.string r.fb : Value), .int .i64 r.fn] : Value), .agg #[(.string q.fb : Value), .int .i64 q.fn]] (by kernel_rfl) (rcovers_any r.fb r.fn q.fb q.fn (by first | assumption | omega) (by first | assumption | omega) w4) ?_
    intro w22 hb
    have ht23 : Touch (fun _ => False) w4 w22 := Touch.none hb
    replace hBn1 := hBn1.keep ht23 (fun h => h)
    replace hBn3 := hBn3.keep ht23 (fun h => h)
    replace hT0 := hT0.trans ht23 (fun _ _ h => h.elim)
    clear hb
    simp only [Act.put, List.setIfInBounds_toArray, List.set_cons_zero, List.set_cons_succ]
    refine dw_val (by kernel_rfl) (.bool (!(coverB r.fb r.fn q.fb q.fn))) (by kernel_rfl) ?_
    simp only [Act.put, List.setIfInBounds_toArray, List.set_cons_zero, List.set_cons_succ]
    refine dw_val (by kernel_rfl) (.bool (!(coverB r.fb r.fn q.fb q.fn))) (by kernel_rfl) ?_
    simp only [Act.put, List.setIfInBounds_toArray, List.set_cons_zero, List.set_cons_succ]
    refine dw_bool (by kernel_rfl) (!(coverB r.fb r.fn q.fb q.fn)) (by kernel_rfl) (fun c24 => ?_) (fun c24 => ?_)
    · skip
      simp only [Act.put, List.setIfInBounds_toArray, List.set_cons_zero, List.set_cons_succ]
      refine dw_no (by kernel_rfl) ?_
      simp only [Act.put, List.setIfInBounds_toArray, List.set_cons_zero, List.set_cons_succ]
      refine dw_no (by kernel_rfl) ?_
      simp only [Act.put, List.setIfInBounds_toArray, List.set_cons_zero, List.set_cons_succ]
      refine dw_no (by kernel_rfl) ?_
      simp only [Act.put, List.setIfInBounds_toArray, List.set_cons_zero, List.set_cons_succ]
      refine dw_no (by kernel_rfl) ?_
      simp only [Act.put, List.setIfInBounds_toArray, List.set_cons_zero, List.set_cons_succ]
      refine dw_no (by kernel_rfl) ?_
      simp only [Act.put, List.setIfInBounds_toArray, List.set_cons_zero, List.set_cons_succ]
      refine dw_no (by kernel_rfl) ?_
      simp only [Act.put, List.setIfInBounds_toArray, List.set_cons_zero, List.set_cons_succ]
      refine dw_val (by kernel_rfl) (.bool true) (by kernel_rfl) ?_
      simp only [Act.put, List.setIfInBounds_toArray, List.set_cons_zero, List.set_cons_succ]
      refine wl_nil ?_
      skip
      exact hJK3 _ _ _ _ _ _ _ _ _ _ _ _ _ _ _ _ _ _ _ _ _ _ _ _ _ undef true _ (by unfold sideB; simp at c15 c24; simp [c15, c24]) hBn1 hBn3 hT0
    · skip
      simp only [Act.put, List.setIfInBounds_toArray, List.set_cons_zero, List.set_cons_succ]
      refine dw_val (by kernel_rfl) (.pointer (some ⟨n1, 4, none⟩)) (by kernel_rfl) ?_
      simp only [Act.put, List.setIfInBounds_toArray, List.set_cons_zero, List.set_cons_succ]
      refine dw_row (by kernel_rfl) 40 (.tmp 24) rfl n1 4 rfl _ _ hBn1 [(.string r.tb : Value), .int .i64 r.tn] rfl _ Try.underlying40 rfl (by kernel_rfl) ?_
      simp only [Act.put, List.setIfInBounds_toArray, List.set_cons_zero, List.set_cons_succ]
      refine dw_val (by kernel_rfl) (.pointer (some ⟨n3, 4, none⟩)) (by kernel_rfl) ?_
      simp only [Act.put, List.setIfInBounds_toArray, List.set_cons_zero, List.set_cons_succ]
      refine dw_row (by kernel_rfl) 40 (.tmp 26) rfl n3 4 rfl _ _ hBn3 [(.string q.tb : Value), .int .i64 q.tn] rfl _ Try.underlying40 rfl (by kernel_rfl) ?_
      simp only [Act.put, List.setIfInBounds_toArray, List.set_cons_zero, List.set_cons_succ]
      refine dw_ret (by kernel_rfl) 42 #[(.agg #[(.string r.tb : Value), .int .i64 r.tn] : Value), .agg #[(.string q.tb : Value), .int .i64 q.tn]] (by kernel_rfl) (rcovers_any r.tb r.tn q.tb q.tn (by first | assumption | omega) (by first | assumption | omega) w22) ?_
      intro w25 hb
      have ht26 : Touch (fun _ => False) w22 w25 := Touch.none hb
      replace hBn1 := hBn1.keep ht26 (fun h => h)
      replace hBn3 := hBn3.keep ht26 (fun h => h)
      replace hT0 := hT0.trans ht26 (fun _ _ h => h.elim)
      clear hb
      simp only [Act.put, List.setIfInBounds_toArray, List.set_cons_zero, List.set_cons_succ]
      refine dw_val (by kernel_rfl) (.bool (!(coverB r.tb r.tn q.tb q.tn))) (by kernel_rfl) ?_
      simp only [Act.put, List.setIfInBounds_toArray, List.set_cons_zero, List.set_cons_succ]
      refine dw_val (by kernel_rfl) (.bool (!(coverB r.tb r.tn q.tb q.tn))) (by kernel_rfl) ?_
      simp only [Act.put, List.setIfInBounds_toArray, List.set_cons_zero, List.set_cons_succ]
      refine wl_nil ?_
      skip
      exact hJK3 _ _ _ _ _ _ _ _ _ _ _ _ _ _ _ _ _ _ _ _ _ _ _ _ _ undef (!(coverB r.tb r.tn q.tb q.tn)) _ (by unfold sideB; simp at c15 c24; simp [c15, c24]) hBn1 hBn3 hT0
end Go.Proofs.Ytolkimdfnlfpbaa
