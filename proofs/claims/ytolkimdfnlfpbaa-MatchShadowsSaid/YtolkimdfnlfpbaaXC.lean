/- What the reference's Shadowed and the law's all answer. Conditions: the rules stand there, and are right. -/
import Derived.Test.YtolkimdfnlfpbaaV
import Derived.Test.YtolkimdfnlfpbaaDw2
import Derived.Test.YtolkimdfnlfpbaaXB
set_option linter.unusedVariables false
set_option linter.unusedSimpArgs false
namespace Go.Proofs.Ytolkimdfnlfpbaa
open Go.RowKit
def shadU (R : Nat → Rl) (i j : Nat) : Bool := (List.range j).any fun k => coversB (R k) (R i)
theorem shadU_succ (R : Nat → Rl) (i j : Nat) : shadU R i (j + 1) = (shadU R i j || coversB (R j) (R i)) := by
  unfold shadU; rw [List.range_succ, List.any_append]; simp
def NandOk (R : Nat → Rl) (len : Nat) : Prop := ∀ i j, i < len → j < len → (andI (R i).mask (R j).mask == (R i).mask) = nandB (R i).mask (R j).mask ∧ (andI (R j).classes (R i).classes == (R j).classes) = nandB (R j).classes (R i).classes
set_option maxRecDepth 100000 in
set_option maxHeartbeats 4000000 in
theorem rshadowed_any (ad : Option Addr) (len cap : Nat) (R : Nat → Rl) (w : World) (hR : RulesAt w ad len R) (hlc : len ≤ cap) (hcap : cap ≤ maxLen) (h60 : len ≤ 60) (hl : LightAll R len) (hnd : NandOk R len) :
    Calls Try.prog 22 #[.slice ad len cap] w fun e w' => ∃ v, e = .returned v ∧ w'.ownsRow w.heap.size 3 1 v (shadL R len).length (ints (shadL R len)) ∧ Below w.heap.size w w' := by
  obtain ⟨i0, hi, hz0, hz1, hz2⟩ := info_parts info3
  have hT0 := Touch.refl (fun _ => False) w
  go_enter Try.func22, Try.ntmps22
  refine wp_seq_k fun K1 hK1 => ?_
  refine wl_region ?_
  refine dw_val (by kernel_rfl) (.slice none 0 0) (by kernel_rfl) ?_
  simp only [Act.put, List.setIfInBounds_toArray, List.set_cons_zero, List.set_cons_succ]
  refine wl_nil ?_
  refine hK1 _ _ ?_
  refine wp_seq_k fun K2 hK2 => ?_
  refine wl_region ?_
  refine dw_val (by kernel_rfl) (.slice none 0 0) (by kernel_rfl) ?_
  simp only [Act.put, List.setIfInBounds_toArray, List.set_cons_zero, List.set_cons_succ]
  refine wl_nil ?_
  refine hK2 _ _ ?_
  refine wp_seq_k fun K3 hK3 => ?_
  refine wp_seq_k fun K4 hK4 => ?_
  refine wl_region ?_
  refine dw_val (by kernel_rfl) (.int .i64 0) (by kernel_rfl) ?_
  simp only [Act.put, List.setIfInBounds_toArray, List.set_cons_zero, List.set_cons_succ]
  refine wl_nil ?_
  refine hK4 _ _ ?_
  refine wp_block ?_
  refine wp_loop (fun (aL : Act) (wL : World) => ∃ (k : Nat), ∃ (v : Value), ∃ (u7_0 u8_0 u9_0 u10_0 u5_0 u6_0 u13_0 u14_0 u15_0 u18_0 u19_0 u20_0 u21_0 u22_0 u23_0 u24_0 u25_0 u26_0 u27_0 u28_0 u29_0 u16_0 u17_0 u30_0 u31_0 u32_0 u33_0 u34_0 u11_0 u12_0 : Value), (k ≤ len) ∧ (wL.ownsRow w.heap.size 3 1 v (shadL R k).length (ints (shadL R k))) ∧ Touch (fun _ => False) w wL ∧ aL = ⟨#[(.slice ad len cap : Value), undef, .slice none 0 0, v, .int .i64 (k : Int), u5_0, u6_0, u7_0, u8_0, u9_0, u10_0, u11_0, u12_0, u13_0, u14_0, u15_0, u16_0, u17_0, u18_0, u19_0, u20_0, u21_0, u22_0, u23_0, u24_0, u25_0, u26_0, u27_0, u28_0, u29_0, u30_0, u31_0, u32_0, u33_0, u34_0, undef], []⟩) (fun (aL : Act) (wL : World) => len - (intOf (aL.tmps.getD 4 undef)).toNat) ?_ ?_
  · exact ⟨0, (.slice none 0 0), undef, undef, undef, undef, undef, undef, undef, undef, undef, undef, undef, undef, undef, undef, undef, undef, undef, undef, undef, undef, undef, undef, undef, undef, undef, undef, undef, undef, undef, undef, (Nat.zero_le _), (World.ownsRow_nil _ _ _ _), hT0, rfl⟩
  · intro aL w1 hI
    clear hT0
    obtain ⟨k, v, u7_0, u8_0, u9_0, u10_0, u5_0, u6_0, u13_0, u14_0, u15_0, u18_0, u19_0, u20_0, u21_0, u22_0, u23_0, u24_0, u25_0, u26_0, u27_0, u28_0, u29_0, u16_0, u17_0, u30_0, u31_0, u32_0, u33_0, u34_0, u11_0, u12_0, hk, hown, hT0, rfl⟩ := hI
    by_cases hlt : k < len
    · have hf := lightR_facts (hl k hlt)
      obtain ⟨b, off, hab, hbs, -⟩ := hR k hlt
      subst hab
      refine wp_seq_k fun K5 hK5 => ?_
      refine wp_seq_k fun K6 hK6 => ?_
      refine wl_region ?_
      refine dw_val (by kernel_rfl) (.int .i64 (k : Int)) (by kernel_rfl) ?_
      simp only [Act.put, List.setIfInBounds_toArray, List.set_cons_zero, List.set_cons_succ]
      refine dw_val (by kernel_rfl) (.slice (some ⟨b, off, none⟩) len cap) (by kernel_rfl) ?_
      simp only [Act.put, List.setIfInBounds_toArray, List.set_cons_zero, List.set_cons_succ]
      refine dw_val (by kernel_rfl) (.int .i64 (len : Int)) (by kernel_rfl) ?_
      simp only [Act.put, List.setIfInBounds_toArray, List.set_cons_zero, List.set_cons_succ]
      refine dw_bool (by kernel_rfl) (decide ((k : Int) < (len : Int))) (by kernel_rfl) (fun hc => ?_) (fun hc => absurd hc (by simp; omega))
      simp only [Act.put, List.setIfInBounds_toArray, List.set_cons_zero, List.set_cons_succ]
      refine wl_nil ?_
      refine hK6 _ _ ?_
      refine wp_cond_true rfl ?_
      refine wp_skip ?_
      refine hK5 _ _ ?_
      refine wp_seq_k fun K7 hK7 => ?_
      refine wp_block ?_
      refine wp_seq_k fun K8 hK8 => ?_
      refine wl_region ?_
      refine dw_val (by kernel_rfl) (.bool false) (by kernel_rfl) ?_
      simp only [Act.put, List.setIfInBounds_toArray, List.set_cons_zero, List.set_cons_succ]
      refine wl_nil ?_
      refine hK8 _ _ ?_
      refine wp_seq_k fun K9 hK9 => ?_
      refine wp_seq_k fun K10 hK10 => ?_
      refine wl_region ?_
      refine dw_val (by kernel_rfl) (.int .i64 0) (by kernel_rfl) ?_
      simp only [Act.put, List.setIfInBounds_toArray, List.set_cons_zero, List.set_cons_succ]
      refine wl_nil ?_
      refine hK10 _ _ ?_
      refine wp_block ?_
      refine wp_loop (fun (aL : Act) (wL : World) => ∃ (j : Nat), ∃ (bb : Bool), ∃ (u13_1 u14_1 u15_1 u18_1 u19_1 u20_1 u21_1 u22_1 u23_1 u24_1 u25_1 u26_1 u27_1 u28_1 u29_1 u16_1 u17_1 : Value), (j ≤ k) ∧ (bb = shadU R k j) ∧ (wL.ownsRow w.heap.size 3 1 v (shadL R k).length (ints (shadL R k))) ∧ Touch (fun _ => False) w wL ∧ aL = ⟨#[(.slice (some ⟨b, off, none⟩) len cap : Value), undef, .slice none 0 0, v, .int .i64 (k : Int), .bool (bb), .int .i64 (j : Int), .int .i64 (k : Int), .slice (some ⟨b, off, none⟩) len cap, .int .i64 (len : Int), .bool true, u11_0, u12_0, u13_1, u14_1, u15_1, u16_1, u17_1, u18_1, u19_1, u20_1, u21_1, u22_1, u23_1, u24_1, u25_1, u26_1, u27_1, u28_1, u29_1, u30_0, u31_0, u32_0, u33_0, u34_0, undef], []⟩) (fun (aL : Act) (wL : World) => k - (intOf (aL.tmps.getD 6 undef)).toNat) ?_ ?_
      · exact ⟨0, false, u13_0, u14_0, u15_0, u18_0, u19_0, u20_0, u21_0, u22_0, u23_0, u24_0, u25_0, u26_0, u27_0, u28_0, u29_0, u16_0, u17_0, (Nat.zero_le _), rfl, hown, hT0, rfl⟩
      · intro aL w2 hI
        clear hT0 hown
        obtain ⟨j, bb, u13_1, u14_1, u15_1, u18_1, u19_1, u20_1, u21_1, u22_1, u23_1, u24_1, u25_1, u26_1, u27_1, u28_1, u29_1, u16_1, u17_1, hj, hbb, hown, hT0, rfl⟩ := hI
        by_cases hjk : j < k
        · have hjl : j < len := by omega
          have hfj := lightR_facts (hl j hjl)
          refine wp_seq_k fun K11 hK11 => ?_
          refine wp_seq_k fun K12 hK12 => ?_
          refine wl_region ?_
          refine dw_val (by kernel_rfl) (.int .i64 (j : Int)) (by kernel_rfl) ?_
          simp only [Act.put, List.setIfInBounds_toArray, List.set_cons_zero, List.set_cons_succ]
          refine dw_val (by kernel_rfl) (.int .i64 (k : Int)) (by kernel_rfl) ?_
          simp only [Act.put, List.setIfInBounds_toArray, List.set_cons_zero, List.set_cons_succ]
          refine dw_bool (by kernel_rfl) (decide ((j : Int) < (k : Int))) (by kernel_rfl) (fun hc => ?_) (fun hc => absurd hc (by simp; omega))
          simp only [Act.put, List.setIfInBounds_toArray, List.set_cons_zero, List.set_cons_succ]
          refine wl_nil ?_
          refine hK12 _ _ ?_
          refine wp_cond_true rfl ?_
          refine wp_skip ?_
          refine hK11 _ _ ?_
          refine wp_seq_k fun K13 hK13 => ?_
          refine wp_block ?_
          refine wq_region (Touch (fun _ => False) w2) (by kernel_rfl) (by kernel_rfl) (Touch.refl _ _).drew ?_
          refine dq_val (by kernel_rfl) (.bool (bb)) (fun w' _ => by kernel_rfl) ?_
          simp only [Act.put, List.setIfInBounds_toArray, List.set_cons_zero, List.set_cons_succ]
          refine dq_bool (by kernel_rfl) (bb) (fun w' _ => by kernel_rfl) (fun c3 => ?_) (fun c3 => ?_)
          · skip
            simp only [Act.put, List.setIfInBounds_toArray, List.set_cons_zero, List.set_cons_succ]
            refine dq_no (by kernel_rfl) ?_
            simp only [Act.put, List.setIfInBounds_toArray, List.set_cons_zero, List.set_cons_succ]
            refine dq_no (by kernel_rfl) ?_
            simp only [Act.put, List.setIfInBounds_toArray, List.set_cons_zero, List.set_cons_succ]
            refine dq_no (by kernel_rfl) ?_
            simp only [Act.put, List.setIfInBounds_toArray, List.set_cons_zero, List.set_cons_succ]
            refine dq_no (by kernel_rfl) ?_
            simp only [Act.put, List.setIfInBounds_toArray, List.set_cons_zero, List.set_cons_succ]
            refine dq_no (by kernel_rfl) ?_
            simp only [Act.put, List.setIfInBounds_toArray, List.set_cons_zero, List.set_cons_succ]
            refine dq_no (by kernel_rfl) ?_
            simp only [Act.put, List.setIfInBounds_toArray, List.set_cons_zero, List.set_cons_succ]
            refine dq_no (by kernel_rfl) ?_
            simp only [Act.put, List.setIfInBounds_toArray, List.set_cons_zero, List.set_cons_succ]
            refine dq_no (by kernel_rfl) ?_
            simp only [Act.put, List.setIfInBounds_toArray, List.set_cons_zero, List.set_cons_succ]
            refine dq_no (by kernel_rfl) ?_
            simp only [Act.put, List.setIfInBounds_toArray, List.set_cons_zero, List.set_cons_succ]
            refine dq_val (by kernel_rfl) (.bool true) (fun w' _ => by kernel_rfl) ?_
            simp only [Act.put, List.setIfInBounds_toArray, List.set_cons_zero, List.set_cons_succ]
            refine dq_val (by kernel_rfl) (.bool true) (fun w' _ => by kernel_rfl) ?_
            simp only [Act.put, List.setIfInBounds_toArray, List.set_cons_zero, List.set_cons_succ]
            refine wq_nil ?_
            intro w4 hT5
            replace hown := own_keep hown hT5 (fun _ _ _ h => h)
            replace hT0 := hT0.trans hT5 (fun _ _ h => h.elim)
            refine hK13 _ _ ?_
            refine wl_region ?_
            refine dw_val (by kernel_rfl) (.int .i64 (j : Int)) (by kernel_rfl) ?_
            simp only [Act.put, List.setIfInBounds_toArray, List.set_cons_zero, List.set_cons_succ]
            refine dw_val2 (by kernel_rfl) (.int .i64 (IntKind.i64.wrap ((j : Int) + 1))) (.int .i64 ((j + 1 : Nat) : Int)) (by kernel_rfl) (by rw [show IntKind.i64.wrap ((j : Int) + 1) = ((j + 1 : Nat) : Int) from by rw [IntWalk.i64_in _ (by omega)]; rfl]) ?_
            simp only [Act.put, List.setIfInBounds_toArray, List.set_cons_zero, List.set_cons_succ]
            refine dw_val (by kernel_rfl) (.int .i64 ((j + 1 : Nat) : Int)) (by kernel_rfl) ?_
            simp only [Act.put, List.setIfInBounds_toArray, List.set_cons_zero, List.set_cons_succ]
            refine wl_nil ?_
            refine then_normal ?_
            refine ⟨⟨(j + 1), true, (.int .i64 (j : Int)), (.int .i64 (k : Int)), (.bool true), (.bool (bb)), (.bool true), undef, undef, undef, undef, undef, undef, undef, undef, undef, (.bool true), (.int .i64 (j : Int)), (.int .i64 ((j + 1 : Nat) : Int)), (by omega), (by rw [shadU_succ, ← hbb, c3]; simp), hown, hT0, rfl⟩, ?_⟩
            simp [intOf]; omega
          · skip
            simp only [Act.put, List.setIfInBounds_toArray, List.set_cons_zero, List.set_cons_succ]
            refine dq_val (by kernel_rfl) (.slice (some ⟨b, off, none⟩) len cap) (fun w' _ => by kernel_rfl) ?_
            simp only [Act.put, List.setIfInBounds_toArray, List.set_cons_zero, List.set_cons_succ]
            refine dq_val (by kernel_rfl) (.int .i64 (j : Int)) (fun w' _ => by kernel_rfl) ?_
            simp only [Act.put, List.setIfInBounds_toArray, List.set_cons_zero, List.set_cons_succ]
            refine dq_val (by kernel_rfl) (.pointer (some ⟨b, off + j * 13, none⟩)) (fun w' _ => ev_index 49 45 (.tmp 20) (.tmp 21) rfl b off len cap j 13 .i64 rfl rfl (by omega) Try.underlying49 (by kernel_rfl) (off + j * 13) (by omega)) ?_
            simp only [Act.put, List.setIfInBounds_toArray, List.set_cons_zero, List.set_cons_succ]
            refine dq_val (by kernel_rfl) (.agg #[(.bool ((R j).acc) : Value), .int .i64 ((R j).side), .string ((R j).fb), .int .i64 ((R j).fn), .string ((R j).tb), .int .i64 ((R j).tn), .int .i64 ((R j).s0), .int .i64 ((R j).s1), .int .i64 ((R j).d0), .int .i64 ((R j).d1), .int .i64 ((R j).mask), .int .i64 ((R j).flags), .int .i64 ((R j).classes)]) (fun w' hC => ev_row 45 (.tmp 22) rfl b (off + j * 13) rfl (R j).cs (rules_range ((hR.keep hT0).keep hC) hjl) _ Try.underlying45 rfl (by kernel_rfl)) ?_
            simp only [Act.put, List.setIfInBounds_toArray, List.set_cons_zero, List.set_cons_succ]
            refine dq_val (by kernel_rfl) (.slice (some ⟨b, off, none⟩) len cap) (fun w' _ => by kernel_rfl) ?_
            simp only [Act.put, List.setIfInBounds_toArray, List.set_cons_zero, List.set_cons_succ]
            refine dq_val (by kernel_rfl) (.int .i64 (k : Int)) (fun w' _ => by kernel_rfl) ?_
            simp only [Act.put, List.setIfInBounds_toArray, List.set_cons_zero, List.set_cons_succ]
            refine dq_val (by kernel_rfl) (.pointer (some ⟨b, off + k * 13, none⟩)) (fun w' _ => ev_index 49 45 (.tmp 24) (.tmp 25) rfl b off len cap k 13 .i64 rfl rfl (by omega) Try.underlying49 (by kernel_rfl) (off + k * 13) (by omega)) ?_
            simp only [Act.put, List.setIfInBounds_toArray, List.set_cons_zero, List.set_cons_succ]
            refine dq_val (by kernel_rfl) (.agg #[(.bool ((R k).acc) : Value), .int .i64 ((R k).side), .string ((R k).fb), .int .i64 ((R k).fn), .string ((R k).tb), .int .i64 ((R k).tn), .int .i64 ((R k).s0), .int .i64 ((R k).s1), .int .i64 ((R k).d0), .int .i64 ((R k).d1), .int .i64 ((R k).mask), .int .i64 ((R k).flags), .int .i64 ((R k).classes)]) (fun w' hC => ev_row 45 (.tmp 26) rfl b (off + k * 13) rfl (R k).cs (rules_range ((hR.keep hT0).keep hC) hlt) _ Try.underlying45 rfl (by kernel_rfl)) ?_
            simp only [Act.put, List.setIfInBounds_toArray, List.set_cons_zero, List.set_cons_succ]
            refine dq_ret (by kernel_rfl) 19 #[(.agg #[(.bool ((R j).acc) : Value), .int .i64 ((R j).side), .string ((R j).fb), .int .i64 ((R j).fn), .string ((R j).tb), .int .i64 ((R j).tn), .int .i64 ((R j).s0), .int .i64 ((R j).s1), .int .i64 ((R j).d0), .int .i64 ((R j).d1), .int .i64 ((R j).mask), .int .i64 ((R j).flags), .int .i64 ((R j).classes)] : Value), .agg #[(.bool ((R k).acc) : Value), .int .i64 ((R k).side), .string ((R k).fb), .int .i64 ((R k).fn), .string ((R k).tb), .int .i64 ((R k).tn), .int .i64 ((R k).s0), .int .i64 ((R k).s1), .int .i64 ((R k).d0), .int .i64 ((R k).d1), .int .i64 ((R k).mask), .int .i64 ((R k).flags), .int .i64 ((R k).classes)]] (fun w' _ => by kernel_rfl) (fun w' hC => rcovers19 (R j) (R k) (hnd j k hjl hlt).1 (hnd j k hjl hlt).2 hfj.1 hfj.2.1 hf.1 hf.2.1 w') (fun w1 w2 hC hb => hC.trans (Touch.none hb) (fun _ _ h => h)) ?_
            simp only [Act.put, List.setIfInBounds_toArray, List.set_cons_zero, List.set_cons_succ]
            refine dq_val (by kernel_rfl) (.bool (coversB (R j) (R k))) (fun w' _ => by kernel_rfl) ?_
            simp only [Act.put, List.setIfInBounds_toArray, List.set_cons_zero, List.set_cons_succ]
            refine dq_val (by kernel_rfl) (.bool (coversB (R j) (R k))) (fun w' _ => by kernel_rfl) ?_
            simp only [Act.put, List.setIfInBounds_toArray, List.set_cons_zero, List.set_cons_succ]
            refine wq_nil ?_
            intro w6 hT7
            replace hown := own_keep hown hT7 (fun _ _ _ h => h)
            replace hT0 := hT0.trans hT7 (fun _ _ h => h.elim)
            refine hK13 _ _ ?_
            refine wl_region ?_
            refine dw_val (by kernel_rfl) (.int .i64 (j : Int)) (by kernel_rfl) ?_
            simp only [Act.put, List.setIfInBounds_toArray, List.set_cons_zero, List.set_cons_succ]
            refine dw_val2 (by kernel_rfl) (.int .i64 (IntKind.i64.wrap ((j : Int) + 1))) (.int .i64 ((j + 1 : Nat) : Int)) (by kernel_rfl) (by rw [show IntKind.i64.wrap ((j : Int) + 1) = ((j + 1 : Nat) : Int) from by rw [IntWalk.i64_in _ (by omega)]; rfl]) ?_
            simp only [Act.put, List.setIfInBounds_toArray, List.set_cons_zero, List.set_cons_succ]
            refine dw_val (by kernel_rfl) (.int .i64 ((j + 1 : Nat) : Int)) (by kernel_rfl) ?_
            simp only [Act.put, List.setIfInBounds_toArray, List.set_cons_zero, List.set_cons_succ]
            refine wl_nil ?_
            refine then_normal ?_
            refine ⟨⟨(j + 1), (coversB (R j) (R k)), (.int .i64 (j : Int)), (.int .i64 (k : Int)), (.bool true), (.bool (bb)), (.bool false), (.slice (some ⟨b, off, none⟩) len cap), (.int .i64 (j : Int)), (.pointer (some ⟨b, off + j * 13, none⟩)), (.agg #[(.bool ((R j).acc) : Value), .int .i64 ((R j).side), .string ((R j).fb), .int .i64 ((R j).fn), .string ((R j).tb), .int .i64 ((R j).tn), .int .i64 ((R j).s0), .int .i64 ((R j).s1), .int .i64 ((R j).d0), .int .i64 ((R j).d1), .int .i64 ((R j).mask), .int .i64 ((R j).flags), .int .i64 ((R j).classes)]), (.slice (some ⟨b, off, none⟩) len cap), (.int .i64 (k : Int)), (.pointer (some ⟨b, off + k * 13, none⟩)), (.agg #[(.bool ((R k).acc) : Value), .int .i64 ((R k).side), .string ((R k).fb), .int .i64 ((R k).fn), .string ((R k).tb), .int .i64 ((R k).tn), .int .i64 ((R k).s0), .int .i64 ((R k).s1), .int .i64 ((R k).d0), .int .i64 ((R k).d1), .int .i64 ((R k).mask), .int .i64 ((R k).flags), .int .i64 ((R k).classes)]), (.bool (coversB (R j) (R k))), (.bool (coversB (R j) (R k))), (.int .i64 (j : Int)), (.int .i64 ((j + 1 : Nat) : Int)), (by omega), (by rw [shadU_succ, ← hbb, c3]; simp), hown, hT0, rfl⟩, ?_⟩
            simp [intOf]; omega
        · have hge : ¬ j < k := hjk
          refine wp_seq_k fun K14 hK14 => ?_
          refine wp_seq_k fun K15 hK15 => ?_
          refine wl_region ?_
          refine dw_val (by kernel_rfl) (.int .i64 (j : Int)) (by kernel_rfl) ?_
          simp only [Act.put, List.setIfInBounds_toArray, List.set_cons_zero, List.set_cons_succ]
          refine dw_val (by kernel_rfl) (.int .i64 (k : Int)) (by kernel_rfl) ?_
          simp only [Act.put, List.setIfInBounds_toArray, List.set_cons_zero, List.set_cons_succ]
          refine dw_bool (by kernel_rfl) (decide ((j : Int) < (k : Int))) (by kernel_rfl) (fun hc => absurd hc (by simp; omega)) (fun hc => ?_)
          simp only [Act.put, List.setIfInBounds_toArray, List.set_cons_zero, List.set_cons_succ]
          refine wl_nil ?_
          refine hK15 _ _ ?_
          refine wp_cond_false rfl ?_
          refine wp_exit ?_
          refine hK9 _ _ ?_
          refine wp_seq_k fun K16 hK16 => ?_
          refine wl_region ?_
          refine dw_val (by kernel_rfl) (.bool (bb)) (by kernel_rfl) ?_
          simp only [Act.put, List.setIfInBounds_toArray, List.set_cons_zero, List.set_cons_succ]
          refine wl_nil ?_
          refine hK16 _ _ ?_
          refine wp_cond_split (t := bb) rfl (fun c8 => ?_) (fun c8 => ?_)
          · skip
            refine wl_region ?_
            refine dw_val (by kernel_rfl) (v) (by kernel_rfl) ?_
            simp only [Act.put, List.setIfInBounds_toArray, List.set_cons_zero, List.set_cons_succ]
            refine dw_val (by kernel_rfl) (.int .i64 (k : Int)) (by kernel_rfl) ?_
            simp only [Act.put, List.setIfInBounds_toArray, List.set_cons_zero, List.set_cons_succ]
            refine dw_newSlice (by kernel_rfl) [(.int .i64 (k : Int) : Value)] 3 1 (by kernel_rfl) ?_
            intro n9 w10 hnn9 hsn9 hBn9 hTn9
            have hgen9 : w.heap.size ≤ n9 := by have := hT0.size; omega
            replace hown := own_keep hown hTn9 (fun _ _ _ h => h)
            replace hT0 := hT0.trans hTn9 (fun _ _ h => h.elim)
            simp only [Act.put, List.setIfInBounds_toArray, List.set_cons_zero, List.set_cons_succ]
            refine dw_append rfl (.tmp 31) (.tmp 33) 55 rfl w.heap.size 3 i0 (.int .i64 0) 1 8 Try.underlying55 hi hz0 hz1 hz2 rfl (by decide) (v) _ _ rfl hown n9 1 1 [(.int .i64 (k : Int) : Value)] 3 rfl rfl hBn9 rfl (by have := shadL_len R k; unfold maxLen; omega) (by have := shadL_len R k; omega) hT0.size ?_
            intro v11 w12 hown2 hT13 hg14
            clear hBn9
            clear hown
            have hown := hown2
            clear hown2
            replace hT0 := hT0.trans hT13 (fun i hi h => by have := hg14 i h; omega)
            simp only [Act.put, List.setIfInBounds_toArray, List.set_cons_zero, List.set_cons_succ]
            refine dw_val (by kernel_rfl) (v11) (by kernel_rfl) ?_
            simp only [Act.put, List.setIfInBounds_toArray, List.set_cons_zero, List.set_cons_succ]
            refine wl_nil ?_
            refine hK7 _ _ ?_
            refine wl_region ?_
            refine dw_val (by kernel_rfl) (.int .i64 (k : Int)) (by kernel_rfl) ?_
            simp only [Act.put, List.setIfInBounds_toArray, List.set_cons_zero, List.set_cons_succ]
            refine dw_val2 (by kernel_rfl) (.int .i64 (IntKind.i64.wrap ((k : Int) + 1))) (.int .i64 ((k + 1 : Nat) : Int)) (by kernel_rfl) (by rw [show IntKind.i64.wrap ((k : Int) + 1) = ((k + 1 : Nat) : Int) from by rw [IntWalk.i64_in _ (by omega)]; rfl]) ?_
            simp only [Act.put, List.setIfInBounds_toArray, List.set_cons_zero, List.set_cons_succ]
            refine dw_val (by kernel_rfl) (.int .i64 ((k + 1 : Nat) : Int)) (by kernel_rfl) ?_
            simp only [Act.put, List.setIfInBounds_toArray, List.set_cons_zero, List.set_cons_succ]
            refine wl_nil ?_
            refine then_normal ?_
            have hjk2 : j = k := by omega
            have hsh : shadB R k = true := by rw [show shadB R k = shadU R k j from by rw [hjk2]; rfl, ← hbb]; exact c8
            refine ⟨⟨(k + 1), v11, (.int .i64 (k : Int)), (.slice (some ⟨b, off, none⟩) len cap), (.int .i64 (len : Int)), (.bool true), (.bool (bb)), (.int .i64 (j : Int)), (.int .i64 (j : Int)), (.int .i64 (k : Int)), (.bool false), u18_1, u19_1, u20_1, u21_1, u22_1, u23_1, u24_1, u25_1, u26_1, u27_1, u28_1, u29_1, u16_1, u17_1, (.bool (bb)), v, (.int .i64 (k : Int)), (.slice (some ⟨n9, 0, none⟩) 1 1), v11, (.int .i64 (k : Int)), (.int .i64 ((k + 1 : Nat) : Int)), (by omega), (by rw [show shadL R (k + 1) = shadL R k ++ [(k : Int)] from if_pos hsh, List.length_append, ints, List.map_append]; exact hown), hT0, rfl⟩, ?_⟩
            simp [intOf]; omega
          · skip
            refine wp_skip ?_
            refine hK7 _ _ ?_
            refine wl_region ?_
            refine dw_val (by kernel_rfl) (.int .i64 (k : Int)) (by kernel_rfl) ?_
            simp only [Act.put, List.setIfInBounds_toArray, List.set_cons_zero, List.set_cons_succ]
            refine dw_val2 (by kernel_rfl) (.int .i64 (IntKind.i64.wrap ((k : Int) + 1))) (.int .i64 ((k + 1 : Nat) : Int)) (by kernel_rfl) (by rw [show IntKind.i64.wrap ((k : Int) + 1) = ((k + 1 : Nat) : Int) from by rw [IntWalk.i64_in _ (by omega)]; rfl]) ?_
            simp only [Act.put, List.setIfInBounds_toArray, List.set_cons_zero, List.set_cons_succ]
            refine dw_val (by kernel_rfl) (.int .i64 ((k + 1 : Nat) : Int)) (by kernel_rfl) ?_
            simp only [Act.put, List.setIfInBounds_toArray, List.set_cons_zero, List.set_cons_succ]
            refine wl_nil ?_
            refine then_normal ?_
            have hjk2 : j = k := by omega
            have hsh : shadB R k = false := by rw [show shadB R k = shadU R k j from by rw [hjk2]; rfl, ← hbb]; exact c8
            refine ⟨⟨(k + 1), v, (.int .i64 (k : Int)), (.slice (some ⟨b, off, none⟩) len cap), (.int .i64 (len : Int)), (.bool true), (.bool (bb)), (.int .i64 (j : Int)), (.int .i64 (j : Int)), (.int .i64 (k : Int)), (.bool false), u18_1, u19_1, u20_1, u21_1, u22_1, u23_1, u24_1, u25_1, u26_1, u27_1, u28_1, u29_1, u16_1, u17_1, (.bool (bb)), u31_0, u32_0, u33_0, u34_0, (.int .i64 (k : Int)), (.int .i64 ((k + 1 : Nat) : Int)), (by omega), (by rw [show shadL R (k + 1) = shadL R k from if_neg (by rw [hsh]; decide)]; exact hown), hT0, rfl⟩, ?_⟩
            simp [intOf]; omega
    · have hge : ¬ k < len := hlt
      refine wp_seq_k fun K17 hK17 => ?_
      refine wp_seq_k fun K18 hK18 => ?_
      refine wl_region ?_
      refine dw_val (by kernel_rfl) (.int .i64 (k : Int)) (by kernel_rfl) ?_
      simp only [Act.put, List.setIfInBounds_toArray, List.set_cons_zero, List.set_cons_succ]
      refine dw_val (by kernel_rfl) (.slice ad len cap) (by kernel_rfl) ?_
      simp only [Act.put, List.setIfInBounds_toArray, List.set_cons_zero, List.set_cons_succ]
      refine dw_val (by kernel_rfl) (.int .i64 (len : Int)) (by kernel_rfl) ?_
      simp only [Act.put, List.setIfInBounds_toArray, List.set_cons_zero, List.set_cons_succ]
      refine dw_bool (by kernel_rfl) (decide ((k : Int) < (len : Int))) (by kernel_rfl) (fun hc => absurd hc (by simp; omega)) (fun hc => ?_)
      simp only [Act.put, List.setIfInBounds_toArray, List.set_cons_zero, List.set_cons_succ]
      refine wl_nil ?_
      refine hK18 _ _ ?_
      refine wp_cond_false rfl ?_
      refine wp_exit ?_
      refine hK3 _ _ ?_
      refine wp_seq_k fun K19 hK19 => ?_
      refine wl_region ?_
      refine dw_val (by kernel_rfl) (v) (by kernel_rfl) ?_
      simp only [Act.put, List.setIfInBounds_toArray, List.set_cons_zero, List.set_cons_succ]
      refine dw_val (by kernel_rfl) (v) (by kernel_rfl) ?_
      simp only [Act.put, List.setIfInBounds_toArray, List.set_cons_zero, List.set_cons_succ]
      refine wl_nil ?_
      refine hK19 _ _ ?_
      refine wp_ret ?_
      repeat (first | with_reducible refine ret_then ?_ | with_reducible refine ret_block ?_)
      refine bodyPost_ret (v := v) (by kernel_rfl) rfl ?_
      obtain rfl : k = len := by omega
      exact ⟨_, rfl, hown, hT0.toBelow⟩
def rcells (R : Nat → Rl) (k : Nat) : List Value := (List.range k).flatMap fun i => (R i).cs
theorem rcells_succ (R : Nat → Rl) (k : Nat) : rcells R (k + 1) = rcells R k ++ (R k).cs := by unfold rcells; rw [List.range_succ, List.flatMap_append]; simp
theorem info45 : (Try.prog.info? 45).map (fun i => (i.zero, i.size, i.bytes)) = some (some (.agg #[.bool false, .int .i64 0, .string ⟨#[]⟩, .int .i64 0, .string ⟨#[]⟩, .int .i64 0, .int .i64 0, .int .i64 0, .int .i64 0, .int .i64 0, .int .i64 0, .int .i64 0, .int .i64 0]), 13, 120) := by kernel_rfl
theorem own_keep45 {w w' : World} {B n : Nat} {v : Value} {l : List Value} (h : w.ownsRow B 45 13 v n l) (t : Touch (fun _ => False) w w') : w'.ownsRow B 45 13 v n l := by
  refine ⟨h.1, ?_⟩
  rcases h.2 with h | ⟨g, cap, cur, hv, hB, hg, hn, hm, hcs, ht⟩
  · exact .inl h
  · have hlt := (Array.getElem?_eq_some_iff.1 hg).1
    exact .inr ⟨g, cap, cur, hv, hB, (t.block g hlt (fun h => h)).trans hg, hn, hm, hcs, ht⟩
theorem rcells_get (R : Nat → Rl) : ∀ (k i j : Nat) (v : Value), i < k → (R i).cs[j]? = some v → (rcells R k)[i * 13 + j]? = some v
  | 0, i, j, v, hi, _ => by omega
  | k + 1, i, j, v, hi, hj => by
    have hlen : ∀ k, (rcells R k).length = k * 13 := by
      intro k
      induction k with
      | zero => rfl
      | succ k ih => rw [rcells_succ, List.length_append, ih]; show k * 13 + 13 = _; omega
    have hjl : j < 13 := (List.getElem?_eq_some_iff.1 hj).1
    rw [rcells_succ]
    by_cases e : i = k
    · subst e
      rw [List.getElem?_append_right (by rw [hlen]; omega), hlen, show i * 13 + j - i * 13 = j by omega]
      exact hj
    · rw [List.getElem?_append_left (by rw [hlen]; omega)]
      exact rcells_get R k i j v (by omega) hj
theorem own_rules {w : World} {B n : Nat} {v : Value} {R : Nat → Rl} (h : w.ownsRow B 45 13 v n (rcells R n)) : ∃ ad cap, v = .slice ad n cap ∧ n ≤ cap ∧ cap ≤ maxLen ∧ RulesAt w ad n R := by
  rcases h.2 with ⟨rfl, rfl⟩ | ⟨g, cap, cur, rfl, hB, hg, hn, hm, hcs, ht⟩
  · exact ⟨none, 0, rfl, Nat.le_refl _, Nat.zero_le _, fun i hi => by omega⟩
  · refine ⟨_, cap, rfl, hn, hm, fun i hi => ⟨g, 0, rfl, (Array.getElem?_eq_some_iff.1 hg).1, fun j u hj => ?_⟩⟩
    have h1 := rcells_get R n i j u hi hj
    rw [← ht] at h1
    have h2 : (i * 13 + j) < n * 13 := by
      have hjl : j < 13 := (List.getElem?_eq_some_iff.1 hj).1
      have := Nat.mul_le_mul_right 13 (show i + 1 ≤ n from hi)
      omega
    rw [List.getElem?_take, if_pos h2] at h1
    simp only [World.cell?, hg, Nat.zero_add]
    simpa using h1
set_option maxRecDepth 100000 in
set_option maxHeartbeats 4000000 in
theorem all_any (ad : Option Addr) (len cap : Nat) (R : Nat → Rl) (w : World) (hR : RulesAt w ad len R) (hlc : len ≤ cap) (hcap : cap ≤ maxLen) (h60 : len ≤ 60) :
    Calls Try.prog 15 #[.slice ad len cap] w fun e w' => ∃ v, e = .returned v ∧ w'.ownsRow w.heap.size 45 13 v len (rcells R len) ∧ Below w.heap.size w w' := by
  obtain ⟨i0, hi, hz0, hz1, hz2⟩ := info_parts info45
  have hT0 := Touch.refl (fun _ => False) w
  go_enter Try.func15, Try.ntmps15
  refine wp_seq_k fun K1 hK1 => ?_
  refine wl_region ?_
  refine dw_val (by kernel_rfl) (.slice none 0 0) (by kernel_rfl) ?_
  simp only [Act.put, List.setIfInBounds_toArray, List.set_cons_zero, List.set_cons_succ]
  refine wl_nil ?_
  refine hK1 _ _ ?_
  refine wp_seq_k fun K2 hK2 => ?_
  refine wl_region ?_
  refine dw_val (by kernel_rfl) (.slice none 0 0) (by kernel_rfl) ?_
  simp only [Act.put, List.setIfInBounds_toArray, List.set_cons_zero, List.set_cons_succ]
  refine wl_nil ?_
  refine hK2 _ _ ?_
  refine wp_seq_k fun K3 hK3 => ?_
  refine wp_seq_k fun K4 hK4 => ?_
  refine wl_region ?_
  refine dw_val (by kernel_rfl) (.int .i64 0) (by kernel_rfl) ?_
  simp only [Act.put, List.setIfInBounds_toArray, List.set_cons_zero, List.set_cons_succ]
  refine wl_nil ?_
  refine hK4 _ _ ?_
  refine wp_block ?_
  refine wp_loop (fun (aL : Act) (wL : World) => ∃ (k : Nat), ∃ (v : Value), ∃ (u5_0 u6_0 u7_0 u8_0 u11_0 u12_0 u13_0 u14_0 u15_0 u16_0 u17_0 u18_0 u9_0 u10_0 : Value), (k ≤ len) ∧ (wL.ownsRow w.heap.size 45 13 v k (rcells R k)) ∧ Touch (fun _ => False) w wL ∧ aL = ⟨#[(.slice ad len cap : Value), undef, .slice none 0 0, v, .int .i64 (k : Int), u5_0, u6_0, u7_0, u8_0, u9_0, u10_0, u11_0, u12_0, u13_0, u14_0, u15_0, u16_0, u17_0, u18_0, undef], []⟩) (fun (aL : Act) (wL : World) => len - (intOf (aL.tmps.getD 4 undef)).toNat) ?_ ?_
  · exact ⟨0, (.slice none 0 0), undef, undef, undef, undef, undef, undef, undef, undef, undef, undef, undef, undef, undef, undef, (Nat.zero_le _), (World.ownsRow_nil _ _ _ _), hT0, rfl⟩
  · intro aL w1 hI
    clear hT0
    obtain ⟨k, v, u5_0, u6_0, u7_0, u8_0, u11_0, u12_0, u13_0, u14_0, u15_0, u16_0, u17_0, u18_0, u9_0, u10_0, hk, hown, hT0, rfl⟩ := hI
    by_cases hlt : k < len
    · obtain ⟨b, off, hab, hbs, -⟩ := hR k hlt
      subst hab
      refine wp_seq_k fun K5 hK5 => ?_
      refine wp_seq_k fun K6 hK6 => ?_
      refine wl_region ?_
      refine dw_val (by kernel_rfl) (.int .i64 (k : Int)) (by kernel_rfl) ?_
      simp only [Act.put, List.setIfInBounds_toArray, List.set_cons_zero, List.set_cons_succ]
      refine dw_val (by kernel_rfl) (.slice (some ⟨b, off, none⟩) len cap) (by kernel_rfl) ?_
      simp only [Act.put, List.setIfInBounds_toArray, List.set_cons_zero, List.set_cons_succ]
      refine dw_val (by kernel_rfl) (.int .i64 (len : Int)) (by kernel_rfl) ?_
      simp only [Act.put, List.setIfInBounds_toArray, List.set_cons_zero, List.set_cons_succ]
      refine dw_bool (by kernel_rfl) (decide ((k : Int) < (len : Int))) (by kernel_rfl) (fun hc => ?_) (fun hc => absurd hc (by simp; omega))
      simp only [Act.put, List.setIfInBounds_toArray, List.set_cons_zero, List.set_cons_succ]
      refine wl_nil ?_
      refine hK6 _ _ ?_
      refine wp_cond_true rfl ?_
      refine wp_skip ?_
      refine hK5 _ _ ?_
      refine wp_seq_k fun K7 hK7 => ?_
      refine wp_block ?_
      refine wl_region ?_
      refine dw_val (by kernel_rfl) (v) (by kernel_rfl) ?_
      simp only [Act.put, List.setIfInBounds_toArray, List.set_cons_zero, List.set_cons_succ]
      refine dw_val (by kernel_rfl) (.slice (some ⟨b, off, none⟩) len cap) (by kernel_rfl) ?_
      simp only [Act.put, List.setIfInBounds_toArray, List.set_cons_zero, List.set_cons_succ]
      refine dw_val (by kernel_rfl) (.int .i64 (k : Int)) (by kernel_rfl) ?_
      simp only [Act.put, List.setIfInBounds_toArray, List.set_cons_zero, List.set_cons_succ]
      refine dw_val (by kernel_rfl) (.pointer (some ⟨b, off + k * 13, none⟩)) (ev_index 22 43 (.tmp 12) (.tmp 13) rfl b off len cap k 13 .i64 rfl rfl hlt Try.underlying22 (by kernel_rfl) (off + k * 13) (by omega)) ?_
      simp only [Act.put, List.setIfInBounds_toArray, List.set_cons_zero, List.set_cons_succ]
      refine dw_val (by kernel_rfl) (.agg #[(.bool ((R k).acc) : Value), .int .i64 ((R k).side), .string ((R k).fb), .int .i64 ((R k).fn), .string ((R k).tb), .int .i64 ((R k).tn), .int .i64 ((R k).s0), .int .i64 ((R k).s1), .int .i64 ((R k).d0), .int .i64 ((R k).d1), .int .i64 ((R k).mask), .int .i64 ((R k).flags), .int .i64 ((R k).classes)]) (ev_row 43 (.tmp 14) rfl b (off + k * 13) rfl (R k).cs (rules_range (hR.keep hT0) hlt) _ Try.underlying43 rfl (by kernel_rfl)) ?_
      simp only [Act.put, List.setIfInBounds_toArray, List.set_cons_zero, List.set_cons_succ]
      refine dw_ret (by kernel_rfl) 12 #[(.agg #[(.bool ((R k).acc) : Value), .int .i64 ((R k).side), .string ((R k).fb), .int .i64 ((R k).fn), .string ((R k).tb), .int .i64 ((R k).tn), .int .i64 ((R k).s0), .int .i64 ((R k).s1), .int .i64 ((R k).d0), .int .i64 ((R k).d1), .int .i64 ((R k).mask), .int .i64 ((R k).flags), .int .i64 ((R k).classes)] : Value)] (by kernel_rfl) (plain_any (R k) w1) ?_
      intro w2 hb
      have ht3 : Touch (fun _ => False) w1 w2 := Touch.none hb
      replace hown := own_keep45 hown ht3
      replace hT0 := hT0.trans ht3 (fun _ _ h => h.elim)
      clear hb
      simp only [Act.put, List.setIfInBounds_toArray, List.set_cons_zero, List.set_cons_succ]
      refine dw_newSlice (by kernel_rfl) [(.bool ((R k).acc) : Value), .int .i64 ((R k).side), .string ((R k).fb), .int .i64 ((R k).fn), .string ((R k).tb), .int .i64 ((R k).tn), .int .i64 ((R k).s0), .int .i64 ((R k).s1), .int .i64 ((R k).d0), .int .i64 ((R k).d1), .int .i64 ((R k).mask), .int .i64 ((R k).flags), .int .i64 ((R k).classes)] 45 1 (by kernel_rfl) ?_
      intro n4 w5 hnn4 hsn4 hBn4 hTn4
      have hgen4 : w.heap.size ≤ n4 := by have := hT0.size; omega
      replace hown := own_keep45 hown hTn4
      replace hT0 := hT0.trans hTn4 (fun _ _ h => h.elim)
      simp only [Act.put, List.setIfInBounds_toArray, List.set_cons_zero, List.set_cons_succ]
      refine dw_append rfl (.tmp 11) (.tmp 17) 49 rfl w.heap.size 45 i0 (.agg #[.bool false, .int .i64 0, .string ⟨#[]⟩, .int .i64 0, .string ⟨#[]⟩, .int .i64 0, .int .i64 0, .int .i64 0, .int .i64 0, .int .i64 0, .int .i64 0, .int .i64 0, .int .i64 0]) 13 120 Try.underlying49 hi hz0 hz1 hz2 rfl (by decide) (v) _ _ rfl hown n4 1 1 [(.bool ((R k).acc) : Value), .int .i64 ((R k).side), .string ((R k).fb), .int .i64 ((R k).fn), .string ((R k).tb), .int .i64 ((R k).tn), .int .i64 ((R k).s0), .int .i64 ((R k).s1), .int .i64 ((R k).d0), .int .i64 ((R k).d1), .int .i64 ((R k).mask), .int .i64 ((R k).flags), .int .i64 ((R k).classes)] 45 rfl rfl hBn4 rfl (by unfold maxLen; omega) (by omega) hT0.size ?_
      intro v6 w7 hown2 hT8 hg9
      clear hBn4
      clear hown
      have hown := hown2
      clear hown2
      replace hT0 := hT0.trans hT8 (fun i hi h => by have := hg9 i h; omega)
      simp only [Act.put, List.setIfInBounds_toArray, List.set_cons_zero, List.set_cons_succ]
      refine dw_val (by kernel_rfl) (v6) (by kernel_rfl) ?_
      simp only [Act.put, List.setIfInBounds_toArray, List.set_cons_zero, List.set_cons_succ]
      refine wl_nil ?_
      refine hK7 _ _ ?_
      refine wl_region ?_
      refine dw_val (by kernel_rfl) (.int .i64 (k : Int)) (by kernel_rfl) ?_
      simp only [Act.put, List.setIfInBounds_toArray, List.set_cons_zero, List.set_cons_succ]
      refine dw_val2 (by kernel_rfl) (.int .i64 (IntKind.i64.wrap ((k : Int) + 1))) (.int .i64 ((k + 1 : Nat) : Int)) (by kernel_rfl) (by rw [show IntKind.i64.wrap ((k : Int) + 1) = ((k + 1 : Nat) : Int) from by rw [IntWalk.i64_in _ (by omega)]; rfl]) ?_
      simp only [Act.put, List.setIfInBounds_toArray, List.set_cons_zero, List.set_cons_succ]
      refine dw_val (by kernel_rfl) (.int .i64 ((k + 1 : Nat) : Int)) (by kernel_rfl) ?_
      simp only [Act.put, List.setIfInBounds_toArray, List.set_cons_zero, List.set_cons_succ]
      refine wl_nil ?_
      refine then_normal ?_
      refine ⟨⟨(k + 1), v6, (.int .i64 (k : Int)), (.slice (some ⟨b, off, none⟩) len cap), (.int .i64 (len : Int)), (.bool true), v, (.slice (some ⟨b, off, none⟩) len cap), (.int .i64 (k : Int)), (.pointer (some ⟨b, off + k * 13, none⟩)), (.agg #[(.bool ((R k).acc) : Value), .int .i64 ((R k).side), .string ((R k).fb), .int .i64 ((R k).fn), .string ((R k).tb), .int .i64 ((R k).tn), .int .i64 ((R k).s0), .int .i64 ((R k).s1), .int .i64 ((R k).d0), .int .i64 ((R k).d1), .int .i64 ((R k).mask), .int .i64 ((R k).flags), .int .i64 ((R k).classes)]), (.agg #[(.bool ((R k).acc) : Value), .int .i64 ((R k).side), .string ((R k).fb), .int .i64 ((R k).fn), .string ((R k).tb), .int .i64 ((R k).tn), .int .i64 ((R k).s0), .int .i64 ((R k).s1), .int .i64 ((R k).d0), .int .i64 ((R k).d1), .int .i64 ((R k).mask), .int .i64 ((R k).flags), .int .i64 ((R k).classes)]), (.slice (some ⟨n4, 0, none⟩) 1 1), v6, (.int .i64 (k : Int)), (.int .i64 ((k + 1 : Nat) : Int)), (by omega), (by rw [rcells_succ]; exact hown), hT0, rfl⟩, ?_⟩
      simp [intOf]; omega
    · have hge : ¬ k < len := hlt
      refine wp_seq_k fun K8 hK8 => ?_
      refine wp_seq_k fun K9 hK9 => ?_
      refine wl_region ?_
      refine dw_val (by kernel_rfl) (.int .i64 (k : Int)) (by kernel_rfl) ?_
      simp only [Act.put, List.setIfInBounds_toArray, List.set_cons_zero, List.set_cons_succ]
      refine dw_val (by kernel_rfl) (.slice ad len cap) (by kernel_rfl) ?_
      simp only [Act.put, List.setIfInBounds_toArray, List.set_cons_zero, List.set_cons_succ]
      refine dw_val (by kernel_rfl) (.int .i64 (len : Int)) (by kernel_rfl) ?_
      simp only [Act.put, List.setIfInBounds_toArray, List.set_cons_zero, List.set_cons_succ]
      refine dw_bool (by kernel_rfl) (decide ((k : Int) < (len : Int))) (by kernel_rfl) (fun hc => absurd hc (by simp; omega)) (fun hc => ?_)
      simp only [Act.put, List.setIfInBounds_toArray, List.set_cons_zero, List.set_cons_succ]
      refine wl_nil ?_
      refine hK9 _ _ ?_
      refine wp_cond_false rfl ?_
      refine wp_exit ?_
      refine hK3 _ _ ?_
      refine wp_seq_k fun K10 hK10 => ?_
      refine wl_region ?_
      refine dw_val (by kernel_rfl) (v) (by kernel_rfl) ?_
      simp only [Act.put, List.setIfInBounds_toArray, List.set_cons_zero, List.set_cons_succ]
      refine dw_val (by kernel_rfl) (v) (by kernel_rfl) ?_
      simp only [Act.put, List.setIfInBounds_toArray, List.set_cons_zero, List.set_cons_succ]
      refine wl_nil ?_
      refine hK10 _ _ ?_
      refine wp_ret ?_
      repeat (first | with_reducible refine ret_then ?_ | with_reducible refine ret_block ?_)
      refine bodyPost_ret (v := v) (by kernel_rfl) rfl ?_
      obtain rfl : k = len := by omega
      exact ⟨_, rfl, hown, hT0.toBelow⟩
end Go.Proofs.Ytolkimdfnlfpbaa
