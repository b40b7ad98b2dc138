/- MatchCovers: what the law walks. Conditions: the argument reads as rules. -/
import Derived.Test.YtolkimdfnlfpbaaXE
import Derived.Laws.Rows
import Derived.Test.YtolkimdfnlfpbaaXE
set_option linter.unusedVariables false
set_option linter.unusedSimpArgs false
namespace Go.Proofs.Ytolkimdfnlfpbaa
open Go.RowKit
def askZ : Ak := ⟨⟨#[]⟩, ⟨#[]⟩, 0, 0, 0, 0, 0, 0, 0, 0, 0, false, none, 0, 0, false, 0, 0, ⟨#[]⟩, 0, 0⟩
set_option maxRecDepth 100000 in
set_option maxHeartbeats 4000000 in
theorem covers_dark (ad : Option Addr) (len cap : Nat) (R : Nat → Rl) (w : World) (hR : RulesAt w ad len R) (hcl : len ≤ 9223372036854775807) (hl : lightB R len askZ = false) :
    Calls Try.prog 4 #[.slice ad len cap] w fun e w' => e = .returned (.bool true) ∧ Below w.heap.size w w' := by
  have hT0 := Touch.refl (fun _ => False) w
  go_enter Try.func4, Try.ntmps4
  refine wp_seq_k fun K1 hK1 => ?_
  refine wl_region ?_
  refine dw_val (by kernel_rfl) (.bool false) (by kernel_rfl) ?_
  simp only [Act.put, List.setIfInBounds_toArray, List.set_cons_zero, List.set_cons_succ]
  refine wl_nil ?_
  refine hK1 _ _ ?_
  refine wp_seq_k fun K2 hK2 => ?_
  refine wp_seq_k fun K3 hK3 => ?_
  refine wl_region ?_
  refine dw_val (by kernel_rfl) (.slice ad len cap) (by kernel_rfl) ?_
  simp only [Act.put, List.setIfInBounds_toArray, List.set_cons_zero, List.set_cons_succ]
  refine dw_val (by kernel_rfl) (.agg #[(.string ⟨#[]⟩ : Value), .string ⟨#[]⟩, .int .i64 0, .int .i64 0, .int .u32 0, .int .u32 0, .int .i64 0, .int .i64 0, .int .i64 0, .int .i64 0, .int .i64 0, .bool false, .slice none 0 0, .bool false, .int .u32 0, .int .u32 0, .string ⟨#[]⟩, .int .i64 0, .int .i64 0]) (by kernel_rfl) ?_
  simp only [Act.put, List.setIfInBounds_toArray, List.set_cons_zero, List.set_cons_succ]
  refine dw_ret (by kernel_rfl) 8 #[(.slice ad len cap : Value), .agg #[(.string ⟨#[]⟩ : Value), .string ⟨#[]⟩, .int .i64 0, .int .i64 0, .int .u32 0, .int .u32 0, .int .i64 0, .int .i64 0, .int .i64 0, .int .i64 0, .int .i64 0, .bool false, .slice none 0 0, .bool false, .int .u32 0, .int .u32 0, .string ⟨#[]⟩, .int .i64 0, .int .i64 0]] (by kernel_rfl) (light_any ad len cap R askZ w (hR.keep hT0) hcl) ?_
  intro w1 hb
  have ht2 : Touch (fun _ => False) w w1 := Touch.none hb
  replace hT0 := hT0.trans ht2 (fun _ _ h => h.elim)
  clear hb
  simp only [Act.put, List.setIfInBounds_toArray, List.set_cons_zero, List.set_cons_succ]
  refine dw_bool (by kernel_rfl) (!(lightB R len askZ)) (by kernel_rfl) (fun hc => ?_) (fun hc => absurd hc (by simp [hl]))
  simp only [Act.put, List.setIfInBounds_toArray, List.set_cons_zero, List.set_cons_succ]
  refine dw_val (by kernel_rfl) (.bool true) (by kernel_rfl) ?_
  simp only [Act.put, List.setIfInBounds_toArray, List.set_cons_zero, List.set_cons_succ]
  refine dw_no (by kernel_rfl) ?_
  simp only [Act.put, List.setIfInBounds_toArray, List.set_cons_zero, List.set_cons_succ]
  refine dw_no (by kernel_rfl) ?_
  simp only [Act.put, List.setIfInBounds_toArray, List.set_cons_zero, List.set_cons_succ]
  refine dw_no (by kernel_rfl) ?_
  simp only [Act.put, List.setIfInBounds_toArray, List.set_cons_zero, List.set_cons_succ]
  refine dw_val (by kernel_rfl) (.bool true) (by kernel_rfl) ?_
  simp only [Act.put, List.setIfInBounds_toArray, List.set_cons_zero, List.set_cons_succ]
  refine wl_nil ?_
  refine hK3 _ _ ?_
  refine wp_cond_true rfl ?_
  refine wp_seq_k fun K4 hK4 => ?_
  refine wl_region ?_
  refine dw_ret (by kernel_rfl) 9 #[] (by kernel_rfl) (known_any w1) ?_
  intro w3 hb
  have ht4 : Touch (fun _ => False) w1 w3 := Touch.none hb
  replace hT0 := hT0.trans ht4 (fun _ _ h => h.elim)
  clear hb
  simp only [Act.put, List.setIfInBounds_toArray, List.set_cons_zero, List.set_cons_succ]
  refine dw_val (by kernel_rfl) (.bool true) (by kernel_rfl) ?_
  simp only [Act.put, List.setIfInBounds_toArray, List.set_cons_zero, List.set_cons_succ]
  refine wl_nil ?_
  refine hK4 _ _ ?_
  refine wp_ret ?_
  repeat (first | with_reducible refine ret_then ?_ | with_reducible refine ret_block ?_)
  refine bodyPost_ret (v := .bool true) (by kernel_rfl) rfl ?_
  exact ⟨rfl, hT0.toBelow⟩
set_option maxRecDepth 100000 in
set_option maxHeartbeats 4000000 in
theorem covers_long (ad : Option Addr) (len cap : Nat) (R : Nat → Rl) (w : World) (hR : RulesAt w ad len R) (hcl : len ≤ 9223372036854775807) (hl : lightB R len askZ = true) (h20 : 20 < len) :
    Calls Try.prog 4 #[.slice ad len cap] w fun e w' => e = .returned (.bool true) ∧ Below w.heap.size w w' := by
  have hT0 := Touch.refl (fun _ => False) w
  go_enter Try.func4, Try.ntmps4
  refine wp_seq_k fun K1 hK1 => ?_
  refine wl_region ?_
  refine dw_val (by kernel_rfl) (.bool false) (by kernel_rfl) ?_
  simp only [Act.put, List.setIfInBounds_toArray, List.set_cons_zero, List.set_cons_succ]
  refine wl_nil ?_
  refine hK1 _ _ ?_
  refine wp_seq_k fun K2 hK2 => ?_
  refine wp_seq_k fun K3 hK3 => ?_
  refine wl_region ?_
  refine dw_val (by kernel_rfl) (.slice ad len cap) (by kernel_rfl) ?_
  simp only [Act.put, List.setIfInBounds_toArray, List.set_cons_zero, List.set_cons_succ]
  refine dw_val (by kernel_rfl) (.agg #[(.string ⟨#[]⟩ : Value), .string ⟨#[]⟩, .int .i64 0, .int .i64 0, .int .u32 0, .int .u32 0, .int .i64 0, .int .i64 0, .int .i64 0, .int .i64 0, .int .i64 0, .bool false, .slice none 0 0, .bool false, .int .u32 0, .int .u32 0, .string ⟨#[]⟩, .int .i64 0, .int .i64 0]) (by kernel_rfl) ?_
  simp only [Act.put, List.setIfInBounds_toArray, List.set_cons_zero, List.set_cons_succ]
  refine dw_ret (by kernel_rfl) 8 #[(.slice ad len cap : Value), .agg #[(.string ⟨#[]⟩ : Value), .string ⟨#[]⟩, .int .i64 0, .int .i64 0, .int .u32 0, .int .u32 0, .int .i64 0, .int .i64 0, .int .i64 0, .int .i64 0, .int .i64 0, .bool false, .slice none 0 0, .bool false, .int .u32 0, .int .u32 0, .string ⟨#[]⟩, .int .i64 0, .int .i64 0]] (by kernel_rfl) (light_any ad len cap R askZ w (hR.keep hT0) hcl) ?_
  intro w1 hb
  have ht2 : Touch (fun _ => False) w w1 := Touch.none hb
  replace hT0 := hT0.trans ht2 (fun _ _ h => h.elim)
  clear hb
  simp only [Act.put, List.setIfInBounds_toArray, List.set_cons_zero, List.set_cons_succ]
  refine dw_bool (by kernel_rfl) (!(lightB R len askZ)) (by kernel_rfl) (fun hc => absurd hc (by simp [hl])) (fun hc => ?_)
  simp only [Act.put, List.setIfInBounds_toArray, List.set_cons_zero, List.set_cons_succ]
  refine dw_val (by kernel_rfl) (.bool false) (by kernel_rfl) ?_
  simp only [Act.put, List.setIfInBounds_toArray, List.set_cons_zero, List.set_cons_succ]
  refine dw_val (by kernel_rfl) (.slice ad len cap) (by kernel_rfl) ?_
  simp only [Act.put, List.setIfInBounds_toArray, List.set_cons_zero, List.set_cons_succ]
  refine dw_val (by kernel_rfl) (.int .i64 (len : Int)) (by kernel_rfl) ?_
  simp only [Act.put, List.setIfInBounds_toArray, List.set_cons_zero, List.set_cons_succ]
  refine dw_bool (by kernel_rfl) (decide (20 < (len : Int))) (by kernel_rfl) (fun hc => ?_) (fun hc => absurd hc (by simp; omega))
  simp only [Act.put, List.setIfInBounds_toArray, List.set_cons_zero, List.set_cons_succ]
  refine dw_val (by kernel_rfl) (.bool true) (by kernel_rfl) ?_
  simp only [Act.put, List.setIfInBounds_toArray, List.set_cons_zero, List.set_cons_succ]
  refine wl_nil ?_
  refine hK3 _ _ ?_
  refine wp_cond_true rfl ?_
  refine wp_seq_k fun K4 hK4 => ?_
  refine wl_region ?_
  refine dw_ret (by kernel_rfl) 9 #[] (by kernel_rfl) (known_any w1) ?_
  intro w3 hb
  have ht4 : Touch (fun _ => False) w1 w3 := Touch.none hb
  replace hT0 := hT0.trans ht4 (fun _ _ h => h.elim)
  clear hb
  simp only [Act.put, List.setIfInBounds_toArray, List.set_cons_zero, List.set_cons_succ]
  refine dw_val (by kernel_rfl) (.bool true) (by kernel_rfl) ?_
  simp only [Act.put, List.setIfInBounds_toArray, List.set_cons_zero, List.set_cons_succ]
  refine wl_nil ?_
  refine hK4 _ _ ?_
  refine wp_ret ?_
  repeat (first | with_reducible refine ret_then ?_ | with_reducible refine ret_block ?_)
  refine bodyPost_ret (v := .bool true) (by kernel_rfl) rfl ?_
  exact ⟨rfl, hT0.toBelow⟩
set_option maxRecDepth 100000 in
set_option maxHeartbeats 4000000 in
theorem covers_light (ad : Option Addr) (len cap : Nat) (R : Nat → Rl) (w : World) (hR : RulesAt w ad len R) (hlc : len ≤ cap) (hcap : cap ≤ maxLen) (hcl : len ≤ 9223372036854775807) (hl : lightB R len askZ = true) (h20 : len ≤ 20) (h60 : len ≤ 60) (hla : LightAll R len) (hsm : SmallR R len) (hnd : NandOk R len) :
    Calls Try.prog 4 #[.slice ad len cap] w fun e w' => e = .returned (.bool true) ∧ Below w.heap.size w w' := by
  have hT0 := Touch.refl (fun _ => False) w
  go_enter Try.func4, Try.ntmps4
  refine wp_seq_k fun K1 hK1 => ?_
  refine wl_region ?_
  refine dw_val (by kernel_rfl) (.bool false) (by kernel_rfl) ?_
  simp only [Act.put, List.setIfInBounds_toArray, List.set_cons_zero, List.set_cons_succ]
  refine wl_nil ?_
  refine hK1 _ _ ?_
  refine wp_seq_k fun K2 hK2 => ?_
  refine wp_seq_k fun K3 hK3 => ?_
  refine wl_region ?_
  refine dw_val (by kernel_rfl) (.slice ad len cap) (by kernel_rfl) ?_
  simp only [Act.put, List.setIfInBounds_toArray, List.set_cons_zero, List.set_cons_succ]
  refine dw_val (by kernel_rfl) (.agg #[(.string ⟨#[]⟩ : Value), .string ⟨#[]⟩, .int .i64 0, .int .i64 0, .int .u32 0, .int .u32 0, .int .i64 0, .int .i64 0, .int .i64 0, .int .i64 0, .int .i64 0, .bool false, .slice none 0 0, .bool false, .int .u32 0, .int .u32 0, .string ⟨#[]⟩, .int .i64 0, .int .i64 0]) (by kernel_rfl) ?_
  simp only [Act.put, List.setIfInBounds_toArray, List.set_cons_zero, List.set_cons_succ]
  refine dw_ret (by kernel_rfl) 8 #[(.slice ad len cap : Value), .agg #[(.string ⟨#[]⟩ : Value), .string ⟨#[]⟩, .int .i64 0, .int .i64 0, .int .u32 0, .int .u32 0, .int .i64 0, .int .i64 0, .int .i64 0, .int .i64 0, .int .i64 0, .bool false, .slice none 0 0, .bool false, .int .u32 0, .int .u32 0, .string ⟨#[]⟩, .int .i64 0, .int .i64 0]] (by kernel_rfl) (light_any ad len cap R askZ w (hR.keep hT0) hcl) ?_
  intro w1 hb
  have ht2 : Touch (fun _ => False) w w1 := Touch.none hb
  replace hT0 := hT0.trans ht2 (fun _ _ h => h.elim)
  clear hb
  simp only [Act.put, List.setIfInBounds_toArray, List.set_cons_zero, List.set_cons_succ]
  refine dw_bool (by kernel_rfl) (!(lightB R len askZ)) (by kernel_rfl) (fun hc => absurd hc (by simp [hl])) (fun hc => ?_)
  simp only [Act.put, List.setIfInBounds_toArray, List.set_cons_zero, List.set_cons_succ]
  refine dw_val (by kernel_rfl) (.bool false) (by kernel_rfl) ?_
  simp only [Act.put, List.setIfInBounds_toArray, List.set_cons_zero, List.set_cons_succ]
  refine dw_val (by kernel_rfl) (.slice ad len cap) (by kernel_rfl) ?_
  simp only [Act.put, List.setIfInBounds_toArray, List.set_cons_zero, List.set_cons_succ]
  refine dw_val (by kernel_rfl) (.int .i64 (len : Int)) (by kernel_rfl) ?_
  simp only [Act.put, List.setIfInBounds_toArray, List.set_cons_zero, List.set_cons_succ]
  refine dw_bool (by kernel_rfl) (decide (20 < (len : Int))) (by kernel_rfl) (fun hc => absurd hc (by simp; omega)) (fun hc => ?_)
  simp only [Act.put, List.setIfInBounds_toArray, List.set_cons_zero, List.set_cons_succ]
  refine dw_val (by kernel_rfl) (.bool false) (by kernel_rfl) ?_
  simp only [Act.put, List.setIfInBounds_toArray, List.set_cons_zero, List.set_cons_succ]
  refine wl_nil ?_
  refine hK3 _ _ ?_
  refine wp_cond_false rfl ?_
  refine wp_skip ?_
  refine hK2 _ _ ?_
  refine wp_seq_k fun K4 hK4 => ?_
  refine wp_seq_k fun K5 hK5 => ?_
  refine wl_region ?_
  refine dw_val (by kernel_rfl) (.int .i64 0) (by kernel_rfl) ?_
  simp only [Act.put, List.setIfInBounds_toArray, List.set_cons_zero, List.set_cons_succ]
  refine wl_nil ?_
  refine hK5 _ _ ?_
  refine wp_block ?_
  refine wp_loop (fun (aL : Act) (wL : World) => ∃ (k : Nat), ∃ (u15_0 u16_0 u17_0 u18_0 u4_0 u21_0 u22_0 u23_0 u24_0 u27_0 u28_0 u29_0 u30_0 u31_0 u32_0 u33_0 u34_0 u35_0 u36_0 u37_0 u38_0 u39_0 u40_0 u41_0 u42_0 u43_0 u44_0 u45_0 u46_0 u47_0 u2_0 u25_0 u26_0 u19_0 u20_0 : Value), (k ≤ len) ∧ Touch (fun _ => False) w wL ∧ aL = ⟨#[(.slice ad len cap : Value), undef, u2_0, .int .i64 (k : Int), u4_0, .slice ad len cap, .agg #[(.string ⟨#[]⟩ : Value), .string ⟨#[]⟩, .int .i64 0, .int .i64 0, .int .u32 0, .int .u32 0, .int .i64 0, .int .i64 0, .int .i64 0, .int .i64 0, .int .i64 0, .bool false, .slice none 0 0, .bool false, .int .u32 0, .int .u32 0, .string ⟨#[]⟩, .int .i64 0, .int .i64 0], .bool (lightB R len askZ), .bool false, .bool false, .slice ad len cap, .int .i64 (len : Int), .bool false, .bool false, undef, u15_0, u16_0, u17_0, u18_0, u19_0, u20_0, u21_0, u22_0, u23_0, u24_0, u25_0, u26_0, u27_0, u28_0, u29_0, u30_0, u31_0, u32_0, u33_0, u34_0, u35_0, u36_0, u37_0, u38_0, u39_0, u40_0, u41_0, u42_0, u43_0, u44_0, u45_0, u46_0, u47_0, undef, undef, undef, undef, undef, undef, undef, undef, undef], []⟩) (fun (aL : Act) (wL : World) => len - (intOf (aL.tmps.getD 3 undef)).toNat) ?_ ?_
  · exact ⟨0, undef, undef, undef, undef, undef, undef, undef, undef, undef, undef, undef, undef, undef, undef, undef, undef, undef, undef, undef, undef, undef, undef, undef, undef, undef, undef, undef, undef, undef, undef, (.bool false), undef, undef, undef, undef, (Nat.zero_le _), hT0, rfl⟩
  · intro aL w3 hI
    clear hT0
    obtain ⟨k, u15_0, u16_0, u17_0, u18_0, u4_0, u21_0, u22_0, u23_0, u24_0, u27_0, u28_0, u29_0, u30_0, u31_0, u32_0, u33_0, u34_0, u35_0, u36_0, u37_0, u38_0, u39_0, u40_0, u41_0, u42_0, u43_0, u44_0, u45_0, u46_0, u47_0, u2_0, u25_0, u26_0, u19_0, u20_0, hk, hT0, rfl⟩ := hI
    by_cases hlt : k < len
    · skip
      refine wp_seq_k fun K6 hK6 => ?_
      refine wp_seq_k fun K7 hK7 => ?_
      refine wl_region ?_
      refine dw_val (by kernel_rfl) (.int .i64 (k : Int)) (by kernel_rfl) ?_
      simp only [Act.put, List.setIfInBounds_toArray, List.set_cons_zero, List.set_cons_succ]
      refine dw_val (by kernel_rfl) (.slice ad len cap) (by kernel_rfl) ?_
      simp only [Act.put, List.setIfInBounds_toArray, List.set_cons_zero, List.set_cons_succ]
      refine dw_val (by kernel_rfl) (.int .i64 (len : Int)) (by kernel_rfl) ?_
      simp only [Act.put, List.setIfInBounds_toArray, List.set_cons_zero, List.set_cons_succ]
      refine dw_bool (by kernel_rfl) (decide ((k : Int) < (len : Int))) (by kernel_rfl) (fun hc => ?_) (fun hc => absurd hc (by simp; omega))
      simp only [Act.put, List.setIfInBounds_toArray, List.set_cons_zero, List.set_cons_succ]
      refine wl_nil ?_
      refine hK7 _ _ ?_
      refine wp_cond_true rfl ?_
      refine wp_skip ?_
      refine hK6 _ _ ?_
      refine wp_seq_k fun K8 hK8 => ?_
      refine wp_block ?_
      refine wp_seq_k fun K9 hK9 => ?_
      refine wl_region ?_
      refine dw_val (by kernel_rfl) (.int .i64 0) (by kernel_rfl) ?_
      simp only [Act.put, List.setIfInBounds_toArray, List.set_cons_zero, List.set_cons_succ]
      refine wl_nil ?_
      refine hK9 _ _ ?_
      refine wp_block ?_
      refine wp_loop (fun (aL : Act) (wL : World) => ∃ (j : Nat), ∃ (u21_1 u22_1 u23_1 u24_1 u27_1 u28_1 u29_1 u30_1 u31_1 u32_1 u33_1 u34_1 u35_1 u36_1 u37_1 u38_1 u39_1 u40_1 u41_1 u42_1 u43_1 u44_1 u45_1 u46_1 u47_1 u2_1 u25_1 u26_1 : Value), (j ≤ len) ∧ Touch (fun _ => False) w wL ∧ aL = ⟨#[(.slice ad len cap : Value), undef, u2_1, .int .i64 (k : Int), .int .i64 (j : Int), .slice ad len cap, .agg #[(.string ⟨#[]⟩ : Value), .string ⟨#[]⟩, .int .i64 0, .int .i64 0, .int .u32 0, .int .u32 0, .int .i64 0, .int .i64 0, .int .i64 0, .int .i64 0, .int .i64 0, .bool false, .slice none 0 0, .bool false, .int .u32 0, .int .u32 0, .string ⟨#[]⟩, .int .i64 0, .int .i64 0], .bool (lightB R len askZ), .bool false, .bool false, .slice ad len cap, .int .i64 (len : Int), .bool false, .bool false, undef, .int .i64 (k : Int), .slice ad len cap, .int .i64 (len : Int), .bool true, u19_0, u20_0, u21_1, u22_1, u23_1, u24_1, u25_1, u26_1, u27_1, u28_1, u29_1, u30_1, u31_1, u32_1, u33_1, u34_1, u35_1, u36_1, u37_1, u38_1, u39_1, u40_1, u41_1, u42_1, u43_1, u44_1, u45_1, u46_1, u47_1, undef, undef, undef, undef, undef, undef, undef, undef, undef], []⟩) (fun (aL : Act) (wL : World) => len - (intOf (aL.tmps.getD 4 undef)).toNat) ?_ ?_
      · exact ⟨0, u21_0, u22_0, u23_0, u24_0, u27_0, u28_0, u29_0, u30_0, u31_0, u32_0, u33_0, u34_0, u35_0, u36_0, u37_0, u38_0, u39_0, u40_0, u41_0, u42_0, u43_0, u44_0, u45_0, u46_0, u47_0, u2_0, u25_0, u26_0, (Nat.zero_le _), hT0, rfl⟩
      · intro aL w4 hI
        clear hT0
        obtain ⟨j, u21_1, u22_1, u23_1, u24_1, u27_1, u28_1, u29_1, u30_1, u31_1, u32_1, u33_1, u34_1, u35_1, u36_1, u37_1, u38_1, u39_1, u40_1, u41_1, u42_1, u43_1, u44_1, u45_1, u46_1, u47_1, u2_1, u25_1, u26_1, hj, hT0, rfl⟩ := hI
        by_cases hjl : j < len
        · obtain ⟨b, off, hab, hbs, -⟩ := hR k hlt
          subst hab
          refine wp_seq_k fun K10 hK10 => ?_
          refine wp_seq_k fun K11 hK11 => ?_
          refine wl_region ?_
          refine dw_val (by kernel_rfl) (.int .i64 (j : Int)) (by kernel_rfl) ?_
          simp only [Act.put, List.setIfInBounds_toArray, List.set_cons_zero, List.set_cons_succ]
          refine dw_val (by kernel_rfl) (.slice (some ⟨b, off, none⟩) len cap) (by kernel_rfl) ?_
          simp only [Act.put, List.setIfInBounds_toArray, List.set_cons_zero, List.set_cons_succ]
          refine dw_val (by kernel_rfl) (.int .i64 (len : Int)) (by kernel_rfl) ?_
          simp only [Act.put, List.setIfInBounds_toArray, List.set_cons_zero, List.set_cons_succ]
          refine dw_bool (by kernel_rfl) (decide ((j : Int) < (len : Int))) (by kernel_rfl) (fun hc => ?_) (fun hc => absurd hc (by simp; omega))
          simp only [Act.put, List.setIfInBounds_toArray, List.set_cons_zero, List.set_cons_succ]
          refine wl_nil ?_
          refine hK11 _ _ ?_
          refine wp_cond_true rfl ?_
          refine wp_skip ?_
          refine hK10 _ _ ?_
          refine wp_seq_k fun K12 hK12 => ?_
          refine wp_block ?_
          refine wp_seq_k fun K13 hK13 => ?_
          refine wq_region (Touch (fun _ => False) w4) (by kernel_rfl) (by kernel_rfl) (Touch.refl _ _).drew ?_
          refine dq_val (by kernel_rfl) (.slice (some ⟨b, off, none⟩) len cap) (fun w' _ => by kernel_rfl) ?_
          simp only [Act.put, List.setIfInBounds_toArray, List.set_cons_zero, List.set_cons_succ]
          refine dq_val (by kernel_rfl) (.int .i64 (k : Int)) (fun w' _ => by kernel_rfl) ?_
          simp only [Act.put, List.setIfInBounds_toArray, List.set_cons_zero, List.set_cons_succ]
          refine dq_val (by kernel_rfl) (.pointer (some ⟨b, off + k * 13, none⟩)) (fun w' _ => ev_index 22 43 (.tmp 27) (.tmp 28) rfl b off len cap k 13 .i64 rfl rfl hlt Try.underlying22 (by kernel_rfl) (off + k * 13) (by omega)) ?_
          simp only [Act.put, List.setIfInBounds_toArray, List.set_cons_zero, List.set_cons_succ]
          refine dq_val (by kernel_rfl) (.agg #[(.bool ((R k).acc) : Value), .int .i64 ((R k).side), .string ((R k).fb), .int .i64 ((R k).fn), .string ((R k).tb), .int .i64 ((R k).tn), .int .i64 ((R k).s0), .int .i64 ((R k).s1), .int .i64 ((R k).d0), .int .i64 ((R k).d1), .int .i64 ((R k).mask), .int .i64 ((R k).flags), .int .i64 ((R k).classes)]) (fun w' hC => ev_row 43 (.tmp 29) rfl b (off + k * 13) rfl (R k).cs (rules_range ((hR.keep hT0).keep hC) hlt) _ Try.underlying43 rfl (by kernel_rfl)) ?_
          simp only [Act.put, List.setIfInBounds_toArray, List.set_cons_zero, List.set_cons_succ]
          refine dq_val (by kernel_rfl) (.slice (some ⟨b, off, none⟩) len cap) (fun w' _ => by kernel_rfl) ?_
          simp only [Act.put, List.setIfInBounds_toArray, List.set_cons_zero, List.set_cons_succ]
          refine dq_val (by kernel_rfl) (.int .i64 (j : Int)) (fun w' _ => by kernel_rfl) ?_
          simp only [Act.put, List.setIfInBounds_toArray, List.set_cons_zero, List.set_cons_succ]
          refine dq_val (by kernel_rfl) (.pointer (some ⟨b, off + j * 13, none⟩)) (fun w' _ => ev_index 22 43 (.tmp 31) (.tmp 32) rfl b off len cap j 13 .i64 rfl rfl hjl Try.underlying22 (by kernel_rfl) (off + j * 13) (by omega)) ?_
          simp only [Act.put, List.setIfInBounds_toArray, List.set_cons_zero, List.set_cons_succ]
          refine dq_val (by kernel_rfl) (.agg #[(.bool ((R j).acc) : Value), .int .i64 ((R j).side), .string ((R j).fb), .int .i64 ((R j).fn), .string ((R j).tb), .int .i64 ((R j).tn), .int .i64 ((R j).s0), .int .i64 ((R j).s1), .int .i64 ((R j).d0), .int .i64 ((R j).d1), .int .i64 ((R j).mask), .int .i64 ((R j).flags), .int .i64 ((R j).classes)]) (fun w' hC => ev_row 43 (.tmp 33) rfl b (off + j * 13) rfl (R j).cs (rules_range ((hR.keep hT0).keep hC) hjl) _ Try.underlying43 rfl (by kernel_rfl)) ?_
          simp only [Act.put, List.setIfInBounds_toArray, List.set_cons_zero, List.set_cons_succ]
          refine dq_ret (by kernel_rfl) 18 #[(.agg #[(.bool ((R k).acc) : Value), .int .i64 ((R k).side), .string ((R k).fb), .int .i64 ((R k).fn), .string ((R k).tb), .int .i64 ((R k).tn), .int .i64 ((R k).s0), .int .i64 ((R k).s1), .int .i64 ((R k).d0), .int .i64 ((R k).d1), .int .i64 ((R k).mask), .int .i64 ((R k).flags), .int .i64 ((R k).classes)] : Value), .agg #[(.bool ((R j).acc) : Value), .int .i64 ((R j).side), .string ((R j).fb), .int .i64 ((R j).fn), .string ((R j).tb), .int .i64 ((R j).tn), .int .i64 ((R j).s0), .int .i64 ((R j).s1), .int .i64 ((R j).d0), .int .i64 ((R j).d1), .int .i64 ((R j).mask), .int .i64 ((R j).flags), .int .i64 ((R j).classes)]] (fun w' _ => by kernel_rfl) (fun w' hC => covers_any (R k) (R j) (hsm _ hlt).1 (hsm _ hlt).2 (hsm _ hjl).1 (hsm _ hjl).2 w') (fun w1 w2 hC hb => hC.trans (Touch.none hb) (fun _ _ h => h)) ?_
          simp only [Act.put, List.setIfInBounds_toArray, List.set_cons_zero, List.set_cons_succ]
          refine dq_val (by kernel_rfl) (.slice (some ⟨b, off, none⟩) len cap) (fun w' _ => by kernel_rfl) ?_
          simp only [Act.put, List.setIfInBounds_toArray, List.set_cons_zero, List.set_cons_succ]
          refine dq_val (by kernel_rfl) (.int .i64 (k : Int)) (fun w' _ => by kernel_rfl) ?_
          simp only [Act.put, List.setIfInBounds_toArray, List.set_cons_zero, List.set_cons_succ]
          refine dq_val (by kernel_rfl) (.pointer (some ⟨b, off + k * 13, none⟩)) (fun w' _ => ev_index 22 43 (.tmp 36) (.tmp 37) rfl b off len cap k 13 .i64 rfl rfl hlt Try.underlying22 (by kernel_rfl) (off + k * 13) (by omega)) ?_
          simp only [Act.put, List.setIfInBounds_toArray, List.set_cons_zero, List.set_cons_succ]
          refine dq_val (by kernel_rfl) (.agg #[(.bool ((R k).acc) : Value), .int .i64 ((R k).side), .string ((R k).fb), .int .i64 ((R k).fn), .string ((R k).tb), .int .i64 ((R k).tn), .int .i64 ((R k).s0), .int .i64 ((R k).s1), .int .i64 ((R k).d0), .int .i64 ((R k).d1), .int .i64 ((R k).mask), .int .i64 ((R k).flags), .int .i64 ((R k).classes)]) (fun w' hC => ev_row 43 (.tmp 38) rfl b (off + k * 13) rfl (R k).cs (rules_range ((hR.keep hT0).keep hC) hlt) _ Try.underlying43 rfl (by kernel_rfl)) ?_
          simp only [Act.put, List.setIfInBounds_toArray, List.set_cons_zero, List.set_cons_succ]
          refine dq_ret (by kernel_rfl) 12 #[(.agg #[(.bool ((R k).acc) : Value), .int .i64 ((R k).side), .string ((R k).fb), .int .i64 ((R k).fn), .string ((R k).tb), .int .i64 ((R k).tn), .int .i64 ((R k).s0), .int .i64 ((R k).s1), .int .i64 ((R k).d0), .int .i64 ((R k).d1), .int .i64 ((R k).mask), .int .i64 ((R k).flags), .int .i64 ((R k).classes)] : Value)] (fun w' _ => by kernel_rfl) (fun w' hC => plain_any (R k) w') (fun w1 w2 hC hb => hC.trans (Touch.none hb) (fun _ _ h => h)) ?_
          simp only [Act.put, List.setIfInBounds_toArray, List.set_cons_zero, List.set_cons_succ]
          refine dq_val (by kernel_rfl) (.slice (some ⟨b, off, none⟩) len cap) (fun w' _ => by kernel_rfl) ?_
          simp only [Act.put, List.setIfInBounds_toArray, List.set_cons_zero, List.set_cons_succ]
          refine dq_val (by kernel_rfl) (.int .i64 (j : Int)) (fun w' _ => by kernel_rfl) ?_
          simp only [Act.put, List.setIfInBounds_toArray, List.set_cons_zero, List.set_cons_succ]
          refine dq_val (by kernel_rfl) (.pointer (some ⟨b, off + j * 13, none⟩)) (fun w' _ => ev_index 22 43 (.tmp 41) (.tmp 42) rfl b off len cap j 13 .i64 rfl rfl hjl Try.underlying22 (by kernel_rfl) (off + j * 13) (by omega)) ?_
          simp only [Act.put, List.setIfInBounds_toArray, List.set_cons_zero, List.set_cons_succ]
          refine dq_val (by kernel_rfl) (.agg #[(.bool ((R j).acc) : Value), .int .i64 ((R j).side), .string ((R j).fb), .int .i64 ((R j).fn), .string ((R j).tb), .int .i64 ((R j).tn), .int .i64 ((R j).s0), .int .i64 ((R j).s1), .int .i64 ((R j).d0), .int .i64 ((R j).d1), .int .i64 ((R j).mask), .int .i64 ((R j).flags), .int .i64 ((R j).classes)]) (fun w' hC => ev_row 43 (.tmp 43) rfl b (off + j * 13) rfl (R j).cs (rules_range ((hR.keep hT0).keep hC) hjl) _ Try.underlying43 rfl (by kernel_rfl)) ?_
          simp only [Act.put, List.setIfInBounds_toArray, List.set_cons_zero, List.set_cons_succ]
          refine dq_ret (by kernel_rfl) 12 #[(.agg #[(.bool ((R j).acc) : Value), .int .i64 ((R j).side), .string ((R j).fb), .int .i64 ((R j).fn), .string ((R j).tb), .int .i64 ((R j).tn), .int .i64 ((R j).s0), .int .i64 ((R j).s1), .int .i64 ((R j).d0), .int .i64 ((R j).d1), .int .i64 ((R j).mask), .int .i64 ((R j).flags), .int .i64 ((R j).classes)] : Value)] (fun w' _ => by kernel_rfl) (fun w' hC => plain_any (R j) w') (fun w1 w2 hC hb => hC.trans (Touch.none hb) (fun _ _ h => h)) ?_
          simp only [Act.put, List.setIfInBounds_toArray, List.set_cons_zero, List.set_cons_succ]
          refine dq_ret (by kernel_rfl) 19 #[(.agg #[(.bool ((R k).acc) : Value), .int .i64 ((R k).side), .string ((R k).fb), .int .i64 ((R k).fn), .string ((R k).tb), .int .i64 ((R k).tn), .int .i64 ((R k).s0), .int .i64 ((R k).s1), .int .i64 ((R k).d0), .int .i64 ((R k).d1), .int .i64 ((R k).mask), .int .i64 ((R k).flags), .int .i64 ((R k).classes)] : Value), .agg #[(.bool ((R j).acc) : Value), .int .i64 ((R j).side), .string ((R j).fb), .int .i64 ((R j).fn), .string ((R j).tb), .int .i64 ((R j).tn), .int .i64 ((R j).s0), .int .i64 ((R j).s1), .int .i64 ((R j).d0), .int .i64 ((R j).d1), .int .i64 ((R j).mask), .int .i64 ((R j).flags), .int .i64 ((R j).classes)]] (fun w' _ => by kernel_rfl) (fun w' hC => rcovers19 (R k) (R j) (hnd _ _ hlt hjl).1 (hnd _ _ hlt hjl).2 (hsm _ hlt).1 (hsm _ hlt).2 (hsm _ hjl).1 (hsm _ hjl).2 w') (fun w1 w2 hC hb => hC.trans (Touch.none hb) (fun _ _ h => h)) ?_
          simp only [Act.put, List.setIfInBounds_toArray, List.set_cons_zero, List.set_cons_succ]
          refine dq_bool (by kernel_rfl) ((coversB (R k) (R j)) != (coversB (R k) (R j))) (fun w' _ => by kernel_rfl) (fun hc => absurd hc (by simp)) (fun hc => ?_)
          simp only [Act.put, List.setIfInBounds_toArray, List.set_cons_zero, List.set_cons_succ]
          refine wq_nil ?_
          intro w5 hT6
          replace hT0 := hT0.trans hT6 (fun _ _ h => h.elim)
          refine hK13 _ _ ?_
          refine wp_cond_false rfl ?_
          refine wp_skip ?_
          refine hK12 _ _ ?_
          refine wl_region ?_
          refine dw_val (by kernel_rfl) (.int .i64 (j : Int)) (by kernel_rfl) ?_
          simp only [Act.put, List.setIfInBounds_toArray, List.set_cons_zero, List.set_cons_succ]
          refine dw_val2 (by kernel_rfl) (.int .i64 (IntKind.i64.wrap ((j : Int) + 1))) (.int .i64 ((j + 1 : Nat) : Int)) (by kernel_rfl) (by rw [show IntKind.i64.wrap ((j : Int) + 1) = ((j + 1 : Nat) : Int) from by rw [IntWalk.i64_in _ (by omega)]; rfl]) ?_
          simp only [Act.put, List.setIfInBounds_toArray, List.set_cons_zero, List.set_cons_succ]
          refine dw_val (by kernel_rfl) (.int .i64 ((j + 1 : Nat) : Int)) (by kernel_rfl) ?_
          simp only [Act.put, List.setIfInBounds_toArray, List.set_cons_zero, List.set_cons_succ]
          refine wl_nil ?_
          refine then_normal ?_
          refine ⟨⟨(j + 1), (.int .i64 (j : Int)), (.slice (some ⟨b, off, none⟩) len cap), (.int .i64 (len : Int)), (.bool true), (.slice (some ⟨b, off, none⟩) len cap), (.int .i64 (k : Int)), (.pointer (some ⟨b, off + k * 13, none⟩)), (.agg #[(.bool ((R k).acc) : Value), .int .i64 ((R k).side), .string ((R k).fb), .int .i64 ((R k).fn), .string ((R k).tb), .int .i64 ((R k).tn), .int .i64 ((R k).s0), .int .i64 ((R k).s1), .int .i64 ((R k).d0), .int .i64 ((R k).d1), .int .i64 ((R k).mask), .int .i64 ((R k).flags), .int .i64 ((R k).classes)]), (.slice (some ⟨b, off, none⟩) len cap), (.int .i64 (j : Int)), (.pointer (some ⟨b, off + j * 13, none⟩)), (.agg #[(.bool ((R j).acc) : Value), .int .i64 ((R j).side), .string ((R j).fb), .int .i64 ((R j).fn), .string ((R j).tb), .int .i64 ((R j).tn), .int .i64 ((R j).s0), .int .i64 ((R j).s1), .int .i64 ((R j).d0), .int .i64 ((R j).d1), .int .i64 ((R j).mask), .int .i64 ((R j).flags), .int .i64 ((R j).classes)]), (.bool (coversB (R k) (R j))), (.slice (some ⟨b, off, none⟩) len cap), (.int .i64 (k : Int)), (.pointer (some ⟨b, off + k * 13, none⟩)), (.agg #[(.bool ((R k).acc) : Value), .int .i64 ((R k).side), .string ((R k).fb), .int .i64 ((R k).fn), .string ((R k).tb), .int .i64 ((R k).tn), .int .i64 ((R k).s0), .int .i64 ((R k).s1), .int .i64 ((R k).d0), .int .i64 ((R k).d1), .int .i64 ((R k).mask), .int .i64 ((R k).flags), .int .i64 ((R k).classes)]), (.agg #[(.bool ((R k).acc) : Value), .int .i64 ((R k).side), .string ((R k).fb), .int .i64 ((R k).fn), .string ((R k).tb), .int .i64 ((R k).tn), .int .i64 ((R k).s0), .int .i64 ((R k).s1), .int .i64 ((R k).d0), .int .i64 ((R k).d1), .int .i64 ((R k).mask), .int .i64 ((R k).flags), .int .i64 ((R k).classes)]), (.slice (some ⟨b, off, none⟩) len cap), (.int .i64 (j : Int)), (.pointer (some ⟨b, off + j * 13, none⟩)), (.agg #[(.bool ((R j).acc) : Value), .int .i64 ((R j).side), .string ((R j).fb), .int .i64 ((R j).fn), .string ((R j).tb), .int .i64 ((R j).tn), .int .i64 ((R j).s0), .int .i64 ((R j).s1), .int .i64 ((R j).d0), .int .i64 ((R j).d1), .int .i64 ((R j).mask), .int .i64 ((R j).flags), .int .i64 ((R j).classes)]), (.agg #[(.bool ((R j).acc) : Value), .int .i64 ((R j).side), .string ((R j).fb), .int .i64 ((R j).fn), .string ((R j).tb), .int .i64 ((R j).tn), .int .i64 ((R j).s0), .int .i64 ((R j).s1), .int .i64 ((R j).d0), .int .i64 ((R j).d1), .int .i64 ((R j).mask), .int .i64 ((R j).flags), .int .i64 ((R j).classes)]), (.bool (coversB (R k) (R j))), (.bool false), u2_1, (.int .i64 (j : Int)), (.int .i64 ((j + 1 : Nat) : Int)), (by omega), hT0, rfl⟩, ?_⟩
          simp [intOf]; omega
        · have hge : ¬ j < len := hjl
          refine wp_seq_k fun K14 hK14 => ?_
          refine wp_seq_k fun K15 hK15 => ?_
          refine wl_region ?_
          refine dw_val (by kernel_rfl) (.int .i64 (j : Int)) (by kernel_rfl) ?_
          simp only [Act.put, List.setIfInBounds_toArray, List.set_cons_zero, List.set_cons_succ]
          refine dw_val (by kernel_rfl) (.slice ad len cap) (by kernel_rfl) ?_
          simp only [Act.put, List.setIfInBounds_toArray, List.set_cons_zero, List.set_cons_succ]
          refine dw_val (by kernel_rfl) (.int .i64 (len : Int)) (by kernel_rfl) ?_
          simp only [Act.put, List.setIfInBounds_toArray, List.set_cons_zero, List.set_cons_succ]
          refine dw_bool (by kernel_rfl) (decide ((j : Int) < (len : Int))) (by kernel_rfl) (fun hc => absurd hc (by simp; omega)) (fun hc => ?_)
          simp only [Act.put, List.setIfInBounds_toArray, List.set_cons_zero, List.set_cons_succ]
          refine wl_nil ?_
          refine hK15 _ _ ?_
          refine wp_cond_false rfl ?_
          refine wp_exit ?_
          refine hK8 _ _ ?_
          refine wl_region ?_
          refine dw_val (by kernel_rfl) (.int .i64 (k : Int)) (by kernel_rfl) ?_
          simp only [Act.put, List.setIfInBounds_toArray, List.set_cons_zero, List.set_cons_succ]
          refine dw_val2 (by kernel_rfl) (.int .i64 (IntKind.i64.wrap ((k : Int) + 1))) (.int .i64 ((k + 1 : Nat) : Int)) (by kernel_rfl) (by rw [show IntKind.i64.wrap ((k : Int) + 1) = ((k + 1 : Nat) : Int) from by rw [IntWalk.i64_in _ (by omega)]; rfl]) ?_
          simp only [Act.put, List.setIfInBounds_toArray, List.set_cons_zero, List.set_cons_succ]
          refine dw_val (by kernel_rfl) (.int .i64 ((k + 1 : Nat) : Int)) (by kernel_rfl) ?_
          simp only [Act.put, List.setIfInBounds_toArray, List.set_cons_zero, List.set_cons_succ]
          refine wl_nil ?_
          refine then_normal ?_
          refine ⟨⟨(k + 1), (.int .i64 (k : Int)), (.slice ad len cap), (.int .i64 (len : Int)), (.bool true), (.int .i64 (j : Int)), (.int .i64 (j : Int)), (.slice ad len cap), (.int .i64 (len : Int)), (.bool false), u27_1, u28_1, u29_1, u30_1, u31_1, u32_1, u33_1, u34_1, u35_1, u36_1, u37_1, u38_1, u39_1, u40_1, u41_1, u42_1, u43_1, u44_1, u45_1, u46_1, u47_1, u2_1, u25_1, u26_1, (.int .i64 (k : Int)), (.int .i64 ((k + 1 : Nat) : Int)), (by omega), hT0, rfl⟩, ?_⟩
          simp [intOf]; omega
    · have hge : ¬ k < len := hlt
      refine wp_seq_k fun K16 hK16 => ?_
      refine wp_seq_k fun K17 hK17 => ?_
      refine wl_region ?_
      refine dw_val (by kernel_rfl) (.int .i64 (k : Int)) (by kernel_rfl) ?_
      simp only [Act.put, List.setIfInBounds_toArray, List.set_cons_zero, List.set_cons_succ]
      refine dw_val (by kernel_rfl) (.slice ad len cap) (by kernel_rfl) ?_
      simp only [Act.put, List.setIfInBounds_toArray, List.set_cons_zero, List.set_cons_succ]
      refine dw_val (by kernel_rfl) (.int .i64 (len : Int)) (by kernel_rfl) ?_
      simp only [Act.put, List.setIfInBounds_toArray, List.set_cons_zero, List.set_cons_succ]
      refine dw_bool (by kernel_rfl) (decide ((k : Int) < (len : Int))) (by kernel_rfl) (fun hc => absurd hc (by simp; omega)) (fun hc => ?_)
      simp only [Act.put, List.setIfInBounds_toArray, List.set_cons_zero, List.set_cons_succ]
      refine wl_nil ?_
      refine hK17 _ _ ?_
      refine wp_cond_false rfl ?_
      refine wp_exit ?_
      refine hK4 _ _ ?_
      refine wp_seq_k fun K18 hK18 => ?_
      refine wl_region ?_
      refine dw_val (by kernel_rfl) (.slice ad len cap) (by kernel_rfl) ?_
      simp only [Act.put, List.setIfInBounds_toArray, List.set_cons_zero, List.set_cons_succ]
      refine dw_enter (by kernel_rfl) 21 #[(.slice ad len cap : Value)] (by kernel_rfl) ?_
      (with_reducible refine Calls.mono (shadowed_any ad len cap R w3 (hR.keep hT0) hlc hcap h60 hsm) ?_)
      rintro e w7 ⟨v8, rfl, ho49, hb⟩
      refine ⟨v8, rfl, ?_⟩
      have ht9 : Touch (fun _ => False) w3 w7 := Touch.none hb
      replace hT0 := hT0.trans ht9 (fun _ _ h => h.elim)
      clear hb
      simp only [Act.put, List.setIfInBounds_toArray, List.set_cons_zero, List.set_cons_succ]
      refine dw_val (by kernel_rfl) (.slice ad len cap) (by kernel_rfl) ?_
      simp only [Act.put, List.setIfInBounds_toArray, List.set_cons_zero, List.set_cons_succ]
      have ho49b := ho49
      refine dw_enter (by kernel_rfl) 15 #[(.slice ad len cap : Value)] (by kernel_rfl) ?_
      (with_reducible refine Calls.mono (all_any ad len cap R w7 (hR.keep hT0) hlc hcap h60) ?_)
      rintro e w10 ⟨v11, rfl, hr51, hb⟩
      refine ⟨v11, rfl, ?_⟩
      have ht12 : Touch (fun _ => False) w7 w10 := Touch.none hb
      replace hT0 := hT0.trans ht12 (fun _ _ h => h.elim)
      replace ho49 := own_keep ho49 (Touch.none hb) (fun _ _ _ h => h)
      clear hb
      obtain ⟨ad2, cap2, rfl, hc1, hc2, hr2⟩ := own_rules hr51
      simp only [Act.put, List.setIfInBounds_toArray, List.set_cons_zero, List.set_cons_succ]
      refine dw_enter (by kernel_rfl) 22 #[(.slice ad2 len cap2 : Value)] (by kernel_rfl) ?_
      (with_reducible refine Calls.mono (rshadowed_any ad2 len cap2 R w10 hr2 hc1 hc2 h60 hla hnd) ?_)
      rintro e w13 ⟨v14, rfl, ho52, hb⟩
      refine ⟨v14, rfl, ?_⟩
      have ht15 : Touch (fun _ => False) w10 w13 := Touch.none hb
      replace hT0 := hT0.trans ht15 (fun _ _ h => h.elim)
      replace ho49 := own_keep ho49 (Touch.none hb) (fun _ _ _ h => h)
      clear hb
      simp only [Act.put, List.setIfInBounds_toArray, List.set_cons_zero, List.set_cons_succ]
      refine dw_ret (by kernel_rfl) 20 #[(v8 : Value), v14] (by kernel_rfl) (ints_any (SL.of_own ho49) (SL.of_own ho52) (by have := shadL_len R len; omega)) ?_
      intro w16 hb
      have ht17 : Touch (fun _ => False) w13 w16 := (by obtain ⟨n, rfl⟩ := hb; exact (Touch.refl _ _).drewN n)
      replace hT0 := hT0.trans ht17 (fun _ _ h => h.elim)
      clear hb
      simp only [Act.put, List.setIfInBounds_toArray, List.set_cons_zero, List.set_cons_succ]
      refine dw_val (by kernel_rfl) (.bool true) (by kernel_rfl) ?_
      simp only [Act.put, List.setIfInBounds_toArray, List.set_cons_zero, List.set_cons_succ]
      refine dw_ret (by kernel_rfl) 9 #[] (by kernel_rfl) (known_any w16) ?_
      intro w18 hb
      have ht19 : Touch (fun _ => False) w16 w18 := Touch.none hb
      replace hT0 := hT0.trans ht19 (fun _ _ h => h.elim)
      clear hb
      simp only [Act.put, List.setIfInBounds_toArray, List.set_cons_zero, List.set_cons_succ]
      refine dw_val (by kernel_rfl) (.bool true) (by kernel_rfl) ?_
      simp only [Act.put, List.setIfInBounds_toArray, List.set_cons_zero, List.set_cons_succ]
      refine dw_val (by kernel_rfl) (.bool true) (by kernel_rfl) ?_
      simp only [Act.put, List.setIfInBounds_toArray, List.set_cons_zero, List.set_cons_succ]
      refine wl_nil ?_
      refine hK18 _ _ ?_
      refine wp_ret ?_
      repeat (first | with_reducible refine ret_then ?_ | with_reducible refine ret_block ?_)
      refine bodyPost_ret (v := .bool true) (by kernel_rfl) rfl ?_
      exact ⟨rfl, hT0.toBelow⟩
theorem matchCovers_walk {w : World} (ad : Option Addr) (len cap : Nat) (w0 : RowIn Try.prog w 43 13 ad len ∧ len ≤ cap ∧ cap ≤ maxLen) :
    Calls Try.prog 4 #[.slice ad len cap] w fun e w' => e = .returned (.bool true) ∧ Below w.heap.size w w' := by
  obtain ⟨R, hR⟩ := rules_of w0.1
  have hcl : len ≤ 9223372036854775807 := by have := w0.2; unfold maxLen at this; omega
  cases hl : lightB R len askZ with
  | false => exact covers_dark ad len cap R w hR hcl hl
  | true =>
    obtain ⟨h60, hla, hsm, hsrc, hdst⟩ := light_parts hl
    by_cases h20 : 20 < len
    · exact covers_long ad len cap R w hR hcl hl h20
    · exact covers_light ad len cap R w hR w0.2.1 w0.2.2 hcl hl (by omega) h60 hla hsm (nand_ok hla)
end Go.Proofs.Ytolkimdfnlfpbaa
