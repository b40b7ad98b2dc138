/- MatchOrder: what the law walks. Conditions: the arguments read as rules and asks. -/
import Derived.Test.YtolkimdfnlfpbaaXE
import Derived.Laws.Rows
import Derived.Test.YtolkimdfnlfpbaaXF
set_option linter.unusedVariables false
set_option linter.unusedSimpArgs false
namespace Go.Proofs.Ytolkimdfnlfpbaa
open Go.RowKit
theorem cov_yes {b : Bool} {f : FuncId} {args : Array Value} {w : World} {R : World → Prop} (h : b = true) (hc : Calls Try.prog f args w fun e w' => e = .returned (.bool b) ∧ R w') : Calls Try.prog f args w fun e w' => e = .returned (.bool true) ∧ R w' := h ▸ hc
set_option maxRecDepth 100000 in
set_option maxHeartbeats 4000000 in
theorem order_dark (ad : Option Addr) (len cap : Nat) (R : Nat → Rl) (a : Ak) (w : World) (hR : RulesAt w ad len R) (hcl : len ≤ 9223372036854775807) (hl : lightB R len a = false) :
    Calls Try.prog 6 #[.slice ad len cap, .agg a.cs.toArray] w fun e w' => e = .returned (.bool true) ∧ Below w.heap.size w w' := by
  have hT0 := Touch.refl (fun _ => False) w
  go_enter Try.func6, Try.ntmps6
  refine wp_seq_k fun K1 hK1 => ?_
  refine wl_region ?_
  refine dw_new (by kernel_rfl) [(.string a.src : Value), .string a.dst, .int .i64 a.from_, .int .i64 a.to_, .int .u32 a.seq, .int .u32 a.ack, .int .i64 a.flags, .int .i64 a.win, .int .i64 a.urg, .int .i64 a.mss, .int .i64 a.scale, .bool (a.sack), .slice a.ba a.bn a.bc, .bool (a.timed), .int .u32 a.time, .int .u32 a.echo, .string a.data, .int .i64 a.side, .int .i64 a.class_] 34 (by kernel_rfl) ?_
  intro n1 w2 hnn1 hsn1 hBn1 hTn1
  have hgen1 : w.heap.size ≤ n1 := by have := hT0.size; omega
  replace hT0 := hT0.trans hTn1 (fun _ _ h => h.elim)
  simp only [Act.put, List.setIfInBounds_toArray, List.set_cons_zero, List.set_cons_succ]
  refine dw_val (by kernel_rfl) (.bool false) (by kernel_rfl) ?_
  simp only [Act.put, List.setIfInBounds_toArray, List.set_cons_zero, List.set_cons_succ]
  refine wl_nil ?_
  refine hK1 _ _ ?_
  refine wp_seq_k fun K2 hK2 => ?_
  refine wp_seq_k fun K3 hK3 => ?_
  refine wl_region ?_
  refine dw_val (by kernel_rfl) (.slice ad len cap) (by kernel_rfl) ?_
  simp only [Act.put, List.setIfInBounds_toArray, List.set_cons_zero, List.set_cons_succ]
  refine dw_row (by kernel_rfl) 34 (.tmp 3) rfl n1 0 rfl _ _ hBn1 [(.string a.src : Value), .string a.dst, .int .i64 a.from_, .int .i64 a.to_, .int .u32 a.seq, .int .u32 a.ack, .int .i64 a.flags, .int .i64 a.win, .int .i64 a.urg, .int .i64 a.mss, .int .i64 a.scale, .bool (a.sack), .slice a.ba a.bn a.bc, .bool (a.timed), .int .u32 a.time, .int .u32 a.echo, .string a.data, .int .i64 a.side, .int .i64 a.class_] rfl _ Try.underlying34 rfl (by kernel_rfl) ?_
  simp only [Act.put, List.setIfInBounds_toArray, List.set_cons_zero, List.set_cons_succ]
  refine dw_ret (by kernel_rfl) 8 #[(.slice ad len cap : Value), .agg #[(.string a.src : Value), .string a.dst, .int .i64 a.from_, .int .i64 a.to_, .int .u32 a.seq, .int .u32 a.ack, .int .i64 a.flags, .int .i64 a.win, .int .i64 a.urg, .int .i64 a.mss, .int .i64 a.scale, .bool (a.sack), .slice a.ba a.bn a.bc, .bool (a.timed), .int .u32 a.time, .int .u32 a.echo, .string a.data, .int .i64 a.side, .int .i64 a.class_]] (by kernel_rfl) (light_any ad len cap R a w2 (hR.keep hT0) hcl) ?_
  intro w3 hb
  have ht4 : Touch (fun _ => False) w2 w3 := Touch.none hb
  replace hBn1 := hBn1.keep ht4 (fun h => h)
  replace hT0 := hT0.trans ht4 (fun _ _ h => h.elim)
  clear hb
  simp only [Act.put, List.setIfInBounds_toArray, List.set_cons_zero, List.set_cons_succ]
  refine dw_bool (by kernel_rfl) (!(lightB R len a)) (by kernel_rfl) (fun hc => ?_) (fun hc => absurd hc (by simp [hl]))
  simp only [Act.put, List.setIfInBounds_toArray, List.set_cons_zero, List.set_cons_succ]
  refine dw_val (by kernel_rfl) (.bool true) (by kernel_rfl) ?_
  simp only [Act.put, List.setIfInBounds_toArray, List.set_cons_zero, List.set_cons_succ]
  refine dw_no (by kernel_rfl) ?_
  simp only [Act.put, List.setIfInBounds_toArray, List.set_cons_zero, List.set_cons_succ]
  refine dw_no (by kernel_rfl) ?_
  simp only [Act.put, List.setIfInBounds_toArray, List.set_cons_zero, List.set_cons_succ]
  refine dw_no (by kernel_rfl) ?_
  simp only [Act.put, List.setIfInBounds_toArray, List.set_cons_zero, List.set_cons_succ]
  refine dw_val (by kernel_rfl) (.bool true) (by kernel_rfl) ?_
  simp only [Act.put, List.setIfInBounds_toArray, List.set_cons_zero, List.set_cons_succ]
  refine wl_nil ?_
  refine hK3 _ _ ?_
  refine wp_cond_true rfl ?_
  refine wp_seq_k fun K4 hK4 => ?_
  refine wl_region ?_
  refine dw_ret (by kernel_rfl) 9 #[] (by kernel_rfl) (known_any w3) ?_
  intro w5 hb
  have ht6 : Touch (fun _ => False) w3 w5 := Touch.none hb
  replace hBn1 := hBn1.keep ht6 (fun h => h)
  replace hT0 := hT0.trans ht6 (fun _ _ h => h.elim)
  clear hb
  simp only [Act.put, List.setIfInBounds_toArray, List.set_cons_zero, List.set_cons_succ]
  refine dw_val (by kernel_rfl) (.bool true) (by kernel_rfl) ?_
  simp only [Act.put, List.setIfInBounds_toArray, List.set_cons_zero, List.set_cons_succ]
  refine wl_nil ?_
  refine hK4 _ _ ?_
  refine wp_ret ?_
  repeat (first | with_reducible refine ret_then ?_ | with_reducible refine ret_block ?_)
  refine bodyPost_ret (v := .bool true) (by kernel_rfl) rfl ?_
  exact ⟨rfl, hT0.toBelow⟩
set_option maxRecDepth 100000 in
set_option maxHeartbeats 4000000 in
theorem order_long (ad : Option Addr) (len cap : Nat) (R : Nat → Rl) (a : Ak) (w : World) (hR : RulesAt w ad len R) (hcl : len ≤ 9223372036854775807) (hl : lightB R len a = true) (h20 : 20 < len) :
    Calls Try.prog 6 #[.slice ad len cap, .agg a.cs.toArray] w fun e w' => e = .returned (.bool true) ∧ Below w.heap.size w w' := by
  have hT0 := Touch.refl (fun _ => False) w
  go_enter Try.func6, Try.ntmps6
  refine wp_seq_k fun K1 hK1 => ?_
  refine wl_region ?_
  refine dw_new (by kernel_rfl) [(.string a.src : Value), .string a.dst, .int .i64 a.from_, .int .i64 a.to_, .int .u32 a.seq, .int .u32 a.ack, .int .i64 a.flags, .int .i64 a.win, .int .i64 a.urg, .int .i64 a.mss, .int .i64 a.scale, .bool (a.sack), .slice a.ba a.bn a.bc, .bool (a.timed), .int .u32 a.time, .int .u32 a.echo, .string a.data, .int .i64 a.side, .int .i64 a.class_] 34 (by kernel_rfl) ?_
  intro n1 w2 hnn1 hsn1 hBn1 hTn1
  have hgen1 : w.heap.size ≤ n1 := by have := hT0.size; omega
  replace hT0 := hT0.trans hTn1 (fun _ _ h => h.elim)
  simp only [Act.put, List.setIfInBounds_toArray, List.set_cons_zero, List.set_cons_succ]
  refine dw_val (by kernel_rfl) (.bool false) (by kernel_rfl) ?_
  simp only [Act.put, List.setIfInBounds_toArray, List.set_cons_zero, List.set_cons_succ]
  refine wl_nil ?_
  refine hK1 _ _ ?_
  refine wp_seq_k fun K2 hK2 => ?_
  refine wp_seq_k fun K3 hK3 => ?_
  refine wl_region ?_
  refine dw_val (by kernel_rfl) (.slice ad len cap) (by kernel_rfl) ?_
  simp only [Act.put, List.setIfInBounds_toArray, List.set_cons_zero, List.set_cons_succ]
  refine dw_row (by kernel_rfl) 34 (.tmp 3) rfl n1 0 rfl _ _ hBn1 [(.string a.src : Value), .string a.dst, .int .i64 a.from_, .int .i64 a.to_, .int .u32 a.seq, .int .u32 a.ack, .int .i64 a.flags, .int .i64 a.win, .int .i64 a.urg, .int .i64 a.mss, .int .i64 a.scale, .bool (a.sack), .slice a.ba a.bn a.bc, .bool (a.timed), .int .u32 a.time, .int .u32 a.echo, .string a.data, .int .i64 a.side, .int .i64 a.class_] rfl _ Try.underlying34 rfl (by kernel_rfl) ?_
  simp only [Act.put, List.setIfInBounds_toArray, List.set_cons_zero, List.set_cons_succ]
  refine dw_ret (by kernel_rfl) 8 #[(.slice ad len cap : Value), .agg #[(.string a.src : Value), .string a.dst, .int .i64 a.from_, .int .i64 a.to_, .int .u32 a.seq, .int .u32 a.ack, .int .i64 a.flags, .int .i64 a.win, .int .i64 a.urg, .int .i64 a.mss, .int .i64 a.scale, .bool (a.sack), .slice a.ba a.bn a.bc, .bool (a.timed), .int .u32 a.time, .int .u32 a.echo, .string a.data, .int .i64 a.side, .int .i64 a.class_]] (by kernel_rfl) (light_any ad len cap R a w2 (hR.keep hT0) hcl) ?_
  intro w3 hb
  have ht4 : Touch (fun _ => False) w2 w3 := Touch.none hb
  replace hBn1 := hBn1.keep ht4 (fun h => h)
  replace hT0 := hT0.trans ht4 (fun _ _ h => h.elim)
  clear hb
  simp only [Act.put, List.setIfInBounds_toArray, List.set_cons_zero, List.set_cons_succ]
  refine dw_bool (by kernel_rfl) (!(lightB R len a)) (by kernel_rfl) (fun hc => absurd hc (by simp [hl])) (fun hc => ?_)
  simp only [Act.put, List.setIfInBounds_toArray, List.set_cons_zero, List.set_cons_succ]
  refine dw_val (by kernel_rfl) (.bool false) (by kernel_rfl) ?_
  simp only [Act.put, List.setIfInBounds_toArray, List.set_cons_zero, List.set_cons_succ]
  refine dw_val (by kernel_rfl) (.slice ad len cap) (by kernel_rfl) ?_
  simp only [Act.put, List.setIfInBounds_toArray, List.set_cons_zero, List.set_cons_succ]
  refine dw_val (by kernel_rfl) (.int .i64 (len : Int)) (by kernel_rfl) ?_
  simp only [Act.put, List.setIfInBounds_toArray, List.set_cons_zero, List.set_cons_succ]
  refine dw_bool (by kernel_rfl) (decide (20 < (len : Int))) (by kernel_rfl) (fun hc => ?_) (fun hc => absurd hc (by simp; omega))
  simp only [Act.put, List.setIfInBounds_toArray, List.set_cons_zero, List.set_cons_succ]
  refine dw_val (by kernel_rfl) (.bool true) (by kernel_rfl) ?_
  simp only [Act.put, List.setIfInBounds_toArray, List.set_cons_zero, List.set_cons_succ]
  refine wl_nil ?_
  refine hK3 _ _ ?_
  refine wp_cond_true rfl ?_
  refine wp_seq_k fun K4 hK4 => ?_
  refine wl_region ?_
  refine dw_ret (by kernel_rfl) 9 #[] (by kernel_rfl) (known_any w3) ?_
  intro w5 hb
  have ht6 : Touch (fun _ => False) w3 w5 := Touch.none hb
  replace hBn1 := hBn1.keep ht6 (fun h => h)
  replace hT0 := hT0.trans ht6 (fun _ _ h => h.elim)
  clear hb
  simp only [Act.put, List.setIfInBounds_toArray, List.set_cons_zero, List.set_cons_succ]
  refine dw_val (by kernel_rfl) (.bool true) (by kernel_rfl) ?_
  simp only [Act.put, List.setIfInBounds_toArray, List.set_cons_zero, List.set_cons_succ]
  refine wl_nil ?_
  refine hK4 _ _ ?_
  refine wp_ret ?_
  repeat (first | with_reducible refine ret_then ?_ | with_reducible refine ret_block ?_)
  refine bodyPost_ret (v := .bool true) (by kernel_rfl) rfl ?_
  exact ⟨rfl, hT0.toBelow⟩
set_option maxRecDepth 100000 in
set_option maxHeartbeats 4000000 in
theorem order_light (ad : Option Addr) (len cap : Nat) (R : Nat → Rl) (a : Ak) (w : World) (hR : RulesAt w ad len R) (hlc : len ≤ cap) (hcap : cap ≤ maxLen) (hcl : len ≤ 9223372036854775807) (hl : lightB R len a = true) (h20 : len ≤ 20) (hla : LightAll R len) (hsm : SmallR R len) (hsrc : a.src.size ≤ 100) (hdst : a.dst.size ≤ 100) :
    Calls Try.prog 6 #[.slice ad len cap, .agg a.cs.toArray] w fun e w' => e = .returned (.bool true) ∧ Below w.heap.size w w' := by
  have hT0 := Touch.refl (fun _ => False) w
  go_enter Try.func6, Try.ntmps6
  refine wp_seq_k fun K1 hK1 => ?_
  refine wl_region ?_
  refine dw_new (by kernel_rfl) [(.string a.src : Value), .string a.dst, .int .i64 a.from_, .int .i64 a.to_, .int .u32 a.seq, .int .u32 a.ack, .int .i64 a.flags, .int .i64 a.win, .int .i64 a.urg, .int .i64 a.mss, .int .i64 a.scale, .bool (a.sack), .slice a.ba a.bn a.bc, .bool (a.timed), .int .u32 a.time, .int .u32 a.echo, .string a.data, .int .i64 a.side, .int .i64 a.class_] 34 (by kernel_rfl) ?_
  intro n1 w2 hnn1 hsn1 hBn1 hTn1
  have hgen1 : w.heap.size ≤ n1 := by have := hT0.size; omega
  replace hT0 := hT0.trans hTn1 (fun _ _ h => h.elim)
  simp only [Act.put, List.setIfInBounds_toArray, List.set_cons_zero, List.set_cons_succ]
  refine dw_val (by kernel_rfl) (.bool false) (by kernel_rfl) ?_
  simp only [Act.put, List.setIfInBounds_toArray, List.set_cons_zero, List.set_cons_succ]
  refine wl_nil ?_
  refine hK1 _ _ ?_
  refine wp_seq_k fun K2 hK2 => ?_
  refine wp_seq_k fun K3 hK3 => ?_
  refine wl_region ?_
  refine dw_val (by kernel_rfl) (.slice ad len cap) (by kernel_rfl) ?_
  simp only [Act.put, List.setIfInBounds_toArray, List.set_cons_zero, List.set_cons_succ]
  refine dw_row (by kernel_rfl) 34 (.tmp 3) rfl n1 0 rfl _ _ hBn1 [(.string a.src : Value), .string a.dst, .int .i64 a.from_, .int .i64 a.to_, .int .u32 a.seq, .int .u32 a.ack, .int .i64 a.flags, .int .i64 a.win, .int .i64 a.urg, .int .i64 a.mss, .int .i64 a.scale, .bool (a.sack), .slice a.ba a.bn a.bc, .bool (a.timed), .int .u32 a.time, .int .u32 a.echo, .string a.data, .int .i64 a.side, .int .i64 a.class_] rfl _ Try.underlying34 rfl (by kernel_rfl) ?_
  simp only [Act.put, List.setIfInBounds_toArray, List.set_cons_zero, List.set_cons_succ]
  refine dw_ret (by kernel_rfl) 8 #[(.slice ad len cap : Value), .agg #[(.string a.src : Value), .string a.dst, .int .i64 a.from_, .int .i64 a.to_, .int .u32 a.seq, .int .u32 a.ack, .int .i64 a.flags, .int .i64 a.win, .int .i64 a.urg, .int .i64 a.mss, .int .i64 a.scale, .bool (a.sack), .slice a.ba a.bn a.bc, .bool (a.timed), .int .u32 a.time, .int .u32 a.echo, .string a.data, .int .i64 a.side, .int .i64 a.class_]] (by kernel_rfl) (light_any ad len cap R a w2 (hR.keep hT0) hcl) ?_
  intro w3 hb
  have ht4 : Touch (fun _ => False) w2 w3 := Touch.none hb
  replace hBn1 := hBn1.keep ht4 (fun h => h)
  replace hT0 := hT0.trans ht4 (fun _ _ h => h.elim)
  clear hb
  simp only [Act.put, List.setIfInBounds_toArray, List.set_cons_zero, List.set_cons_succ]
  refine dw_bool (by kernel_rfl) (!(lightB R len a)) (by kernel_rfl) (fun hc => absurd hc (by simp [hl])) (fun hc => ?_)
  simp only [Act.put, List.setIfInBounds_toArray, List.set_cons_zero, List.set_cons_succ]
  refine dw_val (by kernel_rfl) (.bool false) (by kernel_rfl) ?_
  simp only [Act.put, List.setIfInBounds_toArray, List.set_cons_zero, List.set_cons_succ]
  refine dw_val (by kernel_rfl) (.slice ad len cap) (by kernel_rfl) ?_
  simp only [Act.put, List.setIfInBounds_toArray, List.set_cons_zero, List.set_cons_succ]
  refine dw_val (by kernel_rfl) (.int .i64 (len : Int)) (by kernel_rfl) ?_
  simp only [Act.put, List.setIfInBounds_toArray, List.set_cons_zero, List.set_cons_succ]
  refine dw_bool (by kernel_rfl) (decide (20 < (len : Int))) (by kernel_rfl) (fun hc => absurd hc (by simp; omega)) (fun hc => ?_)
  simp only [Act.put, List.setIfInBounds_toArray, List.set_cons_zero, List.set_cons_succ]
  refine dw_val (by kernel_rfl) (.bool false) (by kernel_rfl) ?_
  simp only [Act.put, List.setIfInBounds_toArray, List.set_cons_zero, List.set_cons_succ]
  refine wl_nil ?_
  refine hK3 _ _ ?_
  refine wp_cond_false rfl ?_
  refine wp_skip ?_
  refine hK2 _ _ ?_
  refine wp_seq_k fun K4 hK4 => ?_
  refine wp_seq_k fun K5 hK5 => ?_
  refine wl_region ?_
  refine dw_val (by kernel_rfl) (.int .i64 0) (by kernel_rfl) ?_
  simp only [Act.put, List.setIfInBounds_toArray, List.set_cons_zero, List.set_cons_succ]
  refine wl_nil ?_
  refine hK5 _ _ ?_
  refine wp_block ?_
  refine wp_loop (fun (aL : Act) (wL : World) => ∃ (k : Nat), ∃ (u17_0 u18_0 u19_0 u20_0 u23_0 u24_0 u25_0 u26_0 u27_0 u28_0 u29_0 u30_0 u31_0 u32_0 u33_0 u34_0 u35_0 u36_0 u37_0 u38_0 u39_0 u40_0 u41_0 u4_0 u6_0 u42_0 u43_0 u44_0 u45_0 u48_0 u49_0 u50_0 u51_0 u52_0 u53_0 u54_0 u55_0 u56_0 u57_0 u58_0 u59_0 u60_0 u61_0 u62_0 u63_0 u64_0 u65_0 u66_0 u67_0 u68_0 u69_0 u70_0 u71_0 u72_0 u73_0 u46_0 u47_0 u21_0 u22_0 : Value), (k ≤ len) ∧ Blk wL n1 [(.string a.src : Value), .string a.dst, .int .i64 a.from_, .int .i64 a.to_, .int .u32 a.seq, .int .u32 a.ack, .int .i64 a.flags, .int .i64 a.win, .int .i64 a.urg, .int .i64 a.mss, .int .i64 a.scale, .bool (a.sack), .slice a.ba a.bn a.bc, .bool (a.timed), .int .u32 a.time, .int .u32 a.echo, .string a.data, .int .i64 a.side, .int .i64 a.class_] 34 ∧ Touch (fun _ => False) w wL ∧ aL = ⟨#[(.slice ad len cap : Value), .agg #[(.string a.src : Value), .string a.dst, .int .i64 a.from_, .int .i64 a.to_, .int .u32 a.seq, .int .u32 a.ack, .int .i64 a.flags, .int .i64 a.win, .int .i64 a.urg, .int .i64 a.mss, .int .i64 a.scale, .bool (a.sack), .slice a.ba a.bn a.bc, .bool (a.timed), .int .u32 a.time, .int .u32 a.echo, .string a.data, .int .i64 a.side, .int .i64 a.class_], undef, .pointer (some ⟨n1, 0, none⟩), u4_0, .int .i64 (k : Int), u6_0, .slice ad len cap, .agg #[(.string a.src : Value), .string a.dst, .int .i64 a.from_, .int .i64 a.to_, .int .u32 a.seq, .int .u32 a.ack, .int .i64 a.flags, .int .i64 a.win, .int .i64 a.urg, .int .i64 a.mss, .int .i64 a.scale, .bool (a.sack), .slice a.ba a.bn a.bc, .bool (a.timed), .int .u32 a.time, .int .u32 a.echo, .string a.data, .int .i64 a.side, .int .i64 a.class_], .bool (lightB R len a), .bool false, .bool false, .slice ad len cap, .int .i64 (len : Int), .bool false, .bool false, undef, u17_0, u18_0, u19_0, u20_0, u21_0, u22_0, u23_0, u24_0, u25_0, u26_0, u27_0, u28_0, u29_0, u30_0, u31_0, u32_0, u33_0, u34_0, u35_0, u36_0, u37_0, u38_0, u39_0, u40_0, u41_0, u42_0, u43_0, u44_0, u45_0, u46_0, u47_0, u48_0, u49_0, u50_0, u51_0, u52_0, u53_0, u54_0, u55_0, u56_0, u57_0, u58_0, u59_0, u60_0, u61_0, u62_0, u63_0, u64_0, u65_0, u66_0, u67_0, u68_0, u69_0, u70_0, u71_0, u72_0, u73_0, undef], []⟩) (fun (aL : Act) (wL : World) => len - (intOf (aL.tmps.getD 5 undef)).toNat) ?_ ?_
  · exact ⟨0, undef, undef, undef, undef, undef, undef, undef, undef, undef, undef, undef, undef, undef, undef, undef, undef, undef, undef, undef, undef, undef, undef, undef, (.bool false), undef, undef, undef, undef, undef, undef, undef, undef, undef, undef, undef, undef, undef, undef, undef, undef, undef, undef, undef, undef, undef, undef, undef, undef, undef, undef, undef, undef, undef, undef, undef, undef, undef, undef, undef, (Nat.zero_le _), hBn1, hT0, rfl⟩
  · intro aL w5 hI
    clear hBn1 hT0
    obtain ⟨k, u17_0, u18_0, u19_0, u20_0, u23_0, u24_0, u25_0, u26_0, u27_0, u28_0, u29_0, u30_0, u31_0, u32_0, u33_0, u34_0, u35_0, u36_0, u37_0, u38_0, u39_0, u40_0, u41_0, u4_0, u6_0, u42_0, u43_0, u44_0, u45_0, u48_0, u49_0, u50_0, u51_0, u52_0, u53_0, u54_0, u55_0, u56_0, u57_0, u58_0, u59_0, u60_0, u61_0, u62_0, u63_0, u64_0, u65_0, u66_0, u67_0, u68_0, u69_0, u70_0, u71_0, u72_0, u73_0, u46_0, u47_0, u21_0, u22_0, hk, hBn1, hT0, rfl⟩ := hI
    by_cases hlt : k < len
    · obtain ⟨b, off, hab, hbs, -⟩ := hR k hlt
      subst hab
      refine wp_seq_k fun K6 hK6 => ?_
      refine wp_seq_k fun K7 hK7 => ?_
      refine wl_region ?_
      refine dw_val (by kernel_rfl) (.int .i64 (k : Int)) (by kernel_rfl) ?_
      simp only [Act.put, List.setIfInBounds_toArray, List.set_cons_zero, List.set_cons_succ]
      refine dw_val (by kernel_rfl) (.slice (some ⟨b, off, none⟩) len cap) (by kernel_rfl) ?_
      simp only [Act.put, List.setIfInBounds_toArray, List.set_cons_zero, List.set_cons_succ]
      refine dw_val (by kernel_rfl) (.int .i64 (len : Int)) (by kernel_rfl) ?_
      simp only [Act.put, List.setIfInBounds_toArray, List.set_cons_zero, List.set_cons_succ]
      refine dw_bool (by kernel_rfl) (decide ((k : Int) < (len : Int))) (by kernel_rfl) (fun hc => ?_) (fun hc => absurd hc (by simp; omega))
      simp only [Act.put, List.setIfInBounds_toArray, List.set_cons_zero, List.set_cons_succ]
      refine wl_nil ?_
      refine hK7 _ _ ?_
      refine wp_cond_true rfl ?_
      refine wp_skip ?_
      refine hK6 _ _ ?_
      refine wp_seq_k fun K8 hK8 => ?_
      refine wp_block ?_
      refine wp_seq_k fun K9 hK9 => ?_
      refine wp_seq_k fun K10 hK10 => ?_
      refine wq_region (Touch (fun _ => False) w5) (by kernel_rfl) (by kernel_rfl) (Touch.refl _ _).drew ?_
      refine dq_val (by kernel_rfl) (.slice (some ⟨b, off, none⟩) len cap) (fun w' _ => by kernel_rfl) ?_
      simp only [Act.put, List.setIfInBounds_toArray, List.set_cons_zero, List.set_cons_succ]
      refine dq_val (by kernel_rfl) (.int .i64 (k : Int)) (fun w' _ => by kernel_rfl) ?_
      simp only [Act.put, List.setIfInBounds_toArray, List.set_cons_zero, List.set_cons_succ]
      refine dq_val (by kernel_rfl) (.pointer (some ⟨b, off + k * 13, none⟩)) (fun w' _ => ev_index 22 43 (.tmp 23) (.tmp 24) rfl b off len cap k 13 .i64 rfl rfl hlt Try.underlying22 (by kernel_rfl) (off + k * 13) (by omega)) ?_
      simp only [Act.put, List.setIfInBounds_toArray, List.set_cons_zero, List.set_cons_succ]
      refine dq_val (by kernel_rfl) (.agg #[(.bool ((R k).acc) : Value), .int .i64 ((R k).side), .string ((R k).fb), .int .i64 ((R k).fn), .string ((R k).tb), .int .i64 ((R k).tn), .int .i64 ((R k).s0), .int .i64 ((R k).s1), .int .i64 ((R k).d0), .int .i64 ((R k).d1), .int .i64 ((R k).mask), .int .i64 ((R k).flags), .int .i64 ((R k).classes)]) (fun w' hC => ev_row 43 (.tmp 25) rfl b (off + k * 13) rfl (R k).cs (rules_range ((hR.keep hT0).keep hC) hlt) _ Try.underlying43 rfl (by kernel_rfl)) ?_
      simp only [Act.put, List.setIfInBounds_toArray, List.set_cons_zero, List.set_cons_succ]
      refine dq_val (by kernel_rfl) (.slice (some ⟨b, off, none⟩) len cap) (fun w' _ => by kernel_rfl) ?_
      simp only [Act.put, List.setIfInBounds_toArray, List.set_cons_zero, List.set_cons_succ]
      refine dq_val (by kernel_rfl) (.int .i64 (k : Int)) (fun w' _ => by kernel_rfl) ?_
      simp only [Act.put, List.setIfInBounds_toArray, List.set_cons_zero, List.set_cons_succ]
      refine dq_val (by kernel_rfl) (.pointer (some ⟨b, off + k * 13, none⟩)) (fun w' _ => ev_index 22 43 (.tmp 27) (.tmp 28) rfl b off len cap k 13 .i64 rfl rfl hlt Try.underlying22 (by kernel_rfl) (off + k * 13) (by omega)) ?_
      simp only [Act.put, List.setIfInBounds_toArray, List.set_cons_zero, List.set_cons_succ]
      refine dq_val (by kernel_rfl) (.agg #[(.bool ((R k).acc) : Value), .int .i64 ((R k).side), .string ((R k).fb), .int .i64 ((R k).fn), .string ((R k).tb), .int .i64 ((R k).tn), .int .i64 ((R k).s0), .int .i64 ((R k).s1), .int .i64 ((R k).d0), .int .i64 ((R k).d1), .int .i64 ((R k).mask), .int .i64 ((R k).flags), .int .i64 ((R k).classes)]) (fun w' hC => ev_row 43 (.tmp 29) rfl b (off + k * 13) rfl (R k).cs (rules_range ((hR.keep hT0).keep hC) hlt) _ Try.underlying43 rfl (by kernel_rfl)) ?_
      simp only [Act.put, List.setIfInBounds_toArray, List.set_cons_zero, List.set_cons_succ]
      refine dq_ret (by kernel_rfl) 18 #[(.agg #[(.bool ((R k).acc) : Value), .int .i64 ((R k).side), .string ((R k).fb), .int .i64 ((R k).fn), .string ((R k).tb), .int .i64 ((R k).tn), .int .i64 ((R k).s0), .int .i64 ((R k).s1), .int .i64 ((R k).d0), .int .i64 ((R k).d1), .int .i64 ((R k).mask), .int .i64 ((R k).flags), .int .i64 ((R k).classes)] : Value), .agg #[(.bool ((R k).acc) : Value), .int .i64 ((R k).side), .string ((R k).fb), .int .i64 ((R k).fn), .string ((R k).tb), .int .i64 ((R k).tn), .int .i64 ((R k).s0), .int .i64 ((R k).s1), .int .i64 ((R k).d0), .int .i64 ((R k).d1), .int .i64 ((R k).mask), .int .i64 ((R k).flags), .int .i64 ((R k).classes)]] (fun w' _ => by kernel_rfl) (fun w' hC => cov_yes (covers_self (right_of (hla _ hlt))) (covers_any (R k) (R k) (hsm _ hlt).1 (hsm _ hlt).2 (hsm _ hlt).1 (hsm _ hlt).2 w')) (fun w1 w2 hC hb => hC.trans (Touch.none hb) (fun _ _ h => h)) ?_
      simp only [Act.put, List.setIfInBounds_toArray, List.set_cons_zero, List.set_cons_succ]
      refine dq_val (by kernel_rfl) (.bool false) (fun w' _ => by kernel_rfl) ?_
      simp only [Act.put, List.setIfInBounds_toArray, List.set_cons_zero, List.set_cons_succ]
      refine dq_val (by kernel_rfl) (.bool false) (fun w' _ => by kernel_rfl) ?_
      simp only [Act.put, List.setIfInBounds_toArray, List.set_cons_zero, List.set_cons_succ]
      refine dq_ret (by kernel_rfl) 23 #[(.bool true : Value)] (fun w' _ => by kernel_rfl) (fun w' hC => wide23 true w') (fun w1 w2 hC hb => hC.trans (Touch.none hb) (fun _ _ h => h)) ?_
      simp only [Act.put, List.setIfInBounds_toArray, List.set_cons_zero, List.set_cons_succ]
      refine dq_val (by kernel_rfl) (.slice (some ⟨b, off, none⟩) len cap) (fun w' _ => by kernel_rfl) ?_
      simp only [Act.put, List.setIfInBounds_toArray, List.set_cons_zero, List.set_cons_succ]
      refine dq_val (by kernel_rfl) (.int .i64 (k : Int)) (fun w' _ => by kernel_rfl) ?_
      simp only [Act.put, List.setIfInBounds_toArray, List.set_cons_zero, List.set_cons_succ]
      refine dq_val (by kernel_rfl) (.pointer (some ⟨b, off + k * 13, none⟩)) (fun w' _ => ev_index 22 43 (.tmp 35) (.tmp 36) rfl b off len cap k 13 .i64 rfl rfl hlt Try.underlying22 (by kernel_rfl) (off + k * 13) (by omega)) ?_
      simp only [Act.put, List.setIfInBounds_toArray, List.set_cons_zero, List.set_cons_succ]
      refine dq_val (by kernel_rfl) (.agg #[(.bool ((R k).acc) : Value), .int .i64 ((R k).side), .string ((R k).fb), .int .i64 ((R k).fn), .string ((R k).tb), .int .i64 ((R k).tn), .int .i64 ((R k).s0), .int .i64 ((R k).s1), .int .i64 ((R k).d0), .int .i64 ((R k).d1), .int .i64 ((R k).mask), .int .i64 ((R k).flags), .int .i64 ((R k).classes)]) (fun w' hC => ev_row 43 (.tmp 37) rfl b (off + k * 13) rfl (R k).cs (rules_range ((hR.keep hT0).keep hC) hlt) _ Try.underlying43 rfl (by kernel_rfl)) ?_
      simp only [Act.put, List.setIfInBounds_toArray, List.set_cons_zero, List.set_cons_succ]
      refine dq_ret (by kernel_rfl) 18 #[(.agg #[(.bool true : Value), .int .i64 0, .string ⟨#[]⟩, .int .i64 0, .string ⟨#[]⟩, .int .i64 0, .int .i64 0, .int .i64 65535, .int .i64 0, .int .i64 65535, .int .i64 0, .int .i64 0, .int .i64 15] : Value), .agg #[(.bool ((R k).acc) : Value), .int .i64 ((R k).side), .string ((R k).fb), .int .i64 ((R k).fn), .string ((R k).tb), .int .i64 ((R k).tn), .int .i64 ((R k).s0), .int .i64 ((R k).s1), .int .i64 ((R k).d0), .int .i64 ((R k).d1), .int .i64 ((R k).mask), .int .i64 ((R k).flags), .int .i64 ((R k).classes)]] (fun w' _ => by kernel_rfl) (fun w' hC => cov_yes (covers_wide (right_of (hla _ hlt))) (covers_any (wideR true) (R k) (small_wide true).1 (small_wide true).2 (hsm _ hlt).1 (hsm _ hlt).2 w')) (fun w1 w2 hC hb => hC.trans (Touch.none hb) (fun _ _ h => h)) ?_
      simp only [Act.put, List.setIfInBounds_toArray, List.set_cons_zero, List.set_cons_succ]
      refine dq_val (by kernel_rfl) (.bool false) (fun w' _ => by kernel_rfl) ?_
      simp only [Act.put, List.setIfInBounds_toArray, List.set_cons_zero, List.set_cons_succ]
      refine dq_val (by kernel_rfl) (.bool false) (fun w' _ => by kernel_rfl) ?_
      simp only [Act.put, List.setIfInBounds_toArray, List.set_cons_zero, List.set_cons_succ]
      refine wq_nil ?_
      intro w6 hT7
      replace hBn1 := hBn1.keep hT7 (fun h => h)
      replace hT0 := hT0.trans hT7 (fun _ _ h => h.elim)
      refine hK10 _ _ ?_
      refine wp_cond_false rfl ?_
      refine wp_skip ?_
      refine hK9 _ _ ?_
      refine wp_seq_k fun K11 hK11 => ?_
      refine wl_region ?_
      refine dw_val (by kernel_rfl) (.int .i64 0) (by kernel_rfl) ?_
      simp only [Act.put, List.setIfInBounds_toArray, List.set_cons_zero, List.set_cons_succ]
      refine wl_nil ?_
      refine hK11 _ _ ?_
      refine wp_block ?_
      refine wp_loop (fun (aL : Act) (wL : World) => ∃ (j : Nat), ∃ (u42_1 u43_1 u44_1 u45_1 u48_1 u49_1 u50_1 u51_1 u52_1 u53_1 u54_1 u55_1 u56_1 u57_1 u58_1 u59_1 u60_1 u61_1 u62_1 u63_1 u64_1 u65_1 u66_1 u67_1 u68_1 u69_1 u70_1 u71_1 u72_1 u73_1 u4_1 u46_1 u47_1 : Value), (j ≤ len) ∧ Blk wL n1 [(.string a.src : Value), .string a.dst, .int .i64 a.from_, .int .i64 a.to_, .int .u32 a.seq, .int .u32 a.ack, .int .i64 a.flags, .int .i64 a.win, .int .i64 a.urg, .int .i64 a.mss, .int .i64 a.scale, .bool (a.sack), .slice a.ba a.bn a.bc, .bool (a.timed), .int .u32 a.time, .int .u32 a.echo, .string a.data, .int .i64 a.side, .int .i64 a.class_] 34 ∧ Touch (fun _ => False) w wL ∧ aL = ⟨#[(.slice (some ⟨b, off, none⟩) len cap : Value), .agg #[(.string a.src : Value), .string a.dst, .int .i64 a.from_, .int .i64 a.to_, .int .u32 a.seq, .int .u32 a.ack, .int .i64 a.flags, .int .i64 a.win, .int .i64 a.urg, .int .i64 a.mss, .int .i64 a.scale, .bool (a.sack), .slice a.ba a.bn a.bc, .bool (a.timed), .int .u32 a.time, .int .u32 a.echo, .string a.data, .int .i64 a.side, .int .i64 a.class_], undef, .pointer (some ⟨n1, 0, none⟩), u4_1, .int .i64 (k : Int), .int .i64 (j : Int), .slice (some ⟨b, off, none⟩) len cap, .agg #[(.string a.src : Value), .string a.dst, .int .i64 a.from_, .int .i64 a.to_, .int .u32 a.seq, .int .u32 a.ack, .int .i64 a.flags, .int .i64 a.win, .int .i64 a.urg, .int .i64 a.mss, .int .i64 a.scale, .bool (a.sack), .slice a.ba a.bn a.bc, .bool (a.timed), .int .u32 a.time, .int .u32 a.echo, .string a.data, .int .i64 a.side, .int .i64 a.class_], .bool (lightB R len a), .bool false, .bool false, .slice (some ⟨b, off, none⟩) len cap, .int .i64 (len : Int), .bool false, .bool false, undef, .int .i64 (k : Int), .slice (some ⟨b, off, none⟩) len cap, .int .i64 (len : Int), .bool true, u21_0, u22_0, .slice (some ⟨b, off, none⟩) len cap, .int .i64 (k : Int), .pointer (some ⟨b, off + k * 13, none⟩), .agg #[(.bool ((R k).acc) : Value), .int .i64 ((R k).side), .string ((R k).fb), .int .i64 ((R k).fn), .string ((R k).tb), .int .i64 ((R k).tn), .int .i64 ((R k).s0), .int .i64 ((R k).s1), .int .i64 ((R k).d0), .int .i64 ((R k).d1), .int .i64 ((R k).mask), .int .i64 ((R k).flags), .int .i64 ((R k).classes)], .slice (some ⟨b, off, none⟩) len cap, .int .i64 (k : Int), .pointer (some ⟨b, off + k * 13, none⟩), .agg #[(.bool ((R k).acc) : Value), .int .i64 ((R k).side), .string ((R k).fb), .int .i64 ((R k).fn), .string ((R k).tb), .int .i64 ((R k).tn), .int .i64 ((R k).s0), .int .i64 ((R k).s1), .int .i64 ((R k).d0), .int .i64 ((R k).d1), .int .i64 ((R k).mask), .int .i64 ((R k).flags), .int .i64 ((R k).classes)], .bool true, .bool false, .bool false, .agg #[(.bool true : Value), .int .i64 0, .string ⟨#[]⟩, .int .i64 0, .string ⟨#[]⟩, .int .i64 0, .int .i64 0, .int .i64 65535, .int .i64 0, .int .i64 65535, .int .i64 0, .int .i64 0, .int .i64 15], .slice (some ⟨b, off, none⟩) len cap, .int .i64 (k : Int), .pointer (some ⟨b, off + k * 13, none⟩), .agg #[(.bool ((R k).acc) : Value), .int .i64 ((R k).side), .string ((R k).fb), .int .i64 ((R k).fn), .string ((R k).tb), .int .i64 ((R k).tn), .int .i64 ((R k).s0), .int .i64 ((R k).s1), .int .i64 ((R k).d0), .int .i64 ((R k).d1), .int .i64 ((R k).mask), .int .i64 ((R k).flags), .int .i64 ((R k).classes)], .bool true, .bool false, .bool false, u42_1, u43_1, u44_1, u45_1, u46_1, u47_1, u48_1, u49_1, u50_1, u51_1, u52_1, u53_1, u54_1, u55_1, u56_1, u57_1, u58_1, u59_1, u60_1, u61_1, u62_1, u63_1, u64_1, u65_1, u66_1, u67_1, u68_1, u69_1, u70_1, u71_1, u72_1, u73_1, undef], []⟩) (fun (aL : Act) (wL : World) => len - (intOf (aL.tmps.getD 6 undef)).toNat) ?_ ?_
      · exact ⟨0, u42_0, u43_0, u44_0, u45_0, u48_0, u49_0, u50_0, u51_0, u52_0, u53_0, u54_0, u55_0, u56_0, u57_0, u58_0, u59_0, u60_0, u61_0, u62_0, u63_0, u64_0, u65_0, u66_0, u67_0, u68_0, u69_0, u70_0, u71_0, u72_0, u73_0, u4_0, u46_0, u47_0, (Nat.zero_le _), hBn1, hT0, rfl⟩
      · intro aL w8 hI
        clear hBn1 hT0
        obtain ⟨j, u42_1, u43_1, u44_1, u45_1, u48_1, u49_1, u50_1, u51_1, u52_1, u53_1, u54_1, u55_1, u56_1, u57_1, u58_1, u59_1, u60_1, u61_1, u62_1, u63_1, u64_1, u65_1, u66_1, u67_1, u68_1, u69_1, u70_1, u71_1, u72_1, u73_1, u4_1, u46_1, u47_1, hj, hBn1, hT0, rfl⟩ := hI
        by_cases hjl : j < len
        · skip
          refine wp_seq_k fun K12 hK12 => ?_
          refine wp_seq_k fun K13 hK13 => ?_
          refine wl_region ?_
          refine dw_val (by kernel_rfl) (.int .i64 (j : Int)) (by kernel_rfl) ?_
          simp only [Act.put, List.setIfInBounds_toArray, List.set_cons_zero, List.set_cons_succ]
          refine dw_val (by kernel_rfl) (.slice (some ⟨b, off, none⟩) len cap) (by kernel_rfl) ?_
          simp only [Act.put, List.setIfInBounds_toArray, List.set_cons_zero, List.set_cons_succ]
          refine dw_val (by kernel_rfl) (.int .i64 (len : Int)) (by kernel_rfl) ?_
          simp only [Act.put, List.setIfInBounds_toArray, List.set_cons_zero, List.set_cons_succ]
          refine dw_bool (by kernel_rfl) (decide ((j : Int) < (len : Int))) (by kernel_rfl) (fun hc => ?_) (fun hc => absurd hc (by simp; omega))
          simp only [Act.put, List.setIfInBounds_toArray, List.set_cons_zero, List.set_cons_succ]
          refine wl_nil ?_
          refine hK13 _ _ ?_
          refine wp_cond_true rfl ?_
          refine wp_skip ?_
          refine hK12 _ _ ?_
          refine wp_seq_k fun K14 hK14 => ?_
          refine wp_block ?_
          refine wp_seq_k fun K15 hK15 => ?_
          refine wq_region (Touch (fun _ => False) w8) (by kernel_rfl) (by kernel_rfl) (Touch.refl _ _).drew ?_
          refine dq_val (by kernel_rfl) (.slice (some ⟨b, off, none⟩) len cap) (fun w' _ => by kernel_rfl) ?_
          simp only [Act.put, List.setIfInBounds_toArray, List.set_cons_zero, List.set_cons_succ]
          refine dq_val (by kernel_rfl) (.int .i64 (k : Int)) (fun w' _ => by kernel_rfl) ?_
          simp only [Act.put, List.setIfInBounds_toArray, List.set_cons_zero, List.set_cons_succ]
          refine dq_val (by kernel_rfl) (.pointer (some ⟨b, off + k * 13, none⟩)) (fun w' _ => ev_index 22 43 (.tmp 48) (.tmp 49) rfl b off len cap k 13 .i64 rfl rfl hlt Try.underlying22 (by kernel_rfl) (off + k * 13) (by omega)) ?_
          simp only [Act.put, List.setIfInBounds_toArray, List.set_cons_zero, List.set_cons_succ]
          refine dq_val (by kernel_rfl) (.agg #[(.bool ((R k).acc) : Value), .int .i64 ((R k).side), .string ((R k).fb), .int .i64 ((R k).fn), .string ((R k).tb), .int .i64 ((R k).tn), .int .i64 ((R k).s0), .int .i64 ((R k).s1), .int .i64 ((R k).d0), .int .i64 ((R k).d1), .int .i64 ((R k).mask), .int .i64 ((R k).flags), .int .i64 ((R k).classes)]) (fun w' hC => ev_row 43 (.tmp 50) rfl b (off + k * 13) rfl (R k).cs (rules_range ((hR.keep hT0).keep hC) hlt) _ Try.underlying43 rfl (by kernel_rfl)) ?_
          simp only [Act.put, List.setIfInBounds_toArray, List.set_cons_zero, List.set_cons_succ]
          refine dq_val (by kernel_rfl) (.slice (some ⟨b, off, none⟩) len cap) (fun w' _ => by kernel_rfl) ?_
          simp only [Act.put, List.setIfInBounds_toArray, List.set_cons_zero, List.set_cons_succ]
          refine dq_val (by kernel_rfl) (.int .i64 (j : Int)) (fun w' _ => by kernel_rfl) ?_
          simp only [Act.put, List.setIfInBounds_toArray, List.set_cons_zero, List.set_cons_succ]
          refine dq_val (by kernel_rfl) (.pointer (some ⟨b, off + j * 13, none⟩)) (fun w' _ => ev_index 22 43 (.tmp 52) (.tmp 53) rfl b off len cap j 13 .i64 rfl rfl hjl Try.underlying22 (by kernel_rfl) (off + j * 13) (by omega)) ?_
          simp only [Act.put, List.setIfInBounds_toArray, List.set_cons_zero, List.set_cons_succ]
          refine dq_val (by kernel_rfl) (.agg #[(.bool ((R j).acc) : Value), .int .i64 ((R j).side), .string ((R j).fb), .int .i64 ((R j).fn), .string ((R j).tb), .int .i64 ((R j).tn), .int .i64 ((R j).s0), .int .i64 ((R j).s1), .int .i64 ((R j).d0), .int .i64 ((R j).d1), .int .i64 ((R j).mask), .int .i64 ((R j).flags), .int .i64 ((R j).classes)]) (fun w' hC => ev_row 43 (.tmp 54) rfl b (off + j * 13) rfl (R j).cs (rules_range ((hR.keep hT0).keep hC) hjl) _ Try.underlying43 rfl (by kernel_rfl)) ?_
          simp only [Act.put, List.setIfInBounds_toArray, List.set_cons_zero, List.set_cons_succ]
          refine dq_ret (by kernel_rfl) 18 #[(.agg #[(.bool ((R k).acc) : Value), .int .i64 ((R k).side), .string ((R k).fb), .int .i64 ((R k).fn), .string ((R k).tb), .int .i64 ((R k).tn), .int .i64 ((R k).s0), .int .i64 ((R k).s1), .int .i64 ((R k).d0), .int .i64 ((R k).d1), .int .i64 ((R k).mask), .int .i64 ((R k).flags), .int .i64 ((R k).classes)] : Value), .agg #[(.bool ((R j).acc) : Value), .int .i64 ((R j).side), .string ((R j).fb), .int .i64 ((R j).fn), .string ((R j).tb), .int .i64 ((R j).tn), .int .i64 ((R j).s0), .int .i64 ((R j).s1), .int .i64 ((R j).d0), .int .i64 ((R j).d1), .int .i64 ((R j).mask), .int .i64 ((R j).flags), .int .i64 ((R j).classes)]] (fun w' _ => by kernel_rfl) (fun w' hC => covers_any (R k) (R j) (hsm _ hlt).1 (hsm _ hlt).2 (hsm _ hjl).1 (hsm _ hjl).2 w') (fun w1 w2 hC hb => hC.trans (Touch.none hb) (fun _ _ h => h)) ?_
          simp only [Act.put, List.setIfInBounds_toArray, List.set_cons_zero, List.set_cons_succ]
          refine dq_bool (by kernel_rfl) (coversB (R k) (R j)) (fun w' _ => by kernel_rfl) (fun c9 => ?_) (fun c9 => ?_)
          · skip
            simp only [Act.put, List.setIfInBounds_toArray, List.set_cons_zero, List.set_cons_succ]
            refine dq_val (by kernel_rfl) (.slice (some ⟨b, off, none⟩) len cap) (fun w' _ => by kernel_rfl) ?_
            simp only [Act.put, List.setIfInBounds_toArray, List.set_cons_zero, List.set_cons_succ]
            refine dq_val (by kernel_rfl) (.int .i64 (j : Int)) (fun w' _ => by kernel_rfl) ?_
            simp only [Act.put, List.setIfInBounds_toArray, List.set_cons_zero, List.set_cons_succ]
            refine dq_val (by kernel_rfl) (.pointer (some ⟨b, off + j * 13, none⟩)) (fun w' _ => ev_index 22 43 (.tmp 58) (.tmp 59) rfl b off len cap j 13 .i64 rfl rfl hjl Try.underlying22 (by kernel_rfl) (off + j * 13) (by omega)) ?_
            simp only [Act.put, List.setIfInBounds_toArray, List.set_cons_zero, List.set_cons_succ]
            refine dq_val (by kernel_rfl) (.agg #[(.bool ((R j).acc) : Value), .int .i64 ((R j).side), .string ((R j).fb), .int .i64 ((R j).fn), .string ((R j).tb), .int .i64 ((R j).tn), .int .i64 ((R j).s0), .int .i64 ((R j).s1), .int .i64 ((R j).d0), .int .i64 ((R j).d1), .int .i64 ((R j).mask), .int .i64 ((R j).flags), .int .i64 ((R j).classes)]) (fun w' hC => ev_row 43 (.tmp 60) rfl b (off + j * 13) rfl (R j).cs (rules_range ((hR.keep hT0).keep hC) hjl) _ Try.underlying43 rfl (by kernel_rfl)) ?_
            simp only [Act.put, List.setIfInBounds_toArray, List.set_cons_zero, List.set_cons_succ]
            refine dq_val (by kernel_rfl) (.agg #[(.string a.src : Value), .string a.dst, .int .i64 a.from_, .int .i64 a.to_, .int .u32 a.seq, .int .u32 a.ack, .int .i64 a.flags, .int .i64 a.win, .int .i64 a.urg, .int .i64 a.mss, .int .i64 a.scale, .bool (a.sack), .slice a.ba a.bn a.bc, .bool (a.timed), .int .u32 a.time, .int .u32 a.echo, .string a.data, .int .i64 a.side, .int .i64 a.class_]) (fun w' hC => ev_row 34 (.tmp 3) rfl n1 0 rfl [(.string a.src : Value), .string a.dst, .int .i64 a.from_, .int .i64 a.to_, .int .u32 a.seq, .int .u32 a.ack, .int .i64 a.flags, .int .i64 a.win, .int .i64 a.urg, .int .i64 a.mss, .int .i64 a.scale, .bool (a.sack), .slice a.ba a.bn a.bc, .bool (a.timed), .int .u32 a.time, .int .u32 a.echo, .string a.data, .int .i64 a.side, .int .i64 a.class_] ((hBn1.keep hC (fun h => h)).range rfl) _ Try.underlying34 rfl (by kernel_rfl)) ?_
            simp only [Act.put, List.setIfInBounds_toArray, List.set_cons_zero, List.set_cons_succ]
            refine dq_ret (by kernel_rfl) 10 #[(.agg #[(.bool ((R j).acc) : Value), .int .i64 ((R j).side), .string ((R j).fb), .int .i64 ((R j).fn), .string ((R j).tb), .int .i64 ((R j).tn), .int .i64 ((R j).s0), .int .i64 ((R j).s1), .int .i64 ((R j).d0), .int .i64 ((R j).d1), .int .i64 ((R j).mask), .int .i64 ((R j).flags), .int .i64 ((R j).classes)] : Value), .agg #[(.string a.src : Value), .string a.dst, .int .i64 a.from_, .int .i64 a.to_, .int .u32 a.seq, .int .u32 a.ack, .int .i64 a.flags, .int .i64 a.win, .int .i64 a.urg, .int .i64 a.mss, .int .i64 a.scale, .bool (a.sack), .slice a.ba a.bn a.bc, .bool (a.timed), .int .u32 a.time, .int .u32 a.echo, .string a.data, .int .i64 a.side, .int .i64 a.class_]] (fun w' _ => by kernel_rfl) (fun w' hC => one_any (R j) a (hsm _ hjl).1 (hsm _ hjl).2 hsrc hdst w') (fun w1 w2 hC hb => hC.trans (Touch.none hb) (fun _ _ h => h)) ?_
            simp only [Act.put, List.setIfInBounds_toArray, List.set_cons_zero, List.set_cons_succ]
            refine dq_val (by kernel_rfl) (.bool (oneB (R j) a)) (fun w' _ => by kernel_rfl) ?_
            simp only [Act.put, List.setIfInBounds_toArray, List.set_cons_zero, List.set_cons_succ]
            refine dq_bool (by kernel_rfl) (oneB (R j) a) (fun w' _ => by kernel_rfl) (fun c10 => ?_) (fun c10 => ?_)
            · skip
              simp only [Act.put, List.setIfInBounds_toArray, List.set_cons_zero, List.set_cons_succ]
              refine dq_val (by kernel_rfl) (.slice (some ⟨b, off, none⟩) len cap) (fun w' _ => by kernel_rfl) ?_
              simp only [Act.put, List.setIfInBounds_toArray, List.set_cons_zero, List.set_cons_succ]
              refine dq_val (by kernel_rfl) (.int .i64 (k : Int)) (fun w' _ => by kernel_rfl) ?_
              simp only [Act.put, List.setIfInBounds_toArray, List.set_cons_zero, List.set_cons_succ]
              refine dq_val (by kernel_rfl) (.pointer (some ⟨b, off + k * 13, none⟩)) (fun w' _ => ev_index 22 43 (.tmp 66) (.tmp 67) rfl b off len cap k 13 .i64 rfl rfl hlt Try.underlying22 (by kernel_rfl) (off + k * 13) (by omega)) ?_
              simp only [Act.put, List.setIfInBounds_toArray, List.set_cons_zero, List.set_cons_succ]
              refine dq_val (by kernel_rfl) (.agg #[(.bool ((R k).acc) : Value), .int .i64 ((R k).side), .string ((R k).fb), .int .i64 ((R k).fn), .string ((R k).tb), .int .i64 ((R k).tn), .int .i64 ((R k).s0), .int .i64 ((R k).s1), .int .i64 ((R k).d0), .int .i64 ((R k).d1), .int .i64 ((R k).mask), .int .i64 ((R k).flags), .int .i64 ((R k).classes)]) (fun w' hC => ev_row 43 (.tmp 68) rfl b (off + k * 13) rfl (R k).cs (rules_range ((hR.keep hT0).keep hC) hlt) _ Try.underlying43 rfl (by kernel_rfl)) ?_
              simp only [Act.put, List.setIfInBounds_toArray, List.set_cons_zero, List.set_cons_succ]
              refine dq_val (by kernel_rfl) (.agg #[(.string a.src : Value), .string a.dst, .int .i64 a.from_, .int .i64 a.to_, .int .u32 a.seq, .int .u32 a.ack, .int .i64 a.flags, .int .i64 a.win, .int .i64 a.urg, .int .i64 a.mss, .int .i64 a.scale, .bool (a.sack), .slice a.ba a.bn a.bc, .bool (a.timed), .int .u32 a.time, .int .u32 a.echo, .string a.data, .int .i64 a.side, .int .i64 a.class_]) (fun w' hC => ev_row 34 (.tmp 3) rfl n1 0 rfl [(.string a.src : Value), .string a.dst, .int .i64 a.from_, .int .i64 a.to_, .int .u32 a.seq, .int .u32 a.ack, .int .i64 a.flags, .int .i64 a.win, .int .i64 a.urg, .int .i64 a.mss, .int .i64 a.scale, .bool (a.sack), .slice a.ba a.bn a.bc, .bool (a.timed), .int .u32 a.time, .int .u32 a.echo, .string a.data, .int .i64 a.side, .int .i64 a.class_] ((hBn1.keep hC (fun h => h)).range rfl) _ Try.underlying34 rfl (by kernel_rfl)) ?_
              simp only [Act.put, List.setIfInBounds_toArray, List.set_cons_zero, List.set_cons_succ]
              refine dq_ret (by kernel_rfl) 10 #[(.agg #[(.bool ((R k).acc) : Value), .int .i64 ((R k).side), .string ((R k).fb), .int .i64 ((R k).fn), .string ((R k).tb), .int .i64 ((R k).tn), .int .i64 ((R k).s0), .int .i64 ((R k).s1), .int .i64 ((R k).d0), .int .i64 ((R k).d1), .int .i64 ((R k).mask), .int .i64 ((R k).flags), .int .i64 ((R k).classes)] : Value), .agg #[(.string a.src : Value), .string a.dst, .int .i64 a.from_, .int .i64 a.to_, .int .u32 a.seq, .int .u32 a.ack, .int .i64 a.flags, .int .i64 a.win, .int .i64 a.urg, .int .i64 a.mss, .int .i64 a.scale, .bool (a.sack), .slice a.ba a.bn a.bc, .bool (a.timed), .int .u32 a.time, .int .u32 a.echo, .string a.data, .int .i64 a.side, .int .i64 a.class_]] (fun w' _ => by kernel_rfl) (fun w' hC => one_any (R k) a (hsm _ hlt).1 (hsm _ hlt).2 hsrc hdst w') (fun w1 w2 hC hb => hC.trans (Touch.none hb) (fun _ _ h => h)) ?_
              simp only [Act.put, List.setIfInBounds_toArray, List.set_cons_zero, List.set_cons_succ]
              refine dq_val (by kernel_rfl) (.bool (!(oneB (R k) a))) (fun w' _ => by kernel_rfl) ?_
              simp only [Act.put, List.setIfInBounds_toArray, List.set_cons_zero, List.set_cons_succ]
              refine dq_val (by kernel_rfl) (.bool (!(oneB (R k) a))) (fun w' _ => by kernel_rfl) ?_
              simp only [Act.put, List.setIfInBounds_toArray, List.set_cons_zero, List.set_cons_succ]
              refine wq_nil ?_
              intro w11 hT12
              replace hBn1 := hBn1.keep hT12 (fun h => h)
              replace hT0 := hT0.trans hT12 (fun _ _ h => h.elim)
              refine hK15 _ _ ?_
              refine wp_cond_split (t := !(oneB (R k) a)) rfl (fun c13 => ?_) (fun c13 => ?_)
              · skip
                refine wp_seq_k fun K16 hK16 => ?_
                refine wl_region ?_
                refine dw_val (by kernel_rfl) (.bool false) (by kernel_rfl) ?_
                simp only [Act.put, List.setIfInBounds_toArray, List.set_cons_zero, List.set_cons_succ]
                refine wl_nil ?_
                refine hK16 _ _ ?_
                refine wp_ret ?_
                repeat (first | with_reducible refine ret_then ?_ | with_reducible refine ret_block ?_)
                refine bodyPost_ret (v := .bool false) (by kernel_rfl) rfl ?_
                exact absurd (covers_one (right_of (hla k hlt)) (right_of (hla j hjl)) c9 c10) (by simp at c13; simp [c13])
              · skip
                refine wp_skip ?_
                refine hK14 _ _ ?_
                refine wl_region ?_
                refine dw_val (by kernel_rfl) (.int .i64 (j : Int)) (by kernel_rfl) ?_
                simp only [Act.put, List.setIfInBounds_toArray, List.set_cons_zero, List.set_cons_succ]
                refine dw_val2 (by kernel_rfl) (.int .i64 (IntKind.i64.wrap ((j : Int) + 1))) (.int .i64 ((j + 1 : Nat) : Int)) (by kernel_rfl) (by rw [show IntKind.i64.wrap ((j : Int) + 1) = ((j + 1 : Nat) : Int) from by rw [IntWalk.i64_in _ (by omega)]; rfl]) ?_
                simp only [Act.put, List.setIfInBounds_toArray, List.set_cons_zero, List.set_cons_succ]
                refine dw_val (by kernel_rfl) (.int .i64 ((j + 1 : Nat) : Int)) (by kernel_rfl) ?_
                simp only [Act.put, List.setIfInBounds_toArray, List.set_cons_zero, List.set_cons_succ]
                refine wl_nil ?_
                refine then_normal ?_
                refine ⟨⟨(j + 1), (.int .i64 (j : Int)), (.slice (some ⟨b, off, none⟩) len cap), (.int .i64 (len : Int)), (.bool true), (.slice (some ⟨b, off, none⟩) len cap), (.int .i64 (k : Int)), (.pointer (some ⟨b, off + k * 13, none⟩)), (.agg #[(.bool ((R k).acc) : Value), .int .i64 ((R k).side), .string ((R k).fb), .int .i64 ((R k).fn), .string ((R k).tb), .int .i64 ((R k).tn), .int .i64 ((R k).s0), .int .i64 ((R k).s1), .int .i64 ((R k).d0), .int .i64 ((R k).d1), .int .i64 ((R k).mask), .int .i64 ((R k).flags), .int .i64 ((R k).classes)]), (.slice (some ⟨b, off, none⟩) len cap), (.int .i64 (j : Int)), (.pointer (some ⟨b, off + j * 13, none⟩)), (.agg #[(.bool ((R j).acc) : Value), .int .i64 ((R j).side), .string ((R j).fb), .int .i64 ((R j).fn), .string ((R j).tb), .int .i64 ((R j).tn), .int .i64 ((R j).s0), .int .i64 ((R j).s1), .int .i64 ((R j).d0), .int .i64 ((R j).d1), .int .i64 ((R j).mask), .int .i64 ((R j).flags), .int .i64 ((R j).classes)]), (.bool (coversB (R k) (R j))), (.bool true), (.slice (some ⟨b, off, none⟩) len cap), (.int .i64 (j : Int)), (.pointer (some ⟨b, off + j * 13, none⟩)), (.agg #[(.bool ((R j).acc) : Value), .int .i64 ((R j).side), .string ((R j).fb), .int .i64 ((R j).fn), .string ((R j).tb), .int .i64 ((R j).tn), .int .i64 ((R j).s0), .int .i64 ((R j).s1), .int .i64 ((R j).d0), .int .i64 ((R j).d1), .int .i64 ((R j).mask), .int .i64 ((R j).flags), .int .i64 ((R j).classes)]), (.agg #[(.string a.src : Value), .string a.dst, .int .i64 a.from_, .int .i64 a.to_, .int .u32 a.seq, .int .u32 a.ack, .int .i64 a.flags, .int .i64 a.win, .int .i64 a.urg, .int .i64 a.mss, .int .i64 a.scale, .bool (a.sack), .slice a.ba a.bn a.bc, .bool (a.timed), .int .u32 a.time, .int .u32 a.echo, .string a.data, .int .i64 a.side, .int .i64 a.class_]), (.bool (oneB (R j) a)), (.bool (oneB (R j) a)), (.bool true), (.slice (some ⟨b, off, none⟩) len cap), (.int .i64 (k : Int)), (.pointer (some ⟨b, off + k * 13, none⟩)), (.agg #[(.bool ((R k).acc) : Value), .int .i64 ((R k).side), .string ((R k).fb), .int .i64 ((R k).fn), .string ((R k).tb), .int .i64 ((R k).tn), .int .i64 ((R k).s0), .int .i64 ((R k).s1), .int .i64 ((R k).d0), .int .i64 ((R k).d1), .int .i64 ((R k).mask), .int .i64 ((R k).flags), .int .i64 ((R k).classes)]), (.agg #[(.string a.src : Value), .string a.dst, .int .i64 a.from_, .int .i64 a.to_, .int .u32 a.seq, .int .u32 a.ack, .int .i64 a.flags, .int .i64 a.win, .int .i64 a.urg, .int .i64 a.mss, .int .i64 a.scale, .bool (a.sack), .slice a.ba a.bn a.bc, .bool (a.timed), .int .u32 a.time, .int .u32 a.echo, .string a.data, .int .i64 a.side, .int .i64 a.class_]), (.bool (oneB (R k) a)), (.bool (!(oneB (R k) a))), (.bool (!(oneB (R k) a))), u4_1, (.int .i64 (j : Int)), (.int .i64 ((j + 1 : Nat) : Int)), (by omega), hBn1, hT0, rfl⟩, ?_⟩
                simp [intOf]; omega
            · skip
              simp only [Act.put, List.setIfInBounds_toArray, List.set_cons_zero, List.set_cons_succ]
              refine dq_no (by kernel_rfl) ?_
              simp only [Act.put, List.setIfInBounds_toArray, List.set_cons_zero, List.set_cons_succ]
              refine dq_no (by kernel_rfl) ?_
              simp only [Act.put, List.setIfInBounds_toArray, List.set_cons_zero, List.set_cons_succ]
              refine dq_no (by kernel_rfl) ?_
              simp only [Act.put, List.setIfInBounds_toArray, List.set_cons_zero, List.set_cons_succ]
              refine dq_no (by kernel_rfl) ?_
              simp only [Act.put, List.setIfInBounds_toArray, List.set_cons_zero, List.set_cons_succ]
              refine dq_no (by kernel_rfl) ?_
              simp only [Act.put, List.setIfInBounds_toArray, List.set_cons_zero, List.set_cons_succ]
              refine dq_no (by kernel_rfl) ?_
              simp only [Act.put, List.setIfInBounds_toArray, List.set_cons_zero, List.set_cons_succ]
              refine dq_no (by kernel_rfl) ?_
              simp only [Act.put, List.setIfInBounds_toArray, List.set_cons_zero, List.set_cons_succ]
              refine dq_val (by kernel_rfl) (.bool false) (fun w' _ => by kernel_rfl) ?_
              simp only [Act.put, List.setIfInBounds_toArray, List.set_cons_zero, List.set_cons_succ]
              refine wq_nil ?_
              intro w14 hT15
              replace hBn1 := hBn1.keep hT15 (fun h => h)
              replace hT0 := hT0.trans hT15 (fun _ _ h => h.elim)
              refine hK15 _ _ ?_
              refine wp_cond_false rfl ?_
              refine wp_skip ?_
              refine hK14 _ _ ?_
              refine wl_region ?_
              refine dw_val (by kernel_rfl) (.int .i64 (j : Int)) (by kernel_rfl) ?_
              simp only [Act.put, List.setIfInBounds_toArray, List.set_cons_zero, List.set_cons_succ]
              refine dw_val2 (by kernel_rfl) (.int .i64 (IntKind.i64.wrap ((j : Int) + 1))) (.int .i64 ((j + 1 : Nat) : Int)) (by kernel_rfl) (by rw [show IntKind.i64.wrap ((j : Int) + 1) = ((j + 1 : Nat) : Int) from by rw [IntWalk.i64_in _ (by omega)]; rfl]) ?_
              simp only [Act.put, List.setIfInBounds_toArray, List.set_cons_zero, List.set_cons_succ]
              refine dw_val (by kernel_rfl) (.int .i64 ((j + 1 : Nat) : Int)) (by kernel_rfl) ?_
              simp only [Act.put, List.setIfInBounds_toArray, List.set_cons_zero, List.set_cons_succ]
              refine wl_nil ?_
              refine then_normal ?_
              refine ⟨⟨(j + 1), (.int .i64 (j : Int)), (.slice (some ⟨b, off, none⟩) len cap), (.int .i64 (len : Int)), (.bool true), (.slice (some ⟨b, off, none⟩) len cap), (.int .i64 (k : Int)), (.pointer (some ⟨b, off + k * 13, none⟩)), (.agg #[(.bool ((R k).acc) : Value), .int .i64 ((R k).side), .string ((R k).fb), .int .i64 ((R k).fn), .string ((R k).tb), .int .i64 ((R k).tn), .int .i64 ((R k).s0), .int .i64 ((R k).s1), .int .i64 ((R k).d0), .int .i64 ((R k).d1), .int .i64 ((R k).mask), .int .i64 ((R k).flags), .int .i64 ((R k).classes)]), (.slice (some ⟨b, off, none⟩) len cap), (.int .i64 (j : Int)), (.pointer (some ⟨b, off + j * 13, none⟩)), (.agg #[(.bool ((R j).acc) : Value), .int .i64 ((R j).side), .string ((R j).fb), .int .i64 ((R j).fn), .string ((R j).tb), .int .i64 ((R j).tn), .int .i64 ((R j).s0), .int .i64 ((R j).s1), .int .i64 ((R j).d0), .int .i64 ((R j).d1), .int .i64 ((R j).mask), .int .i64 ((R j).flags), .int .i64 ((R j).classes)]), (.bool (coversB (R k) (R j))), (.bool true), (.slice (some ⟨b, off, none⟩) len cap), (.int .i64 (j : Int)), (.pointer (some ⟨b, off + j * 13, none⟩)), (.agg #[(.bool ((R j).acc) : Value), .int .i64 ((R j).side), .string ((R j).fb), .int .i64 ((R j).fn), .string ((R j).tb), .int .i64 ((R j).tn), .int .i64 ((R j).s0), .int .i64 ((R j).s1), .int .i64 ((R j).d0), .int .i64 ((R j).d1), .int .i64 ((R j).mask), .int .i64 ((R j).flags), .int .i64 ((R j).classes)]), (.agg #[(.string a.src : Value), .string a.dst, .int .i64 a.from_, .int .i64 a.to_, .int .u32 a.seq, .int .u32 a.ack, .int .i64 a.flags, .int .i64 a.win, .int .i64 a.urg, .int .i64 a.mss, .int .i64 a.scale, .bool (a.sack), .slice a.ba a.bn a.bc, .bool (a.timed), .int .u32 a.time, .int .u32 a.echo, .string a.data, .int .i64 a.side, .int .i64 a.class_]), (.bool (oneB (R j) a)), (.bool (oneB (R j) a)), (.bool false), undef, undef, undef, undef, undef, undef, undef, (.bool false), u4_1, (.int .i64 (j : Int)), (.int .i64 ((j + 1 : Nat) : Int)), (by omega), hBn1, hT0, rfl⟩, ?_⟩
              simp [intOf]; omega
          · skip
            simp only [Act.put, List.setIfInBounds_toArray, List.set_cons_zero, List.set_cons_succ]
            refine dq_no (by kernel_rfl) ?_
            simp only [Act.put, List.setIfInBounds_toArray, List.set_cons_zero, List.set_cons_succ]
            refine dq_no (by kernel_rfl) ?_
            simp only [Act.put, List.setIfInBounds_toArray, List.set_cons_zero, List.set_cons_succ]
            refine dq_no (by kernel_rfl) ?_
            simp only [Act.put, List.setIfInBounds_toArray, List.set_cons_zero, List.set_cons_succ]
            refine dq_no (by kernel_rfl) ?_
            simp only [Act.put, List.setIfInBounds_toArray, List.set_cons_zero, List.set_cons_succ]
            refine dq_no (by kernel_rfl) ?_
            simp only [Act.put, List.setIfInBounds_toArray, List.set_cons_zero, List.set_cons_succ]
            refine dq_no (by kernel_rfl) ?_
            simp only [Act.put, List.setIfInBounds_toArray, List.set_cons_zero, List.set_cons_succ]
            refine dq_val (by kernel_rfl) (.bool false) (fun w' _ => by kernel_rfl) ?_
            simp only [Act.put, List.setIfInBounds_toArray, List.set_cons_zero, List.set_cons_succ]
            refine dq_val (by kernel_rfl) (.bool false) (fun w' _ => by kernel_rfl) ?_
            simp only [Act.put, List.setIfInBounds_toArray, List.set_cons_zero, List.set_cons_succ]
            refine dq_no (by kernel_rfl) ?_
            simp only [Act.put, List.setIfInBounds_toArray, List.set_cons_zero, List.set_cons_succ]
            refine dq_no (by kernel_rfl) ?_
            simp only [Act.put, List.setIfInBounds_toArray, List.set_cons_zero, List.set_cons_succ]
            refine dq_no (by kernel_rfl) ?_
            simp only [Act.put, List.setIfInBounds_toArray, List.set_cons_zero, List.set_cons_succ]
            refine dq_no (by kernel_rfl) ?_
            simp only [Act.put, List.setIfInBounds_toArray, List.set_cons_zero, List.set_cons_succ]
            refine dq_no (by kernel_rfl) ?_
            simp only [Act.put, List.setIfInBounds_toArray, List.set_cons_zero, List.set_cons_succ]
            refine dq_no (by kernel_rfl) ?_
            simp only [Act.put, List.setIfInBounds_toArray, List.set_cons_zero, List.set_cons_succ]
            refine dq_no (by kernel_rfl) ?_
            simp only [Act.put, List.setIfInBounds_toArray, List.set_cons_zero, List.set_cons_succ]
            refine dq_val (by kernel_rfl) (.bool false) (fun w' _ => by kernel_rfl) ?_
            simp only [Act.put, List.setIfInBounds_toArray, List.set_cons_zero, List.set_cons_succ]
            refine wq_nil ?_
            intro w16 hT17
            replace hBn1 := hBn1.keep hT17 (fun h => h)
            replace hT0 := hT0.trans hT17 (fun _ _ h => h.elim)
            refine hK15 _ _ ?_
            refine wp_cond_false rfl ?_
            refine wp_skip ?_
            refine hK14 _ _ ?_
            refine wl_region ?_
            refine dw_val (by kernel_rfl) (.int .i64 (j : Int)) (by kernel_rfl) ?_
            simp only [Act.put, List.setIfInBounds_toArray, List.set_cons_zero, List.set_cons_succ]
            refine dw_val2 (by kernel_rfl) (.int .i64 (IntKind.i64.wrap ((j : Int) + 1))) (.int .i64 ((j + 1 : Nat) : Int)) (by kernel_rfl) (by rw [show IntKind.i64.wrap ((j : Int) + 1) = ((j + 1 : Nat) : Int) from by rw [IntWalk.i64_in _ (by omega)]; rfl]) ?_
            simp only [Act.put, List.setIfInBounds_toArray, List.set_cons_zero, List.set_cons_succ]
            refine dw_val (by kernel_rfl) (.int .i64 ((j + 1 : Nat) : Int)) (by kernel_rfl) ?_
            simp only [Act.put, List.setIfInBounds_toArray, List.set_cons_zero, List.set_cons_succ]
            refine wl_nil ?_
            refine then_normal ?_
            refine ⟨⟨(j + 1), (.int .i64 (j : Int)), (.slice (some ⟨b, off, none⟩) len cap), (.int .i64 (len : Int)), (.bool true), (.slice (some ⟨b, off, none⟩) len cap), (.int .i64 (k : Int)), (.pointer (some ⟨b, off + k * 13, none⟩)), (.agg #[(.bool ((R k).acc) : Value), .int .i64 ((R k).side), .string ((R k).fb), .int .i64 ((R k).fn), .string ((R k).tb), .int .i64 ((R k).tn), .int .i64 ((R k).s0), .int .i64 ((R k).s1), .int .i64 ((R k).d0), .int .i64 ((R k).d1), .int .i64 ((R k).mask), .int .i64 ((R k).flags), .int .i64 ((R k).classes)]), (.slice (some ⟨b, off, none⟩) len cap), (.int .i64 (j : Int)), (.pointer (some ⟨b, off + j * 13, none⟩)), (.agg #[(.bool ((R j).acc) : Value), .int .i64 ((R j).side), .string ((R j).fb), .int .i64 ((R j).fn), .string ((R j).tb), .int .i64 ((R j).tn), .int .i64 ((R j).s0), .int .i64 ((R j).s1), .int .i64 ((R j).d0), .int .i64 ((R j).d1), .int .i64 ((R j).mask), .int .i64 ((R j).flags), .int .i64 ((R j).classes)]), (.bool (coversB (R k) (R j))), (.bool false), undef, undef, undef, undef, undef, undef, (.bool false), (.bool false), undef, undef, undef, undef, undef, undef, undef, (.bool false), u4_1, (.int .i64 (j : Int)), (.int .i64 ((j + 1 : Nat) : Int)), (by omega), hBn1, hT0, rfl⟩, ?_⟩
            simp [intOf]; omega
        · have hge : ¬ j < len := hjl
          refine wp_seq_k fun K17 hK17 => ?_
          refine wp_seq_k fun K18 hK18 => ?_
          refine wl_region ?_
          refine dw_val (by kernel_rfl) (.int .i64 (j : Int)) (by kernel_rfl) ?_
          simp only [Act.put, List.setIfInBounds_toArray, List.set_cons_zero, List.set_cons_succ]
          refine dw_val (by kernel_rfl) (.slice (some ⟨b, off, none⟩) len cap) (by kernel_rfl) ?_
          simp only [Act.put, List.setIfInBounds_toArray, List.set_cons_zero, List.set_cons_succ]
          refine dw_val (by kernel_rfl) (.int .i64 (len : Int)) (by kernel_rfl) ?_
          simp only [Act.put, List.setIfInBounds_toArray, List.set_cons_zero, List.set_cons_succ]
          refine dw_bool (by kernel_rfl) (decide ((j : Int) < (len : Int))) (by kernel_rfl) (fun hc => absurd hc (by simp; omega)) (fun hc => ?_)
          simp only [Act.put, List.setIfInBounds_toArray, List.set_cons_zero, List.set_cons_succ]
          refine wl_nil ?_
          refine hK18 _ _ ?_
          refine wp_cond_false rfl ?_
          refine wp_exit ?_
          refine hK8 _ _ ?_
          refine wl_region ?_
          refine dw_val (by kernel_rfl) (.int .i64 (k : Int)) (by kernel_rfl) ?_
          simp only [Act.put, List.setIfInBounds_toArray, List.set_cons_zero, List.set_cons_succ]
          refine dw_val2 (by kernel_rfl) (.int .i64 (IntKind.i64.wrap ((k : Int) + 1))) (.int .i64 ((k + 1 : Nat) : Int)) (by kernel_rfl) (by rw [show IntKind.i64.wrap ((k : Int) + 1) = ((k + 1 : Nat) : Int) from by rw [IntWalk.i64_in _ (by omega)]; rfl]) ?_
          simp only [Act.put, List.setIfInBounds_toArray, List.set_cons_zero, List.set_cons_succ]
          refine dw_val (by kernel_rfl) (.int .i64 ((k + 1 : Nat) : Int)) (by kernel_rfl) ?_
          simp only [Act.put, List.setIfInBounds_toArray, List.set_cons_zero, List.set_cons_succ]
          refine wl_nil ?_
          refine then_normal ?_
          refine ⟨⟨(k + 1), (.int .i64 (k : Int)), (.slice (some ⟨b, off, none⟩) len cap), (.int .i64 (len : Int)), (.bool true), (.slice (some ⟨b, off, none⟩) len cap), (.int .i64 (k : Int)), (.pointer (some ⟨b, off + k * 13, none⟩)), (.agg #[(.bool ((R k).acc) : Value), .int .i64 ((R k).side), .string ((R k).fb), .int .i64 ((R k).fn), .string ((R k).tb), .int .i64 ((R k).tn), .int .i64 ((R k).s0), .int .i64 ((R k).s1), .int .i64 ((R k).d0), .int .i64 ((R k).d1), .int .i64 ((R k).mask), .int .i64 ((R k).flags), .int .i64 ((R k).classes)]), (.slice (some ⟨b, off, none⟩) len cap), (.int .i64 (k : Int)), (.pointer (some ⟨b, off + k * 13, none⟩)), (.agg #[(.bool ((R k).acc) : Value), .int .i64 ((R k).side), .string ((R k).fb), .int .i64 ((R k).fn), .string ((R k).tb), .int .i64 ((R k).tn), .int .i64 ((R k).s0), .int .i64 ((R k).s1), .int .i64 ((R k).d0), .int .i64 ((R k).d1), .int .i64 ((R k).mask), .int .i64 ((R k).flags), .int .i64 ((R k).classes)]), (.bool true), (.bool false), (.bool false), (.agg #[(.bool true : Value), .int .i64 0, .string ⟨#[]⟩, .int .i64 0, .string ⟨#[]⟩, .int .i64 0, .int .i64 0, .int .i64 65535, .int .i64 0, .int .i64 65535, .int .i64 0, .int .i64 0, .int .i64 15]), (.slice (some ⟨b, off, none⟩) len cap), (.int .i64 (k : Int)), (.pointer (some ⟨b, off + k * 13, none⟩)), (.agg #[(.bool ((R k).acc) : Value), .int .i64 ((R k).side), .string ((R k).fb), .int .i64 ((R k).fn), .string ((R k).tb), .int .i64 ((R k).tn), .int .i64 ((R k).s0), .int .i64 ((R k).s1), .int .i64 ((R k).d0), .int .i64 ((R k).d1), .int .i64 ((R k).mask), .int .i64 ((R k).flags), .int .i64 ((R k).classes)]), (.bool true), (.bool false), (.bool false), u4_1, (.int .i64 (j : Int)), (.int .i64 (j : Int)), (.slice (some ⟨b, off, none⟩) len cap), (.int .i64 (len : Int)), (.bool false), u48_1, u49_1, u50_1, u51_1, u52_1, u53_1, u54_1, u55_1, u56_1, u57_1, u58_1, u59_1, u60_1, u61_1, u62_1, u63_1, u64_1, u65_1, u66_1, u67_1, u68_1, u69_1, u70_1, u71_1, u72_1, u73_1, u46_1, u47_1, (.int .i64 (k : Int)), (.int .i64 ((k + 1 : Nat) : Int)), (by omega), hBn1, hT0, rfl⟩, ?_⟩
          simp [intOf]; omega
    · have hge : ¬ k < len := hlt
      refine wp_seq_k fun K19 hK19 => ?_
      refine wp_seq_k fun K20 hK20 => ?_
      refine wl_region ?_
      refine dw_val (by kernel_rfl) (.int .i64 (k : Int)) (by kernel_rfl) ?_
      simp only [Act.put, List.setIfInBounds_toArray, List.set_cons_zero, List.set_cons_succ]
      refine dw_val (by kernel_rfl) (.slice ad len cap) (by kernel_rfl) ?_
      simp only [Act.put, List.setIfInBounds_toArray, List.set_cons_zero, List.set_cons_succ]
      refine dw_val (by kernel_rfl) (.int .i64 (len : Int)) (by kernel_rfl) ?_
      simp only [Act.put, List.setIfInBounds_toArray, List.set_cons_zero, List.set_cons_succ]
      refine dw_bool (by kernel_rfl) (decide ((k : Int) < (len : Int))) (by kernel_rfl) (fun hc => absurd hc (by simp; omega)) (fun hc => ?_)
      simp only [Act.put, List.setIfInBounds_toArray, List.set_cons_zero, List.set_cons_succ]
      refine wl_nil ?_
      refine hK20 _ _ ?_
      refine wp_cond_false rfl ?_
      refine wp_exit ?_
      refine hK4 _ _ ?_
      refine wp_seq_k fun K21 hK21 => ?_
      refine wl_region ?_
      refine dw_ret (by kernel_rfl) 9 #[] (by kernel_rfl) (known_any w5) ?_
      intro w18 hb
      have ht19 : Touch (fun _ => False) w5 w18 := Touch.none hb
      replace hBn1 := hBn1.keep ht19 (fun h => h)
      replace hT0 := hT0.trans ht19 (fun _ _ h => h.elim)
      clear hb
      simp only [Act.put, List.setIfInBounds_toArray, List.set_cons_zero, List.set_cons_succ]
      refine dw_val (by kernel_rfl) (.bool true) (by kernel_rfl) ?_
      simp only [Act.put, List.setIfInBounds_toArray, List.set_cons_zero, List.set_cons_succ]
      refine wl_nil ?_
      refine hK21 _ _ ?_
      refine wp_ret ?_
      repeat (first | with_reducible refine ret_then ?_ | with_reducible refine ret_block ?_)
      refine bodyPost_ret (v := .bool true) (by kernel_rfl) rfl ?_
      exact ⟨rfl, hT0.toBelow⟩
theorem matchOrder_walk {w : World} (ad : Option Addr) (len cap : Nat) (w0 : RowIn Try.prog w 43 13 ad len ∧ len ≤ cap ∧ cap ≤ maxLen)
    (cs1 : Array Value) (n1 : cs1.size = Try.prog.cellsOf 34) (w1 : ∀ o ty, (o, ty) ∈ leavesAt Try.prog 9 34 → ∃ v, cs1.toList[o]? = some v ∧ leafOk Try.prog ty v) :
    Calls Try.prog 6 #[.slice ad len cap, .agg cs1] w fun e w' => e = .returned (.bool true) ∧ Below w.heap.size w w' := by
  obtain ⟨R, hR⟩ := rules_of w0.1
  obtain ⟨a, rfl⟩ := ask_agg n1 w1
  have hcl : len ≤ 9223372036854775807 := by have := w0.2; unfold maxLen at this; omega
  cases hl : lightB R len a with
  | false => exact order_dark ad len cap R a w hR hcl hl
  | true =>
    obtain ⟨h60, hla, hsm, hsrc, hdst⟩ := light_parts hl
    by_cases h20 : 20 < len
    · exact order_long ad len cap R a w hR hcl hl h20
    · exact order_light ad len cap R a w hR w0.2.1 w0.2.2 hcl hl (by omega) hla hsm hsrc hdst
end Go.Proofs.Ytolkimdfnlfpbaa
