/- MatchTells: what the law walks. Conditions: the arguments read as rules and asks. -/
import Derived.Test.YtolkimdfnlfpbaaXE
import Derived.Laws.Rows
import Derived.Test.YtolkimdfnlfpbaaLawSides
set_option linter.unusedVariables false
set_option linter.unusedSimpArgs false
namespace Go.Proofs.Ytolkimdfnlfpbaa
open Go.RowKit
set_option maxRecDepth 100000 in
set_option maxHeartbeats 4000000 in
theorem tells_dark (ad : Option Addr) (len cap : Nat) (R : Nat → Rl) (a : Ak) (w : World) (hR : RulesAt w ad len R) (hcl : len ≤ 9223372036854775807) (hl : lightB R len a = false) :
    Calls Try.prog 3 #[.slice ad len cap, .agg a.cs.toArray] w fun e w' => e = .returned (.bool true) ∧ Below w.heap.size w w' := by
  have hT0 := Touch.refl (fun _ => False) w
  go_enter Try.func3, Try.ntmps3
  refine wp_seq_k fun K1 hK1 => ?_
  refine wl_region ?_
  refine dw_new (by kernel_rfl) [(.string a.src : Value), .string a.dst, .int .i64 a.from_, .int .i64 a.to_, .int .u32 a.seq, .int .u32 a.ack, .int .i64 a.flags, .int .i64 a.win, .int .i64 a.urg, .int .i64 a.mss, .int .i64 a.scale, .bool (a.sack), .slice a.ba a.bn a.bc, .bool (a.timed), .int .u32 a.time, .int .u32 a.echo, .string a.data, .int .i64 a.side, .int .i64 a.class_] 34 (by kernel_rfl) ?_
  intro n1 w2 hnn1 hsn1 hBn1 hTn1
  have hgen1 : w.heap.size ≤ n1 := by have := hT0.size; omega
  replace hT0 := hT0.trans hTn1 (fun _ _ h => h.elim)
  simp only [Act.put, List.setIfInBounds_toArray, List.set_cons_zero, List.set_cons_succ]
  refine dw_val (by kernel_rfl) (.bool false) (by kernel_rfl) ?_
  simp only [Act.put, List.setIfInBounds_toArray, List.set_cons_zero, List.set_cons_succ]
  refine wl_nil ?_
  refine hK1 _ _ ?_
  refine wp_seq_k fun K2 hK2 => ?_
  refine wp_seq_k fun K3 hK3 => ?_
  refine wl_region ?_
  refine dw_val (by kernel_rfl) (.slice ad len cap) (by kernel_rfl) ?_
  simp only [Act.put, List.setIfInBounds_toArray, List.set_cons_zero, List.set_cons_succ]
  refine dw_row (by kernel_rfl) 34 (.tmp 3) rfl n1 0 rfl _ _ hBn1 [(.string a.src : Value), .string a.dst, .int .i64 a.from_, .int .i64 a.to_, .int .u32 a.seq, .int .u32 a.ack, .int .i64 a.flags, .int .i64 a.win, .int .i64 a.urg, .int .i64 a.mss, .int .i64 a.scale, .bool (a.sack), .slice a.ba a.bn a.bc, .bool (a.timed), .int .u32 a.time, .int .u32 a.echo, .string a.data, .int .i64 a.side, .int .i64 a.class_] rfl _ Try.underlying34 rfl (by kernel_rfl) ?_
  simp only [Act.put, List.setIfInBounds_toArray, List.set_cons_zero, List.set_cons_succ]
  refine dw_ret (by kernel_rfl) 8 #[(.slice ad len cap : Value), .agg #[(.string a.src : Value), .string a.dst, .int .i64 a.from_, .int .i64 a.to_, .int .u32 a.seq, .int .u32 a.ack, .int .i64 a.flags, .int .i64 a.win, .int .i64 a.urg, .int .i64 a.mss, .int .i64 a.scale, .bool (a.sack), .slice a.ba a.bn a.bc, .bool (a.timed), .int .u32 a.time, .int .u32 a.echo, .string a.data, .int .i64 a.side, .int .i64 a.class_]] (by kernel_rfl) (light_any ad len cap R a w2 (hR.keep hT0) hcl) ?_
  intro w3 hb
  have ht4 : Touch (fun _ => False) w2 w3 := Touch.none hb
  replace hBn1 := hBn1.keep ht4 (fun h => h)
  replace hT0 := hT0.trans ht4 (fun _ _ h => h.elim)
  clear hb
  simp only [Act.put, List.setIfInBounds_toArray, List.set_cons_zero, List.set_cons_succ]
  refine dw_bool (by kernel_rfl) (!(lightB R len a)) (by kernel_rfl) (fun hc => ?_) (fun hc => absurd hc (by simp [hl]))
  simp only [Act.put, List.setIfInBounds_toArray, List.set_cons_zero, List.set_cons_succ]
  refine wl_nil ?_
  refine hK3 _ _ ?_
  refine wp_cond_true rfl ?_
  refine wp_seq_k fun K4 hK4 => ?_
  refine wl_region ?_
  refine dw_ret (by kernel_rfl) 9 #[] (by kernel_rfl) (known_any w3) ?_
  intro w5 hb
  have ht6 : Touch (fun _ => False) w3 w5 := Touch.none hb
  replace hBn1 := hBn1.keep ht6 (fun h => h)
  replace hT0 := hT0.trans ht6 (fun _ _ h => h.elim)
  clear hb
  simp only [Act.put, List.setIfInBounds_toArray, List.set_cons_zero, List.set_cons_succ]
  refine dw_val (by kernel_rfl) (.bool true) (by kernel_rfl) ?_
  simp only [Act.put, List.setIfInBounds_toArray, List.set_cons_zero, List.set_cons_succ]
  refine wl_nil ?_
  refine hK4 _ _ ?_
  refine wp_ret ?_
  repeat (first | with_reducible refine ret_then ?_ | with_reducible refine ret_block ?_)
  refine bodyPost_ret (v := .bool true) (by kernel_rfl) rfl ?_
  exact ⟨rfl, hT0.toBelow⟩
noncomputable def ttR : Array Oper := ((Try.f3.body.bind (findRegion 9)).getD #[])
def ttS (p3 p5 : Nat) (w0 : World) (ad : Option Addr) (len cap : Nat) (R : Nat → Rl) (a : Ak) (w : World) : Prop := (RulesAt w ad len R) ∧ (Blk w p3 [(.string a.src : Value), .string a.dst, .int .i64 a.from_, .int .i64 a.to_, .int .u32 a.seq, .int .u32 a.ack, .int .i64 a.flags, .int .i64 a.win, .int .i64 a.urg, .int .i64 a.mss, .int .i64 a.scale, .bool (a.sack), .slice a.ba a.bn a.bc, .bool (a.timed), .int .u32 a.time, .int .u32 a.echo, .string a.data, .int .i64 a.side, .int .i64 a.class_] 34) ∧ (Blk w p5 [(.string a.src : Value), .string a.dst, .int .i64 a.from_, .int .i64 a.to_, .int .u32 a.seq, .int .u32 a.ack, .int .i64 a.flags, .int .i64 a.win, .int .i64 a.urg, .int .i64 a.mss, .int .i64 a.scale, .bool (a.sack), .slice a.ba a.bn a.bc, .bool (a.timed), .int .u32 a.time, .int .u32 a.echo, .string a.data, .int .i64 a.side, .int .i64 a.class_] 37) ∧ (Touch (fun _ => False) w0 w)
theorem ttS_keep (p3 p5 : Nat) (w0 : World) (ad : Option Addr) (len cap : Nat) (R : Nat → Rl) (a : Ak) : ∀ w w', ttS p3 p5 w0 ad len cap R a w → Touch (fun _ => False) w w' → ttS p3 p5 w0 ad len cap R a w' := fun w w' hh t => by
  obtain ⟨h0, h1, h2, h3⟩ := hh
  exact ⟨h0.keep t, h1.keep t (fun h => h), h2.keep t (fun h => h), h3.trans t (fun _ _ h => h)⟩
def ttA (ad : Option Addr) (len cap : Nat) (R : Nat → Rl) (a : Ak) (t : Tmp) (v : Value) (w : World) : Prop :=
  match t with
  | 4 => v = .bool true
  | 39 => v = .slice ad len cap
  | 40 => v = .agg #[(.string a.src : Value), .string a.dst, .int .i64 a.from_, .int .i64 a.to_, .int .u32 a.seq, .int .u32 a.ack, .int .i64 a.flags, .int .i64 a.win, .int .i64 a.urg, .int .i64 a.mss, .int .i64 a.scale, .bool (a.sack), .slice a.ba a.bn a.bc, .bool (a.timed), .int .u32 a.time, .int .u32 a.echo, .string a.data, .int .i64 a.side, .int .i64 a.class_]
  | 41 => v = .int .i64 (firstI R a len)
  | 42 => v = .slice ad len cap
  | 43 => ∃ ad2 cap2, v = .slice ad2 len cap2 ∧ len ≤ cap2 ∧ cap2 ≤ maxLen ∧ RulesAt w ad2 len R
  | 44 => v = .agg #[(.string a.src : Value), .string a.dst, .int .i64 a.from_, .int .i64 a.to_, .int .u32 a.seq, .int .u32 a.ack, .int .i64 a.flags, .int .i64 a.win, .int .i64 a.urg, .int .i64 a.mss, .int .i64 a.scale, .bool (a.sack), .slice a.ba a.bn a.bc, .bool (a.timed), .int .u32 a.time, .int .u32 a.echo, .string a.data, .int .i64 a.side, .int .i64 a.class_]
  | 45 => v = .int .i64 (firstI R a len)
  | 46 => v = .bool true
  | 47 => v = .bool true
  | 48 => v = .slice ad len cap
  | 49 => v = .agg #[(.string a.src : Value), .string a.dst, .int .i64 a.from_, .int .i64 a.to_, .int .u32 a.seq, .int .u32 a.ack, .int .i64 a.flags, .int .i64 a.win, .int .i64 a.urg, .int .i64 a.mss, .int .i64 a.scale, .bool (a.sack), .slice a.ba a.bn a.bc, .bool (a.timed), .int .u32 a.time, .int .u32 a.echo, .string a.data, .int .i64 a.side, .int .i64 a.class_]
  | 50 => v = .bool (accB R a len)
  | 51 => v = .slice ad len cap
  | 52 => ∃ ad2 cap2, v = .slice ad2 len cap2 ∧ len ≤ cap2 ∧ cap2 ≤ maxLen ∧ RulesAt w ad2 len R
  | 53 => v = .agg #[(.string a.src : Value), .string a.dst, .int .i64 a.from_, .int .i64 a.to_, .int .u32 a.seq, .int .u32 a.ack, .int .i64 a.flags, .int .i64 a.win, .int .i64 a.urg, .int .i64 a.mss, .int .i64 a.scale, .bool (a.sack), .slice a.ba a.bn a.bc, .bool (a.timed), .int .u32 a.time, .int .u32 a.echo, .string a.data, .int .i64 a.side, .int .i64 a.class_]
  | 54 => v = .bool (accB R a len)
  | 55 => v = .bool true
  | 56 => v = .bool true
  | 57 => v = .bool true
  | 58 => v = .bool true
  | 59 => v = .bool true
  | _ => True
theorem ttA_keep (ad : Option Addr) (len cap : Nat) (R : Nat → Rl) (a : Ak) : ∀ t v w w', Touch (fun _ => False) w w' → ttA ad len cap R a t v w → ttA ad len cap R a t v w' := by
  intro t v w w' ht h
  unfold ttA at *
  split at h
  · exact h
  · exact h
  · exact h
  · exact h
  · exact h
  · obtain ⟨x, y, h1, h2, h3, h4⟩ := h; exact ⟨x, y, h1, h2, h3, h4.keep ht⟩
  · exact h
  · exact h
  · exact h
  · exact h
  · exact h
  · exact h
  · exact h
  · exact h
  · obtain ⟨x, y, h1, h2, h3, h4⟩ := h; exact ⟨x, y, h1, h2, h3, h4.keep ht⟩
  · exact h
  · exact h
  · exact h
  · exact h
  · exact h
  · exact h
  · exact h
  · trivial
set_option maxRecDepth 100000 in
theorem tt_0 (p3 p5 : Nat) (w0 : World) (ad : Option Addr) (len cap : Nat) (R : Nat → Rl) (a : Ak) (a0 : Act) (Q : Exit → Act → World → Prop) (hlc : len ≤ cap) (hcap : cap ≤ maxLen) (hcl : len ≤ 9223372036854775807) (h60 : len ≤ 60) (hla : LightAll R len) (hsm : SmallR R len) (hsrc : a.src.size ≤ 100) (hdst : a.dst.size ≤ 100) (k0 : a0.eval (.tmp 0) = .slice ad len cap) (k3 : a0.eval (.tmp 3) = .pointer (some ⟨p3, 0, none⟩)) (k5 : a0.eval (.tmp 5) = .pointer (some ⟨p5, 0, none⟩)) : StepOk (md := .any) Try.prog ttR Q (ttA ad len cap R a) (Touch (fun _ => False)) (fun _ w => ttS p3 p5 w0 ad len cap R a w) a0 0 (ttR.getD 0 default) := by
  refine step_of (.inl (by kernel_rfl)) (ttS_keep p3 p5 w0 ad len cap R a) (fun aF w hC hop => ?_)
  have h0 : aF.eval (.tmp 0) = _ := (hop.el 0 (by kernel_rfl)).trans k0
  exact tw_move (.tmp 0) (.inl (by kernel_rfl)) (fun t ht => by have e : (ttR.getD 0 default).dst = some 39 := (by kernel_rfl); rw [e] at ht; cases ht; exact h0)
set_option maxRecDepth 100000 in
theorem tt_1 (p3 p5 : Nat) (w0 : World) (ad : Option Addr) (len cap : Nat) (R : Nat → Rl) (a : Ak) (a0 : Act) (Q : Exit → Act → World → Prop) (hlc : len ≤ cap) (hcap : cap ≤ maxLen) (hcl : len ≤ 9223372036854775807) (h60 : len ≤ 60) (hla : LightAll R len) (hsm : SmallR R len) (hsrc : a.src.size ≤ 100) (hdst : a.dst.size ≤ 100) (k0 : a0.eval (.tmp 0) = .slice ad len cap) (k3 : a0.eval (.tmp 3) = .pointer (some ⟨p3, 0, none⟩)) (k5 : a0.eval (.tmp 5) = .pointer (some ⟨p5, 0, none⟩)) : StepOk (md := .any) Try.prog ttR Q (ttA ad len cap R a) (Touch (fun _ => False)) (fun _ w => ttS p3 p5 w0 ad len cap R a w) a0 1 (ttR.getD 1 default) := by
  refine step_of (.inl (by kernel_rfl)) (ttS_keep p3 p5 w0 ad len cap R a) (fun aF w hC hop => ?_)
  have h3 : aF.eval (.tmp 3) = _ := (hop.el 3 (by kernel_rfl)).trans k3
  exact tw_load 34 (.tmp 3) (by kernel_rfl) p3 h3 34 _ _ hC.2.1 Try.underlying34 (by kernel_rfl) (fun t ht => by have e : (ttR.getD 1 default).dst = some 40 := (by kernel_rfl); rw [e] at ht; cases ht; exact rfl)
set_option maxRecDepth 100000 in
theorem tt_2 (p3 p5 : Nat) (w0 : World) (ad : Option Addr) (len cap : Nat) (R : Nat → Rl) (a : Ak) (a0 : Act) (Q : Exit → Act → World → Prop) (hlc : len ≤ cap) (hcap : cap ≤ maxLen) (hcl : len ≤ 9223372036854775807) (h60 : len ≤ 60) (hla : LightAll R len) (hsm : SmallR R len) (hsrc : a.src.size ≤ 100) (hdst : a.dst.size ≤ 100) (k0 : a0.eval (.tmp 0) = .slice ad len cap) (k3 : a0.eval (.tmp 3) = .pointer (some ⟨p3, 0, none⟩)) (k5 : a0.eval (.tmp 5) = .pointer (some ⟨p5, 0, none⟩)) : StepOk (md := .any) Try.prog ttR Q (ttA ad len cap R a) (Touch (fun _ => False)) (fun _ w => ttS p3 p5 w0 ad len cap R a w) a0 2 (ttR.getD 2 default) := by
  refine step_of (.inl (by kernel_rfl)) (ttS_keep p3 p5 w0 ad len cap R a) (fun aF w hC hop => ?_)
  have h39 : (ttA ad len cap R a) 39 (aF.eval (.tmp 39)) w := hop.rd 39 0 (by kernel_rfl)
  replace h39 : aF.eval (.tmp 39) = .slice ad len cap := h39
  have h40 : (ttA ad len cap R a) 40 (aF.eval (.tmp 40)) w := hop.rd 40 1 (by kernel_rfl)
  replace h40 : aF.eval (.tmp 40) = .agg #[(.string a.src : Value), .string a.dst, .int .i64 a.from_, .int .i64 a.to_, .int .u32 a.seq, .int .u32 a.ack, .int .i64 a.flags, .int .i64 a.win, .int .i64 a.urg, .int .i64 a.mss, .int .i64 a.scale, .bool (a.sack), .slice a.ba a.bn a.bc, .bool (a.timed), .int .u32 a.time, .int .u32 a.echo, .string a.data, .int .i64 a.side, .int .i64 a.class_] := h40
  have hv : (#[(.tmp 39), (.tmp 40)] : Array Operand).map aF.eval = #[(.slice ad len cap : Value), .agg #[(.string a.src : Value), .string a.dst, .int .i64 a.from_, .int .i64 a.to_, .int .u32 a.seq, .int .u32 a.ack, .int .i64 a.flags, .int .i64 a.win, .int .i64 a.urg, .int .i64 a.mss, .int .i64 a.scale, .bool (a.sack), .slice a.ba a.bn a.bc, .bool (a.timed), .int .u32 a.time, .int .u32 a.echo, .string a.data, .int .i64 a.side, .int .i64 a.class_]] := by simp only [List.map_toArray, List.map_cons, List.map_nil, h39, h40]; first | done | rfl
  exact tw_call 13 #[(.tmp 39), (.tmp 40)] #[22, 34] (by kernel_rfl) #[(.slice ad len cap : Value), .agg #[(.string a.src : Value), .string a.dst, .int .i64 a.from_, .int .i64 a.to_, .int .u32 a.seq, .int .u32 a.ack, .int .i64 a.flags, .int .i64 a.win, .int .i64 a.urg, .int .i64 a.mss, .int .i64 a.scale, .bool (a.sack), .slice a.ba a.bn a.bc, .bool (a.timed), .int .u32 a.time, .int .u32 a.echo, .string a.data, .int .i64 a.side, .int .i64 a.class_]] hv (fun w => by kernel_rfl) (Calls.mono (first_any ad len cap R a w hC.1 hcl hsm hsrc hdst) (fun e w' hh => ⟨_, hh.1, (fun t ht => by have e : (ttR.getD 2 default).dst = some 41 := (by kernel_rfl); rw [e] at ht; cases ht; exact rfl), Touch.none hh.2⟩))
set_option maxRecDepth 100000 in
theorem tt_3 (p3 p5 : Nat) (w0 : World) (ad : Option Addr) (len cap : Nat) (R : Nat → Rl) (a : Ak) (a0 : Act) (Q : Exit → Act → World → Prop) (hlc : len ≤ cap) (hcap : cap ≤ maxLen) (hcl : len ≤ 9223372036854775807) (h60 : len ≤ 60) (hla : LightAll R len) (hsm : SmallR R len) (hsrc : a.src.size ≤ 100) (hdst : a.dst.size ≤ 100) (k0 : a0.eval (.tmp 0) = .slice ad len cap) (k3 : a0.eval (.tmp 3) = .pointer (some ⟨p3, 0, none⟩)) (k5 : a0.eval (.tmp 5) = .pointer (some ⟨p5, 0, none⟩)) : StepOk (md := .any) Try.prog ttR Q (ttA ad len cap R a) (Touch (fun _ => False)) (fun _ w => ttS p3 p5 w0 ad len cap R a w) a0 3 (ttR.getD 3 default) := by
  refine step_of (.inl (by kernel_rfl)) (ttS_keep p3 p5 w0 ad len cap R a) (fun aF w hC hop => ?_)
  have h0 : aF.eval (.tmp 0) = _ := (hop.el 0 (by kernel_rfl)).trans k0
  exact tw_move (.tmp 0) (.inl (by kernel_rfl)) (fun t ht => by have e : (ttR.getD 3 default).dst = some 42 := (by kernel_rfl); rw [e] at ht; cases ht; exact h0)
set_option maxRecDepth 100000 in
theorem tt_4 (p3 p5 : Nat) (w0 : World) (ad : Option Addr) (len cap : Nat) (R : Nat → Rl) (a : Ak) (a0 : Act) (Q : Exit → Act → World → Prop) (hlc : len ≤ cap) (hcap : cap ≤ maxLen) (hcl : len ≤ 9223372036854775807) (h60 : len ≤ 60) (hla : LightAll R len) (hsm : SmallR R len) (hsrc : a.src.size ≤ 100) (hdst : a.dst.size ≤ 100) (k0 : a0.eval (.tmp 0) = .slice ad len cap) (k3 : a0.eval (.tmp 3) = .pointer (some ⟨p3, 0, none⟩)) (k5 : a0.eval (.tmp 5) = .pointer (some ⟨p5, 0, none⟩)) : StepOk (md := .any) Try.prog ttR Q (ttA ad len cap R a) (Touch (fun _ => False)) (fun _ w => ttS p3 p5 w0 ad len cap R a w) a0 4 (ttR.getD 4 default) := by
  refine step_of (.inl (by kernel_rfl)) (ttS_keep p3 p5 w0 ad len cap R a) (fun aF w hC hop => ?_)
  have h42 : (ttA ad len cap R a) 42 (aF.eval (.tmp 42)) w := hop.rd 42 3 (by kernel_rfl)
  replace h42 : aF.eval (.tmp 42) = .slice ad len cap := h42
  have hv : (#[(.tmp 42)] : Array Operand).map aF.eval = #[(.slice ad len cap : Value)] := by simp only [List.map_toArray, List.map_cons, List.map_nil, h42]; first | done | rfl
  exact tw_call 15 #[(.tmp 42)] #[22] (by kernel_rfl) #[(.slice ad len cap : Value)] hv (fun w => by kernel_rfl) (Calls.mono (all_any ad len cap R w hC.1 hlc hcap h60) (fun e w' hh => by obtain ⟨v, h1, h2, h3⟩ := hh; obtain ⟨ad2, cap2, h4, h5, h6, h7⟩ := own_rules h2; subst h4; exact ⟨_, h1, (fun t ht => by have e : (ttR.getD 4 default).dst = some 43 := (by kernel_rfl); rw [e] at ht; cases ht; exact ⟨ad2, cap2, rfl, h5, h6, h7⟩), Touch.none h3⟩))
set_option maxRecDepth 100000 in
theorem tt_5 (p3 p5 : Nat) (w0 : World) (ad : Option Addr) (len cap : Nat) (R : Nat → Rl) (a : Ak) (a0 : Act) (Q : Exit → Act → World → Prop) (hlc : len ≤ cap) (hcap : cap ≤ maxLen) (hcl : len ≤ 9223372036854775807) (h60 : len ≤ 60) (hla : LightAll R len) (hsm : SmallR R len) (hsrc : a.src.size ≤ 100) (hdst : a.dst.size ≤ 100) (k0 : a0.eval (.tmp 0) = .slice ad len cap) (k3 : a0.eval (.tmp 3) = .pointer (some ⟨p3, 0, none⟩)) (k5 : a0.eval (.tmp 5) = .pointer (some ⟨p5, 0, none⟩)) : StepOk (md := .any) Try.prog ttR Q (ttA ad len cap R a) (Touch (fun _ => False)) (fun _ w => ttS p3 p5 w0 ad len cap R a w) a0 5 (ttR.getD 5 default) := by
  refine step_of (.inl (by kernel_rfl)) (ttS_keep p3 p5 w0 ad len cap R a) (fun aF w hC hop => ?_)
  have h5 : aF.eval (.tmp 5) = _ := (hop.el 5 (by kernel_rfl)).trans k5
  exact tw_load 37 (.tmp 5) (by kernel_rfl) p5 h5 37 _ _ hC.2.2.1 Try.underlying37 (by kernel_rfl) (fun t ht => by have e : (ttR.getD 5 default).dst = some 44 := (by kernel_rfl); rw [e] at ht; cases ht; exact rfl)
set_option maxRecDepth 100000 in
theorem tt_6 (p3 p5 : Nat) (w0 : World) (ad : Option Addr) (len cap : Nat) (R : Nat → Rl) (a : Ak) (a0 : Act) (Q : Exit → Act → World → Prop) (hlc : len ≤ cap) (hcap : cap ≤ maxLen) (hcl : len ≤ 9223372036854775807) (h60 : len ≤ 60) (hla : LightAll R len) (hsm : SmallR R len) (hsrc : a.src.size ≤ 100) (hdst : a.dst.size ≤ 100) (k0 : a0.eval (.tmp 0) = .slice ad len cap) (k3 : a0.eval (.tmp 3) = .pointer (some ⟨p3, 0, none⟩)) (k5 : a0.eval (.tmp 5) = .pointer (some ⟨p5, 0, none⟩)) : StepOk (md := .any) Try.prog ttR Q (ttA ad len cap R a) (Touch (fun _ => False)) (fun _ w => ttS p3 p5 w0 ad len cap R a w) a0 6 (ttR.getD 6 default) := by
  refine step_of (.inl (by kernel_rfl)) (ttS_keep p3 p5 w0 ad len cap R a) (fun aF w hC hop => ?_)
  have h43 : (ttA ad len cap R a) 43 (aF.eval (.tmp 43)) w := hop.rd 43 4 (by kernel_rfl)
  have h44 : (ttA ad len cap R a) 44 (aF.eval (.tmp 44)) w := hop.rd 44 5 (by kernel_rfl)
  replace h44 : aF.eval (.tmp 44) = .agg #[(.string a.src : Value), .string a.dst, .int .i64 a.from_, .int .i64 a.to_, .int .u32 a.seq, .int .u32 a.ack, .int .i64 a.flags, .int .i64 a.win, .int .i64 a.urg, .int .i64 a.mss, .int .i64 a.scale, .bool (a.sack), .slice a.ba a.bn a.bc, .bool (a.timed), .int .u32 a.time, .int .u32 a.echo, .string a.data, .int .i64 a.side, .int .i64 a.class_] := h44
  obtain ⟨ad2, cap2, h43, hc1, hc2, hr2⟩ := h43
  have hv : (#[(.tmp 43), (.tmp 44)] : Array Operand).map aF.eval = #[.slice ad2 len cap2, .agg #[(.string a.src : Value), .string a.dst, .int .i64 a.from_, .int .i64 a.to_, .int .u32 a.seq, .int .u32 a.ack, .int .i64 a.flags, .int .i64 a.win, .int .i64 a.urg, .int .i64 a.mss, .int .i64 a.scale, .bool (a.sack), .slice a.ba a.bn a.bc, .bool (a.timed), .int .u32 a.time, .int .u32 a.echo, .string a.data, .int .i64 a.side, .int .i64 a.class_]] := by simp only [List.map_toArray, List.map_cons, List.map_nil, h43, h44]; first | done | rfl
  exact tw_call 14 #[(.tmp 43), (.tmp 44)] #[49, 37] (by kernel_rfl) #[.slice ad2 len cap2, .agg #[(.string a.src : Value), .string a.dst, .int .i64 a.from_, .int .i64 a.to_, .int .u32 a.seq, .int .u32 a.ack, .int .i64 a.flags, .int .i64 a.win, .int .i64 a.urg, .int .i64 a.mss, .int .i64 a.scale, .bool (a.sack), .slice a.ba a.bn a.bc, .bool (a.timed), .int .u32 a.time, .int .u32 a.echo, .string a.data, .int .i64 a.side, .int .i64 a.class_]] hv (fun w => by kernel_rfl) (Calls.mono (rfirst_any ad2 len cap2 R a w hr2 hcl hla hsrc hdst) (fun e w' hh => ⟨_, hh.1, (fun t ht => by have e : (ttR.getD 6 default).dst = some 45 := (by kernel_rfl); rw [e] at ht; cases ht; exact rfl), Touch.none hh.2⟩))
set_option maxRecDepth 100000 in
theorem tt_7 (p3 p5 : Nat) (w0 : World) (ad : Option Addr) (len cap : Nat) (R : Nat → Rl) (a : Ak) (a0 : Act) (Q : Exit → Act → World → Prop) (hlc : len ≤ cap) (hcap : cap ≤ maxLen) (hcl : len ≤ 9223372036854775807) (h60 : len ≤ 60) (hla : LightAll R len) (hsm : SmallR R len) (hsrc : a.src.size ≤ 100) (hdst : a.dst.size ≤ 100) (k0 : a0.eval (.tmp 0) = .slice ad len cap) (k3 : a0.eval (.tmp 3) = .pointer (some ⟨p3, 0, none⟩)) (k5 : a0.eval (.tmp 5) = .pointer (some ⟨p5, 0, none⟩)) : StepOk (md := .any) Try.prog ttR Q (ttA ad len cap R a) (Touch (fun _ => False)) (fun _ w => ttS p3 p5 w0 ad len cap R a w) a0 7 (ttR.getD 7 default) := by
  refine step_of (.inl (by kernel_rfl)) (ttS_keep p3 p5 w0 ad len cap R a) (fun aF w hC hop => ?_)
  have h41 : (ttA ad len cap R a) 41 (aF.eval (.tmp 41)) w := hop.rd 41 2 (by kernel_rfl)
  replace h41 : aF.eval (.tmp 41) = .int .i64 (firstI R a len) := h41
  have h45 : (ttA ad len cap R a) 45 (aF.eval (.tmp 45)) w := hop.rd 45 6 (by kernel_rfl)
  replace h45 : aF.eval (.tmp 45) = .int .i64 (firstI R a len) := h45
  exact tw_bin .eql 3 3 (.tmp 41) (.tmp 45) (by kernel_rfl) (.int .i64 (firstI R a len)) (.int .i64 (firstI R a len)) (.bool true) h41 h45 (fun w => (show _ = Result.ok (.bool (firstI R a len == firstI R a len)) w from by kernel_rfl).trans (by simp)) (fun t ht => by have e : (ttR.getD 7 default).dst = some 46 := (by kernel_rfl); rw [e] at ht; cases ht; exact rfl)
set_option maxRecDepth 100000 in
theorem tt_8 (p3 p5 : Nat) (w0 : World) (ad : Option Addr) (len cap : Nat) (R : Nat → Rl) (a : Ak) (a0 : Act) (Q : Exit → Act → World → Prop) (hlc : len ≤ cap) (hcap : cap ≤ maxLen) (hcl : len ≤ 9223372036854775807) (h60 : len ≤ 60) (hla : LightAll R len) (hsm : SmallR R len) (hsrc : a.src.size ≤ 100) (hdst : a.dst.size ≤ 100) (k0 : a0.eval (.tmp 0) = .slice ad len cap) (k3 : a0.eval (.tmp 3) = .pointer (some ⟨p3, 0, none⟩)) (k5 : a0.eval (.tmp 5) = .pointer (some ⟨p5, 0, none⟩)) : StepOk (md := .any) Try.prog ttR Q (ttA ad len cap R a) (Touch (fun _ => False)) (fun _ w => ttS p3 p5 w0 ad len cap R a w) a0 8 (ttR.getD 8 default) := by
  refine step_of (.inl (by kernel_rfl)) (ttS_keep p3 p5 w0 ad len cap R a) (fun aF w hC hop => ?_)
  have h46 : (ttA ad len cap R a) 46 (aF.eval (.tmp 46)) w := hop.rd 46 7 (by kernel_rfl)
  replace h46 : aF.eval (.tmp 46) = .bool true := h46
  exact tw_move (.tmp 46) (.inl (by kernel_rfl)) (fun t ht => by have e : (ttR.getD 8 default).dst = some 47 := (by kernel_rfl); rw [e] at ht; cases ht; exact h46)
set_option maxRecDepth 100000 in
theorem tt_9 (p3 p5 : Nat) (w0 : World) (ad : Option Addr) (len cap : Nat) (R : Nat → Rl) (a : Ak) (a0 : Act) (Q : Exit → Act → World → Prop) (hlc : len ≤ cap) (hcap : cap ≤ maxLen) (hcl : len ≤ 9223372036854775807) (h60 : len ≤ 60) (hla : LightAll R len) (hsm : SmallR R len) (hsrc : a.src.size ≤ 100) (hdst : a.dst.size ≤ 100) (k0 : a0.eval (.tmp 0) = .slice ad len cap) (k3 : a0.eval (.tmp 3) = .pointer (some ⟨p3, 0, none⟩)) (k5 : a0.eval (.tmp 5) = .pointer (some ⟨p5, 0, none⟩)) : StepOk (md := .any) Try.prog ttR Q (ttA ad len cap R a) (Touch (fun _ => False)) (fun _ w => ttS p3 p5 w0 ad len cap R a w) a0 9 (ttR.getD 9 default) := by
  refine step_of (.inr ⟨8, 47, by kernel_rfl, by kernel_rfl, fun v w h => h⟩) (ttS_keep p3 p5 w0 ad len cap R a) (fun aF w hC hop => ?_)
  have h0 : aF.eval (.tmp 0) = _ := (hop.el 0 (by kernel_rfl)).trans k0
  exact tw_move (.tmp 0) (.inl (by kernel_rfl)) (fun t ht => by have e : (ttR.getD 9 default).dst = some 48 := (by kernel_rfl); rw [e] at ht; cases ht; exact h0)
set_option maxRecDepth 100000 in
theorem tt_10 (p3 p5 : Nat) (w0 : World) (ad : Option Addr) (len cap : Nat) (R : Nat → Rl) (a : Ak) (a0 : Act) (Q : Exit → Act → World → Prop) (hlc : len ≤ cap) (hcap : cap ≤ maxLen) (hcl : len ≤ 9223372036854775807) (h60 : len ≤ 60) (hla : LightAll R len) (hsm : SmallR R len) (hsrc : a.src.size ≤ 100) (hdst : a.dst.size ≤ 100) (k0 : a0.eval (.tmp 0) = .slice ad len cap) (k3 : a0.eval (.tmp 3) = .pointer (some ⟨p3, 0, none⟩)) (k5 : a0.eval (.tmp 5) = .pointer (some ⟨p5, 0, none⟩)) : StepOk (md := .any) Try.prog ttR Q (ttA ad len cap R a) (Touch (fun _ => False)) (fun _ w => ttS p3 p5 w0 ad len cap R a w) a0 10 (ttR.getD 10 default) := by
  refine step_of (.inr ⟨8, 47, by kernel_rfl, by kernel_rfl, fun v w h => h⟩) (ttS_keep p3 p5 w0 ad len cap R a) (fun aF w hC hop => ?_)
  have h3 : aF.eval (.tmp 3) = _ := (hop.el 3 (by kernel_rfl)).trans k3
  exact tw_load 34 (.tmp 3) (by kernel_rfl) p3 h3 34 _ _ hC.2.1 Try.underlying34 (by kernel_rfl) (fun t ht => by have e : (ttR.getD 10 default).dst = some 49 := (by kernel_rfl); rw [e] at ht; cases ht; exact rfl)
set_option maxRecDepth 100000 in
theorem tt_11 (p3 p5 : Nat) (w0 : World) (ad : Option Addr) (len cap : Nat) (R : Nat → Rl) (a : Ak) (a0 : Act) (Q : Exit → Act → World → Prop) (hlc : len ≤ cap) (hcap : cap ≤ maxLen) (hcl : len ≤ 9223372036854775807) (h60 : len ≤ 60) (hla : LightAll R len) (hsm : SmallR R len) (hsrc : a.src.size ≤ 100) (hdst : a.dst.size ≤ 100) (k0 : a0.eval (.tmp 0) = .slice ad len cap) (k3 : a0.eval (.tmp 3) = .pointer (some ⟨p3, 0, none⟩)) (k5 : a0.eval (.tmp 5) = .pointer (some ⟨p5, 0, none⟩)) : StepOk (md := .any) Try.prog ttR Q (ttA ad len cap R a) (Touch (fun _ => False)) (fun _ w => ttS p3 p5 w0 ad len cap R a w) a0 11 (ttR.getD 11 default) := by
  refine step_of (.inr ⟨8, 47, by kernel_rfl, by kernel_rfl, fun v w h => h⟩) (ttS_keep p3 p5 w0 ad len cap R a) (fun aF w hC hop => ?_)
  have h48 : (ttA ad len cap R a) 48 (aF.eval (.tmp 48)) w := hop.rd 48 9 (by kernel_rfl)
  replace h48 : aF.eval (.tmp 48) = .slice ad len cap := h48
  have h49 : (ttA ad len cap R a) 49 (aF.eval (.tmp 49)) w := hop.rd 49 10 (by kernel_rfl)
  replace h49 : aF.eval (.tmp 49) = .agg #[(.string a.src : Value), .string a.dst, .int .i64 a.from_, .int .i64 a.to_, .int .u32 a.seq, .int .u32 a.ack, .int .i64 a.flags, .int .i64 a.win, .int .i64 a.urg, .int .i64 a.mss, .int .i64 a.scale, .bool (a.sack), .slice a.ba a.bn a.bc, .bool (a.timed), .int .u32 a.time, .int .u32 a.echo, .string a.data, .int .i64 a.side, .int .i64 a.class_] := h49
  have hv : (#[(.tmp 48), (.tmp 49)] : Array Operand).map aF.eval = #[(.slice ad len cap : Value), .agg #[(.string a.src : Value), .string a.dst, .int .i64 a.from_, .int .i64 a.to_, .int .u32 a.seq, .int .u32 a.ack, .int .i64 a.flags, .int .i64 a.win, .int .i64 a.urg, .int .i64 a.mss, .int .i64 a.scale, .bool (a.sack), .slice a.ba a.bn a.bc, .bool (a.timed), .int .u32 a.time, .int .u32 a.echo, .string a.data, .int .i64 a.side, .int .i64 a.class_]] := by simp only [List.map_toArray, List.map_cons, List.map_nil, h48, h49]; first | done | rfl
  exact tw_call 16 #[(.tmp 48), (.tmp 49)] #[22, 34] (by kernel_rfl) #[(.slice ad len cap : Value), .agg #[(.string a.src : Value), .string a.dst, .int .i64 a.from_, .int .i64 a.to_, .int .u32 a.seq, .int .u32 a.ack, .int .i64 a.flags, .int .i64 a.win, .int .i64 a.urg, .int .i64 a.mss, .int .i64 a.scale, .bool (a.sack), .slice a.ba a.bn a.bc, .bool (a.timed), .int .u32 a.time, .int .u32 a.echo, .string a.data, .int .i64 a.side, .int .i64 a.class_]] hv (fun w => by kernel_rfl) (Calls.mono (accepts_any ad len cap R a w hC.1 hcl hsm hsrc hdst) (fun e w' hh => ⟨_, hh.1, (fun t ht => by have e : (ttR.getD 11 default).dst = some 50 := (by kernel_rfl); rw [e] at ht; cases ht; exact rfl), Touch.none hh.2⟩))
set_option maxRecDepth 100000 in
theorem tt_12 (p3 p5 : Nat) (w0 : World) (ad : Option Addr) (len cap : Nat) (R : Nat → Rl) (a : Ak) (a0 : Act) (Q : Exit → Act → World → Prop) (hlc : len ≤ cap) (hcap : cap ≤ maxLen) (hcl : len ≤ 9223372036854775807) (h60 : len ≤ 60) (hla : LightAll R len) (hsm : SmallR R len) (hsrc : a.src.size ≤ 100) (hdst : a.dst.size ≤ 100) (k0 : a0.eval (.tmp 0) = .slice ad len cap) (k3 : a0.eval (.tmp 3) = .pointer (some ⟨p3, 0, none⟩)) (k5 : a0.eval (.tmp 5) = .pointer (some ⟨p5, 0, none⟩)) : StepOk (md := .any) Try.prog ttR Q (ttA ad len cap R a) (Touch (fun _ => False)) (fun _ w => ttS p3 p5 w0 ad len cap R a w) a0 12 (ttR.getD 12 default) := by
  refine step_of (.inr ⟨8, 47, by kernel_rfl, by kernel_rfl, fun v w h => h⟩) (ttS_keep p3 p5 w0 ad len cap R a) (fun aF w hC hop => ?_)
  have h0 : aF.eval (.tmp 0) = _ := (hop.el 0 (by kernel_rfl)).trans k0
  exact tw_move (.tmp 0) (.inl (by kernel_rfl)) (fun t ht => by have e : (ttR.getD 12 default).dst = some 51 := (by kernel_rfl); rw [e] at ht; cases ht; exact h0)
set_option maxRecDepth 100000 in
theorem tt_13 (p3 p5 : Nat) (w0 : World) (ad : Option Addr) (len cap : Nat) (R : Nat → Rl) (a : Ak) (a0 : Act) (Q : Exit → Act → World → Prop) (hlc : len ≤ cap) (hcap : cap ≤ maxLen) (hcl : len ≤ 9223372036854775807) (h60 : len ≤ 60) (hla : LightAll R len) (hsm : SmallR R len) (hsrc : a.src.size ≤ 100) (hdst : a.dst.size ≤ 100) (k0 : a0.eval (.tmp 0) = .slice ad len cap) (k3 : a0.eval (.tmp 3) = .pointer (some ⟨p3, 0, none⟩)) (k5 : a0.eval (.tmp 5) = .pointer (some ⟨p5, 0, none⟩)) : StepOk (md := .any) Try.prog ttR Q (ttA ad len cap R a) (Touch (fun _ => False)) (fun _ w => ttS p3 p5 w0 ad len cap R a w) a0 13 (ttR.getD 13 default) := by
  refine step_of (.inr ⟨8, 47, by kernel_rfl, by kernel_rfl, fun v w h => h⟩) (ttS_keep p3 p5 w0 ad len cap R a) (fun aF w hC hop => ?_)
  have h51 : (ttA ad len cap R a) 51 (aF.eval (.tmp 51)) w := hop.rd 51 12 (by kernel_rfl)
  replace h51 : aF.eval (.tmp 51) = .slice ad len cap := h51
  have hv : (#[(.tmp 51)] : Array Operand).map aF.eval = #[(.slice ad len cap : Value)] := by simp only [List.map_toArray, List.map_cons, List.map_nil, h51]; first | done | rfl
  exact tw_call 15 #[(.tmp 51)] #[22] (by kernel_rfl) #[(.slice ad len cap : Value)] hv (fun w => by kernel_rfl) (Calls.mono (all_any ad len cap R w hC.1 hlc hcap h60) (fun e w' hh => by obtain ⟨v, h1, h2, h3⟩ := hh; obtain ⟨ad2, cap2, h4, h5, h6, h7⟩ := own_rules h2; subst h4; exact ⟨_, h1, (fun t ht => by have e : (ttR.getD 13 default).dst = some 52 := (by kernel_rfl); rw [e] at ht; cases ht; exact ⟨ad2, cap2, rfl, h5, h6, h7⟩), Touch.none h3⟩))
set_option maxRecDepth 100000 in
theorem tt_14 (p3 p5 : Nat) (w0 : World) (ad : Option Addr) (len cap : Nat) (R : Nat → Rl) (a : Ak) (a0 : Act) (Q : Exit → Act → World → Prop) (hlc : len ≤ cap) (hcap : cap ≤ maxLen) (hcl : len ≤ 9223372036854775807) (h60 : len ≤ 60) (hla : LightAll R len) (hsm : SmallR R len) (hsrc : a.src.size ≤ 100) (hdst : a.dst.size ≤ 100) (k0 : a0.eval (.tmp 0) = .slice ad len cap) (k3 : a0.eval (.tmp 3) = .pointer (some ⟨p3, 0, none⟩)) (k5 : a0.eval (.tmp 5) = .pointer (some ⟨p5, 0, none⟩)) : StepOk (md := .any) Try.prog ttR Q (ttA ad len cap R a) (Touch (fun _ => False)) (fun _ w => ttS p3 p5 w0 ad len cap R a w) a0 14 (ttR.getD 14 default) := by
  refine step_of (.inr ⟨8, 47, by kernel_rfl, by kernel_rfl, fun v w h => h⟩) (ttS_keep p3 p5 w0 ad len cap R a) (fun aF w hC hop => ?_)
  have h5 : aF.eval (.tmp 5) = _ := (hop.el 5 (by kernel_rfl)).trans k5
  exact tw_load 37 (.tmp 5) (by kernel_rfl) p5 h5 37 _ _ hC.2.2.1 Try.underlying37 (by kernel_rfl) (fun t ht => by have e : (ttR.getD 14 default).dst = some 53 := (by kernel_rfl); rw [e] at ht; cases ht; exact rfl)
set_option maxRecDepth 100000 in
theorem tt_15 (p3 p5 : Nat) (w0 : World) (ad : Option Addr) (len cap : Nat) (R : Nat → Rl) (a : Ak) (a0 : Act) (Q : Exit → Act → World → Prop) (hlc : len ≤ cap) (hcap : cap ≤ maxLen) (hcl : len ≤ 9223372036854775807) (h60 : len ≤ 60) (hla : LightAll R len) (hsm : SmallR R len) (hsrc : a.src.size ≤ 100) (hdst : a.dst.size ≤ 100) (k0 : a0.eval (.tmp 0) = .slice ad len cap) (k3 : a0.eval (.tmp 3) = .pointer (some ⟨p3, 0, none⟩)) (k5 : a0.eval (.tmp 5) = .pointer (some ⟨p5, 0, none⟩)) : StepOk (md := .any) Try.prog ttR Q (ttA ad len cap R a) (Touch (fun _ => False)) (fun _ w => ttS p3 p5 w0 ad len cap R a w) a0 15 (ttR.getD 15 default) := by
  refine step_of (.inr ⟨8, 47, by kernel_rfl, by kernel_rfl, fun v w h => h⟩) (ttS_keep p3 p5 w0 ad len cap R a) (fun aF w hC hop => ?_)
  have h52 : (ttA ad len cap R a) 52 (aF.eval (.tmp 52)) w := hop.rd 52 13 (by kernel_rfl)
  have h53 : (ttA ad len cap R a) 53 (aF.eval (.tmp 53)) w := hop.rd 53 14 (by kernel_rfl)
  replace h53 : aF.eval (.tmp 53) = .agg #[(.string a.src : Value), .string a.dst, .int .i64 a.from_, .int .i64 a.to_, .int .u32 a.seq, .int .u32 a.ack, .int .i64 a.flags, .int .i64 a.win, .int .i64 a.urg, .int .i64 a.mss, .int .i64 a.scale, .bool (a.sack), .slice a.ba a.bn a.bc, .bool (a.timed), .int .u32 a.time, .int .u32 a.echo, .string a.data, .int .i64 a.side, .int .i64 a.class_] := h53
  obtain ⟨ad2, cap2, h52, hc1, hc2, hr2⟩ := h52
  have hv : (#[(.tmp 52), (.tmp 53)] : Array Operand).map aF.eval = #[.slice ad2 len cap2, .agg #[(.string a.src : Value), .string a.dst, .int .i64 a.from_, .int .i64 a.to_, .int .u32 a.seq, .int .u32 a.ack, .int .i64 a.flags, .int .i64 a.win, .int .i64 a.urg, .int .i64 a.mss, .int .i64 a.scale, .bool (a.sack), .slice a.ba a.bn a.bc, .bool (a.timed), .int .u32 a.time, .int .u32 a.echo, .string a.data, .int .i64 a.side, .int .i64 a.class_]] := by simp only [List.map_toArray, List.map_cons, List.map_nil, h52, h53]; first | done | rfl
  exact tw_call 17 #[(.tmp 52), (.tmp 53)] #[49, 37] (by kernel_rfl) #[.slice ad2 len cap2, .agg #[(.string a.src : Value), .string a.dst, .int .i64 a.from_, .int .i64 a.to_, .int .u32 a.seq, .int .u32 a.ack, .int .i64 a.flags, .int .i64 a.win, .int .i64 a.urg, .int .i64 a.mss, .int .i64 a.scale, .bool (a.sack), .slice a.ba a.bn a.bc, .bool (a.timed), .int .u32 a.time, .int .u32 a.echo, .string a.data, .int .i64 a.side, .int .i64 a.class_]] hv (fun w => by kernel_rfl) (Calls.mono (raccepts_any ad2 len cap2 R a w hr2 hcl hla hsrc hdst) (fun e w' hh => ⟨_, hh.1, (fun t ht => by have e : (ttR.getD 15 default).dst = some 54 := (by kernel_rfl); rw [e] at ht; cases ht; exact rfl), Touch.none hh.2⟩))
set_option maxRecDepth 100000 in
theorem tt_16 (p3 p5 : Nat) (w0 : World) (ad : Option Addr) (len cap : Nat) (R : Nat → Rl) (a : Ak) (a0 : Act) (Q : Exit → Act → World → Prop) (hlc : len ≤ cap) (hcap : cap ≤ maxLen) (hcl : len ≤ 9223372036854775807) (h60 : len ≤ 60) (hla : LightAll R len) (hsm : SmallR R len) (hsrc : a.src.size ≤ 100) (hdst : a.dst.size ≤ 100) (k0 : a0.eval (.tmp 0) = .slice ad len cap) (k3 : a0.eval (.tmp 3) = .pointer (some ⟨p3, 0, none⟩)) (k5 : a0.eval (.tmp 5) = .pointer (some ⟨p5, 0, none⟩)) : StepOk (md := .any) Try.prog ttR Q (ttA ad len cap R a) (Touch (fun _ => False)) (fun _ w => ttS p3 p5 w0 ad len cap R a w) a0 16 (ttR.getD 16 default) := by
  refine step_of (.inr ⟨8, 47, by kernel_rfl, by kernel_rfl, fun v w h => h⟩) (ttS_keep p3 p5 w0 ad len cap R a) (fun aF w hC hop => ?_)
  have h50 : (ttA ad len cap R a) 50 (aF.eval (.tmp 50)) w := hop.rd 50 11 (by kernel_rfl)
  replace h50 : aF.eval (.tmp 50) = .bool (accB R a len) := h50
  have h54 : (ttA ad len cap R a) 54 (aF.eval (.tmp 54)) w := hop.rd 54 15 (by kernel_rfl)
  replace h54 : aF.eval (.tmp 54) = .bool (accB R a len) := h54
  exact tw_bin .eql 4 4 (.tmp 50) (.tmp 54) (by kernel_rfl) (.bool (accB R a len)) (.bool (accB R a len)) (.bool true) h50 h54 (fun w => (show _ = Result.ok (.bool (accB R a len == accB R a len)) w from by kernel_rfl).trans (by simp)) (fun t ht => by have e : (ttR.getD 16 default).dst = some 55 := (by kernel_rfl); rw [e] at ht; cases ht; exact rfl)
set_option maxRecDepth 100000 in
theorem tt_17 (p3 p5 : Nat) (w0 : World) (ad : Option Addr) (len cap : Nat) (R : Nat → Rl) (a : Ak) (a0 : Act) (Q : Exit → Act → World → Prop) (hlc : len ≤ cap) (hcap : cap ≤ maxLen) (hcl : len ≤ 9223372036854775807) (h60 : len ≤ 60) (hla : LightAll R len) (hsm : SmallR R len) (hsrc : a.src.size ≤ 100) (hdst : a.dst.size ≤ 100) (k0 : a0.eval (.tmp 0) = .slice ad len cap) (k3 : a0.eval (.tmp 3) = .pointer (some ⟨p3, 0, none⟩)) (k5 : a0.eval (.tmp 5) = .pointer (some ⟨p5, 0, none⟩)) : StepOk (md := .any) Try.prog ttR Q (ttA ad len cap R a) (Touch (fun _ => False)) (fun _ w => ttS p3 p5 w0 ad len cap R a w) a0 17 (ttR.getD 17 default) := by
  refine step_of (.inl (by kernel_rfl)) (ttS_keep p3 p5 w0 ad len cap R a) (fun aF w hC hop => ?_)
  have h47 : (ttA ad len cap R a) 47 (aF.eval (.tmp 47)) w := hop.rd 47 8 (by kernel_rfl)
  replace h47 : aF.eval (.tmp 47) = .bool true := h47
  have h55 : (ttA ad len cap R a) 55 (aF.eval (.tmp 55)) w := hop.rd 55 16 (by kernel_rfl)
  replace h55 : aF.eval (.tmp 55) = .bool true := h55
  exact tw_pick (.tmp 47) (.tmp 55) (.const (.bool false)) (by kernel_rfl) true h47 (fun t ht => by have e : (ttR.getD 17 default).dst = some 56 := (by kernel_rfl); rw [e] at ht; cases ht; exact h55)
set_option maxRecDepth 100000 in
theorem tt_18 (p3 p5 : Nat) (w0 : World) (ad : Option Addr) (len cap : Nat) (R : Nat → Rl) (a : Ak) (a0 : Act) (Q : Exit → Act → World → Prop) (hlc : len ≤ cap) (hcap : cap ≤ maxLen) (hcl : len ≤ 9223372036854775807) (h60 : len ≤ 60) (hla : LightAll R len) (hsm : SmallR R len) (hsrc : a.src.size ≤ 100) (hdst : a.dst.size ≤ 100) (k0 : a0.eval (.tmp 0) = .slice ad len cap) (k3 : a0.eval (.tmp 3) = .pointer (some ⟨p3, 0, none⟩)) (k5 : a0.eval (.tmp 5) = .pointer (some ⟨p5, 0, none⟩)) : StepOk (md := .any) Try.prog ttR Q (ttA ad len cap R a) (Touch (fun _ => False)) (fun _ w => ttS p3 p5 w0 ad len cap R a w) a0 18 (ttR.getD 18 default) := by
  refine step_of (.inl (by kernel_rfl)) (ttS_keep p3 p5 w0 ad len cap R a) (fun aF w hC hop => ?_)
  have h56 : (ttA ad len cap R a) 56 (aF.eval (.tmp 56)) w := hop.rd 56 17 (by kernel_rfl)
  replace h56 : aF.eval (.tmp 56) = .bool true := h56
  exact tw_move (.tmp 56) (.inl (by kernel_rfl)) (fun t ht => by have e : (ttR.getD 18 default).dst = some 57 := (by kernel_rfl); rw [e] at ht; cases ht; exact h56)
set_option maxRecDepth 100000 in
theorem tt_19 (p3 p5 : Nat) (w0 : World) (ad : Option Addr) (len cap : Nat) (R : Nat → Rl) (a : Ak) (a0 : Act) (Q : Exit → Act → World → Prop) (hlc : len ≤ cap) (hcap : cap ≤ maxLen) (hcl : len ≤ 9223372036854775807) (h60 : len ≤ 60) (hla : LightAll R len) (hsm : SmallR R len) (hsrc : a.src.size ≤ 100) (hdst : a.dst.size ≤ 100) (k0 : a0.eval (.tmp 0) = .slice ad len cap) (k3 : a0.eval (.tmp 3) = .pointer (some ⟨p3, 0, none⟩)) (k5 : a0.eval (.tmp 5) = .pointer (some ⟨p5, 0, none⟩)) : StepOk (md := .any) Try.prog ttR Q (ttA ad len cap R a) (Touch (fun _ => False)) (fun _ w => ttS p3 p5 w0 ad len cap R a w) a0 19 (ttR.getD 19 default) := by
  refine step_of (.inr ⟨18, 57, by kernel_rfl, by kernel_rfl, fun v w h => h⟩) (ttS_keep p3 p5 w0 ad len cap R a) (fun aF w hC hop => ?_)
  have hv : (#[] : Array Operand).map aF.eval = #[] := by simp only [List.map_toArray, List.map_cons, List.map_nil]; first | done | rfl
  exact tw_call 9 #[] #[] (by kernel_rfl) #[] hv (fun w => by kernel_rfl) (Calls.mono (known_any w) (fun e w' hh => ⟨_, hh.1, (fun t ht => by have e : (ttR.getD 19 default).dst = some 58 := (by kernel_rfl); rw [e] at ht; cases ht; exact rfl), Touch.none hh.2⟩))
set_option maxRecDepth 100000 in
theorem tt_20 (p3 p5 : Nat) (w0 : World) (ad : Option Addr) (len cap : Nat) (R : Nat → Rl) (a : Ak) (a0 : Act) (Q : Exit → Act → World → Prop) (hlc : len ≤ cap) (hcap : cap ≤ maxLen) (hcl : len ≤ 9223372036854775807) (h60 : len ≤ 60) (hla : LightAll R len) (hsm : SmallR R len) (hsrc : a.src.size ≤ 100) (hdst : a.dst.size ≤ 100) (k0 : a0.eval (.tmp 0) = .slice ad len cap) (k3 : a0.eval (.tmp 3) = .pointer (some ⟨p3, 0, none⟩)) (k5 : a0.eval (.tmp 5) = .pointer (some ⟨p5, 0, none⟩)) : StepOk (md := .any) Try.prog ttR Q (ttA ad len cap R a) (Touch (fun _ => False)) (fun _ w => ttS p3 p5 w0 ad len cap R a w) a0 20 (ttR.getD 20 default) := by
  refine step_of (.inl (by kernel_rfl)) (ttS_keep p3 p5 w0 ad len cap R a) (fun aF w hC hop => ?_)
  have h57 : (ttA ad len cap R a) 57 (aF.eval (.tmp 57)) w := hop.rd 57 18 (by kernel_rfl)
  replace h57 : aF.eval (.tmp 57) = .bool true := h57
  have h58 : (ttA ad len cap R a) 58 (aF.eval (.tmp 58)) w := hop.rd 58 19 (by kernel_rfl)
  replace h58 : aF.eval (.tmp 58) = .bool true := h58
  exact tw_pick (.tmp 57) (.tmp 58) (.const (.bool false)) (by kernel_rfl) true h57 (fun t ht => by have e : (ttR.getD 20 default).dst = some 59 := (by kernel_rfl); rw [e] at ht; cases ht; exact h58)
set_option maxRecDepth 100000 in
theorem tt_21 (p3 p5 : Nat) (w0 : World) (ad : Option Addr) (len cap : Nat) (R : Nat → Rl) (a : Ak) (a0 : Act) (Q : Exit → Act → World → Prop) (hlc : len ≤ cap) (hcap : cap ≤ maxLen) (hcl : len ≤ 9223372036854775807) (h60 : len ≤ 60) (hla : LightAll R len) (hsm : SmallR R len) (hsrc : a.src.size ≤ 100) (hdst : a.dst.size ≤ 100) (k0 : a0.eval (.tmp 0) = .slice ad len cap) (k3 : a0.eval (.tmp 3) = .pointer (some ⟨p3, 0, none⟩)) (k5 : a0.eval (.tmp 5) = .pointer (some ⟨p5, 0, none⟩)) : StepOk (md := .any) Try.prog ttR Q (ttA ad len cap R a) (Touch (fun _ => False)) (fun _ w => ttS p3 p5 w0 ad len cap R a w) a0 21 (ttR.getD 21 default) := by
  refine step_of (.inl (by kernel_rfl)) (ttS_keep p3 p5 w0 ad len cap R a) (fun aF w hC hop => ?_)
  have h59 : (ttA ad len cap R a) 59 (aF.eval (.tmp 59)) w := hop.rd 59 20 (by kernel_rfl)
  replace h59 : aF.eval (.tmp 59) = .bool true := h59
  exact tw_move (.tmp 59) (.inr (by kernel_rfl)) (fun t ht => by have e : (ttR.getD 21 default).dst = some 4 := (by kernel_rfl); rw [e] at ht; cases ht; exact h59)
set_option maxRecDepth 100000 in
theorem tt_all (p3 p5 : Nat) (w0 : World) (ad : Option Addr) (len cap : Nat) (R : Nat → Rl) (a : Ak) (a0 : Act) (Q : Exit → Act → World → Prop) (hlc : len ≤ cap) (hcap : cap ≤ maxLen) (hcl : len ≤ 9223372036854775807) (h60 : len ≤ 60) (hla : LightAll R len) (hsm : SmallR R len) (hsrc : a.src.size ≤ 100) (hdst : a.dst.size ≤ 100) (k0 : a0.eval (.tmp 0) = .slice ad len cap) (k3 : a0.eval (.tmp 3) = .pointer (some ⟨p3, 0, none⟩)) (k5 : a0.eval (.tmp 5) = .pointer (some ⟨p5, 0, none⟩)) : ∀ i, i < 22 → StepOk (md := .any) Try.prog ttR Q (ttA ad len cap R a) (Touch (fun _ => False)) (fun _ w => ttS p3 p5 w0 ad len cap R a w) a0 i (ttR.getD i default)
  | 0, _ => tt_0 p3 p5 w0 ad len cap R a a0 Q hlc hcap hcl h60 hla hsm hsrc hdst k0 k3 k5
  | 1, _ => tt_1 p3 p5 w0 ad len cap R a a0 Q hlc hcap hcl h60 hla hsm hsrc hdst k0 k3 k5
  | 2, _ => tt_2 p3 p5 w0 ad len cap R a a0 Q hlc hcap hcl h60 hla hsm hsrc hdst k0 k3 k5
  | 3, _ => tt_3 p3 p5 w0 ad len cap R a a0 Q hlc hcap hcl h60 hla hsm hsrc hdst k0 k3 k5
  | 4, _ => tt_4 p3 p5 w0 ad len cap R a a0 Q hlc hcap hcl h60 hla hsm hsrc hdst k0 k3 k5
  | 5, _ => tt_5 p3 p5 w0 ad len cap R a a0 Q hlc hcap hcl h60 hla hsm hsrc hdst k0 k3 k5
  | 6, _ => tt_6 p3 p5 w0 ad len cap R a a0 Q hlc hcap hcl h60 hla hsm hsrc hdst k0 k3 k5
  | 7, _ => tt_7 p3 p5 w0 ad len cap R a a0 Q hlc hcap hcl h60 hla hsm hsrc hdst k0 k3 k5
  | 8, _ => tt_8 p3 p5 w0 ad len cap R a a0 Q hlc hcap hcl h60 hla hsm hsrc hdst k0 k3 k5
  | 9, _ => tt_9 p3 p5 w0 ad len cap R a a0 Q hlc hcap hcl h60 hla hsm hsrc hdst k0 k3 k5
  | 10, _ => tt_10 p3 p5 w0 ad len cap R a a0 Q hlc hcap hcl h60 hla hsm hsrc hdst k0 k3 k5
  | 11, _ => tt_11 p3 p5 w0 ad len cap R a a0 Q hlc hcap hcl h60 hla hsm hsrc hdst k0 k3 k5
  | 12, _ => tt_12 p3 p5 w0 ad len cap R a a0 Q hlc hcap hcl h60 hla hsm hsrc hdst k0 k3 k5
  | 13, _ => tt_13 p3 p5 w0 ad len cap R a a0 Q hlc hcap hcl h60 hla hsm hsrc hdst k0 k3 k5
  | 14, _ => tt_14 p3 p5 w0 ad len cap R a a0 Q hlc hcap hcl h60 hla hsm hsrc hdst k0 k3 k5
  | 15, _ => tt_15 p3 p5 w0 ad len cap R a a0 Q hlc hcap hcl h60 hla hsm hsrc hdst k0 k3 k5
  | 16, _ => tt_16 p3 p5 w0 ad len cap R a a0 Q hlc hcap hcl h60 hla hsm hsrc hdst k0 k3 k5
  | 17, _ => tt_17 p3 p5 w0 ad len cap R a a0 Q hlc hcap hcl h60 hla hsm hsrc hdst k0 k3 k5
  | 18, _ => tt_18 p3 p5 w0 ad len cap R a a0 Q hlc hcap hcl h60 hla hsm hsrc hdst k0 k3 k5
  | 19, _ => tt_19 p3 p5 w0 ad len cap R a a0 Q hlc hcap hcl h60 hla hsm hsrc hdst k0 k3 k5
  | 20, _ => tt_20 p3 p5 w0 ad len cap R a a0 Q hlc hcap hcl h60 hla hsm hsrc hdst k0 k3 k5
  | 21, _ => tt_21 p3 p5 w0 ad len cap R a a0 Q hlc hcap hcl h60 hla hsm hsrc hdst k0 k3 k5
  | k + 22, h => absurd h (by omega)
set_option maxRecDepth 100000 in
set_option maxHeartbeats 4000000 in
theorem tells_light (ad : Option Addr) (len cap : Nat) (R : Nat → Rl) (a : Ak) (w : World) (hR : RulesAt w ad len R) (hlc : len ≤ cap) (hcap : cap ≤ maxLen) (hcl : len ≤ 9223372036854775807) (hl : lightB R len a = true) (h60 : len ≤ 60) (hla : LightAll R len) (hsm : SmallR R len) (hsrc : a.src.size ≤ 100) (hdst : a.dst.size ≤ 100) :
    Calls Try.prog 3 #[.slice ad len cap, .agg a.cs.toArray] w fun e w' => e = .returned (.bool true) ∧ Below w.heap.size w w' := by
  have hT0 := Touch.refl (fun _ => False) w
  go_enter Try.func3, Try.ntmps3
  refine wp_seq_k fun K1 hK1 => ?_
  refine wl_region ?_
  refine dw_new (by kernel_rfl) [(.string a.src : Value), .string a.dst, .int .i64 a.from_, .int .i64 a.to_, .int .u32 a.seq, .int .u32 a.ack, .int .i64 a.flags, .int .i64 a.win, .int .i64 a.urg, .int .i64 a.mss, .int .i64 a.scale, .bool (a.sack), .slice a.ba a.bn a.bc, .bool (a.timed), .int .u32 a.time, .int .u32 a.echo, .string a.data, .int .i64 a.side, .int .i64 a.class_] 34 (by kernel_rfl) ?_
  intro n1 w2 hnn1 hsn1 hBn1 hTn1
  have hgen1 : w.heap.size ≤ n1 := by have := hT0.size; omega
  replace hT0 := hT0.trans hTn1 (fun _ _ h => h.elim)
  simp only [Act.put, List.setIfInBounds_toArray, List.set_cons_zero, List.set_cons_succ]
  refine dw_val (by kernel_rfl) (.bool false) (by kernel_rfl) ?_
  simp only [Act.put, List.setIfInBounds_toArray, List.set_cons_zero, List.set_cons_succ]
  refine wl_nil ?_
  refine hK1 _ _ ?_
  refine wp_seq_k fun K2 hK2 => ?_
  refine wp_seq_k fun K3 hK3 => ?_
  refine wl_region ?_
  refine dw_val (by kernel_rfl) (.slice ad len cap) (by kernel_rfl) ?_
  simp only [Act.put, List.setIfInBounds_toArray, List.set_cons_zero, List.set_cons_succ]
  refine dw_row (by kernel_rfl) 34 (.tmp 3) rfl n1 0 rfl _ _ hBn1 [(.string a.src : Value), .string a.dst, .int .i64 a.from_, .int .i64 a.to_, .int .u32 a.seq, .int .u32 a.ack, .int .i64 a.flags, .int .i64 a.win, .int .i64 a.urg, .int .i64 a.mss, .int .i64 a.scale, .bool (a.sack), .slice a.ba a.bn a.bc, .bool (a.timed), .int .u32 a.time, .int .u32 a.echo, .string a.data, .int .i64 a.side, .int .i64 a.class_] rfl _ Try.underlying34 rfl (by kernel_rfl) ?_
  simp only [Act.put, List.setIfInBounds_toArray, List.set_cons_zero, List.set_cons_succ]
  refine dw_ret (by kernel_rfl) 8 #[(.slice ad len cap : Value), .agg #[(.string a.src : Value), .string a.dst, .int .i64 a.from_, .int .i64 a.to_, .int .u32 a.seq, .int .u32 a.ack, .int .i64 a.flags, .int .i64 a.win, .int .i64 a.urg, .int .i64 a.mss, .int .i64 a.scale, .bool (a.sack), .slice a.ba a.bn a.bc, .bool (a.timed), .int .u32 a.time, .int .u32 a.echo, .string a.data, .int .i64 a.side, .int .i64 a.class_]] (by kernel_rfl) (light_any ad len cap R a w2 (hR.keep hT0) hcl) ?_
  intro w3 hb
  have ht4 : Touch (fun _ => False) w2 w3 := Touch.none hb
  replace hBn1 := hBn1.keep ht4 (fun h => h)
  replace hT0 := hT0.trans ht4 (fun _ _ h => h.elim)
  clear hb
  simp only [Act.put, List.setIfInBounds_toArray, List.set_cons_zero, List.set_cons_succ]
  refine dw_bool (by kernel_rfl) (!(lightB R len a)) (by kernel_rfl) (fun hc => absurd hc (by simp [hl])) (fun hc => ?_)
  simp only [Act.put, List.setIfInBounds_toArray, List.set_cons_zero, List.set_cons_succ]
  refine wl_nil ?_
  refine hK3 _ _ ?_
  refine wp_cond_false rfl ?_
  refine wp_skip ?_
  refine hK2 _ _ ?_
  refine wp_seq_k fun K4 hK4 => ?_
  refine wl_region ?_
  refine dw_val (by kernel_rfl) (.pointer (some ⟨n1, 0, none⟩)) (by kernel_rfl) ?_
  simp only [Act.put, List.setIfInBounds_toArray, List.set_cons_zero, List.set_cons_succ]
  refine dw_row (by kernel_rfl) 32 (.tmp 12) rfl n1 0 rfl _ _ hBn1 [(.string a.src : Value), .string a.dst, .int .i64 a.from_, .int .i64 a.to_, .int .u32 a.seq, .int .u32 a.ack, .int .i64 a.flags, .int .i64 a.win, .int .i64 a.urg, .int .i64 a.mss, .int .i64 a.scale, .bool (a.sack), .slice a.ba a.bn a.bc, .bool (a.timed), .int .u32 a.time, .int .u32 a.echo, .string a.data] rfl _ Try.underlying32 rfl (by kernel_rfl) ?_
  simp only [Act.put, List.setIfInBounds_toArray, List.set_cons_zero, List.set_cons_succ]
  refine dw_val (by kernel_rfl) (.pointer (some ⟨n1, 17, none⟩)) (by kernel_rfl) ?_
  simp only [Act.put, List.setIfInBounds_toArray, List.set_cons_zero, List.set_cons_succ]
  refine dw_cell (by kernel_rfl) 3 (.tmp 14) rfl n1 17 rfl _ _ hBn1 (.int .i64 a.side) rfl _ Try.underlying3 rfl ?_
  simp only [Act.put, List.setIfInBounds_toArray, List.set_cons_zero, List.set_cons_succ]
  refine dw_val (by kernel_rfl) (.pointer (some ⟨n1, 18, none⟩)) (by kernel_rfl) ?_
  simp only [Act.put, List.setIfInBounds_toArray, List.set_cons_zero, List.set_cons_succ]
  refine dw_cell (by kernel_rfl) 3 (.tmp 16) rfl n1 18 rfl _ _ hBn1 (.int .i64 a.class_) rfl _ Try.underlying3 rfl ?_
  simp only [Act.put, List.setIfInBounds_toArray, List.set_cons_zero, List.set_cons_succ]
  refine dw_val (by kernel_rfl) (.agg #[(.string a.src : Value), .string a.dst, .int .i64 a.from_, .int .i64 a.to_, .int .u32 a.seq, .int .u32 a.ack, .int .i64 a.flags, .int .i64 a.win, .int .i64 a.urg, .int .i64 a.mss, .int .i64 a.scale, .bool (a.sack), .slice a.ba a.bn a.bc, .bool (a.timed), .int .u32 a.time, .int .u32 a.echo, .string a.data, .int .i64 a.side, .int .i64 a.class_]) (by kernel_rfl) ?_
  simp only [Act.put, List.setIfInBounds_toArray, List.set_cons_zero, List.set_cons_succ]
  refine dw_new (by kernel_rfl) [(.string ⟨#[]⟩ : Value), .string ⟨#[]⟩, .int .i64 0, .int .i64 0, .int .u32 0, .int .u32 0, .int .i64 0, .int .i64 0, .int .i64 0, .int .i64 0, .int .i64 0, .bool false, .slice none 0 0, .bool false, .int .u32 0, .int .u32 0, .string ⟨#[]⟩, .int .i64 0, .int .i64 0] 37 (by kernel_rfl) ?_
  intro n5 w6 hnn5 hsn5 hBn5 hTn5
  have hnen1n5 : n1 ≠ n5 := by have := hBn1.lt; omega
  have hgen5 : w.heap.size ≤ n5 := by have := hT0.size; omega
  replace hBn1 := hBn1.keep hTn5 (fun h => h)
  replace hT0 := hT0.trans hTn5 (fun _ _ h => h.elim)
  simp only [Act.put, List.setIfInBounds_toArray, List.set_cons_zero, List.set_cons_succ]
  refine dw_put (by kernel_rfl) 37 (.tmp 5) (.tmp 18) rfl n5 0 rfl (.agg #[(.string a.src : Value), .string a.dst, .int .i64 a.from_, .int .i64 a.to_, .int .u32 a.seq, .int .u32 a.ack, .int .i64 a.flags, .int .i64 a.win, .int .i64 a.urg, .int .i64 a.mss, .int .i64 a.scale, .bool (a.sack), .slice a.ba a.bn a.bc, .bool (a.timed), .int .u32 a.time, .int .u32 a.echo, .string a.data, .int .i64 a.side, .int .i64 a.class_]) rfl _ _ hBn5 [(.string a.src : Value), .string a.dst, .int .i64 a.from_, .int .i64 a.to_, .int .u32 a.seq, .int .u32 a.ack, .int .i64 a.flags, .int .i64 a.win, .int .i64 a.urg, .int .i64 a.mss, .int .i64 a.scale, .bool (a.sack), .slice a.ba a.bn a.bc, .bool (a.timed), .int .u32 a.time, .int .u32 a.echo, .string a.data, .int .i64 a.side, .int .i64 a.class_] rfl (Nat.le_of_ble_eq_true rfl) (by kernel_rfl) (by kernel_rfl) [(.string a.src : Value), .string a.dst, .int .i64 a.from_, .int .i64 a.to_, .int .u32 a.seq, .int .u32 a.ack, .int .i64 a.flags, .int .i64 a.win, .int .i64 a.urg, .int .i64 a.mss, .int .i64 a.scale, .bool (a.sack), .slice a.ba a.bn a.bc, .bool (a.timed), .int .u32 a.time, .int .u32 a.echo, .string a.data, .int .i64 a.side, .int .i64 a.class_] rfl ?_
  intro w7 hBw7_ hTw7 hSw7
  replace hBn1 := hBn1.keep hTw7 (by intro h; omega)
  replace hT0 := hT0.trans hTw7 (fun i hi h => by first | omega | (subst h; omega) | exact h | exact .inl h | exact .inr h)
  clear hBn5
  have hBn5 := hBw7_
  clear hBw7_
  simp only [Act.put]
  refine wl_nil ?_
  refine hK4 _ _ ?_
  refine wp_seq_k fun K5 hK5 => ?_
  refine wp_seq_k fun K6 hK6 => ?_
  refine wl_region ?_
  refine dw_val (by kernel_rfl) (.int .i64 0) (by kernel_rfl) ?_
  simp only [Act.put, List.setIfInBounds_toArray, List.set_cons_zero, List.set_cons_succ]
  refine wl_nil ?_
  refine hK6 _ _ ?_
  refine wp_block ?_
  refine wp_loop (fun (aL : Act) (wL : World) => ∃ (k : Nat), ∃ (u19_0 u20_0 u21_0 u22_0 u25_0 u26_0 u27_0 u28_0 u29_0 u30_0 u31_0 u32_0 u33_0 u34_0 u35_0 u36_0 u37_0 u38_0 u4_0 u23_0 u24_0 : Value), (k ≤ len) ∧ Blk wL n1 [(.string a.src : Value), .string a.dst, .int .i64 a.from_, .int .i64 a.to_, .int .u32 a.seq, .int .u32 a.ack, .int .i64 a.flags, .int .i64 a.win, .int .i64 a.urg, .int .i64 a.mss, .int .i64 a.scale, .bool (a.sack), .slice a.ba a.bn a.bc, .bool (a.timed), .int .u32 a.time, .int .u32 a.echo, .string a.data, .int .i64 a.side, .int .i64 a.class_] 34 ∧ Blk wL n5 [(.string a.src : Value), .string a.dst, .int .i64 a.from_, .int .i64 a.to_, .int .u32 a.seq, .int .u32 a.ack, .int .i64 a.flags, .int .i64 a.win, .int .i64 a.urg, .int .i64 a.mss, .int .i64 a.scale, .bool (a.sack), .slice a.ba a.bn a.bc, .bool (a.timed), .int .u32 a.time, .int .u32 a.echo, .string a.data, .int .i64 a.side, .int .i64 a.class_] 37 ∧ Touch (fun _ => False) w wL ∧ aL = ⟨#[(.slice ad len cap : Value), .agg #[(.string a.src : Value), .string a.dst, .int .i64 a.from_, .int .i64 a.to_, .int .u32 a.seq, .int .u32 a.ack, .int .i64 a.flags, .int .i64 a.win, .int .i64 a.urg, .int .i64 a.mss, .int .i64 a.scale, .bool (a.sack), .slice a.ba a.bn a.bc, .bool (a.timed), .int .u32 a.time, .int .u32 a.echo, .string a.data, .int .i64 a.side, .int .i64 a.class_], undef, .pointer (some ⟨n1, 0, none⟩), u4_0, .pointer (some ⟨n5, 0, none⟩), .int .i64 (k : Int), .slice ad len cap, .agg #[(.string a.src : Value), .string a.dst, .int .i64 a.from_, .int .i64 a.to_, .int .u32 a.seq, .int .u32 a.ack, .int .i64 a.flags, .int .i64 a.win, .int .i64 a.urg, .int .i64 a.mss, .int .i64 a.scale, .bool (a.sack), .slice a.ba a.bn a.bc, .bool (a.timed), .int .u32 a.time, .int .u32 a.echo, .string a.data, .int .i64 a.side, .int .i64 a.class_], .bool (lightB R len a), .bool false, undef, .pointer (some ⟨n1, 0, none⟩), .agg #[(.string a.src : Value), .string a.dst, .int .i64 a.from_, .int .i64 a.to_, .int .u32 a.seq, .int .u32 a.ack, .int .i64 a.flags, .int .i64 a.win, .int .i64 a.urg, .int .i64 a.mss, .int .i64 a.scale, .bool (a.sack), .slice a.ba a.bn a.bc, .bool (a.timed), .int .u32 a.time, .int .u32 a.echo, .string a.data], .pointer (some ⟨n1, 17, none⟩), .int .i64 a.side, .pointer (some ⟨n1, 18, none⟩), .int .i64 a.class_, .agg #[(.string a.src : Value), .string a.dst, .int .i64 a.from_, .int .i64 a.to_, .int .u32 a.seq, .int .u32 a.ack, .int .i64 a.flags, .int .i64 a.win, .int .i64 a.urg, .int .i64 a.mss, .int .i64 a.scale, .bool (a.sack), .slice a.ba a.bn a.bc, .bool (a.timed), .int .u32 a.time, .int .u32 a.echo, .string a.data, .int .i64 a.side, .int .i64 a.class_], u19_0, u20_0, u21_0, u22_0, u23_0, u24_0, u25_0, u26_0, u27_0, u28_0, u29_0, u30_0, u31_0, u32_0, u33_0, u34_0, u35_0, u36_0, u37_0, u38_0, undef, undef, undef, undef, undef, undef, undef, undef, undef, undef, undef, undef, undef, undef, undef, undef, undef, undef, undef, undef, undef], []⟩) (fun (aL : Act) (wL : World) => len - (intOf (aL.tmps.getD 6 undef)).toNat) ?_ ?_
  · exact ⟨0, undef, undef, undef, undef, undef, undef, undef, undef, undef, undef, undef, undef, undef, undef, undef, undef, undef, undef, (.bool false), undef, undef, (Nat.zero_le _), hBn1, hBn5, hT0, rfl⟩
  · intro aL w8 hI
    clear hBn1 hBn5 hT0
    obtain ⟨k, u19_0, u20_0, u21_0, u22_0, u25_0, u26_0, u27_0, u28_0, u29_0, u30_0, u31_0, u32_0, u33_0, u34_0, u35_0, u36_0, u37_0, u38_0, u4_0, u23_0, u24_0, hk, hBn1, hBn5, hT0, rfl⟩ := hI
    by_cases hlt : k < len
    · obtain ⟨b, off, hab, hbs, -⟩ := hR k hlt
      subst hab
      have hf := lightR_facts (hla k hlt)
      refine wp_seq_k fun K7 hK7 => ?_
      refine wp_seq_k fun K8 hK8 => ?_
      refine wl_region ?_
      refine dw_val (by kernel_rfl) (.int .i64 (k : Int)) (by kernel_rfl) ?_
      simp only [Act.put, List.setIfInBounds_toArray, List.set_cons_zero, List.set_cons_succ]
      refine dw_val (by kernel_rfl) (.slice (some ⟨b, off, none⟩) len cap) (by kernel_rfl) ?_
      simp only [Act.put, List.setIfInBounds_toArray, List.set_cons_zero, List.set_cons_succ]
      refine dw_val (by kernel_rfl) (.int .i64 (len : Int)) (by kernel_rfl) ?_
      simp only [Act.put, List.setIfInBounds_toArray, List.set_cons_zero, List.set_cons_succ]
      refine dw_bool (by kernel_rfl) (decide ((k : Int) < (len : Int))) (by kernel_rfl) (fun hc => ?_) (fun hc => absurd hc (by simp; omega))
      simp only [Act.put, List.setIfInBounds_toArray, List.set_cons_zero, List.set_cons_succ]
      refine wl_nil ?_
      refine hK8 _ _ ?_
      refine wp_cond_true rfl ?_
      refine wp_skip ?_
      refine hK7 _ _ ?_
      refine wp_seq_k fun K9 hK9 => ?_
      refine wp_block ?_
      refine wp_seq_k fun K10 hK10 => ?_
      refine wq_region (Touch (fun _ => False) w8) (by kernel_rfl) (by kernel_rfl) (Touch.refl _ _).drew ?_
      refine dq_val (by kernel_rfl) (.slice (some ⟨b, off, none⟩) len cap) (fun w' _ => by kernel_rfl) ?_
      simp only [Act.put, List.setIfInBounds_toArray, List.set_cons_zero, List.set_cons_succ]
      refine dq_val (by kernel_rfl) (.int .i64 (k : Int)) (fun w' _ => by kernel_rfl) ?_
      simp only [Act.put, List.setIfInBounds_toArray, List.set_cons_zero, List.set_cons_succ]
      refine dq_val (by kernel_rfl) (.pointer (some ⟨b, off + k * 13, none⟩)) (fun w' _ => ev_index 22 43 (.tmp 25) (.tmp 26) rfl b off len cap k 13 .i64 rfl rfl hlt Try.underlying22 (by kernel_rfl) (off + k * 13) (by omega)) ?_
      simp only [Act.put, List.setIfInBounds_toArray, List.set_cons_zero, List.set_cons_succ]
      refine dq_val (by kernel_rfl) (.agg #[(.bool ((R k).acc) : Value), .int .i64 ((R k).side), .string ((R k).fb), .int .i64 ((R k).fn), .string ((R k).tb), .int .i64 ((R k).tn), .int .i64 ((R k).s0), .int .i64 ((R k).s1), .int .i64 ((R k).d0), .int .i64 ((R k).d1), .int .i64 ((R k).mask), .int .i64 ((R k).flags), .int .i64 ((R k).classes)]) (fun w' hC => ev_row 43 (.tmp 27) rfl b (off + k * 13) rfl (R k).cs (rules_range ((hR.keep hT0).keep hC) hlt) _ Try.underlying43 rfl (by kernel_rfl)) ?_
      simp only [Act.put, List.setIfInBounds_toArray, List.set_cons_zero, List.set_cons_succ]
      refine dq_val (by kernel_rfl) (.agg #[(.string a.src : Value), .string a.dst, .int .i64 a.from_, .int .i64 a.to_, .int .u32 a.seq, .int .u32 a.ack, .int .i64 a.flags, .int .i64 a.win, .int .i64 a.urg, .int .i64 a.mss, .int .i64 a.scale, .bool (a.sack), .slice a.ba a.bn a.bc, .bool (a.timed), .int .u32 a.time, .int .u32 a.echo, .string a.data, .int .i64 a.side, .int .i64 a.class_]) (fun w' hC => ev_row 34 (.tmp 3) rfl n1 0 rfl [(.string a.src : Value), .string a.dst, .int .i64 a.from_, .int .i64 a.to_, .int .u32 a.seq, .int .u32 a.ack, .int .i64 a.flags, .int .i64 a.win, .int .i64 a.urg, .int .i64 a.mss, .int .i64 a.scale, .bool (a.sack), .slice a.ba a.bn a.bc, .bool (a.timed), .int .u32 a.time, .int .u32 a.echo, .string a.data, .int .i64 a.side, .int .i64 a.class_] ((hBn1.keep hC (fun h => h)).range rfl) _ Try.underlying34 rfl (by kernel_rfl)) ?_
      simp only [Act.put, List.setIfInBounds_toArray, List.set_cons_zero, List.set_cons_succ]
      refine dq_ret (by kernel_rfl) 10 #[(.agg #[(.bool ((R k).acc) : Value), .int .i64 ((R k).side), .string ((R k).fb), .int .i64 ((R k).fn), .string ((R k).tb), .int .i64 ((R k).tn), .int .i64 ((R k).s0), .int .i64 ((R k).s1), .int .i64 ((R k).d0), .int .i64 ((R k).d1), .int .i64 ((R k).mask), .int .i64 ((R k).flags), .int .i64 ((R k).classes)] : Value), .agg #[(.string a.src : Value), .string a.dst, .int .i64 a.from_, .int .i64 a.to_, .int .u32 a.seq, .int .u32 a.ack, .int .i64 a.flags, .int .i64 a.win, .int .i64 a.urg, .int .i64 a.mss, .int .i64 a.scale, .bool (a.sack), .slice a.ba a.bn a.bc, .bool (a.timed), .int .u32 a.time, .int .u32 a.echo, .string a.data, .int .i64 a.side, .int .i64 a.class_]] (fun w' _ => by kernel_rfl) (fun w' hC => one_any (R k) a (hsm k hlt).1 (hsm k hlt).2 hsrc hdst w') (fun w1 w2 hC hb => hC.trans (Touch.none hb) (fun _ _ h => h)) ?_
      simp only [Act.put, List.setIfInBounds_toArray, List.set_cons_zero, List.set_cons_succ]
      refine dq_val (by kernel_rfl) (.slice (some ⟨b, off, none⟩) len cap) (fun w' _ => by kernel_rfl) ?_
      simp only [Act.put, List.setIfInBounds_toArray, List.set_cons_zero, List.set_cons_succ]
      refine dq_val (by kernel_rfl) (.int .i64 (k : Int)) (fun w' _ => by kernel_rfl) ?_
      simp only [Act.put, List.setIfInBounds_toArray, List.set_cons_zero, List.set_cons_succ]
      refine dq_val (by kernel_rfl) (.pointer (some ⟨b, off + k * 13, none⟩)) (fun w' _ => ev_index 22 43 (.tmp 31) (.tmp 32) rfl b off len cap k 13 .i64 rfl rfl hlt Try.underlying22 (by kernel_rfl) (off + k * 13) (by omega)) ?_
      simp only [Act.put, List.setIfInBounds_toArray, List.set_cons_zero, List.set_cons_succ]
      refine dq_val (by kernel_rfl) (.agg #[(.bool ((R k).acc) : Value), .int .i64 ((R k).side), .string ((R k).fb), .int .i64 ((R k).fn), .string ((R k).tb), .int .i64 ((R k).tn), .int .i64 ((R k).s0), .int .i64 ((R k).s1), .int .i64 ((R k).d0), .int .i64 ((R k).d1), .int .i64 ((R k).mask), .int .i64 ((R k).flags), .int .i64 ((R k).classes)]) (fun w' hC => ev_row 43 (.tmp 33) rfl b (off + k * 13) rfl (R k).cs (rules_range ((hR.keep hT0).keep hC) hlt) _ Try.underlying43 rfl (by kernel_rfl)) ?_
      simp only [Act.put, List.setIfInBounds_toArray, List.set_cons_zero, List.set_cons_succ]
      refine dq_ret (by kernel_rfl) 12 #[(.agg #[(.bool ((R k).acc) : Value), .int .i64 ((R k).side), .string ((R k).fb), .int .i64 ((R k).fn), .string ((R k).tb), .int .i64 ((R k).tn), .int .i64 ((R k).s0), .int .i64 ((R k).s1), .int .i64 ((R k).d0), .int .i64 ((R k).d1), .int .i64 ((R k).mask), .int .i64 ((R k).flags), .int .i64 ((R k).classes)] : Value)] (fun w' _ => by kernel_rfl) (fun w' hC => plain_any (R k) w') (fun w1 w2 hC hb => hC.trans (Touch.none hb) (fun _ _ h => h)) ?_
      simp only [Act.put, List.setIfInBounds_toArray, List.set_cons_zero, List.set_cons_succ]
      refine dq_val (by kernel_rfl) (.agg #[(.string a.src : Value), .string a.dst, .int .i64 a.from_, .int .i64 a.to_, .int .u32 a.seq, .int .u32 a.ack, .int .i64 a.flags, .int .i64 a.win, .int .i64 a.urg, .int .i64 a.mss, .int .i64 a.scale, .bool (a.sack), .slice a.ba a.bn a.bc, .bool (a.timed), .int .u32 a.time, .int .u32 a.echo, .string a.data, .int .i64 a.side, .int .i64 a.class_]) (fun w' hC => ev_row 37 (.tmp 5) rfl n5 0 rfl [(.string a.src : Value), .string a.dst, .int .i64 a.from_, .int .i64 a.to_, .int .u32 a.seq, .int .u32 a.ack, .int .i64 a.flags, .int .i64 a.win, .int .i64 a.urg, .int .i64 a.mss, .int .i64 a.scale, .bool (a.sack), .slice a.ba a.bn a.bc, .bool (a.timed), .int .u32 a.time, .int .u32 a.echo, .string a.data, .int .i64 a.side, .int .i64 a.class_] ((hBn5.keep hC (fun h => h)).range rfl) _ Try.underlying37 rfl (by kernel_rfl)) ?_
      simp only [Act.put, List.setIfInBounds_toArray, List.set_cons_zero, List.set_cons_succ]
      refine dq_ret (by kernel_rfl) 11 #[(.agg #[(.bool ((R k).acc) : Value), .int .i64 ((R k).side), .string ((R k).fb), .int .i64 ((R k).fn), .string ((R k).tb), .int .i64 ((R k).tn), .int .i64 ((R k).s0), .int .i64 ((R k).s1), .int .i64 ((R k).d0), .int .i64 ((R k).d1), .int .i64 ((R k).mask), .int .i64 ((R k).flags), .int .i64 ((R k).classes)] : Value), .agg #[(.string a.src : Value), .string a.dst, .int .i64 a.from_, .int .i64 a.to_, .int .u32 a.seq, .int .u32 a.ack, .int .i64 a.flags, .int .i64 a.win, .int .i64 a.urg, .int .i64 a.mss, .int .i64 a.scale, .bool (a.sack), .slice a.ba a.bn a.bc, .bool (a.timed), .int .u32 a.time, .int .u32 a.echo, .string a.data, .int .i64 a.side, .int .i64 a.class_]] (fun w' _ => by kernel_rfl) (fun w' hC => rone_any (R k) a hf.2.2.1 hf.2.2.2 hf.1 hf.2.1 hsrc hdst w') (fun w1 w2 hC hb => hC.trans (Touch.none hb) (fun _ _ h => h)) ?_
      simp only [Act.put, List.setIfInBounds_toArray, List.set_cons_zero, List.set_cons_succ]
      refine dq_bool (by kernel_rfl) ((oneB (R k) a) != (oneB (R k) a)) (fun w' _ => by kernel_rfl) (fun hc => absurd hc (by simp)) (fun hc => ?_)
      simp only [Act.put, List.setIfInBounds_toArray, List.set_cons_zero, List.set_cons_succ]
      refine wq_nil ?_
      intro w9 hT10
      replace hBn1 := hBn1.keep hT10 (fun h => h)
      replace hBn5 := hBn5.keep hT10 (fun h => h)
      replace hT0 := hT0.trans hT10 (fun _ _ h => h.elim)
      refine hK10 _ _ ?_
      refine wp_cond_false rfl ?_
      refine wp_skip ?_
      refine hK9 _ _ ?_
      refine wl_region ?_
      refine dw_val (by kernel_rfl) (.int .i64 (k : Int)) (by kernel_rfl) ?_
      simp only [Act.put, List.setIfInBounds_toArray, List.set_cons_zero, List.set_cons_succ]
      refine dw_val2 (by kernel_rfl) (.int .i64 (IntKind.i64.wrap ((k : Int) + 1))) (.int .i64 ((k + 1 : Nat) : Int)) (by kernel_rfl) (by rw [show IntKind.i64.wrap ((k : Int) + 1) = ((k + 1 : Nat) : Int) from by rw [IntWalk.i64_in _ (by omega)]; rfl]) ?_
      simp only [Act.put, List.setIfInBounds_toArray, List.set_cons_zero, List.set_cons_succ]
      refine dw_val (by kernel_rfl) (.int .i64 ((k + 1 : Nat) : Int)) (by kernel_rfl) ?_
      simp only [Act.put, List.setIfInBounds_toArray, List.set_cons_zero, List.set_cons_succ]
      refine wl_nil ?_
      refine then_normal ?_
      refine ⟨⟨(k + 1), (.int .i64 (k : Int)), (.slice (some ⟨b, off, none⟩) len cap), (.int .i64 (len : Int)), (.bool true), (.slice (some ⟨b, off, none⟩) len cap), (.int .i64 (k : Int)), (.pointer (some ⟨b, off + k * 13, none⟩)), (.agg #[(.bool ((R k).acc) : Value), .int .i64 ((R k).side), .string ((R k).fb), .int .i64 ((R k).fn), .string ((R k).tb), .int .i64 ((R k).tn), .int .i64 ((R k).s0), .int .i64 ((R k).s1), .int .i64 ((R k).d0), .int .i64 ((R k).d1), .int .i64 ((R k).mask), .int .i64 ((R k).flags), .int .i64 ((R k).classes)]), (.agg #[(.string a.src : Value), .string a.dst, .int .i64 a.from_, .int .i64 a.to_, .int .u32 a.seq, .int .u32 a.ack, .int .i64 a.flags, .int .i64 a.win, .int .i64 a.urg, .int .i64 a.mss, .int .i64 a.scale, .bool (a.sack), .slice a.ba a.bn a.bc, .bool (a.timed), .int .u32 a.time, .int .u32 a.echo, .string a.data, .int .i64 a.side, .int .i64 a.class_]), (.bool (oneB (R k) a)), (.slice (some ⟨b, off, none⟩) len cap), (.int .i64 (k : Int)), (.pointer (some ⟨b, off + k * 13, none⟩)), (.agg #[(.bool ((R k).acc) : Value), .int .i64 ((R k).side), .string ((R k).fb), .int .i64 ((R k).fn), .string ((R k).tb), .int .i64 ((R k).tn), .int .i64 ((R k).s0), .int .i64 ((R k).s1), .int .i64 ((R k).d0), .int .i64 ((R k).d1), .int .i64 ((R k).mask), .int .i64 ((R k).flags), .int .i64 ((R k).classes)]), (.agg #[(.bool ((R k).acc) : Value), .int .i64 ((R k).side), .string ((R k).fb), .int .i64 ((R k).fn), .string ((R k).tb), .int .i64 ((R k).tn), .int .i64 ((R k).s0), .int .i64 ((R k).s1), .int .i64 ((R k).d0), .int .i64 ((R k).d1), .int .i64 ((R k).mask), .int .i64 ((R k).flags), .int .i64 ((R k).classes)]), (.agg #[(.string a.src : Value), .string a.dst, .int .i64 a.from_, .int .i64 a.to_, .int .u32 a.seq, .int .u32 a.ack, .int .i64 a.flags, .int .i64 a.win, .int .i64 a.urg, .int .i64 a.mss, .int .i64 a.scale, .bool (a.sack), .slice a.ba a.bn a.bc, .bool (a.timed), .int .u32 a.time, .int .u32 a.echo, .string a.data, .int .i64 a.side, .int .i64 a.class_]), (.bool (oneB (R k) a)), (.bool false), u4_0, (.int .i64 (k : Int)), (.int .i64 ((k + 1 : Nat) : Int)), (by omega), hBn1, hBn5, hT0, rfl⟩, ?_⟩
      simp [intOf]; omega
    · have hge : ¬ k < len := hlt
      refine wp_seq_k fun K11 hK11 => ?_
      refine wp_seq_k fun K12 hK12 => ?_
      refine wl_region ?_
      refine dw_val (by kernel_rfl) (.int .i64 (k : Int)) (by kernel_rfl) ?_
      simp only [Act.put, List.setIfInBounds_toArray, List.set_cons_zero, List.set_cons_succ]
      refine dw_val (by kernel_rfl) (.slice ad len cap) (by kernel_rfl) ?_
      simp only [Act.put, List.setIfInBounds_toArray, List.set_cons_zero, List.set_cons_succ]
      refine dw_val (by kernel_rfl) (.int .i64 (len : Int)) (by kernel_rfl) ?_
      simp only [Act.put, List.setIfInBounds_toArray, List.set_cons_zero, List.set_cons_succ]
      refine dw_bool (by kernel_rfl) (decide ((k : Int) < (len : Int))) (by kernel_rfl) (fun hc => absurd hc (by simp; omega)) (fun hc => ?_)
      simp only [Act.put, List.setIfInBounds_toArray, List.set_cons_zero, List.set_cons_succ]
      refine wl_nil ?_
      refine hK12 _ _ ?_
      refine wp_cond_false rfl ?_
      refine wp_exit ?_
      refine hK5 _ _ ?_
      refine wp_seq_k fun K13 hK13 => ?_
      refine wp_region_at (R := ttR) (by kernel_rfl) ?_
      have hS0 : ttS n1 n5 w ad len cap R a w8 := ⟨hR.keep hT0, hBn1, hBn5, hT0⟩
      refine wp_region_tells (ttA ad len cap R a) (Touch (fun _ => False)) (fun _ w' => ttS n1 n5 w ad len cap R a w') (by kernel_rfl) (by kernel_rfl) (ttA_keep ad len cap R a) (ttS_keep n1 n5 w ad len cap R a _ _ hS0 (Touch.refl _ _).drew) (fun i o ho => ?_) (fun listed a1 w1 hl hC hsl => ?_)
      · have hi : i < 22 := by have := (Array.getElem?_eq_some_iff.1 ho).1; rw [show ttR.size = 22 from by kernel_rfl] at this; exact this
        obtain rfl : o = ttR.getD i default := by rw [Array.getD_eq_getD_getElem?, ho]; rfl
        exact tt_all n1 n5 w ad len cap R a _ _ hlc hcap hcl h60 hla hsm hsrc hdst rfl rfl rfl i hi
      have hv : ttA ad len cap R a 4 (a1.tmps.getD 4 undef) w1 := hsl.wrote 21 (ttR.getD 21 default) 4 (by kernel_rfl) (by kernel_rfl) (hl 21)
      replace hv : a1.tmps.getD 4 undef = .bool true := hv
      have hd := hsl.defers
      refine hK13 _ _ ?_
      refine wp_ret ?_
      repeat (first | with_reducible refine ret_then ?_ | with_reducible refine ret_block ?_)
      refine bodyPost_ret (v := .bool true) ?_ hd ?_
      · simp only [results]; rw [show Try.f3.results = #[.tmp 4] from rfl]; simp; simpa using hv
      · exact ⟨rfl, hC.2.2.2.toBelow⟩
theorem matchTells_walk {w : World} (ad : Option Addr) (len cap : Nat) (w0 : RowIn Try.prog w 43 13 ad len ∧ len ≤ cap ∧ cap ≤ maxLen)
    (cs1 : Array Value) (n1 : cs1.size = Try.prog.cellsOf 34) (w1 : ∀ o ty, (o, ty) ∈ leavesAt Try.prog 9 34 → ∃ v, cs1.toList[o]? = some v ∧ leafOk Try.prog ty v) :
    Calls Try.prog 3 #[.slice ad len cap, .agg cs1] w fun e w' => e = .returned (.bool true) ∧ Below w.heap.size w w' := by
  obtain ⟨R, hR⟩ := rules_of w0.1
  obtain ⟨a, rfl⟩ := ask_agg n1 w1
  have hcl : len ≤ 9223372036854775807 := by have := w0.2; unfold maxLen at this; omega
  cases hl : lightB R len a with
  | false => exact tells_dark ad len cap R a w hR hcl hl
  | true =>
    obtain ⟨h60, hla, hsm, hsrc, hdst⟩ := light_parts hl
    exact tells_light ad len cap R a w hR w0.2.1 w0.2.2 hcl hl h60 hla hsm hsrc hdst
end Go.Proofs.Ytolkimdfnlfpbaa
