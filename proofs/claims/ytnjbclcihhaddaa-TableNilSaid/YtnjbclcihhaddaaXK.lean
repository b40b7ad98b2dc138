/- The table's known case. Condition: none. -/
import Derived.Test.YtnjbclcihhaddaaXJ
import Derived.Test.YtnjbclcihhaddaaTell4
set_option linter.unusedVariables false
set_option linter.unusedSimpArgs false
namespace Go.Proofs.Ytnjbclcihhaddaa
open Go.RowKit Go.Op
theorem tab_new1 (w : World) : Calls Try.prog 33 #[.int .i64 1] w fun e w' => ∃ m g, e = .returned (.tuple #[.pointer (some ⟨m, 0, none⟩), .int .i64 0]) ∧ w.heap.size ≤ m ∧ w.heap.size ≤ g ∧ Below w.heap.size w w' ∧ Tab w' m g 1 [] := tab_new 1 (by omega) (by omega) w
theorem tab_get_yes {w : World} {m g M : Nat} {L : PL} (h : Tab w m g M L) (p : Pr) (hp : Sh p) {x : Int} (hx : lookL L p = some x) : Calls Try.prog 39 #[.pointer (some ⟨m, 0, none⟩), .agg #[.string p.lb, .int .i64 p.lp, .string p.hb, .int .i64 p.hp]] w fun e w' => e = .returned (.tuple #[.int .i64 x, .bool true]) ∧ Below w.heap.size w w' := by
  have := tab_get h p hp
  rw [hx] at this
  exact this
theorem tab_get_no {w : World} {m g M : Nat} {L : PL} (h : Tab w m g M L) (p : Pr) (hp : Sh p) (hx : lookL L p = none) : Calls Try.prog 39 #[.pointer (some ⟨m, 0, none⟩), .agg #[.string p.lb, .int .i64 p.lp, .string p.hb, .int .i64 p.hp]] w fun e w' => e = .returned (.tuple #[.int .i64 0, .bool false]) ∧ Below w.heap.size w w' := by
  have := tab_get h p hp
  rw [hx] at this
  exact this
theorem tab_put_is {w : World} {m g M : Nat} {L L2 : PL} (h : Tab w m g M L) (p : Pr) (hp : Sh p) (x : Int) {z : Int} (hz : putE M L p = z) (hL : putR M L p x = L2) : Calls Try.prog 36 #[.pointer (some ⟨m, 0, none⟩), .agg #[.string p.lb, .int .i64 p.lp, .string p.hb, .int .i64 p.hp], .int .i64 x] w fun e w' => e = .returned (.int .i64 z) ∧ ∃ g', Tab w' m g' M L2 ∧ (g' = g ∨ w.heap.size ≤ g') ∧ Touch (fun b => b = m ∨ b = g) w w' := by
  subst hz hL
  exact tab_put h p hp x
theorem tab_drop_is {w : World} {m g M : Nat} {L L2 : PL} (h : Tab w m g M L) (p : Pr) (hp : Sh p) {z : Bool} (hz : (lookL L p).isSome = z) (hL : dropL L p = L2) : Calls Try.prog 38 #[.pointer (some ⟨m, 0, none⟩), .agg #[.string p.lb, .int .i64 p.lp, .string p.hb, .int .i64 p.hp]] w fun e w' => e = .returned (.bool z) ∧ Tab w' m g M L2 ∧ Touch (fun b => b = m ∨ b = g) w w' := by
  subst hz hL
  exact tab_drop h p hp
theorem rep_getD (n k : Nat) : (Array.replicate n false).getD k false = false := by
  simp only [Array.getD_eq_getD_getElem?, Array.getElem?_replicate]
  split <;> rfl
theorem sh_pairP (a b : Int) : Sh (pairP a b) := ⟨by show 4 ≤ 100; omega, by show 4 ≤ 100; omega⟩
noncomputable def tkR : Array Oper := ((Try.f35.body.bind (findRegion 12)).getD #[])
def tkS (m g q : Nat) (rest : List Value) (w0 : World) (b : Bool) (w : World) : Prop := Tab w m g 1 (if b then [] else [(pairP 1 2, 7)]) ∧ Blk w q (prC [pairP 1 2] ++ rest) 61 ∧ w0.heap.size ≤ m ∧ w0.heap.size ≤ g ∧ q ≠ m ∧ q ≠ g ∧ Touch (fun _ => False) w0 w
theorem tkS_keep (m g q : Nat) (rest : List Value) (w0 : World) : ∀ b w w', tkS m g q rest w0 b w → Touch (fun _ => False) w w' → tkS m g q rest w0 b w' := fun b w w' ⟨h1, h2, h3, h4, h5, h6, h7⟩ t => ⟨h1.keep t (fun h => h) (fun h => h), h2.keep t (fun h => h), h3, h4, h5, h6, h7.trans t (fun _ _ h => h)⟩
def tkA (m q cap2 : Nat) (t : Tmp) (v : Value) (w : World) : Prop :=
  match t with
  | 0 => v = .bool true
  | 53 => v = .int .i64 1
  | 54 => v = .bool true
  | 55 => v = .bool true
  | 56 => v = .int .i64 0
  | 57 => v = .bool true
  | 58 => v = .bool true
  | 59 => v = .bool true
  | 60 => v = .int .i64 11
  | 61 => v = .bool true
  | 62 => v = .bool true
  | 63 => v = .bool true
  | 64 => v = .int .i64 0
  | 65 => v = .bool true
  | 66 => v = .bool true
  | 67 => v = .bool true
  | 68 => v = .int .i64 7
  | 69 => v = .bool true
  | 70 => v = .bool true
  | 71 => v = .bool true
  | 72 => v = .bool true
  | 73 => v = .bool true
  | 74 => v = .bool true
  | 75 => v = .bool false
  | 76 => v = .bool true
  | 77 => v = .bool true
  | 78 => v = .bool true
  | 79 => v = .int .i64 0
  | 80 => v = .bool true
  | 81 => v = .bool true
  | 82 => v = .bool true
  | 83 => v = .pointer (some ⟨m, 0, none⟩)
  | 84 => v = .int .i64 1
  | 85 => v = .bool true
  | 86 => v = .bool true
  | 87 => v = .bool true
  | 88 => v = .slice (some ⟨q, 0, none⟩) 1 cap2
  | 89 => v = .int .i64 1
  | 90 => v = .bool true
  | 91 => v = .bool true
  | 92 => v = .bool true
  | 93 => v = .slice (some ⟨q, 0, none⟩) 1 cap2
  | 94 => v = .pointer (some ⟨q, 0, none⟩)
  | 95 => v = .agg #[(.string ((pairP 1 2).lb) : Value), .int .i64 ((pairP 1 2).lp), .string ((pairP 1 2).hb), .int .i64 ((pairP 1 2).hp)]
  | 96 => v = .agg #[(.string ((pairP 1 2).lb) : Value), .int .i64 ((pairP 1 2).lp), .string ((pairP 1 2).hb), .int .i64 ((pairP 1 2).hp)]
  | 97 => v = .bool true
  | 98 => v = .bool true
  | 99 => v = .bool true
  | 100 => v = .pointer (some ⟨m, 0, none⟩)
  | 101 => v = .agg #[(.string ((pairP 1 2).lb) : Value), .int .i64 ((pairP 1 2).lp), .string ((pairP 1 2).hb), .int .i64 ((pairP 1 2).hp)]
  | 102 => v = .bool true
  | 103 => v = .bool true
  | 104 => v = .bool true
  | 105 => v = .pointer (some ⟨m, 0, none⟩)
  | 106 => v = .agg #[(.string ((pairP 1 2).lb) : Value), .int .i64 ((pairP 1 2).lp), .string ((pairP 1 2).hb), .int .i64 ((pairP 1 2).hp)]
  | 107 => v = .bool false
  | 108 => v = .bool true
  | 109 => v = .bool true
  | 110 => v = .bool true
  | 111 => v = .pointer (some ⟨m, 0, none⟩)
  | 112 => v = .int .i64 1
  | 113 => v = .bool true
  | 114 => v = .bool true
  | _ => True
theorem tkA_keep (m q cap2 : Nat) : ∀ t v w w', True → tkA m q cap2 t v w → tkA m q cap2 t v w' := fun _ _ _ _ _ h => h
set_option maxRecDepth 100000 in
theorem tk_0 (m g q cap2 : Nat) (rest : List Value) (w0 : World) (a0 : Act) (Q : Exit → Act → World → Prop) (k1 : a0.eval (.tmp 1) = .pointer (some ⟨m, 0, none⟩)) (k4 : a0.eval (.tmp 4) = .int .i64 1) (k5 : a0.eval (.tmp 5) = .int .i64 0) (k6 : a0.eval (.tmp 6) = .int .i64 11) (k7 : a0.eval (.tmp 7) = .int .i64 0) (k8 : a0.eval (.tmp 8) = .int .i64 7) (k9 : a0.eval (.tmp 9) = .bool true) (k11 : a0.eval (.tmp 11) = .bool false) (k12 : a0.eval (.tmp 12) = .int .i64 0) (k13 : a0.eval (.tmp 13) = .slice (some ⟨q, 0, none⟩) 1 cap2) : StepOk (md := .any) Try.prog tkR Q (tkA m q cap2) (fun _ _ => True) (Ph tkR (tkS m g q rest w0) 49) a0 0 (tkR.getD 0 default) := by
  refine step_rd (by kernel_rfl) (by decide) (.inl (by kernel_rfl)) (tkS_keep m g q rest w0) (fun _ => True) (fun _ _ _ _ => trivial) (fun aF w b hb hC hop => ?_)
  have h4 : aF.eval (.tmp 4) = _ := (hop.el 4 (by kernel_rfl)).trans k4
  exact tw_move (.tmp 4) (.inl (by kernel_rfl)) (fun t ht => by have e : (tkR.getD 0 default).dst = some 53 := (by kernel_rfl); rw [e] at ht; cases ht; exact h4)
set_option maxRecDepth 100000 in
theorem tk_1 (m g q cap2 : Nat) (rest : List Value) (w0 : World) (a0 : Act) (Q : Exit → Act → World → Prop) (k1 : a0.eval (.tmp 1) = .pointer (some ⟨m, 0, none⟩)) (k4 : a0.eval (.tmp 4) = .int .i64 1) (k5 : a0.eval (.tmp 5) = .int .i64 0) (k6 : a0.eval (.tmp 6) = .int .i64 11) (k7 : a0.eval (.tmp 7) = .int .i64 0) (k8 : a0.eval (.tmp 8) = .int .i64 7) (k9 : a0.eval (.tmp 9) = .bool true) (k11 : a0.eval (.tmp 11) = .bool false) (k12 : a0.eval (.tmp 12) = .int .i64 0) (k13 : a0.eval (.tmp 13) = .slice (some ⟨q, 0, none⟩) 1 cap2) : StepOk (md := .any) Try.prog tkR Q (tkA m q cap2) (fun _ _ => True) (Ph tkR (tkS m g q rest w0) 49) a0 1 (tkR.getD 1 default) := by
  refine step_rd (by kernel_rfl) (by decide) (.inl (by kernel_rfl)) (tkS_keep m g q rest w0) (fun _ => True) (fun _ _ _ _ => trivial) (fun aF w b hb hC hop => ?_)
  have h53 : (tkA m q cap2) 53 (aF.eval (.tmp 53)) w := hop.rd 53 0 (by kernel_rfl)
  replace h53 : aF.eval (.tmp 53) = .int .i64 1 := h53
  exact tw_bin .eql 27 27 (.tmp 53) (.const (.int .i64 1)) (by kernel_rfl) (.int .i64 1) (.int .i64 1) (.bool true) h53 rfl (fun w => by kernel_rfl) (fun t ht => by have e : (tkR.getD 1 default).dst = some 54 := (by kernel_rfl); rw [e] at ht; cases ht; exact rfl)
set_option maxRecDepth 100000 in
theorem tk_2 (m g q cap2 : Nat) (rest : List Value) (w0 : World) (a0 : Act) (Q : Exit → Act → World → Prop) (k1 : a0.eval (.tmp 1) = .pointer (some ⟨m, 0, none⟩)) (k4 : a0.eval (.tmp 4) = .int .i64 1) (k5 : a0.eval (.tmp 5) = .int .i64 0) (k6 : a0.eval (.tmp 6) = .int .i64 11) (k7 : a0.eval (.tmp 7) = .int .i64 0) (k8 : a0.eval (.tmp 8) = .int .i64 7) (k9 : a0.eval (.tmp 9) = .bool true) (k11 : a0.eval (.tmp 11) = .bool false) (k12 : a0.eval (.tmp 12) = .int .i64 0) (k13 : a0.eval (.tmp 13) = .slice (some ⟨q, 0, none⟩) 1 cap2) : StepOk (md := .any) Try.prog tkR Q (tkA m q cap2) (fun _ _ => True) (Ph tkR (tkS m g q rest w0) 49) a0 2 (tkR.getD 2 default) := by
  refine step_rd (by kernel_rfl) (by decide) (.inl (by kernel_rfl)) (tkS_keep m g q rest w0) (fun _ => True) (fun _ _ _ _ => trivial) (fun aF w b hb hC hop => ?_)
  have h54 : (tkA m q cap2) 54 (aF.eval (.tmp 54)) w := hop.rd 54 1 (by kernel_rfl)
  replace h54 : aF.eval (.tmp 54) = .bool true := h54
  exact tw_move (.tmp 54) (.inl (by kernel_rfl)) (fun t ht => by have e : (tkR.getD 2 default).dst = some 55 := (by kernel_rfl); rw [e] at ht; cases ht; exact h54)
set_option maxRecDepth 100000 in
theorem tk_3 (m g q cap2 : Nat) (rest : List Value) (w0 : World) (a0 : Act) (Q : Exit → Act → World → Prop) (k1 : a0.eval (.tmp 1) = .pointer (some ⟨m, 0, none⟩)) (k4 : a0.eval (.tmp 4) = .int .i64 1) (k5 : a0.eval (.tmp 5) = .int .i64 0) (k6 : a0.eval (.tmp 6) = .int .i64 11) (k7 : a0.eval (.tmp 7) = .int .i64 0) (k8 : a0.eval (.tmp 8) = .int .i64 7) (k9 : a0.eval (.tmp 9) = .bool true) (k11 : a0.eval (.tmp 11) = .bool false) (k12 : a0.eval (.tmp 12) = .int .i64 0) (k13 : a0.eval (.tmp 13) = .slice (some ⟨q, 0, none⟩) 1 cap2) : StepOk (md := .any) Try.prog tkR Q (tkA m q cap2) (fun _ _ => True) (Ph tkR (tkS m g q rest w0) 49) a0 3 (tkR.getD 3 default) := by
  refine step_rd (by kernel_rfl) (by decide) (.inr ⟨2, 55, by kernel_rfl, by kernel_rfl, fun v w h => h⟩) (tkS_keep m g q rest w0) (fun _ => True) (fun _ _ _ _ => trivial) (fun aF w b hb hC hop => ?_)
  have h5 : aF.eval (.tmp 5) = _ := (hop.el 5 (by kernel_rfl)).trans k5
  exact tw_move (.tmp 5) (.inl (by kernel_rfl)) (fun t ht => by have e : (tkR.getD 3 default).dst = some 56 := (by kernel_rfl); rw [e] at ht; cases ht; exact h5)
set_option maxRecDepth 100000 in
theorem tk_4 (m g q cap2 : Nat) (rest : List Value) (w0 : World) (a0 : Act) (Q : Exit → Act → World → Prop) (k1 : a0.eval (.tmp 1) = .pointer (some ⟨m, 0, none⟩)) (k4 : a0.eval (.tmp 4) = .int .i64 1) (k5 : a0.eval (.tmp 5) = .int .i64 0) (k6 : a0.eval (.tmp 6) = .int .i64 11) (k7 : a0.eval (.tmp 7) = .int .i64 0) (k8 : a0.eval (.tmp 8) = .int .i64 7) (k9 : a0.eval (.tmp 9) = .bool true) (k11 : a0.eval (.tmp 11) = .bool false) (k12 : a0.eval (.tmp 12) = .int .i64 0) (k13 : a0.eval (.tmp 13) = .slice (some ⟨q, 0, none⟩) 1 cap2) : StepOk (md := .any) Try.prog tkR Q (tkA m q cap2) (fun _ _ => True) (Ph tkR (tkS m g q rest w0) 49) a0 4 (tkR.getD 4 default) := by
  refine step_rd (by kernel_rfl) (by decide) (.inr ⟨2, 55, by kernel_rfl, by kernel_rfl, fun v w h => h⟩) (tkS_keep m g q rest w0) (fun _ => True) (fun _ _ _ _ => trivial) (fun aF w b hb hC hop => ?_)
  have h56 : (tkA m q cap2) 56 (aF.eval (.tmp 56)) w := hop.rd 56 3 (by kernel_rfl)
  replace h56 : aF.eval (.tmp 56) = .int .i64 0 := h56
  exact tw_bin .eql 27 27 (.tmp 56) (.const (.int .i64 0)) (by kernel_rfl) (.int .i64 0) (.int .i64 0) (.bool true) h56 rfl (fun w => by kernel_rfl) (fun t ht => by have e : (tkR.getD 4 default).dst = some 57 := (by kernel_rfl); rw [e] at ht; cases ht; exact rfl)
set_option maxRecDepth 100000 in
theorem tk_5 (m g q cap2 : Nat) (rest : List Value) (w0 : World) (a0 : Act) (Q : Exit → Act → World → Prop) (k1 : a0.eval (.tmp 1) = .pointer (some ⟨m, 0, none⟩)) (k4 : a0.eval (.tmp 4) = .int .i64 1) (k5 : a0.eval (.tmp 5) = .int .i64 0) (k6 : a0.eval (.tmp 6) = .int .i64 11) (k7 : a0.eval (.tmp 7) = .int .i64 0) (k8 : a0.eval (.tmp 8) = .int .i64 7) (k9 : a0.eval (.tmp 9) = .bool true) (k11 : a0.eval (.tmp 11) = .bool false) (k12 : a0.eval (.tmp 12) = .int .i64 0) (k13 : a0.eval (.tmp 13) = .slice (some ⟨q, 0, none⟩) 1 cap2) : StepOk (md := .any) Try.prog tkR Q (tkA m q cap2) (fun _ _ => True) (Ph tkR (tkS m g q rest w0) 49) a0 5 (tkR.getD 5 default) := by
  refine step_rd (by kernel_rfl) (by decide) (.inl (by kernel_rfl)) (tkS_keep m g q rest w0) (fun _ => True) (fun _ _ _ _ => trivial) (fun aF w b hb hC hop => ?_)
  have h55 : (tkA m q cap2) 55 (aF.eval (.tmp 55)) w := hop.rd 55 2 (by kernel_rfl)
  replace h55 : aF.eval (.tmp 55) = .bool true := h55
  have h57 : (tkA m q cap2) 57 (aF.eval (.tmp 57)) w := hop.rd 57 4 (by kernel_rfl)
  replace h57 : aF.eval (.tmp 57) = .bool true := h57
  exact tw_pick (.tmp 55) (.tmp 57) (.const (.bool false)) (by kernel_rfl) true h55 (fun t ht => by have e : (tkR.getD 5 default).dst = some 58 := (by kernel_rfl); rw [e] at ht; cases ht; exact h57)
set_option maxRecDepth 100000 in
theorem tk_6 (m g q cap2 : Nat) (rest : List Value) (w0 : World) (a0 : Act) (Q : Exit → Act → World → Prop) (k1 : a0.eval (.tmp 1) = .pointer (some ⟨m, 0, none⟩)) (k4 : a0.eval (.tmp 4) = .int .i64 1) (k5 : a0.eval (.tmp 5) = .int .i64 0) (k6 : a0.eval (.tmp 6) = .int .i64 11) (k7 : a0.eval (.tmp 7) = .int .i64 0) (k8 : a0.eval (.tmp 8) = .int .i64 7) (k9 : a0.eval (.tmp 9) = .bool true) (k11 : a0.eval (.tmp 11) = .bool false) (k12 : a0.eval (.tmp 12) = .int .i64 0) (k13 : a0.eval (.tmp 13) = .slice (some ⟨q, 0, none⟩) 1 cap2) : StepOk (md := .any) Try.prog tkR Q (tkA m q cap2) (fun _ _ => True) (Ph tkR (tkS m g q rest w0) 49) a0 6 (tkR.getD 6 default) := by
  refine step_rd (by kernel_rfl) (by decide) (.inl (by kernel_rfl)) (tkS_keep m g q rest w0) (fun _ => True) (fun _ _ _ _ => trivial) (fun aF w b hb hC hop => ?_)
  have h58 : (tkA m q cap2) 58 (aF.eval (.tmp 58)) w := hop.rd 58 5 (by kernel_rfl)
  replace h58 : aF.eval (.tmp 58) = .bool true := h58
  exact tw_move (.tmp 58) (.inl (by kernel_rfl)) (fun t ht => by have e : (tkR.getD 6 default).dst = some 59 := (by kernel_rfl); rw [e] at ht; cases ht; exact h58)
set_option maxRecDepth 100000 in
theorem tk_7 (m g q cap2 : Nat) (rest : List Value) (w0 : World) (a0 : Act) (Q : Exit → Act → World → Prop) (k1 : a0.eval (.tmp 1) = .pointer (some ⟨m, 0, none⟩)) (k4 : a0.eval (.tmp 4) = .int .i64 1) (k5 : a0.eval (.tmp 5) = .int .i64 0) (k6 : a0.eval (.tmp 6) = .int .i64 11) (k7 : a0.eval (.tmp 7) = .int .i64 0) (k8 : a0.eval (.tmp 8) = .int .i64 7) (k9 : a0.eval (.tmp 9) = .bool true) (k11 : a0.eval (.tmp 11) = .bool false) (k12 : a0.eval (.tmp 12) = .int .i64 0) (k13 : a0.eval (.tmp 13) = .slice (some ⟨q, 0, none⟩) 1 cap2) : StepOk (md := .any) Try.prog tkR Q (tkA m q cap2) (fun _ _ => True) (Ph tkR (tkS m g q rest w0) 49) a0 7 (tkR.getD 7 default) := by
  refine step_rd (by kernel_rfl) (by decide) (.inr ⟨6, 59, by kernel_rfl, by kernel_rfl, fun v w h => h⟩) (tkS_keep m g q rest w0) (fun _ => True) (fun _ _ _ _ => trivial) (fun aF w b hb hC hop => ?_)
  have h6 : aF.eval (.tmp 6) = _ := (hop.el 6 (by kernel_rfl)).trans k6
  exact tw_move (.tmp 6) (.inl (by kernel_rfl)) (fun t ht => by have e : (tkR.getD 7 default).dst = some 60 := (by kernel_rfl); rw [e] at ht; cases ht; exact h6)
set_option maxRecDepth 100000 in
theorem tk_8 (m g q cap2 : Nat) (rest : List Value) (w0 : World) (a0 : Act) (Q : Exit → Act → World → Prop) (k1 : a0.eval (.tmp 1) = .pointer (some ⟨m, 0, none⟩)) (k4 : a0.eval (.tmp 4) = .int .i64 1) (k5 : a0.eval (.tmp 5) = .int .i64 0) (k6 : a0.eval (.tmp 6) = .int .i64 11) (k7 : a0.eval (.tmp 7) = .int .i64 0) (k8 : a0.eval (.tmp 8) = .int .i64 7) (k9 : a0.eval (.tmp 9) = .bool true) (k11 : a0.eval (.tmp 11) = .bool false) (k12 : a0.eval (.tmp 12) = .int .i64 0) (k13 : a0.eval (.tmp 13) = .slice (some ⟨q, 0, none⟩) 1 cap2) : StepOk (md := .any) Try.prog tkR Q (tkA m q cap2) (fun _ _ => True) (Ph tkR (tkS m g q rest w0) 49) a0 8 (tkR.getD 8 default) := by
  refine step_rd (by kernel_rfl) (by decide) (.inr ⟨6, 59, by kernel_rfl, by kernel_rfl, fun v w h => h⟩) (tkS_keep m g q rest w0) (fun _ => True) (fun _ _ _ _ => trivial) (fun aF w b hb hC hop => ?_)
  have h60 : (tkA m q cap2) 60 (aF.eval (.tmp 60)) w := hop.rd 60 7 (by kernel_rfl)
  replace h60 : aF.eval (.tmp 60) = .int .i64 11 := h60
  exact tw_bin .eql 27 27 (.tmp 60) (.const (.int .i64 11)) (by kernel_rfl) (.int .i64 11) (.int .i64 11) (.bool true) h60 rfl (fun w => by kernel_rfl) (fun t ht => by have e : (tkR.getD 8 default).dst = some 61 := (by kernel_rfl); rw [e] at ht; cases ht; exact rfl)
set_option maxRecDepth 100000 in
theorem tk_9 (m g q cap2 : Nat) (rest : List Value) (w0 : World) (a0 : Act) (Q : Exit → Act → World → Prop) (k1 : a0.eval (.tmp 1) = .pointer (some ⟨m, 0, none⟩)) (k4 : a0.eval (.tmp 4) = .int .i64 1) (k5 : a0.eval (.tmp 5) = .int .i64 0) (k6 : a0.eval (.tmp 6) = .int .i64 11) (k7 : a0.eval (.tmp 7) = .int .i64 0) (k8 : a0.eval (.tmp 8) = .int .i64 7) (k9 : a0.eval (.tmp 9) = .bool true) (k11 : a0.eval (.tmp 11) = .bool false) (k12 : a0.eval (.tmp 12) = .int .i64 0) (k13 : a0.eval (.tmp 13) = .slice (some ⟨q, 0, none⟩) 1 cap2) : StepOk (md := .any) Try.prog tkR Q (tkA m q cap2) (fun _ _ => True) (Ph tkR (tkS m g q rest w0) 49) a0 9 (tkR.getD 9 default) := by
  refine step_rd (by kernel_rfl) (by decide) (.inl (by kernel_rfl)) (tkS_keep m g q rest w0) (fun _ => True) (fun _ _ _ _ => trivial) (fun aF w b hb hC hop => ?_)
  have h59 : (tkA m q cap2) 59 (aF.eval (.tmp 59)) w := hop.rd 59 6 (by kernel_rfl)
  replace h59 : aF.eval (.tmp 59) = .bool true := h59
  have h61 : (tkA m q cap2) 61 (aF.eval (.tmp 61)) w := hop.rd 61 8 (by kernel_rfl)
  replace h61 : aF.eval (.tmp 61) = .bool true := h61
  exact tw_pick (.tmp 59) (.tmp 61) (.const (.bool false)) (by kernel_rfl) true h59 (fun t ht => by have e : (tkR.getD 9 default).dst = some 62 := (by kernel_rfl); rw [e] at ht; cases ht; exact h61)
set_option maxRecDepth 100000 in
theorem tk_10 (m g q cap2 : Nat) (rest : List Value) (w0 : World) (a0 : Act) (Q : Exit → Act → World → Prop) (k1 : a0.eval (.tmp 1) = .pointer (some ⟨m, 0, none⟩)) (k4 : a0.eval (.tmp 4) = .int .i64 1) (k5 : a0.eval (.tmp 5) = .int .i64 0) (k6 : a0.eval (.tmp 6) = .int .i64 11) (k7 : a0.eval (.tmp 7) = .int .i64 0) (k8 : a0.eval (.tmp 8) = .int .i64 7) (k9 : a0.eval (.tmp 9) = .bool true) (k11 : a0.eval (.tmp 11) = .bool false) (k12 : a0.eval (.tmp 12) = .int .i64 0) (k13 : a0.eval (.tmp 13) = .slice (some ⟨q, 0, none⟩) 1 cap2) : StepOk (md := .any) Try.prog tkR Q (tkA m q cap2) (fun _ _ => True) (Ph tkR (tkS m g q rest w0) 49) a0 10 (tkR.getD 10 default) := by
  refine step_rd (by kernel_rfl) (by decide) (.inl (by kernel_rfl)) (tkS_keep m g q rest w0) (fun _ => True) (fun _ _ _ _ => trivial) (fun aF w b hb hC hop => ?_)
  have h62 : (tkA m q cap2) 62 (aF.eval (.tmp 62)) w := hop.rd 62 9 (by kernel_rfl)
  replace h62 : aF.eval (.tmp 62) = .bool true := h62
  exact tw_move (.tmp 62) (.inl (by kernel_rfl)) (fun t ht => by have e : (tkR.getD 10 default).dst = some 63 := (by kernel_rfl); rw [e] at ht; cases ht; exact h62)
set_option maxRecDepth 100000 in
theorem tk_11 (m g q cap2 : Nat) (rest : List Value) (w0 : World) (a0 : Act) (Q : Exit → Act → World → Prop) (k1 : a0.eval (.tmp 1) = .pointer (some ⟨m, 0, none⟩)) (k4 : a0.eval (.tmp 4) = .int .i64 1) (k5 : a0.eval (.tmp 5) = .int .i64 0) (k6 : a0.eval (.tmp 6) = .int .i64 11) (k7 : a0.eval (.tmp 7) = .int .i64 0) (k8 : a0.eval (.tmp 8) = .int .i64 7) (k9 : a0.eval (.tmp 9) = .bool true) (k11 : a0.eval (.tmp 11) = .bool false) (k12 : a0.eval (.tmp 12) = .int .i64 0) (k13 : a0.eval (.tmp 13) = .slice (some ⟨q, 0, none⟩) 1 cap2) : StepOk (md := .any) Try.prog tkR Q (tkA m q cap2) (fun _ _ => True) (Ph tkR (tkS m g q rest w0) 49) a0 11 (tkR.getD 11 default) := by
  refine step_rd (by kernel_rfl) (by decide) (.inr ⟨10, 63, by kernel_rfl, by kernel_rfl, fun v w h => h⟩) (tkS_keep m g q rest w0) (fun _ => True) (fun _ _ _ _ => trivial) (fun aF w b hb hC hop => ?_)
  have h7 : aF.eval (.tmp 7) = _ := (hop.el 7 (by kernel_rfl)).trans k7
  exact tw_move (.tmp 7) (.inl (by kernel_rfl)) (fun t ht => by have e : (tkR.getD 11 default).dst = some 64 := (by kernel_rfl); rw [e] at ht; cases ht; exact h7)
set_option maxRecDepth 100000 in
theorem tk_12 (m g q cap2 : Nat) (rest : List Value) (w0 : World) (a0 : Act) (Q : Exit → Act → World → Prop) (k1 : a0.eval (.tmp 1) = .pointer (some ⟨m, 0, none⟩)) (k4 : a0.eval (.tmp 4) = .int .i64 1) (k5 : a0.eval (.tmp 5) = .int .i64 0) (k6 : a0.eval (.tmp 6) = .int .i64 11) (k7 : a0.eval (.tmp 7) = .int .i64 0) (k8 : a0.eval (.tmp 8) = .int .i64 7) (k9 : a0.eval (.tmp 9) = .bool true) (k11 : a0.eval (.tmp 11) = .bool false) (k12 : a0.eval (.tmp 12) = .int .i64 0) (k13 : a0.eval (.tmp 13) = .slice (some ⟨q, 0, none⟩) 1 cap2) : StepOk (md := .any) Try.prog tkR Q (tkA m q cap2) (fun _ _ => True) (Ph tkR (tkS m g q rest w0) 49) a0 12 (tkR.getD 12 default) := by
  refine step_rd (by kernel_rfl) (by decide) (.inr ⟨10, 63, by kernel_rfl, by kernel_rfl, fun v w h => h⟩) (tkS_keep m g q rest w0) (fun _ => True) (fun _ _ _ _ => trivial) (fun aF w b hb hC hop => ?_)
  have h64 : (tkA m q cap2) 64 (aF.eval (.tmp 64)) w := hop.rd 64 11 (by kernel_rfl)
  replace h64 : aF.eval (.tmp 64) = .int .i64 0 := h64
  exact tw_bin .eql 27 27 (.tmp 64) (.const (.int .i64 0)) (by kernel_rfl) (.int .i64 0) (.int .i64 0) (.bool true) h64 rfl (fun w => by kernel_rfl) (fun t ht => by have e : (tkR.getD 12 default).dst = some 65 := (by kernel_rfl); rw [e] at ht; cases ht; exact rfl)
set_option maxRecDepth 100000 in
theorem tk_13 (m g q cap2 : Nat) (rest : List Value) (w0 : World) (a0 : Act) (Q : Exit → Act → World → Prop) (k1 : a0.eval (.tmp 1) = .pointer (some ⟨m, 0, none⟩)) (k4 : a0.eval (.tmp 4) = .int .i64 1) (k5 : a0.eval (.tmp 5) = .int .i64 0) (k6 : a0.eval (.tmp 6) = .int .i64 11) (k7 : a0.eval (.tmp 7) = .int .i64 0) (k8 : a0.eval (.tmp 8) = .int .i64 7) (k9 : a0.eval (.tmp 9) = .bool true) (k11 : a0.eval (.tmp 11) = .bool false) (k12 : a0.eval (.tmp 12) = .int .i64 0) (k13 : a0.eval (.tmp 13) = .slice (some ⟨q, 0, none⟩) 1 cap2) : StepOk (md := .any) Try.prog tkR Q (tkA m q cap2) (fun _ _ => True) (Ph tkR (tkS m g q rest w0) 49) a0 13 (tkR.getD 13 default) := by
  refine step_rd (by kernel_rfl) (by decide) (.inl (by kernel_rfl)) (tkS_keep m g q rest w0) (fun _ => True) (fun _ _ _ _ => trivial) (fun aF w b hb hC hop => ?_)
  have h63 : (tkA m q cap2) 63 (aF.eval (.tmp 63)) w := hop.rd 63 10 (by kernel_rfl)
  replace h63 : aF.eval (.tmp 63) = .bool true := h63
  have h65 : (tkA m q cap2) 65 (aF.eval (.tmp 65)) w := hop.rd 65 12 (by kernel_rfl)
  replace h65 : aF.eval (.tmp 65) = .bool true := h65
  exact tw_pick (.tmp 63) (.tmp 65) (.const (.bool false)) (by kernel_rfl) true h63 (fun t ht => by have e : (tkR.getD 13 default).dst = some 66 := (by kernel_rfl); rw [e] at ht; cases ht; exact h65)
set_option maxRecDepth 100000 in
theorem tk_14 (m g q cap2 : Nat) (rest : List Value) (w0 : World) (a0 : Act) (Q : Exit → Act → World → Prop) (k1 : a0.eval (.tmp 1) = .pointer (some ⟨m, 0, none⟩)) (k4 : a0.eval (.tmp 4) = .int .i64 1) (k5 : a0.eval (.tmp 5) = .int .i64 0) (k6 : a0.eval (.tmp 6) = .int .i64 11) (k7 : a0.eval (.tmp 7) = .int .i64 0) (k8 : a0.eval (.tmp 8) = .int .i64 7) (k9 : a0.eval (.tmp 9) = .bool true) (k11 : a0.eval (.tmp 11) = .bool false) (k12 : a0.eval (.tmp 12) = .int .i64 0) (k13 : a0.eval (.tmp 13) = .slice (some ⟨q, 0, none⟩) 1 cap2) : StepOk (md := .any) Try.prog tkR Q (tkA m q cap2) (fun _ _ => True) (Ph tkR (tkS m g q rest w0) 49) a0 14 (tkR.getD 14 default) := by
  refine step_rd (by kernel_rfl) (by decide) (.inl (by kernel_rfl)) (tkS_keep m g q rest w0) (fun _ => True) (fun _ _ _ _ => trivial) (fun aF w b hb hC hop => ?_)
  have h66 : (tkA m q cap2) 66 (aF.eval (.tmp 66)) w := hop.rd 66 13 (by kernel_rfl)
  replace h66 : aF.eval (.tmp 66) = .bool true := h66
  exact tw_move (.tmp 66) (.inl (by kernel_rfl)) (fun t ht => by have e : (tkR.getD 14 default).dst = some 67 := (by kernel_rfl); rw [e] at ht; cases ht; exact h66)
set_option maxRecDepth 100000 in
theorem tk_15 (m g q cap2 : Nat) (rest : List Value) (w0 : World) (a0 : Act) (Q : Exit → Act → World → Prop) (k1 : a0.eval (.tmp 1) = .pointer (some ⟨m, 0, none⟩)) (k4 : a0.eval (.tmp 4) = .int .i64 1) (k5 : a0.eval (.tmp 5) = .int .i64 0) (k6 : a0.eval (.tmp 6) = .int .i64 11) (k7 : a0.eval (.tmp 7) = .int .i64 0) (k8 : a0.eval (.tmp 8) = .int .i64 7) (k9 : a0.eval (.tmp 9) = .bool true) (k11 : a0.eval (.tmp 11) = .bool false) (k12 : a0.eval (.tmp 12) = .int .i64 0) (k13 : a0.eval (.tmp 13) = .slice (some ⟨q, 0, none⟩) 1 cap2) : StepOk (md := .any) Try.prog tkR Q (tkA m q cap2) (fun _ _ => True) (Ph tkR (tkS m g q rest w0) 49) a0 15 (tkR.getD 15 default) := by
  refine step_rd (by kernel_rfl) (by decide) (.inr ⟨14, 67, by kernel_rfl, by kernel_rfl, fun v w h => h⟩) (tkS_keep m g q rest w0) (fun _ => True) (fun _ _ _ _ => trivial) (fun aF w b hb hC hop => ?_)
  have h8 : aF.eval (.tmp 8) = _ := (hop.el 8 (by kernel_rfl)).trans k8
  exact tw_move (.tmp 8) (.inl (by kernel_rfl)) (fun t ht => by have e : (tkR.getD 15 default).dst = some 68 := (by kernel_rfl); rw [e] at ht; cases ht; exact h8)
set_option maxRecDepth 100000 in
theorem tk_16 (m g q cap2 : Nat) (rest : List Value) (w0 : World) (a0 : Act) (Q : Exit → Act → World → Prop) (k1 : a0.eval (.tmp 1) = .pointer (some ⟨m, 0, none⟩)) (k4 : a0.eval (.tmp 4) = .int .i64 1) (k5 : a0.eval (.tmp 5) = .int .i64 0) (k6 : a0.eval (.tmp 6) = .int .i64 11) (k7 : a0.eval (.tmp 7) = .int .i64 0) (k8 : a0.eval (.tmp 8) = .int .i64 7) (k9 : a0.eval (.tmp 9) = .bool true) (k11 : a0.eval (.tmp 11) = .bool false) (k12 : a0.eval (.tmp 12) = .int .i64 0) (k13 : a0.eval (.tmp 13) = .slice (some ⟨q, 0, none⟩) 1 cap2) : StepOk (md := .any) Try.prog tkR Q (tkA m q cap2) (fun _ _ => True) (Ph tkR (tkS m g q rest w0) 49) a0 16 (tkR.getD 16 default) := by
  refine step_rd (by kernel_rfl) (by decide) (.inr ⟨14, 67, by kernel_rfl, by kernel_rfl, fun v w h => h⟩) (tkS_keep m g q rest w0) (fun _ => True) (fun _ _ _ _ => trivial) (fun aF w b hb hC hop => ?_)
  have h68 : (tkA m q cap2) 68 (aF.eval (.tmp 68)) w := hop.rd 68 15 (by kernel_rfl)
  replace h68 : aF.eval (.tmp 68) = .int .i64 7 := h68
  exact tw_bin .eql 3 3 (.tmp 68) (.const (.int .i64 7)) (by kernel_rfl) (.int .i64 7) (.int .i64 7) (.bool true) h68 rfl (fun w => by kernel_rfl) (fun t ht => by have e : (tkR.getD 16 default).dst = some 69 := (by kernel_rfl); rw [e] at ht; cases ht; exact rfl)
set_option maxRecDepth 100000 in
theorem tk_17 (m g q cap2 : Nat) (rest : List Value) (w0 : World) (a0 : Act) (Q : Exit → Act → World → Prop) (k1 : a0.eval (.tmp 1) = .pointer (some ⟨m, 0, none⟩)) (k4 : a0.eval (.tmp 4) = .int .i64 1) (k5 : a0.eval (.tmp 5) = .int .i64 0) (k6 : a0.eval (.tmp 6) = .int .i64 11) (k7 : a0.eval (.tmp 7) = .int .i64 0) (k8 : a0.eval (.tmp 8) = .int .i64 7) (k9 : a0.eval (.tmp 9) = .bool true) (k11 : a0.eval (.tmp 11) = .bool false) (k12 : a0.eval (.tmp 12) = .int .i64 0) (k13 : a0.eval (.tmp 13) = .slice (some ⟨q, 0, none⟩) 1 cap2) : StepOk (md := .any) Try.prog tkR Q (tkA m q cap2) (fun _ _ => True) (Ph tkR (tkS m g q rest w0) 49) a0 17 (tkR.getD 17 default) := by
  refine step_rd (by kernel_rfl) (by decide) (.inl (by kernel_rfl)) (tkS_keep m g q rest w0) (fun _ => True) (fun _ _ _ _ => trivial) (fun aF w b hb hC hop => ?_)
  have h67 : (tkA m q cap2) 67 (aF.eval (.tmp 67)) w := hop.rd 67 14 (by kernel_rfl)
  replace h67 : aF.eval (.tmp 67) = .bool true := h67
  have h69 : (tkA m q cap2) 69 (aF.eval (.tmp 69)) w := hop.rd 69 16 (by kernel_rfl)
  replace h69 : aF.eval (.tmp 69) = .bool true := h69
  exact tw_pick (.tmp 67) (.tmp 69) (.const (.bool false)) (by kernel_rfl) true h67 (fun t ht => by have e : (tkR.getD 17 default).dst = some 70 := (by kernel_rfl); rw [e] at ht; cases ht; exact h69)
set_option maxRecDepth 100000 in
theorem tk_18 (m g q cap2 : Nat) (rest : List Value) (w0 : World) (a0 : Act) (Q : Exit → Act → World → Prop) (k1 : a0.eval (.tmp 1) = .pointer (some ⟨m, 0, none⟩)) (k4 : a0.eval (.tmp 4) = .int .i64 1) (k5 : a0.eval (.tmp 5) = .int .i64 0) (k6 : a0.eval (.tmp 6) = .int .i64 11) (k7 : a0.eval (.tmp 7) = .int .i64 0) (k8 : a0.eval (.tmp 8) = .int .i64 7) (k9 : a0.eval (.tmp 9) = .bool true) (k11 : a0.eval (.tmp 11) = .bool false) (k12 : a0.eval (.tmp 12) = .int .i64 0) (k13 : a0.eval (.tmp 13) = .slice (some ⟨q, 0, none⟩) 1 cap2) : StepOk (md := .any) Try.prog tkR Q (tkA m q cap2) (fun _ _ => True) (Ph tkR (tkS m g q rest w0) 49) a0 18 (tkR.getD 18 default) := by
  refine step_rd (by kernel_rfl) (by decide) (.inl (by kernel_rfl)) (tkS_keep m g q rest w0) (fun _ => True) (fun _ _ _ _ => trivial) (fun aF w b hb hC hop => ?_)
  have h70 : (tkA m q cap2) 70 (aF.eval (.tmp 70)) w := hop.rd 70 17 (by kernel_rfl)
  replace h70 : aF.eval (.tmp 70) = .bool true := h70
  exact tw_move (.tmp 70) (.inl (by kernel_rfl)) (fun t ht => by have e : (tkR.getD 18 default).dst = some 71 := (by kernel_rfl); rw [e] at ht; cases ht; exact h70)
set_option maxRecDepth 100000 in
theorem tk_19 (m g q cap2 : Nat) (rest : List Value) (w0 : World) (a0 : Act) (Q : Exit → Act → World → Prop) (k1 : a0.eval (.tmp 1) = .pointer (some ⟨m, 0, none⟩)) (k4 : a0.eval (.tmp 4) = .int .i64 1) (k5 : a0.eval (.tmp 5) = .int .i64 0) (k6 : a0.eval (.tmp 6) = .int .i64 11) (k7 : a0.eval (.tmp 7) = .int .i64 0) (k8 : a0.eval (.tmp 8) = .int .i64 7) (k9 : a0.eval (.tmp 9) = .bool true) (k11 : a0.eval (.tmp 11) = .bool false) (k12 : a0.eval (.tmp 12) = .int .i64 0) (k13 : a0.eval (.tmp 13) = .slice (some ⟨q, 0, none⟩) 1 cap2) : StepOk (md := .any) Try.prog tkR Q (tkA m q cap2) (fun _ _ => True) (Ph tkR (tkS m g q rest w0) 49) a0 19 (tkR.getD 19 default) := by
  refine step_rd (by kernel_rfl) (by decide) (.inr ⟨18, 71, by kernel_rfl, by kernel_rfl, fun v w h => h⟩) (tkS_keep m g q rest w0) (fun _ => True) (fun _ _ _ _ => trivial) (fun aF w b hb hC hop => ?_)
  have h9 : aF.eval (.tmp 9) = _ := (hop.el 9 (by kernel_rfl)).trans k9
  exact tw_move (.tmp 9) (.inl (by kernel_rfl)) (fun t ht => by have e : (tkR.getD 19 default).dst = some 72 := (by kernel_rfl); rw [e] at ht; cases ht; exact h9)
set_option maxRecDepth 100000 in
theorem tk_20 (m g q cap2 : Nat) (rest : List Value) (w0 : World) (a0 : Act) (Q : Exit → Act → World → Prop) (k1 : a0.eval (.tmp 1) = .pointer (some ⟨m, 0, none⟩)) (k4 : a0.eval (.tmp 4) = .int .i64 1) (k5 : a0.eval (.tmp 5) = .int .i64 0) (k6 : a0.eval (.tmp 6) = .int .i64 11) (k7 : a0.eval (.tmp 7) = .int .i64 0) (k8 : a0.eval (.tmp 8) = .int .i64 7) (k9 : a0.eval (.tmp 9) = .bool true) (k11 : a0.eval (.tmp 11) = .bool false) (k12 : a0.eval (.tmp 12) = .int .i64 0) (k13 : a0.eval (.tmp 13) = .slice (some ⟨q, 0, none⟩) 1 cap2) : StepOk (md := .any) Try.prog tkR Q (tkA m q cap2) (fun _ _ => True) (Ph tkR (tkS m g q rest w0) 49) a0 20 (tkR.getD 20 default) := by
  refine step_rd (by kernel_rfl) (by decide) (.inl (by kernel_rfl)) (tkS_keep m g q rest w0) (fun _ => True) (fun _ _ _ _ => trivial) (fun aF w b hb hC hop => ?_)
  have h71 : (tkA m q cap2) 71 (aF.eval (.tmp 71)) w := hop.rd 71 18 (by kernel_rfl)
  replace h71 : aF.eval (.tmp 71) = .bool true := h71
  have h72 : (tkA m q cap2) 72 (aF.eval (.tmp 72)) w := hop.rd 72 19 (by kernel_rfl)
  replace h72 : aF.eval (.tmp 72) = .bool true := h72
  exact tw_pick (.tmp 71) (.tmp 72) (.const (.bool false)) (by kernel_rfl) true h71 (fun t ht => by have e : (tkR.getD 20 default).dst = some 73 := (by kernel_rfl); rw [e] at ht; cases ht; exact h72)
set_option maxRecDepth 100000 in
theorem tk_21 (m g q cap2 : Nat) (rest : List Value) (w0 : World) (a0 : Act) (Q : Exit → Act → World → Prop) (k1 : a0.eval (.tmp 1) = .pointer (some ⟨m, 0, none⟩)) (k4 : a0.eval (.tmp 4) = .int .i64 1) (k5 : a0.eval (.tmp 5) = .int .i64 0) (k6 : a0.eval (.tmp 6) = .int .i64 11) (k7 : a0.eval (.tmp 7) = .int .i64 0) (k8 : a0.eval (.tmp 8) = .int .i64 7) (k9 : a0.eval (.tmp 9) = .bool true) (k11 : a0.eval (.tmp 11) = .bool false) (k12 : a0.eval (.tmp 12) = .int .i64 0) (k13 : a0.eval (.tmp 13) = .slice (some ⟨q, 0, none⟩) 1 cap2) : StepOk (md := .any) Try.prog tkR Q (tkA m q cap2) (fun _ _ => True) (Ph tkR (tkS m g q rest w0) 49) a0 21 (tkR.getD 21 default) := by
  refine step_rd (by kernel_rfl) (by decide) (.inl (by kernel_rfl)) (tkS_keep m g q rest w0) (fun _ => True) (fun _ _ _ _ => trivial) (fun aF w b hb hC hop => ?_)
  have h73 : (tkA m q cap2) 73 (aF.eval (.tmp 73)) w := hop.rd 73 20 (by kernel_rfl)
  replace h73 : aF.eval (.tmp 73) = .bool true := h73
  exact tw_move (.tmp 73) (.inl (by kernel_rfl)) (fun t ht => by have e : (tkR.getD 21 default).dst = some 74 := (by kernel_rfl); rw [e] at ht; cases ht; exact h73)
set_option maxRecDepth 100000 in
theorem tk_22 (m g q cap2 : Nat) (rest : List Value) (w0 : World) (a0 : Act) (Q : Exit → Act → World → Prop) (k1 : a0.eval (.tmp 1) = .pointer (some ⟨m, 0, none⟩)) (k4 : a0.eval (.tmp 4) = .int .i64 1) (k5 : a0.eval (.tmp 5) = .int .i64 0) (k6 : a0.eval (.tmp 6) = .int .i64 11) (k7 : a0.eval (.tmp 7) = .int .i64 0) (k8 : a0.eval (.tmp 8) = .int .i64 7) (k9 : a0.eval (.tmp 9) = .bool true) (k11 : a0.eval (.tmp 11) = .bool false) (k12 : a0.eval (.tmp 12) = .int .i64 0) (k13 : a0.eval (.tmp 13) = .slice (some ⟨q, 0, none⟩) 1 cap2) : StepOk (md := .any) Try.prog tkR Q (tkA m q cap2) (fun _ _ => True) (Ph tkR (tkS m g q rest w0) 49) a0 22 (tkR.getD 22 default) := by
  refine step_rd (by kernel_rfl) (by decide) (.inr ⟨21, 74, by kernel_rfl, by kernel_rfl, fun v w h => h⟩) (tkS_keep m g q rest w0) (fun _ => True) (fun _ _ _ _ => trivial) (fun aF w b hb hC hop => ?_)
  have h11 : aF.eval (.tmp 11) = _ := (hop.el 11 (by kernel_rfl)).trans k11
  exact tw_move (.tmp 11) (.inl (by kernel_rfl)) (fun t ht => by have e : (tkR.getD 22 default).dst = some 75 := (by kernel_rfl); rw [e] at ht; cases ht; exact h11)
set_option maxRecDepth 100000 in
theorem tk_23 (m g q cap2 : Nat) (rest : List Value) (w0 : World) (a0 : Act) (Q : Exit → Act → World → Prop) (k1 : a0.eval (.tmp 1) = .pointer (some ⟨m, 0, none⟩)) (k4 : a0.eval (.tmp 4) = .int .i64 1) (k5 : a0.eval (.tmp 5) = .int .i64 0) (k6 : a0.eval (.tmp 6) = .int .i64 11) (k7 : a0.eval (.tmp 7) = .int .i64 0) (k8 : a0.eval (.tmp 8) = .int .i64 7) (k9 : a0.eval (.tmp 9) = .bool true) (k11 : a0.eval (.tmp 11) = .bool false) (k12 : a0.eval (.tmp 12) = .int .i64 0) (k13 : a0.eval (.tmp 13) = .slice (some ⟨q, 0, none⟩) 1 cap2) : StepOk (md := .any) Try.prog tkR Q (tkA m q cap2) (fun _ _ => True) (Ph tkR (tkS m g q rest w0) 49) a0 23 (tkR.getD 23 default) := by
  refine step_rd (by kernel_rfl) (by decide) (.inr ⟨21, 74, by kernel_rfl, by kernel_rfl, fun v w h => h⟩) (tkS_keep m g q rest w0) (fun _ => True) (fun _ _ _ _ => trivial) (fun aF w b hb hC hop => ?_)
  have h75 : (tkA m q cap2) 75 (aF.eval (.tmp 75)) w := hop.rd 75 22 (by kernel_rfl)
  replace h75 : aF.eval (.tmp 75) = .bool false := h75
  exact tw_un .not 4 (.tmp 75) (by kernel_rfl) (.bool false) (.bool true) h75 (fun w => by kernel_rfl) (fun t ht => by have e : (tkR.getD 23 default).dst = some 76 := (by kernel_rfl); rw [e] at ht; cases ht; exact rfl)
set_option maxRecDepth 100000 in
theorem tk_24 (m g q cap2 : Nat) (rest : List Value) (w0 : World) (a0 : Act) (Q : Exit → Act → World → Prop) (k1 : a0.eval (.tmp 1) = .pointer (some ⟨m, 0, none⟩)) (k4 : a0.eval (.tmp 4) = .int .i64 1) (k5 : a0.eval (.tmp 5) = .int .i64 0) (k6 : a0.eval (.tmp 6) = .int .i64 11) (k7 : a0.eval (.tmp 7) = .int .i64 0) (k8 : a0.eval (.tmp 8) = .int .i64 7) (k9 : a0.eval (.tmp 9) = .bool true) (k11 : a0.eval (.tmp 11) = .bool false) (k12 : a0.eval (.tmp 12) = .int .i64 0) (k13 : a0.eval (.tmp 13) = .slice (some ⟨q, 0, none⟩) 1 cap2) : StepOk (md := .any) Try.prog tkR Q (tkA m q cap2) (fun _ _ => True) (Ph tkR (tkS m g q rest w0) 49) a0 24 (tkR.getD 24 default) := by
  refine step_rd (by kernel_rfl) (by decide) (.inl (by kernel_rfl)) (tkS_keep m g q rest w0) (fun _ => True) (fun _ _ _ _ => trivial) (fun aF w b hb hC hop => ?_)
  have h74 : (tkA m q cap2) 74 (aF.eval (.tmp 74)) w := hop.rd 74 21 (by kernel_rfl)
  replace h74 : aF.eval (.tmp 74) = .bool true := h74
  have h76 : (tkA m q cap2) 76 (aF.eval (.tmp 76)) w := hop.rd 76 23 (by kernel_rfl)
  replace h76 : aF.eval (.tmp 76) = .bool true := h76
  exact tw_pick (.tmp 74) (.tmp 76) (.const (.bool false)) (by kernel_rfl) true h74 (fun t ht => by have e : (tkR.getD 24 default).dst = some 77 := (by kernel_rfl); rw [e] at ht; cases ht; exact h76)
set_option maxRecDepth 100000 in
theorem tk_25 (m g q cap2 : Nat) (rest : List Value) (w0 : World) (a0 : Act) (Q : Exit → Act → World → Prop) (k1 : a0.eval (.tmp 1) = .pointer (some ⟨m, 0, none⟩)) (k4 : a0.eval (.tmp 4) = .int .i64 1) (k5 : a0.eval (.tmp 5) = .int .i64 0) (k6 : a0.eval (.tmp 6) = .int .i64 11) (k7 : a0.eval (.tmp 7) = .int .i64 0) (k8 : a0.eval (.tmp 8) = .int .i64 7) (k9 : a0.eval (.tmp 9) = .bool true) (k11 : a0.eval (.tmp 11) = .bool false) (k12 : a0.eval (.tmp 12) = .int .i64 0) (k13 : a0.eval (.tmp 13) = .slice (some ⟨q, 0, none⟩) 1 cap2) : StepOk (md := .any) Try.prog tkR Q (tkA m q cap2) (fun _ _ => True) (Ph tkR (tkS m g q rest w0) 49) a0 25 (tkR.getD 25 default) := by
  refine step_rd (by kernel_rfl) (by decide) (.inl (by kernel_rfl)) (tkS_keep m g q rest w0) (fun _ => True) (fun _ _ _ _ => trivial) (fun aF w b hb hC hop => ?_)
  have h77 : (tkA m q cap2) 77 (aF.eval (.tmp 77)) w := hop.rd 77 24 (by kernel_rfl)
  replace h77 : aF.eval (.tmp 77) = .bool true := h77
  exact tw_move (.tmp 77) (.inl (by kernel_rfl)) (fun t ht => by have e : (tkR.getD 25 default).dst = some 78 := (by kernel_rfl); rw [e] at ht; cases ht; exact h77)
set_option maxRecDepth 100000 in
theorem tk_26 (m g q cap2 : Nat) (rest : List Value) (w0 : World) (a0 : Act) (Q : Exit → Act → World → Prop) (k1 : a0.eval (.tmp 1) = .pointer (some ⟨m, 0, none⟩)) (k4 : a0.eval (.tmp 4) = .int .i64 1) (k5 : a0.eval (.tmp 5) = .int .i64 0) (k6 : a0.eval (.tmp 6) = .int .i64 11) (k7 : a0.eval (.tmp 7) = .int .i64 0) (k8 : a0.eval (.tmp 8) = .int .i64 7) (k9 : a0.eval (.tmp 9) = .bool true) (k11 : a0.eval (.tmp 11) = .bool false) (k12 : a0.eval (.tmp 12) = .int .i64 0) (k13 : a0.eval (.tmp 13) = .slice (some ⟨q, 0, none⟩) 1 cap2) : StepOk (md := .any) Try.prog tkR Q (tkA m q cap2) (fun _ _ => True) (Ph tkR (tkS m g q rest w0) 49) a0 26 (tkR.getD 26 default) := by
  refine step_rd (by kernel_rfl) (by decide) (.inr ⟨25, 78, by kernel_rfl, by kernel_rfl, fun v w h => h⟩) (tkS_keep m g q rest w0) (fun _ => True) (fun _ _ _ _ => trivial) (fun aF w b hb hC hop => ?_)
  have h12 : aF.eval (.tmp 12) = _ := (hop.el 12 (by kernel_rfl)).trans k12
  exact tw_move (.tmp 12) (.inl (by kernel_rfl)) (fun t ht => by have e : (tkR.getD 26 default).dst = some 79 := (by kernel_rfl); rw [e] at ht; cases ht; exact h12)
set_option maxRecDepth 100000 in
theorem tk_27 (m g q cap2 : Nat) (rest : List Value) (w0 : World) (a0 : Act) (Q : Exit → Act → World → Prop) (k1 : a0.eval (.tmp 1) = .pointer (some ⟨m, 0, none⟩)) (k4 : a0.eval (.tmp 4) = .int .i64 1) (k5 : a0.eval (.tmp 5) = .int .i64 0) (k6 : a0.eval (.tmp 6) = .int .i64 11) (k7 : a0.eval (.tmp 7) = .int .i64 0) (k8 : a0.eval (.tmp 8) = .int .i64 7) (k9 : a0.eval (.tmp 9) = .bool true) (k11 : a0.eval (.tmp 11) = .bool false) (k12 : a0.eval (.tmp 12) = .int .i64 0) (k13 : a0.eval (.tmp 13) = .slice (some ⟨q, 0, none⟩) 1 cap2) : StepOk (md := .any) Try.prog tkR Q (tkA m q cap2) (fun _ _ => True) (Ph tkR (tkS m g q rest w0) 49) a0 27 (tkR.getD 27 default) := by
  refine step_rd (by kernel_rfl) (by decide) (.inr ⟨25, 78, by kernel_rfl, by kernel_rfl, fun v w h => h⟩) (tkS_keep m g q rest w0) (fun _ => True) (fun _ _ _ _ => trivial) (fun aF w b hb hC hop => ?_)
  have h79 : (tkA m q cap2) 79 (aF.eval (.tmp 79)) w := hop.rd 79 26 (by kernel_rfl)
  replace h79 : aF.eval (.tmp 79) = .int .i64 0 := h79
  exact tw_bin .eql 3 3 (.tmp 79) (.const (.int .i64 0)) (by kernel_rfl) (.int .i64 0) (.int .i64 0) (.bool true) h79 rfl (fun w => by kernel_rfl) (fun t ht => by have e : (tkR.getD 27 default).dst = some 80 := (by kernel_rfl); rw [e] at ht; cases ht; exact rfl)
set_option maxRecDepth 100000 in
theorem tk_28 (m g q cap2 : Nat) (rest : List Value) (w0 : World) (a0 : Act) (Q : Exit → Act → World → Prop) (k1 : a0.eval (.tmp 1) = .pointer (some ⟨m, 0, none⟩)) (k4 : a0.eval (.tmp 4) = .int .i64 1) (k5 : a0.eval (.tmp 5) = .int .i64 0) (k6 : a0.eval (.tmp 6) = .int .i64 11) (k7 : a0.eval (.tmp 7) = .int .i64 0) (k8 : a0.eval (.tmp 8) = .int .i64 7) (k9 : a0.eval (.tmp 9) = .bool true) (k11 : a0.eval (.tmp 11) = .bool false) (k12 : a0.eval (.tmp 12) = .int .i64 0) (k13 : a0.eval (.tmp 13) = .slice (some ⟨q, 0, none⟩) 1 cap2) : StepOk (md := .any) Try.prog tkR Q (tkA m q cap2) (fun _ _ => True) (Ph tkR (tkS m g q rest w0) 49) a0 28 (tkR.getD 28 default) := by
  refine step_rd (by kernel_rfl) (by decide) (.inl (by kernel_rfl)) (tkS_keep m g q rest w0) (fun _ => True) (fun _ _ _ _ => trivial) (fun aF w b hb hC hop => ?_)
  have h78 : (tkA m q cap2) 78 (aF.eval (.tmp 78)) w := hop.rd 78 25 (by kernel_rfl)
  replace h78 : aF.eval (.tmp 78) = .bool true := h78
  have h80 : (tkA m q cap2) 80 (aF.eval (.tmp 80)) w := hop.rd 80 27 (by kernel_rfl)
  replace h80 : aF.eval (.tmp 80) = .bool true := h80
  exact tw_pick (.tmp 78) (.tmp 80) (.const (.bool false)) (by kernel_rfl) true h78 (fun t ht => by have e : (tkR.getD 28 default).dst = some 81 := (by kernel_rfl); rw [e] at ht; cases ht; exact h80)
set_option maxRecDepth 100000 in
theorem tk_29 (m g q cap2 : Nat) (rest : List Value) (w0 : World) (a0 : Act) (Q : Exit → Act → World → Prop) (k1 : a0.eval (.tmp 1) = .pointer (some ⟨m, 0, none⟩)) (k4 : a0.eval (.tmp 4) = .int .i64 1) (k5 : a0.eval (.tmp 5) = .int .i64 0) (k6 : a0.eval (.tmp 6) = .int .i64 11) (k7 : a0.eval (.tmp 7) = .int .i64 0) (k8 : a0.eval (.tmp 8) = .int .i64 7) (k9 : a0.eval (.tmp 9) = .bool true) (k11 : a0.eval (.tmp 11) = .bool false) (k12 : a0.eval (.tmp 12) = .int .i64 0) (k13 : a0.eval (.tmp 13) = .slice (some ⟨q, 0, none⟩) 1 cap2) : StepOk (md := .any) Try.prog tkR Q (tkA m q cap2) (fun _ _ => True) (Ph tkR (tkS m g q rest w0) 49) a0 29 (tkR.getD 29 default) := by
  refine step_rd (by kernel_rfl) (by decide) (.inl (by kernel_rfl)) (tkS_keep m g q rest w0) (fun _ => True) (fun _ _ _ _ => trivial) (fun aF w b hb hC hop => ?_)
  have h81 : (tkA m q cap2) 81 (aF.eval (.tmp 81)) w := hop.rd 81 28 (by kernel_rfl)
  replace h81 : aF.eval (.tmp 81) = .bool true := h81
  exact tw_move (.tmp 81) (.inl (by kernel_rfl)) (fun t ht => by have e : (tkR.getD 29 default).dst = some 82 := (by kernel_rfl); rw [e] at ht; cases ht; exact h81)
set_option maxRecDepth 100000 in
theorem tk_30 (m g q cap2 : Nat) (rest : List Value) (w0 : World) (a0 : Act) (Q : Exit → Act → World → Prop) (k1 : a0.eval (.tmp 1) = .pointer (some ⟨m, 0, none⟩)) (k4 : a0.eval (.tmp 4) = .int .i64 1) (k5 : a0.eval (.tmp 5) = .int .i64 0) (k6 : a0.eval (.tmp 6) = .int .i64 11) (k7 : a0.eval (.tmp 7) = .int .i64 0) (k8 : a0.eval (.tmp 8) = .int .i64 7) (k9 : a0.eval (.tmp 9) = .bool true) (k11 : a0.eval (.tmp 11) = .bool false) (k12 : a0.eval (.tmp 12) = .int .i64 0) (k13 : a0.eval (.tmp 13) = .slice (some ⟨q, 0, none⟩) 1 cap2) : StepOk (md := .any) Try.prog tkR Q (tkA m q cap2) (fun _ _ => True) (Ph tkR (tkS m g q rest w0) 49) a0 30 (tkR.getD 30 default) := by
  refine step_rd (by kernel_rfl) (by decide) (.inr ⟨29, 82, by kernel_rfl, by kernel_rfl, fun v w h => h⟩) (tkS_keep m g q rest w0) (fun _ => True) (fun _ _ _ _ => trivial) (fun aF w b hb hC hop => ?_)
  have h1 : aF.eval (.tmp 1) = _ := (hop.el 1 (by kernel_rfl)).trans k1
  exact tw_move (.tmp 1) (.inl (by kernel_rfl)) (fun t ht => by have e : (tkR.getD 30 default).dst = some 83 := (by kernel_rfl); rw [e] at ht; cases ht; exact h1)
set_option maxRecDepth 100000 in
theorem tk_31 (m g q cap2 : Nat) (rest : List Value) (w0 : World) (a0 : Act) (Q : Exit → Act → World → Prop) (k1 : a0.eval (.tmp 1) = .pointer (some ⟨m, 0, none⟩)) (k4 : a0.eval (.tmp 4) = .int .i64 1) (k5 : a0.eval (.tmp 5) = .int .i64 0) (k6 : a0.eval (.tmp 6) = .int .i64 11) (k7 : a0.eval (.tmp 7) = .int .i64 0) (k8 : a0.eval (.tmp 8) = .int .i64 7) (k9 : a0.eval (.tmp 9) = .bool true) (k11 : a0.eval (.tmp 11) = .bool false) (k12 : a0.eval (.tmp 12) = .int .i64 0) (k13 : a0.eval (.tmp 13) = .slice (some ⟨q, 0, none⟩) 1 cap2) : StepOk (md := .any) Try.prog tkR Q (tkA m q cap2) (fun _ _ => True) (Ph tkR (tkS m g q rest w0) 49) a0 31 (tkR.getD 31 default) := by
  refine step_rd (by kernel_rfl) (by decide) (.inr ⟨29, 82, by kernel_rfl, by kernel_rfl, fun v w h => h⟩) (tkS_keep m g q rest w0) (fun b => b = false) (fun l hc hl _ => ph_before 70 (by kernel_rfl) l hc hl) (fun aF w b hb hC hop => ?_)
  subst hb
  have h83 : (tkA m q cap2) 83 (aF.eval (.tmp 83)) w := hop.rd 83 30 (by kernel_rfl)
  replace h83 : aF.eval (.tmp 83) = .pointer (some ⟨m, 0, none⟩) := h83
  have hv : (#[(.tmp 83)] : Array Operand).map aF.eval = #[.pointer (some ⟨m, 0, none⟩)] := by simp only [List.map_toArray, List.map_cons, List.map_nil, h83]; first | done | rfl
  exact tw_call 37 #[(.tmp 83)] #[62] (by kernel_rfl) #[.pointer (some ⟨m, 0, none⟩)] hv (fun w => by kernel_rfl) (Calls.mono (tab_len hC.1) (fun e w' hh => ⟨_, hh.1, (fun t ht => by have e : (tkR.getD 31 default).dst = some 84 := (by kernel_rfl); rw [e] at ht; cases ht; exact rfl), Touch.none hh.2⟩))
set_option maxRecDepth 100000 in
theorem tk_32 (m g q cap2 : Nat) (rest : List Value) (w0 : World) (a0 : Act) (Q : Exit → Act → World → Prop) (k1 : a0.eval (.tmp 1) = .pointer (some ⟨m, 0, none⟩)) (k4 : a0.eval (.tmp 4) = .int .i64 1) (k5 : a0.eval (.tmp 5) = .int .i64 0) (k6 : a0.eval (.tmp 6) = .int .i64 11) (k7 : a0.eval (.tmp 7) = .int .i64 0) (k8 : a0.eval (.tmp 8) = .int .i64 7) (k9 : a0.eval (.tmp 9) = .bool true) (k11 : a0.eval (.tmp 11) = .bool false) (k12 : a0.eval (.tmp 12) = .int .i64 0) (k13 : a0.eval (.tmp 13) = .slice (some ⟨q, 0, none⟩) 1 cap2) : StepOk (md := .any) Try.prog tkR Q (tkA m q cap2) (fun _ _ => True) (Ph tkR (tkS m g q rest w0) 49) a0 32 (tkR.getD 32 default) := by
  refine step_rd (by kernel_rfl) (by decide) (.inr ⟨29, 82, by kernel_rfl, by kernel_rfl, fun v w h => h⟩) (tkS_keep m g q rest w0) (fun _ => True) (fun _ _ _ _ => trivial) (fun aF w b hb hC hop => ?_)
  have h84 : (tkA m q cap2) 84 (aF.eval (.tmp 84)) w := hop.rd 84 31 (by kernel_rfl)
  replace h84 : aF.eval (.tmp 84) = .int .i64 1 := h84
  exact tw_bin .eql 3 3 (.tmp 84) (.const (.int .i64 1)) (by kernel_rfl) (.int .i64 1) (.int .i64 1) (.bool true) h84 rfl (fun w => by kernel_rfl) (fun t ht => by have e : (tkR.getD 32 default).dst = some 85 := (by kernel_rfl); rw [e] at ht; cases ht; exact rfl)
set_option maxRecDepth 100000 in
theorem tk_33 (m g q cap2 : Nat) (rest : List Value) (w0 : World) (a0 : Act) (Q : Exit → Act → World → Prop) (k1 : a0.eval (.tmp 1) = .pointer (some ⟨m, 0, none⟩)) (k4 : a0.eval (.tmp 4) = .int .i64 1) (k5 : a0.eval (.tmp 5) = .int .i64 0) (k6 : a0.eval (.tmp 6) = .int .i64 11) (k7 : a0.eval (.tmp 7) = .int .i64 0) (k8 : a0.eval (.tmp 8) = .int .i64 7) (k9 : a0.eval (.tmp 9) = .bool true) (k11 : a0.eval (.tmp 11) = .bool false) (k12 : a0.eval (.tmp 12) = .int .i64 0) (k13 : a0.eval (.tmp 13) = .slice (some ⟨q, 0, none⟩) 1 cap2) : StepOk (md := .any) Try.prog tkR Q (tkA m q cap2) (fun _ _ => True) (Ph tkR (tkS m g q rest w0) 49) a0 33 (tkR.getD 33 default) := by
  refine step_rd (by kernel_rfl) (by decide) (.inl (by kernel_rfl)) (tkS_keep m g q rest w0) (fun _ => True) (fun _ _ _ _ => trivial) (fun aF w b hb hC hop => ?_)
  have h82 : (tkA m q cap2) 82 (aF.eval (.tmp 82)) w := hop.rd 82 29 (by kernel_rfl)
  replace h82 : aF.eval (.tmp 82) = .bool true := h82
  have h85 : (tkA m q cap2) 85 (aF.eval (.tmp 85)) w := hop.rd 85 32 (by kernel_rfl)
  replace h85 : aF.eval (.tmp 85) = .bool true := h85
  exact tw_pick (.tmp 82) (.tmp 85) (.const (.bool false)) (by kernel_rfl) true h82 (fun t ht => by have e : (tkR.getD 33 default).dst = some 86 := (by kernel_rfl); rw [e] at ht; cases ht; exact h85)
set_option maxRecDepth 100000 in
theorem tk_34 (m g q cap2 : Nat) (rest : List Value) (w0 : World) (a0 : Act) (Q : Exit → Act → World → Prop) (k1 : a0.eval (.tmp 1) = .pointer (some ⟨m, 0, none⟩)) (k4 : a0.eval (.tmp 4) = .int .i64 1) (k5 : a0.eval (.tmp 5) = .int .i64 0) (k6 : a0.eval (.tmp 6) = .int .i64 11) (k7 : a0.eval (.tmp 7) = .int .i64 0) (k8 : a0.eval (.tmp 8) = .int .i64 7) (k9 : a0.eval (.tmp 9) = .bool true) (k11 : a0.eval (.tmp 11) = .bool false) (k12 : a0.eval (.tmp 12) = .int .i64 0) (k13 : a0.eval (.tmp 13) = .slice (some ⟨q, 0, none⟩) 1 cap2) : StepOk (md := .any) Try.prog tkR Q (tkA m q cap2) (fun _ _ => True) (Ph tkR (tkS m g q rest w0) 49) a0 34 (tkR.getD 34 default) := by
  refine step_rd (by kernel_rfl) (by decide) (.inl (by kernel_rfl)) (tkS_keep m g q rest w0) (fun _ => True) (fun _ _ _ _ => trivial) (fun aF w b hb hC hop => ?_)
  have h86 : (tkA m q cap2) 86 (aF.eval (.tmp 86)) w := hop.rd 86 33 (by kernel_rfl)
  replace h86 : aF.eval (.tmp 86) = .bool true := h86
  exact tw_move (.tmp 86) (.inl (by kernel_rfl)) (fun t ht => by have e : (tkR.getD 34 default).dst = some 87 := (by kernel_rfl); rw [e] at ht; cases ht; exact h86)
set_option maxRecDepth 100000 in
theorem tk_35 (m g q cap2 : Nat) (rest : List Value) (w0 : World) (a0 : Act) (Q : Exit → Act → World → Prop) (k1 : a0.eval (.tmp 1) = .pointer (some ⟨m, 0, none⟩)) (k4 : a0.eval (.tmp 4) = .int .i64 1) (k5 : a0.eval (.tmp 5) = .int .i64 0) (k6 : a0.eval (.tmp 6) = .int .i64 11) (k7 : a0.eval (.tmp 7) = .int .i64 0) (k8 : a0.eval (.tmp 8) = .int .i64 7) (k9 : a0.eval (.tmp 9) = .bool true) (k11 : a0.eval (.tmp 11) = .bool false) (k12 : a0.eval (.tmp 12) = .int .i64 0) (k13 : a0.eval (.tmp 13) = .slice (some ⟨q, 0, none⟩) 1 cap2) : StepOk (md := .any) Try.prog tkR Q (tkA m q cap2) (fun _ _ => True) (Ph tkR (tkS m g q rest w0) 49) a0 35 (tkR.getD 35 default) := by
  refine step_rd (by kernel_rfl) (by decide) (.inr ⟨34, 87, by kernel_rfl, by kernel_rfl, fun v w h => h⟩) (tkS_keep m g q rest w0) (fun _ => True) (fun _ _ _ _ => trivial) (fun aF w b hb hC hop => ?_)
  have h13 : aF.eval (.tmp 13) = _ := (hop.el 13 (by kernel_rfl)).trans k13
  exact tw_move (.tmp 13) (.inl (by kernel_rfl)) (fun t ht => by have e : (tkR.getD 35 default).dst = some 88 := (by kernel_rfl); rw [e] at ht; cases ht; exact h13)
set_option maxRecDepth 100000 in
theorem tk_36 (m g q cap2 : Nat) (rest : List Value) (w0 : World) (a0 : Act) (Q : Exit → Act → World → Prop) (k1 : a0.eval (.tmp 1) = .pointer (some ⟨m, 0, none⟩)) (k4 : a0.eval (.tmp 4) = .int .i64 1) (k5 : a0.eval (.tmp 5) = .int .i64 0) (k6 : a0.eval (.tmp 6) = .int .i64 11) (k7 : a0.eval (.tmp 7) = .int .i64 0) (k8 : a0.eval (.tmp 8) = .int .i64 7) (k9 : a0.eval (.tmp 9) = .bool true) (k11 : a0.eval (.tmp 11) = .bool false) (k12 : a0.eval (.tmp 12) = .int .i64 0) (k13 : a0.eval (.tmp 13) = .slice (some ⟨q, 0, none⟩) 1 cap2) : StepOk (md := .any) Try.prog tkR Q (tkA m q cap2) (fun _ _ => True) (Ph tkR (tkS m g q rest w0) 49) a0 36 (tkR.getD 36 default) := by
  refine step_rd (by kernel_rfl) (by decide) (.inr ⟨34, 87, by kernel_rfl, by kernel_rfl, fun v w h => h⟩) (tkS_keep m g q rest w0) (fun _ => True) (fun _ _ _ _ => trivial) (fun aF w b hb hC hop => ?_)
  have h88 : (tkA m q cap2) 88 (aF.eval (.tmp 88)) w := hop.rd 88 35 (by kernel_rfl)
  replace h88 : aF.eval (.tmp 88) = .slice (some ⟨q, 0, none⟩) 1 cap2 := h88
  exact tw_len (.tmp 88) 72 (by kernel_rfl) _ _ _ h88 (fun ad n c w => by kernel_rfl) (fun t ht => by have e : (tkR.getD 36 default).dst = some 89 := (by kernel_rfl); rw [e] at ht; cases ht; exact rfl)
set_option maxRecDepth 100000 in
theorem tk_37 (m g q cap2 : Nat) (rest : List Value) (w0 : World) (a0 : Act) (Q : Exit → Act → World → Prop) (k1 : a0.eval (.tmp 1) = .pointer (some ⟨m, 0, none⟩)) (k4 : a0.eval (.tmp 4) = .int .i64 1) (k5 : a0.eval (.tmp 5) = .int .i64 0) (k6 : a0.eval (.tmp 6) = .int .i64 11) (k7 : a0.eval (.tmp 7) = .int .i64 0) (k8 : a0.eval (.tmp 8) = .int .i64 7) (k9 : a0.eval (.tmp 9) = .bool true) (k11 : a0.eval (.tmp 11) = .bool false) (k12 : a0.eval (.tmp 12) = .int .i64 0) (k13 : a0.eval (.tmp 13) = .slice (some ⟨q, 0, none⟩) 1 cap2) : StepOk (md := .any) Try.prog tkR Q (tkA m q cap2) (fun _ _ => True) (Ph tkR (tkS m g q rest w0) 49) a0 37 (tkR.getD 37 default) := by
  refine step_rd (by kernel_rfl) (by decide) (.inr ⟨34, 87, by kernel_rfl, by kernel_rfl, fun v w h => h⟩) (tkS_keep m g q rest w0) (fun _ => True) (fun _ _ _ _ => trivial) (fun aF w b hb hC hop => ?_)
  have h89 : (tkA m q cap2) 89 (aF.eval (.tmp 89)) w := hop.rd 89 36 (by kernel_rfl)
  replace h89 : aF.eval (.tmp 89) = .int .i64 1 := h89
  exact tw_bin .eql 3 3 (.tmp 89) (.const (.int .i64 1)) (by kernel_rfl) (.int .i64 1) (.int .i64 1) (.bool true) h89 rfl (fun w => by kernel_rfl) (fun t ht => by have e : (tkR.getD 37 default).dst = some 90 := (by kernel_rfl); rw [e] at ht; cases ht; exact rfl)
set_option maxRecDepth 100000 in
theorem tk_38 (m g q cap2 : Nat) (rest : List Value) (w0 : World) (a0 : Act) (Q : Exit → Act → World → Prop) (k1 : a0.eval (.tmp 1) = .pointer (some ⟨m, 0, none⟩)) (k4 : a0.eval (.tmp 4) = .int .i64 1) (k5 : a0.eval (.tmp 5) = .int .i64 0) (k6 : a0.eval (.tmp 6) = .int .i64 11) (k7 : a0.eval (.tmp 7) = .int .i64 0) (k8 : a0.eval (.tmp 8) = .int .i64 7) (k9 : a0.eval (.tmp 9) = .bool true) (k11 : a0.eval (.tmp 11) = .bool false) (k12 : a0.eval (.tmp 12) = .int .i64 0) (k13 : a0.eval (.tmp 13) = .slice (some ⟨q, 0, none⟩) 1 cap2) : StepOk (md := .any) Try.prog tkR Q (tkA m q cap2) (fun _ _ => True) (Ph tkR (tkS m g q rest w0) 49) a0 38 (tkR.getD 38 default) := by
  refine step_rd (by kernel_rfl) (by decide) (.inl (by kernel_rfl)) (tkS_keep m g q rest w0) (fun _ => True) (fun _ _ _ _ => trivial) (fun aF w b hb hC hop => ?_)
  have h87 : (tkA m q cap2) 87 (aF.eval (.tmp 87)) w := hop.rd 87 34 (by kernel_rfl)
  replace h87 : aF.eval (.tmp 87) = .bool true := h87
  have h90 : (tkA m q cap2) 90 (aF.eval (.tmp 90)) w := hop.rd 90 37 (by kernel_rfl)
  replace h90 : aF.eval (.tmp 90) = .bool true := h90
  exact tw_pick (.tmp 87) (.tmp 90) (.const (.bool false)) (by kernel_rfl) true h87 (fun t ht => by have e : (tkR.getD 38 default).dst = some 91 := (by kernel_rfl); rw [e] at ht; cases ht; exact h90)
set_option maxRecDepth 100000 in
theorem tk_39 (m g q cap2 : Nat) (rest : List Value) (w0 : World) (a0 : Act) (Q : Exit → Act → World → Prop) (k1 : a0.eval (.tmp 1) = .pointer (some ⟨m, 0, none⟩)) (k4 : a0.eval (.tmp 4) = .int .i64 1) (k5 : a0.eval (.tmp 5) = .int .i64 0) (k6 : a0.eval (.tmp 6) = .int .i64 11) (k7 : a0.eval (.tmp 7) = .int .i64 0) (k8 : a0.eval (.tmp 8) = .int .i64 7) (k9 : a0.eval (.tmp 9) = .bool true) (k11 : a0.eval (.tmp 11) = .bool false) (k12 : a0.eval (.tmp 12) = .int .i64 0) (k13 : a0.eval (.tmp 13) = .slice (some ⟨q, 0, none⟩) 1 cap2) : StepOk (md := .any) Try.prog tkR Q (tkA m q cap2) (fun _ _ => True) (Ph tkR (tkS m g q rest w0) 49) a0 39 (tkR.getD 39 default) := by
  refine step_rd (by kernel_rfl) (by decide) (.inl (by kernel_rfl)) (tkS_keep m g q rest w0) (fun _ => True) (fun _ _ _ _ => trivial) (fun aF w b hb hC hop => ?_)
  have h91 : (tkA m q cap2) 91 (aF.eval (.tmp 91)) w := hop.rd 91 38 (by kernel_rfl)
  replace h91 : aF.eval (.tmp 91) = .bool true := h91
  exact tw_move (.tmp 91) (.inl (by kernel_rfl)) (fun t ht => by have e : (tkR.getD 39 default).dst = some 92 := (by kernel_rfl); rw [e] at ht; cases ht; exact h91)
set_option maxRecDepth 100000 in
theorem tk_40 (m g q cap2 : Nat) (rest : List Value) (w0 : World) (a0 : Act) (Q : Exit → Act → World → Prop) (k1 : a0.eval (.tmp 1) = .pointer (some ⟨m, 0, none⟩)) (k4 : a0.eval (.tmp 4) = .int .i64 1) (k5 : a0.eval (.tmp 5) = .int .i64 0) (k6 : a0.eval (.tmp 6) = .int .i64 11) (k7 : a0.eval (.tmp 7) = .int .i64 0) (k8 : a0.eval (.tmp 8) = .int .i64 7) (k9 : a0.eval (.tmp 9) = .bool true) (k11 : a0.eval (.tmp 11) = .bool false) (k12 : a0.eval (.tmp 12) = .int .i64 0) (k13 : a0.eval (.tmp 13) = .slice (some ⟨q, 0, none⟩) 1 cap2) : StepOk (md := .any) Try.prog tkR Q (tkA m q cap2) (fun _ _ => True) (Ph tkR (tkS m g q rest w0) 49) a0 40 (tkR.getD 40 default) := by
  refine step_rd (by kernel_rfl) (by decide) (.inr ⟨39, 92, by kernel_rfl, by kernel_rfl, fun v w h => h⟩) (tkS_keep m g q rest w0) (fun _ => True) (fun _ _ _ _ => trivial) (fun aF w b hb hC hop => ?_)
  have h13 : aF.eval (.tmp 13) = _ := (hop.el 13 (by kernel_rfl)).trans k13
  exact tw_move (.tmp 13) (.inl (by kernel_rfl)) (fun t ht => by have e : (tkR.getD 40 default).dst = some 93 := (by kernel_rfl); rw [e] at ht; cases ht; exact h13)
set_option maxRecDepth 100000 in
theorem tk_41 (m g q cap2 : Nat) (rest : List Value) (w0 : World) (a0 : Act) (Q : Exit → Act → World → Prop) (k1 : a0.eval (.tmp 1) = .pointer (some ⟨m, 0, none⟩)) (k4 : a0.eval (.tmp 4) = .int .i64 1) (k5 : a0.eval (.tmp 5) = .int .i64 0) (k6 : a0.eval (.tmp 6) = .int .i64 11) (k7 : a0.eval (.tmp 7) = .int .i64 0) (k8 : a0.eval (.tmp 8) = .int .i64 7) (k9 : a0.eval (.tmp 9) = .bool true) (k11 : a0.eval (.tmp 11) = .bool false) (k12 : a0.eval (.tmp 12) = .int .i64 0) (k13 : a0.eval (.tmp 13) = .slice (some ⟨q, 0, none⟩) 1 cap2) : StepOk (md := .any) Try.prog tkR Q (tkA m q cap2) (fun _ _ => True) (Ph tkR (tkS m g q rest w0) 49) a0 41 (tkR.getD 41 default) := by
  refine step_rd (by kernel_rfl) (by decide) (.inr ⟨39, 92, by kernel_rfl, by kernel_rfl, fun v w h => h⟩) (tkS_keep m g q rest w0) (fun _ => True) (fun _ _ _ _ => trivial) (fun aF w b hb hC hop => ?_)
  have h93 : (tkA m q cap2) 93 (aF.eval (.tmp 93)) w := hop.rd 93 40 (by kernel_rfl)
  replace h93 : aF.eval (.tmp 93) = .slice (some ⟨q, 0, none⟩) 1 cap2 := h93
  exact tw_val (.pointer (some ⟨q, 0, none⟩)) (ev_index 72 61 (.tmp 93) (.const (.int .i64 0)) (by kernel_rfl) q 0 1 cap2 0 4 .i64 h93 rfl (by omega) Try.underlying72 (by kernel_rfl) 0 rfl) (fun t ht => by have e : (tkR.getD 41 default).dst = some 94 := (by kernel_rfl); rw [e] at ht; cases ht; exact rfl)
set_option maxRecDepth 100000 in
theorem tk_42 (m g q cap2 : Nat) (rest : List Value) (w0 : World) (a0 : Act) (Q : Exit → Act → World → Prop) (k1 : a0.eval (.tmp 1) = .pointer (some ⟨m, 0, none⟩)) (k4 : a0.eval (.tmp 4) = .int .i64 1) (k5 : a0.eval (.tmp 5) = .int .i64 0) (k6 : a0.eval (.tmp 6) = .int .i64 11) (k7 : a0.eval (.tmp 7) = .int .i64 0) (k8 : a0.eval (.tmp 8) = .int .i64 7) (k9 : a0.eval (.tmp 9) = .bool true) (k11 : a0.eval (.tmp 11) = .bool false) (k12 : a0.eval (.tmp 12) = .int .i64 0) (k13 : a0.eval (.tmp 13) = .slice (some ⟨q, 0, none⟩) 1 cap2) : StepOk (md := .any) Try.prog tkR Q (tkA m q cap2) (fun _ _ => True) (Ph tkR (tkS m g q rest w0) 49) a0 42 (tkR.getD 42 default) := by
  refine step_rd (by kernel_rfl) (by decide) (.inr ⟨39, 92, by kernel_rfl, by kernel_rfl, fun v w h => h⟩) (tkS_keep m g q rest w0) (fun _ => True) (fun _ _ _ _ => trivial) (fun aF w b hb hC hop => ?_)
  have h94 : (tkA m q cap2) 94 (aF.eval (.tmp 94)) w := hop.rd 94 41 (by kernel_rfl)
  replace h94 : aF.eval (.tmp 94) = .pointer (some ⟨q, 0, none⟩) := h94
  exact tw_val (.agg #[(.string ((pairP 1 2).lb) : Value), .int .i64 ((pairP 1 2).lp), .string ((pairP 1 2).hb), .int .i64 ((pairP 1 2).hp)]) (ev_row 61 (.tmp 94) (by kernel_rfl) q 0 h94 [(.string ((pairP 1 2).lb) : Value), .int .i64 ((pairP 1 2).lp), .string ((pairP 1 2).hb), .int .i64 ((pairP 1 2).hp)] (prC_range (i := 0) hC.2.1 rfl) _ Try.underlying61 rfl (by kernel_rfl)) (fun t ht => by have e : (tkR.getD 42 default).dst = some 95 := (by kernel_rfl); rw [e] at ht; cases ht; exact rfl)
set_option maxRecDepth 100000 in
theorem tk_43 (m g q cap2 : Nat) (rest : List Value) (w0 : World) (a0 : Act) (Q : Exit → Act → World → Prop) (k1 : a0.eval (.tmp 1) = .pointer (some ⟨m, 0, none⟩)) (k4 : a0.eval (.tmp 4) = .int .i64 1) (k5 : a0.eval (.tmp 5) = .int .i64 0) (k6 : a0.eval (.tmp 6) = .int .i64 11) (k7 : a0.eval (.tmp 7) = .int .i64 0) (k8 : a0.eval (.tmp 8) = .int .i64 7) (k9 : a0.eval (.tmp 9) = .bool true) (k11 : a0.eval (.tmp 11) = .bool false) (k12 : a0.eval (.tmp 12) = .int .i64 0) (k13 : a0.eval (.tmp 13) = .slice (some ⟨q, 0, none⟩) 1 cap2) : StepOk (md := .any) Try.prog tkR Q (tkA m q cap2) (fun _ _ => True) (Ph tkR (tkS m g q rest w0) 49) a0 43 (tkR.getD 43 default) := by
  refine step_rd (by kernel_rfl) (by decide) (.inr ⟨39, 92, by kernel_rfl, by kernel_rfl, fun v w h => h⟩) (tkS_keep m g q rest w0) (fun _ => True) (fun _ _ _ _ => trivial) (fun aF w b hb hC hop => ?_)
  have hv : (#[(.const (.int .i64 1)), (.const (.int .i64 2))] : Array Operand).map aF.eval = #[.int .i64 1, .int .i64 2] := by simp only [List.map_toArray, List.map_cons, List.map_nil]; first | done | rfl
  exact tw_call 41 #[(.const (.int .i64 1)), (.const (.int .i64 2))] #[3, 3] (by kernel_rfl) #[.int .i64 1, .int .i64 2] hv (fun w => by kernel_rfl) (Calls.mono (pair_any 1 2 w) (fun e w' hh => ⟨_, hh.1, (fun t ht => by have e : (tkR.getD 43 default).dst = some 96 := (by kernel_rfl); rw [e] at ht; cases ht; exact rfl), Touch.none hh.2⟩))
set_option maxRecDepth 100000 in
theorem tk_44 (m g q cap2 : Nat) (rest : List Value) (w0 : World) (a0 : Act) (Q : Exit → Act → World → Prop) (k1 : a0.eval (.tmp 1) = .pointer (some ⟨m, 0, none⟩)) (k4 : a0.eval (.tmp 4) = .int .i64 1) (k5 : a0.eval (.tmp 5) = .int .i64 0) (k6 : a0.eval (.tmp 6) = .int .i64 11) (k7 : a0.eval (.tmp 7) = .int .i64 0) (k8 : a0.eval (.tmp 8) = .int .i64 7) (k9 : a0.eval (.tmp 9) = .bool true) (k11 : a0.eval (.tmp 11) = .bool false) (k12 : a0.eval (.tmp 12) = .int .i64 0) (k13 : a0.eval (.tmp 13) = .slice (some ⟨q, 0, none⟩) 1 cap2) : StepOk (md := .any) Try.prog tkR Q (tkA m q cap2) (fun _ _ => True) (Ph tkR (tkS m g q rest w0) 49) a0 44 (tkR.getD 44 default) := by
  refine step_rd (by kernel_rfl) (by decide) (.inr ⟨39, 92, by kernel_rfl, by kernel_rfl, fun v w h => h⟩) (tkS_keep m g q rest w0) (fun _ => True) (fun _ _ _ _ => trivial) (fun aF w b hb hC hop => ?_)
  have h95 : (tkA m q cap2) 95 (aF.eval (.tmp 95)) w := hop.rd 95 42 (by kernel_rfl)
  replace h95 : aF.eval (.tmp 95) = .agg #[(.string ((pairP 1 2).lb) : Value), .int .i64 ((pairP 1 2).lp), .string ((pairP 1 2).hb), .int .i64 ((pairP 1 2).hp)] := h95
  have h96 : (tkA m q cap2) 96 (aF.eval (.tmp 96)) w := hop.rd 96 43 (by kernel_rfl)
  replace h96 : aF.eval (.tmp 96) = .agg #[(.string ((pairP 1 2).lb) : Value), .int .i64 ((pairP 1 2).lp), .string ((pairP 1 2).hb), .int .i64 ((pairP 1 2).hp)] := h96
  exact tw_bin .eql 61 61 (.tmp 95) (.tmp 96) (by kernel_rfl) (.agg #[(.string ((pairP 1 2).lb) : Value), .int .i64 ((pairP 1 2).lp), .string ((pairP 1 2).hb), .int .i64 ((pairP 1 2).hp)]) (.agg #[(.string ((pairP 1 2).lb) : Value), .int .i64 ((pairP 1 2).lp), .string ((pairP 1 2).hb), .int .i64 ((pairP 1 2).hp)]) (.bool true) h95 h96 (fun w => by kernel_rfl) (fun t ht => by have e : (tkR.getD 44 default).dst = some 97 := (by kernel_rfl); rw [e] at ht; cases ht; exact rfl)
set_option maxRecDepth 100000 in
theorem tk_45 (m g q cap2 : Nat) (rest : List Value) (w0 : World) (a0 : Act) (Q : Exit → Act → World → Prop) (k1 : a0.eval (.tmp 1) = .pointer (some ⟨m, 0, none⟩)) (k4 : a0.eval (.tmp 4) = .int .i64 1) (k5 : a0.eval (.tmp 5) = .int .i64 0) (k6 : a0.eval (.tmp 6) = .int .i64 11) (k7 : a0.eval (.tmp 7) = .int .i64 0) (k8 : a0.eval (.tmp 8) = .int .i64 7) (k9 : a0.eval (.tmp 9) = .bool true) (k11 : a0.eval (.tmp 11) = .bool false) (k12 : a0.eval (.tmp 12) = .int .i64 0) (k13 : a0.eval (.tmp 13) = .slice (some ⟨q, 0, none⟩) 1 cap2) : StepOk (md := .any) Try.prog tkR Q (tkA m q cap2) (fun _ _ => True) (Ph tkR (tkS m g q rest w0) 49) a0 45 (tkR.getD 45 default) := by
  refine step_rd (by kernel_rfl) (by decide) (.inl (by kernel_rfl)) (tkS_keep m g q rest w0) (fun _ => True) (fun _ _ _ _ => trivial) (fun aF w b hb hC hop => ?_)
  have h92 : (tkA m q cap2) 92 (aF.eval (.tmp 92)) w := hop.rd 92 39 (by kernel_rfl)
  replace h92 : aF.eval (.tmp 92) = .bool true := h92
  have h97 : (tkA m q cap2) 97 (aF.eval (.tmp 97)) w := hop.rd 97 44 (by kernel_rfl)
  replace h97 : aF.eval (.tmp 97) = .bool true := h97
  exact tw_pick (.tmp 92) (.tmp 97) (.const (.bool false)) (by kernel_rfl) true h92 (fun t ht => by have e : (tkR.getD 45 default).dst = some 98 := (by kernel_rfl); rw [e] at ht; cases ht; exact h97)
set_option maxRecDepth 100000 in
theorem tk_46 (m g q cap2 : Nat) (rest : List Value) (w0 : World) (a0 : Act) (Q : Exit → Act → World → Prop) (k1 : a0.eval (.tmp 1) = .pointer (some ⟨m, 0, none⟩)) (k4 : a0.eval (.tmp 4) = .int .i64 1) (k5 : a0.eval (.tmp 5) = .int .i64 0) (k6 : a0.eval (.tmp 6) = .int .i64 11) (k7 : a0.eval (.tmp 7) = .int .i64 0) (k8 : a0.eval (.tmp 8) = .int .i64 7) (k9 : a0.eval (.tmp 9) = .bool true) (k11 : a0.eval (.tmp 11) = .bool false) (k12 : a0.eval (.tmp 12) = .int .i64 0) (k13 : a0.eval (.tmp 13) = .slice (some ⟨q, 0, none⟩) 1 cap2) : StepOk (md := .any) Try.prog tkR Q (tkA m q cap2) (fun _ _ => True) (Ph tkR (tkS m g q rest w0) 49) a0 46 (tkR.getD 46 default) := by
  refine step_rd (by kernel_rfl) (by decide) (.inl (by kernel_rfl)) (tkS_keep m g q rest w0) (fun _ => True) (fun _ _ _ _ => trivial) (fun aF w b hb hC hop => ?_)
  have h98 : (tkA m q cap2) 98 (aF.eval (.tmp 98)) w := hop.rd 98 45 (by kernel_rfl)
  replace h98 : aF.eval (.tmp 98) = .bool true := h98
  exact tw_move (.tmp 98) (.inl (by kernel_rfl)) (fun t ht => by have e : (tkR.getD 46 default).dst = some 99 := (by kernel_rfl); rw [e] at ht; cases ht; exact h98)
set_option maxRecDepth 100000 in
theorem tk_47 (m g q cap2 : Nat) (rest : List Value) (w0 : World) (a0 : Act) (Q : Exit → Act → World → Prop) (k1 : a0.eval (.tmp 1) = .pointer (some ⟨m, 0, none⟩)) (k4 : a0.eval (.tmp 4) = .int .i64 1) (k5 : a0.eval (.tmp 5) = .int .i64 0) (k6 : a0.eval (.tmp 6) = .int .i64 11) (k7 : a0.eval (.tmp 7) = .int .i64 0) (k8 : a0.eval (.tmp 8) = .int .i64 7) (k9 : a0.eval (.tmp 9) = .bool true) (k11 : a0.eval (.tmp 11) = .bool false) (k12 : a0.eval (.tmp 12) = .int .i64 0) (k13 : a0.eval (.tmp 13) = .slice (some ⟨q, 0, none⟩) 1 cap2) : StepOk (md := .any) Try.prog tkR Q (tkA m q cap2) (fun _ _ => True) (Ph tkR (tkS m g q rest w0) 49) a0 47 (tkR.getD 47 default) := by
  refine step_rd (by kernel_rfl) (by decide) (.inr ⟨46, 99, by kernel_rfl, by kernel_rfl, fun v w h => h⟩) (tkS_keep m g q rest w0) (fun _ => True) (fun _ _ _ _ => trivial) (fun aF w b hb hC hop => ?_)
  have h1 : aF.eval (.tmp 1) = _ := (hop.el 1 (by kernel_rfl)).trans k1
  exact tw_move (.tmp 1) (.inl (by kernel_rfl)) (fun t ht => by have e : (tkR.getD 47 default).dst = some 100 := (by kernel_rfl); rw [e] at ht; cases ht; exact h1)
set_option maxRecDepth 100000 in
theorem tk_48 (m g q cap2 : Nat) (rest : List Value) (w0 : World) (a0 : Act) (Q : Exit → Act → World → Prop) (k1 : a0.eval (.tmp 1) = .pointer (some ⟨m, 0, none⟩)) (k4 : a0.eval (.tmp 4) = .int .i64 1) (k5 : a0.eval (.tmp 5) = .int .i64 0) (k6 : a0.eval (.tmp 6) = .int .i64 11) (k7 : a0.eval (.tmp 7) = .int .i64 0) (k8 : a0.eval (.tmp 8) = .int .i64 7) (k9 : a0.eval (.tmp 9) = .bool true) (k11 : a0.eval (.tmp 11) = .bool false) (k12 : a0.eval (.tmp 12) = .int .i64 0) (k13 : a0.eval (.tmp 13) = .slice (some ⟨q, 0, none⟩) 1 cap2) : StepOk (md := .any) Try.prog tkR Q (tkA m q cap2) (fun _ _ => True) (Ph tkR (tkS m g q rest w0) 49) a0 48 (tkR.getD 48 default) := by
  refine step_rd (by kernel_rfl) (by decide) (.inr ⟨46, 99, by kernel_rfl, by kernel_rfl, fun v w h => h⟩) (tkS_keep m g q rest w0) (fun _ => True) (fun _ _ _ _ => trivial) (fun aF w b hb hC hop => ?_)
  have hv : (#[(.const (.int .i64 1)), (.const (.int .i64 2))] : Array Operand).map aF.eval = #[.int .i64 1, .int .i64 2] := by simp only [List.map_toArray, List.map_cons, List.map_nil]; first | done | rfl
  exact tw_call 41 #[(.const (.int .i64 1)), (.const (.int .i64 2))] #[3, 3] (by kernel_rfl) #[.int .i64 1, .int .i64 2] hv (fun w => by kernel_rfl) (Calls.mono (pair_any 1 2 w) (fun e w' hh => ⟨_, hh.1, (fun t ht => by have e : (tkR.getD 48 default).dst = some 101 := (by kernel_rfl); rw [e] at ht; cases ht; exact rfl), Touch.none hh.2⟩))
set_option maxRecDepth 100000 in
theorem tk_49 (m g q cap2 : Nat) (rest : List Value) (w0 : World) (a0 : Act) (Q : Exit → Act → World → Prop) (k1 : a0.eval (.tmp 1) = .pointer (some ⟨m, 0, none⟩)) (k4 : a0.eval (.tmp 4) = .int .i64 1) (k5 : a0.eval (.tmp 5) = .int .i64 0) (k6 : a0.eval (.tmp 6) = .int .i64 11) (k7 : a0.eval (.tmp 7) = .int .i64 0) (k8 : a0.eval (.tmp 8) = .int .i64 7) (k9 : a0.eval (.tmp 9) = .bool true) (k11 : a0.eval (.tmp 11) = .bool false) (k12 : a0.eval (.tmp 12) = .int .i64 0) (k13 : a0.eval (.tmp 13) = .slice (some ⟨q, 0, none⟩) 1 cap2) : StepOk (md := .any) Try.prog tkR Q (tkA m q cap2) (fun _ _ => True) (Ph tkR (tkS m g q rest w0) 49) a0 49 (tkR.getD 49 default) := by
  refine step_wr (by kernel_rfl) (.inr ⟨46, 99, by kernel_rfl, by kernel_rfl, fun v w h => h⟩) (fun aF w hC hop => ?_)
  have h100 : (tkA m q cap2) 100 (aF.eval (.tmp 100)) w := hop.rd 100 47 (by kernel_rfl)
  replace h100 : aF.eval (.tmp 100) = .pointer (some ⟨m, 0, none⟩) := h100
  have h101 : (tkA m q cap2) 101 (aF.eval (.tmp 101)) w := hop.rd 101 48 (by kernel_rfl)
  replace h101 : aF.eval (.tmp 101) = .agg #[(.string ((pairP 1 2).lb) : Value), .int .i64 ((pairP 1 2).lp), .string ((pairP 1 2).hb), .int .i64 ((pairP 1 2).hp)] := h101
  obtain ⟨e1, e2, e3, e4, e5, e6, e7⟩ := hC
  have hv : (#[(.tmp 100), (.tmp 101)] : Array Operand).map aF.eval = #[.pointer (some ⟨m, 0, none⟩), .agg #[(.string ((pairP 1 2).lb) : Value), .int .i64 ((pairP 1 2).lp), .string ((pairP 1 2).hb), .int .i64 ((pairP 1 2).hp)]] := by simp only [List.map_toArray, List.map_cons, List.map_nil, h100, h101]; first | done | rfl
  exact tw_callR 38 #[(.tmp 100), (.tmp 101)] #[62, 61] (by kernel_rfl) #[.pointer (some ⟨m, 0, none⟩), .agg #[(.string ((pairP 1 2).lb) : Value), .int .i64 ((pairP 1 2).lp), .string ((pairP 1 2).hb), .int .i64 ((pairP 1 2).hp)]] hv (fun w => by kernel_rfl) (Calls.mono (tab_drop_is e1 (pairP 1 2) (sh_pairP _ _) (z := true) (L2 := []) (by kernel_rfl) (by kernel_rfl)) (fun e w' hh => ⟨_, hh.1, (fun t ht => by have e : (tkR.getD 49 default).dst = some 102 := (by kernel_rfl); rw [e] at ht; cases ht; exact rfl), hh.2.1, e2.keep hh.2.2 (by omega), e3, e4, e5, e6, e7.trans hh.2.2 (fun i hi h => by omega)⟩))
set_option maxRecDepth 100000 in
theorem tk_50 (m g q cap2 : Nat) (rest : List Value) (w0 : World) (a0 : Act) (Q : Exit → Act → World → Prop) (k1 : a0.eval (.tmp 1) = .pointer (some ⟨m, 0, none⟩)) (k4 : a0.eval (.tmp 4) = .int .i64 1) (k5 : a0.eval (.tmp 5) = .int .i64 0) (k6 : a0.eval (.tmp 6) = .int .i64 11) (k7 : a0.eval (.tmp 7) = .int .i64 0) (k8 : a0.eval (.tmp 8) = .int .i64 7) (k9 : a0.eval (.tmp 9) = .bool true) (k11 : a0.eval (.tmp 11) = .bool false) (k12 : a0.eval (.tmp 12) = .int .i64 0) (k13 : a0.eval (.tmp 13) = .slice (some ⟨q, 0, none⟩) 1 cap2) : StepOk (md := .any) Try.prog tkR Q (tkA m q cap2) (fun _ _ => True) (Ph tkR (tkS m g q rest w0) 49) a0 50 (tkR.getD 50 default) := by
  refine step_rd (by kernel_rfl) (by decide) (.inl (by kernel_rfl)) (tkS_keep m g q rest w0) (fun _ => True) (fun _ _ _ _ => trivial) (fun aF w b hb hC hop => ?_)
  have h99 : (tkA m q cap2) 99 (aF.eval (.tmp 99)) w := hop.rd 99 46 (by kernel_rfl)
  replace h99 : aF.eval (.tmp 99) = .bool true := h99
  have h102 : (tkA m q cap2) 102 (aF.eval (.tmp 102)) w := hop.rd 102 49 (by kernel_rfl)
  replace h102 : aF.eval (.tmp 102) = .bool true := h102
  exact tw_pick (.tmp 99) (.tmp 102) (.const (.bool false)) (by kernel_rfl) true h99 (fun t ht => by have e : (tkR.getD 50 default).dst = some 103 := (by kernel_rfl); rw [e] at ht; cases ht; exact h102)
set_option maxRecDepth 100000 in
theorem tk_51 (m g q cap2 : Nat) (rest : List Value) (w0 : World) (a0 : Act) (Q : Exit → Act → World → Prop) (k1 : a0.eval (.tmp 1) = .pointer (some ⟨m, 0, none⟩)) (k4 : a0.eval (.tmp 4) = .int .i64 1) (k5 : a0.eval (.tmp 5) = .int .i64 0) (k6 : a0.eval (.tmp 6) = .int .i64 11) (k7 : a0.eval (.tmp 7) = .int .i64 0) (k8 : a0.eval (.tmp 8) = .int .i64 7) (k9 : a0.eval (.tmp 9) = .bool true) (k11 : a0.eval (.tmp 11) = .bool false) (k12 : a0.eval (.tmp 12) = .int .i64 0) (k13 : a0.eval (.tmp 13) = .slice (some ⟨q, 0, none⟩) 1 cap2) : StepOk (md := .any) Try.prog tkR Q (tkA m q cap2) (fun _ _ => True) (Ph tkR (tkS m g q rest w0) 49) a0 51 (tkR.getD 51 default) := by
  refine step_rd (by kernel_rfl) (by decide) (.inl (by kernel_rfl)) (tkS_keep m g q rest w0) (fun _ => True) (fun _ _ _ _ => trivial) (fun aF w b hb hC hop => ?_)
  have h103 : (tkA m q cap2) 103 (aF.eval (.tmp 103)) w := hop.rd 103 50 (by kernel_rfl)
  replace h103 : aF.eval (.tmp 103) = .bool true := h103
  exact tw_move (.tmp 103) (.inl (by kernel_rfl)) (fun t ht => by have e : (tkR.getD 51 default).dst = some 104 := (by kernel_rfl); rw [e] at ht; cases ht; exact h103)
set_option maxRecDepth 100000 in
theorem tk_52 (m g q cap2 : Nat) (rest : List Value) (w0 : World) (a0 : Act) (Q : Exit → Act → World → Prop) (k1 : a0.eval (.tmp 1) = .pointer (some ⟨m, 0, none⟩)) (k4 : a0.eval (.tmp 4) = .int .i64 1) (k5 : a0.eval (.tmp 5) = .int .i64 0) (k6 : a0.eval (.tmp 6) = .int .i64 11) (k7 : a0.eval (.tmp 7) = .int .i64 0) (k8 : a0.eval (.tmp 8) = .int .i64 7) (k9 : a0.eval (.tmp 9) = .bool true) (k11 : a0.eval (.tmp 11) = .bool false) (k12 : a0.eval (.tmp 12) = .int .i64 0) (k13 : a0.eval (.tmp 13) = .slice (some ⟨q, 0, none⟩) 1 cap2) : StepOk (md := .any) Try.prog tkR Q (tkA m q cap2) (fun _ _ => True) (Ph tkR (tkS m g q rest w0) 49) a0 52 (tkR.getD 52 default) := by
  refine step_rd (by kernel_rfl) (by decide) (.inr ⟨51, 104, by kernel_rfl, by kernel_rfl, fun v w h => h⟩) (tkS_keep m g q rest w0) (fun _ => True) (fun _ _ _ _ => trivial) (fun aF w b hb hC hop => ?_)
  have h1 : aF.eval (.tmp 1) = _ := (hop.el 1 (by kernel_rfl)).trans k1
  exact tw_move (.tmp 1) (.inl (by kernel_rfl)) (fun t ht => by have e : (tkR.getD 52 default).dst = some 105 := (by kernel_rfl); rw [e] at ht; cases ht; exact h1)
set_option maxRecDepth 100000 in
theorem tk_53 (m g q cap2 : Nat) (rest : List Value) (w0 : World) (a0 : Act) (Q : Exit → Act → World → Prop) (k1 : a0.eval (.tmp 1) = .pointer (some ⟨m, 0, none⟩)) (k4 : a0.eval (.tmp 4) = .int .i64 1) (k5 : a0.eval (.tmp 5) = .int .i64 0) (k6 : a0.eval (.tmp 6) = .int .i64 11) (k7 : a0.eval (.tmp 7) = .int .i64 0) (k8 : a0.eval (.tmp 8) = .int .i64 7) (k9 : a0.eval (.tmp 9) = .bool true) (k11 : a0.eval (.tmp 11) = .bool false) (k12 : a0.eval (.tmp 12) = .int .i64 0) (k13 : a0.eval (.tmp 13) = .slice (some ⟨q, 0, none⟩) 1 cap2) : StepOk (md := .any) Try.prog tkR Q (tkA m q cap2) (fun _ _ => True) (Ph tkR (tkS m g q rest w0) 49) a0 53 (tkR.getD 53 default) := by
  refine step_rd (by kernel_rfl) (by decide) (.inr ⟨51, 104, by kernel_rfl, by kernel_rfl, fun v w h => h⟩) (tkS_keep m g q rest w0) (fun _ => True) (fun _ _ _ _ => trivial) (fun aF w b hb hC hop => ?_)
  have hv : (#[(.const (.int .i64 1)), (.const (.int .i64 2))] : Array Operand).map aF.eval = #[.int .i64 1, .int .i64 2] := by simp only [List.map_toArray, List.map_cons, List.map_nil]; first | done | rfl
  exact tw_call 41 #[(.const (.int .i64 1)), (.const (.int .i64 2))] #[3, 3] (by kernel_rfl) #[.int .i64 1, .int .i64 2] hv (fun w => by kernel_rfl) (Calls.mono (pair_any 1 2 w) (fun e w' hh => ⟨_, hh.1, (fun t ht => by have e : (tkR.getD 53 default).dst = some 106 := (by kernel_rfl); rw [e] at ht; cases ht; exact rfl), Touch.none hh.2⟩))
set_option maxRecDepth 100000 in
theorem tk_54 (m g q cap2 : Nat) (rest : List Value) (w0 : World) (a0 : Act) (Q : Exit → Act → World → Prop) (k1 : a0.eval (.tmp 1) = .pointer (some ⟨m, 0, none⟩)) (k4 : a0.eval (.tmp 4) = .int .i64 1) (k5 : a0.eval (.tmp 5) = .int .i64 0) (k6 : a0.eval (.tmp 6) = .int .i64 11) (k7 : a0.eval (.tmp 7) = .int .i64 0) (k8 : a0.eval (.tmp 8) = .int .i64 7) (k9 : a0.eval (.tmp 9) = .bool true) (k11 : a0.eval (.tmp 11) = .bool false) (k12 : a0.eval (.tmp 12) = .int .i64 0) (k13 : a0.eval (.tmp 13) = .slice (some ⟨q, 0, none⟩) 1 cap2) : StepOk (md := .any) Try.prog tkR Q (tkA m q cap2) (fun _ _ => True) (Ph tkR (tkS m g q rest w0) 49) a0 54 (tkR.getD 54 default) := by
  refine step_ph (by kernel_rfl) (by decide) (.inr ⟨51, 104, by kernel_rfl, by kernel_rfl, fun v w h => h⟩) (fun b => b = true) (fun l hc _ ha => ph_behind 70 (by kernel_rfl) l hc ha) (fun aF w b hb hC hop => ?_)
  subst hb
  have h105 : (tkA m q cap2) 105 (aF.eval (.tmp 105)) w := hop.rd 105 52 (by kernel_rfl)
  replace h105 : aF.eval (.tmp 105) = .pointer (some ⟨m, 0, none⟩) := h105
  have h106 : (tkA m q cap2) 106 (aF.eval (.tmp 106)) w := hop.rd 106 53 (by kernel_rfl)
  replace h106 : aF.eval (.tmp 106) = .agg #[(.string ((pairP 1 2).lb) : Value), .int .i64 ((pairP 1 2).lp), .string ((pairP 1 2).hb), .int .i64 ((pairP 1 2).hp)] := h106
  obtain ⟨e1, e2, e3, e4, e5, e6, e7⟩ := hC
  have hv : (#[(.tmp 105), (.tmp 106)] : Array Operand).map aF.eval = #[.pointer (some ⟨m, 0, none⟩), .agg #[(.string ((pairP 1 2).lb) : Value), .int .i64 ((pairP 1 2).lp), .string ((pairP 1 2).hb), .int .i64 ((pairP 1 2).hp)]] := by simp only [List.map_toArray, List.map_cons, List.map_nil, h105, h106]; first | done | rfl
  exact tw_callR 38 #[(.tmp 105), (.tmp 106)] #[62, 61] (by kernel_rfl) #[.pointer (some ⟨m, 0, none⟩), .agg #[(.string ((pairP 1 2).lb) : Value), .int .i64 ((pairP 1 2).lp), .string ((pairP 1 2).hb), .int .i64 ((pairP 1 2).hp)]] hv (fun w => by kernel_rfl) (Calls.mono (tab_drop_is e1 (pairP 1 2) (sh_pairP _ _) (z := false) (L2 := []) (by kernel_rfl) (by kernel_rfl)) (fun e w' hh => ⟨_, hh.1, (fun t ht => by have e : (tkR.getD 54 default).dst = some 107 := (by kernel_rfl); rw [e] at ht; cases ht; exact rfl), hh.2.1, e2.keep hh.2.2 (by omega), e3, e4, e5, e6, e7.trans hh.2.2 (fun i hi h => by omega)⟩))
set_option maxRecDepth 100000 in
theorem tk_55 (m g q cap2 : Nat) (rest : List Value) (w0 : World) (a0 : Act) (Q : Exit → Act → World → Prop) (k1 : a0.eval (.tmp 1) = .pointer (some ⟨m, 0, none⟩)) (k4 : a0.eval (.tmp 4) = .int .i64 1) (k5 : a0.eval (.tmp 5) = .int .i64 0) (k6 : a0.eval (.tmp 6) = .int .i64 11) (k7 : a0.eval (.tmp 7) = .int .i64 0) (k8 : a0.eval (.tmp 8) = .int .i64 7) (k9 : a0.eval (.tmp 9) = .bool true) (k11 : a0.eval (.tmp 11) = .bool false) (k12 : a0.eval (.tmp 12) = .int .i64 0) (k13 : a0.eval (.tmp 13) = .slice (some ⟨q, 0, none⟩) 1 cap2) : StepOk (md := .any) Try.prog tkR Q (tkA m q cap2) (fun _ _ => True) (Ph tkR (tkS m g q rest w0) 49) a0 55 (tkR.getD 55 default) := by
  refine step_rd (by kernel_rfl) (by decide) (.inr ⟨51, 104, by kernel_rfl, by kernel_rfl, fun v w h => h⟩) (tkS_keep m g q rest w0) (fun _ => True) (fun _ _ _ _ => trivial) (fun aF w b hb hC hop => ?_)
  have h107 : (tkA m q cap2) 107 (aF.eval (.tmp 107)) w := hop.rd 107 54 (by kernel_rfl)
  replace h107 : aF.eval (.tmp 107) = .bool false := h107
  exact tw_un .not 4 (.tmp 107) (by kernel_rfl) (.bool false) (.bool true) h107 (fun w => by kernel_rfl) (fun t ht => by have e : (tkR.getD 55 default).dst = some 108 := (by kernel_rfl); rw [e] at ht; cases ht; exact rfl)
set_option maxRecDepth 100000 in
theorem tk_56 (m g q cap2 : Nat) (rest : List Value) (w0 : World) (a0 : Act) (Q : Exit → Act → World → Prop) (k1 : a0.eval (.tmp 1) = .pointer (some ⟨m, 0, none⟩)) (k4 : a0.eval (.tmp 4) = .int .i64 1) (k5 : a0.eval (.tmp 5) = .int .i64 0) (k6 : a0.eval (.tmp 6) = .int .i64 11) (k7 : a0.eval (.tmp 7) = .int .i64 0) (k8 : a0.eval (.tmp 8) = .int .i64 7) (k9 : a0.eval (.tmp 9) = .bool true) (k11 : a0.eval (.tmp 11) = .bool false) (k12 : a0.eval (.tmp 12) = .int .i64 0) (k13 : a0.eval (.tmp 13) = .slice (some ⟨q, 0, none⟩) 1 cap2) : StepOk (md := .any) Try.prog tkR Q (tkA m q cap2) (fun _ _ => True) (Ph tkR (tkS m g q rest w0) 49) a0 56 (tkR.getD 56 default) := by
  refine step_rd (by kernel_rfl) (by decide) (.inl (by kernel_rfl)) (tkS_keep m g q rest w0) (fun _ => True) (fun _ _ _ _ => trivial) (fun aF w b hb hC hop => ?_)
  have h104 : (tkA m q cap2) 104 (aF.eval (.tmp 104)) w := hop.rd 104 51 (by kernel_rfl)
  replace h104 : aF.eval (.tmp 104) = .bool true := h104
  have h108 : (tkA m q cap2) 108 (aF.eval (.tmp 108)) w := hop.rd 108 55 (by kernel_rfl)
  replace h108 : aF.eval (.tmp 108) = .bool true := h108
  exact tw_pick (.tmp 104) (.tmp 108) (.const (.bool false)) (by kernel_rfl) true h104 (fun t ht => by have e : (tkR.getD 56 default).dst = some 109 := (by kernel_rfl); rw [e] at ht; cases ht; exact h108)
set_option maxRecDepth 100000 in
theorem tk_57 (m g q cap2 : Nat) (rest : List Value) (w0 : World) (a0 : Act) (Q : Exit → Act → World → Prop) (k1 : a0.eval (.tmp 1) = .pointer (some ⟨m, 0, none⟩)) (k4 : a0.eval (.tmp 4) = .int .i64 1) (k5 : a0.eval (.tmp 5) = .int .i64 0) (k6 : a0.eval (.tmp 6) = .int .i64 11) (k7 : a0.eval (.tmp 7) = .int .i64 0) (k8 : a0.eval (.tmp 8) = .int .i64 7) (k9 : a0.eval (.tmp 9) = .bool true) (k11 : a0.eval (.tmp 11) = .bool false) (k12 : a0.eval (.tmp 12) = .int .i64 0) (k13 : a0.eval (.tmp 13) = .slice (some ⟨q, 0, none⟩) 1 cap2) : StepOk (md := .any) Try.prog tkR Q (tkA m q cap2) (fun _ _ => True) (Ph tkR (tkS m g q rest w0) 49) a0 57 (tkR.getD 57 default) := by
  refine step_rd (by kernel_rfl) (by decide) (.inl (by kernel_rfl)) (tkS_keep m g q rest w0) (fun _ => True) (fun _ _ _ _ => trivial) (fun aF w b hb hC hop => ?_)
  have h109 : (tkA m q cap2) 109 (aF.eval (.tmp 109)) w := hop.rd 109 56 (by kernel_rfl)
  replace h109 : aF.eval (.tmp 109) = .bool true := h109
  exact tw_move (.tmp 109) (.inl (by kernel_rfl)) (fun t ht => by have e : (tkR.getD 57 default).dst = some 110 := (by kernel_rfl); rw [e] at ht; cases ht; exact h109)
set_option maxRecDepth 100000 in
theorem tk_58 (m g q cap2 : Nat) (rest : List Value) (w0 : World) (a0 : Act) (Q : Exit → Act → World → Prop) (k1 : a0.eval (.tmp 1) = .pointer (some ⟨m, 0, none⟩)) (k4 : a0.eval (.tmp 4) = .int .i64 1) (k5 : a0.eval (.tmp 5) = .int .i64 0) (k6 : a0.eval (.tmp 6) = .int .i64 11) (k7 : a0.eval (.tmp 7) = .int .i64 0) (k8 : a0.eval (.tmp 8) = .int .i64 7) (k9 : a0.eval (.tmp 9) = .bool true) (k11 : a0.eval (.tmp 11) = .bool false) (k12 : a0.eval (.tmp 12) = .int .i64 0) (k13 : a0.eval (.tmp 13) = .slice (some ⟨q, 0, none⟩) 1 cap2) : StepOk (md := .any) Try.prog tkR Q (tkA m q cap2) (fun _ _ => True) (Ph tkR (tkS m g q rest w0) 49) a0 58 (tkR.getD 58 default) := by
  refine step_rd (by kernel_rfl) (by decide) (.inr ⟨57, 110, by kernel_rfl, by kernel_rfl, fun v w h => h⟩) (tkS_keep m g q rest w0) (fun _ => True) (fun _ _ _ _ => trivial) (fun aF w b hb hC hop => ?_)
  have h1 : aF.eval (.tmp 1) = _ := (hop.el 1 (by kernel_rfl)).trans k1
  exact tw_move (.tmp 1) (.inl (by kernel_rfl)) (fun t ht => by have e : (tkR.getD 58 default).dst = some 111 := (by kernel_rfl); rw [e] at ht; cases ht; exact h1)
set_option maxRecDepth 100000 in
theorem tk_59 (m g q cap2 : Nat) (rest : List Value) (w0 : World) (a0 : Act) (Q : Exit → Act → World → Prop) (k1 : a0.eval (.tmp 1) = .pointer (some ⟨m, 0, none⟩)) (k4 : a0.eval (.tmp 4) = .int .i64 1) (k5 : a0.eval (.tmp 5) = .int .i64 0) (k6 : a0.eval (.tmp 6) = .int .i64 11) (k7 : a0.eval (.tmp 7) = .int .i64 0) (k8 : a0.eval (.tmp 8) = .int .i64 7) (k9 : a0.eval (.tmp 9) = .bool true) (k11 : a0.eval (.tmp 11) = .bool false) (k12 : a0.eval (.tmp 12) = .int .i64 0) (k13 : a0.eval (.tmp 13) = .slice (some ⟨q, 0, none⟩) 1 cap2) : StepOk (md := .any) Try.prog tkR Q (tkA m q cap2) (fun _ _ => True) (Ph tkR (tkS m g q rest w0) 49) a0 59 (tkR.getD 59 default) := by
  refine step_rd (by kernel_rfl) (by decide) (.inr ⟨57, 110, by kernel_rfl, by kernel_rfl, fun v w h => h⟩) (tkS_keep m g q rest w0) (fun b => b = true) (fun l hc _ ha => ph_behind 70 (by kernel_rfl) l hc ha) (fun aF w b hb hC hop => ?_)
  subst hb
  have h111 : (tkA m q cap2) 111 (aF.eval (.tmp 111)) w := hop.rd 111 58 (by kernel_rfl)
  replace h111 : aF.eval (.tmp 111) = .pointer (some ⟨m, 0, none⟩) := h111
  have hv : (#[(.tmp 111)] : Array Operand).map aF.eval = #[.pointer (some ⟨m, 0, none⟩)] := by simp only [List.map_toArray, List.map_cons, List.map_nil, h111]; first | done | rfl
  exact tw_call 40 #[(.tmp 111)] #[62] (by kernel_rfl) #[.pointer (some ⟨m, 0, none⟩)] hv (fun w => by kernel_rfl) (Calls.mono (tab_room hC.1) (fun e w' hh => ⟨_, hh.1, (fun t ht => by have e : (tkR.getD 59 default).dst = some 112 := (by kernel_rfl); rw [e] at ht; cases ht; exact rfl), Touch.none hh.2⟩))
set_option maxRecDepth 100000 in
theorem tk_60 (m g q cap2 : Nat) (rest : List Value) (w0 : World) (a0 : Act) (Q : Exit → Act → World → Prop) (k1 : a0.eval (.tmp 1) = .pointer (some ⟨m, 0, none⟩)) (k4 : a0.eval (.tmp 4) = .int .i64 1) (k5 : a0.eval (.tmp 5) = .int .i64 0) (k6 : a0.eval (.tmp 6) = .int .i64 11) (k7 : a0.eval (.tmp 7) = .int .i64 0) (k8 : a0.eval (.tmp 8) = .int .i64 7) (k9 : a0.eval (.tmp 9) = .bool true) (k11 : a0.eval (.tmp 11) = .bool false) (k12 : a0.eval (.tmp 12) = .int .i64 0) (k13 : a0.eval (.tmp 13) = .slice (some ⟨q, 0, none⟩) 1 cap2) : StepOk (md := .any) Try.prog tkR Q (tkA m q cap2) (fun _ _ => True) (Ph tkR (tkS m g q rest w0) 49) a0 60 (tkR.getD 60 default) := by
  refine step_rd (by kernel_rfl) (by decide) (.inr ⟨57, 110, by kernel_rfl, by kernel_rfl, fun v w h => h⟩) (tkS_keep m g q rest w0) (fun _ => True) (fun _ _ _ _ => trivial) (fun aF w b hb hC hop => ?_)
  have h112 : (tkA m q cap2) 112 (aF.eval (.tmp 112)) w := hop.rd 112 59 (by kernel_rfl)
  replace h112 : aF.eval (.tmp 112) = .int .i64 1 := h112
  exact tw_bin .eql 3 3 (.tmp 112) (.const (.int .i64 1)) (by kernel_rfl) (.int .i64 1) (.int .i64 1) (.bool true) h112 rfl (fun w => by kernel_rfl) (fun t ht => by have e : (tkR.getD 60 default).dst = some 113 := (by kernel_rfl); rw [e] at ht; cases ht; exact rfl)
set_option maxRecDepth 100000 in
theorem tk_61 (m g q cap2 : Nat) (rest : List Value) (w0 : World) (a0 : Act) (Q : Exit → Act → World → Prop) (k1 : a0.eval (.tmp 1) = .pointer (some ⟨m, 0, none⟩)) (k4 : a0.eval (.tmp 4) = .int .i64 1) (k5 : a0.eval (.tmp 5) = .int .i64 0) (k6 : a0.eval (.tmp 6) = .int .i64 11) (k7 : a0.eval (.tmp 7) = .int .i64 0) (k8 : a0.eval (.tmp 8) = .int .i64 7) (k9 : a0.eval (.tmp 9) = .bool true) (k11 : a0.eval (.tmp 11) = .bool false) (k12 : a0.eval (.tmp 12) = .int .i64 0) (k13 : a0.eval (.tmp 13) = .slice (some ⟨q, 0, none⟩) 1 cap2) : StepOk (md := .any) Try.prog tkR Q (tkA m q cap2) (fun _ _ => True) (Ph tkR (tkS m g q rest w0) 49) a0 61 (tkR.getD 61 default) := by
  refine step_rd (by kernel_rfl) (by decide) (.inl (by kernel_rfl)) (tkS_keep m g q rest w0) (fun _ => True) (fun _ _ _ _ => trivial) (fun aF w b hb hC hop => ?_)
  have h110 : (tkA m q cap2) 110 (aF.eval (.tmp 110)) w := hop.rd 110 57 (by kernel_rfl)
  replace h110 : aF.eval (.tmp 110) = .bool true := h110
  have h113 : (tkA m q cap2) 113 (aF.eval (.tmp 113)) w := hop.rd 113 60 (by kernel_rfl)
  replace h113 : aF.eval (.tmp 113) = .bool true := h113
  exact tw_pick (.tmp 110) (.tmp 113) (.const (.bool false)) (by kernel_rfl) true h110 (fun t ht => by have e : (tkR.getD 61 default).dst = some 114 := (by kernel_rfl); rw [e] at ht; cases ht; exact h113)
set_option maxRecDepth 100000 in
theorem tk_62 (m g q cap2 : Nat) (rest : List Value) (w0 : World) (a0 : Act) (Q : Exit → Act → World → Prop) (k1 : a0.eval (.tmp 1) = .pointer (some ⟨m, 0, none⟩)) (k4 : a0.eval (.tmp 4) = .int .i64 1) (k5 : a0.eval (.tmp 5) = .int .i64 0) (k6 : a0.eval (.tmp 6) = .int .i64 11) (k7 : a0.eval (.tmp 7) = .int .i64 0) (k8 : a0.eval (.tmp 8) = .int .i64 7) (k9 : a0.eval (.tmp 9) = .bool true) (k11 : a0.eval (.tmp 11) = .bool false) (k12 : a0.eval (.tmp 12) = .int .i64 0) (k13 : a0.eval (.tmp 13) = .slice (some ⟨q, 0, none⟩) 1 cap2) : StepOk (md := .any) Try.prog tkR Q (tkA m q cap2) (fun _ _ => True) (Ph tkR (tkS m g q rest w0) 49) a0 62 (tkR.getD 62 default) := by
  refine step_rd (by kernel_rfl) (by decide) (.inl (by kernel_rfl)) (tkS_keep m g q rest w0) (fun _ => True) (fun _ _ _ _ => trivial) (fun aF w b hb hC hop => ?_)
  have h114 : (tkA m q cap2) 114 (aF.eval (.tmp 114)) w := hop.rd 114 61 (by kernel_rfl)
  replace h114 : aF.eval (.tmp 114) = .bool true := h114
  exact tw_move (.tmp 114) (.inr (by kernel_rfl)) (fun t ht => by have e : (tkR.getD 62 default).dst = some 0 := (by kernel_rfl); rw [e] at ht; cases ht; exact h114)
set_option maxRecDepth 100000 in
theorem tk_all (m g q cap2 : Nat) (rest : List Value) (w0 : World) (a0 : Act) (Q : Exit → Act → World → Prop) (k1 : a0.eval (.tmp 1) = .pointer (some ⟨m, 0, none⟩)) (k4 : a0.eval (.tmp 4) = .int .i64 1) (k5 : a0.eval (.tmp 5) = .int .i64 0) (k6 : a0.eval (.tmp 6) = .int .i64 11) (k7 : a0.eval (.tmp 7) = .int .i64 0) (k8 : a0.eval (.tmp 8) = .int .i64 7) (k9 : a0.eval (.tmp 9) = .bool true) (k11 : a0.eval (.tmp 11) = .bool false) (k12 : a0.eval (.tmp 12) = .int .i64 0) (k13 : a0.eval (.tmp 13) = .slice (some ⟨q, 0, none⟩) 1 cap2) : ∀ i, i < 63 → StepOk (md := .any) Try.prog tkR Q (tkA m q cap2) (fun _ _ => True) (Ph tkR (tkS m g q rest w0) 49) a0 i (tkR.getD i default)
  | 0, _ => tk_0 m g q cap2 rest w0 a0 Q k1 k4 k5 k6 k7 k8 k9 k11 k12 k13
  | 1, _ => tk_1 m g q cap2 rest w0 a0 Q k1 k4 k5 k6 k7 k8 k9 k11 k12 k13
  | 2, _ => tk_2 m g q cap2 rest w0 a0 Q k1 k4 k5 k6 k7 k8 k9 k11 k12 k13
  | 3, _ => tk_3 m g q cap2 rest w0 a0 Q k1 k4 k5 k6 k7 k8 k9 k11 k12 k13
  | 4, _ => tk_4 m g q cap2 rest w0 a0 Q k1 k4 k5 k6 k7 k8 k9 k11 k12 k13
  | 5, _ => tk_5 m g q cap2 rest w0 a0 Q k1 k4 k5 k6 k7 k8 k9 k11 k12 k13
  | 6, _ => tk_6 m g q cap2 rest w0 a0 Q k1 k4 k5 k6 k7 k8 k9 k11 k12 k13
  | 7, _ => tk_7 m g q cap2 rest w0 a0 Q k1 k4 k5 k6 k7 k8 k9 k11 k12 k13
  | 8, _ => tk_8 m g q cap2 rest w0 a0 Q k1 k4 k5 k6 k7 k8 k9 k11 k12 k13
  | 9, _ => tk_9 m g q cap2 rest w0 a0 Q k1 k4 k5 k6 k7 k8 k9 k11 k12 k13
  | 10, _ => tk_10 m g q cap2 rest w0 a0 Q k1 k4 k5 k6 k7 k8 k9 k11 k12 k13
  | 11, _ => tk_11 m g q cap2 rest w0 a0 Q k1 k4 k5 k6 k7 k8 k9 k11 k12 k13
  | 12, _ => tk_12 m g q cap2 rest w0 a0 Q k1 k4 k5 k6 k7 k8 k9 k11 k12 k13
  | 13, _ => tk_13 m g q cap2 rest w0 a0 Q k1 k4 k5 k6 k7 k8 k9 k11 k12 k13
  | 14, _ => tk_14 m g q cap2 rest w0 a0 Q k1 k4 k5 k6 k7 k8 k9 k11 k12 k13
  | 15, _ => tk_15 m g q cap2 rest w0 a0 Q k1 k4 k5 k6 k7 k8 k9 k11 k12 k13
  | 16, _ => tk_16 m g q cap2 rest w0 a0 Q k1 k4 k5 k6 k7 k8 k9 k11 k12 k13
  | 17, _ => tk_17 m g q cap2 rest w0 a0 Q k1 k4 k5 k6 k7 k8 k9 k11 k12 k13
  | 18, _ => tk_18 m g q cap2 rest w0 a0 Q k1 k4 k5 k6 k7 k8 k9 k11 k12 k13
  | 19, _ => tk_19 m g q cap2 rest w0 a0 Q k1 k4 k5 k6 k7 k8 k9 k11 k12 k13
  | 20, _ => tk_20 m g q cap2 rest w0 a0 Q k1 k4 k5 k6 k7 k8 k9 k11 k12 k13
  | 21, _ => tk_21 m g q cap2 rest w0 a0 Q k1 k4 k5 k6 k7 k8 k9 k11 k12 k13
  | 22, _ => tk_22 m g q cap2 rest w0 a0 Q k1 k4 k5 k6 k7 k8 k9 k11 k12 k13
  | 23, _ => tk_23 m g q cap2 rest w0 a0 Q k1 k4 k5 k6 k7 k8 k9 k11 k12 k13
  | 24, _ => tk_24 m g q cap2 rest w0 a0 Q k1 k4 k5 k6 k7 k8 k9 k11 k12 k13
  | 25, _ => tk_25 m g q cap2 rest w0 a0 Q k1 k4 k5 k6 k7 k8 k9 k11 k12 k13
  | 26, _ => tk_26 m g q cap2 rest w0 a0 Q k1 k4 k5 k6 k7 k8 k9 k11 k12 k13
  | 27, _ => tk_27 m g q cap2 rest w0 a0 Q k1 k4 k5 k6 k7 k8 k9 k11 k12 k13
  | 28, _ => tk_28 m g q cap2 rest w0 a0 Q k1 k4 k5 k6 k7 k8 k9 k11 k12 k13
  | 29, _ => tk_29 m g q cap2 rest w0 a0 Q k1 k4 k5 k6 k7 k8 k9 k11 k12 k13
  | 30, _ => tk_30 m g q cap2 rest w0 a0 Q k1 k4 k5 k6 k7 k8 k9 k11 k12 k13
  | 31, _ => tk_31 m g q cap2 rest w0 a0 Q k1 k4 k5 k6 k7 k8 k9 k11 k12 k13
  | 32, _ => tk_32 m g q cap2 rest w0 a0 Q k1 k4 k5 k6 k7 k8 k9 k11 k12 k13
  | 33, _ => tk_33 m g q cap2 rest w0 a0 Q k1 k4 k5 k6 k7 k8 k9 k11 k12 k13
  | 34, _ => tk_34 m g q cap2 rest w0 a0 Q k1 k4 k5 k6 k7 k8 k9 k11 k12 k13
  | 35, _ => tk_35 m g q cap2 rest w0 a0 Q k1 k4 k5 k6 k7 k8 k9 k11 k12 k13
  | 36, _ => tk_36 m g q cap2 rest w0 a0 Q k1 k4 k5 k6 k7 k8 k9 k11 k12 k13
  | 37, _ => tk_37 m g q cap2 rest w0 a0 Q k1 k4 k5 k6 k7 k8 k9 k11 k12 k13
  | 38, _ => tk_38 m g q cap2 rest w0 a0 Q k1 k4 k5 k6 k7 k8 k9 k11 k12 k13
  | 39, _ => tk_39 m g q cap2 rest w0 a0 Q k1 k4 k5 k6 k7 k8 k9 k11 k12 k13
  | 40, _ => tk_40 m g q cap2 rest w0 a0 Q k1 k4 k5 k6 k7 k8 k9 k11 k12 k13
  | 41, _ => tk_41 m g q cap2 rest w0 a0 Q k1 k4 k5 k6 k7 k8 k9 k11 k12 k13
  | 42, _ => tk_42 m g q cap2 rest w0 a0 Q k1 k4 k5 k6 k7 k8 k9 k11 k12 k13
  | 43, _ => tk_43 m g q cap2 rest w0 a0 Q k1 k4 k5 k6 k7 k8 k9 k11 k12 k13
  | 44, _ => tk_44 m g q cap2 rest w0 a0 Q k1 k4 k5 k6 k7 k8 k9 k11 k12 k13
  | 45, _ => tk_45 m g q cap2 rest w0 a0 Q k1 k4 k5 k6 k7 k8 k9 k11 k12 k13
  | 46, _ => tk_46 m g q cap2 rest w0 a0 Q k1 k4 k5 k6 k7 k8 k9 k11 k12 k13
  | 47, _ => tk_47 m g q cap2 rest w0 a0 Q k1 k4 k5 k6 k7 k8 k9 k11 k12 k13
  | 48, _ => tk_48 m g q cap2 rest w0 a0 Q k1 k4 k5 k6 k7 k8 k9 k11 k12 k13
  | 49, _ => tk_49 m g q cap2 rest w0 a0 Q k1 k4 k5 k6 k7 k8 k9 k11 k12 k13
  | 50, _ => tk_50 m g q cap2 rest w0 a0 Q k1 k4 k5 k6 k7 k8 k9 k11 k12 k13
  | 51, _ => tk_51 m g q cap2 rest w0 a0 Q k1 k4 k5 k6 k7 k8 k9 k11 k12 k13
  | 52, _ => tk_52 m g q cap2 rest w0 a0 Q k1 k4 k5 k6 k7 k8 k9 k11 k12 k13
  | 53, _ => tk_53 m g q cap2 rest w0 a0 Q k1 k4 k5 k6 k7 k8 k9 k11 k12 k13
  | 54, _ => tk_54 m g q cap2 rest w0 a0 Q k1 k4 k5 k6 k7 k8 k9 k11 k12 k13
  | 55, _ => tk_55 m g q cap2 rest w0 a0 Q k1 k4 k5 k6 k7 k8 k9 k11 k12 k13
  | 56, _ => tk_56 m g q cap2 rest w0 a0 Q k1 k4 k5 k6 k7 k8 k9 k11 k12 k13
  | 57, _ => tk_57 m g q cap2 rest w0 a0 Q k1 k4 k5 k6 k7 k8 k9 k11 k12 k13
  | 58, _ => tk_58 m g q cap2 rest w0 a0 Q k1 k4 k5 k6 k7 k8 k9 k11 k12 k13
  | 59, _ => tk_59 m g q cap2 rest w0 a0 Q k1 k4 k5 k6 k7 k8 k9 k11 k12 k13
  | 60, _ => tk_60 m g q cap2 rest w0 a0 Q k1 k4 k5 k6 k7 k8 k9 k11 k12 k13
  | 61, _ => tk_61 m g q cap2 rest w0 a0 Q k1 k4 k5 k6 k7 k8 k9 k11 k12 k13
  | 62, _ => tk_62 m g q cap2 rest w0 a0 Q k1 k4 k5 k6 k7 k8 k9 k11 k12 k13
  | k + 63, h => absurd h (by omega)
set_option maxRecDepth 100000 in
set_option maxHeartbeats 4000000 in
theorem tknown_any (w : World) : Calls Try.prog 35 #[] w fun e w' => e = .returned (.bool true) ∧ Below w.heap.size w w' := by
  have hT0 := Touch.refl (fun _ => False) w
  go_enter Try.func35, Try.ntmps35
  refine wp_seq_k fun K1 hK1 => ?_
  refine wl_region ?_
  refine dw_val (by kernel_rfl) (.bool false) (by kernel_rfl) ?_
  simp only [Act.put, List.setIfInBounds_toArray, List.set_cons_zero, List.set_cons_succ]
  refine wl_nil ?_
  refine hK1 _ _ ?_
  refine wp_seq_k fun K2 hK2 => ?_
  refine wl_region ?_
  refine dw_enter (by kernel_rfl) 33 #[(.int .i64 1 : Value)] (by kernel_rfl) ?_
  (with_reducible refine Calls.mono (tab_new1 w) ?_)
  rintro e w1 ⟨m, g, rfl, hm, hg0, hb, hTab⟩
  refine ⟨_, rfl, ?_⟩
  have ht := Touch.none hb
  clear hb
  replace hT0 := hT0.trans ht (fun _ _ h => h.elim)
  simp only [Act.put, List.setIfInBounds_toArray, List.set_cons_zero, List.set_cons_succ]
  refine dw_val (by kernel_rfl) (.tuple #[(.pointer (some ⟨m, 0, none⟩) : Value), .int .i64 0]) (by kernel_rfl) ?_
  simp only [Act.put, List.setIfInBounds_toArray, List.set_cons_zero, List.set_cons_succ]
  refine dw_val (by kernel_rfl) (.pointer (some ⟨m, 0, none⟩)) (by kernel_rfl) ?_
  simp only [Act.put, List.setIfInBounds_toArray, List.set_cons_zero, List.set_cons_succ]
  refine dw_val (by kernel_rfl) (.int .i64 0) (by kernel_rfl) ?_
  simp only [Act.put, List.setIfInBounds_toArray, List.set_cons_zero, List.set_cons_succ]
  refine dw_val (by kernel_rfl) (.pointer (some ⟨m, 0, none⟩)) (by kernel_rfl) ?_
  simp only [Act.put, List.setIfInBounds_toArray, List.set_cons_zero, List.set_cons_succ]
  refine dw_val (by kernel_rfl) (.int .i64 0) (by kernel_rfl) ?_
  simp only [Act.put, List.setIfInBounds_toArray, List.set_cons_zero, List.set_cons_succ]
  refine wl_nil ?_
  refine hK2 _ _ ?_
  refine wp_seq_k fun K3 hK3 => ?_
  refine wl_region ?_
  refine dw_ret (by kernel_rfl) 33 #[(.int .i64 0 : Value)] (by kernel_rfl) (new_zero w1) ?_
  intro w2 hb
  have ht3 : Touch (fun _ => False) w1 w2 := Touch.none hb
  replace hTab := hTab.keep ht3 (fun h => h) (fun h => h)
  replace hT0 := hT0.trans ht3 (fun _ _ h => h.elim)
  clear hb
  simp only [Act.put, List.setIfInBounds_toArray, List.set_cons_zero, List.set_cons_succ]
  refine dw_val (by kernel_rfl) (.tuple #[(.pointer none : Value), .int .i64 1]) (by kernel_rfl) ?_
  simp only [Act.put, List.setIfInBounds_toArray, List.set_cons_zero, List.set_cons_succ]
  refine dw_val (by kernel_rfl) (.pointer none) (by kernel_rfl) ?_
  simp only [Act.put, List.setIfInBounds_toArray, List.set_cons_zero, List.set_cons_succ]
  refine dw_val (by kernel_rfl) (.int .i64 1) (by kernel_rfl) ?_
  simp only [Act.put, List.setIfInBounds_toArray, List.set_cons_zero, List.set_cons_succ]
  refine dw_val (by kernel_rfl) (.pointer none) (by kernel_rfl) ?_
  simp only [Act.put, List.setIfInBounds_toArray, List.set_cons_zero, List.set_cons_succ]
  refine dw_val (by kernel_rfl) (.int .i64 1) (by kernel_rfl) ?_
  simp only [Act.put, List.setIfInBounds_toArray, List.set_cons_zero, List.set_cons_succ]
  refine wl_nil ?_
  refine hK3 _ _ ?_
  refine wp_seq_k fun K4 hK4 => ?_
  refine wp_seq_k fun K5 hK5 => ?_
  refine wl_region ?_
  refine dw_val (by kernel_rfl) (.int .i64 0) (by kernel_rfl) ?_
  simp only [Act.put, List.setIfInBounds_toArray, List.set_cons_zero, List.set_cons_succ]
  refine dw_val (by kernel_rfl) (.bool false) (by kernel_rfl) ?_
  simp only [Act.put, List.setIfInBounds_toArray, List.set_cons_zero, List.set_cons_succ]
  refine dw_val (by kernel_rfl) (.bool false) (by kernel_rfl) ?_
  simp only [Act.put, List.setIfInBounds_toArray, List.set_cons_zero, List.set_cons_succ]
  refine dw_val (by kernel_rfl) (.pointer (some ⟨m, 0, none⟩)) (by kernel_rfl) ?_
  simp only [Act.put, List.setIfInBounds_toArray, List.set_cons_zero, List.set_cons_succ]
  refine dw_val (by kernel_rfl) (.bool false) (by kernel_rfl) ?_
  simp only [Act.put, List.setIfInBounds_toArray, List.set_cons_zero, List.set_cons_succ]
  refine dw_val (by kernel_rfl) (.bool false) (by kernel_rfl) ?_
  simp only [Act.put, List.setIfInBounds_toArray, List.set_cons_zero, List.set_cons_succ]
  refine wl_nil ?_
  refine hK5 _ _ ?_
  refine wp_cond_false rfl ?_
  refine wp_skip ?_
  refine hK4 _ _ ?_
  refine wp_seq_k fun K6 hK6 => ?_
  refine wl_region ?_
  refine dw_val (by kernel_rfl) (.pointer (some ⟨m, 0, none⟩)) (by kernel_rfl) ?_
  simp only [Act.put, List.setIfInBounds_toArray, List.set_cons_zero, List.set_cons_succ]
  refine dw_ret (by kernel_rfl) 41 #[(.int .i64 1 : Value), .int .i64 2] (by kernel_rfl) (pair_any 1 2 w2) ?_
  intro w4 hb
  have ht5 : Touch (fun _ => False) w2 w4 := Touch.none hb
  replace hTab := hTab.keep ht5 (fun h => h) (fun h => h)
  replace hT0 := hT0.trans ht5 (fun _ _ h => h.elim)
  clear hb
  simp only [Act.put, List.setIfInBounds_toArray, List.set_cons_zero, List.set_cons_succ]
  refine dw_enter (by kernel_rfl) 36 #[(.pointer (some ⟨m, 0, none⟩) : Value), .agg #[(.string ((pairP 1 2).lb) : Value), .int .i64 ((pairP 1 2).lp), .string ((pairP 1 2).hb), .int .i64 ((pairP 1 2).hp)], .int .i64 5] (by kernel_rfl) ?_
  (with_reducible refine Calls.mono (tab_put_is hTab (pairP 1 2) (sh_pairP _ _) 5 (z := 0) (L2 := [(pairP 1 2, 5)]) (by kernel_rfl) (by kernel_rfl)) ?_)
  rintro e w6 ⟨rfl, g', hTab', hgg, ht⟩
  refine ⟨_, rfl, ?_⟩
  have hg' : w.heap.size ≤ g' := by have := hT0.size; omega
  replace hT0 := hT0.trans ht (fun i hi h => by omega)
  clear hTab ht hgg hg0; have hTab := hTab'; have hg0 := hg'; clear hTab' hg'
  skip
  simp only [Act.put, List.setIfInBounds_toArray, List.set_cons_zero, List.set_cons_succ]
  refine dw_val (by kernel_rfl) (.int .i64 0) (by kernel_rfl) ?_
  simp only [Act.put, List.setIfInBounds_toArray, List.set_cons_zero, List.set_cons_succ]
  refine wl_nil ?_
  refine hK6 _ _ ?_
  refine wp_seq_k fun K7 hK7 => ?_
  refine wl_region ?_
  refine dw_val (by kernel_rfl) (.pointer (some ⟨m, 0, none⟩)) (by kernel_rfl) ?_
  simp only [Act.put, List.setIfInBounds_toArray, List.set_cons_zero, List.set_cons_succ]
  refine dw_ret (by kernel_rfl) 41 #[(.int .i64 1 : Value), .int .i64 3] (by kernel_rfl) (pair_any 1 3 w6) ?_
  intro w7 hb
  have ht8 : Touch (fun _ => False) w6 w7 := Touch.none hb
  replace hTab := hTab.keep ht8 (fun h => h) (fun h => h)
  replace hT0 := hT0.trans ht8 (fun _ _ h => h.elim)
  clear hb
  simp only [Act.put, List.setIfInBounds_toArray, List.set_cons_zero, List.set_cons_succ]
  refine dw_enter (by kernel_rfl) 36 #[(.pointer (some ⟨m, 0, none⟩) : Value), .agg #[(.string ((pairP 1 3).lb) : Value), .int .i64 ((pairP 1 3).lp), .string ((pairP 1 3).hb), .int .i64 ((pairP 1 3).hp)], .int .i64 6] (by kernel_rfl) ?_
  (with_reducible refine Calls.mono (tab_put_is hTab (pairP 1 3) (sh_pairP _ _) 6 (z := 11) (L2 := [(pairP 1 2, 5)]) (by kernel_rfl) (by kernel_rfl)) ?_)
  rintro e w9 ⟨rfl, g', hTab', hgg, ht⟩
  refine ⟨_, rfl, ?_⟩
  have hg' : w.heap.size ≤ g' := by have := hT0.size; omega
  replace hT0 := hT0.trans ht (fun i hi h => by omega)
  clear hTab ht hgg hg0; have hTab := hTab'; have hg0 := hg'; clear hTab' hg'
  skip
  simp only [Act.put, List.setIfInBounds_toArray, List.set_cons_zero, List.set_cons_succ]
  refine dw_val (by kernel_rfl) (.int .i64 11) (by kernel_rfl) ?_
  simp only [Act.put, List.setIfInBounds_toArray, List.set_cons_zero, List.set_cons_succ]
  refine wl_nil ?_
  refine hK7 _ _ ?_
  refine wp_seq_k fun K8 hK8 => ?_
  refine wl_region ?_
  refine dw_val (by kernel_rfl) (.pointer (some ⟨m, 0, none⟩)) (by kernel_rfl) ?_
  simp only [Act.put, List.setIfInBounds_toArray, List.set_cons_zero, List.set_cons_succ]
  refine dw_ret (by kernel_rfl) 41 #[(.int .i64 1 : Value), .int .i64 2] (by kernel_rfl) (pair_any 1 2 w9) ?_
  intro w10 hb
  have ht11 : Touch (fun _ => False) w9 w10 := Touch.none hb
  replace hTab := hTab.keep ht11 (fun h => h) (fun h => h)
  replace hT0 := hT0.trans ht11 (fun _ _ h => h.elim)
  clear hb
  simp only [Act.put, List.setIfInBounds_toArray, List.set_cons_zero, List.set_cons_succ]
  refine dw_enter (by kernel_rfl) 36 #[(.pointer (some ⟨m, 0, none⟩) : Value), .agg #[(.string ((pairP 1 2).lb) : Value), .int .i64 ((pairP 1 2).lp), .string ((pairP 1 2).hb), .int .i64 ((pairP 1 2).hp)], .int .i64 7] (by kernel_rfl) ?_
  (with_reducible refine Calls.mono (tab_put_is hTab (pairP 1 2) (sh_pairP _ _) 7 (z := 0) (L2 := [(pairP 1 2, 7)]) (by kernel_rfl) (by kernel_rfl)) ?_)
  rintro e w12 ⟨rfl, g', hTab', hgg, ht⟩
  refine ⟨_, rfl, ?_⟩
  have hg' : w.heap.size ≤ g' := by have := hT0.size; omega
  replace hT0 := hT0.trans ht (fun i hi h => by omega)
  clear hTab ht hgg hg0; have hTab := hTab'; have hg0 := hg'; clear hTab' hg'
  skip
  simp only [Act.put, List.setIfInBounds_toArray, List.set_cons_zero, List.set_cons_succ]
  refine dw_val (by kernel_rfl) (.int .i64 0) (by kernel_rfl) ?_
  simp only [Act.put, List.setIfInBounds_toArray, List.set_cons_zero, List.set_cons_succ]
  refine wl_nil ?_
  refine hK8 _ _ ?_
  refine wp_seq_k fun K9 hK9 => ?_
  refine wl_region ?_
  refine dw_val (by kernel_rfl) (.pointer (some ⟨m, 0, none⟩)) (by kernel_rfl) ?_
  simp only [Act.put, List.setIfInBounds_toArray, List.set_cons_zero, List.set_cons_succ]
  refine dw_ret (by kernel_rfl) 41 #[(.int .i64 1 : Value), .int .i64 2] (by kernel_rfl) (pair_any 1 2 w12) ?_
  intro w13 hb
  have ht14 : Touch (fun _ => False) w12 w13 := Touch.none hb
  replace hTab := hTab.keep ht14 (fun h => h) (fun h => h)
  replace hT0 := hT0.trans ht14 (fun _ _ h => h.elim)
  clear hb
  simp only [Act.put, List.setIfInBounds_toArray, List.set_cons_zero, List.set_cons_succ]
  refine dw_ret (by kernel_rfl) 39 #[(.pointer (some ⟨m, 0, none⟩) : Value), .agg #[(.string ((pairP 1 2).lb) : Value), .int .i64 ((pairP 1 2).lp), .string ((pairP 1 2).hb), .int .i64 ((pairP 1 2).hp)]] (by kernel_rfl) (tab_get_yes hTab (pairP 1 2) (sh_pairP _ _) (x := 7) (by kernel_rfl)) ?_
  intro w15 hb
  have ht16 : Touch (fun _ => False) w13 w15 := Touch.none hb
  replace hTab := hTab.keep ht16 (fun h => h) (fun h => h)
  replace hT0 := hT0.trans ht16 (fun _ _ h => h.elim)
  clear hb
  simp only [Act.put, List.setIfInBounds_toArray, List.set_cons_zero, List.set_cons_succ]
  refine dw_val (by kernel_rfl) (.tuple #[(.int .i64 7 : Value), .bool true]) (by kernel_rfl) ?_
  simp only [Act.put, List.setIfInBounds_toArray, List.set_cons_zero, List.set_cons_succ]
  refine dw_val (by kernel_rfl) (.int .i64 7) (by kernel_rfl) ?_
  simp only [Act.put, List.setIfInBounds_toArray, List.set_cons_zero, List.set_cons_succ]
  refine dw_val (by kernel_rfl) (.bool true) (by kernel_rfl) ?_
  simp only [Act.put, List.setIfInBounds_toArray, List.set_cons_zero, List.set_cons_succ]
  refine dw_val (by kernel_rfl) (.int .i64 7) (by kernel_rfl) ?_
  simp only [Act.put, List.setIfInBounds_toArray, List.set_cons_zero, List.set_cons_succ]
  refine dw_val (by kernel_rfl) (.bool true) (by kernel_rfl) ?_
  simp only [Act.put, List.setIfInBounds_toArray, List.set_cons_zero, List.set_cons_succ]
  refine wl_nil ?_
  refine hK9 _ _ ?_
  refine wp_seq_k fun K10 hK10 => ?_
  refine wl_region ?_
  refine dw_val (by kernel_rfl) (.pointer (some ⟨m, 0, none⟩)) (by kernel_rfl) ?_
  simp only [Act.put, List.setIfInBounds_toArray, List.set_cons_zero, List.set_cons_succ]
  refine dw_ret (by kernel_rfl) 41 #[(.int .i64 2 : Value), .int .i64 1] (by kernel_rfl) (pair_any 2 1 w15) ?_
  intro w17 hb
  have ht18 : Touch (fun _ => False) w15 w17 := Touch.none hb
  replace hTab := hTab.keep ht18 (fun h => h) (fun h => h)
  replace hT0 := hT0.trans ht18 (fun _ _ h => h.elim)
  clear hb
  simp only [Act.put, List.setIfInBounds_toArray, List.set_cons_zero, List.set_cons_succ]
  refine dw_ret (by kernel_rfl) 39 #[(.pointer (some ⟨m, 0, none⟩) : Value), .agg #[(.string ((pairP 2 1).lb) : Value), .int .i64 ((pairP 2 1).lp), .string ((pairP 2 1).hb), .int .i64 ((pairP 2 1).hp)]] (by kernel_rfl) (tab_get_no hTab (pairP 2 1) (sh_pairP _ _) (by kernel_rfl)) ?_
  intro w19 hb
  have ht20 : Touch (fun _ => False) w17 w19 := Touch.none hb
  replace hTab := hTab.keep ht20 (fun h => h) (fun h => h)
  replace hT0 := hT0.trans ht20 (fun _ _ h => h.elim)
  clear hb
  simp only [Act.put, List.setIfInBounds_toArray, List.set_cons_zero, List.set_cons_succ]
  refine dw_val (by kernel_rfl) (.tuple #[(.int .i64 0 : Value), .bool false]) (by kernel_rfl) ?_
  simp only [Act.put, List.setIfInBounds_toArray, List.set_cons_zero, List.set_cons_succ]
  refine dw_val (by kernel_rfl) (.int .i64 0) (by kernel_rfl) ?_
  simp only [Act.put, List.setIfInBounds_toArray, List.set_cons_zero, List.set_cons_succ]
  refine dw_val (by kernel_rfl) (.bool false) (by kernel_rfl) ?_
  simp only [Act.put, List.setIfInBounds_toArray, List.set_cons_zero, List.set_cons_succ]
  refine dw_val (by kernel_rfl) (.int .i64 0) (by kernel_rfl) ?_
  simp only [Act.put, List.setIfInBounds_toArray, List.set_cons_zero, List.set_cons_succ]
  refine dw_val (by kernel_rfl) (.bool false) (by kernel_rfl) ?_
  simp only [Act.put, List.setIfInBounds_toArray, List.set_cons_zero, List.set_cons_succ]
  refine wl_nil ?_
  refine hK10 _ _ ?_
  refine wp_seq_k fun K11 hK11 => ?_
  refine wl_region ?_
  refine dw_val (by kernel_rfl) (.pointer (some ⟨m, 0, none⟩)) (by kernel_rfl) ?_
  simp only [Act.put, List.setIfInBounds_toArray, List.set_cons_zero, List.set_cons_succ]
  refine dw_ret (by kernel_rfl) 40 #[(.pointer (some ⟨m, 0, none⟩) : Value)] (by kernel_rfl) (tab_room hTab) ?_
  intro w21 hb
  have ht22 : Touch (fun _ => False) w19 w21 := Touch.none hb
  replace hTab := hTab.keep ht22 (fun h => h) (fun h => h)
  replace hT0 := hT0.trans ht22 (fun _ _ h => h.elim)
  clear hb
  simp only [Act.put, List.setIfInBounds_toArray, List.set_cons_zero, List.set_cons_succ]
  refine dw_val (by kernel_rfl) (.int .i64 0) (by kernel_rfl) ?_
  simp only [Act.put, List.setIfInBounds_toArray, List.set_cons_zero, List.set_cons_succ]
  refine wl_nil ?_
  refine hK11 _ _ ?_
  refine wp_seq_k fun K12 hK12 => ?_
  refine wl_region ?_
  refine dw_val (by kernel_rfl) (.pointer (some ⟨m, 0, none⟩)) (by kernel_rfl) ?_
  simp only [Act.put, List.setIfInBounds_toArray, List.set_cons_zero, List.set_cons_succ]
  refine dw_enter (by kernel_rfl) 42 #[(.pointer (some ⟨m, 0, none⟩) : Value)] (by kernel_rfl) ?_
  (with_reducible refine Calls.mono (tab_pairs hTab) ?_)
  rintro e w23 ⟨v, rfl, hown, hb⟩
  refine ⟨_, rfl, ?_⟩
  obtain ⟨q, cap2, rest, rfl, hq, hBq, hcap2, hcm2, hlen2⟩ := own_blk (n := 0) hown
  clear hown
  have hqn := hTab.lt
  have ht := Touch.none hb
  clear hb
  replace hTab := hTab.keep ht (fun h => h) (fun h => h)
  replace hT0 := hT0.trans ht (fun _ _ h => h.elim)
  simp only [Act.put, List.setIfInBounds_toArray, List.set_cons_zero, List.set_cons_succ]
  refine dw_val (by kernel_rfl) (.slice (some ⟨q, 0, none⟩) 1 cap2) (by kernel_rfl) ?_
  simp only [Act.put, List.setIfInBounds_toArray, List.set_cons_zero, List.set_cons_succ]
  refine wl_nil ?_
  refine hK12 _ _ ?_
  refine wp_seq_k fun K13 hK13 => ?_
  refine wp_region_at (R := tkR) (by kernel_rfl) ?_
  have hS0 : tkS m _ q rest w false w23 := ⟨hTab, hBq, hm, hg0, by omega, by omega, hT0⟩
  refine wp_region_tells (tkA m q cap2) (fun _ _ => True) (Ph tkR (tkS m _ q rest w) 49) (by kernel_rfl) (by kernel_rfl) (tkA_keep m q cap2) ⟨Closed.start _, by simp, by rw [rep_getD]; exact tkS_keep m _ q rest w false _ _ hS0 (Touch.refl _ _).drew⟩ (fun i o ho => ?_) (fun listed a1 w1 hl2 hC hsl => ?_)
  · have hi : i < 63 := by have := (Array.getElem?_eq_some_iff.1 ho).1; rw [show tkR.size = 63 from by kernel_rfl] at this; exact this
    obtain rfl : o = tkR.getD i default := by rw [Array.getD_eq_getD_getElem?, ho]; rfl
    exact tk_all m _ q cap2 rest w _ _ rfl rfl rfl rfl rfl rfl rfl rfl rfl rfl i hi
  have hv : tkA m q cap2 0 (a1.tmps.getD 0 undef) w1 := hsl.wrote 62 (tkR.getD 62 default) 0 (by kernel_rfl) (by kernel_rfl) (hl2 62)
  replace hv : a1.tmps.getD 0 undef = .bool true := hv
  have hd := hsl.defers
  refine hK13 _ _ ?_
  refine wp_ret ?_
  repeat (first | with_reducible refine ret_then ?_ | with_reducible refine ret_block ?_)
  refine bodyPost_ret (v := .bool true) ?_ hd ?_
  · simp only [results]; rw [show Try.f35.results = #[.tmp 0] from rfl]; simp; simpa using hv
  · obtain ⟨_, _, hC⟩ := hC; exact ⟨rfl, hC.2.2.2.2.2.2.toBelow⟩
end Go.Proofs.Ytnjbclcihhaddaa
