/- Pairs and ends that are compared. No condition beyond what each states. -/
import Derived.Test.YtnjbclcihhaddaaDw
import Derived.Test.YtnjbclcihhaddaaTheo
import Derived.Test.YtnjbclcihhaddaaTell3
import Derived.WalkKit
import Derived.Laws.StructEq
set_option linter.unusedVariables false
set_option linter.unusedSimpArgs false
namespace Go.Proofs.Ytnjbclcihhaddaa
open Go.RowKit Go.Op

theorem beq_str (a b : ByteArray) : (a.toList == b.toList) = decide (a = b) := by
  by_cases h : a = b
  · subst h; simp
  · have : a.toList ≠ b.toList := fun e => h (tl_inj e)
    simp [h, this]
theorem f57 : (Try.prog.fieldsOf 57).toList = [Field.mk "B" 9 0 false "" "" 0] := by kernel_rfl
theorem eq57 (e : Nat) (a b : ByteArray) (w : World) : (Op.equalIn (e + 2) 57 (.agg #[.string a]) (.agg #[.string b])).run Try.prog w = .ok (decide (a = b)) w := by
  rw [run_equalIn_struct w (e + 1) 57 _ _ (by kernel_rfl) (by kernel_rfl), f57]
  have h1 : ∀ a, (part 9 #[Value.string a] 0).run Try.prog w = .ok (.string a) w := fun a => by kernel_rfl
  simp [Op.eqFields, h1, run_equalIn_string w e 9 a b Try.underlying9, beq_str]
  split <;> simp_all
theorem f59 : (Try.prog.fieldsOf 59).toList = [Field.mk "A" 57 0 false "" "" 0, Field.mk "Port" 3 1 false "" "" 16] := by kernel_rfl
theorem eq59 (e : Nat) (a b : ByteArray) (p q : Int) (w : World) : (Op.equalIn (e + 3) 59 (.agg #[.string a, .int .i64 p]) (.agg #[.string b, .int .i64 q])).run Try.prog w = .ok (decide (a = b ∧ p = q)) w := by
  rw [run_equalIn_struct w (e + 2) 59 _ _ (by kernel_rfl) (by kernel_rfl), f59]
  have h1 : ∀ (a : ByteArray) (p : Int), (part 57 #[Value.string a, .int .i64 p] 0).run Try.prog w = .ok (.agg #[.string a]) w := fun a p => by kernel_rfl
  have h2 : ∀ (a : ByteArray) (p : Int), (part 3 #[Value.string a, .int .i64 p] 1).run Try.prog w = .ok (.int .i64 p) w := fun a p => by kernel_rfl
  simp [Op.eqFields, h1, h2, eq57, run_equalIn_int w (e + 1) 3 .i64 .i64 p q Try.underlying3]
  by_cases h : a = b <;> by_cases h' : p = q <;> simp [h, h']
theorem f80 : (Try.prog.fieldsOf 80).toList = [Field.mk "A" 57 0 false "" "" 0, Field.mk "Port" 3 1 false "" "" 16] := by kernel_rfl
theorem eq80 (e : Nat) (a b : ByteArray) (p q : Int) (w : World) : (Op.equalIn (e + 3) 80 (.agg #[.string a, .int .i64 p]) (.agg #[.string b, .int .i64 q])).run Try.prog w = .ok (decide (a = b ∧ p = q)) w := by
  rw [run_equalIn_struct w (e + 2) 80 _ _ (by kernel_rfl) (by kernel_rfl), f80]
  have h1 : ∀ (a : ByteArray) (p : Int), (part 57 #[Value.string a, .int .i64 p] 0).run Try.prog w = .ok (.agg #[.string a]) w := fun a p => by kernel_rfl
  have h2 : ∀ (a : ByteArray) (p : Int), (part 3 #[Value.string a, .int .i64 p] 1).run Try.prog w = .ok (.int .i64 p) w := fun a p => by kernel_rfl
  simp [Op.eqFields, h1, h2, eq57, run_equalIn_int w (e + 1) 3 .i64 .i64 p q Try.underlying3]
  by_cases h : a = b <;> by_cases h' : p = q <;> simp [h, h']
theorem f61 : (Try.prog.fieldsOf 61).toList = [Field.mk "Low" 59 0 false "" "" 0, Field.mk "High" 59 2 false "" "" 24] := by kernel_rfl
theorem eq61 (e : Nat) (a b a2 b2 : ByteArray) (p q p2 q2 : Int) (w : World) : (Op.equalIn (e + 4) 61 (.agg #[.string a, .int .i64 p, .string a2, .int .i64 p2]) (.agg #[.string b, .int .i64 q, .string b2, .int .i64 q2])).run Try.prog w = .ok (decide ((a = b ∧ p = q) ∧ (a2 = b2 ∧ p2 = q2))) w := by
  rw [run_equalIn_struct w (e + 3) 61 _ _ (by kernel_rfl) (by kernel_rfl), f61]
  have h1 : ∀ (a a2 : ByteArray) (p p2 : Int), (part 59 #[Value.string a, .int .i64 p, .string a2, .int .i64 p2] 0).run Try.prog w = .ok (.agg #[.string a, .int .i64 p]) w := fun a a2 p p2 => by kernel_rfl
  have h2 : ∀ (a a2 : ByteArray) (p p2 : Int), (part 59 #[Value.string a, .int .i64 p, .string a2, .int .i64 p2] 2).run Try.prog w = .ok (.agg #[.string a2, .int .i64 p2]) w := fun a a2 p p2 => by kernel_rfl
  simp [Op.eqFields, h1, h2, eq59]
  by_cases h : a = b <;> by_cases h' : p = q <;> by_cases h2 : a2 = b2 <;> by_cases h3 : p2 = q2 <;> simp [h, h', h2, h3]
theorem f82 : (Try.prog.fieldsOf 82).toList = [Field.mk "Low" 80 0 false "" "" 0, Field.mk "High" 80 2 false "" "" 24] := by kernel_rfl
theorem eq82 (e : Nat) (a b a2 b2 : ByteArray) (p q p2 q2 : Int) (w : World) : (Op.equalIn (e + 4) 82 (.agg #[.string a, .int .i64 p, .string a2, .int .i64 p2]) (.agg #[.string b, .int .i64 q, .string b2, .int .i64 q2])).run Try.prog w = .ok (decide ((a = b ∧ p = q) ∧ (a2 = b2 ∧ p2 = q2))) w := by
  rw [run_equalIn_struct w (e + 3) 82 _ _ (by kernel_rfl) (by kernel_rfl), f82]
  have h1 : ∀ (a a2 : ByteArray) (p p2 : Int), (part 80 #[Value.string a, .int .i64 p, .string a2, .int .i64 p2] 0).run Try.prog w = .ok (.agg #[.string a, .int .i64 p]) w := fun a a2 p p2 => by kernel_rfl
  have h2 : ∀ (a a2 : ByteArray) (p p2 : Int), (part 80 #[Value.string a, .int .i64 p, .string a2, .int .i64 p2] 2).run Try.prog w = .ok (.agg #[.string a2, .int .i64 p2]) w := fun a a2 p p2 => by kernel_rfl
  simp [Op.eqFields, h1, h2, eq80]
  by_cases h : a = b <;> by_cases h' : p = q <;> by_cases h2 : a2 = b2 <;> by_cases h3 : p2 = q2 <;> simp [h, h', h2, h3]
theorem ev_eql57 {o : Oper} {c : Act} {w : World} (x y : Operand) {a b : ByteArray} (ho : o.op = .binOp .eql 57 x y 57) (hx : c.eval x = .agg #[.string a]) (hy : c.eval y = .agg #[.string b]) :
    (execOp c.eval o).run Try.prog w = .ok (.value (.bool (decide (a = b)))) w := by
  have h : (Op.equalIn 10000 57 (.agg #[.string a]) (.agg #[.string b])).run Try.prog w = .ok (decide (a = b)) w := eq57 9998 a b w
  unfold execOp
  simp only [ho, hx, hy, Sem.run_bind, run_eqGuard_agg w _ _ _ _ _ _ (show Try.prog.eqGuardType Try.prog.depth 57 = false by kernel_rfl), Result.andThen_ok, run_eql_struct, h]
  rfl
theorem ev_neq57 {o : Oper} {c : Act} {w : World} (x y : Operand) {a b : ByteArray} (ho : o.op = .binOp .neq 57 x y 57) (hx : c.eval x = .agg #[.string a]) (hy : c.eval y = .agg #[.string b]) :
    (execOp c.eval o).run Try.prog w = .ok (.value (.bool (!decide (a = b)))) w := by
  have h : (Op.equalIn 10000 57 (.agg #[.string a]) (.agg #[.string b])).run Try.prog w = .ok (decide (a = b)) w := eq57 9998 a b w
  unfold execOp
  simp only [ho, hx, hy, Sem.run_bind, run_eqGuard_agg w _ _ _ _ _ _ (show Try.prog.eqGuardType Try.prog.depth 57 = false by kernel_rfl), Result.andThen_ok, run_neq_struct, h]
  rfl
theorem ev_eql59 {o : Oper} {c : Act} {w : World} (x y : Operand) {a b : ByteArray} {p q : Int} (ho : o.op = .binOp .eql 59 x y 59) (hx : c.eval x = .agg #[.string a, .int .i64 p]) (hy : c.eval y = .agg #[.string b, .int .i64 q]) :
    (execOp c.eval o).run Try.prog w = .ok (.value (.bool (decide (a = b ∧ p = q)))) w := by
  have h : (Op.equalIn 10000 59 (.agg #[.string a, .int .i64 p]) (.agg #[.string b, .int .i64 q])).run Try.prog w = .ok (decide (a = b ∧ p = q)) w := eq59 9997 a b p q w
  unfold execOp
  simp only [ho, hx, hy, Sem.run_bind, run_eqGuard_agg w _ _ _ _ _ _ (show Try.prog.eqGuardType Try.prog.depth 59 = false by kernel_rfl), Result.andThen_ok, run_eql_struct, h]
  rfl
theorem ev_neq59 {o : Oper} {c : Act} {w : World} (x y : Operand) {a b : ByteArray} {p q : Int} (ho : o.op = .binOp .neq 59 x y 59) (hx : c.eval x = .agg #[.string a, .int .i64 p]) (hy : c.eval y = .agg #[.string b, .int .i64 q]) :
    (execOp c.eval o).run Try.prog w = .ok (.value (.bool (!decide (a = b ∧ p = q)))) w := by
  have h : (Op.equalIn 10000 59 (.agg #[.string a, .int .i64 p]) (.agg #[.string b, .int .i64 q])).run Try.prog w = .ok (decide (a = b ∧ p = q)) w := eq59 9997 a b p q w
  unfold execOp
  simp only [ho, hx, hy, Sem.run_bind, run_eqGuard_agg w _ _ _ _ _ _ (show Try.prog.eqGuardType Try.prog.depth 59 = false by kernel_rfl), Result.andThen_ok, run_neq_struct, h]
  rfl
theorem ev_eql80 {o : Oper} {c : Act} {w : World} (x y : Operand) {a b : ByteArray} {p q : Int} (ho : o.op = .binOp .eql 80 x y 80) (hx : c.eval x = .agg #[.string a, .int .i64 p]) (hy : c.eval y = .agg #[.string b, .int .i64 q]) :
    (execOp c.eval o).run Try.prog w = .ok (.value (.bool (decide (a = b ∧ p = q)))) w := by
  have h : (Op.equalIn 10000 80 (.agg #[.string a, .int .i64 p]) (.agg #[.string b, .int .i64 q])).run Try.prog w = .ok (decide (a = b ∧ p = q)) w := eq80 9997 a b p q w
  unfold execOp
  simp only [ho, hx, hy, Sem.run_bind, run_eqGuard_agg w _ _ _ _ _ _ (show Try.prog.eqGuardType Try.prog.depth 80 = false by kernel_rfl), Result.andThen_ok, run_eql_struct, h]
  rfl
theorem ev_neq80 {o : Oper} {c : Act} {w : World} (x y : Operand) {a b : ByteArray} {p q : Int} (ho : o.op = .binOp .neq 80 x y 80) (hx : c.eval x = .agg #[.string a, .int .i64 p]) (hy : c.eval y = .agg #[.string b, .int .i64 q]) :
    (execOp c.eval o).run Try.prog w = .ok (.value (.bool (!decide (a = b ∧ p = q)))) w := by
  have h : (Op.equalIn 10000 80 (.agg #[.string a, .int .i64 p]) (.agg #[.string b, .int .i64 q])).run Try.prog w = .ok (decide (a = b ∧ p = q)) w := eq80 9997 a b p q w
  unfold execOp
  simp only [ho, hx, hy, Sem.run_bind, run_eqGuard_agg w _ _ _ _ _ _ (show Try.prog.eqGuardType Try.prog.depth 80 = false by kernel_rfl), Result.andThen_ok, run_neq_struct, h]
  rfl
theorem ev_eql61 {o : Oper} {c : Act} {w : World} (x y : Operand) {a b a2 b2 : ByteArray} {p q p2 q2 : Int} (ho : o.op = .binOp .eql 61 x y 61) (hx : c.eval x = .agg #[.string a, .int .i64 p, .string a2, .int .i64 p2]) (hy : c.eval y = .agg #[.string b, .int .i64 q, .string b2, .int .i64 q2]) :
    (execOp c.eval o).run Try.prog w = .ok (.value (.bool (decide ((a = b ∧ p = q) ∧ (a2 = b2 ∧ p2 = q2))))) w := by
  have h : (Op.equalIn 10000 61 (.agg #[.string a, .int .i64 p, .string a2, .int .i64 p2]) (.agg #[.string b, .int .i64 q, .string b2, .int .i64 q2])).run Try.prog w = .ok (decide ((a = b ∧ p = q) ∧ (a2 = b2 ∧ p2 = q2))) w := eq61 9996 a b a2 b2 p q p2 q2 w
  unfold execOp
  simp only [ho, hx, hy, Sem.run_bind, run_eqGuard_agg w _ _ _ _ _ _ (show Try.prog.eqGuardType Try.prog.depth 61 = false by kernel_rfl), Result.andThen_ok, run_eql_struct, h]
  rfl
theorem ev_neq61 {o : Oper} {c : Act} {w : World} (x y : Operand) {a b a2 b2 : ByteArray} {p q p2 q2 : Int} (ho : o.op = .binOp .neq 61 x y 61) (hx : c.eval x = .agg #[.string a, .int .i64 p, .string a2, .int .i64 p2]) (hy : c.eval y = .agg #[.string b, .int .i64 q, .string b2, .int .i64 q2]) :
    (execOp c.eval o).run Try.prog w = .ok (.value (.bool (!decide ((a = b ∧ p = q) ∧ (a2 = b2 ∧ p2 = q2))))) w := by
  have h : (Op.equalIn 10000 61 (.agg #[.string a, .int .i64 p, .string a2, .int .i64 p2]) (.agg #[.string b, .int .i64 q, .string b2, .int .i64 q2])).run Try.prog w = .ok (decide ((a = b ∧ p = q) ∧ (a2 = b2 ∧ p2 = q2))) w := eq61 9996 a b a2 b2 p q p2 q2 w
  unfold execOp
  simp only [ho, hx, hy, Sem.run_bind, run_eqGuard_agg w _ _ _ _ _ _ (show Try.prog.eqGuardType Try.prog.depth 61 = false by kernel_rfl), Result.andThen_ok, run_neq_struct, h]
  rfl
theorem ev_eql82 {o : Oper} {c : Act} {w : World} (x y : Operand) {a b a2 b2 : ByteArray} {p q p2 q2 : Int} (ho : o.op = .binOp .eql 82 x y 82) (hx : c.eval x = .agg #[.string a, .int .i64 p, .string a2, .int .i64 p2]) (hy : c.eval y = .agg #[.string b, .int .i64 q, .string b2, .int .i64 q2]) :
    (execOp c.eval o).run Try.prog w = .ok (.value (.bool (decide ((a = b ∧ p = q) ∧ (a2 = b2 ∧ p2 = q2))))) w := by
  have h : (Op.equalIn 10000 82 (.agg #[.string a, .int .i64 p, .string a2, .int .i64 p2]) (.agg #[.string b, .int .i64 q, .string b2, .int .i64 q2])).run Try.prog w = .ok (decide ((a = b ∧ p = q) ∧ (a2 = b2 ∧ p2 = q2))) w := eq82 9996 a b a2 b2 p q p2 q2 w
  unfold execOp
  simp only [ho, hx, hy, Sem.run_bind, run_eqGuard_agg w _ _ _ _ _ _ (show Try.prog.eqGuardType Try.prog.depth 82 = false by kernel_rfl), Result.andThen_ok, run_eql_struct, h]
  rfl
theorem ev_neq82 {o : Oper} {c : Act} {w : World} (x y : Operand) {a b a2 b2 : ByteArray} {p q p2 q2 : Int} (ho : o.op = .binOp .neq 82 x y 82) (hx : c.eval x = .agg #[.string a, .int .i64 p, .string a2, .int .i64 p2]) (hy : c.eval y = .agg #[.string b, .int .i64 q, .string b2, .int .i64 q2]) :
    (execOp c.eval o).run Try.prog w = .ok (.value (.bool (!decide ((a = b ∧ p = q) ∧ (a2 = b2 ∧ p2 = q2))))) w := by
  have h : (Op.equalIn 10000 82 (.agg #[.string a, .int .i64 p, .string a2, .int .i64 p2]) (.agg #[.string b, .int .i64 q, .string b2, .int .i64 q2])).run Try.prog w = .ok (decide ((a = b ∧ p = q) ∧ (a2 = b2 ∧ p2 = q2))) w := eq82 9996 a b a2 b2 p q p2 q2 w
  unfold execOp
  simp only [ho, hx, hy, Sem.run_bind, run_eqGuard_agg w _ _ _ _ _ _ (show Try.prog.eqGuardType Try.prog.depth 82 = false by kernel_rfl), Result.andThen_ok, run_neq_struct, h]
  rfl
end Go.Proofs.Ytnjbclcihhaddaa
