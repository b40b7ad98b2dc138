/- What the things that every is handed tell: has, within, inside, spans. Conditions: lengths fit. -/
import Derived.Test.YtolkimdfnlfpbaaI
import Derived.Deep.Light
set_option linter.unusedVariables false
set_option linter.unusedSimpArgs false
namespace Go.Proofs.Ytolkimdfnlfpbaa
open Go.RowKit

theorem mkfunc (fn : Fn) (first cap : Array Value) (w : World) : (Instr.makeFunc fn first cap).run Try.prog w = .ok (.func fn first cap) w := rfl

def mayB (b : ByteArray) (n : Int) (a : ByteArray) : Bool := wideB b n || hasB b n a
theorem may1 {w : World} {p q : Nat} {b a : ByteArray} {n : Int} (hb : b.size ≤ 100) (ha : a.size ≤ 100) (hp : p < w.heap.size) (hq : q < w.heap.size)
    (c0 : w.cell? ⟨p, 0, none⟩ = some (.string b)) (c1 : w.cell? ⟨p, 1, none⟩ = some (.int .i64 n)) (c2 : w.cell? ⟨q, 0, none⟩ = some (.string a)) :
    Calls Try.prog 46 #[.pointer (some ⟨p, 0, none⟩), .pointer (some ⟨q, 0, none⟩)] w fun e w' => e = .returned (.bool (mayB b n a)) ∧ Below w.heap.size w w' := by
  have HW := Lib.hid (fun w => wide_any b n w)
  have HH := Lib.hid (fun w => has_any b n a hb ha w)
  unfold mayB
  generalize hasB b n a = hv at *
  cases hw : wideB b n with
  | true =>
    rw [hw] at HW
    rw [Bool.true_or]
    clear hw
    go_enter Try.func46, Try.ntmps46
    go_wp2_with (fail)
    refine (HW.out _).mono ?_
    rintro e w2 ⟨rfl, hbb⟩
    have TB := Lib.hid hbb
    clear hbb
    go_wp2_with (fail)
    go_ret
    exact ⟨rfl, TB.out⟩
  | false =>
    rw [hw] at HW
    rw [Bool.false_or]
    clear hw
    go_enter Try.func46, Try.ntmps46
    go_wp2_with (fail)
    refine (HW.out _).mono ?_
    rintro e w2 ⟨rfl, hbb⟩
    have TT := Touch.none hbb
    have d0 : w2.cell? ⟨p, 0, none⟩ = some (.string b) := by rw [← c0]; exact TT.cell hp (fun h => h) 0
    have d1 : w2.cell? ⟨p, 1, none⟩ = some (.int .i64 n) := by rw [← c1]; exact TT.cell hp (fun h => h) 1
    have d2 : w2.cell? ⟨q, 0, none⟩ = some (.string a) := by rw [← c2]; exact TT.cell hq (fun h => h) 0
    have TB := Lib.hid hbb
    clear hbb TT
    go_wp2_with (fail)
    refine (HH.out _).mono ?_
    rintro e w3 ⟨rfl, hbb⟩
    have TB2 := Lib.hid (below_then TB.out (Nat.le_refl _) (Touch.none hbb) (fun _ _ h => h))
    clear hbb
    go_wp2_with (fail)
    go_ret
    exact ⟨rfl, TB2.out⟩
theorem hasf_any (b : ByteArray) (n : Int) (a : ByteArray) (hb : b.size ≤ 100) (ha : a.size ≤ 100) (w : World) :
    Calls Try.prog 32 #[.agg #[.string b, .int .i64 n], .agg #[.string a]] w fun e w' => ∃ v, e = .returned v ∧ Tells w' v (mayB b n a) ∧ Below w.heap.size w w' := by
  have hmf := mkfunc
  have TT := Lib.hid (((Touch.alloc (fun _ => False) w (.cells #[(.string b : Value), .int .i64 n] 40)).trans (Touch.alloc (fun _ => False) _ (.cells #[(.string a : Value)] 24)) (fun _ _ h => h)))
  have hsz : w.heap.size + 2 ≤ ((w.alloc (.cells #[(.string b : Value), .int .i64 n] 40)).alloc (.cells #[(.string a : Value)] 24)).heap.size := by simp
  have c0_0 : ((w.alloc (.cells #[(.string b : Value), .int .i64 n] 40)).alloc (.cells #[(.string a : Value)] 24)).cell? ⟨w.heap.size, 0, none⟩ = some (.string b) := by simp
  have c0_1 : ((w.alloc (.cells #[(.string b : Value), .int .i64 n] 40)).alloc (.cells #[(.string a : Value)] 24)).cell? ⟨w.heap.size, 1, none⟩ = some (.int .i64 n) := by simp
  have c1_0 : ((w.alloc (.cells #[(.string b : Value), .int .i64 n] 40)).alloc (.cells #[(.string a : Value)] 24)).cell? ⟨w.heap.size + 1, 0, none⟩ = some (.string a) := by simp
  have TB := Lib.hid TT.out.toBelow
  go_enter Try.func32, Try.ntmps32
  go_wp2_with (fail)
  generalize ((w.alloc (.cells #[(.string b : Value), .int .i64 n] 40)).alloc (.cells #[(.string a : Value)] 24)) = w0 at *
  generalize hBe : w.heap.size = B at *
  have HBE := Lib.hid hBe
  have hB1 := Lib.hid (show B ≤ w.heap.size by omega)
  clear hBe
  go_ret
  refine ⟨_, rfl, ⟨46, _, rfl, enters Try.func46 rfl rfl _, fun w2 t => ?_⟩, HBE.out ▸ TB.out⟩
  have := t.size
  exact may1 hb ha (by omega) (by omega) ((t.cell (by omega) (fun h => h) 0).trans c0_0) ((t.cell (by omega) (fun h => h) 1).trans c0_1) ((t.cell (by omega) (fun h => h) 0).trans c1_0)

theorem within1 {w : World} {p q : Nat} {n x y : Int} (c0 : w.cell? ⟨p, 0, none⟩ = some (.int .i64 x)) (c1 : w.cell? ⟨p, 1, none⟩ = some (.int .i64 y)) (c2 : w.cell? ⟨q, 0, none⟩ = some (.int .i64 n)) :
    Calls Try.prog 48 #[.pointer (some ⟨p, 0, none⟩), .pointer (some ⟨q, 0, none⟩)] w fun e w' => e = .returned (.bool (inB n x y)) ∧ Below w.heap.size w w' := by
  by_cases h1 : x ≤ n
  · by_cases h2 : n ≤ y
    all_goals
      go_enter Try.func48, Try.ntmps48
      go_wp2
      go_ret
      exact ⟨ret_bool (by simp [inB, *]), Below.refl _ _⟩
  · go_enter Try.func48, Try.ntmps48
    go_wp2
    go_ret
    exact ⟨ret_bool (by simp [inB, *] <;> omega), Below.refl _ _⟩
theorem withinf_any (n x y : Int) (w : World) :
    Calls Try.prog 33 #[.int .i64 n, .agg #[.int .i64 x, .int .i64 y]] w fun e w' => ∃ v, e = .returned v ∧ Tells w' v (inB n x y) ∧ Below w.heap.size w w' := by
  have hmf := mkfunc
  have TT := Lib.hid (((Touch.alloc (fun _ => False) w (.cells #[(.int .i64 n : Value)] 3)).trans (Touch.alloc (fun _ => False) _ (.cells #[(.int .i64 x : Value), .int .i64 y] 41)) (fun _ _ h => h)))
  have hsz : w.heap.size + 2 ≤ ((w.alloc (.cells #[(.int .i64 n : Value)] 3)).alloc (.cells #[(.int .i64 x : Value), .int .i64 y] 41)).heap.size := by simp
  have c0_0 : ((w.alloc (.cells #[(.int .i64 n : Value)] 3)).alloc (.cells #[(.int .i64 x : Value), .int .i64 y] 41)).cell? ⟨w.heap.size, 0, none⟩ = some (.int .i64 n) := by simp
  have c1_0 : ((w.alloc (.cells #[(.int .i64 n : Value)] 3)).alloc (.cells #[(.int .i64 x : Value), .int .i64 y] 41)).cell? ⟨w.heap.size + 1, 0, none⟩ = some (.int .i64 x) := by simp
  have c1_1 : ((w.alloc (.cells #[(.int .i64 n : Value)] 3)).alloc (.cells #[(.int .i64 x : Value), .int .i64 y] 41)).cell? ⟨w.heap.size + 1, 1, none⟩ = some (.int .i64 y) := by simp
  have TB := Lib.hid TT.out.toBelow
  go_enter Try.func33, Try.ntmps33
  go_wp2_with (fail)
  generalize ((w.alloc (.cells #[(.int .i64 n : Value)] 3)).alloc (.cells #[(.int .i64 x : Value), .int .i64 y] 41)) = w0 at *
  generalize hBe : w.heap.size = B at *
  have HBE := Lib.hid hBe
  have hB1 := Lib.hid (show B ≤ w.heap.size by omega)
  clear hBe
  go_ret
  refine ⟨_, rfl, ⟨48, _, rfl, enters Try.func48 rfl rfl _, fun w2 t => ?_⟩, HBE.out ▸ TB.out⟩
  exact within1 ((t.cell (by omega) (fun h => h) 0).trans c1_0) ((t.cell (by omega) (fun h => h) 1).trans c1_1) ((t.cell (by omega) (fun h => h) 0).trans c0_0)

def spanB (x y u v : Int) : Bool := decide (x ≤ u ∧ v ≤ y)
theorem spans1 {w : World} {p q : Nat} {x y u v : Int} (c0 : w.cell? ⟨p, 0, none⟩ = some (.int .i64 x)) (c1 : w.cell? ⟨p, 1, none⟩ = some (.int .i64 y)) (c2 : w.cell? ⟨q, 0, none⟩ = some (.int .i64 u)) (c3 : w.cell? ⟨q, 1, none⟩ = some (.int .i64 v)) :
    Calls Try.prog 54 #[.pointer (some ⟨p, 0, none⟩), .pointer (some ⟨q, 0, none⟩)] w fun e w' => e = .returned (.bool (spanB x y u v)) ∧ Below w.heap.size w w' := by
  by_cases h1 : x ≤ u
  · by_cases h2 : v ≤ y
    all_goals
      go_enter Try.func54, Try.ntmps54
      go_wp2
      go_ret
      exact ⟨ret_bool (by simp [spanB, *]), Below.refl _ _⟩
  · go_enter Try.func54, Try.ntmps54
    go_wp2
    go_ret
    exact ⟨ret_bool (by simp [spanB, *] <;> omega), Below.refl _ _⟩
theorem spansf_any (x y u v : Int) (w : World) :
    Calls Try.prog 41 #[.agg #[.int .i64 x, .int .i64 y], .agg #[.int .i64 u, .int .i64 v]] w fun e w' => ∃ z, e = .returned z ∧ Tells w' z (spanB x y u v) ∧ Below w.heap.size w w' := by
  have hmf := mkfunc
  have TT := Lib.hid (((Touch.alloc (fun _ => False) w (.cells #[(.int .i64 x : Value), .int .i64 y] 41)).trans (Touch.alloc (fun _ => False) _ (.cells #[(.int .i64 u : Value), .int .i64 v] 41)) (fun _ _ h => h)))
  have hsz : w.heap.size + 2 ≤ ((w.alloc (.cells #[(.int .i64 x : Value), .int .i64 y] 41)).alloc (.cells #[(.int .i64 u : Value), .int .i64 v] 41)).heap.size := by simp
  have c0_0 : ((w.alloc (.cells #[(.int .i64 x : Value), .int .i64 y] 41)).alloc (.cells #[(.int .i64 u : Value), .int .i64 v] 41)).cell? ⟨w.heap.size, 0, none⟩ = some (.int .i64 x) := by simp
  have c0_1 : ((w.alloc (.cells #[(.int .i64 x : Value), .int .i64 y] 41)).alloc (.cells #[(.int .i64 u : Value), .int .i64 v] 41)).cell? ⟨w.heap.size, 1, none⟩ = some (.int .i64 y) := by simp
  have c1_0 : ((w.alloc (.cells #[(.int .i64 x : Value), .int .i64 y] 41)).alloc (.cells #[(.int .i64 u : Value), .int .i64 v] 41)).cell? ⟨w.heap.size + 1, 0, none⟩ = some (.int .i64 u) := by simp
  have c1_1 : ((w.alloc (.cells #[(.int .i64 x : Value), .int .i64 y] 41)).alloc (.cells #[(.int .i64 u : Value), .int .i64 v] 41)).cell? ⟨w.heap.size + 1, 1, none⟩ = some (.int .i64 v) := by simp
  have TB := Lib.hid TT.out.toBelow
  go_enter Try.func41, Try.ntmps41
  go_wp2_with (fail)
  generalize ((w.alloc (.cells #[(.int .i64 x : Value), .int .i64 y] 41)).alloc (.cells #[(.int .i64 u : Value), .int .i64 v] 41)) = w0 at *
  generalize hBe : w.heap.size = B at *
  have HBE := Lib.hid hBe
  have hB1 := Lib.hid (show B ≤ w.heap.size by omega)
  clear hBe
  go_ret
  refine ⟨_, rfl, ⟨54, _, rfl, enters Try.func54 rfl rfl _, fun w2 t => ?_⟩, HBE.out ▸ TB.out⟩
  exact spans1 ((t.cell (by omega) (fun h => h) 0).trans c0_0) ((t.cell (by omega) (fun h => h) 1).trans c0_1) ((t.cell (by omega) (fun h => h) 0).trans c1_0) ((t.cell (by omega) (fun h => h) 1).trans c1_1)
end Go.Proofs.Ytolkimdfnlfpbaa
