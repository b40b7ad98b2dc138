/- What the things that every is handed tell: inside; sides, classes, flags. Conditions: lengths fit. -/
import Derived.Test.YtolkimdfnlfpbaaJ
import Derived.Deep.Light
set_option linter.unusedVariables false
set_option linter.unusedSimpArgs false
namespace Go.Proofs.Ytolkimdfnlfpbaa
open Go.RowKit

def coverB (b : ByteArray) (n : Int) (a : ByteArray) (k : Int) : Bool := wideB b n || (!wideB a k && insideB a k b n)
theorem inside1 {w : World} {p q : Nat} {b a : ByteArray} {n k : Int} (hb : b.size ≤ 100) (ha : a.size ≤ 100) (hp : p < w.heap.size) (hq : q < w.heap.size)
    (c0 : w.cell? ⟨p, 0, none⟩ = some (.string b)) (c1 : w.cell? ⟨p, 1, none⟩ = some (.int .i64 n)) (c2 : w.cell? ⟨q, 0, none⟩ = some (.string a)) (c3 : w.cell? ⟨q, 1, none⟩ = some (.int .i64 k)) :
    Calls Try.prog 52 #[.pointer (some ⟨p, 0, none⟩), .pointer (some ⟨q, 0, none⟩)] w fun e w' => e = .returned (.bool (coverB b n a k)) ∧ Below w.heap.size w w' := by
  have HW := Lib.hid (fun w => wide_any b n w)
  have HA := Lib.hid (fun w => wide_any a k w)
  have HH := Lib.hid (fun w => inside_any a k b n ha hb w)
  have TB := Lib.hid (Below.refl w.heap.size w)
  unfold coverB
  generalize insideB a k b n = hv at *
  cases hw : wideB b n with
  | true =>
    rw [hw] at HW
    rw [Bool.true_or]
    clear hw
    go_enter Try.func52, Try.ntmps52
    go_wp2_with (fail)
    refine (HW.out _).mono ?_
    rintro e w2 ⟨rfl, hbb⟩
    have TT := Touch.none hbb
    have c0 : w2.cell? ⟨p, 0, none⟩ = some (.string b) := by rw [← c0]; exact TT.cell hp (fun h => h) 0
    have c1 : w2.cell? ⟨p, 1, none⟩ = some (.int .i64 n) := by rw [← c1]; exact TT.cell hp (fun h => h) 1
    have c2 : w2.cell? ⟨q, 0, none⟩ = some (.string a) := by rw [← c2]; exact TT.cell hq (fun h => h) 0
    have c3 : w2.cell? ⟨q, 1, none⟩ = some (.int .i64 k) := by rw [← c3]; exact TT.cell hq (fun h => h) 1
    have hp := Nat.lt_of_lt_of_le hp TT.size
    have hq := Nat.lt_of_lt_of_le hq TT.size
    have TB := Lib.hid (below_then TB.out (Nat.le_refl _) TT (fun _ _ h => h))
    clear hbb TT
    go_wp2_with (fail)
    go_ret
    exact ⟨rfl, TB.out⟩
  | false =>
    rw [hw] at HW
    rw [Bool.false_or]
    clear hw
    cases hwa : wideB a k with
    | true =>
      rw [hwa] at HA
      clear hwa
      go_enter Try.func52, Try.ntmps52
      go_wp2_with (fail)
      refine (HW.out _).mono ?_
      rintro e w2 ⟨rfl, hbb⟩
      have TT := Touch.none hbb
      have c0 : w2.cell? ⟨p, 0, none⟩ = some (.string b) := by rw [← c0]; exact TT.cell hp (fun h => h) 0
      have c1 : w2.cell? ⟨p, 1, none⟩ = some (.int .i64 n) := by rw [← c1]; exact TT.cell hp (fun h => h) 1
      have c2 : w2.cell? ⟨q, 0, none⟩ = some (.string a) := by rw [← c2]; exact TT.cell hq (fun h => h) 0
      have c3 : w2.cell? ⟨q, 1, none⟩ = some (.int .i64 k) := by rw [← c3]; exact TT.cell hq (fun h => h) 1
      have hp := Nat.lt_of_lt_of_le hp TT.size
      have hq := Nat.lt_of_lt_of_le hq TT.size
      have TB := Lib.hid (below_then TB.out (Nat.le_refl _) TT (fun _ _ h => h))
      clear hbb TT
      go_wp2_with (fail)
      refine (HA.out _).mono ?_
      rintro e w3 ⟨rfl, hbb⟩
      have TT := Touch.none hbb
      have c0 : w3.cell? ⟨p, 0, none⟩ = some (.string b) := by rw [← c0]; exact TT.cell hp (fun h => h) 0
      have c1 : w3.cell? ⟨p, 1, none⟩ = some (.int .i64 n) := by rw [← c1]; exact TT.cell hp (fun h => h) 1
      have c2 : w3.cell? ⟨q, 0, none⟩ = some (.string a) := by rw [← c2]; exact TT.cell hq (fun h => h) 0
      have c3 : w3.cell? ⟨q, 1, none⟩ = some (.int .i64 k) := by rw [← c3]; exact TT.cell hq (fun h => h) 1
      have hp := Nat.lt_of_lt_of_le hp TT.size
      have hq := Nat.lt_of_lt_of_le hq TT.size
      have TB := Lib.hid (below_then TB.out (Nat.le_refl _) TT (fun _ _ h => h))
      clear hbb TT
      go_wp2_with (fail)
      go_ret
      exact ⟨rfl, TB.out⟩
    | false =>
      rw [hwa] at HA
      clear hwa
      rw [Bool.not_false, Bool.true_and]
      go_enter Try.func52, Try.ntmps52
      go_wp2_with (fail)
      refine (HW.out _).mono ?_
      rintro e w2 ⟨rfl, hbb⟩
      have TT := Touch.none hbb
      have c0 : w2.cell? ⟨p, 0, none⟩ = some (.string b) := by rw [← c0]; exact TT.cell hp (fun h => h) 0
      have c1 : w2.cell? ⟨p, 1, none⟩ = some (.int .i64 n) := by rw [← c1]; exact TT.cell hp (fun h => h) 1
      have c2 : w2.cell? ⟨q, 0, none⟩ = some (.string a) := by rw [← c2]; exact TT.cell hq (fun h => h) 0
      have c3 : w2.cell? ⟨q, 1, none⟩ = some (.int .i64 k) := by rw [← c3]; exact TT.cell hq (fun h => h) 1
      have hp := Nat.lt_of_lt_of_le hp TT.size
      have hq := Nat.lt_of_lt_of_le hq TT.size
      have TB := Lib.hid (below_then TB.out (Nat.le_refl _) TT (fun _ _ h => h))
      clear hbb TT
      go_wp2_with (fail)
      refine (HA.out _).mono ?_
      rintro e w3 ⟨rfl, hbb⟩
      have TT := Touch.none hbb
      have c0 : w3.cell? ⟨p, 0, none⟩ = some (.string b) := by rw [← c0]; exact TT.cell hp (fun h => h) 0
      have c1 : w3.cell? ⟨p, 1, none⟩ = some (.int .i64 n) := by rw [← c1]; exact TT.cell hp (fun h => h) 1
      have c2 : w3.cell? ⟨q, 0, none⟩ = some (.string a) := by rw [← c2]; exact TT.cell hq (fun h => h) 0
      have c3 : w3.cell? ⟨q, 1, none⟩ = some (.int .i64 k) := by rw [← c3]; exact TT.cell hq (fun h => h) 1
      have hp := Nat.lt_of_lt_of_le hp TT.size
      have hq := Nat.lt_of_lt_of_le hq TT.size
      have TB := Lib.hid (below_then TB.out (Nat.le_refl _) TT (fun _ _ h => h))
      clear hbb TT
      go_wp2_with (fail)
      refine (HH.out _).mono ?_
      rintro e w4 ⟨rfl, hbb⟩
      have TT := Touch.none hbb
      have c0 : w4.cell? ⟨p, 0, none⟩ = some (.string b) := by rw [← c0]; exact TT.cell hp (fun h => h) 0
      have c1 : w4.cell? ⟨p, 1, none⟩ = some (.int .i64 n) := by rw [← c1]; exact TT.cell hp (fun h => h) 1
      have c2 : w4.cell? ⟨q, 0, none⟩ = some (.string a) := by rw [← c2]; exact TT.cell hq (fun h => h) 0
      have c3 : w4.cell? ⟨q, 1, none⟩ = some (.int .i64 k) := by rw [← c3]; exact TT.cell hq (fun h => h) 1
      have hp := Nat.lt_of_lt_of_le hp TT.size
      have hq := Nat.lt_of_lt_of_le hq TT.size
      have TB := Lib.hid (below_then TB.out (Nat.le_refl _) TT (fun _ _ h => h))
      clear hbb TT
      go_wp2_with (fail)
      go_ret
      exact ⟨rfl, TB.out⟩

theorem insidef_any (b : ByteArray) (n : Int) (a : ByteArray) (k : Int) (hb : b.size ≤ 100) (ha : a.size ≤ 100) (w : World) :
    Calls Try.prog 40 #[.agg #[.string b, .int .i64 n], .agg #[.string a, .int .i64 k]] w fun e w' => ∃ v, e = .returned v ∧ Tells w' v (coverB b n a k) ∧ Below w.heap.size w w' := by
  have hmf := mkfunc
  have TT := Lib.hid (((Touch.alloc (fun _ => False) w (.cells #[(.string b : Value), .int .i64 n] 40)).trans (Touch.alloc (fun _ => False) _ (.cells #[(.string a : Value), .int .i64 k] 40)) (fun _ _ h => h)))
  have hsz : w.heap.size + 2 ≤ ((w.alloc (.cells #[(.string b : Value), .int .i64 n] 40)).alloc (.cells #[(.string a : Value), .int .i64 k] 40)).heap.size := by simp
  have c0_0 : ((w.alloc (.cells #[(.string b : Value), .int .i64 n] 40)).alloc (.cells #[(.string a : Value), .int .i64 k] 40)).cell? ⟨w.heap.size, 0, none⟩ = some (.string b) := by simp
  have c0_1 : ((w.alloc (.cells #[(.string b : Value), .int .i64 n] 40)).alloc (.cells #[(.string a : Value), .int .i64 k] 40)).cell? ⟨w.heap.size, 1, none⟩ = some (.int .i64 n) := by simp
  have c1_0 : ((w.alloc (.cells #[(.string b : Value), .int .i64 n] 40)).alloc (.cells #[(.string a : Value), .int .i64 k] 40)).cell? ⟨w.heap.size + 1, 0, none⟩ = some (.string a) := by simp
  have c1_1 : ((w.alloc (.cells #[(.string b : Value), .int .i64 n] 40)).alloc (.cells #[(.string a : Value), .int .i64 k] 40)).cell? ⟨w.heap.size + 1, 1, none⟩ = some (.int .i64 k) := by simp
  have TB := Lib.hid TT.out.toBelow
  go_enter Try.func40, Try.ntmps40
  go_wp2_with (fail)
  generalize ((w.alloc (.cells #[(.string b : Value), .int .i64 n] 40)).alloc (.cells #[(.string a : Value), .int .i64 k] 40)) = w0 at *
  generalize hBe : w.heap.size = B at *
  have HBE := Lib.hid hBe
  have hB1 := Lib.hid (show B ≤ w.heap.size by omega)
  clear hBe
  go_ret
  refine ⟨_, rfl, ⟨52, _, rfl, enters Try.func52 rfl rfl _, fun w2 t => ?_⟩, HBE.out ▸ TB.out⟩
  have := t.size
  exact inside1 hb ha (by omega) (by omega) ((t.cell (by omega) (fun h => h) 0).trans c0_0) ((t.cell (by omega) (fun h => h) 1).trans c0_1) ((t.cell (by omega) (fun h => h) 0).trans c1_0) ((t.cell (by omega) (fun h => h) 1).trans c1_1)

def sideB (s a : Int) : Bool := decide (s = 0 ∨ s = a)
theorem side1 {w : World} {p q : Nat} {s a : Int} (c0 : w.cell? ⟨p, 1, none⟩ = some (.int .i64 s)) (c1 : w.cell? ⟨q, 17, none⟩ = some (.int .i64 a)) :
    Calls Try.prog 26 #[.pointer (some ⟨p, 0, none⟩), .pointer (some ⟨q, 0, none⟩)] w fun e w' => e = .returned (.bool (sideB s a)) ∧ Below w.heap.size w w' := by
  by_cases h0 : s = 0
  · subst h0
    go_enter Try.func26, Try.ntmps26
    go_wp2
    go_ret
    exact ⟨ret_bool (by simp [sideB]), Below.refl _ _⟩
  · by_cases h1 : s = a
    · subst h1
      go_enter Try.func26, Try.ntmps26
      go_wp2
      go_ret
      exact ⟨ret_bool (by simp [sideB]), Below.refl _ _⟩
    · go_enter Try.func26, Try.ntmps26
      go_wp2
      go_ret
      exact ⟨ret_bool (by simp [sideB, *]), Below.refl _ _⟩
theorem side2 {w : World} {p q : Nat} {s a : Int} (c0 : w.cell? ⟨p, 1, none⟩ = some (.int .i64 s)) (c1 : w.cell? ⟨q, 1, none⟩ = some (.int .i64 a)) :
    Calls Try.prog 37 #[.pointer (some ⟨p, 0, none⟩), .pointer (some ⟨q, 0, none⟩)] w fun e w' => e = .returned (.bool (sideB s a)) ∧ Below w.heap.size w w' := by
  by_cases h0 : s = 0
  · subst h0
    go_enter Try.func37, Try.ntmps37
    go_wp2
    go_ret
    exact ⟨ret_bool (by simp [sideB]), Below.refl _ _⟩
  · by_cases h1 : s = a
    · subst h1
      go_enter Try.func37, Try.ntmps37
      go_wp2
      go_ret
      exact ⟨ret_bool (by simp [sideB]), Below.refl _ _⟩
    · go_enter Try.func37, Try.ntmps37
      go_wp2
      go_ret
      exact ⟨ret_bool (by simp [sideB, *]), Below.refl _ _⟩
def andI (x y : Int) : Int := bits .and .i64 x y
theorem class1 {w : World} {p q : Nat} {c : Int} {k : Nat} (hk : k < 4) (c0 : w.cell? ⟨p, 12, none⟩ = some (.int .i64 c)) (c1 : w.cell? ⟨q, 18, none⟩ = some (.int .i64 k)) :
    Calls Try.prog 27 #[.pointer (some ⟨p, 0, none⟩), .pointer (some ⟨q, 0, none⟩)] w fun e w' => e = .returned (.bool (andI (c / 2 ^ k) 1 == 1)) ∧ Below w.heap.size w w' := by
  go_enter Try.func27, Try.ntmps27
  go_wp2
  go_ret
  exact ⟨rfl, Below.refl _ _⟩
theorem flags1 {w : World} {p q : Nat} {g m f : Int} (c0 : w.cell? ⟨p, 4, none⟩ = some (.int .i64 g)) (c1 : w.cell? ⟨q, 10, none⟩ = some (.int .i64 m)) (c2 : w.cell? ⟨q, 11, none⟩ = some (.int .i64 f)) :
    Calls Try.prog 31 #[.pointer (some ⟨p, 0, none⟩), .pointer (some ⟨q, 0, none⟩)] w fun e w' => e = .returned (.bool (andI g m == f)) ∧ Below w.heap.size w w' := by
  go_enter Try.func31, Try.ntmps31
  go_wp2
  go_ret
  exact ⟨rfl, Below.refl _ _⟩
theorem flags2 {w : World} {p q : Nat} {m f m' f' : Int} (c0 : w.cell? ⟨p, 10, none⟩ = some (.int .i64 m)) (c1 : w.cell? ⟨p, 11, none⟩ = some (.int .i64 f)) (c2 : w.cell? ⟨q, 10, none⟩ = some (.int .i64 m')) (c3 : w.cell? ⟨q, 11, none⟩ = some (.int .i64 f')) :
    Calls Try.prog 38 #[.pointer (some ⟨p, 0, none⟩), .pointer (some ⟨q, 0, none⟩)] w fun e w' => e = .returned (.bool (bits .andNot .i64 m m' == 0 && andI f' m == f)) ∧ Below w.heap.size w w' := by
  go_enter Try.func38, Try.ntmps38
  go_wp2
  all_goals go_ret
  all_goals exact ⟨ret_bool (by simp [andI, *]), Below.refl _ _⟩
theorem class2 {w : World} {p q : Nat} {c c' : Int} (c0 : w.cell? ⟨p, 12, none⟩ = some (.int .i64 c)) (c1 : w.cell? ⟨q, 12, none⟩ = some (.int .i64 c')) :
    Calls Try.prog 39 #[.pointer (some ⟨q, 0, none⟩), .pointer (some ⟨p, 0, none⟩)] w fun e w' => e = .returned (.bool (bits .andNot .i64 c' c == 0)) ∧ Below w.heap.size w w' := by
  go_enter Try.func39, Try.ntmps39
  go_wp2
  go_ret
  exact ⟨rfl, Below.refl _ _⟩
end Go.Proofs.Ytolkimdfnlfpbaa
