/- Rules and asks; what a rule that does not look at a segment is. Conditions: as each states. -/
import Derived.Test.YtolkimdfnlfpbaaK
import Derived.Deep.Light
import Derived.Laws.StructEq
set_option linter.unusedVariables false
set_option linter.unusedSimpArgs false
namespace Go.Proofs.Ytolkimdfnlfpbaa
open Go.RowKit

/-- A rule's cells. -/
structure Rl where
  acc : Bool
  side : Int
  fb : ByteArray
  fn : Int
  tb : ByteArray
  tn : Int
  s0 : Int
  s1 : Int
  d0 : Int
  d1 : Int
  mask : Int
  flags : Int
  classes : Int
/-- What is asked, by its cells. -/
structure Ak where
  src : ByteArray
  dst : ByteArray
  from_ : Int
  to_ : Int
  seq : Int
  ack : Int
  flags : Int
  win : Int
  urg : Int
  mss : Int
  scale : Int
  sack : Bool
  ba : Option Addr
  bn : Nat
  bc : Nat
  timed : Bool
  time : Int
  echo : Int
  data : ByteArray
  side : Int
  class_ : Int

theorem size3 (w : World) : (sizeOf 3).run Try.prog w = .ok 1 w := by kernel_rfl
theorem part0 (a b : Int) (w : World) : (part 3 #[.int .i64 a, .int .i64 b] 0).run Try.prog w = .ok (.int .i64 a) w := by kernel_rfl
theorem part1 (a b : Int) (w : World) : (part 3 #[.int .i64 a, .int .i64 b] 1).run Try.prog w = .ok (.int .i64 b) w := by kernel_rfl
theorem eq2' (e : Nat) (a b c d : Int) (w : World) : (Op.equalIn (e + 2) 41 (.agg #[.int .i64 a, .int .i64 b]) (.agg #[.int .i64 c, .int .i64 d])).run Try.prog w = .ok (decide (a = c ∧ b = d)) w := by
  rw [Op.equalIn]
  simp only [Sem.run_bind, run_underlying Try.underlying41, Result.andThen_ok, size3, Std.Legacy.Range.forIn_eq_forIn_range', Std.Legacy.Range.size]
  simp only [Nat.sub_zero, Nat.add_sub_cancel, Nat.div_one, List.range', List.forIn_cons, List.forIn_nil, Sem.run_bind, Nat.zero_mul, Nat.one_mul, Nat.mul_one, part0, part1, Result.andThen_ok, Nat.zero_add]
  rw [run_equalIn_int w e 3 .i64 .i64 a c Try.underlying3]
  by_cases h1 : a = c
  · by_cases h2 : b = d
    · simp [h1, h2, Result.andThen, run_equalIn_int w e 3 .i64 .i64 _ _ Try.underlying3, part1]
    · simp [h1, h2, Result.andThen, run_equalIn_int w e 3 .i64 .i64 _ _ Try.underlying3, part1]
  · simp [h1, Result.andThen]
theorem eq2 (a b c d : Int) (w : World) : (Op.equalIn 10000 41 (.agg #[.int .i64 a, .int .i64 b]) (.agg #[.int .i64 c, .int .i64 d])).run Try.prog w = .ok (decide (a = c ∧ b = d)) w := eq2' 9998 a b c d w

def bareB (r : Rl) : Bool := wideB r.fb r.fn && wideB r.tb r.tn && decide (r.s0 = 0 ∧ r.s1 = 65535) && decide (r.d0 = 0 ∧ r.d1 = 65535) && decide (r.mask = 0)
set_option maxRecDepth 100000 in
set_option maxHeartbeats 1000000 in
theorem bare_any (r : Rl) (w : World) : Calls Try.prog 30 #[.agg #[.bool r.acc, .int .i64 r.side, .string r.fb, .int .i64 r.fn, .string r.tb, .int .i64 r.tn, .int .i64 r.s0, .int .i64 r.s1, .int .i64 r.d0, .int .i64 r.d1, .int .i64 r.mask, .int .i64 r.flags, .int .i64 r.classes]] w fun e w' => e = .returned (.bool (bareB r)) ∧ Below w.heap.size w w' := by
  have hq2 := eq2
  have H1 := Lib.hid (fun w => wide_any r.fb r.fn w)
  have H2 := Lib.hid (fun w => wide_any r.tb r.tn w)
  unfold bareB
  have TT := Lib.hid (((Touch.alloc (fun _ => False) w (.cells #[(.bool r.acc : Value), .int .i64 r.side, .string r.fb, .int .i64 r.fn, .string r.tb, .int .i64 r.tn, .int .i64 r.s0, .int .i64 r.s1, .int .i64 r.d0, .int .i64 r.d1, .int .i64 r.mask, .int .i64 r.flags, .int .i64 r.classes] 43)).trans (Touch.alloc (fun _ => False) _ (.cells #[(.int .i64 0 : Value), .int .i64 65535] 41)) (fun _ _ h => h)))
  have hsz : w.heap.size + 2 ≤ ((w.alloc (.cells #[(.bool r.acc : Value), .int .i64 r.side, .string r.fb, .int .i64 r.fn, .string r.tb, .int .i64 r.tn, .int .i64 r.s0, .int .i64 r.s1, .int .i64 r.d0, .int .i64 r.d1, .int .i64 r.mask, .int .i64 r.flags, .int .i64 r.classes] 43)).alloc (.cells #[(.int .i64 0 : Value), .int .i64 65535] 41)).heap.size := by simp
  have c0_0 : ((w.alloc (.cells #[(.bool r.acc : Value), .int .i64 r.side, .string r.fb, .int .i64 r.fn, .string r.tb, .int .i64 r.tn, .int .i64 r.s0, .int .i64 r.s1, .int .i64 r.d0, .int .i64 r.d1, .int .i64 r.mask, .int .i64 r.flags, .int .i64 r.classes] 43)).alloc (.cells #[(.int .i64 0 : Value), .int .i64 65535] 41)).cell? ⟨w.heap.size, 0, none⟩ = some (.bool r.acc) := by simp
  have c0_1 : ((w.alloc (.cells #[(.bool r.acc : Value), .int .i64 r.side, .string r.fb, .int .i64 r.fn, .string r.tb, .int .i64 r.tn, .int .i64 r.s0, .int .i64 r.s1, .int .i64 r.d0, .int .i64 r.d1, .int .i64 r.mask, .int .i64 r.flags, .int .i64 r.classes] 43)).alloc (.cells #[(.int .i64 0 : Value), .int .i64 65535] 41)).cell? ⟨w.heap.size, 1, none⟩ = some (.int .i64 r.side) := by simp
  have c0_2 : ((w.alloc (.cells #[(.bool r.acc : Value), .int .i64 r.side, .string r.fb, .int .i64 r.fn, .string r.tb, .int .i64 r.tn, .int .i64 r.s0, .int .i64 r.s1, .int .i64 r.d0, .int .i64 r.d1, .int .i64 r.mask, .int .i64 r.flags, .int .i64 r.classes] 43)).alloc (.cells #[(.int .i64 0 : Value), .int .i64 65535] 41)).cell? ⟨w.heap.size, 2, none⟩ = some (.string r.fb) := by simp
  have c0_3 : ((w.alloc (.cells #[(.bool r.acc : Value), .int .i64 r.side, .string r.fb, .int .i64 r.fn, .string r.tb, .int .i64 r.tn, .int .i64 r.s0, .int .i64 r.s1, .int .i64 r.d0, .int .i64 r.d1, .int .i64 r.mask, .int .i64 r.flags, .int .i64 r.classes] 43)).alloc (.cells #[(.int .i64 0 : Value), .int .i64 65535] 41)).cell? ⟨w.heap.size, 3, none⟩ = some (.int .i64 r.fn) := by simp
  have c0_4 : ((w.alloc (.cells #[(.bool r.acc : Value), .int .i64 r.side, .string r.fb, .int .i64 r.fn, .string r.tb, .int .i64 r.tn, .int .i64 r.s0, .int .i64 r.s1, .int .i64 r.d0, .int .i64 r.d1, .int .i64 r.mask, .int .i64 r.flags, .int .i64 r.classes] 43)).alloc (.cells #[(.int .i64 0 : Value), .int .i64 65535] 41)).cell? ⟨w.heap.size, 4, none⟩ = some (.string r.tb) := by simp
  have c0_5 : ((w.alloc (.cells #[(.bool r.acc : Value), .int .i64 r.side, .string r.fb, .int .i64 r.fn, .string r.tb, .int .i64 r.tn, .int .i64 r.s0, .int .i64 r.s1, .int .i64 r.d0, .int .i64 r.d1, .int .i64 r.mask, .int .i64 r.flags, .int .i64 r.classes] 43)).alloc (.cells #[(.int .i64 0 : Value), .int .i64 65535] 41)).cell? ⟨w.heap.size, 5, none⟩ = some (.int .i64 r.tn) := by simp
  have c0_6 : ((w.alloc (.cells #[(.bool r.acc : Value), .int .i64 r.side, .string r.fb, .int .i64 r.fn, .string r.tb, .int .i64 r.tn, .int .i64 r.s0, .int .i64 r.s1, .int .i64 r.d0, .int .i64 r.d1, .int .i64 r.mask, .int .i64 r.flags, .int .i64 r.classes] 43)).alloc (.cells #[(.int .i64 0 : Value), .int .i64 65535] 41)).cell? ⟨w.heap.size, 6, none⟩ = some (.int .i64 r.s0) := by simp
  have c0_7 : ((w.alloc (.cells #[(.bool r.acc : Value), .int .i64 r.side, .string r.fb, .int .i64 r.fn, .string r.tb, .int .i64 r.tn, .int .i64 r.s0, .int .i64 r.s1, .int .i64 r.d0, .int .i64 r.d1, .int .i64 r.mask, .int .i64 r.flags, .int .i64 r.classes] 43)).alloc (.cells #[(.int .i64 0 : Value), .int .i64 65535] 41)).cell? ⟨w.heap.size, 7, none⟩ = some (.int .i64 r.s1) := by simp
  have c0_8 : ((w.alloc (.cells #[(.bool r.acc : Value), .int .i64 r.side, .string r.fb, .int .i64 r.fn, .string r.tb, .int .i64 r.tn, .int .i64 r.s0, .int .i64 r.s1, .int .i64 r.d0, .int .i64 r.d1, .int .i64 r.mask, .int .i64 r.flags, .int .i64 r.classes] 43)).alloc (.cells #[(.int .i64 0 : Value), .int .i64 65535] 41)).cell? ⟨w.heap.size, 8, none⟩ = some (.int .i64 r.d0) := by simp
  have c0_9 : ((w.alloc (.cells #[(.bool r.acc : Value), .int .i64 r.side, .string r.fb, .int .i64 r.fn, .string r.tb, .int .i64 r.tn, .int .i64 r.s0, .int .i64 r.s1, .int .i64 r.d0, .int .i64 r.d1, .int .i64 r.mask, .int .i64 r.flags, .int .i64 r.classes] 43)).alloc (.cells #[(.int .i64 0 : Value), .int .i64 65535] 41)).cell? ⟨w.heap.size, 9, none⟩ = some (.int .i64 r.d1) := by simp
  have c0_10 : ((w.alloc (.cells #[(.bool r.acc : Value), .int .i64 r.side, .string r.fb, .int .i64 r.fn, .string r.tb, .int .i64 r.tn, .int .i64 r.s0, .int .i64 r.s1, .int .i64 r.d0, .int .i64 r.d1, .int .i64 r.mask, .int .i64 r.flags, .int .i64 r.classes] 43)).alloc (.cells #[(.int .i64 0 : Value), .int .i64 65535] 41)).cell? ⟨w.heap.size, 10, none⟩ = some (.int .i64 r.mask) := by simp
  have c0_11 : ((w.alloc (.cells #[(.bool r.acc : Value), .int .i64 r.side, .string r.fb, .int .i64 r.fn, .string r.tb, .int .i64 r.tn, .int .i64 r.s0, .int .i64 r.s1, .int .i64 r.d0, .int .i64 r.d1, .int .i64 r.mask, .int .i64 r.flags, .int .i64 r.classes] 43)).alloc (.cells #[(.int .i64 0 : Value), .int .i64 65535] 41)).cell? ⟨w.heap.size, 11, none⟩ = some (.int .i64 r.flags) := by simp
  have c0_12 : ((w.alloc (.cells #[(.bool r.acc : Value), .int .i64 r.side, .string r.fb, .int .i64 r.fn, .string r.tb, .int .i64 r.tn, .int .i64 r.s0, .int .i64 r.s1, .int .i64 r.d0, .int .i64 r.d1, .int .i64 r.mask, .int .i64 r.flags, .int .i64 r.classes] 43)).alloc (.cells #[(.int .i64 0 : Value), .int .i64 65535] 41)).cell? ⟨w.heap.size, 12, none⟩ = some (.int .i64 r.classes) := by simp
  have c1_0 : ((w.alloc (.cells #[(.bool r.acc : Value), .int .i64 r.side, .string r.fb, .int .i64 r.fn, .string r.tb, .int .i64 r.tn, .int .i64 r.s0, .int .i64 r.s1, .int .i64 r.d0, .int .i64 r.d1, .int .i64 r.mask, .int .i64 r.flags, .int .i64 r.classes] 43)).alloc (.cells #[(.int .i64 0 : Value), .int .i64 65535] 41)).cell? ⟨w.heap.size + 1, 0, none⟩ = some (.int .i64 0) := by simp
  have c1_1 : ((w.alloc (.cells #[(.bool r.acc : Value), .int .i64 r.side, .string r.fb, .int .i64 r.fn, .string r.tb, .int .i64 r.tn, .int .i64 r.s0, .int .i64 r.s1, .int .i64 r.d0, .int .i64 r.d1, .int .i64 r.mask, .int .i64 r.flags, .int .i64 r.classes] 43)).alloc (.cells #[(.int .i64 0 : Value), .int .i64 65535] 41)).cell? ⟨w.heap.size + 1, 1, none⟩ = some (.int .i64 65535) := by simp
  have TB := Lib.hid TT.out.toBelow
  cases h1 : wideB r.fb r.fn with
  | false =>
    rw [h1] at H1
    clear h1
    go_enter Try.func30, Try.ntmps30
    go_wp2_with (fail)
    generalize ((w.alloc (.cells #[(.bool r.acc : Value), .int .i64 r.side, .string r.fb, .int .i64 r.fn, .string r.tb, .int .i64 r.tn, .int .i64 r.s0, .int .i64 r.s1, .int .i64 r.d0, .int .i64 r.d1, .int .i64 r.mask, .int .i64 r.flags, .int .i64 r.classes] 43)).alloc (.cells #[(.int .i64 0 : Value), .int .i64 65535] 41)) = w0 at *
    generalize hBe : w.heap.size = B at *
    have HBE := Lib.hid hBe
    have hB1 := Lib.hid (show B ≤ w.heap.size by omega)
    clear hBe
    refine (H1.out _).mono ?_
    rintro e w1 ⟨rfl, hbb⟩
    have tt : Touch (fun _ => False) w0 w1 := Touch.none hbb
    replace c0_0 : w1.cell? ⟨B, 0, none⟩ = some (.bool r.acc) := by rw [← c0_0]; exact tt.cell (by omega) (fun h => h) 0
    replace c0_1 : w1.cell? ⟨B, 1, none⟩ = some (.int .i64 r.side) := by rw [← c0_1]; exact tt.cell (by omega) (fun h => h) 1
    replace c0_2 : w1.cell? ⟨B, 2, none⟩ = some (.string r.fb) := by rw [← c0_2]; exact tt.cell (by omega) (fun h => h) 2
    replace c0_3 : w1.cell? ⟨B, 3, none⟩ = some (.int .i64 r.fn) := by rw [← c0_3]; exact tt.cell (by omega) (fun h => h) 3
    replace c0_4 : w1.cell? ⟨B, 4, none⟩ = some (.string r.tb) := by rw [← c0_4]; exact tt.cell (by omega) (fun h => h) 4
    replace c0_5 : w1.cell? ⟨B, 5, none⟩ = some (.int .i64 r.tn) := by rw [← c0_5]; exact tt.cell (by omega) (fun h => h) 5
    replace c0_6 : w1.cell? ⟨B, 6, none⟩ = some (.int .i64 r.s0) := by rw [← c0_6]; exact tt.cell (by omega) (fun h => h) 6
    replace c0_7 : w1.cell? ⟨B, 7, none⟩ = some (.int .i64 r.s1) := by rw [← c0_7]; exact tt.cell (by omega) (fun h => h) 7
    replace c0_8 : w1.cell? ⟨B, 8, none⟩ = some (.int .i64 r.d0) := by rw [← c0_8]; exact tt.cell (by omega) (fun h => h) 8
    replace c0_9 : w1.cell? ⟨B, 9, none⟩ = some (.int .i64 r.d1) := by rw [← c0_9]; exact tt.cell (by omega) (fun h => h) 9
    replace c0_10 : w1.cell? ⟨B, 10, none⟩ = some (.int .i64 r.mask) := by rw [← c0_10]; exact tt.cell (by omega) (fun h => h) 10
    replace c0_11 : w1.cell? ⟨B, 11, none⟩ = some (.int .i64 r.flags) := by rw [← c0_11]; exact tt.cell (by omega) (fun h => h) 11
    replace c0_12 : w1.cell? ⟨B, 12, none⟩ = some (.int .i64 r.classes) := by rw [← c0_12]; exact tt.cell (by omega) (fun h => h) 12
    replace c1_0 : w1.cell? ⟨B + 1, 0, none⟩ = some (.int .i64 0) := by rw [← c1_0]; exact tt.cell (by omega) (fun h => h) 0
    replace c1_1 : w1.cell? ⟨B + 1, 1, none⟩ = some (.int .i64 65535) := by rw [← c1_1]; exact tt.cell (by omega) (fun h => h) 1
    replace hsz : B + 2 ≤ w1.heap.size := Nat.le_trans hsz tt.size
    replace TB := Lib.hid (below_then TB.out hB1.out tt (fun _ _ h => h))
    clear tt hbb
    go_wp2_with (fail)
    go_ret
    exact ⟨rfl, HBE.out ▸ TB.out⟩
  | true =>
    rw [h1] at H1
    clear h1
    cases h2 : wideB r.tb r.tn with
    | false =>
      rw [h2] at H2
      clear h2
      go_enter Try.func30, Try.ntmps30
      go_wp2_with (fail)
      generalize ((w.alloc (.cells #[(.bool r.acc : Value), .int .i64 r.side, .string r.fb, .int .i64 r.fn, .string r.tb, .int .i64 r.tn, .int .i64 r.s0, .int .i64 r.s1, .int .i64 r.d0, .int .i64 r.d1, .int .i64 r.mask, .int .i64 r.flags, .int .i64 r.classes] 43)).alloc (.cells #[(.int .i64 0 : Value), .int .i64 65535] 41)) = w0 at *
      generalize hBe : w.heap.size = B at *
      have HBE := Lib.hid hBe
      have hB1 := Lib.hid (show B ≤ w.heap.size by omega)
      clear hBe
      refine (H1.out _).mono ?_
      rintro e w1 ⟨rfl, hbb⟩
      have tt : Touch (fun _ => False) w0 w1 := Touch.none hbb
      replace c0_0 : w1.cell? ⟨B, 0, none⟩ = some (.bool r.acc) := by rw [← c0_0]; exact tt.cell (by omega) (fun h => h) 0
      replace c0_1 : w1.cell? ⟨B, 1, none⟩ = some (.int .i64 r.side) := by rw [← c0_1]; exact tt.cell (by omega) (fun h => h) 1
      replace c0_2 : w1.cell? ⟨B, 2, none⟩ = some (.string r.fb) := by rw [← c0_2]; exact tt.cell (by omega) (fun h => h) 2
      replace c0_3 : w1.cell? ⟨B, 3, none⟩ = some (.int .i64 r.fn) := by rw [← c0_3]; exact tt.cell (by omega) (fun h => h) 3
      replace c0_4 : w1.cell? ⟨B, 4, none⟩ = some (.string r.tb) := by rw [← c0_4]; exact tt.cell (by omega) (fun h => h) 4
      replace c0_5 : w1.cell? ⟨B, 5, none⟩ = some (.int .i64 r.tn) := by rw [← c0_5]; exact tt.cell (by omega) (fun h => h) 5
      replace c0_6 : w1.cell? ⟨B, 6, none⟩ = some (.int .i64 r.s0) := by rw [← c0_6]; exact tt.cell (by omega) (fun h => h) 6
      replace c0_7 : w1.cell? ⟨B, 7, none⟩ = some (.int .i64 r.s1) := by rw [← c0_7]; exact tt.cell (by omega) (fun h => h) 7
      replace c0_8 : w1.cell? ⟨B, 8, none⟩ = some (.int .i64 r.d0) := by rw [← c0_8]; exact tt.cell (by omega) (fun h => h) 8
      replace c0_9 : w1.cell? ⟨B, 9, none⟩ = some (.int .i64 r.d1) := by rw [← c0_9]; exact tt.cell (by omega) (fun h => h) 9
      replace c0_10 : w1.cell? ⟨B, 10, none⟩ = some (.int .i64 r.mask) := by rw [← c0_10]; exact tt.cell (by omega) (fun h => h) 10
      replace c0_11 : w1.cell? ⟨B, 11, none⟩ = some (.int .i64 r.flags) := by rw [← c0_11]; exact tt.cell (by omega) (fun h => h) 11
      replace c0_12 : w1.cell? ⟨B, 12, none⟩ = some (.int .i64 r.classes) := by rw [← c0_12]; exact tt.cell (by omega) (fun h => h) 12
      replace c1_0 : w1.cell? ⟨B + 1, 0, none⟩ = some (.int .i64 0) := by rw [← c1_0]; exact tt.cell (by omega) (fun h => h) 0
      replace c1_1 : w1.cell? ⟨B + 1, 1, none⟩ = some (.int .i64 65535) := by rw [← c1_1]; exact tt.cell (by omega) (fun h => h) 1
      replace hsz : B + 2 ≤ w1.heap.size := Nat.le_trans hsz tt.size
      replace TB := Lib.hid (below_then TB.out hB1.out tt (fun _ _ h => h))
      clear tt hbb
      go_wp2_with (fail)
      refine (H2.out _).mono ?_
      rintro e w2 ⟨rfl, hbb⟩
      have tt : Touch (fun _ => False) w1 w2 := Touch.none hbb
      replace c0_0 : w2.cell? ⟨B, 0, none⟩ = some (.bool r.acc) := by rw [← c0_0]; exact tt.cell (by omega) (fun h => h) 0
      replace c0_1 : w2.cell? ⟨B, 1, none⟩ = some (.int .i64 r.side) := by rw [← c0_1]; exact tt.cell (by omega) (fun h => h) 1
      replace c0_2 : w2.cell? ⟨B, 2, none⟩ = some (.string r.fb) := by rw [← c0_2]; exact tt.cell (by omega) (fun h => h) 2
      replace c0_3 : w2.cell? ⟨B, 3, none⟩ = some (.int .i64 r.fn) := by rw [← c0_3]; exact tt.cell (by omega) (fun h => h) 3
      replace c0_4 : w2.cell? ⟨B, 4, none⟩ = some (.string r.tb) := by rw [← c0_4]; exact tt.cell (by omega) (fun h => h) 4
      replace c0_5 : w2.cell? ⟨B, 5, none⟩ = some (.int .i64 r.tn) := by rw [← c0_5]; exact tt.cell (by omega) (fun h => h) 5
      replace c0_6 : w2.cell? ⟨B, 6, none⟩ = some (.int .i64 r.s0) := by rw [← c0_6]; exact tt.cell (by omega) (fun h => h) 6
      replace c0_7 : w2.cell? ⟨B, 7, none⟩ = some (.int .i64 r.s1) := by rw [← c0_7]; exact tt.cell (by omega) (fun h => h) 7
      replace c0_8 : w2.cell? ⟨B, 8, none⟩ = some (.int .i64 r.d0) := by rw [← c0_8]; exact tt.cell (by omega) (fun h => h) 8
      replace c0_9 : w2.cell? ⟨B, 9, none⟩ = some (.int .i64 r.d1) := by rw [← c0_9]; exact tt.cell (by omega) (fun h => h) 9
      replace c0_10 : w2.cell? ⟨B, 10, none⟩ = some (.int .i64 r.mask) := by rw [← c0_10]; exact tt.cell (by omega) (fun h => h) 10
      replace c0_11 : w2.cell? ⟨B, 11, none⟩ = some (.int .i64 r.flags) := by rw [← c0_11]; exact tt.cell (by omega) (fun h => h) 11
      replace c0_12 : w2.cell? ⟨B, 12, none⟩ = some (.int .i64 r.classes) := by rw [← c0_12]; exact tt.cell (by omega) (fun h => h) 12
      replace c1_0 : w2.cell? ⟨B + 1, 0, none⟩ = some (.int .i64 0) := by rw [← c1_0]; exact tt.cell (by omega) (fun h => h) 0
      replace c1_1 : w2.cell? ⟨B + 1, 1, none⟩ = some (.int .i64 65535) := by rw [← c1_1]; exact tt.cell (by omega) (fun h => h) 1
      replace hsz : B + 2 ≤ w2.heap.size := Nat.le_trans hsz tt.size
      replace TB := Lib.hid (below_then TB.out hB1.out tt (fun _ _ h => h))
      clear tt hbb
      go_wp2_with (fail)
      go_ret
      exact ⟨rfl, HBE.out ▸ TB.out⟩
    | true =>
      rw [h2] at H2
      clear h2
      go_enter Try.func30, Try.ntmps30
      go_wp2_with (fail)
      generalize ((w.alloc (.cells #[(.bool r.acc : Value), .int .i64 r.side, .string r.fb, .int .i64 r.fn, .string r.tb, .int .i64 r.tn, .int .i64 r.s0, .int .i64 r.s1, .int .i64 r.d0, .int .i64 r.d1, .int .i64 r.mask, .int .i64 r.flags, .int .i64 r.classes] 43)).alloc (.cells #[(.int .i64 0 : Value), .int .i64 65535] 41)) = w0 at *
      generalize hBe : w.heap.size = B at *
      have HBE := Lib.hid hBe
      have hB1 := Lib.hid (show B ≤ w.heap.size by omega)
      clear hBe
      refine (H1.out _).mono ?_
      rintro e w1 ⟨rfl, hbb⟩
      have tt : Touch (fun _ => False) w0 w1 := Touch.none hbb
      replace c0_0 : w1.cell? ⟨B, 0, none⟩ = some (.bool r.acc) := by rw [← c0_0]; exact tt.cell (by omega) (fun h => h) 0
      replace c0_1 : w1.cell? ⟨B, 1, none⟩ = some (.int .i64 r.side) := by rw [← c0_1]; exact tt.cell (by omega) (fun h => h) 1
      replace c0_2 : w1.cell? ⟨B, 2, none⟩ = some (.string r.fb) := by rw [← c0_2]; exact tt.cell (by omega) (fun h => h) 2
      replace c0_3 : w1.cell? ⟨B, 3, none⟩ = some (.int .i64 r.fn) := by rw [← c0_3]; exact tt.cell (by omega) (fun h => h) 3
      replace c0_4 : w1.cell? ⟨B, 4, none⟩ = some (.string r.tb) := by rw [← c0_4]; exact tt.cell (by omega) (fun h => h) 4
      replace c0_5 : w1.cell? ⟨B, 5, none⟩ = some (.int .i64 r.tn) := by rw [← c0_5]; exact tt.cell (by omega) (fun h => h) 5
      replace c0_6 : w1.cell? ⟨B, 6, none⟩ = some (.int .i64 r.s0) := by rw [← c0_6]; exact tt.cell (by omega) (fun h => h) 6
      replace c0_7 : w1.cell? ⟨B, 7, none⟩ = some (.int .i64 r.s1) := by rw [← c0_7]; exact tt.cell (by omega) (fun h => h) 7
      replace c0_8 : w1.cell? ⟨B, 8, none⟩ = some (.int .i64 r.d0) := by rw [← c0_8]; exact tt.cell (by omega) (fun h => h) 8
      replace c0_9 : w1.cell? ⟨B, 9, none⟩ = some (.int .i64 r.d1) := by rw [← c0_9]; exact tt.cell (by omega) (fun h => h) 9
      replace c0_10 : w1.cell? ⟨B, 10, none⟩ = some (.int .i64 r.mask) := by rw [← c0_10]; exact tt.cell (by omega) (fun h => h) 10
      replace c0_11 : w1.cell? ⟨B, 11, none⟩ = some (.int .i64 r.flags) := by rw [← c0_11]; exact tt.cell (by omega) (fun h => h) 11
      replace c0_12 : w1.cell? ⟨B, 12, none⟩ = some (.int .i64 r.classes) := by rw [← c0_12]; exact tt.cell (by omega) (fun h => h) 12
      replace c1_0 : w1.cell? ⟨B + 1, 0, none⟩ = some (.int .i64 0) := by rw [← c1_0]; exact tt.cell (by omega) (fun h => h) 0
      replace c1_1 : w1.cell? ⟨B + 1, 1, none⟩ = some (.int .i64 65535) := by rw [← c1_1]; exact tt.cell (by omega) (fun h => h) 1
      replace hsz : B + 2 ≤ w1.heap.size := Nat.le_trans hsz tt.size
      replace TB := Lib.hid (below_then TB.out hB1.out tt (fun _ _ h => h))
      clear tt hbb
      go_wp2_with (fail)
      refine (H2.out _).mono ?_
      rintro e w2 ⟨rfl, hbb⟩
      have tt : Touch (fun _ => False) w1 w2 := Touch.none hbb
      replace c0_0 : w2.cell? ⟨B, 0, none⟩ = some (.bool r.acc) := by rw [← c0_0]; exact tt.cell (by omega) (fun h => h) 0
      replace c0_1 : w2.cell? ⟨B, 1, none⟩ = some (.int .i64 r.side) := by rw [← c0_1]; exact tt.cell (by omega) (fun h => h) 1
      replace c0_2 : w2.cell? ⟨B, 2, none⟩ = some (.string r.fb) := by rw [← c0_2]; exact tt.cell (by omega) (fun h => h) 2
      replace c0_3 : w2.cell? ⟨B, 3, none⟩ = some (.int .i64 r.fn) := by rw [← c0_3]; exact tt.cell (by omega) (fun h => h) 3
      replace c0_4 : w2.cell? ⟨B, 4, none⟩ = some (.string r.tb) := by rw [← c0_4]; exact tt.cell (by omega) (fun h => h) 4
      replace c0_5 : w2.cell? ⟨B, 5, none⟩ = some (.int .i64 r.tn) := by rw [← c0_5]; exact tt.cell (by omega) (fun h => h) 5
      replace c0_6 : w2.cell? ⟨B, 6, none⟩ = some (.int .i64 r.s0) := by rw [← c0_6]; exact tt.cell (by omega) (fun h => h) 6
      replace c0_7 : w2.cell? ⟨B, 7, none⟩ = some (.int .i64 r.s1) := by rw [← c0_7]; exact tt.cell (by omega) (fun h => h) 7
      replace c0_8 : w2.cell? ⟨B, 8, none⟩ = some (.int .i64 r.d0) := by rw [← c0_8]; exact tt.cell (by omega) (fun h => h) 8
      replace c0_9 : w2.cell? ⟨B, 9, none⟩ = some (.int .i64 r.d1) := by rw [← c0_9]; exact tt.cell (by omega) (fun h => h) 9
      replace c0_10 : w2.cell? ⟨B, 10, none⟩ = some (.int .i64 r.mask) := by rw [← c0_10]; exact tt.cell (by omega) (fun h => h) 10
      replace c0_11 : w2.cell? ⟨B, 11, none⟩ = some (.int .i64 r.flags) := by rw [← c0_11]; exact tt.cell (by omega) (fun h => h) 11
      replace c0_12 : w2.cell? ⟨B, 12, none⟩ = some (.int .i64 r.classes) := by rw [← c0_12]; exact tt.cell (by omega) (fun h => h) 12
      replace c1_0 : w2.cell? ⟨B + 1, 0, none⟩ = some (.int .i64 0) := by rw [← c1_0]; exact tt.cell (by omega) (fun h => h) 0
      replace c1_1 : w2.cell? ⟨B + 1, 1, none⟩ = some (.int .i64 65535) := by rw [← c1_1]; exact tt.cell (by omega) (fun h => h) 1
      replace hsz : B + 2 ≤ w2.heap.size := Nat.le_trans hsz tt.size
      replace TB := Lib.hid (below_then TB.out hB1.out tt (fun _ _ h => h))
      clear tt hbb
      go_wp2_with (fail)
      all_goals
        go_ret
        refine ⟨ret_bool ?_, HBE.out ▸ TB.out⟩
        clear H1 H2 TB HBE hB1 TT
        simp_all
        all_goals (by_cases hm : r.mask = 0 <;> simp [hm])
end Go.Proofs.Ytolkimdfnlfpbaa
