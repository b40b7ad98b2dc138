/- Slices of rules; what light answers. Conditions: the rules stand there. -/
import Derived.Test.YtolkimdfnlfpbaaP
import Derived.Deep.Light
set_option linter.unusedVariables false
set_option linter.unusedSimpArgs false
namespace Go.Proofs.Ytolkimdfnlfpbaa
open Go.RowKit

def Rl.cs (r : Rl) : List Value := [.bool r.acc, .int .i64 r.side, .string r.fb, .int .i64 r.fn, .string r.tb, .int .i64 r.tn, .int .i64 r.s0, .int .i64 r.s1, .int .i64 r.d0, .int .i64 r.d1, .int .i64 r.mask, .int .i64 r.flags, .int .i64 r.classes]
/-- The rules of a slice. -/
def RulesAt (w : World) (a : Option Addr) (len : Nat) (R : Nat → Rl) : Prop :=
  ∀ i, i < len → ∃ b off, a = some ⟨b, off, none⟩ ∧ b < w.heap.size ∧ ∀ j v, (R i).cs[j]? = some v → w.cell? ⟨b, off + i * 13 + j, none⟩ = some v
theorem RulesAt.keep {w w' : World} {a : Option Addr} {len : Nat} {R : Nat → Rl} (h : RulesAt w a len R) (t : Touch (fun _ => False) w w') : RulesAt w' a len R := fun i hi => by
  obtain ⟨b, off, ha, hb, hc⟩ := h i hi
  exact ⟨b, off, ha, Nat.lt_of_lt_of_le hb t.size, fun j v hj => by rw [t.cell hb (fun h => h)]; exact hc j v hj⟩
def lightR (r : Rl) : Bool := decide (r.fb.size ≤ 100 ∧ r.tb.size ≤ 100) && rightR r
def lightB (R : Nat → Rl) (len : Nat) (a : Ak) : Bool := decide (len ≤ 60) && lightP a && (List.range len).all fun i => lightR (R i)
set_option maxRecDepth 100000 in
set_option maxHeartbeats 4000000 in
theorem light_any (ad : Option Addr) (len cap : Nat) (R : Nat → Rl) (a : Ak) (w : World) (h : RulesAt w ad len R) (hcap : len ≤ 9223372036854775807) :
    Calls Try.prog 8 #[.slice ad len cap, .agg #[.string a.src, .string a.dst, .int .i64 a.from_, .int .i64 a.to_, .int .u32 a.seq, .int .u32 a.ack, .int .i64 a.flags, .int .i64 a.win, .int .i64 a.urg, .int .i64 a.mss, .int .i64 a.scale, .bool a.sack, .slice a.ba a.bn a.bc, .bool a.timed, .int .u32 a.time, .int .u32 a.echo, .string a.data, .int .i64 a.side, .int .i64 a.class_]] w fun e w' => e = .returned (.bool (lightB R len a)) ∧ Below w.heap.size w w' := by
  have HL := Lib.hid (light24 a)
  have HR := Lib.hid h
  clear h
  obtain ⟨hbx0, hse, TT0⟩ := box1 w [.string a.src, .string a.dst, .int .i64 a.from_, .int .i64 a.to_, .int .u32 a.seq, .int .u32 a.ack, .int .i64 a.flags, .int .i64 a.win, .int .i64 a.urg, .int .i64 a.mss, .int .i64 a.scale, .bool a.sack, .slice a.ba a.bn a.bc, .bool a.timed, .int .u32 a.time, .int .u32 a.echo, .string a.data, .int .i64 a.side, .int .i64 a.class_] 34
  have TT := Lib.hid (show Touch (fun _ => False) w (w.alloc (.cells #[(.string a.src : Value), .string a.dst, .int .i64 a.from_, .int .i64 a.to_, .int .u32 a.seq, .int .u32 a.ack, .int .i64 a.flags, .int .i64 a.win, .int .i64 a.urg, .int .i64 a.mss, .int .i64 a.scale, .bool a.sack, .slice a.ba a.bn a.bc, .bool a.timed, .int .u32 a.time, .int .u32 a.echo, .string a.data, .int .i64 a.side, .int .i64 a.class_] 34)) from TT0)
  clear TT0
  replace hse : (w.alloc (.cells #[(.string a.src : Value), .string a.dst, .int .i64 a.from_, .int .i64 a.to_, .int .u32 a.seq, .int .u32 a.ack, .int .i64 a.flags, .int .i64 a.win, .int .i64 a.urg, .int .i64 a.mss, .int .i64 a.scale, .bool a.sack, .slice a.ba a.bn a.bc, .bool a.timed, .int .u32 a.time, .int .u32 a.echo, .string a.data, .int .i64 a.side, .int .i64 a.class_] 34)).heap.size = w.heap.size + 1 := hse
  have hsz : w.heap.size + 1 ≤ (w.alloc (.cells #[(.string a.src : Value), .string a.dst, .int .i64 a.from_, .int .i64 a.to_, .int .u32 a.seq, .int .u32 a.ack, .int .i64 a.flags, .int .i64 a.win, .int .i64 a.urg, .int .i64 a.mss, .int .i64 a.scale, .bool a.sack, .slice a.ba a.bn a.bc, .bool a.timed, .int .u32 a.time, .int .u32 a.echo, .string a.data, .int .i64 a.side, .int .i64 a.class_] 34)).heap.size := Nat.le_of_eq hse.symm
  have HSE := Lib.hid hse
  clear hse
  have c0_0 : (w.alloc (.cells #[(.string a.src : Value), .string a.dst, .int .i64 a.from_, .int .i64 a.to_, .int .u32 a.seq, .int .u32 a.ack, .int .i64 a.flags, .int .i64 a.win, .int .i64 a.urg, .int .i64 a.mss, .int .i64 a.scale, .bool a.sack, .slice a.ba a.bn a.bc, .bool a.timed, .int .u32 a.time, .int .u32 a.echo, .string a.data, .int .i64 a.side, .int .i64 a.class_] 34)).cell? ⟨w.heap.size, 0, none⟩ = some (.string a.src) := hbx0.cell 0
  have c0_1 : (w.alloc (.cells #[(.string a.src : Value), .string a.dst, .int .i64 a.from_, .int .i64 a.to_, .int .u32 a.seq, .int .u32 a.ack, .int .i64 a.flags, .int .i64 a.win, .int .i64 a.urg, .int .i64 a.mss, .int .i64 a.scale, .bool a.sack, .slice a.ba a.bn a.bc, .bool a.timed, .int .u32 a.time, .int .u32 a.echo, .string a.data, .int .i64 a.side, .int .i64 a.class_] 34)).cell? ⟨w.heap.size, 1, none⟩ = some (.string a.dst) := hbx0.cell 1
  have c0_2 : (w.alloc (.cells #[(.string a.src : Value), .string a.dst, .int .i64 a.from_, .int .i64 a.to_, .int .u32 a.seq, .int .u32 a.ack, .int .i64 a.flags, .int .i64 a.win, .int .i64 a.urg, .int .i64 a.mss, .int .i64 a.scale, .bool a.sack, .slice a.ba a.bn a.bc, .bool a.timed, .int .u32 a.time, .int .u32 a.echo, .string a.data, .int .i64 a.side, .int .i64 a.class_] 34)).cell? ⟨w.heap.size, 2, none⟩ = some (.int .i64 a.from_) := hbx0.cell 2
  have c0_3 : (w.alloc (.cells #[(.string a.src : Value), .string a.dst, .int .i64 a.from_, .int .i64 a.to_, .int .u32 a.seq, .int .u32 a.ack, .int .i64 a.flags, .int .i64 a.win, .int .i64 a.urg, .int .i64 a.mss, .int .i64 a.scale, .bool a.sack, .slice a.ba a.bn a.bc, .bool a.timed, .int .u32 a.time, .int .u32 a.echo, .string a.data, .int .i64 a.side, .int .i64 a.class_] 34)).cell? ⟨w.heap.size, 3, none⟩ = some (.int .i64 a.to_) := hbx0.cell 3
  have c0_4 : (w.alloc (.cells #[(.string a.src : Value), .string a.dst, .int .i64 a.from_, .int .i64 a.to_, .int .u32 a.seq, .int .u32 a.ack, .int .i64 a.flags, .int .i64 a.win, .int .i64 a.urg, .int .i64 a.mss, .int .i64 a.scale, .bool a.sack, .slice a.ba a.bn a.bc, .bool a.timed, .int .u32 a.time, .int .u32 a.echo, .string a.data, .int .i64 a.side, .int .i64 a.class_] 34)).cell? ⟨w.heap.size, 4, none⟩ = some (.int .u32 a.seq) := hbx0.cell 4
  have c0_5 : (w.alloc (.cells #[(.string a.src : Value), .string a.dst, .int .i64 a.from_, .int .i64 a.to_, .int .u32 a.seq, .int .u32 a.ack, .int .i64 a.flags, .int .i64 a.win, .int .i64 a.urg, .int .i64 a.mss, .int .i64 a.scale, .bool a.sack, .slice a.ba a.bn a.bc, .bool a.timed, .int .u32 a.time, .int .u32 a.echo, .string a.data, .int .i64 a.side, .int .i64 a.class_] 34)).cell? ⟨w.heap.size, 5, none⟩ = some (.int .u32 a.ack) := hbx0.cell 5
  have c0_6 : (w.alloc (.cells #[(.string a.src : Value), .string a.dst, .int .i64 a.from_, .int .i64 a.to_, .int .u32 a.seq, .int .u32 a.ack, .int .i64 a.flags, .int .i64 a.win, .int .i64 a.urg, .int .i64 a.mss, .int .i64 a.scale, .bool a.sack, .slice a.ba a.bn a.bc, .bool a.timed, .int .u32 a.time, .int .u32 a.echo, .string a.data, .int .i64 a.side, .int .i64 a.class_] 34)).cell? ⟨w.heap.size, 6, none⟩ = some (.int .i64 a.flags) := hbx0.cell 6
  have c0_7 : (w.alloc (.cells #[(.string a.src : Value), .string a.dst, .int .i64 a.from_, .int .i64 a.to_, .int .u32 a.seq, .int .u32 a.ack, .int .i64 a.flags, .int .i64 a.win, .int .i64 a.urg, .int .i64 a.mss, .int .i64 a.scale, .bool a.sack, .slice a.ba a.bn a.bc, .bool a.timed, .int .u32 a.time, .int .u32 a.echo, .string a.data, .int .i64 a.side, .int .i64 a.class_] 34)).cell? ⟨w.heap.size, 7, none⟩ = some (.int .i64 a.win) := hbx0.cell 7
  have c0_8 : (w.alloc (.cells #[(.string a.src : Value), .string a.dst, .int .i64 a.from_, .int .i64 a.to_, .int .u32 a.seq, .int .u32 a.ack, .int .i64 a.flags, .int .i64 a.win, .int .i64 a.urg, .int .i64 a.mss, .int .i64 a.scale, .bool a.sack, .slice a.ba a.bn a.bc, .bool a.timed, .int .u32 a.time, .int .u32 a.echo, .string a.data, .int .i64 a.side, .int .i64 a.class_] 34)).cell? ⟨w.heap.size, 8, none⟩ = some (.int .i64 a.urg) := hbx0.cell 8
  have c0_9 : (w.alloc (.cells #[(.string a.src : Value), .string a.dst, .int .i64 a.from_, .int .i64 a.to_, .int .u32 a.seq, .int .u32 a.ack, .int .i64 a.flags, .int .i64 a.win, .int .i64 a.urg, .int .i64 a.mss, .int .i64 a.scale, .bool a.sack, .slice a.ba a.bn a.bc, .bool a.timed, .int .u32 a.time, .int .u32 a.echo, .string a.data, .int .i64 a.side, .int .i64 a.class_] 34)).cell? ⟨w.heap.size, 9, none⟩ = some (.int .i64 a.mss) := hbx0.cell 9
  have c0_10 : (w.alloc (.cells #[(.string a.src : Value), .string a.dst, .int .i64 a.from_, .int .i64 a.to_, .int .u32 a.seq, .int .u32 a.ack, .int .i64 a.flags, .int .i64 a.win, .int .i64 a.urg, .int .i64 a.mss, .int .i64 a.scale, .bool a.sack, .slice a.ba a.bn a.bc, .bool a.timed, .int .u32 a.time, .int .u32 a.echo, .string a.data, .int .i64 a.side, .int .i64 a.class_] 34)).cell? ⟨w.heap.size, 10, none⟩ = some (.int .i64 a.scale) := hbx0.cell 10
  have c0_11 : (w.alloc (.cells #[(.string a.src : Value), .string a.dst, .int .i64 a.from_, .int .i64 a.to_, .int .u32 a.seq, .int .u32 a.ack, .int .i64 a.flags, .int .i64 a.win, .int .i64 a.urg, .int .i64 a.mss, .int .i64 a.scale, .bool a.sack, .slice a.ba a.bn a.bc, .bool a.timed, .int .u32 a.time, .int .u32 a.echo, .string a.data, .int .i64 a.side, .int .i64 a.class_] 34)).cell? ⟨w.heap.size, 11, none⟩ = some (.bool a.sack) := hbx0.cell 11
  have c0_12 : (w.alloc (.cells #[(.string a.src : Value), .string a.dst, .int .i64 a.from_, .int .i64 a.to_, .int .u32 a.seq, .int .u32 a.ack, .int .i64 a.flags, .int .i64 a.win, .int .i64 a.urg, .int .i64 a.mss, .int .i64 a.scale, .bool a.sack, .slice a.ba a.bn a.bc, .bool a.timed, .int .u32 a.time, .int .u32 a.echo, .string a.data, .int .i64 a.side, .int .i64 a.class_] 34)).cell? ⟨w.heap.size, 12, none⟩ = some (.slice a.ba a.bn a.bc) := hbx0.cell 12
  have c0_13 : (w.alloc (.cells #[(.string a.src : Value), .string a.dst, .int .i64 a.from_, .int .i64 a.to_, .int .u32 a.seq, .int .u32 a.ack, .int .i64 a.flags, .int .i64 a.win, .int .i64 a.urg, .int .i64 a.mss, .int .i64 a.scale, .bool a.sack, .slice a.ba a.bn a.bc, .bool a.timed, .int .u32 a.time, .int .u32 a.echo, .string a.data, .int .i64 a.side, .int .i64 a.class_] 34)).cell? ⟨w.heap.size, 13, none⟩ = some (.bool a.timed) := hbx0.cell 13
  have c0_14 : (w.alloc (.cells #[(.string a.src : Value), .string a.dst, .int .i64 a.from_, .int .i64 a.to_, .int .u32 a.seq, .int .u32 a.ack, .int .i64 a.flags, .int .i64 a.win, .int .i64 a.urg, .int .i64 a.mss, .int .i64 a.scale, .bool a.sack, .slice a.ba a.bn a.bc, .bool a.timed, .int .u32 a.time, .int .u32 a.echo, .string a.data, .int .i64 a.side, .int .i64 a.class_] 34)).cell? ⟨w.heap.size, 14, none⟩ = some (.int .u32 a.time) := hbx0.cell 14
  have c0_15 : (w.alloc (.cells #[(.string a.src : Value), .string a.dst, .int .i64 a.from_, .int .i64 a.to_, .int .u32 a.seq, .int .u32 a.ack, .int .i64 a.flags, .int .i64 a.win, .int .i64 a.urg, .int .i64 a.mss, .int .i64 a.scale, .bool a.sack, .slice a.ba a.bn a.bc, .bool a.timed, .int .u32 a.time, .int .u32 a.echo, .string a.data, .int .i64 a.side, .int .i64 a.class_] 34)).cell? ⟨w.heap.size, 15, none⟩ = some (.int .u32 a.echo) := hbx0.cell 15
  have c0_16 : (w.alloc (.cells #[(.string a.src : Value), .string a.dst, .int .i64 a.from_, .int .i64 a.to_, .int .u32 a.seq, .int .u32 a.ack, .int .i64 a.flags, .int .i64 a.win, .int .i64 a.urg, .int .i64 a.mss, .int .i64 a.scale, .bool a.sack, .slice a.ba a.bn a.bc, .bool a.timed, .int .u32 a.time, .int .u32 a.echo, .string a.data, .int .i64 a.side, .int .i64 a.class_] 34)).cell? ⟨w.heap.size, 16, none⟩ = some (.string a.data) := hbx0.cell 16
  have c0_17 : (w.alloc (.cells #[(.string a.src : Value), .string a.dst, .int .i64 a.from_, .int .i64 a.to_, .int .u32 a.seq, .int .u32 a.ack, .int .i64 a.flags, .int .i64 a.win, .int .i64 a.urg, .int .i64 a.mss, .int .i64 a.scale, .bool a.sack, .slice a.ba a.bn a.bc, .bool a.timed, .int .u32 a.time, .int .u32 a.echo, .string a.data, .int .i64 a.side, .int .i64 a.class_] 34)).cell? ⟨w.heap.size, 17, none⟩ = some (.int .i64 a.side) := hbx0.cell 17
  have c0_18 : (w.alloc (.cells #[(.string a.src : Value), .string a.dst, .int .i64 a.from_, .int .i64 a.to_, .int .u32 a.seq, .int .u32 a.ack, .int .i64 a.flags, .int .i64 a.win, .int .i64 a.urg, .int .i64 a.mss, .int .i64 a.scale, .bool a.sack, .slice a.ba a.bn a.bc, .bool a.timed, .int .u32 a.time, .int .u32 a.echo, .string a.data, .int .i64 a.side, .int .i64 a.class_] 34)).cell? ⟨w.heap.size, 18, none⟩ = some (.int .i64 a.class_) := hbx0.cell 18
  clear hbx0
  have TB := Lib.hid TT.out.toBelow
  by_cases hl : len ≤ 60
  · have hli : (len : Int) ≤ 60 := by omega
    cases hlp : lightP a with
    | false =>
      rw [hlp] at HL
      have hv : lightB R len a = false := by unfold lightB; rw [hlp]; simp
      rw [hv]
      clear hlp hv
      go_enter Try.func8, Try.ntmps8
      go_wp2_with (fail)
      generalize (w.alloc (.cells #[(.string a.src : Value), .string a.dst, .int .i64 a.from_, .int .i64 a.to_, .int .u32 a.seq, .int .u32 a.ack, .int .i64 a.flags, .int .i64 a.win, .int .i64 a.urg, .int .i64 a.mss, .int .i64 a.scale, .bool a.sack, .slice a.ba a.bn a.bc, .bool a.timed, .int .u32 a.time, .int .u32 a.echo, .string a.data, .int .i64 a.side, .int .i64 a.class_] 34)) = w0 at *
      generalize hBe : w.heap.size = B at *
      have HBE := Lib.hid hBe
      have hB1 := Lib.hid (show B ≤ w.heap.size by omega)
      clear hBe
      refine (HL.out _).mono ?_
      rintro e w1 ⟨rfl, hbb⟩
      have tt : Touch (fun _ => False) w0 w1 := Touch.none hbb
      replace c0_0 : w1.cell? ⟨B, 0, none⟩ = some (.string a.src) := by rw [← c0_0]; exact tt.cell (by omega) (fun h => h) 0
      replace c0_1 : w1.cell? ⟨B, 1, none⟩ = some (.string a.dst) := by rw [← c0_1]; exact tt.cell (by omega) (fun h => h) 1
      replace c0_2 : w1.cell? ⟨B, 2, none⟩ = some (.int .i64 a.from_) := by rw [← c0_2]; exact tt.cell (by omega) (fun h => h) 2
      replace c0_3 : w1.cell? ⟨B, 3, none⟩ = some (.int .i64 a.to_) := by rw [← c0_3]; exact tt.cell (by omega) (fun h => h) 3
      replace c0_4 : w1.cell? ⟨B, 4, none⟩ = some (.int .u32 a.seq) := by rw [← c0_4]; exact tt.cell (by omega) (fun h => h) 4
      replace c0_5 : w1.cell? ⟨B, 5, none⟩ = some (.int .u32 a.ack) := by rw [← c0_5]; exact tt.cell (by omega) (fun h => h) 5
      replace c0_6 : w1.cell? ⟨B, 6, none⟩ = some (.int .i64 a.flags) := by rw [← c0_6]; exact tt.cell (by omega) (fun h => h) 6
      replace c0_7 : w1.cell? ⟨B, 7, none⟩ = some (.int .i64 a.win) := by rw [← c0_7]; exact tt.cell (by omega) (fun h => h) 7
      replace c0_8 : w1.cell? ⟨B, 8, none⟩ = some (.int .i64 a.urg) := by rw [← c0_8]; exact tt.cell (by omega) (fun h => h) 8
      replace c0_9 : w1.cell? ⟨B, 9, none⟩ = some (.int .i64 a.mss) := by rw [← c0_9]; exact tt.cell (by omega) (fun h => h) 9
      replace c0_10 : w1.cell? ⟨B, 10, none⟩ = some (.int .i64 a.scale) := by rw [← c0_10]; exact tt.cell (by omega) (fun h => h) 10
      replace c0_11 : w1.cell? ⟨B, 11, none⟩ = some (.bool a.sack) := by rw [← c0_11]; exact tt.cell (by omega) (fun h => h) 11
      replace c0_12 : w1.cell? ⟨B, 12, none⟩ = some (.slice a.ba a.bn a.bc) := by rw [← c0_12]; exact tt.cell (by omega) (fun h => h) 12
      replace c0_13 : w1.cell? ⟨B, 13, none⟩ = some (.bool a.timed) := by rw [← c0_13]; exact tt.cell (by omega) (fun h => h) 13
      replace c0_14 : w1.cell? ⟨B, 14, none⟩ = some (.int .u32 a.time) := by rw [← c0_14]; exact tt.cell (by omega) (fun h => h) 14
      replace c0_15 : w1.cell? ⟨B, 15, none⟩ = some (.int .u32 a.echo) := by rw [← c0_15]; exact tt.cell (by omega) (fun h => h) 15
      replace c0_16 : w1.cell? ⟨B, 16, none⟩ = some (.string a.data) := by rw [← c0_16]; exact tt.cell (by omega) (fun h => h) 16
      replace c0_17 : w1.cell? ⟨B, 17, none⟩ = some (.int .i64 a.side) := by rw [← c0_17]; exact tt.cell (by omega) (fun h => h) 17
      replace c0_18 : w1.cell? ⟨B, 18, none⟩ = some (.int .i64 a.class_) := by rw [← c0_18]; exact tt.cell (by omega) (fun h => h) 18
      replace hsz : B + 1 ≤ w1.heap.size := Nat.le_trans hsz tt.size
      replace TB := Lib.hid (below_then TB.out hB1.out tt (fun _ _ h => h))
      clear tt hbb
      go_wp2_with (fail)
      go_ret
      exact ⟨rfl, HBE.out ▸ TB.out⟩
    | true =>
      rw [hlp] at HL
      have hv : lightB R len a = (List.range len).all (fun i => lightR (R i)) := by unfold lightB; rw [hlp]; simp [hl]
      rw [hv]
      clear hlp hv
      go_enter Try.func8, Try.ntmps8
      go_wp2_with (fail)
      generalize (w.alloc (.cells #[(.string a.src : Value), .string a.dst, .int .i64 a.from_, .int .i64 a.to_, .int .u32 a.seq, .int .u32 a.ack, .int .i64 a.flags, .int .i64 a.win, .int .i64 a.urg, .int .i64 a.mss, .int .i64 a.scale, .bool a.sack, .slice a.ba a.bn a.bc, .bool a.timed, .int .u32 a.time, .int .u32 a.echo, .string a.data, .int .i64 a.side, .int .i64 a.class_] 34)) = w0 at *
      generalize hBe : w.heap.size = B at *
      have HBE := Lib.hid hBe
      have hB1 := Lib.hid (show B ≤ w.heap.size by omega)
      clear hBe
      refine (HL.out _).mono ?_
      rintro e w1 ⟨rfl, hbb⟩
      have tt : Touch (fun _ => False) w0 w1 := Touch.none hbb
      replace c0_0 : w1.cell? ⟨B, 0, none⟩ = some (.string a.src) := by rw [← c0_0]; exact tt.cell (by omega) (fun h => h) 0
      replace c0_1 : w1.cell? ⟨B, 1, none⟩ = some (.string a.dst) := by rw [← c0_1]; exact tt.cell (by omega) (fun h => h) 1
      replace c0_2 : w1.cell? ⟨B, 2, none⟩ = some (.int .i64 a.from_) := by rw [← c0_2]; exact tt.cell (by omega) (fun h => h) 2
      replace c0_3 : w1.cell? ⟨B, 3, none⟩ = some (.int .i64 a.to_) := by rw [← c0_3]; exact tt.cell (by omega) (fun h => h) 3
      replace c0_4 : w1.cell? ⟨B, 4, none⟩ = some (.int .u32 a.seq) := by rw [← c0_4]; exact tt.cell (by omega) (fun h => h) 4
      replace c0_5 : w1.cell? ⟨B, 5, none⟩ = some (.int .u32 a.ack) := by rw [← c0_5]; exact tt.cell (by omega) (fun h => h) 5
      replace c0_6 : w1.cell? ⟨B, 6, none⟩ = some (.int .i64 a.flags) := by rw [← c0_6]; exact tt.cell (by omega) (fun h => h) 6
      replace c0_7 : w1.cell? ⟨B, 7, none⟩ = some (.int .i64 a.win) := by rw [← c0_7]; exact tt.cell (by omega) (fun h => h) 7
      replace c0_8 : w1.cell? ⟨B, 8, none⟩ = some (.int .i64 a.urg) := by rw [← c0_8]; exact tt.cell (by omega) (fun h => h) 8
      replace c0_9 : w1.cell? ⟨B, 9, none⟩ = some (.int .i64 a.mss) := by rw [← c0_9]; exact tt.cell (by omega) (fun h => h) 9
      replace c0_10 : w1.cell? ⟨B, 10, none⟩ = some (.int .i64 a.scale) := by rw [← c0_10]; exact tt.cell (by omega) (fun h => h) 10
      replace c0_11 : w1.cell? ⟨B, 11, none⟩ = some (.bool a.sack) := by rw [← c0_11]; exact tt.cell (by omega) (fun h => h) 11
      replace c0_12 : w1.cell? ⟨B, 12, none⟩ = some (.slice a.ba a.bn a.bc) := by rw [← c0_12]; exact tt.cell (by omega) (fun h => h) 12
      replace c0_13 : w1.cell? ⟨B, 13, none⟩ = some (.bool a.timed) := by rw [← c0_13]; exact tt.cell (by omega) (fun h => h) 13
      replace c0_14 : w1.cell? ⟨B, 14, none⟩ = some (.int .u32 a.time) := by rw [← c0_14]; exact tt.cell (by omega) (fun h => h) 14
      replace c0_15 : w1.cell? ⟨B, 15, none⟩ = some (.int .u32 a.echo) := by rw [← c0_15]; exact tt.cell (by omega) (fun h => h) 15
      replace c0_16 : w1.cell? ⟨B, 16, none⟩ = some (.string a.data) := by rw [← c0_16]; exact tt.cell (by omega) (fun h => h) 16
      replace c0_17 : w1.cell? ⟨B, 17, none⟩ = some (.int .i64 a.side) := by rw [← c0_17]; exact tt.cell (by omega) (fun h => h) 17
      replace c0_18 : w1.cell? ⟨B, 18, none⟩ = some (.int .i64 a.class_) := by rw [← c0_18]; exact tt.cell (by omega) (fun h => h) 18
      replace hsz : B + 1 ≤ w1.heap.size := Nat.le_trans hsz tt.size
      replace TB := Lib.hid (below_then TB.out hB1.out tt (fun _ _ h => h))
      clear tt hbb
      go_wp2_with (fail)
      clear c0_0 c0_1 c0_2 c0_3 c0_4 c0_5 c0_6 c0_7 c0_8 c0_9 c0_10 c0_11 c0_12 c0_13 c0_14 c0_15 c0_16 c0_17 c0_18
      replace HR := Lib.hid (HR.out.keep (show Touch (fun _ => False) w w1 from (TB.out.mono (Nat.le_of_eq HBE.out) |> fun b => Touch.none (HBE.out ▸ TB.out))))
      go_loopw [5] (fun i wr => ∃ k : Nat, k ≤ len ∧ i = .int .i64 k ∧ (∀ j, j < k → lightR (R j) = true) ∧ Touch (fun _ => False) w1 wr) (fun i _ => len - (intOf i).toNat)
      case atStart => exact ⟨0, Nat.zero_le _, rfl, fun j h => by omega, Touch.refl _ _⟩
      case round =>
        obtain ⟨k, hk, rfl, hz, ht⟩ := hrel
        have HZ := Lib.hid hz
        have HT := Lib.hid ht
        clear hz ht
        by_cases hlt : k < len
        · obtain ⟨b, off, rfl, hb, hc⟩ := (HR.out.keep HT.out) k hlt
          have hki : (k : Int) < len := by omega
          have HRk := Lib.hid (show ∀ v, lightR (R k) = v → v = false → (List.range len).all (fun i => lightR (R i)) = false from fun v h1 h2 => by
            rw [Bool.eq_false_iff]; intro h
            rw [List.all_eq_true] at h
            have := h k (List.mem_range.2 hlt)
            rw [h1, h2] at this
            cases this)
          generalize hr : R k = r at *
          have HRE := Lib.hid hr
          clear hr
          have e0 := hc 0 _ rfl
          have e1 := hc 1 _ rfl
          have e2 := hc 2 _ rfl
          have e3 := hc 3 _ rfl
          have e4 := hc 4 _ rfl
          have e5 := hc 5 _ rfl
          have e6 := hc 6 _ rfl
          have e7 := hc 7 _ rfl
          have e8 := hc 8 _ rfl
          have e9 := hc 9 _ rfl
          have e10 := hc 10 _ rfl
          have e11 := hc 11 _ rfl
          have e12 := hc 12 _ rfl
          rw [Nat.add_zero] at e0
          clear hc
          have HPL := Lib.hid (plain_any r)
          by_cases h1 : r.fb.size ≤ 100
          · have h1i : (r.fb.size : Int) ≤ 100 := by omega
            by_cases h2 : r.tb.size ≤ 100
            · have h2i : (r.tb.size : Int) ≤ 100 := by omega
              have HRR := Lib.hid (right25 r h1 h2)
              have hlr : lightR r = rightR r := by unfold lightR; simp [h1, h2]
              cases hrr : rightR r with
              | true =>
                rw [hrr] at HRR hlr
                have HLR := Lib.hid hlr
                clear hrr hlr
                go_wp2_with (fail)
                refine (HPL.out _).mono ?_
                rintro e w3 ⟨rfl, hb3⟩
                have T3 := Lib.hid (Touch.none hb3)
                clear hb3
                go_wp2_with (fail)
                refine (HRR.out _).mono ?_
                rintro e w4 ⟨rfl, hb4⟩
                have T4 := Lib.hid ((HT.out.trans T3.out (fun _ _ h => h)).trans (Touch.none hb4) (fun _ _ h => h))
                clear hb4
                go_wp2_with (fail)
                go_light
                go_roundw
                case rel => exact ⟨k + 1, by omega, by go_num, fun j hj => by
                  by_cases e : j = k
                  · rw [e, HRE.out, HLR.out]
                  · exact HZ.out j (by omega), T4.out⟩
                case measure => simp [intOf]; omega
              | false =>
                rw [hrr] at HRR hlr
                have HLR := Lib.hid (HRk.out _ hlr rfl)
                clear hrr hlr
                go_wp2_with (fail)
                refine (HPL.out _).mono ?_
                rintro e w3 ⟨rfl, hb3⟩
                have T3 := Lib.hid (Touch.none hb3)
                clear hb3
                go_wp2_with (fail)
                refine (HRR.out _).mono ?_
                rintro e w4 ⟨rfl, hb4⟩
                have T4 := Lib.hid ((HT.out.trans T3.out (fun _ _ h => h)).trans (Touch.none hb4) (fun _ _ h => h))
                clear hb4
                go_wp2_with (fail)
                go_ret
                exact ⟨ret_bool HLR.out.symm, HBE.out ▸ below_then TB.out hB1.out T4.out (fun _ _ h => h)⟩
            · have h2i : (100 : Int) < r.tb.size := by omega
              have hlr : lightR r = false := by unfold lightR; simp [h2]
              have HLR := Lib.hid (HRk.out _ hlr rfl)
              clear hlr
              go_wp2_with (fail)
              go_ret
              exact ⟨ret_bool HLR.out.symm, HBE.out ▸ below_then TB.out hB1.out HT.out (fun _ _ h => h)⟩
          · have h1i : (100 : Int) < r.fb.size := by omega
            have hlr : lightR r = false := by unfold lightR; simp [h1]
            have HLR := Lib.hid (HRk.out _ hlr rfl)
            clear hlr
            go_wp2_with (fail)
            go_ret
            exact ⟨ret_bool HLR.out.symm, HBE.out ▸ below_then TB.out hB1.out HT.out (fun _ _ h => h)⟩
        · obtain rfl : k = len := by omega
          have hall : (List.range k).all (fun i => lightR (R i)) = true := by
            rw [List.all_eq_true]; intro i hi; exact HZ.out i (List.mem_range.1 hi)
          go_wp2_with (fail)
          go_ret
          exact ⟨ret_bool hall.symm, HBE.out ▸ below_then TB.out hB1.out HT.out (fun _ _ h => h)⟩
  · have hli : (60 : Int) < len := by omega
    have hv : lightB R len a = false := by unfold lightB; simp [hl]
    rw [hv]
    clear hv
    go_enter Try.func8, Try.ntmps8
    go_wp2_with (fail)
    generalize (w.alloc (.cells #[(.string a.src : Value), .string a.dst, .int .i64 a.from_, .int .i64 a.to_, .int .u32 a.seq, .int .u32 a.ack, .int .i64 a.flags, .int .i64 a.win, .int .i64 a.urg, .int .i64 a.mss, .int .i64 a.scale, .bool a.sack, .slice a.ba a.bn a.bc, .bool a.timed, .int .u32 a.time, .int .u32 a.echo, .string a.data, .int .i64 a.side, .int .i64 a.class_] 34)) = w0 at *
    generalize hBe : w.heap.size = B at *
    have HBE := Lib.hid hBe
    have hB1 := Lib.hid (show B ≤ w.heap.size by omega)
    clear hBe
    go_ret
    exact ⟨rfl, HBE.out ▸ TB.out⟩
end Go.Proofs.Ytolkimdfnlfpbaa
