/- What the law's wide, plain and light answer. Conditions: as each states. -/
import Derived.Test.YtolkimdfnlfpbaaO
import Derived.Deep.Light
import Derived.Laws.Rows
set_option linter.unusedVariables false
set_option linter.unusedSimpArgs false
namespace Go.Proofs.Ytolkimdfnlfpbaa
open Go.RowKit

theorem wide23 (acc : Bool) (w : World) :
    Calls Try.prog 23 #[.bool acc] w fun e w' => e = .returned (.agg #[.bool acc, .int .i64 0, .string ⟨#[]⟩, .int .i64 0, .string ⟨#[]⟩, .int .i64 0, .int .i64 0, .int .i64 65535, .int .i64 0, .int .i64 65535, .int .i64 0, .int .i64 0, .int .i64 15]) ∧ Below w.heap.size w w' := by
  go_enter Try.func23, Try.ntmps23
  go_wp2
  (try simp only [Exit.inBlock, Exit.then])
  refine bodyPost_ret (results_cell_row rfl _ _ w.heap.size 43 #[.bool acc, .int .i64 0, .string ⟨#[]⟩, .int .i64 0, .string ⟨#[]⟩, .int .i64 0, .int .i64 0, .int .i64 65535, .int .i64 0, .int .i64 65535, .int .i64 0, .int .i64 0, .int .i64 15] (0, 0) _ rfl ?_ Try.underlying43 rfl (by kernel_rfl)) rfl ?_
  · exact heap_alloc_new w _
  · exact ⟨rfl, al _ _⟩
theorem plain_any (r : Rl) (w : World) :
    Calls Try.prog 12 #[.agg #[.bool r.acc, .int .i64 r.side, .string r.fb, .int .i64 r.fn, .string r.tb, .int .i64 r.tn, .int .i64 r.s0, .int .i64 r.s1, .int .i64 r.d0, .int .i64 r.d1, .int .i64 r.mask, .int .i64 r.flags, .int .i64 r.classes]] w fun e w' => e = .returned (.agg #[.bool r.acc, .int .i64 r.side, .string r.fb, .int .i64 r.fn, .string r.tb, .int .i64 r.tn, .int .i64 r.s0, .int .i64 r.s1, .int .i64 r.d0, .int .i64 r.d1, .int .i64 r.mask, .int .i64 r.flags, .int .i64 r.classes]) ∧ Below w.heap.size w w' := by
  go_enter Try.func12, Try.ntmps12
  go_wp2
  (try simp only [Exit.inBlock, Exit.then])
  refine bodyPost_ret (results_cell_row rfl _ _ (w.heap.size + 1) 45 #[.bool r.acc, .int .i64 r.side, .string r.fb, .int .i64 r.fn, .string r.tb, .int .i64 r.tn, .int .i64 r.s0, .int .i64 r.s1, .int .i64 r.d0, .int .i64 r.d1, .int .i64 r.mask, .int .i64 r.flags, .int .i64 r.classes] (0, 0) _ rfl ?_ Try.underlying45 rfl (by kernel_rfl)) rfl ?_
  · exact heap_alloc2_new w _ _
  · exact ⟨rfl, ((Touch.alloc (fun _ => False) w _).trans (Touch.alloc (fun _ => False) _ _) (fun _ _ h => h)).toBelow⟩

def lightP (a : Ak) : Bool := decide (a.src.size ≤ 100 ∧ a.dst.size ≤ 100 ∧ a.data.size ≤ 4000 ∧ a.bn ≤ 20)
set_option maxRecDepth 100000 in
theorem light24 (a : Ak) (w : World) : Calls Try.prog 24 #[.agg #[.string a.src, .string a.dst, .int .i64 a.from_, .int .i64 a.to_, .int .u32 a.seq, .int .u32 a.ack, .int .i64 a.flags, .int .i64 a.win, .int .i64 a.urg, .int .i64 a.mss, .int .i64 a.scale, .bool a.sack, .slice a.ba a.bn a.bc, .bool a.timed, .int .u32 a.time, .int .u32 a.echo, .string a.data]] w fun e w' => e = .returned (.bool (lightP a)) ∧ Below w.heap.size w w' := by
  by_cases h1 : a.src.size ≤ 100
  · by_cases h2 : a.dst.size ≤ 100
    · by_cases h3 : a.data.size ≤ 4000
      · by_cases h4 : a.bn ≤ 20
        · have e1 : (a.src.size : Int) ≤ 100 := by omega
          have e2 : (a.dst.size : Int) ≤ 100 := by omega
          have e3 : (a.data.size : Int) ≤ 4000 := by omega
          have e4 : (a.bn : Int) ≤ 20 := by omega
          have hv : lightP a = true := decide_eq_true ⟨h1, h2, h3, h4⟩
          rw [hv]
          go_enter Try.func24, Try.ntmps24
          go_wp2
          go_ret
          exact ⟨rfl, al _ _⟩
        · have e1 : (a.src.size : Int) ≤ 100 := by omega
          have e2 : (a.dst.size : Int) ≤ 100 := by omega
          have e3 : (a.data.size : Int) ≤ 4000 := by omega
          have e4 : (20 : Int) < a.bn := by omega
          have hv : lightP a = false := decide_eq_false (fun h => h4 h.2.2.2)
          rw [hv]
          go_enter Try.func24, Try.ntmps24
          go_wp2
          go_ret
          exact ⟨ret_bool (decide_eq_false (by omega)), al _ _⟩
      · have e1 : (a.src.size : Int) ≤ 100 := by omega
        have e2 : (a.dst.size : Int) ≤ 100 := by omega
        have e3 : (4000 : Int) < a.data.size := by omega
        have hv : lightP a = false := decide_eq_false (fun h => h3 h.2.2.1)
        rw [hv]
        go_enter Try.func24, Try.ntmps24
        go_wp2
        go_ret
        exact ⟨rfl, al _ _⟩
    · have e1 : (a.src.size : Int) ≤ 100 := by omega
      have e2 : (100 : Int) < a.dst.size := by omega
      have hv : lightP a = false := decide_eq_false (fun h => h2 h.2.1)
      rw [hv]
      go_enter Try.func24, Try.ntmps24
      go_wp2
      go_ret
      exact ⟨rfl, al _ _⟩
  · have e1 : (100 : Int) < a.src.size := by omega
    have hv : lightP a = false := decide_eq_false (fun h => h1 h.1)
    rw [hv]
    go_enter Try.func24, Try.ntmps24
    go_wp2
    go_ret
    exact ⟨rfl, al _ _⟩

def rightR (r : Rl) : Bool :=
  decide (0 ≤ r.side ∧ r.side ≤ 2) && prefB r.fb r.fn && prefB r.tb r.tn && portsB r.s0 r.s1 && portsB r.d0 r.d1 && decide (0 ≤ r.mask ∧ r.mask ≤ 63) &&
    (decide (0 ≤ r.flags) && (andI r.flags r.mask == r.flags) && decide (1 ≤ r.classes ∧ r.classes ≤ 15))
set_option maxRecDepth 100000 in
set_option maxHeartbeats 4000000 in
theorem right25 (r : Rl) (h1 : r.fb.size ≤ 100) (h2 : r.tb.size ≤ 100) (w : World) : Calls Try.prog 25 #[.agg #[.bool r.acc, .int .i64 r.side, .string r.fb, .int .i64 r.fn, .string r.tb, .int .i64 r.tn, .int .i64 r.s0, .int .i64 r.s1, .int .i64 r.d0, .int .i64 r.d1, .int .i64 r.mask, .int .i64 r.flags, .int .i64 r.classes]] w fun e w' => e = .returned (.bool (rightR r)) ∧ Below w.heap.size w w' := by
  have HP := Lib.hid (pref_any r.fb r.fn h1)
  have HQ := Lib.hid (pref_any r.tb r.tn h2)
  have HS := Lib.hid (ports_any r.s0 r.s1)
  have HD := Lib.hid (ports_any r.d0 r.d1)
  unfold rightR
  generalize prefB r.fb r.fn = b1 at *
  generalize prefB r.tb r.tn = b2 at *
  generalize portsB r.s0 r.s1 = b3 at *
  generalize portsB r.d0 r.d1 = b4 at *
  obtain ⟨hbx0, hse, TT0⟩ := box1 w [.bool r.acc, .int .i64 r.side, .string r.fb, .int .i64 r.fn, .string r.tb, .int .i64 r.tn, .int .i64 r.s0, .int .i64 r.s1, .int .i64 r.d0, .int .i64 r.d1, .int .i64 r.mask, .int .i64 r.flags, .int .i64 r.classes] 45
  have TT := Lib.hid (show Touch (fun _ => False) w (w.alloc (.cells #[(.bool r.acc : Value), .int .i64 r.side, .string r.fb, .int .i64 r.fn, .string r.tb, .int .i64 r.tn, .int .i64 r.s0, .int .i64 r.s1, .int .i64 r.d0, .int .i64 r.d1, .int .i64 r.mask, .int .i64 r.flags, .int .i64 r.classes] 45)) from TT0)
  clear TT0
  replace hse : (w.alloc (.cells #[(.bool r.acc : Value), .int .i64 r.side, .string r.fb, .int .i64 r.fn, .string r.tb, .int .i64 r.tn, .int .i64 r.s0, .int .i64 r.s1, .int .i64 r.d0, .int .i64 r.d1, .int .i64 r.mask, .int .i64 r.flags, .int .i64 r.classes] 45)).heap.size = w.heap.size + 1 := hse
  have hsz : w.heap.size + 1 ≤ (w.alloc (.cells #[(.bool r.acc : Value), .int .i64 r.side, .string r.fb, .int .i64 r.fn, .string r.tb, .int .i64 r.tn, .int .i64 r.s0, .int .i64 r.s1, .int .i64 r.d0, .int .i64 r.d1, .int .i64 r.mask, .int .i64 r.flags, .int .i64 r.classes] 45)).heap.size := Nat.le_of_eq hse.symm
  have HSE := Lib.hid hse
  clear hse
  have c0_0 : (w.alloc (.cells #[(.bool r.acc : Value), .int .i64 r.side, .string r.fb, .int .i64 r.fn, .string r.tb, .int .i64 r.tn, .int .i64 r.s0, .int .i64 r.s1, .int .i64 r.d0, .int .i64 r.d1, .int .i64 r.mask, .int .i64 r.flags, .int .i64 r.classes] 45)).cell? ⟨w.heap.size, 0, none⟩ = some (.bool r.acc) := hbx0.cell 0
  have c0_1 : (w.alloc (.cells #[(.bool r.acc : Value), .int .i64 r.side, .string r.fb, .int .i64 r.fn, .string r.tb, .int .i64 r.tn, .int .i64 r.s0, .int .i64 r.s1, .int .i64 r.d0, .int .i64 r.d1, .int .i64 r.mask, .int .i64 r.flags, .int .i64 r.classes] 45)).cell? ⟨w.heap.size, 1, none⟩ = some (.int .i64 r.side) := hbx0.cell 1
  have c0_2 : (w.alloc (.cells #[(.bool r.acc : Value), .int .i64 r.side, .string r.fb, .int .i64 r.fn, .string r.tb, .int .i64 r.tn, .int .i64 r.s0, .int .i64 r.s1, .int .i64 r.d0, .int .i64 r.d1, .int .i64 r.mask, .int .i64 r.flags, .int .i64 r.classes] 45)).cell? ⟨w.heap.size, 2, none⟩ = some (.string r.fb) := hbx0.cell 2
  have c0_3 : (w.alloc (.cells #[(.bool r.acc : Value), .int .i64 r.side, .string r.fb, .int .i64 r.fn, .string r.tb, .int .i64 r.tn, .int .i64 r.s0, .int .i64 r.s1, .int .i64 r.d0, .int .i64 r.d1, .int .i64 r.mask, .int .i64 r.flags, .int .i64 r.classes] 45)).cell? ⟨w.heap.size, 3, none⟩ = some (.int .i64 r.fn) := hbx0.cell 3
  have c0_4 : (w.alloc (.cells #[(.bool r.acc : Value), .int .i64 r.side, .string r.fb, .int .i64 r.fn, .string r.tb, .int .i64 r.tn, .int .i64 r.s0, .int .i64 r.s1, .int .i64 r.d0, .int .i64 r.d1, .int .i64 r.mask, .int .i64 r.flags, .int .i64 r.classes] 45)).cell? ⟨w.heap.size, 4, none⟩ = some (.string r.tb) := hbx0.cell 4
  have c0_5 : (w.alloc (.cells #[(.bool r.acc : Value), .int .i64 r.side, .string r.fb, .int .i64 r.fn, .string r.tb, .int .i64 r.tn, .int .i64 r.s0, .int .i64 r.s1, .int .i64 r.d0, .int .i64 r.d1, .int .i64 r.mask, .int .i64 r.flags, .int .i64 r.classes] 45)).cell? ⟨w.heap.size, 5, none⟩ = some (.int .i64 r.tn) := hbx0.cell 5
  have c0_6 : (w.alloc (.cells #[(.bool r.acc : Value), .int .i64 r.side, .string r.fb, .int .i64 r.fn, .string r.tb, .int .i64 r.tn, .int .i64 r.s0, .int .i64 r.s1, .int .i64 r.d0, .int .i64 r.d1, .int .i64 r.mask, .int .i64 r.flags, .int .i64 r.classes] 45)).cell? ⟨w.heap.size, 6, none⟩ = some (.int .i64 r.s0) := hbx0.cell 6
  have c0_7 : (w.alloc (.cells #[(.bool r.acc : Value), .int .i64 r.side, .string r.fb, .int .i64 r.fn, .string r.tb, .int .i64 r.tn, .int .i64 r.s0, .int .i64 r.s1, .int .i64 r.d0, .int .i64 r.d1, .int .i64 r.mask, .int .i64 r.flags, .int .i64 r.classes] 45)).cell? ⟨w.heap.size, 7, none⟩ = some (.int .i64 r.s1) := hbx0.cell 7
  have c0_8 : (w.alloc (.cells #[(.bool r.acc : Value), .int .i64 r.side, .string r.fb, .int .i64 r.fn, .string r.tb, .int .i64 r.tn, .int .i64 r.s0, .int .i64 r.s1, .int .i64 r.d0, .int .i64 r.d1, .int .i64 r.mask, .int .i64 r.flags, .int .i64 r.classes] 45)).cell? ⟨w.heap.size, 8, none⟩ = some (.int .i64 r.d0) := hbx0.cell 8
  have c0_9 : (w.alloc (.cells #[(.bool r.acc : Value), .int .i64 r.side, .string r.fb, .int .i64 r.fn, .string r.tb, .int .i64 r.tn, .int .i64 r.s0, .int .i64 r.s1, .int .i64 r.d0, .int .i64 r.d1, .int .i64 r.mask, .int .i64 r.flags, .int .i64 r.classes] 45)).cell? ⟨w.heap.size, 9, none⟩ = some (.int .i64 r.d1) := hbx0.cell 9
  have c0_10 : (w.alloc (.cells #[(.bool r.acc : Value), .int .i64 r.side, .string r.fb, .int .i64 r.fn, .string r.tb, .int .i64 r.tn, .int .i64 r.s0, .int .i64 r.s1, .int .i64 r.d0, .int .i64 r.d1, .int .i64 r.mask, .int .i64 r.flags, .int .i64 r.classes] 45)).cell? ⟨w.heap.size, 10, none⟩ = some (.int .i64 r.mask) := hbx0.cell 10
  have c0_11 : (w.alloc (.cells #[(.bool r.acc : Value), .int .i64 r.side, .string r.fb, .int .i64 r.fn, .string r.tb, .int .i64 r.tn, .int .i64 r.s0, .int .i64 r.s1, .int .i64 r.d0, .int .i64 r.d1, .int .i64 r.mask, .int .i64 r.flags, .int .i64 r.classes] 45)).cell? ⟨w.heap.size, 11, none⟩ = some (.int .i64 r.flags) := hbx0.cell 11
  have c0_12 : (w.alloc (.cells #[(.bool r.acc : Value), .int .i64 r.side, .string r.fb, .int .i64 r.fn, .string r.tb, .int .i64 r.tn, .int .i64 r.s0, .int .i64 r.s1, .int .i64 r.d0, .int .i64 r.d1, .int .i64 r.mask, .int .i64 r.flags, .int .i64 r.classes] 45)).cell? ⟨w.heap.size, 12, none⟩ = some (.int .i64 r.classes) := hbx0.cell 12
  clear hbx0
  have TB := Lib.hid TT.out.toBelow
  by_cases hs0 : 0 ≤ r.side
  · by_cases hs2 : r.side ≤ 2
    · rw [show decide (0 ≤ r.side ∧ r.side ≤ 2) = true from decide_eq_true ⟨hs0, hs2⟩, Bool.true_and]
      cases b1 with
      | false =>
        simp only [Bool.false_and]
        go_enter Try.func25, Try.ntmps25
        go_wp2_with (fail)
        generalize (w.alloc (.cells #[(.bool r.acc : Value), .int .i64 r.side, .string r.fb, .int .i64 r.fn, .string r.tb, .int .i64 r.tn, .int .i64 r.s0, .int .i64 r.s1, .int .i64 r.d0, .int .i64 r.d1, .int .i64 r.mask, .int .i64 r.flags, .int .i64 r.classes] 45)) = w0 at *
        generalize hBe : w.heap.size = B at *
        have HBE := Lib.hid hBe
        have hB1 := Lib.hid (show B ≤ w.heap.size by omega)
        clear hBe
        refine (HP.out _).mono ?_
        rintro e w1 ⟨rfl, hbb⟩
        have tt : Touch (fun _ => False) w0 w1 := Touch.none hbb
        replace c0_0 : w1.cell? ⟨B, 0, none⟩ = some (.bool r.acc) := by rw [← c0_0]; exact tt.cell (by omega) (fun h => h) 0
        replace c0_1 : w1.cell? ⟨B, 1, none⟩ = some (.int .i64 r.side) := by rw [← c0_1]; exact tt.cell (by omega) (fun h => h) 1
        replace c0_2 : w1.cell? ⟨B, 2, none⟩ = some (.string r.fb) := by rw [← c0_2]; exact tt.cell (by omega) (fun h => h) 2
        replace c0_3 : w1.cell? ⟨B, 3, none⟩ = some (.int .i64 r.fn) := by rw [← c0_3]; exact tt.cell (by omega) (fun h => h) 3
        replace c0_4 : w1.cell? ⟨B, 4, none⟩ = some (.string r.tb) := by rw [← c0_4]; exact tt.cell (by omega) (fun h => h) 4
        replace c0_5 : w1.cell? ⟨B, 5, none⟩ = some (.int .i64 r.tn) := by rw [← c0_5]; exact tt.cell (by omega) (fun h => h) 5
        replace c0_6 : w1.cell? ⟨B, 6, none⟩ = some (.int .i64 r.s0) := by rw [← c0_6]; exact tt.cell (by omega) (fun h => h) 6
        replace c0_7 : w1.cell? ⟨B, 7, none⟩ = some (.int .i64 r.s1) := by rw [← c0_7]; exact tt.cell (by omega) (fun h => h) 7
        replace c0_8 : w1.cell? ⟨B, 8, none⟩ = some (.int .i64 r.d0) := by rw [← c0_8]; exact tt.cell (by omega) (fun h => h) 8
        replace c0_9 : w1.cell? ⟨B, 9, none⟩ = some (.int .i64 r.d1) := by rw [← c0_9]; exact tt.cell (by omega) (fun h => h) 9
        replace c0_10 : w1.cell? ⟨B, 10, none⟩ = some (.int .i64 r.mask) := by rw [← c0_10]; exact tt.cell (by omega) (fun h => h) 10
        replace c0_11 : w1.cell? ⟨B, 11, none⟩ = some (.int .i64 r.flags) := by rw [← c0_11]; exact tt.cell (by omega) (fun h => h) 11
        replace c0_12 : w1.cell? ⟨B, 12, none⟩ = some (.int .i64 r.classes) := by rw [← c0_12]; exact tt.cell (by omega) (fun h => h) 12
        replace hsz : B + 1 ≤ w1.heap.size := Nat.le_trans hsz tt.size
        replace TB := Lib.hid (below_then TB.out hB1.out tt (fun _ _ h => h))
        clear tt hbb
        go_wp2_with (fail)
        go_ret
        exact ⟨rfl, HBE.out ▸ TB.out⟩
      | true =>
        cases b2 with
        | false =>
          simp only [Bool.true_and, Bool.false_and]
          go_enter Try.func25, Try.ntmps25
          go_wp2_with (fail)
          generalize (w.alloc (.cells #[(.bool r.acc : Value), .int .i64 r.side, .string r.fb, .int .i64 r.fn, .string r.tb, .int .i64 r.tn, .int .i64 r.s0, .int .i64 r.s1, .int .i64 r.d0, .int .i64 r.d1, .int .i64 r.mask, .int .i64 r.flags, .int .i64 r.classes] 45)) = w0 at *
          generalize hBe : w.heap.size = B at *
          have HBE := Lib.hid hBe
          have hB1 := Lib.hid (show B ≤ w.heap.size by omega)
          clear hBe
          refine (HP.out _).mono ?_
          rintro e w1 ⟨rfl, hbb⟩
          have tt : Touch (fun _ => False) w0 w1 := Touch.none hbb
          replace c0_0 : w1.cell? ⟨B, 0, none⟩ = some (.bool r.acc) := by rw [← c0_0]; exact tt.cell (by omega) (fun h => h) 0
          replace c0_1 : w1.cell? ⟨B, 1, none⟩ = some (.int .i64 r.side) := by rw [← c0_1]; exact tt.cell (by omega) (fun h => h) 1
          replace c0_2 : w1.cell? ⟨B, 2, none⟩ = some (.string r.fb) := by rw [← c0_2]; exact tt.cell (by omega) (fun h => h) 2
          replace c0_3 : w1.cell? ⟨B, 3, none⟩ = some (.int .i64 r.fn) := by rw [← c0_3]; exact tt.cell (by omega) (fun h => h) 3
          replace c0_4 : w1.cell? ⟨B, 4, none⟩ = some (.string r.tb) := by rw [← c0_4]; exact tt.cell (by omega) (fun h => h) 4
          replace c0_5 : w1.cell? ⟨B, 5, none⟩ = some (.int .i64 r.tn) := by rw [← c0_5]; exact tt.cell (by omega) (fun h => h) 5
          replace c0_6 : w1.cell? ⟨B, 6, none⟩ = some (.int .i64 r.s0) := by rw [← c0_6]; exact tt.cell (by omega) (fun h => h) 6
          replace c0_7 : w1.cell? ⟨B, 7, none⟩ = some (.int .i64 r.s1) := by rw [← c0_7]; exact tt.cell (by omega) (fun h => h) 7
          replace c0_8 : w1.cell? ⟨B, 8, none⟩ = some (.int .i64 r.d0) := by rw [← c0_8]; exact tt.cell (by omega) (fun h => h) 8
          replace c0_9 : w1.cell? ⟨B, 9, none⟩ = some (.int .i64 r.d1) := by rw [← c0_9]; exact tt.cell (by omega) (fun h => h) 9
          replace c0_10 : w1.cell? ⟨B, 10, none⟩ = some (.int .i64 r.mask) := by rw [← c0_10]; exact tt.cell (by omega) (fun h => h) 10
          replace c0_11 : w1.cell? ⟨B, 11, none⟩ = some (.int .i64 r.flags) := by rw [← c0_11]; exact tt.cell (by omega) (fun h => h) 11
          replace c0_12 : w1.cell? ⟨B, 12, none⟩ = some (.int .i64 r.classes) := by rw [← c0_12]; exact tt.cell (by omega) (fun h => h) 12
          replace hsz : B + 1 ≤ w1.heap.size := Nat.le_trans hsz tt.size
          replace TB := Lib.hid (below_then TB.out hB1.out tt (fun _ _ h => h))
          clear tt hbb
          go_wp2_with (fail)
          refine (HQ.out _).mono ?_
          rintro e w2 ⟨rfl, hbb⟩
          have tt : Touch (fun _ => False) w1 w2 := Touch.none hbb
          replace c0_0 : w2.cell? ⟨B, 0, none⟩ = some (.bool r.acc) := by rw [← c0_0]; exact tt.cell (by omega) (fun h => h) 0
          replace c0_1 : w2.cell? ⟨B, 1, none⟩ = some (.int .i64 r.side) := by rw [← c0_1]; exact tt.cell (by omega) (fun h => h) 1
          replace c0_2 : w2.cell? ⟨B, 2, none⟩ = some (.string r.fb) := by rw [← c0_2]; exact tt.cell (by omega) (fun h => h) 2
          replace c0_3 : w2.cell? ⟨B, 3, none⟩ = some (.int .i64 r.fn) := by rw [← c0_3]; exact tt.cell (by omega) (fun h => h) 3
          replace c0_4 : w2.cell? ⟨B, 4, none⟩ = some (.string r.tb) := by rw [← c0_4]; exact tt.cell (by omega) (fun h => h) 4
          replace c0_5 : w2.cell? ⟨B, 5, none⟩ = some (.int .i64 r.tn) := by rw [← c0_5]; exact tt.cell (by omega) (fun h => h) 5
          replace c0_6 : w2.cell? ⟨B, 6, none⟩ = some (.int .i64 r.s0) := by rw [← c0_6]; exact tt.cell (by omega) (fun h => h) 6
          replace c0_7 : w2.cell? ⟨B, 7, none⟩ = some (.int .i64 r.s1) := by rw [← c0_7]; exact tt.cell (by omega) (fun h => h) 7
          replace c0_8 : w2.cell? ⟨B, 8, none⟩ = some (.int .i64 r.d0) := by rw [← c0_8]; exact tt.cell (by omega) (fun h => h) 8
          replace c0_9 : w2.cell? ⟨B, 9, none⟩ = some (.int .i64 r.d1) := by rw [← c0_9]; exact tt.cell (by omega) (fun h => h) 9
          replace c0_10 : w2.cell? ⟨B, 10, none⟩ = some (.int .i64 r.mask) := by rw [← c0_10]; exact tt.cell (by omega) (fun h => h) 10
          replace c0_11 : w2.cell? ⟨B, 11, none⟩ = some (.int .i64 r.flags) := by rw [← c0_11]; exact tt.cell (by omega) (fun h => h) 11
          replace c0_12 : w2.cell? ⟨B, 12, none⟩ = some (.int .i64 r.classes) := by rw [← c0_12]; exact tt.cell (by omega) (fun h => h) 12
          replace hsz : B + 1 ≤ w2.heap.size := Nat.le_trans hsz tt.size
          replace TB := Lib.hid (below_then TB.out hB1.out tt (fun _ _ h => h))
          clear tt hbb
          go_wp2_with (fail)
          go_ret
          exact ⟨rfl, HBE.out ▸ TB.out⟩
        | true =>
          cases b3 with
          | false =>
            simp only [Bool.true_and, Bool.false_and]
            go_enter Try.func25, Try.ntmps25
            go_wp2_with (fail)
            generalize (w.alloc (.cells #[(.bool r.acc : Value), .int .i64 r.side, .string r.fb, .int .i64 r.fn, .string r.tb, .int .i64 r.tn, .int .i64 r.s0, .int .i64 r.s1, .int .i64 r.d0, .int .i64 r.d1, .int .i64 r.mask, .int .i64 r.flags, .int .i64 r.classes] 45)) = w0 at *
            generalize hBe : w.heap.size = B at *
            have HBE := Lib.hid hBe
            have hB1 := Lib.hid (show B ≤ w.heap.size by omega)
            clear hBe
            refine (HP.out _).mono ?_
            rintro e w1 ⟨rfl, hbb⟩
            have tt : Touch (fun _ => False) w0 w1 := Touch.none hbb
            replace c0_0 : w1.cell? ⟨B, 0, none⟩ = some (.bool r.acc) := by rw [← c0_0]; exact tt.cell (by omega) (fun h => h) 0
            replace c0_1 : w1.cell? ⟨B, 1, none⟩ = some (.int .i64 r.side) := by rw [← c0_1]; exact tt.cell (by omega) (fun h => h) 1
            replace c0_2 : w1.cell? ⟨B, 2, none⟩ = some (.string r.fb) := by rw [← c0_2]; exact tt.cell (by omega) (fun h => h) 2
            replace c0_3 : w1.cell? ⟨B, 3, none⟩ = some (.int .i64 r.fn) := by rw [← c0_3]; exact tt.cell (by omega) (fun h => h) 3
            replace c0_4 : w1.cell? ⟨B, 4, none⟩ = some (.string r.tb) := by rw [← c0_4]; exact tt.cell (by omega) (fun h => h) 4
            replace c0_5 : w1.cell? ⟨B, 5, none⟩ = some (.int .i64 r.tn) := by rw [← c0_5]; exact tt.cell (by omega) (fun h => h) 5
            replace c0_6 : w1.cell? ⟨B, 6, none⟩ = some (.int .i64 r.s0) := by rw [← c0_6]; exact tt.cell (by omega) (fun h => h) 6
            replace c0_7 : w1.cell? ⟨B, 7, none⟩ = some (.int .i64 r.s1) := by rw [← c0_7]; exact tt.cell (by omega) (fun h => h) 7
            replace c0_8 : w1.cell? ⟨B, 8, none⟩ = some (.int .i64 r.d0) := by rw [← c0_8]; exact tt.cell (by omega) (fun h => h) 8
            replace c0_9 : w1.cell? ⟨B, 9, none⟩ = some (.int .i64 r.d1) := by rw [← c0_9]; exact tt.cell (by omega) (fun h => h) 9
            replace c0_10 : w1.cell? ⟨B, 10, none⟩ = some (.int .i64 r.mask) := by rw [← c0_10]; exact tt.cell (by omega) (fun h => h) 10
            replace c0_11 : w1.cell? ⟨B, 11, none⟩ = some (.int .i64 r.flags) := by rw [← c0_11]; exact tt.cell (by omega) (fun h => h) 11
            replace c0_12 : w1.cell? ⟨B, 12, none⟩ = some (.int .i64 r.classes) := by rw [← c0_12]; exact tt.cell (by omega) (fun h => h) 12
            replace hsz : B + 1 ≤ w1.heap.size := Nat.le_trans hsz tt.size
            replace TB := Lib.hid (below_then TB.out hB1.out tt (fun _ _ h => h))
            clear tt hbb
            go_wp2_with (fail)
            refine (HQ.out _).mono ?_
            rintro e w2 ⟨rfl, hbb⟩
            have tt : Touch (fun _ => False) w1 w2 := Touch.none hbb
            replace c0_0 : w2.cell? ⟨B, 0, none⟩ = some (.bool r.acc) := by rw [← c0_0]; exact tt.cell (by omega) (fun h => h) 0
            replace c0_1 : w2.cell? ⟨B, 1, none⟩ = some (.int .i64 r.side) := by rw [← c0_1]; exact tt.cell (by omega) (fun h => h) 1
            replace c0_2 : w2.cell? ⟨B, 2, none⟩ = some (.string r.fb) := by rw [← c0_2]; exact tt.cell (by omega) (fun h => h) 2
            replace c0_3 : w2.cell? ⟨B, 3, none⟩ = some (.int .i64 r.fn) := by rw [← c0_3]; exact tt.cell (by omega) (fun h => h) 3
            replace c0_4 : w2.cell? ⟨B, 4, none⟩ = some (.string r.tb) := by rw [← c0_4]; exact tt.cell (by omega) (fun h => h) 4
            replace c0_5 : w2.cell? ⟨B, 5, none⟩ = some (.int .i64 r.tn) := by rw [← c0_5]; exact tt.cell (by omega) (fun h => h) 5
            replace c0_6 : w2.cell? ⟨B, 6, none⟩ = some (.int .i64 r.s0) := by rw [← c0_6]; exact tt.cell (by omega) (fun h => h) 6
            replace c0_7 : w2.cell? ⟨B, 7, none⟩ = some (.int .i64 r.s1) := by rw [← c0_7]; exact tt.cell (by omega) (fun h => h) 7
            replace c0_8 : w2.cell? ⟨B, 8, none⟩ = some (.int .i64 r.d0) := by rw [← c0_8]; exact tt.cell (by omega) (fun h => h) 8
            replace c0_9 : w2.cell? ⟨B, 9, none⟩ = some (.int .i64 r.d1) := by rw [← c0_9]; exact tt.cell (by omega) (fun h => h) 9
            replace c0_10 : w2.cell? ⟨B, 10, none⟩ = some (.int .i64 r.mask) := by rw [← c0_10]; exact tt.cell (by omega) (fun h => h) 10
            replace c0_11 : w2.cell? ⟨B, 11, none⟩ = some (.int .i64 r.flags) := by rw [← c0_11]; exact tt.cell (by omega) (fun h => h) 11
            replace c0_12 : w2.cell? ⟨B, 12, none⟩ = some (.int .i64 r.classes) := by rw [← c0_12]; exact tt.cell (by omega) (fun h => h) 12
            replace hsz : B + 1 ≤ w2.heap.size := Nat.le_trans hsz tt.size
            replace TB := Lib.hid (below_then TB.out hB1.out tt (fun _ _ h => h))
            clear tt hbb
            go_wp2_with (fail)
            refine (HS.out _).mono ?_
            rintro e w3 ⟨rfl, hbb⟩
            have tt : Touch (fun _ => False) w2 w3 := Touch.none hbb
            replace c0_0 : w3.cell? ⟨B, 0, none⟩ = some (.bool r.acc) := by rw [← c0_0]; exact tt.cell (by omega) (fun h => h) 0
            replace c0_1 : w3.cell? ⟨B, 1, none⟩ = some (.int .i64 r.side) := by rw [← c0_1]; exact tt.cell (by omega) (fun h => h) 1
            replace c0_2 : w3.cell? ⟨B, 2, none⟩ = some (.string r.fb) := by rw [← c0_2]; exact tt.cell (by omega) (fun h => h) 2
            replace c0_3 : w3.cell? ⟨B, 3, none⟩ = some (.int .i64 r.fn) := by rw [← c0_3]; exact tt.cell (by omega) (fun h => h) 3
            replace c0_4 : w3.cell? ⟨B, 4, none⟩ = some (.string r.tb) := by rw [← c0_4]; exact tt.cell (by omega) (fun h => h) 4
            replace c0_5 : w3.cell? ⟨B, 5, none⟩ = some (.int .i64 r.tn) := by rw [← c0_5]; exact tt.cell (by omega) (fun h => h) 5
            replace c0_6 : w3.cell? ⟨B, 6, none⟩ = some (.int .i64 r.s0) := by rw [← c0_6]; exact tt.cell (by omega) (fun h => h) 6
            replace c0_7 : w3.cell? ⟨B, 7, none⟩ = some (.int .i64 r.s1) := by rw [← c0_7]; exact tt.cell (by omega) (fun h => h) 7
            replace c0_8 : w3.cell? ⟨B, 8, none⟩ = some (.int .i64 r.d0) := by rw [← c0_8]; exact tt.cell (by omega) (fun h => h) 8
            replace c0_9 : w3.cell? ⟨B, 9, none⟩ = some (.int .i64 r.d1) := by rw [← c0_9]; exact tt.cell (by omega) (fun h => h) 9
            replace c0_10 : w3.cell? ⟨B, 10, none⟩ = some (.int .i64 r.mask) := by rw [← c0_10]; exact tt.cell (by omega) (fun h => h) 10
            replace c0_11 : w3.cell? ⟨B, 11, none⟩ = some (.int .i64 r.flags) := by rw [← c0_11]; exact tt.cell (by omega) (fun h => h) 11
            replace c0_12 : w3.cell? ⟨B, 12, none⟩ = some (.int .i64 r.classes) := by rw [← c0_12]; exact tt.cell (by omega) (fun h => h) 12
            replace hsz : B + 1 ≤ w3.heap.size := Nat.le_trans hsz tt.size
            replace TB := Lib.hid (below_then TB.out hB1.out tt (fun _ _ h => h))
            clear tt hbb
            go_wp2_with (fail)
            go_ret
            exact ⟨rfl, HBE.out ▸ TB.out⟩
          | true =>
            cases b4 with
            | false =>
              simp only [Bool.true_and, Bool.false_and]
              go_enter Try.func25, Try.ntmps25
              go_wp2_with (fail)
              generalize (w.alloc (.cells #[(.bool r.acc : Value), .int .i64 r.side, .string r.fb, .int .i64 r.fn, .string r.tb, .int .i64 r.tn, .int .i64 r.s0, .int .i64 r.s1, .int .i64 r.d0, .int .i64 r.d1, .int .i64 r.mask, .int .i64 r.flags, .int .i64 r.classes] 45)) = w0 at *
              generalize hBe : w.heap.size = B at *
              have HBE := Lib.hid hBe
              have hB1 := Lib.hid (show B ≤ w.heap.size by omega)
              clear hBe
              refine (HP.out _).mono ?_
              rintro e w1 ⟨rfl, hbb⟩
              have tt : Touch (fun _ => False) w0 w1 := Touch.none hbb
              replace c0_0 : w1.cell? ⟨B, 0, none⟩ = some (.bool r.acc) := by rw [← c0_0]; exact tt.cell (by omega) (fun h => h) 0
              replace c0_1 : w1.cell? ⟨B, 1, none⟩ = some (.int .i64 r.side) := by rw [← c0_1]; exact tt.cell (by omega) (fun h => h) 1
              replace c0_2 : w1.cell? ⟨B, 2, none⟩ = some (.string r.fb) := by rw [← c0_2]; exact tt.cell (by omega) (fun h => h) 2
              replace c0_3 : w1.cell? ⟨B, 3, none⟩ = some (.int .i64 r.fn) := by rw [← c0_3]; exact tt.cell (by omega) (fun h => h) 3
              replace c0_4 : w1.cell? ⟨B, 4, none⟩ = some (.string r.tb) := by rw [← c0_4]; exact tt.cell (by omega) (fun h => h) 4
              replace c0_5 : w1.cell? ⟨B, 5, none⟩ = some (.int .i64 r.tn) := by rw [← c0_5]; exact tt.cell (by omega) (fun h => h) 5
              replace c0_6 : w1.cell? ⟨B, 6, none⟩ = some (.int .i64 r.s0) := by rw [← c0_6]; exact tt.cell (by omega) (fun h => h) 6
              replace c0_7 : w1.cell? ⟨B, 7, none⟩ = some (.int .i64 r.s1) := by rw [← c0_7]; exact tt.cell (by omega) (fun h => h) 7
              replace c0_8 : w1.cell? ⟨B, 8, none⟩ = some (.int .i64 r.d0) := by rw [← c0_8]; exact tt.cell (by omega) (fun h => h) 8
              replace c0_9 : w1.cell? ⟨B, 9, none⟩ = some (.int .i64 r.d1) := by rw [← c0_9]; exact tt.cell (by omega) (fun h => h) 9
              replace c0_10 : w1.cell? ⟨B, 10, none⟩ = some (.int .i64 r.mask) := by rw [← c0_10]; exact tt.cell (by omega) (fun h => h) 10
              replace c0_11 : w1.cell? ⟨B, 11, none⟩ = some (.int .i64 r.flags) := by rw [← c0_11]; exact tt.cell (by omega) (fun h => h) 11
              replace c0_12 : w1.cell? ⟨B, 12, none⟩ = some (.int .i64 r.classes) := by rw [← c0_12]; exact tt.cell (by omega) (fun h => h) 12
              replace hsz : B + 1 ≤ w1.heap.size := Nat.le_trans hsz tt.size
              replace TB := Lib.hid (below_then TB.out hB1.out tt (fun _ _ h => h))
              clear tt hbb
              go_wp2_with (fail)
              refine (HQ.out _).mono ?_
              rintro e w2 ⟨rfl, hbb⟩
              have tt : Touch (fun _ => False) w1 w2 := Touch.none hbb
              replace c0_0 : w2.cell? ⟨B, 0, none⟩ = some (.bool r.acc) := by rw [← c0_0]; exact tt.cell (by omega) (fun h => h) 0
              replace c0_1 : w2.cell? ⟨B, 1, none⟩ = some (.int .i64 r.side) := by rw [← c0_1]; exact tt.cell (by omega) (fun h => h) 1
              replace c0_2 : w2.cell? ⟨B, 2, none⟩ = some (.string r.fb) := by rw [← c0_2]; exact tt.cell (by omega) (fun h => h) 2
              replace c0_3 : w2.cell? ⟨B, 3, none⟩ = some (.int .i64 r.fn) := by rw [← c0_3]; exact tt.cell (by omega) (fun h => h) 3
              replace c0_4 : w2.cell? ⟨B, 4, none⟩ = some (.string r.tb) := by rw [← c0_4]; exact tt.cell (by omega) (fun h => h) 4
              replace c0_5 : w2.cell? ⟨B, 5, none⟩ = some (.int .i64 r.tn) := by rw [← c0_5]; exact tt.cell (by omega) (fun h => h) 5
              replace c0_6 : w2.cell? ⟨B, 6, none⟩ = some (.int .i64 r.s0) := by rw [← c0_6]; exact tt.cell (by omega) (fun h => h) 6
              replace c0_7 : w2.cell? ⟨B, 7, none⟩ = some (.int .i64 r.s1) := by rw [← c0_7]; exact tt.cell (by omega) (fun h => h) 7
              replace c0_8 : w2.cell? ⟨B, 8, none⟩ = some (.int .i64 r.d0) := by rw [← c0_8]; exact tt.cell (by omega) (fun h => h) 8
              replace c0_9 : w2.cell? ⟨B, 9, none⟩ = some (.int .i64 r.d1) := by rw [← c0_9]; exact tt.cell (by omega) (fun h => h) 9
              replace c0_10 : w2.cell? ⟨B, 10, none⟩ = some (.int .i64 r.mask) := by rw [← c0_10]; exact tt.cell (by omega) (fun h => h) 10
              replace c0_11 : w2.cell? ⟨B, 11, none⟩ = some (.int .i64 r.flags) := by rw [← c0_11]; exact tt.cell (by omega) (fun h => h) 11
              replace c0_12 : w2.cell? ⟨B, 12, none⟩ = some (.int .i64 r.classes) := by rw [← c0_12]; exact tt.cell (by omega) (fun h => h) 12
              replace hsz : B + 1 ≤ w2.heap.size := Nat.le_trans hsz tt.size
              replace TB := Lib.hid (below_then TB.out hB1.out tt (fun _ _ h => h))
              clear tt hbb
              go_wp2_with (fail)
              refine (HS.out _).mono ?_
              rintro e w3 ⟨rfl, hbb⟩
              have tt : Touch (fun _ => False) w2 w3 := Touch.none hbb
              replace c0_0 : w3.cell? ⟨B, 0, none⟩ = some (.bool r.acc) := by rw [← c0_0]; exact tt.cell (by omega) (fun h => h) 0
              replace c0_1 : w3.cell? ⟨B, 1, none⟩ = some (.int .i64 r.side) := by rw [← c0_1]; exact tt.cell (by omega) (fun h => h) 1
              replace c0_2 : w3.cell? ⟨B, 2, none⟩ = some (.string r.fb) := by rw [← c0_2]; exact tt.cell (by omega) (fun h => h) 2
              replace c0_3 : w3.cell? ⟨B, 3, none⟩ = some (.int .i64 r.fn) := by rw [← c0_3]; exact tt.cell (by omega) (fun h => h) 3
              replace c0_4 : w3.cell? ⟨B, 4, none⟩ = some (.string r.tb) := by rw [← c0_4]; exact tt.cell (by omega) (fun h => h) 4
              replace c0_5 : w3.cell? ⟨B, 5, none⟩ = some (.int .i64 r.tn) := by rw [← c0_5]; exact tt.cell (by omega) (fun h => h) 5
              replace c0_6 : w3.cell? ⟨B, 6, none⟩ = some (.int .i64 r.s0) := by rw [← c0_6]; exact tt.cell (by omega) (fun h => h) 6
              replace c0_7 : w3.cell? ⟨B, 7, none⟩ = some (.int .i64 r.s1) := by rw [← c0_7]; exact tt.cell (by omega) (fun h => h) 7
              replace c0_8 : w3.cell? ⟨B, 8, none⟩ = some (.int .i64 r.d0) := by rw [← c0_8]; exact tt.cell (by omega) (fun h => h) 8
              replace c0_9 : w3.cell? ⟨B, 9, none⟩ = some (.int .i64 r.d1) := by rw [← c0_9]; exact tt.cell (by omega) (fun h => h) 9
              replace c0_10 : w3.cell? ⟨B, 10, none⟩ = some (.int .i64 r.mask) := by rw [← c0_10]; exact tt.cell (by omega) (fun h => h) 10
              replace c0_11 : w3.cell? ⟨B, 11, none⟩ = some (.int .i64 r.flags) := by rw [← c0_11]; exact tt.cell (by omega) (fun h => h) 11
              replace c0_12 : w3.cell? ⟨B, 12, none⟩ = some (.int .i64 r.classes) := by rw [← c0_12]; exact tt.cell (by omega) (fun h => h) 12
              replace hsz : B + 1 ≤ w3.heap.size := Nat.le_trans hsz tt.size
              replace TB := Lib.hid (below_then TB.out hB1.out tt (fun _ _ h => h))
              clear tt hbb
              go_wp2_with (fail)
              refine (HD.out _).mono ?_
              rintro e w4 ⟨rfl, hbb⟩
              have tt : Touch (fun _ => False) w3 w4 := Touch.none hbb
              replace c0_0 : w4.cell? ⟨B, 0, none⟩ = some (.bool r.acc) := by rw [← c0_0]; exact tt.cell (by omega) (fun h => h) 0
              replace c0_1 : w4.cell? ⟨B, 1, none⟩ = some (.int .i64 r.side) := by rw [← c0_1]; exact tt.cell (by omega) (fun h => h) 1
              replace c0_2 : w4.cell? ⟨B, 2, none⟩ = some (.string r.fb) := by rw [← c0_2]; exact tt.cell (by omega) (fun h => h) 2
              replace c0_3 : w4.cell? ⟨B, 3, none⟩ = some (.int .i64 r.fn) := by rw [← c0_3]; exact tt.cell (by omega) (fun h => h) 3
              replace c0_4 : w4.cell? ⟨B, 4, none⟩ = some (.string r.tb) := by rw [← c0_4]; exact tt.cell (by omega) (fun h => h) 4
              replace c0_5 : w4.cell? ⟨B, 5, none⟩ = some (.int .i64 r.tn) := by rw [← c0_5]; exact tt.cell (by omega) (fun h => h) 5
              replace c0_6 : w4.cell? ⟨B, 6, none⟩ = some (.int .i64 r.s0) := by rw [← c0_6]; exact tt.cell (by omega) (fun h => h) 6
              replace c0_7 : w4.cell? ⟨B, 7, none⟩ = some (.int .i64 r.s1) := by rw [← c0_7]; exact tt.cell (by omega) (fun h => h) 7
              replace c0_8 : w4.cell? ⟨B, 8, none⟩ = some (.int .i64 r.d0) := by rw [← c0_8]; exact tt.cell (by omega) (fun h => h) 8
              replace c0_9 : w4.cell? ⟨B, 9, none⟩ = some (.int .i64 r.d1) := by rw [← c0_9]; exact tt.cell (by omega) (fun h => h) 9
              replace c0_10 : w4.cell? ⟨B, 10, none⟩ = some (.int .i64 r.mask) := by rw [← c0_10]; exact tt.cell (by omega) (fun h => h) 10
              replace c0_11 : w4.cell? ⟨B, 11, none⟩ = some (.int .i64 r.flags) := by rw [← c0_11]; exact tt.cell (by omega) (fun h => h) 11
              replace c0_12 : w4.cell? ⟨B, 12, none⟩ = some (.int .i64 r.classes) := by rw [← c0_12]; exact tt.cell (by omega) (fun h => h) 12
              replace hsz : B + 1 ≤ w4.heap.size := Nat.le_trans hsz tt.size
              replace TB := Lib.hid (below_then TB.out hB1.out tt (fun _ _ h => h))
              clear tt hbb
              go_wp2_with (fail)
              go_ret
              exact ⟨rfl, HBE.out ▸ TB.out⟩
            | true =>
              simp only [Bool.true_and]
              go_enter Try.func25, Try.ntmps25
              go_wp2_with (fail)
              generalize (w.alloc (.cells #[(.bool r.acc : Value), .int .i64 r.side, .string r.fb, .int .i64 r.fn, .string r.tb, .int .i64 r.tn, .int .i64 r.s0, .int .i64 r.s1, .int .i64 r.d0, .int .i64 r.d1, .int .i64 r.mask, .int .i64 r.flags, .int .i64 r.classes] 45)) = w0 at *
              generalize hBe : w.heap.size = B at *
              have HBE := Lib.hid hBe
              have hB1 := Lib.hid (show B ≤ w.heap.size by omega)
              clear hBe
              refine (HP.out _).mono ?_
              rintro e w1 ⟨rfl, hbb⟩
              have tt : Touch (fun _ => False) w0 w1 := Touch.none hbb
              replace c0_0 : w1.cell? ⟨B, 0, none⟩ = some (.bool r.acc) := by rw [← c0_0]; exact tt.cell (by omega) (fun h => h) 0
              replace c0_1 : w1.cell? ⟨B, 1, none⟩ = some (.int .i64 r.side) := by rw [← c0_1]; exact tt.cell (by omega) (fun h => h) 1
              replace c0_2 : w1.cell? ⟨B, 2, none⟩ = some (.string r.fb) := by rw [← c0_2]; exact tt.cell (by omega) (fun h => h) 2
              replace c0_3 : w1.cell? ⟨B, 3, none⟩ = some (.int .i64 r.fn) := by rw [← c0_3]; exact tt.cell (by omega) (fun h => h) 3
              replace c0_4 : w1.cell? ⟨B, 4, none⟩ = some (.string r.tb) := by rw [← c0_4]; exact tt.cell (by omega) (fun h => h) 4
              replace c0_5 : w1.cell? ⟨B, 5, none⟩ = some (.int .i64 r.tn) := by rw [← c0_5]; exact tt.cell (by omega) (fun h => h) 5
              replace c0_6 : w1.cell? ⟨B, 6, none⟩ = some (.int .i64 r.s0) := by rw [← c0_6]; exact tt.cell (by omega) (fun h => h) 6
              replace c0_7 : w1.cell? ⟨B, 7, none⟩ = some (.int .i64 r.s1) := by rw [← c0_7]; exact tt.cell (by omega) (fun h => h) 7
              replace c0_8 : w1.cell? ⟨B, 8, none⟩ = some (.int .i64 r.d0) := by rw [← c0_8]; exact tt.cell (by omega) (fun h => h) 8
              replace c0_9 : w1.cell? ⟨B, 9, none⟩ = some (.int .i64 r.d1) := by rw [← c0_9]; exact tt.cell (by omega) (fun h => h) 9
              replace c0_10 : w1.cell? ⟨B, 10, none⟩ = some (.int .i64 r.mask) := by rw [← c0_10]; exact tt.cell (by omega) (fun h => h) 10
              replace c0_11 : w1.cell? ⟨B, 11, none⟩ = some (.int .i64 r.flags) := by rw [← c0_11]; exact tt.cell (by omega) (fun h => h) 11
              replace c0_12 : w1.cell? ⟨B, 12, none⟩ = some (.int .i64 r.classes) := by rw [← c0_12]; exact tt.cell (by omega) (fun h => h) 12
              replace hsz : B + 1 ≤ w1.heap.size := Nat.le_trans hsz tt.size
              replace TB := Lib.hid (below_then TB.out hB1.out tt (fun _ _ h => h))
              clear tt hbb
              go_wp2_with (fail)
              refine (HQ.out _).mono ?_
              rintro e w2 ⟨rfl, hbb⟩
              have tt : Touch (fun _ => False) w1 w2 := Touch.none hbb
              replace c0_0 : w2.cell? ⟨B, 0, none⟩ = some (.bool r.acc) := by rw [← c0_0]; exact tt.cell (by omega) (fun h => h) 0
              replace c0_1 : w2.cell? ⟨B, 1, none⟩ = some (.int .i64 r.side) := by rw [← c0_1]; exact tt.cell (by omega) (fun h => h) 1
              replace c0_2 : w2.cell? ⟨B, 2, none⟩ = some (.string r.fb) := by rw [← c0_2]; exact tt.cell (by omega) (fun h => h) 2
              replace c0_3 : w2.cell? ⟨B, 3, none⟩ = some (.int .i64 r.fn) := by rw [← c0_3]; exact tt.cell (by omega) (fun h => h) 3
              replace c0_4 : w2.cell? ⟨B, 4, none⟩ = some (.string r.tb) := by rw [← c0_4]; exact tt.cell (by omega) (fun h => h) 4
              replace c0_5 : w2.cell? ⟨B, 5, none⟩ = some (.int .i64 r.tn) := by rw [← c0_5]; exact tt.cell (by omega) (fun h => h) 5
              replace c0_6 : w2.cell? ⟨B, 6, none⟩ = some (.int .i64 r.s0) := by rw [← c0_6]; exact tt.cell (by omega) (fun h => h) 6
              replace c0_7 : w2.cell? ⟨B, 7, none⟩ = some (.int .i64 r.s1) := by rw [← c0_7]; exact tt.cell (by omega) (fun h => h) 7
              replace c0_8 : w2.cell? ⟨B, 8, none⟩ = some (.int .i64 r.d0) := by rw [← c0_8]; exact tt.cell (by omega) (fun h => h) 8
              replace c0_9 : w2.cell? ⟨B, 9, none⟩ = some (.int .i64 r.d1) := by rw [← c0_9]; exact tt.cell (by omega) (fun h => h) 9
              replace c0_10 : w2.cell? ⟨B, 10, none⟩ = some (.int .i64 r.mask) := by rw [← c0_10]; exact tt.cell (by omega) (fun h => h) 10
              replace c0_11 : w2.cell? ⟨B, 11, none⟩ = some (.int .i64 r.flags) := by rw [← c0_11]; exact tt.cell (by omega) (fun h => h) 11
              replace c0_12 : w2.cell? ⟨B, 12, none⟩ = some (.int .i64 r.classes) := by rw [← c0_12]; exact tt.cell (by omega) (fun h => h) 12
              replace hsz : B + 1 ≤ w2.heap.size := Nat.le_trans hsz tt.size
              replace TB := Lib.hid (below_then TB.out hB1.out tt (fun _ _ h => h))
              clear tt hbb
              go_wp2_with (fail)
              refine (HS.out _).mono ?_
              rintro e w3 ⟨rfl, hbb⟩
              have tt : Touch (fun _ => False) w2 w3 := Touch.none hbb
              replace c0_0 : w3.cell? ⟨B, 0, none⟩ = some (.bool r.acc) := by rw [← c0_0]; exact tt.cell (by omega) (fun h => h) 0
              replace c0_1 : w3.cell? ⟨B, 1, none⟩ = some (.int .i64 r.side) := by rw [← c0_1]; exact tt.cell (by omega) (fun h => h) 1
              replace c0_2 : w3.cell? ⟨B, 2, none⟩ = some (.string r.fb) := by rw [← c0_2]; exact tt.cell (by omega) (fun h => h) 2
              replace c0_3 : w3.cell? ⟨B, 3, none⟩ = some (.int .i64 r.fn) := by rw [← c0_3]; exact tt.cell (by omega) (fun h => h) 3
              replace c0_4 : w3.cell? ⟨B, 4, none⟩ = some (.string r.tb) := by rw [← c0_4]; exact tt.cell (by omega) (fun h => h) 4
              replace c0_5 : w3.cell? ⟨B, 5, none⟩ = some (.int .i64 r.tn) := by rw [← c0_5]; exact tt.cell (by omega) (fun h => h) 5
              replace c0_6 : w3.cell? ⟨B, 6, none⟩ = some (.int .i64 r.s0) := by rw [← c0_6]; exact tt.cell (by omega) (fun h => h) 6
              replace c0_7 : w3.cell? ⟨B, 7, none⟩ = some (.int .i64 r.s1) := by rw [← c0_7]; exact tt.cell (by omega) (fun h => h) 7
              replace c0_8 : w3.cell? ⟨B, 8, none⟩ = some (.int .i64 r.d0) := by rw [← c0_8]; exact tt.cell (by omega) (fun h => h) 8
              replace c0_9 : w3.cell? ⟨B, 9, none⟩ = some (.int .i64 r.d1) := by rw [← c0_9]; exact tt.cell (by omega) (fun h => h) 9
              replace c0_10 : w3.cell? ⟨B, 10, none⟩ = some (.int .i64 r.mask) := by rw [← c0_10]; exact tt.cell (by omega) (fun h => h) 10
              replace c0_11 : w3.cell? ⟨B, 11, none⟩ = some (.int .i64 r.flags) := by rw [← c0_11]; exact tt.cell (by omega) (fun h => h) 11
              replace c0_12 : w3.cell? ⟨B, 12, none⟩ = some (.int .i64 r.classes) := by rw [← c0_12]; exact tt.cell (by omega) (fun h => h) 12
              replace hsz : B + 1 ≤ w3.heap.size := Nat.le_trans hsz tt.size
              replace TB := Lib.hid (below_then TB.out hB1.out tt (fun _ _ h => h))
              clear tt hbb
              go_wp2_with (fail)
              refine (HD.out _).mono ?_
              rintro e w4 ⟨rfl, hbb⟩
              have tt : Touch (fun _ => False) w3 w4 := Touch.none hbb
              replace c0_0 : w4.cell? ⟨B, 0, none⟩ = some (.bool r.acc) := by rw [← c0_0]; exact tt.cell (by omega) (fun h => h) 0
              replace c0_1 : w4.cell? ⟨B, 1, none⟩ = some (.int .i64 r.side) := by rw [← c0_1]; exact tt.cell (by omega) (fun h => h) 1
              replace c0_2 : w4.cell? ⟨B, 2, none⟩ = some (.string r.fb) := by rw [← c0_2]; exact tt.cell (by omega) (fun h => h) 2
              replace c0_3 : w4.cell? ⟨B, 3, none⟩ = some (.int .i64 r.fn) := by rw [← c0_3]; exact tt.cell (by omega) (fun h => h) 3
              replace c0_4 : w4.cell? ⟨B, 4, none⟩ = some (.string r.tb) := by rw [← c0_4]; exact tt.cell (by omega) (fun h => h) 4
              replace c0_5 : w4.cell? ⟨B, 5, none⟩ = some (.int .i64 r.tn) := by rw [← c0_5]; exact tt.cell (by omega) (fun h => h) 5
              replace c0_6 : w4.cell? ⟨B, 6, none⟩ = some (.int .i64 r.s0) := by rw [← c0_6]; exact tt.cell (by omega) (fun h => h) 6
              replace c0_7 : w4.cell? ⟨B, 7, none⟩ = some (.int .i64 r.s1) := by rw [← c0_7]; exact tt.cell (by omega) (fun h => h) 7
              replace c0_8 : w4.cell? ⟨B, 8, none⟩ = some (.int .i64 r.d0) := by rw [← c0_8]; exact tt.cell (by omega) (fun h => h) 8
              replace c0_9 : w4.cell? ⟨B, 9, none⟩ = some (.int .i64 r.d1) := by rw [← c0_9]; exact tt.cell (by omega) (fun h => h) 9
              replace c0_10 : w4.cell? ⟨B, 10, none⟩ = some (.int .i64 r.mask) := by rw [← c0_10]; exact tt.cell (by omega) (fun h => h) 10
              replace c0_11 : w4.cell? ⟨B, 11, none⟩ = some (.int .i64 r.flags) := by rw [← c0_11]; exact tt.cell (by omega) (fun h => h) 11
              replace c0_12 : w4.cell? ⟨B, 12, none⟩ = some (.int .i64 r.classes) := by rw [← c0_12]; exact tt.cell (by omega) (fun h => h) 12
              replace hsz : B + 1 ≤ w4.heap.size := Nat.le_trans hsz tt.size
              replace TB := Lib.hid (below_then TB.out hB1.out tt (fun _ _ h => h))
              clear tt hbb
              go_wp2_with (fail)
              all_goals
                go_ret
                refine ⟨ret_bool ?_, HBE.out ▸ TB.out⟩
                clear HP HQ HS HD TB HBE hB1 TT HSE
                simp_all [andI] <;> omega
    · have hs2' : 2 < r.side := by omega
      rw [show decide (0 ≤ r.side ∧ r.side ≤ 2) = false from decide_eq_false (fun h => hs2 h.2)]
      simp only [Bool.false_and]
      go_enter Try.func25, Try.ntmps25
      go_wp2_with (fail)
      generalize (w.alloc (.cells #[(.bool r.acc : Value), .int .i64 r.side, .string r.fb, .int .i64 r.fn, .string r.tb, .int .i64 r.tn, .int .i64 r.s0, .int .i64 r.s1, .int .i64 r.d0, .int .i64 r.d1, .int .i64 r.mask, .int .i64 r.flags, .int .i64 r.classes] 45)) = w0 at *
      generalize hBe : w.heap.size = B at *
      have HBE := Lib.hid hBe
      have hB1 := Lib.hid (show B ≤ w.heap.size by omega)
      clear hBe
      go_ret
      exact ⟨rfl, HBE.out ▸ TB.out⟩
  · have hs0' : r.side < 0 := by omega
    rw [show decide (0 ≤ r.side ∧ r.side ≤ 2) = false from decide_eq_false (fun h => hs0 h.1)]
    simp only [Bool.false_and]
    go_enter Try.func25, Try.ntmps25
    go_wp2_with (fail)
    generalize (w.alloc (.cells #[(.bool r.acc : Value), .int .i64 r.side, .string r.fb, .int .i64 r.fn, .string r.tb, .int .i64 r.tn, .int .i64 r.s0, .int .i64 r.s1, .int .i64 r.d0, .int .i64 r.d1, .int .i64 r.mask, .int .i64 r.flags, .int .i64 r.classes] 45)) = w0 at *
    generalize hBe : w.heap.size = B at *
    have HBE := Lib.hid hBe
    have hB1 := Lib.hid (show B ≤ w.heap.size by omega)
    clear hBe
    go_ret
    exact ⟨rfl, HBE.out ▸ TB.out⟩
end Go.Proofs.Ytolkimdfnlfpbaa
