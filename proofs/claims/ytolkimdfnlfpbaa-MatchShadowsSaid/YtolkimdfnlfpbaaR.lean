/- What First and Accepts answer. Conditions: the rules stand there; lengths fit. -/
import Derived.Test.YtolkimdfnlfpbaaQ
import Derived.Deep.Light
import Derived.Laws.Rows
set_option linter.unusedVariables false
set_option linter.unusedSimpArgs false
namespace Go.Proofs.Ytolkimdfnlfpbaa
open Go.RowKit

def firstI (R : Nat → Rl) (a : Ak) (len : Nat) : Int := match (List.range len).find? (fun i => oneB (R i) a) with | some i => (i : Int) | none => -1
theorem firstI_some {R : Nat → Rl} {a : Ak} {len k : Nat} (hk : k < len) (h : ∀ j, j < k → oneB (R j) a = false) (h1 : oneB (R k) a = true) : firstI R a len = k := by
  unfold firstI
  have : (List.range len).find? (fun i => oneB (R i) a) = some k := by
    rw [List.find?_range_eq_some]
    exact ⟨h1, by simpa using hk, fun j hj => by simp [h j hj]⟩
  rw [this]
theorem firstI_none {R : Nat → Rl} {a : Ak} {len : Nat} (h : ∀ j, j < len → oneB (R j) a = false) : firstI R a len = -1 := by
  unfold firstI
  have : (List.range len).find? (fun i => oneB (R i) a) = none := by
    rw [List.find?_eq_none]
    intro x hx
    rw [h x (List.mem_range.1 hx)]; simp
  rw [this]
theorem least {p : Nat → Bool} {len : Nat} (h : ∃ k, k < len ∧ p k = true) : ∃ k, k < len ∧ p k = true ∧ ∀ j, j < k → p j = false := by
  obtain ⟨k, hk, h1⟩ := h
  induction k using Nat.strongRecOn with
  | _ k ih =>
    by_cases h : ∃ j, j < k ∧ p j = true
    · obtain ⟨j, hj, hpj⟩ := h
      exact ih j hj (by omega) hpj
    · exact ⟨k, hk, h1, fun j hj => by
        cases hv : p j with
        | false => rfl
        | true => exact absurd ⟨j, hj, hv⟩ h⟩
theorem firstI_range (R : Nat → Rl) (a : Ak) (len : Nat) : firstI R a len = -1 ∨ ∃ k, k < len ∧ firstI R a len = k ∧ oneB (R k) a = true ∧ ∀ j, j < k → oneB (R j) a = false := by
  by_cases h : ∃ k, k < len ∧ oneB (R k) a = true
  · obtain ⟨k, hk, h1, h2⟩ := least h
    exact .inr ⟨k, hk, firstI_some hk h2 h1, h1, h2⟩
  · exact .inl (firstI_none fun j hj => by
      cases hv : oneB (R j) a with
      | false => rfl
      | true => exact absurd ⟨j, hj, hv⟩ h)
def SmallR (R : Nat → Rl) (len : Nat) : Prop := ∀ i, i < len → (R i).fb.size ≤ 100 ∧ (R i).tb.size ≤ 100
set_option maxRecDepth 100000 in
set_option maxHeartbeats 4000000 in
theorem first_any (ad : Option Addr) (len cap : Nat) (R : Nat → Rl) (a : Ak) (w : World) (h : RulesAt w ad len R) (hcap : len ≤ 9223372036854775807) (hsm : SmallR R len) (hsrc : a.src.size ≤ 100) (hdst : a.dst.size ≤ 100) :
    Calls Try.prog 13 #[.slice ad len cap, .agg #[.string a.src, .string a.dst, .int .i64 a.from_, .int .i64 a.to_, .int .u32 a.seq, .int .u32 a.ack, .int .i64 a.flags, .int .i64 a.win, .int .i64 a.urg, .int .i64 a.mss, .int .i64 a.scale, .bool a.sack, .slice a.ba a.bn a.bc, .bool a.timed, .int .u32 a.time, .int .u32 a.echo, .string a.data, .int .i64 a.side, .int .i64 a.class_]] w fun e w' => e = .returned (.int .i64 (firstI R a len)) ∧ Below w.heap.size w w' := by
  have HR := Lib.hid h
  have HSM := Lib.hid hsm
  clear h hsm
  obtain ⟨hbx0, hse, TT0⟩ := box1 w [.string a.src, .string a.dst, .int .i64 a.from_, .int .i64 a.to_, .int .u32 a.seq, .int .u32 a.ack, .int .i64 a.flags, .int .i64 a.win, .int .i64 a.urg, .int .i64 a.mss, .int .i64 a.scale, .bool a.sack, .slice a.ba a.bn a.bc, .bool a.timed, .int .u32 a.time, .int .u32 a.echo, .string a.data, .int .i64 a.side, .int .i64 a.class_] 34
  have TT := Lib.hid (show Touch (fun _ => False) w (w.alloc (.cells #[(.string a.src : Value), .string a.dst, .int .i64 a.from_, .int .i64 a.to_, .int .u32 a.seq, .int .u32 a.ack, .int .i64 a.flags, .int .i64 a.win, .int .i64 a.urg, .int .i64 a.mss, .int .i64 a.scale, .bool a.sack, .slice a.ba a.bn a.bc, .bool a.timed, .int .u32 a.time, .int .u32 a.echo, .string a.data, .int .i64 a.side, .int .i64 a.class_] 34)) from TT0)
  clear TT0
  replace hse : (w.alloc (.cells #[(.string a.src : Value), .string a.dst, .int .i64 a.from_, .int .i64 a.to_, .int .u32 a.seq, .int .u32 a.ack, .int .i64 a.flags, .int .i64 a.win, .int .i64 a.urg, .int .i64 a.mss, .int .i64 a.scale, .bool a.sack, .slice a.ba a.bn a.bc, .bool a.timed, .int .u32 a.time, .int .u32 a.echo, .string a.data, .int .i64 a.side, .int .i64 a.class_] 34)).heap.size = w.heap.size + 1 := hse
  have hsz : w.heap.size + 1 ≤ (w.alloc (.cells #[(.string a.src : Value), .string a.dst, .int .i64 a.from_, .int .i64 a.to_, .int .u32 a.seq, .int .u32 a.ack, .int .i64 a.flags, .int .i64 a.win, .int .i64 a.urg, .int .i64 a.mss, .int .i64 a.scale, .bool a.sack, .slice a.ba a.bn a.bc, .bool a.timed, .int .u32 a.time, .int .u32 a.echo, .string a.data, .int .i64 a.side, .int .i64 a.class_] 34)).heap.size := Nat.le_of_eq hse.symm
  have HSE := Lib.hid hse
  clear hse
  have c0_0 : (w.alloc (.cells #[(.string a.src : Value), .string a.dst, .int .i64 a.from_, .int .i64 a.to_, .int .u32 a.seq, .int .u32 a.ack, .int .i64 a.flags, .int .i64 a.win, .int .i64 a.urg, .int .i64 a.mss, .int .i64 a.scale, .bool a.sack, .slice a.ba a.bn a.bc, .bool a.timed, .int .u32 a.time, .int .u32 a.echo, .string a.data, .int .i64 a.side, .int .i64 a.class_] 34)).cell? ⟨w.heap.size, 0, none⟩ = some (.string a.src) := hbx0.cell 0
  have c0_1 : (w.alloc (.cells #[(.string a.src : Value), .string a.dst, .int .i64 a.from_, .int .i64 a.to_, .int .u32 a.seq, .int .u32 a.ack, .int .i64 a.flags, .int .i64 a.win, .int .i64 a.urg, .int .i64 a.mss, .int .i64 a.scale, .bool a.sack, .slice a.ba a.bn a.bc, .bool a.timed, .int .u32 a.time, .int .u32 a.echo, .string a.data, .int .i64 a.side, .int .i64 a.class_] 34)).cell? ⟨w.heap.size, 1, none⟩ = some (.string a.dst) := hbx0.cell 1
  have c0_2 : (w.alloc (.cells #[(.string a.src : Value), .string a.dst, .int .i64 a.from_, .int .i64 a.to_, .int .u32 a.seq, .int .u32 a.ack, .int .i64 a.flags, .int .i64 a.win, .int .i64 a.urg, .int .i64 a.mss, .int .i64 a.scale, .bool a.sack, .slice a.ba a.bn a.bc, .bool a.timed, .int .u32 a.time, .int .u32 a.echo, .string a.data, .int .i64 a.side, .int .i64 a.class_] 34)).cell? ⟨w.heap.size, 2, none⟩ = some (.int .i64 a.from_) := hbx0.cell 2
  have c0_3 : (w.alloc (.cells #[(.string a.src : Value), .string a.dst, .int .i64 a.from_, .int .i64 a.to_, .int .u32 a.seq, .int .u32 a.ack, .int .i64 a.flags, .int .i64 a.win, .int .i64 a.urg, .int .i64 a.mss, .int .i64 a.scale, .bool a.sack, .slice a.ba a.bn a.bc, .bool a.timed, .int .u32 a.time, .int .u32 a.echo, .string a.data, .int .i64 a.side, .int .i64 a.class_] 34)).cell? ⟨w.heap.size, 3, none⟩ = some (.int .i64 a.to_) := hbx0.cell 3
  have c0_4 : (w.alloc (.cells #[(.string a.src : Value), .string a.dst, .int .i64 a.from_, .int .i64 a.to_, .int .u32 a.seq, .int .u32 a.ack, .int .i64 a.flags, .int .i64 a.win, .int .i64 a.urg, .int .i64 a.mss, .int .i64 a.scale, .bool a.sack, .slice a.ba a.bn a.bc, .bool a.timed, .int .u32 a.time, .int .u32 a.echo, .string a.data, .int .i64 a.side, .int .i64 a.class_] 34)).cell? ⟨w.heap.size, 4, none⟩ = some (.int .u32 a.seq) := hbx0.cell 4
  have c0_5 : (w.alloc (.cells #[(.string a.src : Value), .string a.dst, .int .i64 a.from_, .int .i64 a.to_, .int .u32 a.seq, .int .u32 a.ack, .int .i64 a.flags, .int .i64 a.win, .int .i64 a.urg, .int .i64 a.mss, .int .i64 a.scale, .bool a.sack, .slice a.ba a.bn a.bc, .bool a.timed, .int .u32 a.time, .int .u32 a.echo, .string a.data, .int .i64 a.side, .int .i64 a.class_] 34)).cell? ⟨w.heap.size, 5, none⟩ = some (.int .u32 a.ack) := hbx0.cell 5
  have c0_6 : (w.alloc (.cells #[(.string a.src : Value), .string a.dst, .int .i64 a.from_, .int .i64 a.to_, .int .u32 a.seq, .int .u32 a.ack, .int .i64 a.flags, .int .i64 a.win, .int .i64 a.urg, .int .i64 a.mss, .int .i64 a.scale, .bool a.sack, .slice a.ba a.bn a.bc, .bool a.timed, .int .u32 a.time, .int .u32 a.echo, .string a.data, .int .i64 a.side, .int .i64 a.class_] 34)).cell? ⟨w.heap.size, 6, none⟩ = some (.int .i64 a.flags) := hbx0.cell 6
  have c0_7 : (w.alloc (.cells #[(.string a.src : Value), .string a.dst, .int .i64 a.from_, .int .i64 a.to_, .int .u32 a.seq, .int .u32 a.ack, .int .i64 a.flags, .int .i64 a.win, .int .i64 a.urg, .int .i64 a.mss, .int .i64 a.scale, .bool a.sack, .slice a.ba a.bn a.bc, .bool a.timed, .int .u32 a.time, .int .u32 a.echo, .string a.data, .int .i64 a.side, .int .i64 a.class_] 34)).cell? ⟨w.heap.size, 7, none⟩ = some (.int .i64 a.win) := hbx0.cell 7
  have c0_8 : (w.alloc (.cells #[(.string a.src : Value), .string a.dst, .int .i64 a.from_, .int .i64 a.to_, .int .u32 a.seq, .int .u32 a.ack, .int .i64 a.flags, .int .i64 a.win, .int .i64 a.urg, .int .i64 a.mss, .int .i64 a.scale, .bool a.sack, .slice a.ba a.bn a.bc, .bool a.timed, .int .u32 a.time, .int .u32 a.echo, .string a.data, .int .i64 a.side, .int .i64 a.class_] 34)).cell? ⟨w.heap.size, 8, none⟩ = some (.int .i64 a.urg) := hbx0.cell 8
  have c0_9 : (w.alloc (.cells #[(.string a.src : Value), .string a.dst, .int .i64 a.from_, .int .i64 a.to_, .int .u32 a.seq, .int .u32 a.ack, .int .i64 a.flags, .int .i64 a.win, .int .i64 a.urg, .int .i64 a.mss, .int .i64 a.scale, .bool a.sack, .slice a.ba a.bn a.bc, .bool a.timed, .int .u32 a.time, .int .u32 a.echo, .string a.data, .int .i64 a.side, .int .i64 a.class_] 34)).cell? ⟨w.heap.size, 9, none⟩ = some (.int .i64 a.mss) := hbx0.cell 9
  have c0_10 : (w.alloc (.cells #[(.string a.src : Value), .string a.dst, .int .i64 a.from_, .int .i64 a.to_, .int .u32 a.seq, .int .u32 a.ack, .int .i64 a.flags, .int .i64 a.win, .int .i64 a.urg, .int .i64 a.mss, .int .i64 a.scale, .bool a.sack, .slice a.ba a.bn a.bc, .bool a.timed, .int .u32 a.time, .int .u32 a.echo, .string a.data, .int .i64 a.side, .int .i64 a.class_] 34)).cell? ⟨w.heap.size, 10, none⟩ = some (.int .i64 a.scale) := hbx0.cell 10
  have c0_11 : (w.alloc (.cells #[(.string a.src : Value), .string a.dst, .int .i64 a.from_, .int .i64 a.to_, .int .u32 a.seq, .int .u32 a.ack, .int .i64 a.flags, .int .i64 a.win, .int .i64 a.urg, .int .i64 a.mss, .int .i64 a.scale, .bool a.sack, .slice a.ba a.bn a.bc, .bool a.timed, .int .u32 a.time, .int .u32 a.echo, .string a.data, .int .i64 a.side, .int .i64 a.class_] 34)).cell? ⟨w.heap.size, 11, none⟩ = some (.bool a.sack) := hbx0.cell 11
  have c0_12 : (w.alloc (.cells #[(.string a.src : Value), .string a.dst, .int .i64 a.from_, .int .i64 a.to_, .int .u32 a.seq, .int .u32 a.ack, .int .i64 a.flags, .int .i64 a.win, .int .i64 a.urg, .int .i64 a.mss, .int .i64 a.scale, .bool a.sack, .slice a.ba a.bn a.bc, .bool a.timed, .int .u32 a.time, .int .u32 a.echo, .string a.data, .int .i64 a.side, .int .i64 a.class_] 34)).cell? ⟨w.heap.size, 12, none⟩ = some (.slice a.ba a.bn a.bc) := hbx0.cell 12
  have c0_13 : (w.alloc (.cells #[(.string a.src : Value), .string a.dst, .int .i64 a.from_, .int .i64 a.to_, .int .u32 a.seq, .int .u32 a.ack, .int .i64 a.flags, .int .i64 a.win, .int .i64 a.urg, .int .i64 a.mss, .int .i64 a.scale, .bool a.sack, .slice a.ba a.bn a.bc, .bool a.timed, .int .u32 a.time, .int .u32 a.echo, .string a.data, .int .i64 a.side, .int .i64 a.class_] 34)).cell? ⟨w.heap.size, 13, none⟩ = some (.bool a.timed) := hbx0.cell 13
  have c0_14 : (w.alloc (.cells #[(.string a.src : Value), .string a.dst, .int .i64 a.from_, .int .i64 a.to_, .int .u32 a.seq, .int .u32 a.ack, .int .i64 a.flags, .int .i64 a.win, .int .i64 a.urg, .int .i64 a.mss, .int .i64 a.scale, .bool a.sack, .slice a.ba a.bn a.bc, .bool a.timed, .int .u32 a.time, .int .u32 a.echo, .string a.data, .int .i64 a.side, .int .i64 a.class_] 34)).cell? ⟨w.heap.size, 14, none⟩ = some (.int .u32 a.time) := hbx0.cell 14
  have c0_15 : (w.alloc (.cells #[(.string a.src : Value), .string a.dst, .int .i64 a.from_, .int .i64 a.to_, .int .u32 a.seq, .int .u32 a.ack, .int .i64 a.flags, .int .i64 a.win, .int .i64 a.urg, .int .i64 a.mss, .int .i64 a.scale, .bool a.sack, .slice a.ba a.bn a.bc, .bool a.timed, .int .u32 a.time, .int .u32 a.echo, .string a.data, .int .i64 a.side, .int .i64 a.class_] 34)).cell? ⟨w.heap.size, 15, none⟩ = some (.int .u32 a.echo) := hbx0.cell 15
  have c0_16 : (w.alloc (.cells #[(.string a.src : Value), .string a.dst, .int .i64 a.from_, .int .i64 a.to_, .int .u32 a.seq, .int .u32 a.ack, .int .i64 a.flags, .int .i64 a.win, .int .i64 a.urg, .int .i64 a.mss, .int .i64 a.scale, .bool a.sack, .slice a.ba a.bn a.bc, .bool a.timed, .int .u32 a.time, .int .u32 a.echo, .string a.data, .int .i64 a.side, .int .i64 a.class_] 34)).cell? ⟨w.heap.size, 16, none⟩ = some (.string a.data) := hbx0.cell 16
  have c0_17 : (w.alloc (.cells #[(.string a.src : Value), .string a.dst, .int .i64 a.from_, .int .i64 a.to_, .int .u32 a.seq, .int .u32 a.ack, .int .i64 a.flags, .int .i64 a.win, .int .i64 a.urg, .int .i64 a.mss, .int .i64 a.scale, .bool a.sack, .slice a.ba a.bn a.bc, .bool a.timed, .int .u32 a.time, .int .u32 a.echo, .string a.data, .int .i64 a.side, .int .i64 a.class_] 34)).cell? ⟨w.heap.size, 17, none⟩ = some (.int .i64 a.side) := hbx0.cell 17
  have c0_18 : (w.alloc (.cells #[(.string a.src : Value), .string a.dst, .int .i64 a.from_, .int .i64 a.to_, .int .u32 a.seq, .int .u32 a.ack, .int .i64 a.flags, .int .i64 a.win, .int .i64 a.urg, .int .i64 a.mss, .int .i64 a.scale, .bool a.sack, .slice a.ba a.bn a.bc, .bool a.timed, .int .u32 a.time, .int .u32 a.echo, .string a.data, .int .i64 a.side, .int .i64 a.class_] 34)).cell? ⟨w.heap.size, 18, none⟩ = some (.int .i64 a.class_) := hbx0.cell 18
  have HBX0 := Lib.hid (show Blk (w.alloc (.cells #[(.string a.src : Value), .string a.dst, .int .i64 a.from_, .int .i64 a.to_, .int .u32 a.seq, .int .u32 a.ack, .int .i64 a.flags, .int .i64 a.win, .int .i64 a.urg, .int .i64 a.mss, .int .i64 a.scale, .bool a.sack, .slice a.ba a.bn a.bc, .bool a.timed, .int .u32 a.time, .int .u32 a.echo, .string a.data, .int .i64 a.side, .int .i64 a.class_] 34)) (w.heap.size) [.string a.src, .string a.dst, .int .i64 a.from_, .int .i64 a.to_, .int .u32 a.seq, .int .u32 a.ack, .int .i64 a.flags, .int .i64 a.win, .int .i64 a.urg, .int .i64 a.mss, .int .i64 a.scale, .bool a.sack, .slice a.ba a.bn a.bc, .bool a.timed, .int .u32 a.time, .int .u32 a.echo, .string a.data, .int .i64 a.side, .int .i64 a.class_] 34 from hbx0)
  clear hbx0
  have TB := Lib.hid TT.out.toBelow
  go_enter Try.func13, Try.ntmps13
  go_wp2_with (fail)
  generalize (w.alloc (.cells #[(.string a.src : Value), .string a.dst, .int .i64 a.from_, .int .i64 a.to_, .int .u32 a.seq, .int .u32 a.ack, .int .i64 a.flags, .int .i64 a.win, .int .i64 a.urg, .int .i64 a.mss, .int .i64 a.scale, .bool a.sack, .slice a.ba a.bn a.bc, .bool a.timed, .int .u32 a.time, .int .u32 a.echo, .string a.data, .int .i64 a.side, .int .i64 a.class_] 34)) = w0 at *
  generalize hBe : w.heap.size = B at *
  have HBE := Lib.hid hBe
  have hB1 := Lib.hid (show B ≤ w.heap.size by omega)
  clear hBe
  replace HR := Lib.hid (HR.out.keep (show Touch (fun _ => False) w w0 from Touch.none (HBE.out ▸ TB.out)))
  go_loopw [9] (fun i wr => ∃ k : Nat, k ≤ len ∧ i = .int .i64 k ∧ (∀ j, j < k → oneB (R j) a = false) ∧ Touch (fun _ => False) w0 wr) (fun i _ => len - (intOf i).toNat)
  case atStart => exact ⟨0, Nat.zero_le _, rfl, fun j h => by omega, Touch.refl _ _⟩
  case round =>
    obtain ⟨k, hk, rfl, hz, ht⟩ := hrel
    have HZ := Lib.hid hz
    have HT := Lib.hid ht
    clear hz ht
    by_cases hlt : k < len
    · obtain ⟨b, off, rfl, hb, hc⟩ := (HR.out.keep HT.out) k hlt
      have hki : (k : Int) < len := by omega
      have hsr := HSM.out k hlt
      generalize hr : R k = r at *
      have HRE := Lib.hid hr
      clear hr
      have e0 := hc 0 _ rfl
      have e1 := hc 1 _ rfl
      have e2 := hc 2 _ rfl
      have e3 := hc 3 _ rfl
      have e4 := hc 4 _ rfl
      have e5 := hc 5 _ rfl
      have e6 := hc 6 _ rfl
      have e7 := hc 7 _ rfl
      have e8 := hc 8 _ rfl
      have e9 := hc 9 _ rfl
      have e10 := hc 10 _ rfl
      have e11 := hc 11 _ rfl
      have e12 := hc 12 _ rfl
      rw [Nat.add_zero] at e0
      clear hc
      have HO := Lib.hid (one_any r a hsr.1 hsr.2 hsrc hdst)
      have hws : w0.heap.size ≤ wr.heap.size := HT.out.size
      go_upto_region 4 with (fail)
      have hwx : ∃ wx, wr.alloc (.cells #[(.bool r.acc : Value), .int .i64 r.side, .string r.fb, .int .i64 r.fn, .string r.tb, .int .i64 r.tn, .int .i64 r.s0, .int .i64 r.s1, .int .i64 r.d0, .int .i64 r.d1, .int .i64 r.mask, .int .i64 r.flags, .int .i64 r.classes] 43) = wx ∧ Blk wx wr.heap.size r.cs 43 ∧ Touch (fun _ => False) wr wx := ⟨_, rfl, Blk.new wr r.cs 43, Touch.alloc _ _ _⟩
      obtain ⟨wx, hwx, hN, hT⟩ := hwx
      rw [hwx]
      clear hwx e0 e1 e2 e3 e4 e5 e6 e7 e8 e9 e10 e11 e12
      have TK := Lib.hid (HT.out.trans hT (fun _ _ h => h))
      generalize wr.heap.size = t at *
      have hask := HBX0.out.keep TK.out (fun h => h)
      clear hT
      have HVT := Lib.hid (fun h => firstI_some hlt HZ.out (show oneB (R k) a = true by rw [HRE.out]; exact h))
      generalize hob : oneB r a = ob at *
      have HOB := Lib.hid hob
      clear hob
      go_wp2_with (first | (refine wpList_load_row rfl 34 _ rfl B rfl 34 #[.string a.src, .string a.dst, .int .i64 a.from_, .int .i64 a.to_, .int .u32 a.seq, .int .u32 a.ack, .int .i64 a.flags, .int .i64 a.win, .int .i64 a.urg, .int .i64 a.mss, .int .i64 a.scale, .bool a.sack, .slice a.ba a.bn a.bc, .bool a.timed, .int .u32 a.time, .int .u32 a.echo, .string a.data, .int .i64 a.side, .int .i64 a.class_] (0, 0) _ hask Try.underlying34 rfl (by kernel_rfl) ?_) | (refine wpList_load_row rfl 43 _ rfl t rfl 43 #[.bool r.acc, .int .i64 r.side, .string r.fb, .int .i64 r.fn, .string r.tb, .int .i64 r.tn, .int .i64 r.s0, .int .i64 r.s1, .int .i64 r.d0, .int .i64 r.d1, .int .i64 r.mask, .int .i64 r.flags, .int .i64 r.classes] (0, 0) _ hN Try.underlying43 rfl (by kernel_rfl) ?_))
      refine (HO.out _).mono ?_
      rintro e w3 ⟨rfl, hb3⟩
      have T3 := Lib.hid (TK.out.trans (Touch.none hb3) (fun _ _ h => h))
      clear hb3 TK HT hask hN
      cases ob with
      | true =>
        go_wp2_with (fail)
        go_ret
        exact ⟨ret_int (HVT.out (by trivial)).symm, HBE.out ▸ below_then TB.out hB1.out T3.out (fun _ _ h => h)⟩
      | false =>
        go_wp2_with (fail)
        refine ⟨⟨k + 1, by omega, by go_num, fun j hj => ?_, T3.out⟩, by simp [intOf]; omega⟩
        by_cases e : j = k
        · rw [e, HRE.out]; exact HOB.out
        · exact HZ.out j (by omega)
    · obtain rfl : k = len := by omega
      have HV := Lib.hid (firstI_none HZ.out)
      go_wp2_with (fail)
      go_ret
      exact ⟨ret_int HV.out.symm, HBE.out ▸ below_then TB.out hB1.out HT.out (fun _ _ h => h)⟩
end Go.Proofs.Ytolkimdfnlfpbaa
