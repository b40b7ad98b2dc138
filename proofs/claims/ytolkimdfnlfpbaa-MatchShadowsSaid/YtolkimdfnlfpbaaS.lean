/- What Accepts answers. Conditions: the rules stand there; lengths fit. -/
import Derived.Test.YtolkimdfnlfpbaaR
import Derived.Deep.Light
import Derived.Laws.Rows
set_option linter.unusedVariables false
set_option linter.unusedSimpArgs false
namespace Go.Proofs.Ytolkimdfnlfpbaa
open Go.RowKit

def accB (R : Nat → Rl) (a : Ak) (len : Nat) : Bool := decide (0 ≤ firstI R a len) && (R (firstI R a len).toNat).acc
set_option maxRecDepth 100000 in
set_option maxHeartbeats 2000000 in
theorem accepts_any (ad : Option Addr) (len cap : Nat) (R : Nat → Rl) (a : Ak) (w : World) (h : RulesAt w ad len R) (hcap : len ≤ 9223372036854775807) (hsm : SmallR R len) (hsrc : a.src.size ≤ 100) (hdst : a.dst.size ≤ 100) :
    Calls Try.prog 16 #[.slice ad len cap, .agg #[.string a.src, .string a.dst, .int .i64 a.from_, .int .i64 a.to_, .int .u32 a.seq, .int .u32 a.ack, .int .i64 a.flags, .int .i64 a.win, .int .i64 a.urg, .int .i64 a.mss, .int .i64 a.scale, .bool a.sack, .slice a.ba a.bn a.bc, .bool a.timed, .int .u32 a.time, .int .u32 a.echo, .string a.data, .int .i64 a.side, .int .i64 a.class_]] w fun e w' => e = .returned (.bool (accB R a len)) ∧ Below w.heap.size w w' := by
  have HR := Lib.hid h
  have HF := Lib.hid (fun w h => first_any ad len cap R a w h hcap hsm hsrc hdst)
  have HRG := Lib.hid (firstI_range R a len)
  clear h
  unfold accB
  generalize firstI R a len = f at *
  obtain ⟨hbx0, hse, TT0⟩ := box1 w [.string a.src, .string a.dst, .int .i64 a.from_, .int .i64 a.to_, .int .u32 a.seq, .int .u32 a.ack, .int .i64 a.flags, .int .i64 a.win, .int .i64 a.urg, .int .i64 a.mss, .int .i64 a.scale, .bool a.sack, .slice a.ba a.bn a.bc, .bool a.timed, .int .u32 a.time, .int .u32 a.echo, .string a.data, .int .i64 a.side, .int .i64 a.class_] 34
  have TT := Lib.hid (show Touch (fun _ => False) w (w.alloc (.cells #[(.string a.src : Value), .string a.dst, .int .i64 a.from_, .int .i64 a.to_, .int .u32 a.seq, .int .u32 a.ack, .int .i64 a.flags, .int .i64 a.win, .int .i64 a.urg, .int .i64 a.mss, .int .i64 a.scale, .bool a.sack, .slice a.ba a.bn a.bc, .bool a.timed, .int .u32 a.time, .int .u32 a.echo, .string a.data, .int .i64 a.side, .int .i64 a.class_] 34)) from TT0)
  clear TT0
  replace hse : (w.alloc (.cells #[(.string a.src : Value), .string a.dst, .int .i64 a.from_, .int .i64 a.to_, .int .u32 a.seq, .int .u32 a.ack, .int .i64 a.flags, .int .i64 a.win, .int .i64 a.urg, .int .i64 a.mss, .int .i64 a.scale, .bool a.sack, .slice a.ba a.bn a.bc, .bool a.timed, .int .u32 a.time, .int .u32 a.echo, .string a.data, .int .i64 a.side, .int .i64 a.class_] 34)).heap.size = w.heap.size + 1 := hse
  have hsz : w.heap.size + 1 ≤ (w.alloc (.cells #[(.string a.src : Value), .string a.dst, .int .i64 a.from_, .int .i64 a.to_, .int .u32 a.seq, .int .u32 a.ack, .int .i64 a.flags, .int .i64 a.win, .int .i64 a.urg, .int .i64 a.mss, .int .i64 a.scale, .bool a.sack, .slice a.ba a.bn a.bc, .bool a.timed, .int .u32 a.time, .int .u32 a.echo, .string a.data, .int .i64 a.side, .int .i64 a.class_] 34)).heap.size := Nat.le_of_eq hse.symm
  have HSE := Lib.hid hse
  clear hse
  have c0_0 : (w.alloc (.cells #[(.string a.src : Value), .string a.dst, .int .i64 a.from_, .int .i64 a.to_, .int .u32 a.seq, .int .u32 a.ack, .int .i64 a.flags, .int .i64 a.win, .int .i64 a.urg, .int .i64 a.mss, .int .i64 a.scale, .bool a.sack, .slice a.ba a.bn a.bc, .bool a.timed, .int .u32 a.time, .int .u32 a.echo, .string a.data, .int .i64 a.side, .int .i64 a.class_] 34)).cell? ⟨w.heap.size, 0, none⟩ = some (.string a.src) := hbx0.cell 0
  have c0_1 : (w.alloc (.cells #[(.string a.src : Value), .string a.dst, .int .i64 a.from_, .int .i64 a.to_, .int .u32 a.seq, .int .u32 a.ack, .int .i64 a.flags, .int .i64 a.win, .int .i64 a.urg, .int .i64 a.mss, .int .i64 a.scale, .bool a.sack, .slice a.ba a.bn a.bc, .bool a.timed, .int .u32 a.time, .int .u32 a.echo, .string a.data, .int .i64 a.side, .int .i64 a.class_] 34)).cell? ⟨w.heap.size, 1, none⟩ = some (.string a.dst) := hbx0.cell 1
  have c0_2 : (w.alloc (.cells #[(.string a.src : Value), .string a.dst, .int .i64 a.from_, .int .i64 a.to_, .int .u32 a.seq, .int .u32 a.ack, .int .i64 a.flags, .int .i64 a.win, .int .i64 a.urg, .int .i64 a.mss, .int .i64 a.scale, .bool a.sack, .slice a.ba a.bn a.bc, .bool a.timed, .int .u32 a.time, .int .u32 a.echo, .string a.data, .int .i64 a.side, .int .i64 a.class_] 34)).cell? ⟨w.heap.size, 2, none⟩ = some (.int .i64 a.from_) := hbx0.cell 2
  have c0_3 : (w.alloc (.cells #[(.string a.src : Value), .string a.dst, .int .i64 a.from_, .int .i64 a.to_, .int .u32 a.seq, .int .u32 a.ack, .int .i64 a.flags, .int .i64 a.win, .int .i64 a.urg, .int .i64 a.mss, .int .i64 a.scale, .bool a.sack, .slice a.ba a.bn a.bc, .bool a.timed, .int .u32 a.time, .int .u32 a.echo, .string a.data, .int .i64 a.side, .int .i64 a.class_] 34)).cell? ⟨w.heap.size, 3, none⟩ = some (.int .i64 a.to_) := hbx0.cell 3
  have c0_4 : (w.alloc (.cells #[(.string a.src : Value), .string a.dst, .int .i64 a.from_, .int .i64 a.to_, .int .u32 a.seq, .int .u32 a.ack, .int .i64 a.flags, .int .i64 a.win, .int .i64 a.urg, .int .i64 a.mss, .int .i64 a.scale, .bool a.sack, .slice a.ba a.bn a.bc, .bool a.timed, .int .u32 a.time, .int .u32 a.echo, .string a.data, .int .i64 a.side, .int .i64 a.class_] 34)).cell? ⟨w.heap.size, 4, none⟩ = some (.int .u32 a.seq) := hbx0.cell 4
  have c0_5 : (w.alloc (.cells #[(.string a.src : Value), .string a.dst, .int .i64 a.from_, .int .i64 a.to_, .int .u32 a.seq, .int .u32 a.ack, .int .i64 a.flags, .int .i64 a.win, .int .i64 a.urg, .int .i64 a.mss, .int .i64 a.scale, .bool a.sack, .slice a.ba a.bn a.bc, .bool a.timed, .int .u32 a.time, .int .u32 a.echo, .string a.data, .int .i64 a.side, .int .i64 a.class_] 34)).cell? ⟨w.heap.size, 5, none⟩ = some (.int .u32 a.ack) := hbx0.cell 5
  have c0_6 : (w.alloc (.cells #[(.string a.src : Value), .string a.dst, .int .i64 a.from_, .int .i64 a.to_, .int .u32 a.seq, .int .u32 a.ack, .int .i64 a.flags, .int .i64 a.win, .int .i64 a.urg, .int .i64 a.mss, .int .i64 a.scale, .bool a.sack, .slice a.ba a.bn a.bc, .bool a.timed, .int .u32 a.time, .int .u32 a.echo, .string a.data, .int .i64 a.side, .int .i64 a.class_] 34)).cell? ⟨w.heap.size, 6, none⟩ = some (.int .i64 a.flags) := hbx0.cell 6
  have c0_7 : (w.alloc (.cells #[(.string a.src : Value), .string a.dst, .int .i64 a.from_, .int .i64 a.to_, .int .u32 a.seq, .int .u32 a.ack, .int .i64 a.flags, .int .i64 a.win, .int .i64 a.urg, .int .i64 a.mss, .int .i64 a.scale, .bool a.sack, .slice a.ba a.bn a.bc, .bool a.timed, .int .u32 a.time, .int .u32 a.echo, .string a.data, .int .i64 a.side, .int .i64 a.class_] 34)).cell? ⟨w.heap.size, 7, none⟩ = some (.int .i64 a.win) := hbx0.cell 7
  have c0_8 : (w.alloc (.cells #[(.string a.src : Value), .string a.dst, .int .i64 a.from_, .int .i64 a.to_, .int .u32 a.seq, .int .u32 a.ack, .int .i64 a.flags, .int .i64 a.win, .int .i64 a.urg, .int .i64 a.mss, .int .i64 a.scale, .bool a.sack, .slice a.ba a.bn a.bc, .bool a.timed, .int .u32 a.time, .int .u32 a.echo, .string a.data, .int .i64 a.side, .int .i64 a.class_] 34)).cell? ⟨w.heap.size, 8, none⟩ = some (.int .i64 a.urg) := hbx0.cell 8
  have c0_9 : (w.alloc (.cells #[(.string a.src : Value), .string a.dst, .int .i64 a.from_, .int .i64 a.to_, .int .u32 a.seq, .int .u32 a.ack, .int .i64 a.flags, .int .i64 a.win, .int .i64 a.urg, .int .i64 a.mss, .int .i64 a.scale, .bool a.sack, .slice a.ba a.bn a.bc, .bool a.timed, .int .u32 a.time, .int .u32 a.echo, .string a.data, .int .i64 a.side, .int .i64 a.class_] 34)).cell? ⟨w.heap.size, 9, none⟩ = some (.int .i64 a.mss) := hbx0.cell 9
  have c0_10 : (w.alloc (.cells #[(.string a.src : Value), .string a.dst, .int .i64 a.from_, .int .i64 a.to_, .int .u32 a.seq, .int .u32 a.ack, .int .i64 a.flags, .int .i64 a.win, .int .i64 a.urg, .int .i64 a.mss, .int .i64 a.scale, .bool a.sack, .slice a.ba a.bn a.bc, .bool a.timed, .int .u32 a.time, .int .u32 a.echo, .string a.data, .int .i64 a.side, .int .i64 a.class_] 34)).cell? ⟨w.heap.size, 10, none⟩ = some (.int .i64 a.scale) := hbx0.cell 10
  have c0_11 : (w.alloc (.cells #[(.string a.src : Value), .string a.dst, .int .i64 a.from_, .int .i64 a.to_, .int .u32 a.seq, .int .u32 a.ack, .int .i64 a.flags, .int .i64 a.win, .int .i64 a.urg, .int .i64 a.mss, .int .i64 a.scale, .bool a.sack, .slice a.ba a.bn a.bc, .bool a.timed, .int .u32 a.time, .int .u32 a.echo, .string a.data, .int .i64 a.side, .int .i64 a.class_] 34)).cell? ⟨w.heap.size, 11, none⟩ = some (.bool a.sack) := hbx0.cell 11
  have c0_12 : (w.alloc (.cells #[(.string a.src : Value), .string a.dst, .int .i64 a.from_, .int .i64 a.to_, .int .u32 a.seq, .int .u32 a.ack, .int .i64 a.flags, .int .i64 a.win, .int .i64 a.urg, .int .i64 a.mss, .int .i64 a.scale, .bool a.sack, .slice a.ba a.bn a.bc, .bool a.timed, .int .u32 a.time, .int .u32 a.echo, .string a.data, .int .i64 a.side, .int .i64 a.class_] 34)).cell? ⟨w.heap.size, 12, none⟩ = some (.slice a.ba a.bn a.bc) := hbx0.cell 12
  have c0_13 : (w.alloc (.cells #[(.string a.src : Value), .string a.dst, .int .i64 a.from_, .int .i64 a.to_, .int .u32 a.seq, .int .u32 a.ack, .int .i64 a.flags, .int .i64 a.win, .int .i64 a.urg, .int .i64 a.mss, .int .i64 a.scale, .bool a.sack, .slice a.ba a.bn a.bc, .bool a.timed, .int .u32 a.time, .int .u32 a.echo, .string a.data, .int .i64 a.side, .int .i64 a.class_] 34)).cell? ⟨w.heap.size, 13, none⟩ = some (.bool a.timed) := hbx0.cell 13
  have c0_14 : (w.alloc (.cells #[(.string a.src : Value), .string a.dst, .int .i64 a.from_, .int .i64 a.to_, .int .u32 a.seq, .int .u32 a.ack, .int .i64 a.flags, .int .i64 a.win, .int .i64 a.urg, .int .i64 a.mss, .int .i64 a.scale, .bool a.sack, .slice a.ba a.bn a.bc, .bool a.timed, .int .u32 a.time, .int .u32 a.echo, .string a.data, .int .i64 a.side, .int .i64 a.class_] 34)).cell? ⟨w.heap.size, 14, none⟩ = some (.int .u32 a.time) := hbx0.cell 14
  have c0_15 : (w.alloc (.cells #[(.string a.src : Value), .string a.dst, .int .i64 a.from_, .int .i64 a.to_, .int .u32 a.seq, .int .u32 a.ack, .int .i64 a.flags, .int .i64 a.win, .int .i64 a.urg, .int .i64 a.mss, .int .i64 a.scale, .bool a.sack, .slice a.ba a.bn a.bc, .bool a.timed, .int .u32 a.time, .int .u32 a.echo, .string a.data, .int .i64 a.side, .int .i64 a.class_] 34)).cell? ⟨w.heap.size, 15, none⟩ = some (.int .u32 a.echo) := hbx0.cell 15
  have c0_16 : (w.alloc (.cells #[(.string a.src : Value), .string a.dst, .int .i64 a.from_, .int .i64 a.to_, .int .u32 a.seq, .int .u32 a.ack, .int .i64 a.flags, .int .i64 a.win, .int .i64 a.urg, .int .i64 a.mss, .int .i64 a.scale, .bool a.sack, .slice a.ba a.bn a.bc, .bool a.timed, .int .u32 a.time, .int .u32 a.echo, .string a.data, .int .i64 a.side, .int .i64 a.class_] 34)).cell? ⟨w.heap.size, 16, none⟩ = some (.string a.data) := hbx0.cell 16
  have c0_17 : (w.alloc (.cells #[(.string a.src : Value), .string a.dst, .int .i64 a.from_, .int .i64 a.to_, .int .u32 a.seq, .int .u32 a.ack, .int .i64 a.flags, .int .i64 a.win, .int .i64 a.urg, .int .i64 a.mss, .int .i64 a.scale, .bool a.sack, .slice a.ba a.bn a.bc, .bool a.timed, .int .u32 a.time, .int .u32 a.echo, .string a.data, .int .i64 a.side, .int .i64 a.class_] 34)).cell? ⟨w.heap.size, 17, none⟩ = some (.int .i64 a.side) := hbx0.cell 17
  have c0_18 : (w.alloc (.cells #[(.string a.src : Value), .string a.dst, .int .i64 a.from_, .int .i64 a.to_, .int .u32 a.seq, .int .u32 a.ack, .int .i64 a.flags, .int .i64 a.win, .int .i64 a.urg, .int .i64 a.mss, .int .i64 a.scale, .bool a.sack, .slice a.ba a.bn a.bc, .bool a.timed, .int .u32 a.time, .int .u32 a.echo, .string a.data, .int .i64 a.side, .int .i64 a.class_] 34)).cell? ⟨w.heap.size, 18, none⟩ = some (.int .i64 a.class_) := hbx0.cell 18
  have HBX0 := Lib.hid (show Blk (w.alloc (.cells #[(.string a.src : Value), .string a.dst, .int .i64 a.from_, .int .i64 a.to_, .int .u32 a.seq, .int .u32 a.ack, .int .i64 a.flags, .int .i64 a.win, .int .i64 a.urg, .int .i64 a.mss, .int .i64 a.scale, .bool a.sack, .slice a.ba a.bn a.bc, .bool a.timed, .int .u32 a.time, .int .u32 a.echo, .string a.data, .int .i64 a.side, .int .i64 a.class_] 34)) (w.heap.size) [.string a.src, .string a.dst, .int .i64 a.from_, .int .i64 a.to_, .int .u32 a.seq, .int .u32 a.ack, .int .i64 a.flags, .int .i64 a.win, .int .i64 a.urg, .int .i64 a.mss, .int .i64 a.scale, .bool a.sack, .slice a.ba a.bn a.bc, .bool a.timed, .int .u32 a.time, .int .u32 a.echo, .string a.data, .int .i64 a.side, .int .i64 a.class_] 34 from hbx0)
  clear hbx0
  have TB := Lib.hid TT.out.toBelow
  go_enter Try.func16, Try.ntmps16
  go_upto_region 1 with (fail)
  generalize (w.alloc (.cells #[(.string a.src : Value), .string a.dst, .int .i64 a.from_, .int .i64 a.to_, .int .u32 a.seq, .int .u32 a.ack, .int .i64 a.flags, .int .i64 a.win, .int .i64 a.urg, .int .i64 a.mss, .int .i64 a.scale, .bool a.sack, .slice a.ba a.bn a.bc, .bool a.timed, .int .u32 a.time, .int .u32 a.echo, .string a.data, .int .i64 a.side, .int .i64 a.class_] 34)) = w0 at *
  generalize hBe : w.heap.size = B at *
  have HBE := Lib.hid hBe
  have hB1 := Lib.hid (show B ≤ w.heap.size by omega)
  clear hBe
  have hask := HBX0.out
  clear c0_0 c0_1 c0_2 c0_3 c0_4 c0_5 c0_6 c0_7 c0_8 c0_9 c0_10 c0_11 c0_12 c0_13 c0_14 c0_15 c0_16 c0_17 c0_18
  replace HR := Lib.hid (HR.out.keep (show Touch (fun _ => False) w w0 from Touch.none (HBE.out ▸ TB.out)))
  go_wp2_with (refine wpList_load_row rfl 34 _ rfl B rfl 34 #[.string a.src, .string a.dst, .int .i64 a.from_, .int .i64 a.to_, .int .u32 a.seq, .int .u32 a.ack, .int .i64 a.flags, .int .i64 a.win, .int .i64 a.urg, .int .i64 a.mss, .int .i64 a.scale, .bool a.sack, .slice a.ba a.bn a.bc, .bool a.timed, .int .u32 a.time, .int .u32 a.echo, .string a.data, .int .i64 a.side, .int .i64 a.class_] (0, 0) _ hask Try.underlying34 rfl (by kernel_rfl) ?_)
  refine (HF.out _ HR.out).mono ?_
  rintro e w2 ⟨rfl, hb2⟩
  have T2 := Lib.hid (Touch.none hb2)
  have TB2 := Lib.hid (below_then TB.out hB1.out T2.out (fun _ _ h => h))
  clear hb2 hask
  rcases HRG.out with rfl | ⟨k, hk, rfl, -, -⟩
  · go_wp2_with (fail)
    go_ret
    exact ⟨rfl, HBE.out ▸ TB2.out⟩
  · obtain ⟨b, off, rfl, hb, hc⟩ := (HR.out.keep T2.out) k hk
    have e0 := hc 0 _ rfl
    rw [Nat.add_zero] at e0
    clear hc
    have hki : (k : Int) < len := by omega
    have hk0 : (k : Int) ≠ -1 := by omega
    have HV := Lib.hid (show (decide (0 ≤ (k : Int)) && (R ((k : Int)).toNat).acc) = (R k).acc by simp)
    generalize (R k).acc = v at *
    go_wp2_with (fail)
    go_ret
    exact ⟨ret_bool HV.out.symm, HBE.out ▸ TB2.out⟩
end Go.Proofs.Ytolkimdfnlfpbaa
