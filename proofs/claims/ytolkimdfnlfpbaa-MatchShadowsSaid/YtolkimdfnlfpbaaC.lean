/- What is of any; ports; kinds of addresses. No condition beyond what each states. -/
import Derived.Test.YtolkimdfnlfpbaaB
import Derived.Deep.Light
import Derived.Laws.Rows
import Derived.Laws.ResultCell
import Derived.LoopN
set_option linter.unusedVariables false
set_option linter.unusedSimpArgs false
namespace Go.Proofs.Ytolkimdfnlfpbaa
open Go.RowKit

def wideB (b : ByteArray) (n : Int) : Bool := decide (b.toList = [] ∧ n = 0)
theorem al (w : World) (o : Obj) : Below w.heap.size w (w.alloc o) := (Touch.alloc (fun _ => False) w o).toBelow

theorem wide_any (b : ByteArray) (n : Int) (w : World) : Calls Try.prog 45 #[.agg #[.string b, .int .i64 n]] w fun e w' => e = .returned (.bool (wideB b n)) ∧ Below w.heap.size w w' := by
  go_enter Try.func45, Try.ntmps45
  go_wp2
  all_goals
    go_ret
    exact ⟨ret_bool (by simp [wideB, *]), al _ _⟩
theorem rwide_any (b : ByteArray) (n : Int) (w : World) : Calls Try.prog 34 #[.agg #[.string b, .int .i64 n]] w fun e w' => e = .returned (.bool (wideB b n)) ∧ Below w.heap.size w w' := by
  go_enter Try.func34, Try.ntmps34
  go_wp2
  all_goals
    go_ret
    exact ⟨ret_bool (by simp [wideB, *]), al _ _⟩

def inB (n p q : Int) : Bool := decide (p ≤ n ∧ n ≤ q)
theorem rwithin_any (n p q : Int) (w : World) : Calls Try.prog 36 #[.int .i64 n, .agg #[.int .i64 p, .int .i64 q]] w fun e w' => e = .returned (.bool (inB n p q)) ∧ Below w.heap.size w w' := by
  by_cases h1 : p ≤ n
  · by_cases h2 : n ≤ q
    all_goals
      go_enter Try.func36, Try.ntmps36
      go_wp2
      go_ret
      exact ⟨ret_bool (by simp [inB, *] <;> omega), al _ _⟩
  · go_enter Try.func36, Try.ntmps36
    go_wp2
    go_ret
    exact ⟨ret_bool (by simp [inB, *] <;> omega), al _ _⟩
def portsB (p q : Int) : Bool := decide (0 ≤ p ∧ p ≤ q ∧ q ≤ 65535)
theorem ports_any (p q : Int) (w : World) : Calls Try.prog 44 #[.agg #[.int .i64 p, .int .i64 q]] w fun e w' => e = .returned (.bool (portsB p q)) ∧ Below w.heap.size w w' := by
  by_cases h0 : 0 ≤ p
  · by_cases h1 : p ≤ q
    · by_cases h2 : q ≤ 65535
      all_goals
        go_enter Try.func44, Try.ntmps44
        go_wp2
        go_ret
        exact ⟨ret_bool (by simp [portsB, *] <;> omega), al _ _⟩
    · go_enter Try.func44, Try.ntmps44
      go_wp2
      go_ret
      exact ⟨ret_bool (by simp [portsB, *] <;> omega), al _ _⟩
  · go_enter Try.func44, Try.ntmps44
    go_wp2
    go_ret
    exact ⟨ret_bool (by simp [portsB, *] <;> omega), al _ _⟩

def rightB (b : ByteArray) : Bool := decide (b.size = 4 ∨ b.size = 16)
theorem rright_any (b : ByteArray) (w : World) (hb : b.size ≤ maxLen) : Calls Try.prog 50 #[.agg #[.string b]] w fun e w' => e = .returned (.bool (rightB b)) ∧ Below w.heap.size w w' := by
  by_cases h0 : b.size = 4
  · go_enter Try.func50, Try.ntmps50
    go_wp2
    go_ret
    exact ⟨ret_bool (by simp [rightB, *]), al _ _⟩
  · have h1 : (b.size : Int) ≠ 4 := by omega
    by_cases h2 : b.size = 16
    · go_enter Try.func50, Try.ntmps50
      go_wp2
      go_ret
      exact ⟨ret_bool (by simp [rightB, *]), al _ _⟩
    · have h3 : (b.size : Int) ≠ 16 := by omega
      go_enter Try.func50, Try.ntmps50
      go_wp2
      go_ret
      exact ⟨ret_bool (by simp [rightB, *]), al _ _⟩

def kinds10 : Array Value := #[.int .i64 4, .int .i64 1, .int .u8 46, .int .i64 10, .int .i64 255, .int .i64 16, .int .i64 2, .int .u8 58, .int .i64 16, .int .i64 65535]
theorem kinds_any (w : World) : Calls Try.prog 62 #[] w fun e w' => e = .returned (.agg #[.int .i64 4, .int .i64 1, .int .u8 46, .int .i64 10, .int .i64 255, .int .i64 16, .int .i64 2, .int .u8 58, .int .i64 16, .int .i64 65535]) ∧ Below w.heap.size w w' := by
  go_enter Try.func62, Try.ntmps62
  go_wp2
  (try simp only [Exit.inBlock, Exit.then])
  refine bodyPost_ret (results_cell_row rfl _ _ w.heap.size 83 kinds10 (0, 0) _ rfl ?_ Try.underlying83 rfl (by kernel_rfl)) rfl ?_
  · exact heap_alloc_new w _
  · exact ⟨rfl, al _ _⟩
theorem index0 (w : World) : (Instr.index 83 (.agg #[.int .i64 4, .int .i64 1, .int .u8 46, .int .i64 10, .int .i64 255, .int .i64 16, .int .i64 2, .int .u8 58, .int .i64 16, .int .i64 65535]) (.int .i64 0)).run Try.prog w = .ok (.agg #[.int .i64 4, .int .i64 1, .int .u8 46, .int .i64 10, .int .i64 255]) w := by kernel_rfl
theorem index1 (w : World) : (Instr.index 83 (.agg #[.int .i64 4, .int .i64 1, .int .u8 46, .int .i64 10, .int .i64 255, .int .i64 16, .int .i64 2, .int .u8 58, .int .i64 16, .int .i64 65535]) (.int .i64 1)).run Try.prog w = .ok (.agg #[.int .i64 16, .int .i64 2, .int .u8 58, .int .i64 16, .int .i64 65535]) w := by kernel_rfl
theorem five {w : World} {g : Nat} {cs : List Value} {e : TypeId} (h : Blk w g cs e) (v0 v1 v2 v3 v4 : Value) (hl : cs.length = 5 := by rfl) :
    Blk (((((w.setCell ⟨g, 0, none⟩ v0).setCell ⟨g, 1, none⟩ v1).setCell ⟨g, 2, none⟩ v2).setCell ⟨g, 3, none⟩ v3).setCell ⟨g, 4, none⟩ v4) g [v0, v1, v2, v3, v4] e ∧
      Touch (· = g) w (((((w.setCell ⟨g, 0, none⟩ v0).setCell ⟨g, 1, none⟩ v1).setCell ⟨g, 2, none⟩ v2).setCell ⟨g, 3, none⟩ v3).setCell ⟨g, 4, none⟩ v4) := by
  refine ⟨?_, ?_⟩
  · have := ((((h.set 0 v0).set 1 v1).set 2 v2).set 3 v3).set 4 v4
    match cs, hl with
    | [a, b, c, d, f], _ => exact this
  · exact ((((Touch.setCell w g 0 v0).trans (Touch.setCell _ g 1 v1) (fun _ _ h => h)).trans (Touch.setCell _ g 2 v2) (fun _ _ h => h)).trans (Touch.setCell _ g 3 v3) (fun _ _ h => h)).trans (Touch.setCell _ g 4 v4) (fun _ _ h => h)
theorem res_of {w : World} {g : Nat} {v0 v1 v2 v3 v4 : Value} {tmps : Array Value} (h : Blk w g [v0, v1, v2, v3, v4] 80) (hp : tmps.getD 2 undef = .pointer (some ⟨g, 0, none⟩)) :
    (results Try.f61 tmps).run Try.prog w = .ok (.tuple #[.agg #[v0, v1, v2, v3, v4], tmps.getD 3 undef]) w := by
  rw [results_cell_tmp rfl, hp]
  have := run_loadVar_row w g 80 80 #[v0, v1, v2, v3, v4] (0, 0) _ h Try.underlying80 rfl (by kernel_rfl)
  simp [asAddr, Result.andThen, this]
theorem of_any (b : ByteArray) (hb : b.size ≤ maxLen) (w : World) : Calls Try.prog 61 #[.agg #[.string b]] w fun e w' => (∃ x0 x1 x2 x3 x4 : Int, e = .returned (.tuple #[.agg #[.int .i64 x0, .int .i64 x1, .int .u8 x2, .int .i64 x3, .int .i64 x4], .bool (rightB b)])) ∧ Below w.heap.size w w' := by
  have HK := Lib.hid kinds_any
  have hb0 : ((w.alloc (.cells #[Value.string b] 24)).alloc (.cells #[Value.int .i64 0, .int .i64 0, .int .u8 0, .int .i64 0, .int .i64 0] 80)).cell? ⟨w.heap.size, 0, none⟩ = some (.string b) := by simp
  have hk : Blk ((w.alloc (.cells #[Value.string b] 24)).alloc (.cells #[Value.int .i64 0, .int .i64 0, .int .u8 0, .int .i64 0, .int .i64 0] 80)) (w.heap.size + 1) [Value.int .i64 0, .int .i64 0, .int .u8 0, .int .i64 0, .int .i64 0] 80 := by
    have := Blk.new (w.alloc (.cells #[Value.string b] 24)) [Value.int .i64 0, .int .i64 0, .int .u8 0, .int .i64 0, .int .i64 0] 80
    simpa using this
  have T := ((Touch.alloc (fun _ => False) w (.cells #[Value.string b] 24)).trans (Touch.alloc (fun _ => False) _ (.cells #[Value.int .i64 0, .int .i64 0, .int .u8 0, .int .i64 0, .int .i64 0] 80)) (fun _ _ h => h))
  have HT := Lib.hid T
  have hs2 : w.heap.size + 2 ≤ ((w.alloc (.cells #[Value.string b] 24)).alloc (.cells #[Value.int .i64 0, .int .i64 0, .int .u8 0, .int .i64 0, .int .i64 0] 80)).heap.size := by simp
  have HKB := Lib.hid hk
  clear T hk
  go_enter Try.func61, Try.ntmps61
  go_wp2_with (fail)
  generalize (w.alloc (.cells #[Value.string b] 24)).alloc (.cells #[Value.int .i64 0, .int .i64 0, .int .u8 0, .int .i64 0, .int .i64 0] 80) = w2 at *
  generalize hB : w.heap.size = B at *
  have hB1 := Lib.hid (show B ≤ w.heap.size by omega)
  have HBE := Lib.hid hB
  have HBB := Lib.hid (HT.out.below (Nat.le_refl _) (fun _ _ h => h))
  rw [HBE.out] at HBB
  clear hB
  refine (HK.out _).mono ?_
  rintro e w3 ⟨rfl, hb3⟩
  have T3 := Lib.hid (show Touch (fun _ => False) w2 w3 from Touch.none hb3)
  clear hb3
  go_wp2_with (fail)
  go_loopw [7] (fun i wr => (i = .int .i64 0 ∨ (i = .int .i64 1 ∧ b.size ≠ 4) ∨ (i = .int .i64 2 ∧ b.size ≠ 4 ∧ b.size ≠ 16)) ∧ Touch (fun _ => False) w3 wr) (fun i _ => 3 - (intOf i).toNat)
  case atStart => exact ⟨.inl rfl, Touch.refl _ _⟩
  case round =>
    obtain ⟨hi, ht⟩ := hrel
    have TR := Lib.hid (T3.out.trans ht (fun _ _ h => h))
    have hcb : wr.cell? ⟨B, 0, none⟩ = some (.string b) := by rw [← hb0]; exact TR.out.cell (by omega) (fun h => h) 0
    have hws : w2.heap.size ≤ wr.heap.size := TR.out.size
    have hlt : B < wr.heap.size := by omega
    have HR := Lib.hid (HKB.out.keep TR.out (fun h => h))
    have TRR := Lib.hid ht
    clear ht
    have hx0 := index0
    have hx1 := index1
    rcases hi with rfl | ⟨rfl, h4⟩ | ⟨rfl, h4, h16⟩
    · by_cases h4 : b.size = 4
      · have h4' : (b.size : Int) = 4 := by omega
        have TK := Lib.hid (Touch.alloc (fun _ => False) wr (.cells #[Value.int .i64 4, .int .i64 1, .int .u8 46, .int .i64 10, .int .i64 255] 80))
        have RK := HR.out.keep TK.out (fun h => h)
        have RKH := Lib.hid RK
        have c0 : (wr.alloc (.cells #[Value.int .i64 4, .int .i64 1, .int .u8 46, .int .i64 10, .int .i64 255] 80)).cell? ⟨B + 1, 0, none⟩ = some (.int .i64 0) := by rw [RK.cell]; rfl
        have f0 : (wr.alloc (.cells #[Value.int .i64 4, .int .i64 1, .int .u8 46, .int .i64 10, .int .i64 255] 80)).frozen? ⟨B + 1, 0, none⟩ = false := RK.frozen 0
        have c1 : (wr.alloc (.cells #[Value.int .i64 4, .int .i64 1, .int .u8 46, .int .i64 10, .int .i64 255] 80)).cell? ⟨B + 1, 1, none⟩ = some (.int .i64 0) := by rw [RK.cell]; rfl
        have f1 : (wr.alloc (.cells #[Value.int .i64 4, .int .i64 1, .int .u8 46, .int .i64 10, .int .i64 255] 80)).frozen? ⟨B + 1, 1, none⟩ = false := RK.frozen 1
        have c2 : (wr.alloc (.cells #[Value.int .i64 4, .int .i64 1, .int .u8 46, .int .i64 10, .int .i64 255] 80)).cell? ⟨B + 1, 2, none⟩ = some (.int .u8 0) := by rw [RK.cell]; rfl
        have f2 : (wr.alloc (.cells #[Value.int .i64 4, .int .i64 1, .int .u8 46, .int .i64 10, .int .i64 255] 80)).frozen? ⟨B + 1, 2, none⟩ = false := RK.frozen 2
        have c3 : (wr.alloc (.cells #[Value.int .i64 4, .int .i64 1, .int .u8 46, .int .i64 10, .int .i64 255] 80)).cell? ⟨B + 1, 3, none⟩ = some (.int .i64 0) := by rw [RK.cell]; rfl
        have f3 : (wr.alloc (.cells #[Value.int .i64 4, .int .i64 1, .int .u8 46, .int .i64 10, .int .i64 255] 80)).frozen? ⟨B + 1, 3, none⟩ = false := RK.frozen 3
        have c4 : (wr.alloc (.cells #[Value.int .i64 4, .int .i64 1, .int .u8 46, .int .i64 10, .int .i64 255] 80)).cell? ⟨B + 1, 4, none⟩ = some (.int .i64 0) := by rw [RK.cell]; rfl
        have f4 : (wr.alloc (.cells #[Value.int .i64 4, .int .i64 1, .int .u8 46, .int .i64 10, .int .i64 255] 80)).frozen? ⟨B + 1, 4, none⟩ = false := RK.frozen 4
        clear RK
        go_wp2_with (fail)
        (try simp only [Exit.inBlock, Exit.then])
        obtain ⟨h5, t5⟩ := five RKH.out (.int .i64 4) (.int .i64 1) (.int .u8 46) (.int .i64 10) (.int .i64 255)
        refine bodyPost_ret (res_of h5 rfl) rfl ?_
        refine ⟨⟨_, _, _, _, _, by rw [show rightB b = true by simp [rightB, h4]]; rfl⟩, ?_⟩
        rw [HBE.out]
        exact below_then (below_then (below_then HBB.out hB1.out TR.out (fun _ _ h => h)) hB1.out TK.out (fun _ _ h => h)) hB1.out t5 (fun i hi h => by omega)
      · have h4' : (b.size : Int) ≠ 4 := by omega
        go_wp2_with (fail)
        go_light
        go_roundw
        case rel => exact ⟨.inr (.inl ⟨rfl, h4⟩), (TRR.out.trans (Touch.alloc (fun _ => False) wr _) (fun _ _ h => h))⟩
        case measure => simp [intOf]
    · by_cases h16 : b.size = 16
      · have h4' : (b.size : Int) = 16 := by omega
        have TK := Lib.hid (Touch.alloc (fun _ => False) wr (.cells #[Value.int .i64 16, .int .i64 2, .int .u8 58, .int .i64 16, .int .i64 65535] 80))
        have RK := HR.out.keep TK.out (fun h => h)
        have RKH := Lib.hid RK
        have c0 : (wr.alloc (.cells #[Value.int .i64 16, .int .i64 2, .int .u8 58, .int .i64 16, .int .i64 65535] 80)).cell? ⟨B + 1, 0, none⟩ = some (.int .i64 0) := by rw [RK.cell]; rfl
        have f0 : (wr.alloc (.cells #[Value.int .i64 16, .int .i64 2, .int .u8 58, .int .i64 16, .int .i64 65535] 80)).frozen? ⟨B + 1, 0, none⟩ = false := RK.frozen 0
        have c1 : (wr.alloc (.cells #[Value.int .i64 16, .int .i64 2, .int .u8 58, .int .i64 16, .int .i64 65535] 80)).cell? ⟨B + 1, 1, none⟩ = some (.int .i64 0) := by rw [RK.cell]; rfl
        have f1 : (wr.alloc (.cells #[Value.int .i64 16, .int .i64 2, .int .u8 58, .int .i64 16, .int .i64 65535] 80)).frozen? ⟨B + 1, 1, none⟩ = false := RK.frozen 1
        have c2 : (wr.alloc (.cells #[Value.int .i64 16, .int .i64 2, .int .u8 58, .int .i64 16, .int .i64 65535] 80)).cell? ⟨B + 1, 2, none⟩ = some (.int .u8 0) := by rw [RK.cell]; rfl
        have f2 : (wr.alloc (.cells #[Value.int .i64 16, .int .i64 2, .int .u8 58, .int .i64 16, .int .i64 65535] 80)).frozen? ⟨B + 1, 2, none⟩ = false := RK.frozen 2
        have c3 : (wr.alloc (.cells #[Value.int .i64 16, .int .i64 2, .int .u8 58, .int .i64 16, .int .i64 65535] 80)).cell? ⟨B + 1, 3, none⟩ = some (.int .i64 0) := by rw [RK.cell]; rfl
        have f3 : (wr.alloc (.cells #[Value.int .i64 16, .int .i64 2, .int .u8 58, .int .i64 16, .int .i64 65535] 80)).frozen? ⟨B + 1, 3, none⟩ = false := RK.frozen 3
        have c4 : (wr.alloc (.cells #[Value.int .i64 16, .int .i64 2, .int .u8 58, .int .i64 16, .int .i64 65535] 80)).cell? ⟨B + 1, 4, none⟩ = some (.int .i64 0) := by rw [RK.cell]; rfl
        have f4 : (wr.alloc (.cells #[Value.int .i64 16, .int .i64 2, .int .u8 58, .int .i64 16, .int .i64 65535] 80)).frozen? ⟨B + 1, 4, none⟩ = false := RK.frozen 4
        clear RK
        go_wp2_with (fail)
        (try simp only [Exit.inBlock, Exit.then])
        obtain ⟨h5, t5⟩ := five RKH.out (.int .i64 16) (.int .i64 2) (.int .u8 58) (.int .i64 16) (.int .i64 65535)
        refine bodyPost_ret (res_of h5 rfl) rfl ?_
        refine ⟨⟨_, _, _, _, _, by rw [show rightB b = true by simp [rightB, h16]]; rfl⟩, ?_⟩
        rw [HBE.out]
        exact below_then (below_then (below_then HBB.out hB1.out TR.out (fun _ _ h => h)) hB1.out TK.out (fun _ _ h => h)) hB1.out t5 (fun i hi h => by omega)
      · have h4' : (b.size : Int) ≠ 16 := by omega
        go_wp2_with (fail)
        go_light
        go_roundw
        case rel => exact ⟨.inr (.inr ⟨rfl, h4, h16⟩), (TRR.out.trans (Touch.alloc (fun _ => False) wr _) (fun _ _ h => h))⟩
        case measure => simp [intOf]
    · have hn : rightB b = false := by simp [rightB, h4, h16]
      have TK := Lib.hid (Touch.refl (fun _ => False) wr)
      have RK := HR.out
      have RKH := Lib.hid RK
      have c0 : wr.cell? ⟨B + 1, 0, none⟩ = some (.int .i64 0) := by rw [RK.cell]; rfl
      have f0 : wr.frozen? ⟨B + 1, 0, none⟩ = false := RK.frozen 0
      have c1 : wr.cell? ⟨B + 1, 1, none⟩ = some (.int .i64 0) := by rw [RK.cell]; rfl
      have f1 : wr.frozen? ⟨B + 1, 1, none⟩ = false := RK.frozen 1
      have c2 : wr.cell? ⟨B + 1, 2, none⟩ = some (.int .u8 0) := by rw [RK.cell]; rfl
      have f2 : wr.frozen? ⟨B + 1, 2, none⟩ = false := RK.frozen 2
      have c3 : wr.cell? ⟨B + 1, 3, none⟩ = some (.int .i64 0) := by rw [RK.cell]; rfl
      have f3 : wr.frozen? ⟨B + 1, 3, none⟩ = false := RK.frozen 3
      have c4 : wr.cell? ⟨B + 1, 4, none⟩ = some (.int .i64 0) := by rw [RK.cell]; rfl
      have f4 : wr.frozen? ⟨B + 1, 4, none⟩ = false := RK.frozen 4
      clear RK
      go_wp2_with (fail)
      (try simp only [Exit.inBlock, Exit.then])
      obtain ⟨h5, t5⟩ := five RKH.out (.int .i64 0) (.int .i64 0) (.int .u8 0) (.int .i64 0) (.int .i64 0)
      refine bodyPost_ret (res_of h5 rfl) rfl ?_
      refine ⟨⟨_, _, _, _, _, by rw [hn]; rfl⟩, ?_⟩
      rw [HBE.out]
      exact below_then (below_then (below_then HBB.out hB1.out TR.out (fun _ _ h => h)) hB1.out TK.out (fun _ _ h => h)) hB1.out t5 (fun i hi h => by omega)

theorem right_any (b : ByteArray) (hb : b.size ≤ maxLen) (w : World) : Calls Try.prog 59 #[.agg #[.string b]] w fun e w' => e = .returned (.bool (rightB b)) ∧ Below w.heap.size w w' := by
  have HO := Lib.hid (of_any b hb)
  generalize rightB b = rb at *
  have T := Lib.hid (Touch.alloc (fun _ => False) w (.cells #[Value.string b] 24))
  go_enter Try.func59, Try.ntmps59
  go_wp2_with (fail)
  refine (HO.out _).mono ?_
  rintro e w2 ⟨⟨x0, x1, x2, x3, x4, rfl⟩, hb2⟩
  have TB := Lib.hid (below_then T.out.toBelow (Nat.le_refl _) (Touch.none hb2) (fun _ _ h => h))
  clear hb2
  go_wp2_with (fail)
  go_ret
  exact ⟨rfl, below_then TB.out (Nat.le_refl _) (Touch.alloc (fun _ => False) w2 _) (fun _ _ h => h)⟩
end Go.Proofs.Ytolkimdfnlfpbaa
