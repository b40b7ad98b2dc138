/- What both Insides answer; right prefixes; small packets. Conditions: lengths fit. -/
import Derived.Test.YtolkimdfnlfpbaaG
import Derived.Deep.Light
set_option linter.unusedVariables false
set_option linter.unusedSimpArgs false
namespace Go.Proofs.Ytolkimdfnlfpbaa
open Go.RowKit

set_option maxRecDepth 100000 in
theorem inside_any (b : ByteArray) (n : Int) (a : ByteArray) (k : Int) (hb : b.size ≤ 100) (ha : a.size ≤ 100) (w : World) :
    Calls Try.prog 53 #[.agg #[.string b, .int .i64 n], .agg #[.string a, .int .i64 k]] w fun e w' => e = .returned (.bool (insideB b n a k)) ∧ Below w.heap.size w w' := by
  have HG := Lib.hid (fun w => good_any b n hb w)
  have HH := Lib.hid (fun w => has_any a k b ha hb w)
  have TT := Lib.hid (((Touch.alloc (fun _ => False) w (.cells #[(.string b : Value), .int .i64 n] 40)).trans (Touch.alloc (fun _ => False) _ (.cells #[(.string a : Value), .int .i64 k] 40)) (fun _ _ h => h)))
  have hsz : w.heap.size + 2 ≤ ((w.alloc (.cells #[(.string b : Value), .int .i64 n] 40)).alloc (.cells #[(.string a : Value), .int .i64 k] 40)).heap.size := by simp
  have c0_0 : ((w.alloc (.cells #[(.string b : Value), .int .i64 n] 40)).alloc (.cells #[(.string a : Value), .int .i64 k] 40)).cell? ⟨w.heap.size, 0, none⟩ = some (.string b) := by simp
  have c0_1 : ((w.alloc (.cells #[(.string b : Value), .int .i64 n] 40)).alloc (.cells #[(.string a : Value), .int .i64 k] 40)).cell? ⟨w.heap.size, 1, none⟩ = some (.int .i64 n) := by simp
  have c1_0 : ((w.alloc (.cells #[(.string b : Value), .int .i64 n] 40)).alloc (.cells #[(.string a : Value), .int .i64 k] 40)).cell? ⟨w.heap.size + 1, 0, none⟩ = some (.string a) := by simp
  have c1_1 : ((w.alloc (.cells #[(.string b : Value), .int .i64 n] 40)).alloc (.cells #[(.string a : Value), .int .i64 k] 40)).cell? ⟨w.heap.size + 1, 1, none⟩ = some (.int .i64 k) := by simp
  have TB := Lib.hid TT.out.toBelow
  unfold insideB
  generalize hasB a k b = hv at *
  by_cases hg : goodB b n = true
  · rw [hg] at HG ⊢
    by_cases hk : k ≤ n
    · rw [show decide (k ≤ n) = true from decide_eq_true hk, Bool.and_self, Bool.true_and]
      clear hg
      go_enter Try.func53, Try.ntmps53
      go_wp2_with (fail)
      generalize ((w.alloc (.cells #[(.string b : Value), .int .i64 n] 40)).alloc (.cells #[(.string a : Value), .int .i64 k] 40)) = w0 at *
      generalize hBe : w.heap.size = B at *
      have HBE := Lib.hid hBe
      have hB1 := Lib.hid (show B ≤ w.heap.size by omega)
      clear hBe
      refine (HG.out _).mono ?_
      rintro e w1 ⟨rfl, hbb⟩
      have tt : Touch (fun _ => False) w0 w1 := Touch.none hbb
      have c0_0 : w1.cell? ⟨B, 0, none⟩ = some (.string b) := by rw [← c0_0]; exact tt.cell (by omega) (fun h => h) 0
      have c0_1 : w1.cell? ⟨B, 1, none⟩ = some (.int .i64 n) := by rw [← c0_1]; exact tt.cell (by omega) (fun h => h) 1
      have c1_0 : w1.cell? ⟨B + 1, 0, none⟩ = some (.string a) := by rw [← c1_0]; exact tt.cell (by omega) (fun h => h) 0
      have c1_1 : w1.cell? ⟨B + 1, 1, none⟩ = some (.int .i64 k) := by rw [← c1_1]; exact tt.cell (by omega) (fun h => h) 1
      have hsz : B + 2 ≤ w1.heap.size := Nat.le_trans hsz tt.size
      have TB := Lib.hid (below_then TB.out hB1.out tt (fun _ _ h => h))
      clear tt hbb
      go_wp2_with (fail)
      refine (HH.out _).mono ?_
      rintro e w2 ⟨rfl, hbb⟩
      have tt : Touch (fun _ => False) w1 w2 := Touch.none hbb
      have c0_0 : w2.cell? ⟨B, 0, none⟩ = some (.string b) := by rw [← c0_0]; exact tt.cell (by omega) (fun h => h) 0
      have c0_1 : w2.cell? ⟨B, 1, none⟩ = some (.int .i64 n) := by rw [← c0_1]; exact tt.cell (by omega) (fun h => h) 1
      have c1_0 : w2.cell? ⟨B + 1, 0, none⟩ = some (.string a) := by rw [← c1_0]; exact tt.cell (by omega) (fun h => h) 0
      have c1_1 : w2.cell? ⟨B + 1, 1, none⟩ = some (.int .i64 k) := by rw [← c1_1]; exact tt.cell (by omega) (fun h => h) 1
      have hsz : B + 2 ≤ w2.heap.size := Nat.le_trans hsz tt.size
      have TB := Lib.hid (below_then TB.out hB1.out tt (fun _ _ h => h))
      clear tt hbb
      go_wp2_with (fail)
      go_ret
      exact ⟨rfl, HBE.out ▸ TB.out⟩
    · rw [show decide (k ≤ n) = false from decide_eq_false hk, Bool.and_false, Bool.false_and]
      clear hg
      go_enter Try.func53, Try.ntmps53
      go_wp2_with (fail)
      generalize ((w.alloc (.cells #[(.string b : Value), .int .i64 n] 40)).alloc (.cells #[(.string a : Value), .int .i64 k] 40)) = w0 at *
      generalize hBe : w.heap.size = B at *
      have HBE := Lib.hid hBe
      have hB1 := Lib.hid (show B ≤ w.heap.size by omega)
      clear hBe
      refine (HG.out _).mono ?_
      rintro e w1 ⟨rfl, hbb⟩
      have tt : Touch (fun _ => False) w0 w1 := Touch.none hbb
      have c0_0 : w1.cell? ⟨B, 0, none⟩ = some (.string b) := by rw [← c0_0]; exact tt.cell (by omega) (fun h => h) 0
      have c0_1 : w1.cell? ⟨B, 1, none⟩ = some (.int .i64 n) := by rw [← c0_1]; exact tt.cell (by omega) (fun h => h) 1
      have c1_0 : w1.cell? ⟨B + 1, 0, none⟩ = some (.string a) := by rw [← c1_0]; exact tt.cell (by omega) (fun h => h) 0
      have c1_1 : w1.cell? ⟨B + 1, 1, none⟩ = some (.int .i64 k) := by rw [← c1_1]; exact tt.cell (by omega) (fun h => h) 1
      have hsz : B + 2 ≤ w1.heap.size := Nat.le_trans hsz tt.size
      have TB := Lib.hid (below_then TB.out hB1.out tt (fun _ _ h => h))
      clear tt hbb
      go_wp2_with (fail)
      go_ret
      exact ⟨rfl, HBE.out ▸ TB.out⟩
  · have hg' : goodB b n = false := by simpa using hg
    rw [hg'] at HG ⊢
    rw [Bool.false_and, Bool.false_and]
    clear hg hg'
    go_enter Try.func53, Try.ntmps53
    go_wp2_with (fail)
    generalize ((w.alloc (.cells #[(.string b : Value), .int .i64 n] 40)).alloc (.cells #[(.string a : Value), .int .i64 k] 40)) = w0 at *
    generalize hBe : w.heap.size = B at *
    have HBE := Lib.hid hBe
    have hB1 := Lib.hid (show B ≤ w.heap.size by omega)
    clear hBe
    refine (HG.out _).mono ?_
    rintro e w1 ⟨rfl, hbb⟩
    have tt : Touch (fun _ => False) w0 w1 := Touch.none hbb
    have c0_0 : w1.cell? ⟨B, 0, none⟩ = some (.string b) := by rw [← c0_0]; exact tt.cell (by omega) (fun h => h) 0
    have c0_1 : w1.cell? ⟨B, 1, none⟩ = some (.int .i64 n) := by rw [← c0_1]; exact tt.cell (by omega) (fun h => h) 1
    have c1_0 : w1.cell? ⟨B + 1, 0, none⟩ = some (.string a) := by rw [← c1_0]; exact tt.cell (by omega) (fun h => h) 0
    have c1_1 : w1.cell? ⟨B + 1, 1, none⟩ = some (.int .i64 k) := by rw [← c1_1]; exact tt.cell (by omega) (fun h => h) 1
    have hsz : B + 2 ≤ w1.heap.size := Nat.le_trans hsz tt.size
    have TB := Lib.hid (below_then TB.out hB1.out tt (fun _ _ h => h))
    clear tt hbb
    go_wp2_with (fail)
    go_ret
    exact ⟨rfl, HBE.out ▸ TB.out⟩

theorem hasB_bad {a : ByteArray} {k : Int} {b : ByteArray} (h : goodB a k = false) : hasB a k b = false := by unfold hasB; rw [h]; rfl
set_option maxRecDepth 100000 in
theorem rinside_any (b : ByteArray) (n : Int) (a : ByteArray) (k : Int) (hb : b.size ≤ 100) (ha : a.size ≤ 100) (w : World) :
    Calls Try.prog 55 #[.agg #[.string b, .int .i64 n], .agg #[.string a, .int .i64 k]] w fun e w' => e = .returned (.bool (insideB b n a k)) ∧ Below w.heap.size w w' := by
  have HG := Lib.hid (fun w => rgood_any b n hb w)
  have HGA := Lib.hid (fun w => rgood_any a k ha w)
  have HH := Lib.hid (fun w => rhas_any a k b ha hb w)
  have TT := Lib.hid (((Touch.alloc (fun _ => False) w (.cells #[(.string b : Value), .int .i64 n] 40)).trans (Touch.alloc (fun _ => False) _ (.cells #[(.string a : Value), .int .i64 k] 40)) (fun _ _ h => h)))
  have hsz : w.heap.size + 2 ≤ ((w.alloc (.cells #[(.string b : Value), .int .i64 n] 40)).alloc (.cells #[(.string a : Value), .int .i64 k] 40)).heap.size := by simp
  have c0_0 : ((w.alloc (.cells #[(.string b : Value), .int .i64 n] 40)).alloc (.cells #[(.string a : Value), .int .i64 k] 40)).cell? ⟨w.heap.size, 0, none⟩ = some (.string b) := by simp
  have c0_1 : ((w.alloc (.cells #[(.string b : Value), .int .i64 n] 40)).alloc (.cells #[(.string a : Value), .int .i64 k] 40)).cell? ⟨w.heap.size, 1, none⟩ = some (.int .i64 n) := by simp
  have c1_0 : ((w.alloc (.cells #[(.string b : Value), .int .i64 n] 40)).alloc (.cells #[(.string a : Value), .int .i64 k] 40)).cell? ⟨w.heap.size + 1, 0, none⟩ = some (.string a) := by simp
  have c1_1 : ((w.alloc (.cells #[(.string b : Value), .int .i64 n] 40)).alloc (.cells #[(.string a : Value), .int .i64 k] 40)).cell? ⟨w.heap.size + 1, 1, none⟩ = some (.int .i64 k) := by simp
  have TB := Lib.hid TT.out.toBelow
  unfold insideB
  by_cases hg : goodB b n = true
  · rw [hg] at HG ⊢
    by_cases hga : goodB a k = true
    · rw [hga] at HGA
      generalize hasB a k b = hv at *
      by_cases hk : k ≤ n
      · rw [show decide (k ≤ n) = true from decide_eq_true hk, Bool.and_self, Bool.true_and]
        clear hg hga
        go_enter Try.func55, Try.ntmps55
        go_wp2_with (fail)
        generalize ((w.alloc (.cells #[(.string b : Value), .int .i64 n] 40)).alloc (.cells #[(.string a : Value), .int .i64 k] 40)) = w0 at *
        generalize hBe : w.heap.size = B at *
        have HBE := Lib.hid hBe
        have hB1 := Lib.hid (show B ≤ w.heap.size by omega)
        clear hBe
        refine (HG.out _).mono ?_
        rintro e w1 ⟨rfl, hbb⟩
        have tt : Touch (fun _ => False) w0 w1 := Touch.none hbb
        have c0_0 : w1.cell? ⟨B, 0, none⟩ = some (.string b) := by rw [← c0_0]; exact tt.cell (by omega) (fun h => h) 0
        have c0_1 : w1.cell? ⟨B, 1, none⟩ = some (.int .i64 n) := by rw [← c0_1]; exact tt.cell (by omega) (fun h => h) 1
        have c1_0 : w1.cell? ⟨B + 1, 0, none⟩ = some (.string a) := by rw [← c1_0]; exact tt.cell (by omega) (fun h => h) 0
        have c1_1 : w1.cell? ⟨B + 1, 1, none⟩ = some (.int .i64 k) := by rw [← c1_1]; exact tt.cell (by omega) (fun h => h) 1
        have hsz : B + 2 ≤ w1.heap.size := Nat.le_trans hsz tt.size
        have TB := Lib.hid (below_then TB.out hB1.out tt (fun _ _ h => h))
        clear tt hbb
        go_wp2_with (fail)
        refine (HGA.out _).mono ?_
        rintro e w2 ⟨rfl, hbb⟩
        have tt : Touch (fun _ => False) w1 w2 := Touch.none hbb
        have c0_0 : w2.cell? ⟨B, 0, none⟩ = some (.string b) := by rw [← c0_0]; exact tt.cell (by omega) (fun h => h) 0
        have c0_1 : w2.cell? ⟨B, 1, none⟩ = some (.int .i64 n) := by rw [← c0_1]; exact tt.cell (by omega) (fun h => h) 1
        have c1_0 : w2.cell? ⟨B + 1, 0, none⟩ = some (.string a) := by rw [← c1_0]; exact tt.cell (by omega) (fun h => h) 0
        have c1_1 : w2.cell? ⟨B + 1, 1, none⟩ = some (.int .i64 k) := by rw [← c1_1]; exact tt.cell (by omega) (fun h => h) 1
        have hsz : B + 2 ≤ w2.heap.size := Nat.le_trans hsz tt.size
        have TB := Lib.hid (below_then TB.out hB1.out tt (fun _ _ h => h))
        clear tt hbb
        go_wp2_with (fail)
        refine (HH.out _).mono ?_
        rintro e w3 ⟨rfl, hbb⟩
        have tt : Touch (fun _ => False) w2 w3 := Touch.none hbb
        have c0_0 : w3.cell? ⟨B, 0, none⟩ = some (.string b) := by rw [← c0_0]; exact tt.cell (by omega) (fun h => h) 0
        have c0_1 : w3.cell? ⟨B, 1, none⟩ = some (.int .i64 n) := by rw [← c0_1]; exact tt.cell (by omega) (fun h => h) 1
        have c1_0 : w3.cell? ⟨B + 1, 0, none⟩ = some (.string a) := by rw [← c1_0]; exact tt.cell (by omega) (fun h => h) 0
        have c1_1 : w3.cell? ⟨B + 1, 1, none⟩ = some (.int .i64 k) := by rw [← c1_1]; exact tt.cell (by omega) (fun h => h) 1
        have hsz : B + 2 ≤ w3.heap.size := Nat.le_trans hsz tt.size
        have TB := Lib.hid (below_then TB.out hB1.out tt (fun _ _ h => h))
        clear tt hbb
        go_wp2_with (fail)
        go_ret
        exact ⟨rfl, HBE.out ▸ TB.out⟩
      · rw [show decide (k ≤ n) = false from decide_eq_false hk, Bool.and_false, Bool.false_and]
        clear hg hga
        go_enter Try.func55, Try.ntmps55
        go_wp2_with (fail)
        generalize ((w.alloc (.cells #[(.string b : Value), .int .i64 n] 40)).alloc (.cells #[(.string a : Value), .int .i64 k] 40)) = w0 at *
        generalize hBe : w.heap.size = B at *
        have HBE := Lib.hid hBe
        have hB1 := Lib.hid (show B ≤ w.heap.size by omega)
        clear hBe
        refine (HG.out _).mono ?_
        rintro e w1 ⟨rfl, hbb⟩
        have tt : Touch (fun _ => False) w0 w1 := Touch.none hbb
        have c0_0 : w1.cell? ⟨B, 0, none⟩ = some (.string b) := by rw [← c0_0]; exact tt.cell (by omega) (fun h => h) 0
        have c0_1 : w1.cell? ⟨B, 1, none⟩ = some (.int .i64 n) := by rw [← c0_1]; exact tt.cell (by omega) (fun h => h) 1
        have c1_0 : w1.cell? ⟨B + 1, 0, none⟩ = some (.string a) := by rw [← c1_0]; exact tt.cell (by omega) (fun h => h) 0
        have c1_1 : w1.cell? ⟨B + 1, 1, none⟩ = some (.int .i64 k) := by rw [← c1_1]; exact tt.cell (by omega) (fun h => h) 1
        have hsz : B + 2 ≤ w1.heap.size := Nat.le_trans hsz tt.size
        have TB := Lib.hid (below_then TB.out hB1.out tt (fun _ _ h => h))
        clear tt hbb
        go_wp2_with (fail)
        refine (HGA.out _).mono ?_
        rintro e w2 ⟨rfl, hbb⟩
        have tt : Touch (fun _ => False) w1 w2 := Touch.none hbb
        have c0_0 : w2.cell? ⟨B, 0, none⟩ = some (.string b) := by rw [← c0_0]; exact tt.cell (by omega) (fun h => h) 0
        have c0_1 : w2.cell? ⟨B, 1, none⟩ = some (.int .i64 n) := by rw [← c0_1]; exact tt.cell (by omega) (fun h => h) 1
        have c1_0 : w2.cell? ⟨B + 1, 0, none⟩ = some (.string a) := by rw [← c1_0]; exact tt.cell (by omega) (fun h => h) 0
        have c1_1 : w2.cell? ⟨B + 1, 1, none⟩ = some (.int .i64 k) := by rw [← c1_1]; exact tt.cell (by omega) (fun h => h) 1
        have hsz : B + 2 ≤ w2.heap.size := Nat.le_trans hsz tt.size
        have TB := Lib.hid (below_then TB.out hB1.out tt (fun _ _ h => h))
        clear tt hbb
        go_wp2_with (fail)
        go_ret
        exact ⟨rfl, HBE.out ▸ TB.out⟩
    · have hga' : goodB a k = false := by simpa using hga
      rw [hga'] at HGA
      rw [hasB_bad hga', Bool.and_false]
      clear hg hga hga' HH
      go_enter Try.func55, Try.ntmps55
      go_wp2_with (fail)
      generalize ((w.alloc (.cells #[(.string b : Value), .int .i64 n] 40)).alloc (.cells #[(.string a : Value), .int .i64 k] 40)) = w0 at *
      generalize hBe : w.heap.size = B at *
      have HBE := Lib.hid hBe
      have hB1 := Lib.hid (show B ≤ w.heap.size by omega)
      clear hBe
      refine (HG.out _).mono ?_
      rintro e w1 ⟨rfl, hbb⟩
      have tt : Touch (fun _ => False) w0 w1 := Touch.none hbb
      have c0_0 : w1.cell? ⟨B, 0, none⟩ = some (.string b) := by rw [← c0_0]; exact tt.cell (by omega) (fun h => h) 0
      have c0_1 : w1.cell? ⟨B, 1, none⟩ = some (.int .i64 n) := by rw [← c0_1]; exact tt.cell (by omega) (fun h => h) 1
      have c1_0 : w1.cell? ⟨B + 1, 0, none⟩ = some (.string a) := by rw [← c1_0]; exact tt.cell (by omega) (fun h => h) 0
      have c1_1 : w1.cell? ⟨B + 1, 1, none⟩ = some (.int .i64 k) := by rw [← c1_1]; exact tt.cell (by omega) (fun h => h) 1
      have hsz : B + 2 ≤ w1.heap.size := Nat.le_trans hsz tt.size
      have TB := Lib.hid (below_then TB.out hB1.out tt (fun _ _ h => h))
      clear tt hbb
      go_wp2_with (fail)
      refine (HGA.out _).mono ?_
      rintro e w2 ⟨rfl, hbb⟩
      have tt : Touch (fun _ => False) w1 w2 := Touch.none hbb
      have c0_0 : w2.cell? ⟨B, 0, none⟩ = some (.string b) := by rw [← c0_0]; exact tt.cell (by omega) (fun h => h) 0
      have c0_1 : w2.cell? ⟨B, 1, none⟩ = some (.int .i64 n) := by rw [← c0_1]; exact tt.cell (by omega) (fun h => h) 1
      have c1_0 : w2.cell? ⟨B + 1, 0, none⟩ = some (.string a) := by rw [← c1_0]; exact tt.cell (by omega) (fun h => h) 0
      have c1_1 : w2.cell? ⟨B + 1, 1, none⟩ = some (.int .i64 k) := by rw [← c1_1]; exact tt.cell (by omega) (fun h => h) 1
      have hsz : B + 2 ≤ w2.heap.size := Nat.le_trans hsz tt.size
      have TB := Lib.hid (below_then TB.out hB1.out tt (fun _ _ h => h))
      clear tt hbb
      go_wp2_with (fail)
      go_ret
      exact ⟨rfl, HBE.out ▸ TB.out⟩
  · have hg' : goodB b n = false := by simpa using hg
    rw [hg'] at HG ⊢
    rw [Bool.false_and, Bool.false_and]
    clear hg hg'
    go_enter Try.func55, Try.ntmps55
    go_wp2_with (fail)
    generalize ((w.alloc (.cells #[(.string b : Value), .int .i64 n] 40)).alloc (.cells #[(.string a : Value), .int .i64 k] 40)) = w0 at *
    generalize hBe : w.heap.size = B at *
    have HBE := Lib.hid hBe
    have hB1 := Lib.hid (show B ≤ w.heap.size by omega)
    clear hBe
    refine (HG.out _).mono ?_
    rintro e w1 ⟨rfl, hbb⟩
    have tt : Touch (fun _ => False) w0 w1 := Touch.none hbb
    have c0_0 : w1.cell? ⟨B, 0, none⟩ = some (.string b) := by rw [← c0_0]; exact tt.cell (by omega) (fun h => h) 0
    have c0_1 : w1.cell? ⟨B, 1, none⟩ = some (.int .i64 n) := by rw [← c0_1]; exact tt.cell (by omega) (fun h => h) 1
    have c1_0 : w1.cell? ⟨B + 1, 0, none⟩ = some (.string a) := by rw [← c1_0]; exact tt.cell (by omega) (fun h => h) 0
    have c1_1 : w1.cell? ⟨B + 1, 1, none⟩ = some (.int .i64 k) := by rw [← c1_1]; exact tt.cell (by omega) (fun h => h) 1
    have hsz : B + 2 ≤ w1.heap.size := Nat.le_trans hsz tt.size
    have TB := Lib.hid (below_then TB.out hB1.out tt (fun _ _ h => h))
    clear tt hbb
    go_wp2_with (fail)
    go_ret
    exact ⟨rfl, HBE.out ▸ TB.out⟩

def prefB (b : ByteArray) (n : Int) : Bool := wideB b n || goodB b n
theorem pref_any (b : ByteArray) (n : Int) (hb : b.size ≤ 100) (w : World) :
    Calls Try.prog 43 #[.agg #[.string b, .int .i64 n]] w fun e w' => e = .returned (.bool (prefB b n)) ∧ Below w.heap.size w w' := by
  have HG := Lib.hid (fun w => rgood_any b n hb w)
  have TT := Lib.hid ((Touch.alloc (fun _ => False) w (.cells #[(.string b : Value), .int .i64 n] 40)))
  have hsz : w.heap.size + 1 ≤ (w.alloc (.cells #[(.string b : Value), .int .i64 n] 40)).heap.size := by simp
  have c0_0 : (w.alloc (.cells #[(.string b : Value), .int .i64 n] 40)).cell? ⟨w.heap.size, 0, none⟩ = some (.string b) := by simp
  have c0_1 : (w.alloc (.cells #[(.string b : Value), .int .i64 n] 40)).cell? ⟨w.heap.size, 1, none⟩ = some (.int .i64 n) := by simp
  have TB := Lib.hid TT.out.toBelow
  unfold prefB
  by_cases h1 : b.toList = []
  · by_cases h2 : n = 0
    · rw [show wideB b n = true by simp [wideB, h1, h2], Bool.true_or]
      subst h2
      go_enter Try.func43, Try.ntmps43
      go_wp2_with (fail)
      generalize (w.alloc (.cells #[(.string b : Value), .int .i64 0] 40)) = w0 at *
      generalize hBe : w.heap.size = B at *
      have HBE := Lib.hid hBe
      have hB1 := Lib.hid (show B ≤ w.heap.size by omega)
      clear hBe
      go_ret
      exact ⟨rfl, HBE.out ▸ TB.out⟩
    · rw [show wideB b n = false by simp [wideB, h2], Bool.false_or]
      go_enter Try.func43, Try.ntmps43
      go_wp2_with (fail)
      generalize (w.alloc (.cells #[(.string b : Value), .int .i64 n] 40)) = w0 at *
      generalize hBe : w.heap.size = B at *
      have HBE := Lib.hid hBe
      have hB1 := Lib.hid (show B ≤ w.heap.size by omega)
      clear hBe
      refine (HG.out _).mono ?_
      rintro e w1 ⟨rfl, hbb⟩
      have tt : Touch (fun _ => False) w0 w1 := Touch.none hbb
      have c0_0 : w1.cell? ⟨B, 0, none⟩ = some (.string b) := by rw [← c0_0]; exact tt.cell (by omega) (fun h => h) 0
      have c0_1 : w1.cell? ⟨B, 1, none⟩ = some (.int .i64 n) := by rw [← c0_1]; exact tt.cell (by omega) (fun h => h) 1
      have hsz : B + 1 ≤ w1.heap.size := Nat.le_trans hsz tt.size
      have TB := Lib.hid (below_then TB.out hB1.out tt (fun _ _ h => h))
      clear tt hbb
      go_wp2_with (fail)
      go_ret
      exact ⟨rfl, HBE.out ▸ TB.out⟩
  · rw [show wideB b n = false by simp [wideB, h1], Bool.false_or]
    go_enter Try.func43, Try.ntmps43
    go_wp2_with (fail)
    generalize (w.alloc (.cells #[(.string b : Value), .int .i64 n] 40)) = w0 at *
    generalize hBe : w.heap.size = B at *
    have HBE := Lib.hid hBe
    have hB1 := Lib.hid (show B ≤ w.heap.size by omega)
    clear hBe
    refine (HG.out _).mono ?_
    rintro e w1 ⟨rfl, hbb⟩
    have tt : Touch (fun _ => False) w0 w1 := Touch.none hbb
    have c0_0 : w1.cell? ⟨B, 0, none⟩ = some (.string b) := by rw [← c0_0]; exact tt.cell (by omega) (fun h => h) 0
    have c0_1 : w1.cell? ⟨B, 1, none⟩ = some (.int .i64 n) := by rw [← c0_1]; exact tt.cell (by omega) (fun h => h) 1
    have hsz : B + 1 ≤ w1.heap.size := Nat.le_trans hsz tt.size
    have TB := Lib.hid (below_then TB.out hB1.out tt (fun _ _ h => h))
    clear tt hbb
    go_wp2_with (fail)
    go_ret
    exact ⟨rfl, HBE.out ▸ TB.out⟩
end Go.Proofs.Ytolkimdfnlfpbaa
