/- SatNil returns true: the walk. Conditions: the arguments fit their kinds. -/
import Derived.Test.YtofjmlnoljigfaaH
import Derived.Deep.Light
set_option linter.unusedVariables false
set_option linter.unusedSimpArgs false
namespace Go.Proofs.Ytofjmlnoljigfaa
open Go.RowKit

theorem add_nil (i n : Int) (w : World) : Calls Try.prog 10 #[.pointer none, .int .i64 i, .int .i64 n] w fun e w' => e = .returned (.int .i64 0) ∧ w = w' := by
  have HH := Lib.hid has_nil
  go_enter Try.func10, Try.ntmps10
  go_wp2_with (fail)
  refine (HH.out _ _).mono ?_
  rintro e w1 ⟨rfl, rfl⟩
  go_wp2_with (fail)
  go_ret
  exact ⟨rfl, rfl⟩
theorem add_zero {w : World} {b : Nat} {L : List Int} {size top : Int} (h : Sat w b L size top) (hs : size ≤ 0) (i n : Int) :
    Calls Try.prog 10 #[.pointer (some ⟨b, 0, none⟩), .int .i64 i, .int .i64 n] w fun e w' => e = .returned (.int .i64 0) ∧ w = w' := by
  have HH := Lib.hid (has_any h i)
  have hb := Lib.hid (hasB_no (size := size) (i := i) (by omega))
  clear h
  go_enter Try.func10, Try.ntmps10
  go_wp2_with (fail)
  refine HH.out.mono ?_
  rw [hb.out]
  rintro e w1 ⟨rfl, rfl⟩
  go_wp2_with (fail)
  go_ret
  exact ⟨rfl, rfl⟩
theorem at_nil (i : Int) (w : World) : Calls Try.prog 19 #[.pointer none, .int .i64 i] w fun e w' => e = .returned (.int .i64 0) ∧ w = w' := by
  have HH := Lib.hid has_nil
  go_enter Try.func19, Try.ntmps19
  go_wp2_with (fail)
  refine (HH.out _ _).mono ?_
  rintro e w1 ⟨rfl, rfl⟩
  go_wp2_with (fail)
  go_ret
  exact ⟨rfl, rfl⟩
theorem all_zero {w : World} {b : Nat} {L : List Int} {size top : Int} (h : Sat w b L size top) (hs : size ≤ 0) :
    Calls Try.prog 16 #[.pointer (some ⟨b, 0, none⟩)] w fun e w' => e = .returned (.slice none 0 0) ∧ w = w' := by
  have HH := Lib.hid (has_any h 0)
  have hb := Lib.hid (hasB_no (size := size) (i := 0) (by omega))
  clear h
  go_enter Try.func16, Try.ntmps16
  go_wp2_with (fail)
  refine wp_loop_once ?_
  go_wp2_with (fail)
  refine HH.out.mono ?_
  rw [hb.out]
  rintro e w1 ⟨rfl, rfl⟩
  go_wp2_with (fail)
  go_ret
  exact ⟨rfl, rfl⟩
theorem clear_zero {w : World} {b : Nat} {L : List Int} {size top : Int} (h : Sat w b L size top) (hs : size ≤ 0) :
    Calls Try.prog 13 #[.pointer (some ⟨b, 0, none⟩)] w fun e w' => e = .returned (.slice none 0 0) ∧ w = w' := by
  have HH := Lib.hid (has_any h 0)
  have hb := Lib.hid (hasB_no (size := size) (i := 0) (by omega))
  clear h
  go_enter Try.func13, Try.ntmps13
  go_wp2_with (fail)
  refine wp_loop_once ?_
  go_wp2_with (fail)
  refine HH.out.mono ?_
  rw [hb.out]
  rintro e w1 ⟨rfl, rfl⟩
  go_wp2_with (fail)
  go_ret
  exact ⟨rfl, rfl⟩

set_option maxRecDepth 100000 in
set_option maxHeartbeats 1000000 in
theorem satNil_walk (a0 : Int) (w0 : (Lit.int .i64 a0).wf = true) (a1 : Int) (w1 : (Lit.int .i64 a1).wf = true) (w : World) :
    Calls Try.prog 6 #[.int .i64 a0, .int .i64 a1] w fun e w' => e = .returned (.bool true) ∧ Below w.heap.size w w' := by
  clear w0 w1
  have hz := zero54
  have hzs := zrow_size
  have HZ := Lib.hid (show Sat (w.alloc (.cells zrow 54)) w.heap.size zeroL 0 0 from zeroSat w 0 0)
  have T0 := Touch.alloc (fun _ => False) w (.cells zrow 54)
  have hs0 : w.heap.size < (w.alloc (.cells zrow 54)).heap.size := by simp
  have TB0 := Lib.hid (T0.below (Nat.le_refl _) (fun _ _ h => h))
  clear T0
  generalize hBe : w.heap.size = B at *
  have hB1 := Lib.hid (show B ≤ w.heap.size by omega)
  go_enter Try.func6, Try.ntmps6
  go_wp2_with (fail)
  generalize w.alloc (.cells zrow 54) = wz at *
  clear hz hzs
  refine (new_yes 1 5 wz (by decide) (by decide) (by decide)).mono ?_
  rintro e w1 ⟨rfl, hw1⟩
  have T1 : Touch (fun _ => False) wz w1 := hw1 ▸ Touch.alloc (fun _ => False) wz _
  have RX := Lib.hid (show Sat w1 wz.heap.size zeroL 1 5 from hw1 ▸ zeroSat wz 1 5)
  have HZ1 := Lib.hid (HZ.out.keep T1 (fun x => x))
  have TB1 := Lib.hid (below_then TB0.out hB1.out T1 (fun _ _ x => x))
  clear hw1 T1 HZ TB0
  generalize wz.heap.size = x at *
  go_wp2_with (fail)
  refine (add_nil a0 a1 w1).mono ?_
  rintro e w2 ⟨rfl, rfl⟩
  go_wp2_with (fail)
  refine (add_zero HZ1.out (by decide) a0 a1).mono ?_
  rintro e w2 ⟨rfl, rfl⟩
  go_wp2_with (fail)
  refine (at_nil a0 w1).mono ?_
  rintro e w2 ⟨rfl, rfl⟩
  go_wp2_with (fail)
  refine (all_nil w1).mono ?_
  rintro e w2 ⟨rfl, rfl⟩
  go_wp2_with (fail)
  refine (all_zero HZ1.out (by decide)).mono ?_
  rintro e w2 ⟨rfl, rfl⟩
  go_wp2_with (fail)
  refine (sum_nil w1).mono ?_
  rintro e w2 ⟨rfl, rfl⟩
  go_wp2_with (fail)
  refine (clear_zero HZ1.out (by decide)).mono ?_
  rintro e w2 ⟨rfl, rfl⟩
  go_wp2_with (fail)
  refine (merge_from_nil _ w1).mono ?_
  rintro e w2 ⟨rfl, rfl⟩
  go_wp2_with (fail)
  refine (merge_zero RX.out (by decide) HZ1.out (by decide)).mono ?_
  rintro e w2 ⟨rfl, rfl⟩
  go_wp2_with (fail)
  refine (copy_nil w1).mono ?_
  rintro e w2 ⟨rfl, rfl⟩
  go_wp2_with (fail)
  refine (copy_zero HZ1.out (by decide)).mono ?_
  rintro e w2 ⟨rfl, rfl⟩
  go_wp2_with (fail)
  refine (known_any w1).mono ?_
  rintro e w2 ⟨rfl, hb⟩
  have TB2 := Lib.hid (below_then TB1.out hB1.out (Touch.of_below hb (fun _ => False)) (fun _ _ x => x))
  clear hb
  go_wp2_with (fail)
  go_ret
  exact ⟨rfl, TB2.out⟩
end Go.Proofs.Ytofjmlnoljigfaa
