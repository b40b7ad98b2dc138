/- SatMany returns true: the walk. Conditions: the arguments fit their kinds. -/
import Derived.Test.YtofjmlnoljigfaaLawNil
import Derived.Test.YtofjmlnoljigfaaFlat
import Derived.Deep.Light
set_option linter.unusedVariables false
set_option linter.unusedSimpArgs false
namespace Go.Proofs.Ytofjmlnoljigfaa
open Go.RowKit

theorem many_step {L : List Int} {top acc x : Int} (ok : SatOk L 1 top) (h : atV L 1 0 = min acc top) (h0 : 0 ≤ acc) (hx : 0 ≤ x) : atV (addL L 1 top 0 x) 1 0 = min (acc + x) top := by
  have e : ∀ M : List Int, atV M 1 0 = M.getD 0 0 := fun M => by unfold atV; rw [if_pos (by decide)]; rfl
  rw [e] at *
  have hl := ok.len
  have ht := ok.t1
  unfold addL
  by_cases hp : 0 < x
  · rw [if_pos ⟨by decide, by decide, hp⟩, getD_set, if_pos ⟨rfl, by simp [hl]⟩]
    rw [show (Int.toNat 0) = 0 from rfl, h]
    unfold moreI
    split <;> omega
  · rw [if_neg (by omega), h]
    omega
theorem many_sum {L : List Int} {top acc : Int} (ok : SatOk L 1 top) (h : atV L 1 0 = min acc top) : sumL top (allL L 1) = min acc top := by
  have e : ∀ M : List Int, atV M 1 0 = M.getD 0 0 := fun M => by unfold atV; rw [if_pos (by decide)]; rfl
  have hl := ok.len
  have hc := ok.c 0
  rw [e] at h
  have : allL L 1 = [L.getD 0 0] := by
    unfold allL
    match L, hl with
    | x :: r, _ => rfl
  rw [this, h]
  rw [h] at hc
  unfold sumL moreI
  simp only [List.foldl_cons, List.foldl_nil]
  split <;> omega

/-- A byte of a slice that came in. -/
theorem byte_of {w : World} {a : Option Addr} {len : Nat} (h : RowIn Try.prog w 5 1 a len) (i : Nat) (hi : i < len) :
    ∃ b off n, a = some ⟨b, off, none⟩ ∧ b < w.heap.size ∧ 0 ≤ n ∧ n ≤ 255 ∧ w.cell? ⟨b, off + i, none⟩ = some (.int .u8 n) := by
  obtain ⟨b, off, ha, hb, hc⟩ := h i hi
  obtain ⟨v, hv, hok⟩ := hc 0 5 (by decide +kernel)
  unfold leafOk at hok
  rw [Try.underlying5] at hok
  obtain ⟨n, rfl, hw⟩ := hok
  have h0 := bounds_u8 hw
  refine ⟨b, off, n, ha, hb, by omega, by omega, ?_⟩
  rw [← hv, Nat.mul_one, Nat.add_zero]

set_option maxRecDepth 100000 in
set_option maxHeartbeats 1000000 in
theorem satMany_walk (a0 : Int) (w0 : (Lit.int .u16 a0).wf = true) (a1 : Option Addr) (len cap : Nat) (w : World) (w1 : RowIn Try.prog w 5 1 a1 len ∧ len ≤ cap ∧ cap ≤ maxLen) :
    Calls Try.prog 7 #[.int .u16 a0, .slice a1 len cap] w fun e w' => e = .returned (.bool true) ∧ Below w.heap.size w w' := by
  obtain ⟨w1, hlc, hcm⟩ := w1
  have hr : 0 ≤ a0 ∧ a0 ≤ 65535 := by
    have := bounds_u16 w0
    omega
  obtain ⟨h0, h1⟩ := hr
  have HW := Lib.hid w1
  clear w0 w1
  have hw1 : IntKind.i64.wrap a0 = a0 := IntWalk.i64_in _ (by omega)
  have hw2 : IntKind.i64.wrap (1 + a0) = 1 + a0 := IntWalk.i64_in _ (by omega)
  have HN := Lib.hid (new_yes 1 (1 + a0) w (by decide) (by decide) (by omega))
  have HOK := Lib.hid (zeroL_ok (size := 1) (top := 1 + a0) (by decide) (by decide) (by omega) (by omega))
  have T0 := Touch.alloc (fun _ => False) w (.cells (satCells zeroL 1 (1 + a0)).toArray 54)
  have R0 := Lib.hid (zeroSat w 1 (1 + a0))
  have hsz : w.heap.size < (w.alloc (.cells (satCells zeroL 1 (1 + a0)).toArray 54)).heap.size := by simp
  generalize w.alloc (.cells (satCells zeroL 1 (1 + a0)).toArray 54) = wa at *
  have TB0 := Lib.hid (T0.below (Nat.le_refl _) (fun _ _ h => h))
  clear T0
  generalize hBe : w.heap.size = B at *
  have hB1 := Lib.hid (show B ≤ w.heap.size by omega)
  by_cases hl : len ≤ 200
  · have hl' : (len : Int) ≤ 200 := by omega
    go_enter Try.func7, Try.ntmps7
    go_wp2_with (fail)
    refine HN.out.mono ?_
    rintro e w2 ⟨rfl, rfl⟩
    go_wp2_with (fail)
    go_loopw [8, 9] (fun x i wr => ∃ (k : Nat) (acc : Int) (L : List Int), k ≤ len ∧ i = .int .i64 k ∧ x = .int .i64 acc ∧ 0 ≤ acc ∧ acc ≤ 255 * k ∧ Sat wr B L 1 (1 + a0) ∧ SatOk L 1 (1 + a0) ∧ atV L 1 0 = min acc (1 + a0) ∧ Below B w wr) (fun _ i _ => len - (intOf i).toNat)
    case atStart => exact ⟨0, 0, zeroL, Nat.zero_le _, rfl, rfl, Int.le_refl _, by omega, R0.out, HOK.out, by rw [show atV zeroL 1 0 = 0 by decide +kernel]; omega, TB0.out⟩
    case round =>
      obtain ⟨k, acc, L, hk, rfl, rfl, hacc, hacc2, hS, hO, hA, hT⟩ := hrel
      have RS := Lib.hid hS
      have RO := Lib.hid hO
      have RT := Lib.hid hT
      have RA := Lib.hid hA
      clear hS hO hA hT
      by_cases hlt : k < len
      · obtain ⟨b, off, n, ha, hb, hn0, hn1, hc⟩ := byte_of HW.out k hlt
        subst ha
        have hc2 : wr.cell? ⟨b, off + k, none⟩ = some (.int .u8 n) := by
          rw [← hc]
          exact World.cell?_of_block (w := w) (RT.out.block b (by omega))
        have hki : (k : Int) < len := by omega
        have hw3 : IntKind.i64.wrap n = n := IntWalk.i64_in _ (by omega)
        have hw4 : IntKind.i64.wrap (acc + n) = acc + n := IntWalk.i64_in _ (by omega)
        have hstep := Lib.hid (many_step RO.out RA.out hacc hn0)
        clear hc
        go_wp2_with (fail)
        refine (add_any RS.out RO.out 0 n (by omega)).mono ?_
        rw [hstep.out]
        rintro e w3 ⟨rfl, hS, ht⟩
        have RS2 := Lib.hid hS
        have RT2 := Lib.hid (below_then RT.out hB1.out ht (fun i hi h => by omega))
        clear hS ht
        go_wp2_with (fail)
        go_light
        go_roundw
        case rel => exact ⟨k + 1, acc + n, _, by omega, by go_num, rfl, by omega, by omega, RS2.out, addL_ok RO.out _ _, hstep.out, RT2.out⟩
        case measure => simp [intOf]; omega
      · obtain rfl : k = len := by omega
        have hsum := Lib.hid (many_sum RO.out RA.out)
        by_cases hmin : acc ≤ 1 + a0
        · have hm : min acc (1 + a0) = acc := by omega
          go_wp2_with (fail)
          refine (at_any RS.out (by decide) 0).mono ?_
          rw [RA.out, hm]
          rintro e w3 ⟨rfl, rfl⟩
          go_wp2_with (fail)
          refine (sum_any RS.out RO.out).mono ?_
          rw [hsum.out, hm]
          rintro e w3 ⟨rfl, hb⟩
          have RT2 := Lib.hid (below_then RT.out hB1.out (Touch.of_below hb (fun _ => False)) (fun _ _ x => x))
          clear hb
          go_wp2_with (fail)
          refine (known_any _).mono ?_
          rintro e w4 ⟨rfl, hb⟩
          have RT3 := Lib.hid (below_then RT2.out hB1.out (Touch.of_below hb (fun _ => False)) (fun _ _ x => x))
          clear hb
          go_wp2_with (fail)
          go_ret
          exact ⟨rfl, RT3.out⟩
        · have hm : min acc (1 + a0) = 1 + a0 := by omega
          have hmin' : 1 + a0 < acc := by omega
          go_wp2_with (fail)
          refine (at_any RS.out (by decide) 0).mono ?_
          rw [RA.out, hm]
          rintro e w3 ⟨rfl, rfl⟩
          go_wp2_with (fail)
          refine (sum_any RS.out RO.out).mono ?_
          rw [hsum.out, hm]
          rintro e w3 ⟨rfl, hb⟩
          have RT2 := Lib.hid (below_then RT.out hB1.out (Touch.of_below hb (fun _ => False)) (fun _ _ x => x))
          clear hb
          go_wp2_with (fail)
          refine (known_any _).mono ?_
          rintro e w4 ⟨rfl, hb⟩
          have RT3 := Lib.hid (below_then RT2.out hB1.out (Touch.of_below hb (fun _ => False)) (fun _ _ x => x))
          clear hb
          go_wp2_with (fail)
          go_ret
          exact ⟨rfl, RT3.out⟩
  · have hl' : (200 : Int) < len := by omega
    go_enter Try.func7, Try.ntmps7
    go_wp2_with (fail)
    refine HN.out.mono ?_
    rintro e w2 ⟨rfl, rfl⟩
    go_wp2_with (fail)
    refine (known_any _).mono ?_
    rintro e w2 ⟨rfl, hb⟩
    have TB2 := Lib.hid (below_then TB0.out hB1.out (Touch.of_below hb (fun _ => False)) (fun _ _ x => x))
    clear hb
    go_wp2_with (fail)
    go_ret
    exact ⟨rfl, TB2.out⟩
end Go.Proofs.Ytofjmlnoljigfaa
