/- What addr.Good answers. Conditions: lengths fit. -/
import Derived.Test.YtolkimdfnlfpbaaD
import Derived.Deep.Light
set_option linter.unusedVariables false
set_option linter.unusedSimpArgs false
namespace Go.Proofs.Ytolkimdfnlfpbaa
open Go.RowKit

theorem low_zero (x f : Nat) : x % 2 ^ f = 0 ↔ ∀ t, t < f → x / 2 ^ t % 2 = 0 := by
  constructor
  · intro h t ht
    have : (x % 2 ^ f).testBit t = false := by rw [h]; simp
    rw [Nat.testBit_mod_two_pow] at this
    simp only [ht, decide_true, Bool.true_and] at this
    rw [Nat.testBit_eq_decide_div_mod_eq] at this
    have := of_decide_eq_false this
    omega
  · intro h
    apply Nat.eq_of_testBit_eq
    intro t
    rw [Nat.testBit_mod_two_pow, Nat.zero_testBit]
    by_cases ht : t < f
    · have := h t ht
      rw [Nat.testBit_eq_decide_div_mod_eq, show decide (x / 2 ^ t % 2 = 1) = false from decide_eq_false (by omega)]
      simp
    · simp [ht]
theorem byte_zero (b : ByteArray) (k f : Nat) (hf : f ≤ 8) (hk : k < b.size) : (b[k]'hk).toNat % 2 ^ f = 0 ↔ ∀ j, 8 * (k + 1) - f ≤ j → j < 8 * (k + 1) → bitAt b j = 0 := by
  rw [low_zero]
  have hx : b.data.toList.getD k 0 = b[k]'hk := by
    rw [List.getD_eq_getElem?_getD, List.getElem?_eq_getElem (by simpa using hk)]; rfl
  constructor
  · intro h j h1 h2
    unfold bitAt
    rw [show j / 8 = k by omega, hx]
    exact h (7 - j % 8) (by omega)
  · intro h t ht
    have := h (8 * k + 7 - t) (by omega) (by omega)
    unfold bitAt at this
    rw [show (8 * k + 7 - t) / 8 = k by omega, hx, show 7 - (8 * k + 7 - t) % 8 = t by omega] at this
    exact this

set_option maxRecDepth 100000 in
set_option maxHeartbeats 1000000 in
theorem good_any (b : ByteArray) (n : Int) (hb : b.size ≤ 100) (w : World) :
    Calls Try.prog 56 #[.agg #[.string b, .int .i64 n]] w fun e w' => e = .returned (.bool (goodB b n)) ∧ Below w.heap.size w w' := by
  have hw8 : IntKind.i64.wrap (8 * (b.size : Int)) = 8 * (b.size : Int) := IntWalk.i64_in _ (by omega)
  have HR := Lib.hid (fun w => right_any b (by unfold maxLen; omega) w)
  have T0 := Lib.hid (Touch.alloc (fun _ => False) w (.cells #[Value.string b, .int .i64 n] 40))
  have c0 : (w.alloc (.cells #[Value.string b, .int .i64 n] 40)).cell? ⟨w.heap.size, 0, none⟩ = some (.string b) := by simp
  have c1 : (w.alloc (.cells #[Value.string b, .int .i64 n] 40)).cell? ⟨w.heap.size, 1, none⟩ = some (.int .i64 n) := by simp
  have hs : w.heap.size < (w.alloc (.cells #[Value.string b, .int .i64 n] 40)).heap.size := by simp
  have TB := Lib.hid T0.out.toBelow
  by_cases hrb : rightB b = true
  · by_cases h0 : 0 ≤ n
    · by_cases h1 : n ≤ 8 * (b.size : Int)
      · obtain ⟨m, rfl⟩ := Int.eq_ofNat_of_zero_le h0
        have h1' : m ≤ 8 * b.size := by omega
        rw [goodB_in hrb h1']
        rw [hrb] at HR
        have HCl := Lib.hid (fun k => (clearB_iff b m k))
        go_enter Try.func56, Try.ntmps56
        go_wp2_with (fail)
        generalize w.alloc (.cells #[Value.string b, .int .i64 m] 40) = w1 at *
        generalize hBe : w.heap.size = B at *
        have HBE := Lib.hid hBe
        have hB1 := Lib.hid (show B ≤ w.heap.size by omega)
        clear hBe
        refine (HR.out _).mono ?_
        rintro e w2 ⟨rfl, hb2⟩
        have T2 := Lib.hid (Touch.none hb2)
        have d0 : w2.cell? ⟨B, 0, none⟩ = some (.string b) := by rw [← c0]; exact T2.out.cell hs (fun h => h) 0
        have d1 : w2.cell? ⟨B, 1, none⟩ = some (.int .i64 m) := by rw [← c1]; exact T2.out.cell hs (fun h => h) 1
        have hs2 : B < w2.heap.size := Nat.lt_of_lt_of_le hs T2.out.size
        have TB2 := Lib.hid (below_then TB.out hB1.out T2.out (fun _ _ h => h))
        clear hb2 c0 c1 hs
        go_wp2_with (fail)
        go_loopw [28] (fun i wr => ∃ k : Nat, k ≤ b.size ∧ i = .int .i64 k ∧ (∀ j, m ≤ j → j < 8 * k → bitAt b j = 0) ∧ wr = w2) (fun i _ => b.size - (intOf i).toNat)
        case atStart => exact ⟨0, Nat.zero_le _, rfl, fun j h1 h2 => by omega, rfl⟩
        case round =>
          obtain ⟨k, hk, rfl, hz, rfl⟩ := hrel
          have HZ := Lib.hid hz
          clear hz
          by_cases hlt : k < b.size
          · have hki : (k : Int) < (b.size : Int) := by omega
            have hw1 : IntKind.i64.wrap ((k : Int) + 1) = (k : Int) + 1 := IntWalk.i64_in _ (by omega)
            have hw2 : IntKind.i64.wrap (8 * ((k : Int) + 1)) = 8 * ((k : Int) + 1) := IntWalk.i64_in _ (by omega)
            have hw3 : IntKind.i64.wrap (8 * ((k : Int) + 1) - m) = 8 * ((k : Int) + 1) - m := IntWalk.i64_in _ (by omega)
            have hbyte : (b[k]'hlt).toNat < 18446744073709551616 := by have := (b[k]'hlt).toNat_lt; omega
            by_cases ha : 8 * (k + 1) ≤ m
            · have ht : 8 * ((k : Int) + 1) - m ≤ 0 := by omega
              have ht8 : 8 * ((k : Int) + 1) - m ≤ 8 := by omega
              go_wp2_with (fail)
              refine ⟨⟨k + 1, by omega, by go_num, fun j h1 h2 => by omega, trivial⟩, by simp [intOf]; omega⟩
            · by_cases hb8 : m ≤ 8 * k
              · have ht8 : 8 ≤ 8 * ((k : Int) + 1) - m := by omega
                have HB := Lib.hid (fun w => bits_any (b[k]'hlt).toNat 0 8 w hbyte)
                have hbv : bitsN (b[k]'hlt).toNat 0 8 = (b[k]'hlt).toNat % 2 ^ 8 := by
                  rw [bitsN_yes (by unfold bitsP; omega), show (8 : Int).toNat = 8 by omega, show Int.toNat 0 = 0 from rfl, Nat.pow_zero, Nat.div_one]
                have hbz := byte_zero b k 8 (by omega) hlt
                rw [← hbv] at hbz
                generalize bitsN (b[k]'hlt).toNat 0 8 = v at *
                clear hbv
                by_cases hv : v = 0
                · have hv' : (v : Int) = 0 := by omega
                  have HBZ := Lib.hid (hbz.1 hv)
                  clear hbz
                  go_wp2_with (fail)
                  refine (HB.out _).mono ?_
                  rintro e w4 ⟨rfl, rfl⟩
                  go_wp2_with (fail)
                  go_light
                  go_roundw
                  case rel => exact ⟨k + 1, by omega, by go_num, fun j h1 h2 => by
                    by_cases e : j < 8 * k
                    · exact HZ.out j h1 e
                    · exact HBZ.out j (by omega) h2, trivial⟩
                  case measure => simp [intOf]; omega
                · have hv' : (v : Int) ≠ 0 := by omega
                  have hc : clearB b m (8 * b.size) = false := by
                    rw [Bool.eq_false_iff]
                    intro h
                    have := (HCl.out (8 * b.size)).1 h
                    exact hv (hbz.2 fun j h1 h2 => this j (by omega) (by omega))
                  have HC2 := Lib.hid hc
                  clear hbz hc
                  go_wp2_with (fail)
                  refine (HB.out _).mono ?_
                  rintro e w4 ⟨rfl, rfl⟩
                  go_wp2_with (fail)
                  go_ret
                  exact ⟨ret_bool HC2.out.symm, HBE.out ▸ TB2.out⟩
              · have ht8 : 8 * ((k : Int) + 1) - m ≤ 8 := by omega
                have ht0 : 0 ≤ 8 * ((k : Int) + 1) - m := by omega
                have ht1 : 0 < 8 * ((k : Int) + 1) - m := by omega
                have HB := Lib.hid (fun w => bits_any (b[k]'hlt).toNat 0 (8 * ((k : Int) + 1) - m) w hbyte)
                have hbv : bitsN (b[k]'hlt).toNat 0 (8 * ((k : Int) + 1) - m) = (b[k]'hlt).toNat % 2 ^ (8 * (k + 1) - m) := by
                  rw [bitsN_yes (by unfold bitsP; omega), show (8 * ((k : Int) + 1) - m : Int).toNat = 8 * (k + 1) - m by omega, show Int.toNat 0 = 0 from rfl, Nat.pow_zero, Nat.div_one]
                have hbz := byte_zero b k (8 * (k + 1) - m) (by omega) hlt
                rw [← hbv] at hbz
                generalize bitsN (b[k]'hlt).toNat 0 (8 * ((k : Int) + 1) - m) = v at *
                clear hbv
                by_cases hv : v = 0
                · have hv' : (v : Int) = 0 := by omega
                  have HBZ := Lib.hid (hbz.1 hv)
                  clear hbz
                  go_wp2_with (fail)
                  refine (HB.out _).mono ?_
                  rintro e w4 ⟨rfl, rfl⟩
                  go_wp2_with (fail)
                  go_light
                  go_roundw
                  case rel => exact ⟨k + 1, by omega, by go_num, fun j h1 h2 => by
                    by_cases e : j < 8 * k
                    · exact HZ.out j h1 e
                    · exact HBZ.out j (by omega) h2, trivial⟩
                  case measure => simp [intOf]; omega
                · have hv' : (v : Int) ≠ 0 := by omega
                  have hc : clearB b m (8 * b.size) = false := by
                    rw [Bool.eq_false_iff]
                    intro h
                    have := (HCl.out (8 * b.size)).1 h
                    exact hv (hbz.2 fun j h1 h2 => this j (by omega) (by omega))
                  have HC2 := Lib.hid hc
                  clear hbz hc
                  go_wp2_with (fail)
                  refine (HB.out _).mono ?_
                  rintro e w4 ⟨rfl, rfl⟩
                  go_wp2_with (fail)
                  go_ret
                  exact ⟨ret_bool HC2.out.symm, HBE.out ▸ TB2.out⟩
          · obtain rfl : k = b.size := by omega
            have hc : clearB b m (8 * b.size) = true := (HCl.out (8 * b.size)).2 HZ.out
            go_wp2_with (fail)
            go_ret
            exact ⟨ret_bool hc.symm, HBE.out ▸ TB2.out⟩
      · have hg := goodB_no (b := b) (n := n) (.inr (.inr (by omega)))
        have h1' : 8 * (b.size : Int) < n := by omega
        rw [hg]
        rw [hrb] at HR
        clear hg hrb
        go_enter Try.func56, Try.ntmps56
        go_wp2_with (fail)
        generalize w.alloc (.cells #[Value.string b, .int .i64 n] 40) = w1 at *
        generalize hBe : w.heap.size = B at *
        have HBE := Lib.hid hBe
        have hB1 := Lib.hid (show B ≤ w.heap.size by omega)
        clear hBe
        refine (HR.out _).mono ?_
        rintro e w2 ⟨rfl, hb2⟩
        have T2 := Lib.hid (Touch.none hb2)
        have d0 : w2.cell? ⟨B, 0, none⟩ = some (.string b) := by rw [← c0]; exact T2.out.cell hs (fun h => h) 0
        have d1 : w2.cell? ⟨B, 1, none⟩ = some (.int .i64 n) := by rw [← c1]; exact T2.out.cell hs (fun h => h) 1
        have TB2 := Lib.hid (below_then TB.out hB1.out T2.out (fun _ _ h => h))
        clear hb2 c0 c1 hs
        go_wp2_with (fail)
        go_ret
        exact ⟨rfl, HBE.out ▸ TB2.out⟩
    · have hg := goodB_no (b := b) (n := n) (.inr (.inl (by omega)))
      have h0' : n < 0 := by omega
      rw [hg]
      rw [hrb] at HR
      clear hg hrb
      go_enter Try.func56, Try.ntmps56
      go_wp2_with (fail)
      generalize w.alloc (.cells #[Value.string b, .int .i64 n] 40) = w1 at *
      generalize hBe : w.heap.size = B at *
      have HBE := Lib.hid hBe
      have hB1 := Lib.hid (show B ≤ w.heap.size by omega)
      clear hBe
      refine (HR.out _).mono ?_
      rintro e w2 ⟨rfl, hb2⟩
      have T2 := Lib.hid (Touch.none hb2)
      have d0 : w2.cell? ⟨B, 0, none⟩ = some (.string b) := by rw [← c0]; exact T2.out.cell hs (fun h => h) 0
      have d1 : w2.cell? ⟨B, 1, none⟩ = some (.int .i64 n) := by rw [← c1]; exact T2.out.cell hs (fun h => h) 1
      have TB2 := Lib.hid (below_then TB.out hB1.out T2.out (fun _ _ h => h))
      clear hb2 c0 c1 hs
      go_wp2_with (fail)
      go_ret
      exact ⟨rfl, HBE.out ▸ TB2.out⟩
  · have hrb' : rightB b = false := by simpa using hrb
    have hg := goodB_no (b := b) (n := n) (.inl hrb')
    rw [hg]
    rw [hrb'] at HR
    clear hg hrb hrb'
    go_enter Try.func56, Try.ntmps56
    go_wp2_with (fail)
    generalize w.alloc (.cells #[Value.string b, .int .i64 n] 40) = w1 at *
    generalize hBe : w.heap.size = B at *
    have HBE := Lib.hid hBe
    have hB1 := Lib.hid (show B ≤ w.heap.size by omega)
    clear hBe
    refine (HR.out _).mono ?_
    rintro e w2 ⟨rfl, hb2⟩
    have T2 := Lib.hid (Touch.none hb2)
    have d0 : w2.cell? ⟨B, 0, none⟩ = some (.string b) := by rw [← c0]; exact T2.out.cell hs (fun h => h) 0
    have d1 : w2.cell? ⟨B, 1, none⟩ = some (.int .i64 n) := by rw [← c1]; exact T2.out.cell hs (fun h => h) 1
    have TB2 := Lib.hid (below_then TB.out hB1.out T2.out (fun _ _ h => h))
    clear hb2 c0 c1 hs
    go_wp2_with (fail)
    go_ret
    exact ⟨rfl, HBE.out ▸ TB2.out⟩
end Go.Proofs.Ytolkimdfnlfpbaa
