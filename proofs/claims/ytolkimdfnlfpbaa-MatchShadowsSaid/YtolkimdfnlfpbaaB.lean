/- What cell.Bits and its reference answer. Conditions: the numbers fit their kinds. -/
import Derived.Test.YtolkimdfnlfpbaaA
import Derived.Deep.Light
set_option linter.unusedVariables false
set_option linter.unusedSimpArgs false
namespace Go.Proofs.Ytolkimdfnlfpbaa
open Go.RowKit

def bitsP (from_ size : Int) : Prop := 0 ≤ from_ ∧ 1 ≤ size ∧ from_ + size ≤ 64
instance (f s : Int) : Decidable (bitsP f s) := by unfold bitsP; infer_instance
def bitsN (n : Nat) (from_ size : Int) : Nat := if bitsP from_ size then n / 2 ^ from_.toNat % 2 ^ size.toNat else 0
theorem bitsN_yes {n : Nat} {f s : Int} (h : bitsP f s) : bitsN n f s = n / 2 ^ f.toNat % 2 ^ s.toNat := if_pos h
theorem bitsN_no {n : Nat} {f s : Int} (h : ¬ bitsP f s) : bitsN n f s = 0 := if_neg h

set_option maxRecDepth 100000 in
theorem bits_no (n : Nat) (f s : Int) (w : World) (h : ¬ bitsP f s) :
    Calls Try.prog 60 #[.int .u64 n, .int .i64 f, .int .i64 s] w fun e w' => e = .returned (.int .u64 0) ∧ w = w' := by
  unfold bitsP at h
  by_cases h1 : 0 ≤ f
  · by_cases h2 : f ≤ 64
    · by_cases h3 : 1 ≤ s
      · have h4 : 64 - f < s := by omega
        clear h
        go_enter Try.func60, Try.ntmps60
        go_wp2
        go_ret
        exact ⟨rfl, rfl⟩
      all_goals
        clear h
        go_enter Try.func60, Try.ntmps60
        go_wp2
        go_ret
        exact ⟨rfl, rfl⟩
    all_goals
      clear h
      go_enter Try.func60, Try.ntmps60
      go_wp2
      go_ret
      exact ⟨rfl, rfl⟩
  all_goals
    clear h
    go_enter Try.func60, Try.ntmps60
    go_wp2
    go_ret
    exact ⟨rfl, rfl⟩

theorem bits_math (n f s : Nat) (h : s ≤ 64) : IntKind.u64.wrap ((n : Int) / 2 ^ f * 2 ^ (64 - s)) / 2 ^ (64 - s) = ((n / 2 ^ f % 2 ^ s : Nat) : Int) := by
  have e1 : ((n : Int) / 2 ^ f * 2 ^ (64 - s)) = ((n / 2 ^ f * 2 ^ (64 - s) : Nat) : Int) := by simp
  have e2 : IntKind.u64.wrap ((n / 2 ^ f * 2 ^ (64 - s) : Nat) : Int) = ((n / 2 ^ f * 2 ^ (64 - s) % 2 ^ 64 : Nat) : Int) := by
    rw [IntKind.wrap_u64]; omega
  have e3 : (2 : Nat) ^ 64 = 2 ^ s * 2 ^ (64 - s) := by rw [← Nat.pow_add]; congr 1; omega
  rw [e1, e2, e3, Nat.mul_mod_mul_right]
  have : (2 : Int) ^ (64 - s) = ((2 ^ (64 - s) : Nat) : Int) := by simp
  rw [this, ← Int.natCast_ediv, Nat.mul_div_cancel _ (Nat.two_pow_pos _)]

set_option maxRecDepth 100000 in
theorem bits_yes (n : Nat) (f s : Nat) (w : World) (hn : n < 18446744073709551616) (h1 : 1 ≤ s) (h2 : f + s ≤ 64) :
    Calls Try.prog 60 #[.int .u64 n, .int .i64 f, .int .i64 s] w fun e w' => e = .returned (.int .u64 (n / 2 ^ f % 2 ^ s : Nat)) ∧ w = w' := by
  have h3 : (f : Int) ≤ 64 := by omega
  have h4 : (1 : Int) ≤ s := by omega
  have h5 : (s : Int) ≤ 64 - f := by omega
  have h6 : (0 : Int) ≤ 64 - s := by omega
  go_enter Try.func60, Try.ntmps60
  go_wp2
  go_ret
  exact ⟨ret_int (by rw [bits_math n f s (by omega)]), rfl⟩

theorem bits_any (n : Nat) (f s : Int) (w : World) (hn : n < 18446744073709551616) :
    Calls Try.prog 60 #[.int .u64 n, .int .i64 f, .int .i64 s] w fun e w' => e = .returned (.int .u64 (bitsN n f s)) ∧ w = w' := by
  by_cases h : bitsP f s
  · rw [bitsN_yes h]
    unfold bitsP at h
    obtain ⟨a, rfl⟩ := Int.eq_ofNat_of_zero_le (show 0 ≤ f by omega)
    obtain ⟨b, rfl⟩ := Int.eq_ofNat_of_zero_le (show 0 ≤ s by omega)
    exact bits_yes n a b w hn (by omega) (by omega)
  · rw [bitsN_no h]
    exact bits_no n f s w h

theorem div_step (n k : Nat) : n / 2 ^ k / 2 = n / 2 ^ (k + 1) := by rw [Nat.div_div_eq_div_mul, Nat.pow_succ]
theorem mod_step (n k : Nat) : n % 2 ^ k + 2 ^ k * (n / 2 ^ k % 2) = n % 2 ^ (k + 1) := by
  rw [Nat.pow_succ, Nat.mod_mul]
theorem pow_lt64 (k : Nat) (h : k < 64) : 2 ^ k ≤ 9223372036854775808 := by
  calc 2 ^ k ≤ 2 ^ 63 := Nat.pow_le_pow_right (by decide) (by omega)
    _ = 9223372036854775808 := by decide

theorem val_int {k : IntKind} {a b : Int} (h : a = b) : Value.int k a = Value.int k b := by rw [h]
theorem bits_round (o q d b : Nat) (hb : d % 2 = b) (h : o + q * b < 18446744073709551616) :
    IntKind.u64.wrap ((o : Int) + IntKind.u64.wrap ((q : Int) * ((d : Int) % 2))) = ((o + q * b : Nat) : Int) := by
  have h2 : (d : Int) % 2 = b := by omega
  have h3 : b = 0 ∨ b = 1 := by omega
  rw [h2]
  rcases h3 with rfl | rfl
  · simp only [IntKind.wrap_u64]; omega
  · simp only [IntKind.wrap_u64]; omega
set_option maxRecDepth 100000 in
theorem rbits_yes (n : Nat) (f s : Nat) (w : World) (hn : n < 18446744073709551616) (h1 : 1 ≤ s) (h2 : f + s ≤ 64) :
    Calls Try.prog 58 #[.int .u64 n, .int .i64 f, .int .i64 s] w fun e w' => e = .returned (.int .u64 (n / 2 ^ f % 2 ^ s : Nat)) ∧ w = w' := by
  have h3 : (f : Int) ≤ 64 := by omega
  have h4 : (1 : Int) ≤ s := by omega
  have h5 : (s : Int) ≤ 64 := by omega
  have h6 : (f : Int) + s ≤ 64 := by omega
  go_enter Try.func58, Try.ntmps58
  go_wp2
  go_loop [0, 7] (fun x i => ∃ k : Nat, k ≤ f ∧ i = .int .i64 k ∧ x = .int .u64 (n / 2 ^ k : Nat)) (fun _ i => f - (intOf i).toNat)
  case atStart => exact ⟨0, Nat.zero_le _, rfl, by simp⟩
  case round =>
    obtain ⟨k, hk, rfl, rfl⟩ := hrel
    have HD := Lib.hid (div_step n k)
    have hm : n / 2 ^ k < 18446744073709551616 := Nat.lt_of_le_of_lt (Nat.div_le_self _ _) hn
    generalize hmd : n / 2 ^ k = m at *
    have HM := Lib.hid hmd; clear hmd
    by_cases hlt : k < f
    · go_wp2
      go_round
      case rel => exact ⟨k + 1, by omega, by go_num, by rw [← HD.out]; go_num⟩
      case measure => simp [intOf]; omega
    · obtain rfl : k = f := by omega
      clear HD
      go_wp2
      go_loop [0, 8, 9, 10] (fun x o u i => ∃ j : Nat, j ≤ s ∧ i = .int .i64 j ∧ x = .int .u64 (m / 2 ^ j : Nat) ∧ o = .int .u64 (m % 2 ^ j : Nat) ∧ u = .int .u64 (2 ^ j % 18446744073709551616 : Nat)) (fun _ _ _ i => s - (intOf i).toNat)
      case atStart => exact ⟨0, Nat.zero_le _, rfl, by simp, by simp [Nat.mod_one], rfl⟩
      case round =>
        obtain ⟨j, hj, rfl, rfl, rfl, rfl⟩ := hrel
        have HD := Lib.hid (div_step m j)
        have HM2 := Lib.hid (mod_step m j)
        have hp : m / 2 ^ j < 18446744073709551616 := Nat.lt_of_le_of_lt (Nat.div_le_self _ _) hm
        have ho : m % 2 ^ j < 18446744073709551616 := Nat.lt_of_le_of_lt (Nat.mod_le _ _) hm
        by_cases hlt : j < s
        · have hpj := pow_lt64 j (by omega)
          have HU := Lib.hid (show 2 ^ (j + 1) % 18446744073709551616 = 2 * 2 ^ j % 18446744073709551616 by rw [Nat.pow_succ, Nat.mul_comm])
          rw [Nat.mod_eq_of_lt (show 2 ^ j < 18446744073709551616 by omega)]
          have hp2 : ∃ b : Nat, m / 2 ^ j % 2 = b ∧ (b = 0 ∨ b = 1) := ⟨_, rfl, by omega⟩
          obtain ⟨b, hb, hb01⟩ := hp2
          have HB := Lib.hid hb
          rw [hb] at HM2
          clear hb
          generalize m / 2 ^ j = d at *
          generalize m % 2 ^ j = o at *
          generalize 2 ^ j = q at *
          go_wp2
          go_light
          go_round
          case rel =>
            exact ⟨j + 1, by omega, by go_num, val_int (by rw [← HD.out]; omega),
              val_int (by rw [← HM2.out]; exact bits_round o q d b HB.out (by rw [HM2.out]; exact Nat.lt_of_le_of_lt (Nat.mod_le _ _) hm)),
              val_int (by rw [HU.out, IntKind.wrap_u64]; omega)⟩
          case measure => simp [intOf]; omega
        · obtain rfl : j = s := by omega
          go_wp2
          go_ret
          exact ⟨ret_int (by rw [← HM.out]; simp), rfl⟩

set_option maxRecDepth 100000 in
theorem rbits_no (n : Nat) (f s : Int) (w : World) (h : ¬ bitsP f s) (hf : -9223372036854775808 ≤ f ∧ f ≤ 9223372036854775807) (hs : -9223372036854775808 ≤ s ∧ s ≤ 9223372036854775807) :
    Calls Try.prog 58 #[.int .u64 n, .int .i64 f, .int .i64 s] w fun e w' => e = .returned (.int .u64 0) ∧ w = w' := by
  unfold bitsP at h
  by_cases h1 : 0 ≤ f
  · by_cases h3 : 1 ≤ s
    · by_cases h2 : f ≤ 64
      · by_cases h4 : s ≤ 64
        · have h5 : 64 < f + s := by omega
          clear h
          go_enter Try.func58, Try.ntmps58
          go_wp2
          go_ret
          exact ⟨rfl, rfl⟩
        all_goals
          clear h
          go_enter Try.func58, Try.ntmps58
          go_wp2
          go_ret
          exact ⟨rfl, rfl⟩
      all_goals
        clear h
        go_enter Try.func58, Try.ntmps58
        go_wp2
        go_ret
        exact ⟨rfl, rfl⟩
    all_goals
      clear h
      go_enter Try.func58, Try.ntmps58
      go_wp2
      go_ret
      exact ⟨rfl, rfl⟩
  all_goals
    clear h
    go_enter Try.func58, Try.ntmps58
    go_wp2
    go_ret
    exact ⟨rfl, rfl⟩

theorem rbits_any (n : Nat) (f s : Int) (w : World) (hn : n < 18446744073709551616) (hf : -9223372036854775808 ≤ f ∧ f ≤ 9223372036854775807) (hs : -9223372036854775808 ≤ s ∧ s ≤ 9223372036854775807) :
    Calls Try.prog 58 #[.int .u64 n, .int .i64 f, .int .i64 s] w fun e w' => e = .returned (.int .u64 (bitsN n f s)) ∧ w = w' := by
  by_cases h : bitsP f s
  · rw [bitsN_yes h]
    unfold bitsP at h
    obtain ⟨a, rfl⟩ := Int.eq_ofNat_of_zero_le (show 0 ≤ f by omega)
    obtain ⟨b, rfl⟩ := Int.eq_ofNat_of_zero_le (show 0 ≤ s by omega)
    exact rbits_yes n a b w hn (by omega) (by omega)
  · rw [bitsN_no h]
    exact rbits_no n f s w h hf hs
end Go.Proofs.Ytolkimdfnlfpbaa
