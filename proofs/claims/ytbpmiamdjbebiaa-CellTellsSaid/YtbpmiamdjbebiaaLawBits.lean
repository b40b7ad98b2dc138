/- CellBits returns true: the walk. Conditions: the arguments fit their kinds. -/
import Derived.Test.YtbpmiamdjbebiaaK
import Derived.OpenShut
set_option linter.unusedVariables false
set_option linter.unusedSimpArgs false
namespace Go.Proofs.Ytbpmiamdjbebiaa
open Go.RowKit

theorem u64_nat {a : Int} (h : (Lit.int .u64 a).wf = true) : ∃ n : Nat, a = n ∧ n < 18446744073709551616 := by
  have := bounds_u64 h
  exact ⟨a.toNat, by omega, by omega⟩
theorem u8_nat {a : Int} (h : (Lit.int .u8 a).wf = true) : ∃ n : Nat, a = n ∧ n < 256 := by
  have := bounds_u8 h
  exact ⟨a.toNat, by omega, by omega⟩

theorem bits_join (n k : Nat) (hn : n < 18446744073709551616) (hk : k ≤ 63) :
    IntKind.u64.wrap (IntKind.u64.wrap ((n : Int) / 2 ^ k % 2 ^ (64 - k) * 2 ^ k) + (n : Int) % 2 ^ k) = n := by
  have hd : n / 2 ^ k < 2 ^ (64 - k) := by
    rw [Nat.div_lt_iff_lt_mul (Nat.two_pow_pos _), ← Nat.pow_add, show 64 - k + k = 64 by omega]
    exact hn
  have e1 : ((n : Int) / 2 ^ k % 2 ^ (64 - k) * 2 ^ k) = ((n / 2 ^ k * 2 ^ k : Nat) : Int) := by
    have : ((n / 2 ^ k % 2 ^ (64 - k) * 2 ^ k : Nat) : Int) = ((n : Int) / 2 ^ k % 2 ^ (64 - k) * 2 ^ k) := by simp
    rw [← this, Nat.mod_eq_of_lt hd]
  have e2 : ((n : Int) % 2 ^ k) = ((n % 2 ^ k : Nat) : Int) := by simp
  have h := Nat.div_add_mod n (2 ^ k)
  rw [Nat.mul_comm] at h
  rw [e1, e2]
  generalize n / 2 ^ k * 2 ^ k = a at *
  generalize n % 2 ^ k = b at *
  simp only [IntKind.wrap_u64]
  omega
theorem bits_cut (n k : Nat) : (n : Int) % 2 ^ k / 2 ^ k = 0 := by
  have e2 : ((n : Int) % 2 ^ k / 2 ^ k) = ((n % 2 ^ k / 2 ^ k : Nat) : Int) := by
    rw [Int.natCast_ediv, Int.natCast_emod, Int.natCast_pow]; rfl
  rw [e2, Nat.div_eq_of_lt (Nat.mod_lt _ (Nat.two_pow_pos _))]
  rfl

set_option maxRecDepth 100000 in
theorem cellBits_walk (a0 : Int) (w0 : (Lit.int .u64 a0).wf = true) (a1 : Int) (w1 : (Lit.int .u8 a1).wf = true) (w : World) :
    Calls Try.prog 6 #[.int .u64 a0, .int .u8 a1] w fun e w' => e = .returned (.bool true) ∧ Below w.heap.size w w' := by
  obtain ⟨n, rfl, hn⟩ := u64_nat w0
  obtain ⟨m, rfl, hm⟩ := u8_nat w1
  clear w0 w1
  obtain ⟨k, hk⟩ : ∃ k : Nat, k = 1 + m % 63 := ⟨_, rfl⟩
  have hk1 : 1 ≤ k := by omega
  have hk2 : k ≤ 63 := by omega
  have hkm : 1 + (m : Int) % 63 = (k : Int) := by omega
  have hK := Lib.hid hk
  clear hk
  have g1 := fun w => bits_any n 0 k w hn
  have g2 := fun w => bits_any n k (64 - k) w hn
  have g3 := fun w => bits_any n 0 64 w hn
  have g4 := fun w => bits_any n k (65 - k) w hn
  rw [bitsN_yes (show bitsP 0 k by unfold bitsP; omega), show (0 : Int).toNat = 0 from rfl, Int.toNat_natCast, show n / 2 ^ 0 = n by simp] at g1
  rw [bitsN_yes (show bitsP k (64 - k) by unfold bitsP; omega), show ((64 : Int) - k).toNat = 64 - k by omega, Int.toNat_natCast] at g2
  rw [bitsN_yes (show bitsP 0 64 by unfold bitsP; omega), show n / 2 ^ (0 : Int).toNat % 2 ^ (64 : Int).toNat = n by simp; omega] at g3
  rw [bitsN_no (show ¬ bitsP k (65 - k) by unfold bitsP; omega)] at g4
  have G1 := Lib.hid g1
  have G2 := Lib.hid g2
  have G3 := Lib.hid g3
  have G4 := Lib.hid g4
  have G5 := Lib.hid known_any
  clear g1 g2 g3 g4
  go_enter Try.func6, Try.ntmps6
  go_wp2_with (fail)

  refine (G1.out _).mono ?_
  rintro e w' ⟨rfl, rfl⟩
  go_wp2_with (fail)

  refine (G2.out _).mono ?_
  rintro e w' ⟨rfl, rfl⟩
  have t1 := bits_join n k hn hk2
  have t2 := bits_cut n k
  go_wp2_with (fail)
  refine (G3.out _).mono ?_
  rintro e w' ⟨rfl, rfl⟩
  go_wp2_with (fail)
  refine (G4.out _).mono ?_
  rintro e w' ⟨rfl, rfl⟩
  go_wp2_with (fail)
  refine (G5.out _).mono ?_
  rintro e w' ⟨rfl, hb⟩
  go_wp2_with (fail)
  go_ret
  exact ⟨rfl, hb⟩
end Go.Proofs.Ytbpmiamdjbebiaa
