/- CellSets returns true: the walk. Conditions: the arguments fit their kinds. -/
import Derived.Test.YtbpmiamdjbebiaaLawBits
set_option linter.unusedVariables false
set_option linter.unusedSimpArgs false
namespace Go.Proofs.Ytbpmiamdjbebiaa
open Go.RowKit

theorem beN_append (l1 l2 : List UInt8) : beN (l1 ++ l2) = beN l1 * 256 ^ l2.length + beN l2 := by
  induction l2 using snoc_ind with
  | h0 => simp [beN]
  | h1 l b ih =>
    rw [← List.append_assoc, beN_snoc, ih, beN_snoc, List.length_append]
    simp only [List.length_cons, List.length_nil, Nat.pow_succ]
    rw [Nat.mul_add, ← Nat.mul_assoc, Nat.mul_comm 256 (beN l1), Nat.mul_assoc, Nat.mul_comm 256 (256 ^ l.length)]
    simp only [Nat.pow_zero, Nat.mul_one, Nat.add_assoc, Nat.zero_add, Nat.one_mul]
/-- Set, in lists. -/
def setL (l : List UInt8) (a k n : Nat) : List UInt8 := l.take a ++ be n k ++ l.drop (a + k)
theorem setS_list (l : List UInt8) (a k n : Nat) (h1 : 1 ≤ k) (h2 : k ≤ 8) (h : a + k ≤ l.length) : setS ⟨l.toArray⟩ a k n = ⟨(setL l a k n).toArray⟩ := by
  rw [setS_yes (show thereP (ByteArray.mk l.toArray).size a k by unfold thereP; simp [ByteArray.size]; omega), putL_yes (by omega)]
  rw [show (ByteArray.mk l.toArray).size = l.length from by simp [ByteArray.size]]
  rw [Int.toNat_natCast, Int.toNat_natCast, show ((a : Int) + k).toNat = a + k by omega, ByteArray.extract_mk, ByteArray.extract_mk, ByteArray.mk_append_mk, ByteArray.mk_append_mk]
  unfold setL
  rw [List.drop_zero, Nat.sub_zero, List.take_of_length_le (l := l.drop (a + k)) (by simp)]
theorem setL_len (l : List UInt8) (a k n : Nat) (h : a + k ≤ l.length) : (setL l a k n).length = l.length := by
  simp [setL, be_length]; omega
theorem getN_list (l : List UInt8) (a k : Nat) (h1 : 1 ≤ k) (h2 : k ≤ 8) (h : a + k ≤ l.length) : getN ⟨l.toArray⟩ a k = beN ((l.drop a).take k) := by
  unfold getN
  rw [if_pos (show thereP (ByteArray.mk l.toArray).size a k by unfold thereP; simp [ByteArray.size]; omega)]
  rfl
theorem there_list (l : List UInt8) (a k : Nat) (h1 : 1 ≤ k) (h2 : k ≤ 8) (h : a + k ≤ l.length) : thereB (ByteArray.mk l.toArray).size a k = true :=
  thereB_yes (by unfold thereP; simp [ByteArray.size]; omega)
theorem sets_eq (l : List UInt8) (m n : Nat) (h : 8 ≤ l.length) : setL (setL l 0 4 m) 4 4 n = be m 4 ++ be n 4 ++ l.drop 8 ∧ setL (setL l 4 4 n) 0 4 m = be m 4 ++ be n 4 ++ l.drop 8 := by
  constructor
  · unfold setL
    simp [be_length, List.take_append, List.drop_append]
  · unfold setL
    have e : (l.take 4).length = 4 := by simp; omega
    simp [be_length, List.take_append, List.drop_append, e]
theorem sets_get (l : List UInt8) (m n : Nat) : beN (((be m 4 ++ be n 4 ++ l).drop 0).take 8) = m % 4294967296 * 4294967296 + n % 4294967296 := by
  have : (((be m 4 ++ be n 4 ++ l).drop 0).take 8) = be m 4 ++ be n 4 := by
    rw [List.drop_zero, List.take_append_of_le_length (by simp [be_length]), List.take_of_length_le (by simp [be_length])]
  rw [this, beN_append, beN_be, beN_be, be_length]

theorem sets_join (m n : Nat) : (m : Int) % 4294967296 * 4294967296 + (n : Int) % 4294967296 =
    Go.bits .or .u64 (IntKind.u64.wrap ((m : Int) * 4294967296)) (Go.bits .and .u64 (n : Int) 4294967295) := by
  have e0 : Go.bits .and .u64 (n : Int) 4294967295 = ((n % 4294967296 : Nat) : Int) := by
    have h1 : (BitVec.ofInt 64 (n : Int)).toNat = n % 18446744073709551616 := by
      rw [BitVec.ofInt_natCast, BitVec.toNat_ofNat]
    have h2 : (BitVec.ofInt 64 (4294967295 : Int)).toNat = 4294967295 := rfl
    show IntKind.u64.wrap ((BitVec.ofInt 64 (n : Int) &&& BitVec.ofInt 64 (4294967295 : Int)).toNat : Int) = _
    have h3 : (n % 18446744073709551616) &&& 4294967295 = (n % 18446744073709551616) % 4294967296 := Nat.and_two_pow_sub_one_eq_mod _ 32
    rw [BitVec.toNat_and, h1, h2, h3, IntKind.wrap_u64]
    omega
  have e1 : IntKind.u64.wrap ((m : Int) * 4294967296) = ((m % 4294967296 * 4294967296 : Nat) : Int) := by
    rw [IntKind.wrap_u64]; omega
  have e2 := bits_or_u64_nat (m % 4294967296 * 4294967296) (n % 4294967296) (by omega) (by omega)
  have e3 : m % 4294967296 * 4294967296 ||| n % 4294967296 = m % 4294967296 * 4294967296 + n % 4294967296 := by
    have := Nat.shiftLeft_add_eq_or_of_lt (i := 32) (b := n % 4294967296) (by omega) (m % 4294967296)
    rw [Nat.shiftLeft_eq, show (2 : Nat) ^ 32 = 4294967296 from rfl] at this
    exact this.symm
  rw [e0, e1, e2, e3]
  omega
set_option maxRecDepth 100000 in
theorem cellSets_walk (a0 : ByteArray) (w0 : a0.size ≤ maxLen) (a1 : Int) (w1 : (Lit.int .u64 a1).wf = true) (a2 : Int) (w2 : (Lit.int .u64 a2).wf = true) (w : World) :
    Calls Try.prog 7 #[.string a0, .int .u64 a1, .int .u64 a2] w fun e w' => e = .returned (.bool true) ∧ Below w.heap.size w w' := by
  obtain ⟨m, rfl, hm⟩ := u64_nat w1
  obtain ⟨n, rfl, hn⟩ := u64_nat w2
  clear w1 w2
  unfold maxLen at w0
  have GK := Lib.hid known_any
  obtain ⟨⟨l⟩⟩ := a0
  have hsz : (ByteArray.mk l.toArray).size = l.length := by simp [ByteArray.size]
  rw [hsz] at w0
  by_cases hlo : 8 ≤ l.length
  · by_cases hhi : l.length ≤ 500
    · have e := sets_eq l m n hlo
      have L0 : (setL l 0 4 m).length = l.length := setL_len _ _ _ _ (by omega)
      have L1 : (setL l 4 4 n).length = l.length := setL_len _ _ _ _ (by omega)
      have g1 := fun w => set_any ⟨l.toArray⟩ (0 : Nat) (4 : Nat) m w (by rw [hsz]; omega) hm
      have g2 := fun w => set_any ⟨(setL l 0 4 m).toArray⟩ (4 : Nat) (4 : Nat) n w (by simp [ByteArray.size, L0]; omega) hn
      have g3 := fun w => set_any ⟨l.toArray⟩ (4 : Nat) (4 : Nat) n w (by rw [hsz]; omega) hn
      have g4 := fun w => set_any ⟨(setL l 4 4 n).toArray⟩ (0 : Nat) (4 : Nat) m w (by simp [ByteArray.size, L1]; omega) hm
      have g5 := fun w => get_any ⟨(be m 4 ++ be n 4 ++ l.drop 8).toArray⟩ (0 : Nat) (8 : Nat) w (by simp [ByteArray.size, be_length, maxLen]; omega)
      rw [setS_list _ _ _ _ (by omega) (by omega) (by omega), there_list _ _ _ (by omega) (by omega) (by omega)] at g1
      rw [setS_list _ _ _ _ (by omega) (by omega) (by omega), there_list _ _ _ (by omega) (by omega) (by omega), e.1] at g2
      rw [setS_list _ _ _ _ (by omega) (by omega) (by omega), there_list _ _ _ (by omega) (by omega) (by omega)] at g3
      rw [setS_list _ _ _ _ (by omega) (by omega) (by omega), there_list _ _ _ (by omega) (by omega) (by omega), e.2] at g4
      have h8 : 0 + 8 ≤ (be m 4 ++ be n 4 ++ l.drop 8).length := by simp [be_length]; omega
      rw [getN_list _ _ _ (by omega) (by omega) h8, there_list _ _ _ (by omega) (by omega) h8, sets_get] at g5
      clear h8
      simp only [Int.cast_ofNat_Int, Int.natCast_zero] at g1 g2 g3 g4 g5
      have LB : (be m 4 ++ be n 4 ++ l.drop 8).length = l.length := by simp [be_length]; omega
      generalize setL l 0 4 m = s1 at *
      generalize setL l 4 4 n = s2 at *
      generalize be m 4 ++ be n 4 ++ l.drop 8 = s3 at *
      have G1 := Lib.hid g1
      have G2 := Lib.hid g2
      have G3 := Lib.hid g3
      have G4 := Lib.hid g4
      have G5 := Lib.hid g5
      clear g1 g2 g3 g4 g5 L0 L1 e hsz
      go_enter Try.func7, Try.ntmps7
      go_wp2_with (fail)
      refine (G1.out _).mono ?_
      rintro e w1 ⟨rfl, b⟩
      have B1 := Lib.hid b; clear b
      go_wp2_with (fail)
      refine (G2.out _).mono ?_
      rintro e w2 ⟨rfl, b⟩
      have B2 := Lib.hid (B1.out.trans (b.mono B1.out.size)); clear b B1
      go_wp2_with (fail)
      refine (G3.out _).mono ?_
      rintro e w3 ⟨rfl, b⟩
      have B3 := Lib.hid (B2.out.trans (b.mono B2.out.size)); clear b B2
      go_wp2_with (fail)
      refine (G4.out _).mono ?_
      rintro e w4 ⟨rfl, b⟩
      have B4 := Lib.hid (B3.out.trans (b.mono B3.out.size)); clear b B3
      go_wp2_with (fail)
      refine (G5.out _).mono ?_
      rintro e w5 ⟨rfl, rfl⟩
      have ht := sets_join m n
      go_wp2_with (fail)
      refine (GK.out _).mono ?_
      rintro e w8 ⟨rfl, b⟩
      have B5 := Lib.hid (B4.out.trans (b.mono B4.out.size)); clear b B4
      go_wp2_with (fail)
      go_ret
      exact ⟨rfl, B5.out⟩
    · have h2 : ¬ ((l.length : Int) ≤ 500) := by omega
      go_enter Try.func7, Try.ntmps7
      go_wp2_with (fail)
      refine (GK.out _).mono ?_
      rintro e w8 ⟨rfl, b⟩
      go_wp2_with (fail)
      go_ret
      exact ⟨rfl, b⟩
  · have h2 : (l.length : Int) < 8 := by omega
    go_enter Try.func7, Try.ntmps7
    go_wp2_with (fail)
    refine (GK.out _).mono ?_
    rintro e w8 ⟨rfl, b⟩
    go_wp2_with (fail)
    go_ret
    exact ⟨rfl, b⟩
end Go.Proofs.Ytbpmiamdjbebiaa
