/- A number as text: what cell.Put answers. Conditions: it fits 64 bits; of 1 to 8 bytes. -/
import Derived.Test.YtnjbclcihhaddaaLib
import Derived.Test.YtnjbclcihhaddaaProg
import Derived.WalkKit
set_option linter.unusedVariables false
set_option linter.unusedSimpArgs false
namespace Go.Proofs.Ytnjbclcihhaddaa
open Go.RowKit

theorem snoc_ind {α : Type} {p : List α → Prop} (h0 : p []) (h1 : ∀ l a, p l → p (l ++ [a])) (l : List α) : p l := by
  rw [← List.reverse_reverse l]
  induction l.reverse with
  | nil => exact h0
  | cons a r ih => rw [List.reverse_cons]; exact h1 _ _ ih
/-- A number in bytes, the greatest one first. -/
def beN (l : List UInt8) : Nat := l.foldl (fun n b => 256 * n + b.toNat) 0
/-- A number as `size` bytes. -/
def be (n : Nat) : Nat → List UInt8
  | 0 => []
  | k + 1 => be (n / 256) k ++ [UInt8.ofNat n]

theorem beN_snoc (l : List UInt8) (b : UInt8) : beN (l ++ [b]) = 256 * beN l + b.toNat := by simp [beN]
theorem beN_lt (l : List UInt8) : beN l < 256 ^ l.length := by
  induction l using snoc_ind with
  | h0 => simp [beN]
  | h1 l b ih =>
    rw [beN_snoc]; have := b.toNat_lt; simp [Nat.pow_succ]; omega
theorem be_length (n k : Nat) : (be n k).length = k := by
  induction k generalizing n with
  | zero => rfl
  | succ k ih => simp [be, ih]
theorem beN_be (n k : Nat) : beN (be n k) = n % 256 ^ k := by
  induction k generalizing n with
  | zero => simp [be, beN, Nat.mod_one]
  | succ k ih =>
    rw [be, beN_snoc, ih]
    simp [Nat.pow_succ]
    rw [Nat.mul_comm (256 ^ k) 256, Nat.mod_mul]
    omega
theorem be_get (n k i : Nat) (h : i < k) : (be n k)[i]? = some (UInt8.ofNat (n / 256 ^ (k - 1 - i))) := by
  induction k generalizing n with
  | zero => omega
  | succ k ih =>
    rw [be, List.getElem?_append]
    rw [be_length]
    by_cases hi : i < k
    · rw [if_pos hi, ih _ hi, Nat.div_div_eq_div_mul]
      rw [show k + 1 - 1 - i = (k - 1 - i) + 1 by omega, Nat.pow_succ, Nat.mul_comm 256]
    · obtain rfl : i = k := by omega
      simp
theorem ofNat_mod (n : Nat) : UInt8.ofNat (n % 256) = UInt8.ofNat n := by
  apply UInt8.toNat.inj; simp
/-- n<<8 | b -/
theorem or_byte (n : Nat) (b : UInt8) (h : n < 72057594037927936) :
    Go.bits .or .u64 ((n : Int) * 256) (b.toNat : Int) = ((256 * n + b.toNat : Nat) : Int) := by
  have hb := b.toNat_lt
  have := bits_or_u64_nat (n * 256) b.toNat (by omega) (by omega)
  rw [show ((n : Int) * 256) = ((n * 256 : Nat) : Int) by omega, this]
  have h2 : n * 256 ||| b.toNat = 256 * n + b.toNat := by
    have := Nat.shiftLeft_add_eq_or_of_lt (i := 8) (b := b.toNat) (by omega) n
    rw [Nat.shiftLeft_eq, show (2 : Nat) ^ 8 = 256 from rfl] at this
    omega
  rw [h2]
/-- The cells of n's bytes, the last k of them there. -/
def putC (n size k : Nat) : Array Value := ((List.range size).map fun i => if size - k ≤ i then Value.int .u8 ((be n size).getD i 0).toNat else .int .u8 0).toArray
theorem putC_get (n size k i : Nat) (h : i < size) : (putC n size k)[i]? = some (if size - k ≤ i then Value.int .u8 ((be n size).getD i 0).toNat else .int .u8 0) := by
  simp [putC, h]
theorem putC_size (n size k : Nat) : (putC n size k).size = size := by simp [putC]
theorem putC_zero (n size : Nat) : madeCells #[Value.int .u8 0] size = putC n size 0 := by
  apply Array.ext_getElem?
  intro i
  by_cases h : i < size
  · rw [putC_get _ _ _ _ h, if_neg (by omega)]
    simp [madeCells, h, Nat.mod_one]
  · simp [madeCells, putC, h]
theorem putC_cell (n size k : Nat) (h : k < size) : (putC n size k)[size - 1 - k]? = some (.int .u8 0) := by
  rw [putC_get _ _ _ _ (by omega), if_neg (by omega)]
theorem putC_step (n size k : Nat) (h : k < size) : (putC n size k).setIfInBounds (size - 1 - k) (.int .u8 (n / 256 ^ k % 256 : Nat)) = putC n size (k + 1) := by
  apply Array.ext_getElem?
  intro i
  rw [Array.getElem?_setIfInBounds, putC_size]
  by_cases hi : i < size
  · rw [putC_get _ _ _ _ hi, putC_get _ _ _ _ hi]
    by_cases h1 : size - 1 - k = i
    · subst h1
      rw [if_pos rfl, if_pos hi, if_pos (by omega)]
      have := be_get n size (size - 1 - k) hi
      rw [List.getD_eq_getElem?_getD, this, show size - 1 - (size - 1 - k) = k by omega]
      simp
    · rw [if_neg h1]
      by_cases h2 : size - k ≤ i
      · rw [if_pos h2, if_pos (by omega)]
      · rw [if_neg h2, if_neg (by omega)]
  · simp [putC, hi]; intro; omega
theorem pow8 (k : Nat) : (2 : Int) ^ (8 * k) = ((256 ^ k : Nat) : Int) := by
  rw [show (256 : Nat) = 2 ^ 8 from rfl, ← Nat.pow_mul]; simp
theorem byte_at (n k : Nat) : (n : Int) / 2 ^ (8 * k) % 256 = ((n / 256 ^ k % 256 : Nat) : Int) := by
  rw [pow8]; omega
theorem strOf_bytes (l : List UInt8) : strOfNums (l.map fun b => (b.toNat : Int)) = ⟨l.toArray⟩ := by
  unfold strOfNums
  congr 2
  rw [List.map_map]
  conv => rhs; rw [← List.map_id l]
  apply List.map_congr_left
  intro b _
  simp
theorem info5 : (Try.prog.info? 5).map (fun i => (i.zero, i.size, i.bytes)) = some (some (.int .u8 0), 1, 1) := by kernel_rfl

set_option maxRecDepth 100000 in
theorem put_yes (n : Nat) (size : Nat) (w : World) (hn : n < 18446744073709551616) (h1 : 1 ≤ size) (h2 : size ≤ 8) :
    Calls Try.prog 94 #[.int .u64 n, .int .i64 size] w fun e w' => e = .returned (.string ⟨(be n size).toArray⟩) ∧ Below w.heap.size w w' := by

  have hmk := run_make_row' (P := Try.prog) 153 5 (.int .u8 0) 1 Try.underlying153 info5 rfl .i64 .i64 size (by omega) (by omega) w
  have h3 : (1 : Int) ≤ size := by omega
  have h4 : (size : Int) ≤ 8 := by omega
  go_enter Try.func94, Try.ntmps94
  go_wp2
  go_loopw [17] (fun i wr => ∃ k : Nat, k ≤ size ∧ i = .int .i64 k ∧ wr = w.alloc (.cells (putC n size k) 5)) (fun i _ => size - (intOf i).toNat)
  case atStart => exact ⟨0, Nat.zero_le _, rfl, by rw [putC_zero]⟩
  case round =>
    obtain ⟨k, hk, rfl, rfl⟩ := hrel
    have HP := Lib.hid (putC_step n size k)
    have HC := Lib.hid (putC_cell n size k)
    generalize hCd : putC n size k = C at *
    have hCdef := Lib.hid hCd.symm; clear hCd
    by_cases hlt : k < size
    · have b0 : (0 : Int) ≤ (size : Int) - 1 - k := by omega
      have b1 : (size : Int) - 1 - k < size := by omega
      have hc := HC.out hlt
      have hidx : ((size : Int) - 1 - k).toNat = size - 1 - k := by omega
      go_wp2
      go_roundw
      case rel => exact ⟨k + 1, by omega, by go_num, by rw [byte_at, HP.out hlt]⟩
      case measure => simp [intOf]; omega
    · obtain rfl : k = size := by omega
      have hcv := run_convert_bytes_arg (P := Try.prog) (w.alloc (.cells C 5)) 153 5 Try.underlying153 Try.underlying5 w.heap.size 0 k k ((be n k).map fun b => (b.toNat : Int)) (by simp [be_length]) (fun i hi => by
        rw [World.cell?_alloc_at _ _ _ _ rfl, hCdef.out, Nat.zero_add, putC_get _ _ _ _ hi, if_pos (by omega)]
        simp [List.getD_eq_getElem?_getD, be_length, hi]) 9 Try.underlying9
      go_wp2
      go_ret
      exact ⟨by rw [strOf_bytes]; rfl, (Below.refl _ _).alloc (Nat.le_refl _) _⟩

end Go.Proofs.Ytnjbclcihhaddaa
