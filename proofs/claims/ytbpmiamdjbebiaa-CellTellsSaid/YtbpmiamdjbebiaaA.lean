/- Numbers as bytes and back: plain facts. No condition. -/
import Derived.WalkKit
namespace Go.Proofs.Ytbpmiamdjbebiaa
open Go.RowKit

theorem snoc_ind {α : Type} {p : List α → Prop} (h0 : p []) (h1 : ∀ l a, p l → p (l ++ [a])) (l : List α) : p l := by
  rw [← List.reverse_reverse l]
  induction l.reverse with
  | nil => exact h0
  | cons a r ih => rw [List.reverse_cons]; exact h1 _ _ ih
/-- A number in bytes, the greatest one first. -/
def beN (l : List UInt8) : Nat := l.foldl (fun n b => 256 * n + b.toNat) 0
/-- A number as `size` bytes. -/
def be (n : Nat) : Nat → List UInt8
  | 0 => []
  | k + 1 => be (n / 256) k ++ [UInt8.ofNat n]

theorem beN_snoc (l : List UInt8) (b : UInt8) : beN (l ++ [b]) = 256 * beN l + b.toNat := by simp [beN]
theorem beN_lt (l : List UInt8) : beN l < 256 ^ l.length := by
  induction l using snoc_ind with
  | h0 => simp [beN]
  | h1 l b ih =>
    rw [beN_snoc]; have := b.toNat_lt; simp [Nat.pow_succ]; omega
theorem be_length (n k : Nat) : (be n k).length = k := by
  induction k generalizing n with
  | zero => rfl
  | succ k ih => simp [be, ih]
theorem beN_be (n k : Nat) : beN (be n k) = n % 256 ^ k := by
  induction k generalizing n with
  | zero => simp [be, beN, Nat.mod_one]
  | succ k ih =>
    rw [be, beN_snoc, ih]
    simp [Nat.pow_succ]
    rw [Nat.mul_comm (256 ^ k) 256, Nat.mod_mul]
    omega
theorem be_get (n k i : Nat) (h : i < k) : (be n k)[i]? = some (UInt8.ofNat (n / 256 ^ (k - 1 - i))) := by
  induction k generalizing n with
  | zero => omega
  | succ k ih =>
    rw [be, List.getElem?_append]
    rw [be_length]
    by_cases hi : i < k
    · rw [if_pos hi, ih _ hi, Nat.div_div_eq_div_mul]
      rw [show k + 1 - 1 - i = (k - 1 - i) + 1 by omega, Nat.pow_succ, Nat.mul_comm 256]
    · obtain rfl : i = k := by omega
      simp
theorem ofNat_mod (n : Nat) : UInt8.ofNat (n % 256) = UInt8.ofNat n := by
  apply UInt8.toNat.inj; simp
/-- n<<8 | b -/
theorem or_byte (n : Nat) (b : UInt8) (h : n < 72057594037927936) :
    Go.bits .or .u64 ((n : Int) * 256) (b.toNat : Int) = ((256 * n + b.toNat : Nat) : Int) := by
  have hb := b.toNat_lt
  have := bits_or_u64_nat (n * 256) b.toNat (by omega) (by omega)
  rw [show ((n : Int) * 256) = ((n * 256 : Nat) : Int) by omega, this]
  have h2 : n * 256 ||| b.toNat = 256 * n + b.toNat := by
    have := Nat.shiftLeft_add_eq_or_of_lt (i := 8) (b := b.toNat) (by omega) n
    rw [Nat.shiftLeft_eq, show (2 : Nat) ^ 8 = 256 from rfl] at this
    omega
  rw [h2]
end Go.Proofs.Ytbpmiamdjbebiaa
