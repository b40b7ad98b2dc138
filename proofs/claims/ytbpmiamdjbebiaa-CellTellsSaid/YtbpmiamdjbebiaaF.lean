/- What cell.value and the reference's digit answer. Condition: a byte. -/
import Derived.Test.YtbpmiamdjbebiaaE
set_option linter.unusedVariables false
set_option linter.unusedSimpArgs false
namespace Go.Proofs.Ytbpmiamdjbebiaa
open Go.RowKit

def digs : ByteArray := ⟨#[48, 49, 50, 51, 52, 53, 54, 55, 56, 57, 97, 98, 99, 100, 101, 102]⟩
/-- A digit's value; below 0: it is none. -/
def valI (c : Nat) : Int := if 48 ≤ c ∧ c ≤ 57 then c - 48 else if 97 ≤ c ∧ c ≤ 102 then c - 87 else -1

theorem digs_at (k : Nat) (h : k < digs.size) : (digs[k]'h).toNat = if k < 10 then 48 + k else 87 + k := by
  have hk : k < 16 := h
  have : k = 0 ∨ k = 1 ∨ k = 2 ∨ k = 3 ∨ k = 4 ∨ k = 5 ∨ k = 6 ∨ k = 7 ∨ k = 8 ∨ k = 9 ∨ k = 10 ∨ k = 11 ∨ k = 12 ∨ k = 13 ∨ k = 14 ∨ k = 15 := by omega
  rcases this with rfl | rfl | rfl | rfl | rfl | rfl | rfl | rfl | rfl | rfl | rfl | rfl | rfl | rfl | rfl | rfl <;> rfl

theorem dig_hit (k c : Nat) (hk : k < 16) (h : k < (ByteArray.mk #[48, 49, 50, 51, 52, 53, 54, 55, 56, 57, 97, 98, 99, 100, 101, 102]).size)
    (he : ((((ByteArray.mk #[48, 49, 50, 51, 52, 53, 54, 55, 56, 57, 97, 98, 99, 100, 101, 102])[k]'h).toNat : Int) == (c : Int)) = true) :
    (if 48 ≤ c ∧ c ≤ 57 then (c : Int) - 48 else if 97 ≤ c ∧ c ≤ 102 then (c : Int) - 87 else -1) = k := by
  have h1 := digs_at k h
  have h2 : (digs[k]'h).toNat = c := by
    have := beq_iff_eq.1 he
    exact Int.ofNat.inj this
  rw [h1] at h2
  split at h2
  · rw [if_pos (by omega)]; omega
  · rw [if_neg (by omega), if_pos (by omega)]; omega
theorem dig_miss (k c : Nat) (hk : k < 16) (h : k < (ByteArray.mk #[48, 49, 50, 51, 52, 53, 54, 55, 56, 57, 97, 98, 99, 100, 101, 102]).size)
    (he : ((((ByteArray.mk #[48, 49, 50, 51, 52, 53, 54, 55, 56, 57, 97, 98, 99, 100, 101, 102])[k]'h).toNat : Int) == (c : Int)) = false) :
    (if k < 10 then 48 + k else 87 + k) ≠ c := by
  have h1 := digs_at k h
  have h2 : (digs[k]'h).toNat ≠ c := by
    have := beq_eq_false_iff_ne.1 he
    exact fun e => this (congrArg Int.ofNat e)
  rw [h1] at h2; exact h2
theorem dig_none (c : Nat) (h : ∀ j, j < 16 → (if j < 10 then 48 + j else 87 + j) ≠ c) :
    (if 48 ≤ c ∧ c ≤ 57 then (c : Int) - 48 else if 97 ≤ c ∧ c ≤ 102 then (c : Int) - 87 else -1) = -1 := by
  rw [if_neg, if_neg]
  · intro hc
    have := h (c - 87) (by omega)
    rw [if_neg (by omega)] at this; omega
  · intro hc
    have := h (c - 48) (by omega)
    rw [if_pos (by omega)] at this; omega
set_option maxRecDepth 100000 in
theorem value_any (c : Nat) (w : World) (hc : c < 256) :
    Calls Try.prog 22 #[.int .u8 c] w fun e w' => e = .returned (.int .i64 (valI c)) ∧ w = w' := by
  have HV := Lib.hid (show valI c = if 48 ≤ c ∧ c ≤ 57 then (c : Int) - 48 else if 97 ≤ c ∧ c ≤ 102 then (c : Int) - 87 else -1 from rfl)
  generalize valI c = v at *
  go_enter Try.func22, Try.ntmps22
  go_wp2
  go_loop [4] (fun i => ∃ k : Nat, k ≤ 16 ∧ i = .int .i64 k ∧ ∀ j, j < k → (if j < 10 then 48 + j else 87 + j) ≠ c) (fun i => 16 - (intOf i).toNat)
  case atStart => exact ⟨0, by omega, rfl, fun j hj => by omega⟩
  case round =>
    obtain ⟨k, hk, rfl, hno⟩ := hrel
    have HN := Lib.hid hno
    clear hno
    by_cases hlt : k < 16
    · have h1 : (k : Int) < 16 := by omega
      go_wp2
      · rename_i he _
        go_ret
        exact ⟨ret_int (by rw [HV.out]; exact (dig_hit k c hlt _ he).symm), rfl⟩
      · rename_i _ he
        go_round
        case rel => exact ⟨k + 1, by omega, by go_num, fun j hj => if h : j < k then HN.out j h else by
          obtain rfl : j = k := by omega
          exact dig_miss j c hlt _ he⟩
        case measure => simp [intOf]; omega
    · obtain rfl : k = 16 := by omega
      go_wp2
      go_ret
      exact ⟨ret_int (by rw [HV.out]; exact (dig_none c HN.out).symm), rfl⟩

set_option maxRecDepth 100000 in
theorem digit_any (c : Nat) (w : World) (hc : c < 256) :
    Calls Try.prog 23 #[.int .u8 c] w fun e w' => e = .returned (.int .i64 (valI c)) ∧ w = w' := by
  have HV := Lib.hid (show valI c = if 48 ≤ c ∧ c ≤ 57 then (c : Int) - 48 else if 97 ≤ c ∧ c ≤ 102 then (c : Int) - 87 else -1 from rfl)
  generalize valI c = v at *
  go_enter Try.func23, Try.ntmps23
  go_wp2
  go_loop [4] (fun i => ∃ k : Nat, k ≤ 16 ∧ i = .int .i64 k ∧ ∀ j, j < k → (if j < 10 then 48 + j else 87 + j) ≠ c) (fun i => 16 - (intOf i).toNat)
  case atStart => exact ⟨0, by omega, rfl, fun j hj => by omega⟩
  case round =>
    obtain ⟨k, hk, rfl, hno⟩ := hrel
    have HN := Lib.hid hno
    clear hno
    by_cases hlt : k < 16
    · have h1 : (k : Int) < 16 := by omega
      go_wp2
      · rename_i he _
        go_ret
        exact ⟨ret_int (by rw [HV.out]; exact (dig_hit k c hlt _ he).symm), rfl⟩
      · rename_i _ he
        go_round
        case rel => exact ⟨k + 1, by omega, by go_num, fun j hj => if h : j < k then HN.out j h else by
          obtain rfl : j = k := by omega
          exact dig_miss j c hlt _ he⟩
        case measure => simp [intOf]; omega
    · obtain rfl : k = 16 := by omega
      go_wp2
      go_ret
      exact ⟨ret_int (by rw [HV.out]; exact (dig_none c HN.out).symm), rfl⟩
end Go.Proofs.Ytbpmiamdjbebiaa
