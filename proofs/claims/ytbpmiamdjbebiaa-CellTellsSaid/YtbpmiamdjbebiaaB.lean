/- What cell.there, cell.Get and cell.Put answer. Conditions: a text fits a length, a number fits 64 bits. -/
import Derived.Test.YtbpmiamdjbebiaaProg
import Derived.Test.YtbpmiamdjbebiaaA
import Derived.Test.YtbpmiamdjbebiaaLib
namespace Go.Proofs.Ytbpmiamdjbebiaa
open Go.RowKit

set_option linter.unusedVariables false
set_option linter.unusedSimpArgs false
def thereP (n : Nat) (at_ size : Int) : Prop := 1 ≤ size ∧ size ≤ 8 ∧ 0 ≤ at_ ∧ at_ + size ≤ n
instance (n : Nat) (a s : Int) : Decidable (thereP n a s) := by unfold thereP; infer_instance
def thereB (n : Nat) (at_ size : Int) : Bool := decide (thereP n at_ size)
theorem thereB_yes {n : Nat} {at_ size : Int} (h : thereP n at_ size) : thereB n at_ size = true := decide_eq_true h
theorem thereB_no {n : Nat} {at_ size : Int} (h : ¬ thereP n at_ size) : thereB n at_ size = false := decide_eq_false h

set_option maxRecDepth 100000 in
theorem there_any (s : ByteArray) (at_ size : Int) (w : World) (hs : s.size ≤ maxLen) :
    Calls Try.prog 21 #[.string s, .int .i64 at_, .int .i64 size] w fun e w' => e = .returned (.bool (thereB s.size at_ size)) ∧ w = w' := by
  unfold maxLen at hs
  by_cases h1 : 1 ≤ size
  · by_cases h2 : size ≤ 8
    · by_cases h3 : 0 ≤ at_
      · by_cases h4 : at_ ≤ s.size
        · go_enter Try.func21, Try.ntmps21
          go_wp2
          go_ret
          exact ⟨ret_bool (by unfold thereB; exact decide_eq_decide.2 (by unfold thereP; omega)), rfl⟩
        all_goals
          go_enter Try.func21, Try.ntmps21
          go_wp2
          go_ret
          exact ⟨ret_bool (thereB_no (by unfold thereP; omega)).symm, rfl⟩
      all_goals
          go_enter Try.func21, Try.ntmps21
          go_wp2
          go_ret
          exact ⟨ret_bool (thereB_no (by unfold thereP; omega)).symm, rfl⟩
    all_goals
          go_enter Try.func21, Try.ntmps21
          go_wp2
          go_ret
          exact ⟨ret_bool (thereB_no (by unfold thereP; omega)).symm, rfl⟩
  all_goals
          go_enter Try.func21, Try.ntmps21
          go_wp2
          go_ret
          exact ⟨ret_bool (thereB_no (by unfold thereP; omega)).symm, rfl⟩

/-- What Get answers. -/
def getN (s : ByteArray) (at_ size : Int) : Nat := if thereP s.size at_ size then beN ((s.data.toList.drop at_.toNat).take size.toNat) else 0

theorem take_snoc (l : List UInt8) (a k : Nat) (s : ByteArray) (hl : l = s.data.toList) (h : a + k < s.size) : (l.drop a).take (k + 1) = (l.drop a).take k ++ [s[a + k]] := by
  subst hl
  have hlen : s.data.toList.length = s.size := by simp only [Array.length_toList]; rfl
  rw [List.take_succ_eq_append_getElem (by simp; omega)]
  simp; rfl

set_option maxRecDepth 100000 in
theorem get_yes (s : ByteArray) (at_ size : Nat) (w : World) (hs : s.size ≤ maxLen) (h1 : 1 ≤ size) (h2 : size ≤ 8) (h4 : at_ + size ≤ s.size) :
    Calls Try.prog 9 #[.string s, .int .i64 at_, .int .i64 size] w fun e w' => e = .returned (.tuple #[.int .u64 (beN ((s.data.toList.drop at_).take size)), .bool true]) ∧ w = w' := by
  have ht := fun w => there_any s at_ size w hs
  rw [thereB_yes (by unfold thereP; omega)] at ht
  have HT := Lib.hid ht
  clear ht
  unfold maxLen at hs
  go_enter Try.func9, Try.ntmps9
  go_wp2_with (go_at_call 21; refine (HT.out _).mono ?_; rintro e w' ⟨rfl, rfl⟩)
  go_loop [8, 16] (fun n i => ∃ k : Nat, k ≤ size ∧ i = .int .i64 k ∧ n = .int .u64 (beN ((s.data.toList.drop at_).take k))) (fun _ i => size - (intOf i).toNat)
  case atStart => exact ⟨0, Nat.zero_le _, rfl, rfl⟩
  case round =>
    obtain ⟨k, hk, rfl, rfl⟩ := hrel
    by_cases hlt : k < size
    · have hb : at_ + k < s.size := by omega
      have hbi : (at_ : Int) + k < s.size := by omega
      have hb0 : 0 ≤ (at_ : Int) + k := by omega
      have HS := Lib.hid (take_snoc _ at_ k s rfl hb)
      have hlen : ((s.data.toList.drop at_).take k).length ≤ 7 := by simp; omega
      have hN : beN ((s.data.toList.drop at_).take k) < 72057594037927936 :=
        Nat.lt_of_lt_of_le (beN_lt _) (Nat.le_trans (Nat.pow_le_pow_right (by decide) hlen) (by decide))
      clear hlen
      generalize hX : (s.data.toList.drop at_).take k = X at *
      have HX := Lib.hid hX; clear hX
      go_wp2
      go_round
      case rel =>
        refine ⟨k + 1, by omega, by go_num, ?_⟩
        have hbt : s[at_ + k].toNat < 256 := s[at_ + k].toNat_lt
        rw [HS.out, beN_snoc, show IntKind.u64.wrap (s[at_ + k].toNat : Int) = (s[at_ + k].toNat : Int) from by rw [IntKind.wrap_u64]; omega, or_byte _ _ hN]
      case measure => simp [intOf]; omega
    · obtain rfl : k = size := by omega
      go_wp2
      go_ret2
      exact ⟨rfl, rfl⟩

set_option maxRecDepth 100000 in
theorem get_any (s : ByteArray) (at_ size : Int) (w : World) (hs : s.size ≤ maxLen) :
    Calls Try.prog 9 #[.string s, .int .i64 at_, .int .i64 size] w fun e w' => e = .returned (.tuple #[.int .u64 (getN s at_ size), .bool (thereB s.size at_ size)]) ∧ w = w' := by
  by_cases h : thereP s.size at_ size
  · rw [thereB_yes h]; unfold getN; rw [if_pos h]
    unfold thereP at h
    obtain ⟨a, rfl⟩ := Int.eq_ofNat_of_zero_le (show 0 ≤ at_ by omega)
    obtain ⟨b, rfl⟩ := Int.eq_ofNat_of_zero_le (show 0 ≤ size by omega)
    exact get_yes s a b w hs (by omega) (by omega) (by omega)
  · have ht := fun w => there_any s at_ size w hs
    have HG := Lib.hid (show getN s at_ size = 0 by unfold getN; rw [if_neg h])
    rw [HG.out]
    rw [thereB_no h] at ht ⊢
    have HT := Lib.hid ht
    clear ht h
    go_enter Try.func9, Try.ntmps9
    go_wp2_with (go_at_call 21; refine (HT.out _).mono ?_; rintro e w' ⟨rfl, rfl⟩)
    go_ret2
    exact ⟨rfl, rfl⟩

/-- The cells of n's bytes, the last k of them there. -/
def putC (n size k : Nat) : Array Value := ((List.range size).map fun i => if size - k ≤ i then Value.int .u8 ((be n size).getD i 0).toNat else .int .u8 0).toArray
theorem putC_get (n size k i : Nat) (h : i < size) : (putC n size k)[i]? = some (if size - k ≤ i then Value.int .u8 ((be n size).getD i 0).toNat else .int .u8 0) := by
  simp [putC, h]
theorem putC_size (n size k : Nat) : (putC n size k).size = size := by simp [putC]
theorem putC_zero (n size : Nat) : madeCells #[Value.int .u8 0] size = putC n size 0 := by
  apply Array.ext_getElem?
  intro i
  by_cases h : i < size
  · rw [putC_get _ _ _ _ h, if_neg (by omega)]
    simp [madeCells, h, Nat.mod_one]
  · simp [madeCells, putC, h]
theorem putC_cell (n size k : Nat) (h : k < size) : (putC n size k)[size - 1 - k]? = some (.int .u8 0) := by
  rw [putC_get _ _ _ _ (by omega), if_neg (by omega)]
theorem putC_step (n size k : Nat) (h : k < size) : (putC n size k).setIfInBounds (size - 1 - k) (.int .u8 (n / 256 ^ k % 256 : Nat)) = putC n size (k + 1) := by
  apply Array.ext_getElem?
  intro i
  rw [Array.getElem?_setIfInBounds, putC_size]
  by_cases hi : i < size
  · rw [putC_get _ _ _ _ hi, putC_get _ _ _ _ hi]
    by_cases h1 : size - 1 - k = i
    · subst h1
      rw [if_pos rfl, if_pos hi, if_pos (by omega)]
      have := be_get n size (size - 1 - k) hi
      rw [List.getD_eq_getElem?_getD, this, show size - 1 - (size - 1 - k) = k by omega]
      simp
    · rw [if_neg h1]
      by_cases h2 : size - k ≤ i
      · rw [if_pos h2, if_pos (by omega)]
      · rw [if_neg h2, if_neg (by omega)]
  · simp [putC, hi]; intro; omega
theorem pow8 (k : Nat) : (2 : Int) ^ (8 * k) = ((256 ^ k : Nat) : Int) := by
  rw [show (256 : Nat) = 2 ^ 8 from rfl, ← Nat.pow_mul]; simp
theorem byte_at (n k : Nat) : (n : Int) / 2 ^ (8 * k) % 256 = ((n / 256 ^ k % 256 : Nat) : Int) := by
  rw [pow8]; omega
theorem strOf_bytes (l : List UInt8) : strOfNums (l.map fun b => (b.toNat : Int)) = ⟨l.toArray⟩ := by
  unfold strOfNums
  congr 2
  rw [List.map_map]
  conv => rhs; rw [← List.map_id l]
  apply List.map_congr_left
  intro b _
  simp
theorem info5 : (Try.prog.info? 5).map (fun i => (i.zero, i.size, i.bytes)) = some (some (.int .u8 0), 1, 1) := by kernel_rfl

set_option maxRecDepth 100000 in
theorem put_yes (n : Nat) (size : Nat) (w : World) (hn : n < 18446744073709551616) (h1 : 1 ≤ size) (h2 : size ≤ 8) :
    Calls Try.prog 13 #[.int .u64 n, .int .i64 size] w fun e w' => e = .returned (.string ⟨(be n size).toArray⟩) ∧ Below w.heap.size w w' := by

  have hmk := run_make_row' (P := Try.prog) 41 5 (.int .u8 0) 1 Try.underlying41 info5 rfl .i64 .i64 size (by omega) (by omega) w
  have h3 : (1 : Int) ≤ size := by omega
  have h4 : (size : Int) ≤ 8 := by omega
  go_enter Try.func13, Try.ntmps13
  go_wp2
  go_loopw [17] (fun i wr => ∃ k : Nat, k ≤ size ∧ i = .int .i64 k ∧ wr = w.alloc (.cells (putC n size k) 5)) (fun i _ => size - (intOf i).toNat)
  case atStart => exact ⟨0, Nat.zero_le _, rfl, by rw [putC_zero]⟩
  case round =>
    obtain ⟨k, hk, rfl, rfl⟩ := hrel
    have HP := Lib.hid (putC_step n size k)
    have HC := Lib.hid (putC_cell n size k)
    generalize hCd : putC n size k = C at *
    have hCdef := Lib.hid hCd.symm; clear hCd
    by_cases hlt : k < size
    · have b0 : (0 : Int) ≤ (size : Int) - 1 - k := by omega
      have b1 : (size : Int) - 1 - k < size := by omega
      have hc := HC.out hlt
      have hidx : ((size : Int) - 1 - k).toNat = size - 1 - k := by omega
      go_wp2
      go_roundw
      case rel => exact ⟨k + 1, by omega, by go_num, by rw [byte_at, HP.out hlt]⟩
      case measure => simp [intOf]; omega
    · obtain rfl : k = size := by omega
      have hcv := run_convert_bytes_arg (P := Try.prog) (w.alloc (.cells C 5)) 41 5 Try.underlying41 Try.underlying5 w.heap.size 0 k k ((be n k).map fun b => (b.toNat : Int)) (by simp [be_length]) (fun i hi => by
        rw [World.cell?_alloc_at _ _ _ _ rfl, hCdef.out, Nat.zero_add, putC_get _ _ _ _ hi, if_pos (by omega)]
        simp [List.getD_eq_getElem?_getD, be_length, hi]) 9 Try.underlying9
      go_wp2
      go_ret
      exact ⟨by rw [strOf_bytes]; rfl, (Below.refl _ _).alloc (Nat.le_refl _) _⟩

/-- What Put answers. -/
def putL (n : Nat) (size : Int) : List UInt8 := if 1 ≤ size ∧ size ≤ 8 then be n size.toNat else []
theorem putL_yes {n : Nat} {size : Int} (h : 1 ≤ size ∧ size ≤ 8) : putL n size = be n size.toNat := if_pos h
theorem putL_no {n : Nat} {size : Int} (h : ¬ (1 ≤ size ∧ size ≤ 8)) : putL n size = [] := if_neg h
theorem putL_len (n : Nat) (size : Int) : (putL n size).length ≤ 8 := by
  unfold putL; split
  · rw [be_length]; omega
  · simp

set_option maxRecDepth 100000 in
theorem put_any (n : Nat) (size : Int) (w : World) (hn : n < 18446744073709551616) :
    Calls Try.prog 13 #[.int .u64 n, .int .i64 size] w fun e w' => e = .returned (.string ⟨(putL n size).toArray⟩) ∧ Below w.heap.size w w' := by
  by_cases h1 : 1 ≤ size
  · by_cases h2 : size ≤ 8
    · obtain ⟨b, rfl⟩ := Int.eq_ofNat_of_zero_le (show 0 ≤ size by omega)
      rw [putL_yes ⟨h1, h2⟩]
      exact put_yes n b w hn (by omega) (by omega)
    · rw [putL_no (fun h => h2 h.2)]
      go_enter Try.func13, Try.ntmps13
      go_wp2
      go_ret
      exact ⟨rfl, Below.refl _ _⟩
  · rw [putL_no (fun h => h1 h.1)]
    go_enter Try.func13, Try.ntmps13
    go_wp2
    go_ret
    exact ⟨rfl, Below.refl _ _⟩
end Go.Proofs.Ytbpmiamdjbebiaa
