/- What the references' Put, Get and Set answer. Conditions: the numbers fit their kinds, the text's size. -/
import Derived.Test.YtbpmiamdjbebiaaD
set_option linter.unusedVariables false
set_option linter.unusedSimpArgs false
namespace Go.Proofs.Ytbpmiamdjbebiaa
open Go.RowKit

theorem be_cons (n k : Nat) : be n (k + 1) = UInt8.ofNat (n / 256 ^ k) :: be n k := by
  induction k generalizing n with
  | zero => simp [be]
  | succ k ih =>
    rw [be, ih, Nat.div_div_eq_div_mul]
    rw [show be n (k + 1) = be (n / 256) k ++ [UInt8.ofNat n] from rfl, Nat.pow_succ, Nat.mul_comm 256]
    rfl

theorem conv1 (W : World) (x : Int) : (convert 41 9 (.slice (some ⟨W.heap.size, 0, none⟩) 1 1)).run Try.prog (W.alloc (.cells #[.int .u8 x] 5)) = .ok (.string ⟨#[UInt8.ofNat x.toNat]⟩) (W.alloc (.cells #[.int .u8 x] 5)) := by
  have := run_convert_bytes_arg (P := Try.prog) (W.alloc (.cells #[.int .u8 x] 5)) 41 5 Try.underlying41 Try.underlying5 W.heap.size 0 1 1 [x] rfl (fun i hi => by
    obtain rfl : i = 0 := by omega
    rw [World.cell?_alloc_at _ _ _ _ rfl]; rfl) 9 Try.underlying9
  exact this

theorem val_str {a b : ByteArray} (h : a = b) : Value.string a = Value.string b := by rw [h]
set_option maxRecDepth 100000 in
theorem rput_yes (n : Nat) (size : Nat) (w : World) (hn : n < 18446744073709551616) (h2 : size ≤ 8) :
    Calls Try.prog 14 #[.int .u64 n, .int .i64 size] w fun e w' => e = .returned (.string ⟨(be n size).toArray⟩) ∧ Below w.heap.size w w' := by
  have h4 : (size : Int) ≤ 8 := by omega
  have hcv := conv1
  go_enter Try.func14, Try.ntmps14
  go_wp2
  go_loopw [0, 5, 6] (fun x s i wr => ∃ k : Nat, k ≤ size ∧ i = .int .i64 k ∧ x = .int .u64 (n / 256 ^ k : Nat) ∧ s = .string ⟨(be n k).toArray⟩ ∧ Below w.heap.size w wr) (fun _ _ i _ => size - (intOf i).toNat)
  case atStart => exact ⟨0, Nat.zero_le _, rfl, by simp, rfl, Below.refl _ _⟩
  case round =>
    obtain ⟨k, hk, rfl, rfl, rfl, hb⟩ := hrel
    have HB := Lib.hid hb
    clear hb
    by_cases hlt : k < size
    · have HC := Lib.hid (be_cons n k)
      have HD := Lib.hid (show n / 256 ^ k / 256 = n / 256 ^ (k + 1) by rw [Nat.div_div_eq_div_mul, Nat.pow_succ])
      have hm : n / 256 ^ k < 18446744073709551616 := Nat.lt_of_le_of_lt (Nat.div_le_self _ _) hn
      have hl : (be n k).length ≤ 8 := by rw [be_length]; omega
      generalize n / 256 ^ k = m at *
      generalize be n k = l at *
      go_wp2
      go_light
      go_roundw
      case rel =>
        refine ⟨k + 1, by omega, by go_num, val_int (by rw [← HD.out]; omega), val_str ?_, HB.out.alloc HB.out.size _⟩
        rw [HC.out, ofNat_mod, show (ByteArray.mk #[UInt8.ofNat m]) = ⟨[UInt8.ofNat m].toArray⟩ from rfl, ByteArray.mk_append_mk]
        rfl
      case measure => simp [intOf]; omega
    · obtain rfl : k = size := by omega
      go_wp2
      go_ret
      exact ⟨rfl, HB.out⟩

set_option maxRecDepth 100000 in
theorem rput_any (n : Nat) (size : Int) (w : World) (hn : n < 18446744073709551616) :
    Calls Try.prog 14 #[.int .u64 n, .int .i64 size] w fun e w' => e = .returned (.string ⟨(putL n size).toArray⟩) ∧ Below w.heap.size w w' := by
  by_cases h1 : 1 ≤ size
  · by_cases h2 : size ≤ 8
    · obtain ⟨b, rfl⟩ := Int.eq_ofNat_of_zero_le (show 0 ≤ size by omega)
      rw [putL_yes ⟨h1, h2⟩]
      exact rput_yes n b w hn (by omega)
    · rw [putL_no (fun h => h2 h.2)]
      have h3 : 0 < size := by omega
      go_enter Try.func14, Try.ntmps14
      go_wp2
      refine wp_loop_once ?_
      go_wp2
      go_ret
      exact ⟨rfl, Below.refl _ _⟩
  · rw [putL_no (fun h => h1 h.1)]
    have h3 : ¬ 0 < size := by omega
    go_enter Try.func14, Try.ntmps14
    go_wp2
    refine wp_loop_once ?_
    go_wp2
    go_ret
    exact ⟨rfl, Below.refl _ _⟩

set_option maxRecDepth 100000 in
theorem rget_no (s : ByteArray) (at_ size : Int) (w : World) (hs : s.size ≤ maxLen) (h : ¬ thereP s.size at_ size) :
    Calls Try.prog 10 #[.string s, .int .i64 at_, .int .i64 size] w fun e w' => e = .returned (.tuple #[.int .u64 0, .bool false]) ∧ w = w' := by
  unfold maxLen at hs
  unfold thereP at h
  by_cases h1 : 1 ≤ size
  · by_cases h2 : size ≤ 8
    · by_cases h3 : 0 ≤ at_
      · by_cases h4 : at_ ≤ s.size
        · have h5 : (s.size : Int) - at_ < size := by omega
          clear h
          go_enter Try.func10, Try.ntmps10
          go_wp2
          go_ret2
          exact ⟨rfl, rfl⟩
        all_goals
          clear h
          go_enter Try.func10, Try.ntmps10
          go_wp2
          go_ret2
          exact ⟨rfl, rfl⟩
      all_goals
          clear h
          go_enter Try.func10, Try.ntmps10
          go_wp2
          go_ret2
          exact ⟨rfl, rfl⟩
    all_goals
          clear h
          go_enter Try.func10, Try.ntmps10
          go_wp2
          go_ret2
          exact ⟨rfl, rfl⟩
  all_goals
          clear h
          go_enter Try.func10, Try.ntmps10
          go_wp2
          go_ret2
          exact ⟨rfl, rfl⟩

set_option maxRecDepth 100000 in
theorem rget_yes (s : ByteArray) (at_ size : Nat) (w : World) (hs : s.size ≤ maxLen) (h1 : 1 ≤ size) (h2 : size ≤ 8) (h4 : at_ + size ≤ s.size) :
    Calls Try.prog 10 #[.string s, .int .i64 at_, .int .i64 size] w fun e w' => e = .returned (.tuple #[.int .u64 (beN ((s.data.toList.drop at_).take size)), .bool true]) ∧ w = w' := by
  unfold maxLen at hs
  have b1 : (1 : Int) ≤ size := by omega
  have b2 : (size : Int) ≤ 8 := by omega
  have b3 : (at_ : Int) ≤ s.size := by omega
  have b4 : (size : Int) ≤ (s.size : Int) - at_ := by omega
  go_enter Try.func10, Try.ntmps10
  go_wp2
  go_loop [8, 9] (fun n i => ∃ k : Nat, k ≤ size ∧ i = .int .i64 k ∧ n = .int .u64 (beN ((s.data.toList.drop at_).take k))) (fun _ i => size - (intOf i).toNat)
  case atStart => exact ⟨0, Nat.zero_le _, rfl, rfl⟩
  case round =>
    obtain ⟨k, hk, rfl, rfl⟩ := hrel
    by_cases hlt : k < size
    · have hb : at_ + k < s.size := by omega
      have hbi : (at_ : Int) + k < s.size := by omega
      have hb0 : 0 ≤ (at_ : Int) + k := by omega
      have HS := Lib.hid (take_snoc _ at_ k s rfl hb)
      have hlen : ((s.data.toList.drop at_).take k).length ≤ 7 := by simp; omega
      have hN : beN ((s.data.toList.drop at_).take k) < 72057594037927936 :=
        Nat.lt_of_lt_of_le (beN_lt _) (Nat.le_trans (Nat.pow_le_pow_right (by decide) hlen) (by decide))
      clear hlen
      generalize hX : (s.data.toList.drop at_).take k = X at *
      have HX := Lib.hid hX; clear hX
      go_wp2
      go_round
      case rel =>
        have hbt : s[at_ + k].toNat < 256 := s[at_ + k].toNat_lt
        refine ⟨k + 1, by omega, by go_num, val_int ?_⟩
        rw [HS.out, beN_snoc]
        simp only [IntKind.wrap_u64]
        omega
      case measure => simp [intOf]; omega
    · obtain rfl : k = size := by omega
      go_wp2
      go_ret2
      exact ⟨rfl, rfl⟩

theorem rget_any (s : ByteArray) (at_ size : Int) (w : World) (hs : s.size ≤ maxLen) :
    Calls Try.prog 10 #[.string s, .int .i64 at_, .int .i64 size] w fun e w' => e = .returned (.tuple #[.int .u64 (getN s at_ size), .bool (thereB s.size at_ size)]) ∧ w = w' := by
  by_cases h : thereP s.size at_ size
  · rw [thereB_yes h]; unfold getN; rw [if_pos h]
    unfold thereP at h
    obtain ⟨a, rfl⟩ := Int.eq_ofNat_of_zero_le (show 0 ≤ at_ by omega)
    obtain ⟨b, rfl⟩ := Int.eq_ofNat_of_zero_le (show 0 ≤ size by omega)
    exact rget_yes s a b w hs (by omega) (by omega) (by omega)
  · rw [thereB_no h]; unfold getN; rw [if_neg h]
    exact rget_no s at_ size w hs h

set_option maxRecDepth 100000 in
theorem rset_any (s : ByteArray) (at_ size : Int) (n : Nat) (w : World) (hs : s.size ≤ 140737488351232) (hn : n < 18446744073709551616) :
    Calls Try.prog 12 #[.string s, .int .i64 at_, .int .i64 size, .int .u64 n] w fun e w' => e = .returned (.tuple #[.string (setS s at_ size n), .bool (thereB s.size at_ size)]) ∧ Below w.heap.size w w' := by
  have ht := fun w => rget_any s at_ size w (by unfold maxLen; omega)
  generalize getN s at_ size = gn at *
  by_cases h : thereP s.size at_ size
  · rw [thereB_yes h] at ht ⊢
    rw [setS_yes h]
    have hp := fun w => rput_any n size w hn
    have hpl := putL_len n size
    generalize putL n size = pl at *
    unfold thereP at h
    obtain ⟨h1, h2, h3, h4⟩ := h
    have h5 : at_ ≤ s.size := by omega
    have h6 : 0 ≤ at_ + size := by omega
    have h7 : ¬ (9223372036854775807 < at_.toNat + pl.length) := by omega
    have h8 : ¬ (9223372036854775807 < at_.toNat + pl.length + (s.size - (at_ + size).toNat)) := by omega
    have hw64 : IntKind.i64.wrap (at_ + size) = at_ + size := IntWalk.i64_in _ (by omega)
    have HT := Lib.hid ht
    have HP := Lib.hid hp
    clear ht hp
    obtain ⟨X, hne, F, hX, hF⟩ := family (fun W => Below w.heap.size w W) w (Below.refl _ _)
    have HX := Lib.hid hX
    clear hX
    go_enter Try.func12, Try.ntmps12
    go_wp2_with (go_at_call 10; refine (HT.out _).mono ?_; rintro e w' ⟨rfl, rfl⟩)
    refine wp_region_fam F (by kernel_rfl) (by kernel_rfl) (hF _ ((Below.refl _ _).drew)) ?_
    have HF := Lib.hid hF
    clear hF
    repeat
      (refine wpQuiet_step (fun K hK => ?_)
       go_simp
       first
         | (refine hK _ ?_; clear hK K)
         | (apply Exists.intro
            refine ⟨fun x => ?_, hK _ ?_⟩
            (go_at_call 14; exact (HP.out (F x)).mono fun e w' ⟨he, hb⟩ => ⟨he, HF.out _ (((HX.out x)).trans (hb.mono (HX.out x).size))⟩)
            clear hK K))
    refine wpQuiet_nil ?_
    intro x
    have hb := HX.out x
    go_wp2
    go_ret2
    exact ⟨rfl, hb⟩
  · rw [thereB_no h] at ht ⊢
    rw [setS_no h]
    have HT := Lib.hid ht
    clear ht h
    go_enter Try.func12, Try.ntmps12
    go_wp2_with (go_at_call 10; refine (HT.out _).mono ?_; rintro e w' ⟨rfl, rfl⟩)
    go_ret2
    exact ⟨rfl, Below.refl _ _⟩
end Go.Proofs.Ytbpmiamdjbebiaa
