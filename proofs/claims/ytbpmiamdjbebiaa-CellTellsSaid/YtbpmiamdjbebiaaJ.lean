/- What the reference's Unhex answers. Condition: at most 10000 bytes. -/
import Derived.Test.YtbpmiamdjbebiaaI
set_option linter.unusedVariables false
set_option linter.unusedSimpArgs false
namespace Go.Proofs.Ytbpmiamdjbebiaa
open Go.RowKit

set_option maxRecDepth 100000 in
theorem runhex_any (s : ByteArray) (w : World) (hs : s.size ≤ 10000) :
    Calls Try.prog 18 #[.string s] w fun e w' => e = .returned (.tuple #[.string ⟨((unhexL s.data.toList).getD []).toArray⟩, .bool (unhexL s.data.toList).isSome]) ∧ Below w.heap.size w w' := by
  have hlen : s.data.toList.length = s.size := by simp only [Array.length_toList]; rfl
  have hcv := conv1
  by_cases hodd : s.size % 2 = 1
  · have hU := Lib.hid (unhexL_odd (s.size / 2) s.data.toList (by omega))
    have hand : (s.size : Int) % 2 = 1 := by omega
    rw [hU.out]
    go_enter Try.func18, Try.ntmps18
    go_wp2
    go_ret2
    exact ⟨rfl, Below.refl _ _⟩
  · obtain ⟨n, hn⟩ : ∃ n, s.size = 2 * n := ⟨s.size / 2, by omega⟩
    have hand : (s.size : Int) % 2 = 0 := by omega
    have hn2 : n ≤ 5000 := by omega
    have HN := Lib.hid hn
    clear hn hodd
    go_enter Try.func18, Try.ntmps18
    go_wp2
    clear hand
    go_loopw [4, 5] (fun o i wr => ∃ (k : Nat) (x : List UInt8), k ≤ n ∧ i = .int .i64 (2 * k : Nat) ∧ o = .string ⟨x.toArray⟩ ∧ unhexL (s.data.toList.take (2 * k)) = some x ∧ x.length = k ∧ Below w.heap.size w wr) (fun _ i _ => 2 * n - (intOf i).toNat)
    case atStart => exact ⟨0, [], Nat.zero_le _, rfl, rfl, rfl, rfl, Below.refl _ _⟩
    case round =>
      obtain ⟨k, x, hk, rfl, rfl, hu, hx, hb⟩ := hrel
      have HU := Lib.hid hu
      have HX := Lib.hid hx
      have HB := Lib.hid hb
      clear hu hx hb
      by_cases hlt : k < n
      · have hb0 : 2 * k < s.size := by have := HN.out; omega
        have hb1 : 2 * k + 1 < s.size := by have := HN.out; omega
        have hi0 : 0 ≤ 2 * (k : Int) := by omega
        have hi1 : (2 * (k : Int)) < s.size := by omega
        have hi2 : (2 * (k : Int)) + 1 < s.size := by omega
        have hi3 : 0 ≤ 2 * (k : Int) + 1 := by omega
        have hi4 : 2 * (k : Int) ≤ 10000 := by omega
        have hn1 : (2 * (k : Int)).toNat = 2 * k := by omega
        have hn2 : (2 * (k : Int) + 1).toNat = 2 * k + 1 := by omega
        have hx2 : ¬ 9223372036854775807 < x.length + 1 := by have := HX.out; omega
        have hc1 := valI_cases s[2 * k].toNat
        have hc2 := valI_cases s[2 * k + 1].toNat
        have hst := unhex_step s k x hb1 HU.out
        have hfl := unhex_fail s k x hb1 HU.out
        have hv1 := fun W => digit_any s[2 * k].toNat W (UInt8.toNat_lt _)
        have hv2 := fun W => digit_any s[2 * k + 1].toNat W (UInt8.toNat_lt _)
        generalize valI s[2 * k].toNat = v1 at *
        generalize valI s[2 * k + 1].toNat = v2 at *
        have HV1 := Lib.hid hv1
        have HV2 := Lib.hid hv2
        have HS := Lib.hid hst
        have HF := Lib.hid hfl
        clear hst hfl hv1 hv2
        by_cases hn1 : v1 < 0
        · have hf := Lib.hid (HF.out (.inl hn1))
          go_wp2_with (fail)
          refine (HV1.out _).mono ?_
          rintro e w' ⟨rfl, rfl⟩
          go_wp2_with (fail)
          refine (HV2.out _).mono ?_
          rintro e w' ⟨rfl, rfl⟩
          go_wp2
          go_ret2
          exact ⟨by rw [hf.out]; rfl, HB.out⟩
        · by_cases hn2 : v2 < 0
          · have hf := Lib.hid (HF.out (.inr hn2))
            go_wp2_with (fail)
            refine (HV1.out _).mono ?_
            rintro e w' ⟨rfl, rfl⟩
            go_wp2_with (fail)
            refine (HV2.out _).mono ?_
            rintro e w' ⟨rfl, rfl⟩
            go_wp2
            go_ret2
            exact ⟨by rw [hf.out]; rfl, HB.out⟩
          · obtain ⟨a, rfl⟩ := Int.eq_ofNat_of_zero_le (show 0 ≤ v1 by omega)
            obtain ⟨b, rfl⟩ := Int.eq_ofNat_of_zero_le (show 0 ≤ v2 by omega)
            have hs := Lib.hid (HS.out (by omega) (by omega))
            clear HS HF
            go_wp2_with (fail)
            refine (HV1.out _).mono ?_
            rintro e w' ⟨rfl, rfl⟩
            go_wp2_with (fail)
            refine (HV2.out _).mono ?_
            rintro e w' ⟨rfl, rfl⟩
            go_wp2
            go_light
            go_roundw
            case rel =>
              refine ⟨k + 1, x ++ [UInt8.ofNat (16 * a + b)], by omega, val_int (by omega), val_str ?_, hs.out, by rw [List.length_append, HX.out]; rfl, HB.out.alloc HB.out.size _⟩
              rw [show (ByteArray.mk #[16 * UInt8.ofNat a + UInt8.ofNat b]) = ⟨[UInt8.ofNat (16 * a + b)].toArray⟩ by simp, ByteArray.mk_append_mk]
            case measure => simp [intOf]; omega
      · obtain rfl : k = n := by omega
        have hf := Lib.hid (show s.data.toList.take (2 * k) = s.data.toList from List.take_of_length_le (by have := HN.out; omega))
        have hs := Lib.hid (show unhexL s.data.toList = some x by rw [← hf.out]; exact HU.out)
        have hge : ¬ (2 * (k : Int)) < s.size := by have := HN.out; omega
        go_wp2
        go_ret2
        exact ⟨by rw [hs.out]; rfl, HB.out⟩
end Go.Proofs.Ytbpmiamdjbebiaa
