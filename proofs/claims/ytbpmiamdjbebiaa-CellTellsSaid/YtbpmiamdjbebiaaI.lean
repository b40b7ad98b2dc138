/- What cell.Unhex answers. Condition: at most 10000 bytes. -/
import Derived.Test.YtbpmiamdjbebiaaH
set_option linter.unusedVariables false
set_option linter.unusedSimpArgs false
namespace Go.Proofs.Ytbpmiamdjbebiaa
open Go.RowKit

/-- The cells of what is told so far, the rest noughts. -/
def putU (x : List UInt8) (n : Nat) : Array Value := (x.map byteV ++ List.replicate (n - x.length) (Value.int .u8 0)).toArray
theorem putU_zero (n : Nat) : madeCells #[Value.int .u8 0] n = putU [] n := by
  apply Array.ext_getElem?
  intro i
  by_cases h : i < n
  · simp [madeCells, putU, h, Nat.mod_one, List.getElem?_replicate]
  · simp [madeCells, putU, h, List.getElem?_replicate]
theorem putU_cell (x : List UInt8) (n : Nat) (h : x.length < n) : (putU x n)[x.length]? = some (.int .u8 0) := by
  simp [putU, List.getElem?_append, List.getElem?_replicate]; omega
theorem putU_step (x : List UInt8) (n : Nat) (b : UInt8) (h : x.length < n) : (putU x n).setIfInBounds x.length (byteV b) = putU (x ++ [b]) n := by
  apply Array.ext_getElem?
  intro i
  simp only [putU, List.setIfInBounds_toArray, List.getElem?_toArray]
  rw [List.set_append_right _ _ (by simp)]
  simp only [List.length_map, Nat.sub_self, List.map_append, List.map_cons, List.map_nil, List.length_append, List.length_cons, List.length_nil]
  rw [show n - x.length = (n - (x.length + 1)) + 1 by omega, List.replicate_succ, List.set_cons_zero, List.append_assoc]
  rfl

theorem below_drewN' {B : Nat} {w w' : World} (h : Below B w w') (n : Nat) : Below B w (w'.drewN n) := ⟨h.os, h.tape, h.output, h.size, h.block⟩
theorem convU (w : World) (x : List UInt8) (n m : Nat) (h : x.length = n) :
    (convert 41 9 (.slice (some ⟨w.heap.size, 0, none⟩) n n)).run Try.prog ((w.alloc (.cells (putU x n) 5)).drewN m) = .ok (.string ⟨x.toArray⟩) ((w.alloc (.cells (putU x n) 5)).drewN m) := by
  have := run_convert_bytes_arg (P := Try.prog) ((w.alloc (.cells (putU x n) 5)).drewN m) 41 5 Try.underlying41 Try.underlying5 w.heap.size 0 n n (x.map fun b => (b.toNat : Int)) (by simp [h]) (fun i hi => by
    show (w.alloc (.cells (putU x n) 5)).cell? _ = _
    rw [World.cell?_alloc_at _ _ _ _ rfl]
    simp [putU, byteV, List.getElem?_append, List.getD_eq_getElem?_getD, h, hi]) 9 Try.underlying9
  rw [this, strOf_bytes]
theorem and1 (n : Nat) (h : n < 9223372036854775808) : Go.bits .and .i64 (n : Int) 1 = ((n % 2 : Nat) : Int) := by
  have h1 : (BitVec.ofInt 64 (n : Int)).toNat = n := by
    rw [BitVec.ofInt_natCast, BitVec.toNat_ofNat]; exact Nat.mod_eq_of_lt (by omega)
  have h2 : (BitVec.ofInt 64 (1 : Int)).toNat = 1 := rfl
  show IntKind.i64.wrap ((BitVec.ofInt 64 (n : Int) &&& BitVec.ofInt 64 (1 : Int)).toNat : Int) = _
  have h3 : n &&& 1 = n % 2 := Nat.and_two_pow_sub_one_eq_mod n 1
  rw [BitVec.toNat_and, h1, h2, h3]
  exact IntWalk.i64_in _ (by omega)
set_option maxRecDepth 100000 in
theorem unhex_any (s : ByteArray) (w : World) (hs : s.size ≤ 10000) :
    Calls Try.prog 17 #[.string s] w fun e w' => e = .returned (.tuple #[.string ⟨((unhexL s.data.toList).getD []).toArray⟩, .bool (unhexL s.data.toList).isSome]) ∧ Below w.heap.size w w' := by
  have hlen : s.data.toList.length = s.size := by simp only [Array.length_toList]; rfl
  by_cases hodd : s.size % 2 = 1
  · have hU := Lib.hid (unhexL_odd (s.size / 2) s.data.toList (by omega))
    have hand : Go.bits .and .i64 (s.size : Int) 1 = 1 := by rw [and1 _ (by omega), hodd]; rfl
    have h1 : ((1 : Int) == 1) = true := rfl
    rw [hU.out]
    go_enter Try.func17, Try.ntmps17
    go_wp2
    go_ret2
    exact ⟨rfl, Below.refl _ _⟩
  · obtain ⟨n, hn⟩ : ∃ n, s.size = 2 * n := ⟨s.size / 2, by omega⟩
    have hand : Go.bits .and .i64 (s.size : Int) 1 = 0 := by rw [and1 _ (by omega), show s.size % 2 = 0 by omega]; rfl
    have hq : (s.size : Int) / 2 = n := by omega
    have hmk := run_make_row' (P := Try.prog) 41 5 (.int .u8 0) 1 Try.underlying41 info5 rfl .i64 .i64 n (by omega) (by omega) w
    have hn2 : n ≤ 5000 := by omega
    have HN := Lib.hid hn
    clear hn hodd
    go_enter Try.func17, Try.ntmps17
    go_wp2
    go_loopw [18] (fun i wr => ∃ (k m : Nat) (x : List UInt8), k ≤ n ∧ i = .int .i64 k ∧ unhexL (s.data.toList.take (2 * k)) = some x ∧ x.length = k ∧ wr = (w.alloc (.cells (putU x n) 5)).drewN m) (fun i _ => n - (intOf i).toNat)
    case atStart => exact ⟨0, 0, [], Nat.zero_le _, rfl, rfl, rfl, by rw [putU_zero]; rfl⟩
    case round =>
      obtain ⟨k, m, x, hk, rfl, hu, hx, rfl⟩ := hrel
      have HU := Lib.hid hu
      have HX := Lib.hid hx
      clear hu hx
      by_cases hlt : k < n
      · have hb1 : 2 * k + 1 < s.size := by have := HN.out; omega
        have hb0 : 2 * k < s.size := by omega
        have hi0 : 0 ≤ 2 * (k : Int) := by omega
        have hi1 : (2 * (k : Int)) < s.size := by omega
        have hi2 : (2 * (k : Int)) + 1 < s.size := by omega
        have hi3 : 0 ≤ 2 * (k : Int) + 1 := by omega
        have hw1 : IntKind.i64.wrap (2 * (k : Int)) = 2 * (k : Int) := IntWalk.i64_in _ (by omega)
        have hw2 : IntKind.i64.wrap (2 * (k : Int) + 1) = 2 * (k : Int) + 1 := IntWalk.i64_in _ (by omega)
        have hn1 : (2 * (k : Int)).toNat = 2 * k := by omega
        have hn2 : (2 * (k : Int) + 1).toNat = 2 * k + 1 := by omega
        go_wp2
        go_quiet ((go_at_call 22; exact (value_any _ _ (UInt8.toNat_lt _)).mono fun e w' ⟨he, hw⟩ => ⟨he, _, hw.symm⟩))
        have hc1 := valI_cases s[2 * k].toNat
        have hc2 := valI_cases s[2 * k + 1].toNat
        have hst := unhex_step s k x hb1 HU.out
        have hfl := unhex_fail s k x hb1 HU.out
        generalize valI s[2 * k].toNat = v1 at *
        generalize valI s[2 * k + 1].toNat = v2 at *
        have HS := Lib.hid hst
        have HF := Lib.hid hfl
        clear hst hfl
        by_cases hn1 : v1 < 0
        · have hf := Lib.hid (HF.out (.inl hn1))
          have hb : decide (v1 < 0) = true := decide_eq_true hn1
          go_wp2
          go_ret2
          exact ⟨by rw [hf.out]; rfl, below_drewN' ((Below.refl _ _).alloc (Nat.le_refl _) _) _⟩
        · by_cases hn2 : v2 < 0
          · have hf := Lib.hid (HF.out (.inr hn2))
            go_wp2
            go_ret2
            exact ⟨by rw [hf.out]; rfl, below_drewN' ((Below.refl _ _).alloc (Nat.le_refl _) _) _⟩
          · obtain ⟨a, rfl⟩ := Int.eq_ofNat_of_zero_le (show 0 ≤ v1 by omega)
            obtain ⟨b, rfl⟩ := Int.eq_ofNat_of_zero_le (show 0 ≤ v2 by omega)
            have hor := or_nib a b (by omega) (by omega)
            have hc := putU_cell x n (by rw [HX.out]; exact hlt)
            rw [HX.out] at hc
            have hst := Lib.hid (putU_step x n (UInt8.ofNat (16 * a + b)) (by rw [HX.out]; exact hlt))
            have hs := Lib.hid (HS.out (by omega) (by omega))
            clear HS HF
            go_wp2
            go_light
            go_roundw
            case rel =>
              refine ⟨k + 1, m + nq, x ++ [UInt8.ofNat (16 * a + b)], by omega, by go_num, hs.out, by rw [List.length_append, HX.out]; rfl, ?_⟩
              rw [← hst.out, HX.out]
              show ((w.alloc (.cells (putU x n) 5)).setCell _ _).drewN _ = _
              rw [World.setCell_alloc_at _ _ _ _ _ rfl]
              have e : byteV (UInt8.ofNat (16 * a + b)) = Value.int .u8 (16 * (a : Int) + b) := by
                unfold byteV; exact val_int (by simp; omega)
              rw [e]
            case measure => simp [intOf]; omega
      · obtain rfl : k = n := by omega
        have hf := Lib.hid (show s.data.toList.take (2 * k) = s.data.toList from List.take_of_length_le (by have := HN.out; omega))
        have hcv := convU w x k m HX.out
        have hs := Lib.hid (show unhexL s.data.toList = some x by rw [← hf.out]; exact HU.out)
        go_wp2
        go_ret2
        exact ⟨by rw [hs.out]; rfl, below_drewN' ((Below.refl _ _).alloc (Nat.le_refl _) _) _⟩
end Go.Proofs.Ytbpmiamdjbebiaa
