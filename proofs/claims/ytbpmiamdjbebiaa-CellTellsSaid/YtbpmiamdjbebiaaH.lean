/- What the reference's Hex answers; plain facts of Unhex. Condition: at most 3000 bytes. -/
import Derived.Test.YtbpmiamdjbebiaaG
set_option linter.unusedVariables false
set_option linter.unusedSimpArgs false
namespace Go.Proofs.Ytbpmiamdjbebiaa
open Go.RowKit

theorem conv2 (W : World) (x y : Int) : (convert 41 9 (.slice (some ⟨W.heap.size, 0, none⟩) 2 2)).run Try.prog (W.alloc (.cells #[.int .u8 x, .int .u8 y] 5)) = .ok (.string ⟨#[UInt8.ofNat x.toNat, UInt8.ofNat y.toNat]⟩) (W.alloc (.cells #[.int .u8 x, .int .u8 y] 5)) := by
  have := run_convert_bytes_arg (P := Try.prog) (W.alloc (.cells #[.int .u8 x, .int .u8 y] 5)) 41 5 Try.underlying41 Try.underlying5 W.heap.size 0 2 2 [x, y] rfl (fun i hi => by
    have : i = 0 ∨ i = 1 := by omega
    rcases this with rfl | rfl <;> (rw [World.cell?_alloc_at _ _ _ _ rfl]; rfl)) 9 Try.underlying9
  exact this
theorem conv2d (W : World) (x y : Int) : (convert 41 9 (.slice (some ⟨W.heap.size, 0, none⟩) 2 2)).run Try.prog (W.alloc (.cells #[.int .u8 x, .int .u8 y] 5)).drew = .ok (.string ⟨#[UInt8.ofNat x.toNat, UInt8.ofNat y.toNat]⟩) (W.alloc (.cells #[.int .u8 x, .int .u8 y] 5)).drew :=
  conv2 W.drew x y
theorem hexD_at (i : Nat) (hi : i < 16) (h : i < (ByteArray.mk #[48, 49, 50, 51, 52, 53, 54, 55, 56, 57, 97, 98, 99, 100, 101, 102]).size) :
    ((ByteArray.mk #[48, 49, 50, 51, 52, 53, 54, 55, 56, 57, 97, 98, 99, 100, 101, 102])[i]'h) = hexD i := by
  apply UInt8.toNat.inj
  rw [hexD_toNat i hi]; exact digs_at i h

set_option maxRecDepth 100000 in
theorem rhex_any (s : ByteArray) (w : World) (hs : s.size ≤ 3000) :
    Calls Try.prog 20 #[.string s] w fun e w' => e = .returned (.string ⟨(hexL s.data.toList).toArray⟩) ∧ Below w.heap.size w w' := by
  have hcv := conv2d
  go_enter Try.func20, Try.ntmps20
  go_wp2
  go_loopw [4, 5] (fun b i wr => ∃ k : Nat, k ≤ s.size ∧ i = .int .i64 k ∧ b = .string ⟨(hexL (s.data.toList.take k)).toArray⟩ ∧ Below w.heap.size w wr) (fun _ i _ => s.size - (intOf i).toNat)
  case atStart => exact ⟨0, by omega, rfl, rfl, Below.refl _ _⟩
  case round =>
    obtain ⟨k, hk, rfl, rfl, hb⟩ := hrel
    have HB := Lib.hid hb
    clear hb
    by_cases hlt : k < s.size
    · have hki : (k : Int) < s.size := by omega
      have hs1 := Lib.hid (hexL_snoc (s.data.toList.take k) s[k])
      have hs2 := Lib.hid (take_one s k hlt)
      have hl := Lib.hid (hexL_length (s.data.toList.take k))
      have hl2 : (s.data.toList.take k).length ≤ k := List.length_take_le _ _
      generalize hexL (s.data.toList.take k) = x at *
      have hx : ¬ 9223372036854775807 < x.length + 2 := by have := hl.out; omega
      have hbt : s[k].toNat < 256 := s[k].toNat_lt
      have h1 : (s[k].toNat : Int) / 16 < 16 := by omega
      have h2 : (s[k].toNat : Int) % 16 < 16 := by omega
      have h3 : 0 ≤ (s[k].toNat : Int) / 16 := by omega
      have h4 : 0 ≤ (s[k].toNat : Int) % 16 := by omega
      have h5 : IntKind.i64.wrap ((s[k].toNat : Int)) = s[k].toNat := IntWalk.i64_in _ (by omega)
      have h6 : IntKind.i64.wrap ((s[k].toNat : Int) / 16) = (s[k].toNat : Int) / 16 := IntWalk.i64_in _ (by omega)
      have h7 : IntKind.i64.wrap ((s[k].toNat : Int) % 16) = (s[k].toNat : Int) % 16 := IntWalk.i64_in _ (by omega)
      have h8 : (s[k].toNat : Int).tmod 16 = (s[k].toNat : Int) % 16 := Int.tmod_eq_emod_of_nonneg (by omega)
      go_wp2
      refine wp_region_hyb 15 (by kernel_rfl) (by kernel_rfl) (fun _ _ d _ _ h => by cases d <;> exact h) ?_
      simp only [List.take_succ_cons, List.take_zero, List.drop_succ_cons, List.drop_zero]
      repeat
        (refine wpReads_step (fun J hJ => ?_)
         go_simp
         refine hJ _ ?_
         clear hJ J)
      refine wpReads_nil ?_
      go_wp2
      go_light
      go_roundw
      case rel =>
        refine ⟨k + 1, by omega, by go_num, val_str ?_, (HB.out.alloc HB.out.size _).drew⟩
        rw [hexD_at _ (by omega), hexD_at _ (by omega), hs2.out, hs1.out, ← ByteArray.mk_append_mk]
      case measure => simp [intOf]; omega
    · obtain rfl : k = s.size := by omega
      have hf := Lib.hid (show s.data.toList.take s.size = s.data.toList from List.take_of_length_le (by simp only [Array.length_toList]; exact Nat.le_refl _))
      go_wp2
      go_ret
      exact ⟨ret_str (by rw [hf.out]), HB.out⟩

/-- Digits as bytes: pair by pair; none: something is no digit. -/
def unhexL : List UInt8 → Option (List UInt8)
  | [] => some []
  | [_] => none
  | a :: b :: r => if valI a.toNat < 0 ∨ valI b.toNat < 0 then none else (unhexL r).map fun l => UInt8.ofNat (16 * (valI a.toNat).toNat + (valI b.toNat).toNat) :: l

theorem valI_cases (c : Nat) : valI c = -1 ∨ (0 ≤ valI c ∧ valI c < 16) := by
  unfold valI
  split
  · omega
  · split
    · omega
    · exact .inl rfl
theorem unhexL_append : ∀ (m : Nat) (l1 l2 : List UInt8), l1.length = 2 * m → unhexL (l1 ++ l2) = (unhexL l1).bind fun x => (unhexL l2).map (x ++ ·)
  | 0, l1, l2, h => by
    obtain rfl : l1 = [] := List.eq_nil_of_length_eq_zero (by omega)
    simp [unhexL]
  | m + 1, l1, l2, h => by
    match l1, h with
    | a :: b :: r, h =>
      have ih := unhexL_append m r l2 (by simp at h; omega)
      simp only [List.cons_append, unhexL]
      split
      · rfl
      · rw [ih]
        cases unhexL r <;> simp
        cases unhexL l2 <;> simp
theorem unhexL_odd : ∀ (m : Nat) (l : List UInt8), l.length = 2 * m + 1 → unhexL l = none
  | 0, l, h => by
    match l, h with
    | [a], _ => rfl
  | m + 1, l, h => by
    match l, h with
    | a :: b :: r, h =>
      have ih := unhexL_odd m r (by simp at h; omega)
      simp only [unhexL, ih]
      split <;> rfl
theorem unhexL_len : ∀ (m : Nat) (l x : List UInt8), l.length = 2 * m → unhexL l = some x → x.length = m
  | 0, l, x, h, hx => by
    obtain rfl : l = [] := List.eq_nil_of_length_eq_zero (by omega)
    simp [unhexL] at hx; subst hx; rfl
  | m + 1, l, x, h, hx => by
    match l, h, hx with
    | a :: b :: r, h, hx =>
      simp only [unhexL] at hx
      split at hx
      · cases hx
      · cases hr : unhexL r with
        | none => rw [hr] at hx; cases hx
        | some y =>
          rw [hr] at hx
          simp at hx; subst hx
          have := unhexL_len m r y (by simp at h; omega) hr
          simp [this]
theorem take_two (s : ByteArray) (k : Nat) (h : 2 * k + 1 < s.size) : s.data.toList.take (2 * (k + 1)) = s.data.toList.take (2 * k) ++ [s[2 * k], s[2 * k + 1]] := by
  have h1 := take_one s (2 * k) (by omega)
  have h2 := take_one s (2 * k + 1) h
  rw [show 2 * (k + 1) = 2 * k + 1 + 1 by omega, h2, h1, List.append_assoc]; rfl
/-- One pair more. -/
theorem unhex_step (s : ByteArray) (k : Nat) (x : List UInt8) (h : 2 * k + 1 < s.size) (hx : unhexL (s.data.toList.take (2 * k)) = some x)
    (h1 : 0 ≤ valI s[2 * k].toNat) (h2 : 0 ≤ valI s[2 * k + 1].toNat) :
    unhexL (s.data.toList.take (2 * (k + 1))) = some (x ++ [UInt8.ofNat (16 * (valI s[2 * k].toNat).toNat + (valI s[2 * k + 1].toNat).toNat)]) := by
  have hlen : s.data.toList.length = s.size := by simp only [Array.length_toList]; rfl
  rw [take_two s k h, unhexL_append k _ _ (by simp; omega), hx]
  simp only [unhexL]
  rw [if_neg (by omega)]
  rfl
theorem unhex_fail (s : ByteArray) (k : Nat) (x : List UInt8) (h : 2 * k + 1 < s.size) (hx : unhexL (s.data.toList.take (2 * k)) = some x)
    (h1 : valI s[2 * k].toNat < 0 ∨ valI s[2 * k + 1].toNat < 0) : unhexL s.data.toList = none := by
  have hlen : s.data.toList.length = s.size := by simp only [Array.length_toList]; rfl
  have hl : s.data.toList = s.data.toList.take (2 * (k + 1)) ++ s.data.toList.drop (2 * (k + 1)) := (List.take_append_drop _ _).symm
  have h0 : unhexL (s.data.toList.take (2 * (k + 1))) = none := by
    rw [take_two s k h, unhexL_append k _ _ (by simp; omega), hx]
    simp only [unhexL]
    rw [if_pos h1]
    rfl
  rw [hl, unhexL_append (k + 1) _ _ (by simp; omega), h0]
  rfl
theorem or_nib (a b : Nat) (ha : a < 16) (hb : b < 16) : Go.bits .or .i64 ((a : Int) * 16) (b : Int) = ((16 * a + b : Nat) : Int) := by
  have key : ∀ a : Nat, a < 16 → ∀ b : Nat, b < 16 → Go.bits .or .i64 ((a : Int) * 16) (b : Int) = ((16 * a + b : Nat) : Int) := by decide +kernel
  exact key a ha b hb
end Go.Proofs.Ytbpmiamdjbebiaa
