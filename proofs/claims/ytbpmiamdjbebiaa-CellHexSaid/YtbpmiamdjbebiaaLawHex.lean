/- CellHex returns true: the walk. Condition: the text's size is a length. -/
import Derived.Test.YtbpmiamdjbebiaaK
import Derived.OpenShut
set_option linter.unusedVariables false
set_option linter.unusedSimpArgs false
namespace Go.Proofs.Ytbpmiamdjbebiaa
open Go.RowKit

theorem valI_hexD (i : Nat) (h : i < 16) : valI (hexD i).toNat = i := by
  rw [hexD_toNat i h]; unfold valI
  split
  · rw [if_pos (by omega)]; omega
  · rw [if_neg (by omega), if_pos (by omega)]; omega
theorem hexD_valI (c : UInt8) (h : 0 ≤ valI c.toNat) : hexD (valI c.toNat).toNat = c := by
  apply UInt8.toNat.inj
  have hc := valI_cases c.toNat
  rw [hexD_toNat _ (by omega)]
  unfold valI at h ⊢
  split
  · rename_i h1; split <;> omega
  · rename_i h1
    rw [if_neg h1] at h
    split
    · rename_i h2; split <;> omega
    · rename_i h2; rw [if_neg h2] at h; omega
theorem unhex_hex (l : List UInt8) : unhexL (hexL l) = some l := by
  induction l with
  | nil => rfl
  | cons b l ih =>
    have hb := b.toNat_lt
    show unhexL (hexD (b.toNat / 16) :: hexD (b.toNat % 16) :: hexL l) = some (b :: l)
    simp only [unhexL]
    rw [valI_hexD _ (by omega), valI_hexD _ (by omega), if_neg (by omega), ih]
    simp only [Option.map_some, Int.toNat_natCast, Option.some.injEq, List.cons.injEq, and_true]
    apply UInt8.toNat.inj
    simp
    omega
theorem hex_unhex : ∀ (m : Nat) (l x : List UInt8), l.length ≤ m → unhexL l = some x → hexL x = l
  | 0, l, x, hl, h => by
    obtain rfl : l = [] := List.eq_nil_of_length_eq_zero (by omega)
    simp [unhexL] at h; subst h; rfl
  | m + 1, [], x, hl, h => by simp [unhexL] at h; subst h; rfl
  | m + 1, [a], x, hl, h => by simp [unhexL] at h
  | m + 1, a :: b :: r, x, hl, h => by
    simp only [unhexL] at h
    split at h
    · cases h
    · rename_i hv
      cases hr : unhexL r with
      | none => rw [hr] at h; cases h
      | some y =>
        rw [hr] at h
        simp only [Option.map_some, Option.some.injEq] at h
        subst h
        have ih := hex_unhex m r y (by simp at hl; omega) hr
        have ha := valI_cases a.toNat
        have hb := valI_cases b.toNat
        have e : (UInt8.ofNat (16 * (valI a.toNat).toNat + (valI b.toNat).toNat)).toNat = 16 * (valI a.toNat).toNat + (valI b.toNat).toNat := by
          simp; omega
        show hexD (_ / 16) :: hexD (_ % 16) :: hexL y = a :: b :: r
        rw [e, ih, show (16 * (valI a.toNat).toNat + (valI b.toNat).toNat) / 16 = (valI a.toNat).toNat by omega, show (16 * (valI a.toNat).toNat + (valI b.toNat).toNat) % 16 = (valI b.toNat).toNat by omega,
          hexD_valI a (by omega), hexD_valI b (by omega)]

set_option maxRecDepth 100000 in
theorem cellHex_walk (a0 : ByteArray) (w0 : a0.size ≤ maxLen) (w : World) :
    Calls Try.prog 4 #[.string a0] w fun e w' => e = .returned (.bool true) ∧ Below w.heap.size w w' := by
  unfold maxLen at w0
  have G5 := Lib.hid known_any
  by_cases hlt : a0.size ≤ 2000
  · obtain ⟨⟨l⟩⟩ := a0
    have hl : l.length ≤ 2000 := by simpa [ByteArray.size] using hlt
    have hl1 := hexL_length l
    have g1 := fun w => unhex_any ⟨l.toArray⟩ w (by simp [ByteArray.size]; omega)
    have g2 := fun w => runhex_any ⟨l.toArray⟩ w (by simp [ByteArray.size]; omega)
    have g3 := fun w => hex_any ⟨l.toArray⟩ w (by simp [ByteArray.size]; omega)
    have g4 := fun w => rhex_any ⟨l.toArray⟩ w (by simp [ByteArray.size]; omega)
    have g6 := fun w => unhex_any ⟨(hexL l).toArray⟩ w (by simp [ByteArray.size]; omega)
    simp only [List.toList_toArray] at g1 g2 g3 g4 g6
    rw [unhex_hex] at g6
    have G1 := Lib.hid g1
    have G2 := Lib.hid g2
    have G3 := Lib.hid g3
    have G4 := Lib.hid g4
    have G6 := Lib.hid g6
    clear g1 g2 g3 g4 g6 w0 hl1
    have hlt' : (l.length : Int) ≤ 2000 := by omega
    cases hu : unhexL l with
    | none =>
      rw [hu] at G1 G2
      have HU := Lib.hid hu; clear hu
      go_enter Try.func4, Try.ntmps4
      go_wp2_with (fail)
      refine (G1.out _).mono ?_
      rintro e w1 ⟨rfl, b⟩
      have B1 := Lib.hid b; clear b
      go_wp2_with (fail)
      refine (G2.out _).mono ?_
      rintro e w2 ⟨rfl, b⟩
      have B2 := Lib.hid (B1.out.trans (b.mono B1.out.size)); clear b B1
      go_wp2_with (fail)
      refine (G3.out _).mono ?_
      rintro e w3 ⟨rfl, b⟩
      have B3 := Lib.hid (B2.out.trans (b.mono B2.out.size)); clear b B2
      go_wp2_with (fail)
      refine (G6.out _).mono ?_
      rintro e w4 ⟨rfl, b⟩
      have B4 := Lib.hid (B3.out.trans (b.mono B3.out.size)); clear b B3
      go_wp2_with (fail)
      refine (G3.out _).mono ?_
      rintro e w5 ⟨rfl, b⟩
      have B5 := Lib.hid (B4.out.trans (b.mono B4.out.size)); clear b B4
      go_wp2_with (fail)
      refine (G4.out _).mono ?_
      rintro e w6 ⟨rfl, b⟩
      have B6 := Lib.hid (B5.out.trans (b.mono B5.out.size)); clear b B5
      go_wp2_with (fail)
      refine (G5.out _).mono ?_
      rintro e w7 ⟨rfl, b⟩
      have B7 := Lib.hid (B6.out.trans (b.mono B6.out.size)); clear b B6
      go_wp2_with (fail)
      go_ret
      exact ⟨rfl, B7.out⟩
    | some x =>
      rw [hu] at G1 G2
      have hxl : 2 * x.length ≤ 2000 := by
        have := hex_unhex _ l x (Nat.le_refl _) hu
        have h2 := hexL_length x
        rw [this] at h2; omega
      have g7 := fun w => hex_any ⟨x.toArray⟩ w (by simp [ByteArray.size]; omega)
      simp only [List.toList_toArray] at g7
      rw [hex_unhex _ l x (Nat.le_refl _) hu] at g7
      have G7 := Lib.hid g7
      have HU := Lib.hid hu; clear hu g7
      go_enter Try.func4, Try.ntmps4
      go_wp2_with (fail)
      refine (G1.out _).mono ?_
      rintro e w1 ⟨rfl, b⟩
      have B1 := Lib.hid b; clear b
      go_wp2_with (fail)
      refine (G2.out _).mono ?_
      rintro e w2 ⟨rfl, b⟩
      have B2 := Lib.hid (B1.out.trans (b.mono B1.out.size)); clear b B1
      go_wp2_with (fail)
      refine (G3.out _).mono ?_
      rintro e w3 ⟨rfl, b⟩
      have B3 := Lib.hid (B2.out.trans (b.mono B2.out.size)); clear b B2
      go_wp2_with (fail)
      refine (G6.out _).mono ?_
      rintro e w4 ⟨rfl, b⟩
      have B4 := Lib.hid (B3.out.trans (b.mono B3.out.size)); clear b B3
      go_wp2_with (fail)
      refine (G3.out _).mono ?_
      rintro e w5 ⟨rfl, b⟩
      have B5 := Lib.hid (B4.out.trans (b.mono B4.out.size)); clear b B4
      go_wp2_with (fail)
      refine (G4.out _).mono ?_
      rintro e w6 ⟨rfl, b⟩
      have B6 := Lib.hid (B5.out.trans (b.mono B5.out.size)); clear b B5
      go_wp2_with (fail)
      refine (G7.out _).mono ?_
      rintro e w7 ⟨rfl, b⟩
      have B7 := Lib.hid (B6.out.trans (b.mono B6.out.size)); clear b B6
      go_wp2_with (fail)
      refine (G5.out _).mono ?_
      rintro e w8 ⟨rfl, b⟩
      have B8 := Lib.hid (B7.out.trans (b.mono B7.out.size)); clear b B7
      go_wp2_with (fail)
      go_ret
      exact ⟨rfl, B8.out⟩
  · have h2 : ¬ ((a0.size : Int) ≤ 2000) := by omega
    go_enter Try.func4, Try.ntmps4
    go_wp2_with (fail)
    refine (G5.out _).mono ?_
    rintro e w8 ⟨rfl, b⟩
    go_wp2_with (fail)
    go_ret
    exact ⟨rfl, b⟩
end Go.Proofs.Ytbpmiamdjbebiaa
