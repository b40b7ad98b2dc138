/- The fixed calls of the law's package answer true. No condition. -/
import Derived.Test.YtbpmiamdjbebiaaJ
set_option linter.unusedVariables false
set_option linter.unusedSimpArgs false
namespace Go.Proofs.Ytbpmiamdjbebiaa
open Go.RowKit

set_option maxRecDepth 100000 in
theorem known_any (w : World) : Calls Try.prog 8 #[] w fun e w' => e = .returned (.bool true) ∧ Below w.heap.size w w' := by
  have g1 := fun w => get_any ⟨#[1, 2, 3]⟩ 1 2 w (by decide)
  have g2 := fun w => get_any ⟨#[97, 98]⟩ 1 2 w (by decide)
  have g3 := fun w => set_any ⟨#[97, 98, 99, 100]⟩ 1 2 16706 w (by decide) (by decide)
  have g4 := fun w => unhex_any ⟨#[48, 97, 102, 102]⟩ w (by decide)
  have g5 := fun w => unhex_any ⟨#[48, 65]⟩ w (by decide)
  have g6 := fun w => put_any 258 2 w (by decide)
  have g7 := fun w => bits_any 240 4 4 w (by decide)
  have g8 := fun w => hex_any ⟨#[10, 255]⟩ w (by decide)
  rw [show getN ⟨#[1, 2, 3]⟩ 1 2 = 515 from rfl, show thereB (ByteArray.mk #[1, 2, 3]).size 1 2 = true from rfl] at g1
  rw [show getN ⟨#[97, 98]⟩ 1 2 = 0 from rfl, show thereB (ByteArray.mk #[97, 98]).size 1 2 = false from rfl] at g2
  rw [show setS ⟨#[97, 98, 99, 100]⟩ 1 2 16706 = ⟨#[97, 65, 66, 100]⟩ from by rfl, show thereB (ByteArray.mk #[97, 98, 99, 100]).size 1 2 = true from rfl] at g3
  rw [show unhexL (ByteArray.mk #[48, 97, 102, 102]).data.toList = some [10, 255] from rfl] at g4
  rw [show unhexL (ByteArray.mk #[48, 65]).data.toList = none from rfl] at g5
  rw [show putL 258 2 = [1, 2] from rfl] at g6
  rw [show bitsN 240 4 4 = 15 from rfl] at g7
  rw [show hexL (ByteArray.mk #[10, 255]).data.toList = [48, 97, 102, 102] from rfl] at g8
  have G1 := Lib.hid g1
  have G2 := Lib.hid g2
  have G3 := Lib.hid g3
  have G4 := Lib.hid g4
  have G5 := Lib.hid g5
  have G6 := Lib.hid g6
  have G7 := Lib.hid g7
  have G8 := Lib.hid g8
  clear g1 g2 g3 g4 g5 g6 g7 g8
  go_enter Try.func8, Try.ntmps8
  go_wp2_with (fail)
  refine (G1.out _).mono ?_
  rintro e w' ⟨rfl, rfl⟩
  go_wp2_with (fail)
  refine (G2.out _).mono ?_
  rintro e w' ⟨rfl, rfl⟩
  go_wp2_with (fail)
  refine (G3.out _).mono ?_
  rintro e w1 ⟨rfl, b1⟩
  have B1 := Lib.hid b1
  clear b1
  go_wp2_with (fail)
  refine (G4.out _).mono ?_
  rintro e w2 ⟨rfl, b1⟩
  have B2 := Lib.hid (B1.out.trans (b1.mono B1.out.size))
  clear b1 B1
  go_wp2_with (fail)
  refine (G5.out _).mono ?_
  rintro e w3 ⟨rfl, b1⟩
  have B3 := Lib.hid (B2.out.trans (b1.mono B2.out.size))
  clear b1 B2
  go_wp2_with (fail)
  refine (G6.out _).mono ?_
  rintro e w4 ⟨rfl, b1⟩
  have B4 := Lib.hid (B3.out.trans (b1.mono B3.out.size))
  clear b1 B3
  go_wp2_with (fail)
  refine (G7.out _).mono ?_
  rintro e w' ⟨rfl, rfl⟩
  go_wp2_with (fail)
  refine (G8.out _).mono ?_
  rintro e w5 ⟨rfl, b1⟩
  have B5 := Lib.hid (B4.out.trans (b1.mono B4.out.size))
  clear b1 B4
  go_wp2_with (fail)
  go_ret
  exact ⟨rfl, B5.out⟩
end Go.Proofs.Ytbpmiamdjbebiaa
