/- The values of the law's known case. No condition. -/
import Derived.Test.YtolkimdfnlfpbaaU
set_option linter.unusedVariables false
set_option linter.unusedSimpArgs false
namespace Go.Proofs.Ytolkimdfnlfpbaa
open Go.RowKit

def wideR (acc : Bool) : Rl := ⟨acc, 0, ⟨#[]⟩, 0, ⟨#[]⟩, 0, 0, 65535, 0, 65535, 0, 0, 15⟩
def netR : Rl := ⟨true, 0, ⟨#[10, 0, 0, 0]⟩, 8, ⟨#[]⟩, 0, 0, 65535, 80, 80, 18, 2, 15⟩
def askA : Ak := ⟨⟨#[10, 0, 0, 1]⟩, ⟨#[10, 0, 0, 2]⟩, 9, 80, 0, 0, 2, 0, 0, 0, 0, false, none, 0, 0, false, 0, 0, ⟨#[]⟩, 1, 1⟩
def askU : Ak := ⟨⟨#[]⟩, ⟨#[]⟩, 0, 0, 0, 0, 0, 0, 0, 0, 0, false, none, 0, 0, false, 0, 0, ⟨#[]⟩, 2, 3⟩
theorem wideB_eq (b : ByteArray) (n : Int) : wideB b n = (decide (b.data.toList = []) && decide (n = 0)) := by
  unfold wideB
  rw [ByteArray.toList_eq]
  simp [Bool.decide_and]
theorem v1 : oneB netR askA = true := by
  unfold oneB oneK mayB bareB
  simp only [wideB_eq]
  decide +kernel
theorem v2 : oneB netR askU = false := by
  unfold oneB oneK mayB bareB
  simp only [wideB_eq]
  decide +kernel
theorem v3 : oneB (wideR true) askU = true ∧ oneB (wideR false) askU = true ∧ oneB (wideR true) askA = true ∧ oneB (wideR false) askA = true := by
  unfold oneB oneK mayB bareB
  simp only [wideB_eq]
  decide +kernel
theorem v4 : coversB (wideR true) netR = true ∧ coversB netR (wideR true) = false ∧ coversB (wideR false) netR = true ∧ coversB netR netR = true ∧ coversB netR (wideR false) = false := by
  unfold coversB coverB
  simp only [wideB_eq]
  decide +kernel
end Go.Proofs.Ytolkimdfnlfpbaa
