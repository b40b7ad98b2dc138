/- What the law's known case answers. No condition. -/
import Derived.Test.YtolkimdfnlfpbaaV
import Derived.Test.YtolkimdfnlfpbaaDw2
import Derived.Test.YtolkimdfnlfpbaaTell3
set_option linter.unusedVariables false
set_option linter.unusedSimpArgs false
namespace Go.Proofs.Ytolkimdfnlfpbaa
open Go.RowKit
noncomputable def R10 : Array Oper := ((Try.f9.body.bind (findRegion 10)).getD #[])
def R2 : Nat → Rl := fun i => if i = 0 then netR else wideR false
def R3 : Nat → Rl := fun i => if i = 0 then wideR false else netR
theorem blk_rules {w : World} {b len : Nat} {cs : List Value} {R : Nat → Rl} (h : Blk w b cs 43) (hc : ∀ i, i < len → ∀ j v, (R i).cs[j]? = some v → cs[i * 13 + j]? = some v) : RulesAt w (some ⟨b, 0, none⟩) len R :=
  fun i hi => ⟨b, 0, rfl, h.lt, fun j v hj => by rw [Nat.zero_add, h.cell]; exact hc i hi j v hj⟩
theorem cs_get {r : Rl} {j : Nat} {v : Value} (hj : r.cs[j]? = some v) : j < 13 := (List.getElem?_eq_some_iff.1 hj).1
theorem small_wide (b : Bool) : (wideR b).fb.size ≤ 100 ∧ (wideR b).tb.size ≤ 100 := ⟨show (⟨#[]⟩ : ByteArray).size ≤ 100 by decide, show (⟨#[]⟩ : ByteArray).size ≤ 100 by decide⟩
theorem small_net : netR.fb.size ≤ 100 ∧ netR.tb.size ≤ 100 := by constructor <;> decide
theorem small2 : SmallR R2 2 := by
  intro i hi
  unfold R2
  split
  · exact small_net
  · exact small_wide _
theorem small3 : SmallR R3 3 := by
  intro i hi
  unfold R3
  split
  · exact small_wide _
  · exact small_net
theorem rules2 {w : World} {b : Nat} (h : Blk w b [(.bool true : Value), .int .i64 0, .string ⟨#[10, 0, 0, 0]⟩, .int .i64 8, .string ⟨#[]⟩, .int .i64 0, .int .i64 0, .int .i64 65535, .int .i64 80, .int .i64 80, .int .i64 18, .int .i64 2, .int .i64 15, .bool false, .int .i64 0, .string ⟨#[]⟩, .int .i64 0, .string ⟨#[]⟩, .int .i64 0, .int .i64 0, .int .i64 65535, .int .i64 0, .int .i64 65535, .int .i64 0, .int .i64 0, .int .i64 15] 43) : RulesAt w (some ⟨b, 0, none⟩) 2 R2 := by
  refine blk_rules h (fun i hi j v hj => ?_)
  have hj13 := cs_get hj
  have : i = 0 ∨ i = 1 := by omega
  rcases this with rfl | rfl
  · rw [Nat.zero_mul, Nat.zero_add]
    exact (List.getElem?_append_left (l₂ := (wideR false).cs) (show j < netR.cs.length from hj13)).trans hj
  · rw [show 1 * 13 + j = netR.cs.length + j from rfl]
    exact (List.getElem?_append_right (l₁ := netR.cs) (by omega)).trans (by rw [show netR.cs.length + j - netR.cs.length = j by omega]; exact hj)
theorem rules3 {w : World} {b : Nat} (h : Blk w b [(.bool false : Value), .int .i64 0, .string ⟨#[]⟩, .int .i64 0, .string ⟨#[]⟩, .int .i64 0, .int .i64 0, .int .i64 65535, .int .i64 0, .int .i64 65535, .int .i64 0, .int .i64 0, .int .i64 15, .bool true, .int .i64 0, .string ⟨#[10, 0, 0, 0]⟩, .int .i64 8, .string ⟨#[]⟩, .int .i64 0, .int .i64 0, .int .i64 65535, .int .i64 80, .int .i64 80, .int .i64 18, .int .i64 2, .int .i64 15, .bool true, .int .i64 0, .string ⟨#[10, 0, 0, 0]⟩, .int .i64 8, .string ⟨#[]⟩, .int .i64 0, .int .i64 0, .int .i64 65535, .int .i64 80, .int .i64 80, .int .i64 18, .int .i64 2, .int .i64 15] 43) : RulesAt w (some ⟨b, 0, none⟩) 3 R3 := by
  refine blk_rules h (fun i hi j v hj => ?_)
  have hj13 := cs_get hj
  have : i = 0 ∨ i = 1 ∨ i = 2 := by omega
  rcases this with rfl | rfl | rfl
  · rw [Nat.zero_mul, Nat.zero_add]
    exact (List.getElem?_append_left (l₂ := netR.cs ++ netR.cs) (show j < (wideR false).cs.length from hj13)).trans hj
  · rw [show 1 * 13 + j = (wideR false).cs.length + j from rfl]
    exact (List.getElem?_append_right (l₁ := (wideR false).cs) (by omega)).trans (by rw [show (wideR false).cs.length + j - (wideR false).cs.length = j by omega]; exact (List.getElem?_append_left (l₂ := netR.cs) (show j < netR.cs.length from hj13)).trans hj)
  · rw [show 2 * 13 + j = ((wideR false).cs ++ netR.cs).length + j from rfl]
    exact (List.getElem?_append_right (l₁ := (wideR false).cs ++ netR.cs) (l₂ := netR.cs) (by omega)).trans (by rw [show ((wideR false).cs ++ netR.cs).length + j - ((wideR false).cs ++ netR.cs).length = j by omega]; exact hj)
theorem one20 : oneB (R2 0) askA = true ∧ oneB (R2 0) askU = false ∧ oneB (R2 1) askU = true := ⟨v1, v2, v3.2.1⟩
theorem f2a : firstI R2 askA 2 = 0 := firstI_some (k := 0) (by omega) (fun j h => by omega) one20.1
theorem f2u : firstI R2 askU 2 = 1 := firstI_some (k := 1) (by omega) (fun j h => by obtain rfl : j = 0 := (by omega); exact one20.2.1) one20.2.2
theorem f0a : firstI (fun _ => netR) askA 0 = -1 := firstI_none (fun j h => by omega)
theorem acc2a : accB R2 askA 2 = true := by unfold accB; rw [f2a]; rfl
theorem acc2u : accB R2 askU 2 = false := by unfold accB; rw [f2u]; rfl
theorem shad3 : shadL R3 3 = [1, 2] := by
  have h1 : shadB R3 0 = false := rfl
  have h2 : shadB R3 1 = true := shadB_yes (k := 0) (by omega) v4.2.2.1
  have h3 : shadB R3 2 = true := shadB_yes (k := 0) (by omega) v4.2.2.1
  simp [shadL, h1, h2, h3]
theorem shad2 : shadL R2 2 = [] := by
  have h1 : shadB R2 0 = false := rfl
  have h2 : shadB R2 1 = false := shadB_no (fun k hk => by obtain rfl : k = 0 := (by omega); exact v4.2.2.2.2)
  simp [shadL, h1, h2]
def kS (p2 p3 p4 g : Nat) (w0 w : World) : Prop := Blk w p2 [(.bool true : Value), .int .i64 0, .string ⟨#[10, 0, 0, 0]⟩, .int .i64 8, .string ⟨#[]⟩, .int .i64 0, .int .i64 0, .int .i64 65535, .int .i64 80, .int .i64 80, .int .i64 18, .int .i64 2, .int .i64 15] 43 ∧ Blk w p3 [(.string ⟨#[10, 0, 0, 1]⟩ : Value), .string ⟨#[10, 0, 0, 2]⟩, .int .i64 9, .int .i64 80, .int .u32 0, .int .u32 0, .int .i64 2, .int .i64 0, .int .i64 0, .int .i64 0, .int .i64 0, .bool false, .slice none 0 0, .bool false, .int .u32 0, .int .u32 0, .string ⟨#[]⟩, .int .i64 1, .int .i64 1] 34 ∧ Blk w p4 [(.string ⟨#[]⟩ : Value), .string ⟨#[]⟩, .int .i64 0, .int .i64 0, .int .u32 0, .int .u32 0, .int .i64 0, .int .i64 0, .int .i64 0, .int .i64 0, .int .i64 0, .bool false, .slice none 0 0, .bool false, .int .u32 0, .int .u32 0, .string ⟨#[]⟩, .int .i64 2, .int .i64 3] 34 ∧ Blk w g [(.bool true : Value), .int .i64 0, .string ⟨#[10, 0, 0, 0]⟩, .int .i64 8, .string ⟨#[]⟩, .int .i64 0, .int .i64 0, .int .i64 65535, .int .i64 80, .int .i64 80, .int .i64 18, .int .i64 2, .int .i64 15, .bool false, .int .i64 0, .string ⟨#[]⟩, .int .i64 0, .string ⟨#[]⟩, .int .i64 0, .int .i64 0, .int .i64 65535, .int .i64 0, .int .i64 65535, .int .i64 0, .int .i64 0, .int .i64 15] 43 ∧ Touch (fun _ => False) w0 w
theorem kS_keep (p2 p3 p4 g : Nat) (w0 : World) : ∀ w w', kS p2 p3 p4 g w0 w → Touch (fun _ => False) w w' → kS p2 p3 p4 g w0 w' := fun w w' ⟨h1, h2, h3, h4, h5⟩ t => ⟨h1.keep t (fun h => h), h2.keep t (fun h => h), h3.keep t (fun h => h), h4.keep t (fun h => h), h5.trans t (fun _ _ h => h)⟩
def kA (g : Nat) (t : Tmp) (v : Value) (w : World) : Prop :=
  match t with
  | 0 => v = .bool true
  | 24 => v = .agg #[(.bool true : Value), .int .i64 0, .string ⟨#[10, 0, 0, 0]⟩, .int .i64 8, .string ⟨#[]⟩, .int .i64 0, .int .i64 0, .int .i64 65535, .int .i64 80, .int .i64 80, .int .i64 18, .int .i64 2, .int .i64 15]
  | 25 => v = .agg #[(.string ⟨#[10, 0, 0, 1]⟩ : Value), .string ⟨#[10, 0, 0, 2]⟩, .int .i64 9, .int .i64 80, .int .u32 0, .int .u32 0, .int .i64 2, .int .i64 0, .int .i64 0, .int .i64 0, .int .i64 0, .bool false, .slice none 0 0, .bool false, .int .u32 0, .int .u32 0, .string ⟨#[]⟩, .int .i64 1, .int .i64 1]
  | 26 => v = .bool true
  | 27 => v = .bool true
  | 28 => v = .agg #[(.bool true : Value), .int .i64 0, .string ⟨#[10, 0, 0, 0]⟩, .int .i64 8, .string ⟨#[]⟩, .int .i64 0, .int .i64 0, .int .i64 65535, .int .i64 80, .int .i64 80, .int .i64 18, .int .i64 2, .int .i64 15]
  | 29 => v = .agg #[(.string ⟨#[]⟩ : Value), .string ⟨#[]⟩, .int .i64 0, .int .i64 0, .int .u32 0, .int .u32 0, .int .i64 0, .int .i64 0, .int .i64 0, .int .i64 0, .int .i64 0, .bool false, .slice none 0 0, .bool false, .int .u32 0, .int .u32 0, .string ⟨#[]⟩, .int .i64 2, .int .i64 3]
  | 30 => v = .bool false
  | 31 => v = .bool true
  | 32 => v = .bool true
  | 33 => v = .bool true
  | 34 => v = .agg #[(.bool true : Value), .int .i64 0, .string ⟨#[]⟩, .int .i64 0, .string ⟨#[]⟩, .int .i64 0, .int .i64 0, .int .i64 65535, .int .i64 0, .int .i64 65535, .int .i64 0, .int .i64 0, .int .i64 15]
  | 35 => v = .agg #[(.string ⟨#[]⟩ : Value), .string ⟨#[]⟩, .int .i64 0, .int .i64 0, .int .u32 0, .int .u32 0, .int .i64 0, .int .i64 0, .int .i64 0, .int .i64 0, .int .i64 0, .bool false, .slice none 0 0, .bool false, .int .u32 0, .int .u32 0, .string ⟨#[]⟩, .int .i64 2, .int .i64 3]
  | 36 => v = .bool true
  | 37 => v = .bool true
  | 38 => v = .bool true
  | 39 => v = .slice (some ⟨g, 0, none⟩) 2 2
  | 40 => v = .agg #[(.string ⟨#[10, 0, 0, 1]⟩ : Value), .string ⟨#[10, 0, 0, 2]⟩, .int .i64 9, .int .i64 80, .int .u32 0, .int .u32 0, .int .i64 2, .int .i64 0, .int .i64 0, .int .i64 0, .int .i64 0, .bool false, .slice none 0 0, .bool false, .int .u32 0, .int .u32 0, .string ⟨#[]⟩, .int .i64 1, .int .i64 1]
  | 41 => v = .int .i64 0
  | 42 => v = .bool true
  | 43 => v = .bool true
  | 44 => v = .bool true
  | 45 => v = .slice (some ⟨g, 0, none⟩) 2 2
  | 46 => v = .agg #[(.string ⟨#[]⟩ : Value), .string ⟨#[]⟩, .int .i64 0, .int .i64 0, .int .u32 0, .int .u32 0, .int .i64 0, .int .i64 0, .int .i64 0, .int .i64 0, .int .i64 0, .bool false, .slice none 0 0, .bool false, .int .u32 0, .int .u32 0, .string ⟨#[]⟩, .int .i64 2, .int .i64 3]
  | 47 => v = .int .i64 1
  | 48 => v = .bool true
  | 49 => v = .bool true
  | 50 => v = .bool true
  | 51 => v = .slice (some ⟨g, 0, none⟩) 2 2
  | 52 => v = .agg #[(.string ⟨#[10, 0, 0, 1]⟩ : Value), .string ⟨#[10, 0, 0, 2]⟩, .int .i64 9, .int .i64 80, .int .u32 0, .int .u32 0, .int .i64 2, .int .i64 0, .int .i64 0, .int .i64 0, .int .i64 0, .bool false, .slice none 0 0, .bool false, .int .u32 0, .int .u32 0, .string ⟨#[]⟩, .int .i64 1, .int .i64 1]
  | 53 => v = .bool true
  | 54 => v = .bool true
  | 55 => v = .bool true
  | 56 => v = .slice (some ⟨g, 0, none⟩) 2 2
  | 57 => v = .agg #[(.string ⟨#[]⟩ : Value), .string ⟨#[]⟩, .int .i64 0, .int .i64 0, .int .u32 0, .int .u32 0, .int .i64 0, .int .i64 0, .int .i64 0, .int .i64 0, .int .i64 0, .bool false, .slice none 0 0, .bool false, .int .u32 0, .int .u32 0, .string ⟨#[]⟩, .int .i64 2, .int .i64 3]
  | 58 => v = .bool false
  | 59 => v = .bool true
  | 60 => v = .bool true
  | 61 => v = .bool true
  | 62 => v = .agg #[(.string ⟨#[10, 0, 0, 1]⟩ : Value), .string ⟨#[10, 0, 0, 2]⟩, .int .i64 9, .int .i64 80, .int .u32 0, .int .u32 0, .int .i64 2, .int .i64 0, .int .i64 0, .int .i64 0, .int .i64 0, .bool false, .slice none 0 0, .bool false, .int .u32 0, .int .u32 0, .string ⟨#[]⟩, .int .i64 1, .int .i64 1]
  | 63 => v = .int .i64 (-1)
  | 64 => v = .bool true
  | 65 => v = .bool true
  | 66 => v = .bool true
  | 67 => v = .agg #[(.bool true : Value), .int .i64 0, .string ⟨#[]⟩, .int .i64 0, .string ⟨#[]⟩, .int .i64 0, .int .i64 0, .int .i64 65535, .int .i64 0, .int .i64 65535, .int .i64 0, .int .i64 0, .int .i64 15]
  | 68 => v = .agg #[(.bool true : Value), .int .i64 0, .string ⟨#[10, 0, 0, 0]⟩, .int .i64 8, .string ⟨#[]⟩, .int .i64 0, .int .i64 0, .int .i64 65535, .int .i64 80, .int .i64 80, .int .i64 18, .int .i64 2, .int .i64 15]
  | 69 => v = .bool true
  | 70 => v = .bool true
  | 71 => v = .bool true
  | 72 => v = .agg #[(.bool true : Value), .int .i64 0, .string ⟨#[10, 0, 0, 0]⟩, .int .i64 8, .string ⟨#[]⟩, .int .i64 0, .int .i64 0, .int .i64 65535, .int .i64 80, .int .i64 80, .int .i64 18, .int .i64 2, .int .i64 15]
  | 73 => v = .agg #[(.bool true : Value), .int .i64 0, .string ⟨#[]⟩, .int .i64 0, .string ⟨#[]⟩, .int .i64 0, .int .i64 0, .int .i64 65535, .int .i64 0, .int .i64 65535, .int .i64 0, .int .i64 0, .int .i64 15]
  | 74 => v = .bool false
  | 75 => v = .bool true
  | 76 => v = .bool true
  | 77 => v = .bool true
  | 78 => v = .agg #[(.bool false : Value), .int .i64 0, .string ⟨#[]⟩, .int .i64 0, .string ⟨#[]⟩, .int .i64 0, .int .i64 0, .int .i64 65535, .int .i64 0, .int .i64 65535, .int .i64 0, .int .i64 0, .int .i64 15]
  | 79 => v = .agg #[(.bool true : Value), .int .i64 0, .string ⟨#[10, 0, 0, 0]⟩, .int .i64 8, .string ⟨#[]⟩, .int .i64 0, .int .i64 0, .int .i64 65535, .int .i64 80, .int .i64 80, .int .i64 18, .int .i64 2, .int .i64 15]
  | 80 => v = .agg #[(.bool true : Value), .int .i64 0, .string ⟨#[10, 0, 0, 0]⟩, .int .i64 8, .string ⟨#[]⟩, .int .i64 0, .int .i64 0, .int .i64 65535, .int .i64 80, .int .i64 80, .int .i64 18, .int .i64 2, .int .i64 15]
  | 81 => ∃ b, v = .slice (some ⟨b, 0, none⟩) 3 3 ∧ Blk w b [(.bool false : Value), .int .i64 0, .string ⟨#[]⟩, .int .i64 0, .string ⟨#[]⟩, .int .i64 0, .int .i64 0, .int .i64 65535, .int .i64 0, .int .i64 65535, .int .i64 0, .int .i64 0, .int .i64 15, .bool true, .int .i64 0, .string ⟨#[10, 0, 0, 0]⟩, .int .i64 8, .string ⟨#[]⟩, .int .i64 0, .int .i64 0, .int .i64 65535, .int .i64 80, .int .i64 80, .int .i64 18, .int .i64 2, .int .i64 15, .bool true, .int .i64 0, .string ⟨#[10, 0, 0, 0]⟩, .int .i64 8, .string ⟨#[]⟩, .int .i64 0, .int .i64 0, .int .i64 65535, .int .i64 80, .int .i64 80, .int .i64 18, .int .i64 2, .int .i64 15] 43
  | 82 => ∃ B, w.ownsRow B 3 1 v (shadL R3 3).length (ints (shadL R3 3))
  | 83 => ∃ b, v = .slice (some ⟨b, 0, none⟩) 2 2 ∧ Blk w b (ints [1, 2]) 3
  | 84 => v = .bool true
  | 85 => v = .bool true
  | 86 => v = .bool true
  | 87 => v = .slice (some ⟨g, 0, none⟩) 2 2
  | 88 => ∃ B, w.ownsRow B 3 1 v (shadL R2 2).length (ints (shadL R2 2))
  | 89 => v = .int .i64 0
  | 90 => v = .bool true
  | 91 => v = .bool true
  | _ => True
theorem kA_keep (g : Nat) : ∀ t v w w', Touch (fun _ => False) w w' → kA g t v w → kA g t v w' := by
  intro t v w w' ht h
  unfold kA at *
  split at h
  · exact h
  · exact h
  · exact h
  · exact h
  · exact h
  · exact h
  · exact h
  · exact h
  · exact h
  · exact h
  · exact h
  · exact h
  · exact h
  · exact h
  · exact h
  · exact h
  · exact h
  · exact h
  · exact h
  · exact h
  · exact h
  · exact h
  · exact h
  · exact h
  · exact h
  · exact h
  · exact h
  · exact h
  · exact h
  · exact h
  · exact h
  · exact h
  · exact h
  · exact h
  · exact h
  · exact h
  · exact h
  · exact h
  · exact h
  · exact h
  · exact h
  · exact h
  · exact h
  · exact h
  · exact h
  · exact h
  · exact h
  · exact h
  · exact h
  · exact h
  · exact h
  · exact h
  · exact h
  · exact h
  · exact h
  · exact h
  · exact h
  · exact h
  · obtain ⟨b, h1, h2⟩ := h; exact ⟨b, h1, h2.keep ht (fun h => h)⟩
  · obtain ⟨B, h1⟩ := h; exact ⟨B, own_keep h1 ht (fun _ _ _ h => h)⟩
  · obtain ⟨b, h1, h2⟩ := h; exact ⟨b, h1, h2.keep ht (fun h => h)⟩
  · exact h
  · exact h
  · exact h
  · exact h
  · obtain ⟨B, h1⟩ := h; exact ⟨B, own_keep h1 ht (fun _ _ _ h => h)⟩
  · exact h
  · exact h
  · exact h
  · trivial
noncomputable def R9 : Array Oper := ((Try.f9.body.bind (findRegion 9)).getD #[])
def kS9 (p2 : Nat) (w0 w : World) : Prop := Blk w p2 [(.bool true : Value), .int .i64 0, .string ⟨#[10, 0, 0, 0]⟩, .int .i64 8, .string ⟨#[]⟩, .int .i64 0, .int .i64 0, .int .i64 65535, .int .i64 80, .int .i64 80, .int .i64 18, .int .i64 2, .int .i64 15] 43 ∧ Touch (fun _ => False) w0 w
theorem kS9_keep (p2 : Nat) (w0 : World) : ∀ w w', kS9 p2 w0 w → Touch (fun _ => False) w w' → kS9 p2 w0 w' := fun w w' ⟨h1, h5⟩ t => ⟨h1.keep t (fun h => h), h5.trans t (fun _ _ h => h)⟩
def kA9 (t : Tmp) (v : Value) (w : World) : Prop :=
  match t with
  | 5 => ∃ g, v = .slice (some ⟨g, 0, none⟩) 2 2 ∧ Blk w g [(.bool true : Value), .int .i64 0, .string ⟨#[10, 0, 0, 0]⟩, .int .i64 8, .string ⟨#[]⟩, .int .i64 0, .int .i64 0, .int .i64 65535, .int .i64 80, .int .i64 80, .int .i64 18, .int .i64 2, .int .i64 15, .bool false, .int .i64 0, .string ⟨#[]⟩, .int .i64 0, .string ⟨#[]⟩, .int .i64 0, .int .i64 0, .int .i64 65535, .int .i64 0, .int .i64 65535, .int .i64 0, .int .i64 0, .int .i64 15] 43
  | 21 => v = .agg #[(.bool true : Value), .int .i64 0, .string ⟨#[10, 0, 0, 0]⟩, .int .i64 8, .string ⟨#[]⟩, .int .i64 0, .int .i64 0, .int .i64 65535, .int .i64 80, .int .i64 80, .int .i64 18, .int .i64 2, .int .i64 15]
  | 22 => v = .agg #[(.bool false : Value), .int .i64 0, .string ⟨#[]⟩, .int .i64 0, .string ⟨#[]⟩, .int .i64 0, .int .i64 0, .int .i64 65535, .int .i64 0, .int .i64 65535, .int .i64 0, .int .i64 0, .int .i64 15]
  | 23 => ∃ g, v = .slice (some ⟨g, 0, none⟩) 2 2 ∧ Blk w g [(.bool true : Value), .int .i64 0, .string ⟨#[10, 0, 0, 0]⟩, .int .i64 8, .string ⟨#[]⟩, .int .i64 0, .int .i64 0, .int .i64 65535, .int .i64 80, .int .i64 80, .int .i64 18, .int .i64 2, .int .i64 15, .bool false, .int .i64 0, .string ⟨#[]⟩, .int .i64 0, .string ⟨#[]⟩, .int .i64 0, .int .i64 0, .int .i64 65535, .int .i64 0, .int .i64 65535, .int .i64 0, .int .i64 0, .int .i64 15] 43
  | _ => True
theorem kA9_keep : ∀ t v w w', Touch (fun _ => False) w w' → kA9 t v w → kA9 t v w' := by
  intro t v w w' ht h
  unfold kA9 at *
  split at h
  · obtain ⟨b, h1, h2⟩ := h; exact ⟨b, h1, h2.keep ht (fun h => h)⟩
  · exact h
  · exact h
  · obtain ⟨b, h1, h2⟩ := h; exact ⟨b, h1, h2.keep ht (fun h => h)⟩
  · trivial
set_option maxRecDepth 100000 in
theorem kq_0 (p2 : Nat) (w0 : World) (a0 : Act) (Q : Exit → Act → World → Prop) (k2 : a0.eval (.tmp 2) = .pointer (some ⟨p2, 0, none⟩)) : StepOk (md := .any) Try.prog R9 Q kA9 (Touch (fun _ => False)) (fun _ w => kS9 p2 w0 w) a0 0 (R9.getD 0 default) := by
  refine step_of (.inl (by kernel_rfl)) (kS9_keep p2 w0) (fun a w hC hop => ?_)
  have h2 : a.eval (.tmp 2) = _ := (hop.el 2 (by kernel_rfl)).trans k2
  exact tw_load 43 (.tmp 2) (by kernel_rfl) p2 h2 43 _ _ hC.1 Try.underlying43 (by kernel_rfl) (fun t ht => by have e : (R9.getD 0 default).dst = some 21 := (by kernel_rfl); rw [e] at ht; cases ht; exact rfl)
set_option maxRecDepth 100000 in
theorem kq_1 (p2 : Nat) (w0 : World) (a0 : Act) (Q : Exit → Act → World → Prop) (k2 : a0.eval (.tmp 2) = .pointer (some ⟨p2, 0, none⟩)) : StepOk (md := .any) Try.prog R9 Q kA9 (Touch (fun _ => False)) (fun _ w => kS9 p2 w0 w) a0 1 (R9.getD 1 default) := by
  refine step_of (.inl (by kernel_rfl)) (kS9_keep p2 w0) (fun a w hC hop => ?_)
  have hv : (#[(.const (.bool false))] : Array Operand).map a.eval = #[(.bool false : Value)] := by simp only [List.map_toArray, List.map_cons, List.map_nil]; first | done | rfl
  exact tw_call 23 #[(.const (.bool false))] #[4] (by kernel_rfl) #[(.bool false : Value)] hv (fun w => by kernel_rfl) (Calls.mono (wide23 false w) (fun e w' hh => ⟨_, hh.1, (fun t ht => by have e : (R9.getD 1 default).dst = some 22 := (by kernel_rfl); rw [e] at ht; cases ht; exact rfl), Touch.none hh.2⟩))
set_option maxRecDepth 100000 in
theorem kq_2 (p2 : Nat) (w0 : World) (a0 : Act) (Q : Exit → Act → World → Prop) (k2 : a0.eval (.tmp 2) = .pointer (some ⟨p2, 0, none⟩)) : StepOk (md := .any) Try.prog R9 Q kA9 (Touch (fun _ => False)) (fun _ w => kS9 p2 w0 w) a0 2 (R9.getD 2 default) := by
  refine step_of (.inl (by kernel_rfl)) (kS9_keep p2 w0) (fun a w hC hop => ?_)
  have h21 : kA9 21 (a.eval (.tmp 21)) w := hop.rd 21 0 (by kernel_rfl)
  replace h21 : a.eval (.tmp 21) = .agg #[(.bool true : Value), .int .i64 0, .string ⟨#[10, 0, 0, 0]⟩, .int .i64 8, .string ⟨#[]⟩, .int .i64 0, .int .i64 0, .int .i64 65535, .int .i64 80, .int .i64 80, .int .i64 18, .int .i64 2, .int .i64 15] := h21
  have h22 : kA9 22 (a.eval (.tmp 22)) w := hop.rd 22 1 (by kernel_rfl)
  replace h22 : a.eval (.tmp 22) = .agg #[(.bool false : Value), .int .i64 0, .string ⟨#[]⟩, .int .i64 0, .string ⟨#[]⟩, .int .i64 0, .int .i64 0, .int .i64 65535, .int .i64 0, .int .i64 65535, .int .i64 0, .int .i64 0, .int .i64 15] := h22
  have hv : (#[(0, (.tmp 21)), (1, (.tmp 22))] : Array (Nat × Operand)).map (fun (i, x) => (i, a.eval x)) = #[(0, (.agg #[(.bool true : Value), .int .i64 0, .string ⟨#[10, 0, 0, 0]⟩, .int .i64 8, .string ⟨#[]⟩, .int .i64 0, .int .i64 0, .int .i64 65535, .int .i64 80, .int .i64 80, .int .i64 18, .int .i64 2, .int .i64 15] : Value)), (1, (.agg #[(.bool false : Value), .int .i64 0, .string ⟨#[]⟩, .int .i64 0, .string ⟨#[]⟩, .int .i64 0, .int .i64 0, .int .i64 65535, .int .i64 0, .int .i64 65535, .int .i64 0, .int .i64 0, .int .i64 15] : Value))] := by simp only [List.map_toArray, List.map_cons, List.map_nil, h21, h22]; first | done | rfl
  obtain ⟨inf, hinf, hz0, hz1⟩ : ∃ inf, Try.prog.info? 43 = some inf ∧ inf.zero = some (.agg #[(.bool false : Value), .int .i64 0, .string ⟨#[]⟩, .int .i64 0, .string ⟨#[]⟩, .int .i64 0, .int .i64 0, .int .i64 0, .int .i64 0, .int .i64 0, .int .i64 0, .int .i64 0, .int .i64 0]) ∧ inf.size = 13 := ⟨_, rfl, rfl, rfl⟩
  exact tw_slice 22 43 2 #[(0, (.tmp 21)), (1, (.tmp 22))] (by kernel_rfl) _ hv #[(.bool true : Value), .int .i64 0, .string ⟨#[10, 0, 0, 0]⟩, .int .i64 8, .string ⟨#[]⟩, .int .i64 0, .int .i64 0, .int .i64 65535, .int .i64 80, .int .i64 80, .int .i64 18, .int .i64 2, .int .i64 15, .bool false, .int .i64 0, .string ⟨#[]⟩, .int .i64 0, .string ⟨#[]⟩, .int .i64 0, .int .i64 0, .int .i64 65535, .int .i64 0, .int .i64 65535, .int .i64 0, .int .i64 0, .int .i64 15] inf _ Try.underlying22 hinf hz0 (by rw [hz1]; decide) (by rw [hz1]; decide) (by rw [hz1]; kernel_rfl) (fun t ht => by have e : (R9.getD 2 default).dst = some 23 := (by kernel_rfl); rw [e] at ht; cases ht; exact ⟨_, rfl, Blk.new w _ _⟩)
set_option maxRecDepth 100000 in
theorem kq_3 (p2 : Nat) (w0 : World) (a0 : Act) (Q : Exit → Act → World → Prop) (k2 : a0.eval (.tmp 2) = .pointer (some ⟨p2, 0, none⟩)) : StepOk (md := .any) Try.prog R9 Q kA9 (Touch (fun _ => False)) (fun _ w => kS9 p2 w0 w) a0 3 (R9.getD 3 default) := by
  refine step_of (.inl (by kernel_rfl)) (kS9_keep p2 w0) (fun a w hC hop => ?_)
  have h23 : kA9 23 (a.eval (.tmp 23)) w := hop.rd 23 2 (by kernel_rfl)
  exact tw_move (.tmp 23) (.inr (by kernel_rfl)) (fun t ht => by have e : (R9.getD 3 default).dst = some 5 := (by kernel_rfl); rw [e] at ht; cases ht; exact h23)
set_option maxRecDepth 100000 in
theorem kq_all (p2 : Nat) (w0 : World) (a0 : Act) (Q : Exit → Act → World → Prop) (k2 : a0.eval (.tmp 2) = .pointer (some ⟨p2, 0, none⟩)) : ∀ i, i < 4 → StepOk (md := .any) Try.prog R9 Q kA9 (Touch (fun _ => False)) (fun _ w => kS9 p2 w0 w) a0 i (R9.getD i default)
  | 0, _ => kq_0 p2 w0 a0 Q k2
  | 1, _ => kq_1 p2 w0 a0 Q k2
  | 2, _ => kq_2 p2 w0 a0 Q k2
  | 3, _ => kq_3 p2 w0 a0 Q k2
  | k + 4, h => absurd h (by omega)
set_option maxRecDepth 100000 in
theorem ks_0 (p2 p3 p4 g : Nat) (w0 : World) (a0 : Act) (Q : Exit → Act → World → Prop) (k2 : a0.eval (.tmp 2) = .pointer (some ⟨p2, 0, none⟩)) (k3 : a0.eval (.tmp 3) = .pointer (some ⟨p3, 0, none⟩)) (k4 : a0.eval (.tmp 4) = .pointer (some ⟨p4, 0, none⟩)) (k5 : a0.eval (.tmp 5) = .slice (some ⟨g, 0, none⟩) 2 2) : StepOk (md := .any) Try.prog R10 Q (kA g) (Touch (fun _ => False)) (fun _ w => kS p2 p3 p4 g w0 w) a0 0 (R10.getD 0 default) := by
  refine step_of (.inl (by kernel_rfl)) (kS_keep p2 p3 p4 g w0) (fun a w hC hop => ?_)
  have h2 : a.eval (.tmp 2) = _ := (hop.el 2 (by kernel_rfl)).trans k2
  exact tw_load 43 (.tmp 2) (by kernel_rfl) p2 h2 43 _ _ hC.1 Try.underlying43 (by kernel_rfl) (fun t ht => by have e : (R10.getD 0 default).dst = some 24 := (by kernel_rfl); rw [e] at ht; cases ht; exact rfl)
set_option maxRecDepth 100000 in
theorem ks_1 (p2 p3 p4 g : Nat) (w0 : World) (a0 : Act) (Q : Exit → Act → World → Prop) (k2 : a0.eval (.tmp 2) = .pointer (some ⟨p2, 0, none⟩)) (k3 : a0.eval (.tmp 3) = .pointer (some ⟨p3, 0, none⟩)) (k4 : a0.eval (.tmp 4) = .pointer (some ⟨p4, 0, none⟩)) (k5 : a0.eval (.tmp 5) = .slice (some ⟨g, 0, none⟩) 2 2) : StepOk (md := .any) Try.prog R10 Q (kA g) (Touch (fun _ => False)) (fun _ w => kS p2 p3 p4 g w0 w) a0 1 (R10.getD 1 default) := by
  refine step_of (.inl (by kernel_rfl)) (kS_keep p2 p3 p4 g w0) (fun a w hC hop => ?_)
  have h3 : a.eval (.tmp 3) = _ := (hop.el 3 (by kernel_rfl)).trans k3
  exact tw_load 34 (.tmp 3) (by kernel_rfl) p3 h3 34 _ _ hC.2.1 Try.underlying34 (by kernel_rfl) (fun t ht => by have e : (R10.getD 1 default).dst = some 25 := (by kernel_rfl); rw [e] at ht; cases ht; exact rfl)
set_option maxRecDepth 100000 in
theorem ks_2 (p2 p3 p4 g : Nat) (w0 : World) (a0 : Act) (Q : Exit → Act → World → Prop) (k2 : a0.eval (.tmp 2) = .pointer (some ⟨p2, 0, none⟩)) (k3 : a0.eval (.tmp 3) = .pointer (some ⟨p3, 0, none⟩)) (k4 : a0.eval (.tmp 4) = .pointer (some ⟨p4, 0, none⟩)) (k5 : a0.eval (.tmp 5) = .slice (some ⟨g, 0, none⟩) 2 2) : StepOk (md := .any) Try.prog R10 Q (kA g) (Touch (fun _ => False)) (fun _ w => kS p2 p3 p4 g w0 w) a0 2 (R10.getD 2 default) := by
  refine step_of (.inl (by kernel_rfl)) (kS_keep p2 p3 p4 g w0) (fun a w hC hop => ?_)
  have h24 : (kA g) 24 (a.eval (.tmp 24)) w := hop.rd 24 0 (by kernel_rfl)
  replace h24 : a.eval (.tmp 24) = .agg #[(.bool true : Value), .int .i64 0, .string ⟨#[10, 0, 0, 0]⟩, .int .i64 8, .string ⟨#[]⟩, .int .i64 0, .int .i64 0, .int .i64 65535, .int .i64 80, .int .i64 80, .int .i64 18, .int .i64 2, .int .i64 15] := h24
  have h25 : (kA g) 25 (a.eval (.tmp 25)) w := hop.rd 25 1 (by kernel_rfl)
  replace h25 : a.eval (.tmp 25) = .agg #[(.string ⟨#[10, 0, 0, 1]⟩ : Value), .string ⟨#[10, 0, 0, 2]⟩, .int .i64 9, .int .i64 80, .int .u32 0, .int .u32 0, .int .i64 2, .int .i64 0, .int .i64 0, .int .i64 0, .int .i64 0, .bool false, .slice none 0 0, .bool false, .int .u32 0, .int .u32 0, .string ⟨#[]⟩, .int .i64 1, .int .i64 1] := h25
  have hv : (#[(.tmp 24), (.tmp 25)] : Array Operand).map a.eval = #[(.agg #[(.bool true : Value), .int .i64 0, .string ⟨#[10, 0, 0, 0]⟩, .int .i64 8, .string ⟨#[]⟩, .int .i64 0, .int .i64 0, .int .i64 65535, .int .i64 80, .int .i64 80, .int .i64 18, .int .i64 2, .int .i64 15] : Value), .agg #[(.string ⟨#[10, 0, 0, 1]⟩ : Value), .string ⟨#[10, 0, 0, 2]⟩, .int .i64 9, .int .i64 80, .int .u32 0, .int .u32 0, .int .i64 2, .int .i64 0, .int .i64 0, .int .i64 0, .int .i64 0, .bool false, .slice none 0 0, .bool false, .int .u32 0, .int .u32 0, .string ⟨#[]⟩, .int .i64 1, .int .i64 1]] := by simp only [List.map_toArray, List.map_cons, List.map_nil, h24, h25]; first | done | rfl
  exact tw_call 10 #[(.tmp 24), (.tmp 25)] #[43, 34] (by kernel_rfl) #[(.agg #[(.bool true : Value), .int .i64 0, .string ⟨#[10, 0, 0, 0]⟩, .int .i64 8, .string ⟨#[]⟩, .int .i64 0, .int .i64 0, .int .i64 65535, .int .i64 80, .int .i64 80, .int .i64 18, .int .i64 2, .int .i64 15] : Value), .agg #[(.string ⟨#[10, 0, 0, 1]⟩ : Value), .string ⟨#[10, 0, 0, 2]⟩, .int .i64 9, .int .i64 80, .int .u32 0, .int .u32 0, .int .i64 2, .int .i64 0, .int .i64 0, .int .i64 0, .int .i64 0, .bool false, .slice none 0 0, .bool false, .int .u32 0, .int .u32 0, .string ⟨#[]⟩, .int .i64 1, .int .i64 1]] hv (fun w => by kernel_rfl) (Calls.mono (one_any (netR) askA small_net.1 small_net.2 (by decide) (by decide) w) (fun e w' hh => ⟨_, hh.1.trans (by rw [v1]), (fun t ht => by have e : (R10.getD 2 default).dst = some 26 := (by kernel_rfl); rw [e] at ht; cases ht; exact rfl), Touch.none hh.2⟩))
set_option maxRecDepth 100000 in
theorem ks_3 (p2 p3 p4 g : Nat) (w0 : World) (a0 : Act) (Q : Exit → Act → World → Prop) (k2 : a0.eval (.tmp 2) = .pointer (some ⟨p2, 0, none⟩)) (k3 : a0.eval (.tmp 3) = .pointer (some ⟨p3, 0, none⟩)) (k4 : a0.eval (.tmp 4) = .pointer (some ⟨p4, 0, none⟩)) (k5 : a0.eval (.tmp 5) = .slice (some ⟨g, 0, none⟩) 2 2) : StepOk (md := .any) Try.prog R10 Q (kA g) (Touch (fun _ => False)) (fun _ w => kS p2 p3 p4 g w0 w) a0 3 (R10.getD 3 default) := by
  refine step_of (.inl (by kernel_rfl)) (kS_keep p2 p3 p4 g w0) (fun a w hC hop => ?_)
  have h26 : (kA g) 26 (a.eval (.tmp 26)) w := hop.rd 26 2 (by kernel_rfl)
  replace h26 : a.eval (.tmp 26) = .bool true := h26
  exact tw_move (.tmp 26) (.inl (by kernel_rfl)) (fun t ht => by have e : (R10.getD 3 default).dst = some 27 := (by kernel_rfl); rw [e] at ht; cases ht; exact h26)
set_option maxRecDepth 100000 in
theorem ks_4 (p2 p3 p4 g : Nat) (w0 : World) (a0 : Act) (Q : Exit → Act → World → Prop) (k2 : a0.eval (.tmp 2) = .pointer (some ⟨p2, 0, none⟩)) (k3 : a0.eval (.tmp 3) = .pointer (some ⟨p3, 0, none⟩)) (k4 : a0.eval (.tmp 4) = .pointer (some ⟨p4, 0, none⟩)) (k5 : a0.eval (.tmp 5) = .slice (some ⟨g, 0, none⟩) 2 2) : StepOk (md := .any) Try.prog R10 Q (kA g) (Touch (fun _ => False)) (fun _ w => kS p2 p3 p4 g w0 w) a0 4 (R10.getD 4 default) := by
  refine step_of (.inr ⟨3, 27, by kernel_rfl, by kernel_rfl, fun v w h => h⟩) (kS_keep p2 p3 p4 g w0) (fun a w hC hop => ?_)
  have h2 : a.eval (.tmp 2) = _ := (hop.el 2 (by kernel_rfl)).trans k2
  exact tw_load 43 (.tmp 2) (by kernel_rfl) p2 h2 43 _ _ hC.1 Try.underlying43 (by kernel_rfl) (fun t ht => by have e : (R10.getD 4 default).dst = some 28 := (by kernel_rfl); rw [e] at ht; cases ht; exact rfl)
set_option maxRecDepth 100000 in
theorem ks_5 (p2 p3 p4 g : Nat) (w0 : World) (a0 : Act) (Q : Exit → Act → World → Prop) (k2 : a0.eval (.tmp 2) = .pointer (some ⟨p2, 0, none⟩)) (k3 : a0.eval (.tmp 3) = .pointer (some ⟨p3, 0, none⟩)) (k4 : a0.eval (.tmp 4) = .pointer (some ⟨p4, 0, none⟩)) (k5 : a0.eval (.tmp 5) = .slice (some ⟨g, 0, none⟩) 2 2) : StepOk (md := .any) Try.prog R10 Q (kA g) (Touch (fun _ => False)) (fun _ w => kS p2 p3 p4 g w0 w) a0 5 (R10.getD 5 default) := by
  refine step_of (.inr ⟨3, 27, by kernel_rfl, by kernel_rfl, fun v w h => h⟩) (kS_keep p2 p3 p4 g w0) (fun a w hC hop => ?_)
  have h4 : a.eval (.tmp 4) = _ := (hop.el 4 (by kernel_rfl)).trans k4
  exact tw_load 34 (.tmp 4) (by kernel_rfl) p4 h4 34 _ _ hC.2.2.1 Try.underlying34 (by kernel_rfl) (fun t ht => by have e : (R10.getD 5 default).dst = some 29 := (by kernel_rfl); rw [e] at ht; cases ht; exact rfl)
set_option maxRecDepth 100000 in
theorem ks_6 (p2 p3 p4 g : Nat) (w0 : World) (a0 : Act) (Q : Exit → Act → World → Prop) (k2 : a0.eval (.tmp 2) = .pointer (some ⟨p2, 0, none⟩)) (k3 : a0.eval (.tmp 3) = .pointer (some ⟨p3, 0, none⟩)) (k4 : a0.eval (.tmp 4) = .pointer (some ⟨p4, 0, none⟩)) (k5 : a0.eval (.tmp 5) = .slice (some ⟨g, 0, none⟩) 2 2) : StepOk (md := .any) Try.prog R10 Q (kA g) (Touch (fun _ => False)) (fun _ w => kS p2 p3 p4 g w0 w) a0 6 (R10.getD 6 default) := by
  refine step_of (.inr ⟨3, 27, by kernel_rfl, by kernel_rfl, fun v w h => h⟩) (kS_keep p2 p3 p4 g w0) (fun a w hC hop => ?_)
  have h28 : (kA g) 28 (a.eval (.tmp 28)) w := hop.rd 28 4 (by kernel_rfl)
  replace h28 : a.eval (.tmp 28) = .agg #[(.bool true : Value), .int .i64 0, .string ⟨#[10, 0, 0, 0]⟩, .int .i64 8, .string ⟨#[]⟩, .int .i64 0, .int .i64 0, .int .i64 65535, .int .i64 80, .int .i64 80, .int .i64 18, .int .i64 2, .int .i64 15] := h28
  have h29 : (kA g) 29 (a.eval (.tmp 29)) w := hop.rd 29 5 (by kernel_rfl)
  replace h29 : a.eval (.tmp 29) = .agg #[(.string ⟨#[]⟩ : Value), .string ⟨#[]⟩, .int .i64 0, .int .i64 0, .int .u32 0, .int .u32 0, .int .i64 0, .int .i64 0, .int .i64 0, .int .i64 0, .int .i64 0, .bool false, .slice none 0 0, .bool false, .int .u32 0, .int .u32 0, .string ⟨#[]⟩, .int .i64 2, .int .i64 3] := h29
  have hv : (#[(.tmp 28), (.tmp 29)] : Array Operand).map a.eval = #[(.agg #[(.bool true : Value), .int .i64 0, .string ⟨#[10, 0, 0, 0]⟩, .int .i64 8, .string ⟨#[]⟩, .int .i64 0, .int .i64 0, .int .i64 65535, .int .i64 80, .int .i64 80, .int .i64 18, .int .i64 2, .int .i64 15] : Value), .agg #[(.string ⟨#[]⟩ : Value), .string ⟨#[]⟩, .int .i64 0, .int .i64 0, .int .u32 0, .int .u32 0, .int .i64 0, .int .i64 0, .int .i64 0, .int .i64 0, .int .i64 0, .bool false, .slice none 0 0, .bool false, .int .u32 0, .int .u32 0, .string ⟨#[]⟩, .int .i64 2, .int .i64 3]] := by simp only [List.map_toArray, List.map_cons, List.map_nil, h28, h29]; first | done | rfl
  exact tw_call 10 #[(.tmp 28), (.tmp 29)] #[43, 34] (by kernel_rfl) #[(.agg #[(.bool true : Value), .int .i64 0, .string ⟨#[10, 0, 0, 0]⟩, .int .i64 8, .string ⟨#[]⟩, .int .i64 0, .int .i64 0, .int .i64 65535, .int .i64 80, .int .i64 80, .int .i64 18, .int .i64 2, .int .i64 15] : Value), .agg #[(.string ⟨#[]⟩ : Value), .string ⟨#[]⟩, .int .i64 0, .int .i64 0, .int .u32 0, .int .u32 0, .int .i64 0, .int .i64 0, .int .i64 0, .int .i64 0, .int .i64 0, .bool false, .slice none 0 0, .bool false, .int .u32 0, .int .u32 0, .string ⟨#[]⟩, .int .i64 2, .int .i64 3]] hv (fun w => by kernel_rfl) (Calls.mono (one_any (netR) askU small_net.1 small_net.2 (by decide) (by decide) w) (fun e w' hh => ⟨_, hh.1.trans (by rw [v2]), (fun t ht => by have e : (R10.getD 6 default).dst = some 30 := (by kernel_rfl); rw [e] at ht; cases ht; exact rfl), Touch.none hh.2⟩))
set_option maxRecDepth 100000 in
theorem ks_7 (p2 p3 p4 g : Nat) (w0 : World) (a0 : Act) (Q : Exit → Act → World → Prop) (k2 : a0.eval (.tmp 2) = .pointer (some ⟨p2, 0, none⟩)) (k3 : a0.eval (.tmp 3) = .pointer (some ⟨p3, 0, none⟩)) (k4 : a0.eval (.tmp 4) = .pointer (some ⟨p4, 0, none⟩)) (k5 : a0.eval (.tmp 5) = .slice (some ⟨g, 0, none⟩) 2 2) : StepOk (md := .any) Try.prog R10 Q (kA g) (Touch (fun _ => False)) (fun _ w => kS p2 p3 p4 g w0 w) a0 7 (R10.getD 7 default) := by
  refine step_of (.inr ⟨3, 27, by kernel_rfl, by kernel_rfl, fun v w h => h⟩) (kS_keep p2 p3 p4 g w0) (fun a w hC hop => ?_)
  have h30 : (kA g) 30 (a.eval (.tmp 30)) w := hop.rd 30 6 (by kernel_rfl)
  replace h30 : a.eval (.tmp 30) = .bool false := h30
  exact tw_un .not 4 (.tmp 30) (by kernel_rfl) (.bool false) (.bool true) h30 (fun w => by kernel_rfl) (fun t ht => by have e : (R10.getD 7 default).dst = some 31 := (by kernel_rfl); rw [e] at ht; cases ht; exact rfl)
set_option maxRecDepth 100000 in
theorem ks_8 (p2 p3 p4 g : Nat) (w0 : World) (a0 : Act) (Q : Exit → Act → World → Prop) (k2 : a0.eval (.tmp 2) = .pointer (some ⟨p2, 0, none⟩)) (k3 : a0.eval (.tmp 3) = .pointer (some ⟨p3, 0, none⟩)) (k4 : a0.eval (.tmp 4) = .pointer (some ⟨p4, 0, none⟩)) (k5 : a0.eval (.tmp 5) = .slice (some ⟨g, 0, none⟩) 2 2) : StepOk (md := .any) Try.prog R10 Q (kA g) (Touch (fun _ => False)) (fun _ w => kS p2 p3 p4 g w0 w) a0 8 (R10.getD 8 default) := by
  refine step_of (.inl (by kernel_rfl)) (kS_keep p2 p3 p4 g w0) (fun a w hC hop => ?_)
  have h27 : (kA g) 27 (a.eval (.tmp 27)) w := hop.rd 27 3 (by kernel_rfl)
  replace h27 : a.eval (.tmp 27) = .bool true := h27
  have h31 : (kA g) 31 (a.eval (.tmp 31)) w := hop.rd 31 7 (by kernel_rfl)
  replace h31 : a.eval (.tmp 31) = .bool true := h31
  exact tw_pick (.tmp 27) (.tmp 31) (.const (.bool false)) (by kernel_rfl) true h27 (fun t ht => by have e : (R10.getD 8 default).dst = some 32 := (by kernel_rfl); rw [e] at ht; cases ht; exact h31)
set_option maxRecDepth 100000 in
theorem ks_9 (p2 p3 p4 g : Nat) (w0 : World) (a0 : Act) (Q : Exit → Act → World → Prop) (k2 : a0.eval (.tmp 2) = .pointer (some ⟨p2, 0, none⟩)) (k3 : a0.eval (.tmp 3) = .pointer (some ⟨p3, 0, none⟩)) (k4 : a0.eval (.tmp 4) = .pointer (some ⟨p4, 0, none⟩)) (k5 : a0.eval (.tmp 5) = .slice (some ⟨g, 0, none⟩) 2 2) : StepOk (md := .any) Try.prog R10 Q (kA g) (Touch (fun _ => False)) (fun _ w => kS p2 p3 p4 g w0 w) a0 9 (R10.getD 9 default) := by
  refine step_of (.inl (by kernel_rfl)) (kS_keep p2 p3 p4 g w0) (fun a w hC hop => ?_)
  have h32 : (kA g) 32 (a.eval (.tmp 32)) w := hop.rd 32 8 (by kernel_rfl)
  replace h32 : a.eval (.tmp 32) = .bool true := h32
  exact tw_move (.tmp 32) (.inl (by kernel_rfl)) (fun t ht => by have e : (R10.getD 9 default).dst = some 33 := (by kernel_rfl); rw [e] at ht; cases ht; exact h32)
set_option maxRecDepth 100000 in
theorem ks_10 (p2 p3 p4 g : Nat) (w0 : World) (a0 : Act) (Q : Exit → Act → World → Prop) (k2 : a0.eval (.tmp 2) = .pointer (some ⟨p2, 0, none⟩)) (k3 : a0.eval (.tmp 3) = .pointer (some ⟨p3, 0, none⟩)) (k4 : a0.eval (.tmp 4) = .pointer (some ⟨p4, 0, none⟩)) (k5 : a0.eval (.tmp 5) = .slice (some ⟨g, 0, none⟩) 2 2) : StepOk (md := .any) Try.prog R10 Q (kA g) (Touch (fun _ => False)) (fun _ w => kS p2 p3 p4 g w0 w) a0 10 (R10.getD 10 default) := by
  refine step_of (.inr ⟨9, 33, by kernel_rfl, by kernel_rfl, fun v w h => h⟩) (kS_keep p2 p3 p4 g w0) (fun a w hC hop => ?_)
  have hv : (#[(.const (.bool true))] : Array Operand).map a.eval = #[(.bool true : Value)] := by simp only [List.map_toArray, List.map_cons, List.map_nil]; first | done | rfl
  exact tw_call 23 #[(.const (.bool true))] #[4] (by kernel_rfl) #[(.bool true : Value)] hv (fun w => by kernel_rfl) (Calls.mono (wide23 true w) (fun e w' hh => ⟨_, hh.1, (fun t ht => by have e : (R10.getD 10 default).dst = some 34 := (by kernel_rfl); rw [e] at ht; cases ht; exact rfl), Touch.none hh.2⟩))
set_option maxRecDepth 100000 in
theorem ks_11 (p2 p3 p4 g : Nat) (w0 : World) (a0 : Act) (Q : Exit → Act → World → Prop) (k2 : a0.eval (.tmp 2) = .pointer (some ⟨p2, 0, none⟩)) (k3 : a0.eval (.tmp 3) = .pointer (some ⟨p3, 0, none⟩)) (k4 : a0.eval (.tmp 4) = .pointer (some ⟨p4, 0, none⟩)) (k5 : a0.eval (.tmp 5) = .slice (some ⟨g, 0, none⟩) 2 2) : StepOk (md := .any) Try.prog R10 Q (kA g) (Touch (fun _ => False)) (fun _ w => kS p2 p3 p4 g w0 w) a0 11 (R10.getD 11 default) := by
  refine step_of (.inr ⟨9, 33, by kernel_rfl, by kernel_rfl, fun v w h => h⟩) (kS_keep p2 p3 p4 g w0) (fun a w hC hop => ?_)
  have h4 : a.eval (.tmp 4) = _ := (hop.el 4 (by kernel_rfl)).trans k4
  exact tw_load 34 (.tmp 4) (by kernel_rfl) p4 h4 34 _ _ hC.2.2.1 Try.underlying34 (by kernel_rfl) (fun t ht => by have e : (R10.getD 11 default).dst = some 35 := (by kernel_rfl); rw [e] at ht; cases ht; exact rfl)
set_option maxRecDepth 100000 in
theorem ks_12 (p2 p3 p4 g : Nat) (w0 : World) (a0 : Act) (Q : Exit → Act → World → Prop) (k2 : a0.eval (.tmp 2) = .pointer (some ⟨p2, 0, none⟩)) (k3 : a0.eval (.tmp 3) = .pointer (some ⟨p3, 0, none⟩)) (k4 : a0.eval (.tmp 4) = .pointer (some ⟨p4, 0, none⟩)) (k5 : a0.eval (.tmp 5) = .slice (some ⟨g, 0, none⟩) 2 2) : StepOk (md := .any) Try.prog R10 Q (kA g) (Touch (fun _ => False)) (fun _ w => kS p2 p3 p4 g w0 w) a0 12 (R10.getD 12 default) := by
  refine step_of (.inr ⟨9, 33, by kernel_rfl, by kernel_rfl, fun v w h => h⟩) (kS_keep p2 p3 p4 g w0) (fun a w hC hop => ?_)
  have h34 : (kA g) 34 (a.eval (.tmp 34)) w := hop.rd 34 10 (by kernel_rfl)
  replace h34 : a.eval (.tmp 34) = .agg #[(.bool true : Value), .int .i64 0, .string ⟨#[]⟩, .int .i64 0, .string ⟨#[]⟩, .int .i64 0, .int .i64 0, .int .i64 65535, .int .i64 0, .int .i64 65535, .int .i64 0, .int .i64 0, .int .i64 15] := h34
  have h35 : (kA g) 35 (a.eval (.tmp 35)) w := hop.rd 35 11 (by kernel_rfl)
  replace h35 : a.eval (.tmp 35) = .agg #[(.string ⟨#[]⟩ : Value), .string ⟨#[]⟩, .int .i64 0, .int .i64 0, .int .u32 0, .int .u32 0, .int .i64 0, .int .i64 0, .int .i64 0, .int .i64 0, .int .i64 0, .bool false, .slice none 0 0, .bool false, .int .u32 0, .int .u32 0, .string ⟨#[]⟩, .int .i64 2, .int .i64 3] := h35
  have hv : (#[(.tmp 34), (.tmp 35)] : Array Operand).map a.eval = #[(.agg #[(.bool true : Value), .int .i64 0, .string ⟨#[]⟩, .int .i64 0, .string ⟨#[]⟩, .int .i64 0, .int .i64 0, .int .i64 65535, .int .i64 0, .int .i64 65535, .int .i64 0, .int .i64 0, .int .i64 15] : Value), .agg #[(.string ⟨#[]⟩ : Value), .string ⟨#[]⟩, .int .i64 0, .int .i64 0, .int .u32 0, .int .u32 0, .int .i64 0, .int .i64 0, .int .i64 0, .int .i64 0, .int .i64 0, .bool false, .slice none 0 0, .bool false, .int .u32 0, .int .u32 0, .string ⟨#[]⟩, .int .i64 2, .int .i64 3]] := by simp only [List.map_toArray, List.map_cons, List.map_nil, h34, h35]; first | done | rfl
  exact tw_call 10 #[(.tmp 34), (.tmp 35)] #[43, 34] (by kernel_rfl) #[(.agg #[(.bool true : Value), .int .i64 0, .string ⟨#[]⟩, .int .i64 0, .string ⟨#[]⟩, .int .i64 0, .int .i64 0, .int .i64 65535, .int .i64 0, .int .i64 65535, .int .i64 0, .int .i64 0, .int .i64 15] : Value), .agg #[(.string ⟨#[]⟩ : Value), .string ⟨#[]⟩, .int .i64 0, .int .i64 0, .int .u32 0, .int .u32 0, .int .i64 0, .int .i64 0, .int .i64 0, .int .i64 0, .int .i64 0, .bool false, .slice none 0 0, .bool false, .int .u32 0, .int .u32 0, .string ⟨#[]⟩, .int .i64 2, .int .i64 3]] hv (fun w => by kernel_rfl) (Calls.mono (one_any (wideR true) askU (small_wide true).1 (small_wide true).2 (by decide) (by decide) w) (fun e w' hh => ⟨_, hh.1.trans (by rw [v3.1]), (fun t ht => by have e : (R10.getD 12 default).dst = some 36 := (by kernel_rfl); rw [e] at ht; cases ht; exact rfl), Touch.none hh.2⟩))
set_option maxRecDepth 100000 in
theorem ks_13 (p2 p3 p4 g : Nat) (w0 : World) (a0 : Act) (Q : Exit → Act → World → Prop) (k2 : a0.eval (.tmp 2) = .pointer (some ⟨p2, 0, none⟩)) (k3 : a0.eval (.tmp 3) = .pointer (some ⟨p3, 0, none⟩)) (k4 : a0.eval (.tmp 4) = .pointer (some ⟨p4, 0, none⟩)) (k5 : a0.eval (.tmp 5) = .slice (some ⟨g, 0, none⟩) 2 2) : StepOk (md := .any) Try.prog R10 Q (kA g) (Touch (fun _ => False)) (fun _ w => kS p2 p3 p4 g w0 w) a0 13 (R10.getD 13 default) := by
  refine step_of (.inl (by kernel_rfl)) (kS_keep p2 p3 p4 g w0) (fun a w hC hop => ?_)
  have h33 : (kA g) 33 (a.eval (.tmp 33)) w := hop.rd 33 9 (by kernel_rfl)
  replace h33 : a.eval (.tmp 33) = .bool true := h33
  have h36 : (kA g) 36 (a.eval (.tmp 36)) w := hop.rd 36 12 (by kernel_rfl)
  replace h36 : a.eval (.tmp 36) = .bool true := h36
  exact tw_pick (.tmp 33) (.tmp 36) (.const (.bool false)) (by kernel_rfl) true h33 (fun t ht => by have e : (R10.getD 13 default).dst = some 37 := (by kernel_rfl); rw [e] at ht; cases ht; exact h36)
set_option maxRecDepth 100000 in
theorem ks_14 (p2 p3 p4 g : Nat) (w0 : World) (a0 : Act) (Q : Exit → Act → World → Prop) (k2 : a0.eval (.tmp 2) = .pointer (some ⟨p2, 0, none⟩)) (k3 : a0.eval (.tmp 3) = .pointer (some ⟨p3, 0, none⟩)) (k4 : a0.eval (.tmp 4) = .pointer (some ⟨p4, 0, none⟩)) (k5 : a0.eval (.tmp 5) = .slice (some ⟨g, 0, none⟩) 2 2) : StepOk (md := .any) Try.prog R10 Q (kA g) (Touch (fun _ => False)) (fun _ w => kS p2 p3 p4 g w0 w) a0 14 (R10.getD 14 default) := by
  refine step_of (.inl (by kernel_rfl)) (kS_keep p2 p3 p4 g w0) (fun a w hC hop => ?_)
  have h37 : (kA g) 37 (a.eval (.tmp 37)) w := hop.rd 37 13 (by kernel_rfl)
  replace h37 : a.eval (.tmp 37) = .bool true := h37
  exact tw_move (.tmp 37) (.inl (by kernel_rfl)) (fun t ht => by have e : (R10.getD 14 default).dst = some 38 := (by kernel_rfl); rw [e] at ht; cases ht; exact h37)
set_option maxRecDepth 100000 in
theorem ks_15 (p2 p3 p4 g : Nat) (w0 : World) (a0 : Act) (Q : Exit → Act → World → Prop) (k2 : a0.eval (.tmp 2) = .pointer (some ⟨p2, 0, none⟩)) (k3 : a0.eval (.tmp 3) = .pointer (some ⟨p3, 0, none⟩)) (k4 : a0.eval (.tmp 4) = .pointer (some ⟨p4, 0, none⟩)) (k5 : a0.eval (.tmp 5) = .slice (some ⟨g, 0, none⟩) 2 2) : StepOk (md := .any) Try.prog R10 Q (kA g) (Touch (fun _ => False)) (fun _ w => kS p2 p3 p4 g w0 w) a0 15 (R10.getD 15 default) := by
  refine step_of (.inr ⟨14, 38, by kernel_rfl, by kernel_rfl, fun v w h => h⟩) (kS_keep p2 p3 p4 g w0) (fun a w hC hop => ?_)
  have h5 : a.eval (.tmp 5) = _ := (hop.el 5 (by kernel_rfl)).trans k5
  exact tw_move (.tmp 5) (.inl (by kernel_rfl)) (fun t ht => by have e : (R10.getD 15 default).dst = some 39 := (by kernel_rfl); rw [e] at ht; cases ht; exact h5)
set_option maxRecDepth 100000 in
theorem ks_16 (p2 p3 p4 g : Nat) (w0 : World) (a0 : Act) (Q : Exit → Act → World → Prop) (k2 : a0.eval (.tmp 2) = .pointer (some ⟨p2, 0, none⟩)) (k3 : a0.eval (.tmp 3) = .pointer (some ⟨p3, 0, none⟩)) (k4 : a0.eval (.tmp 4) = .pointer (some ⟨p4, 0, none⟩)) (k5 : a0.eval (.tmp 5) = .slice (some ⟨g, 0, none⟩) 2 2) : StepOk (md := .any) Try.prog R10 Q (kA g) (Touch (fun _ => False)) (fun _ w => kS p2 p3 p4 g w0 w) a0 16 (R10.getD 16 default) := by
  refine step_of (.inr ⟨14, 38, by kernel_rfl, by kernel_rfl, fun v w h => h⟩) (kS_keep p2 p3 p4 g w0) (fun a w hC hop => ?_)
  have h3 : a.eval (.tmp 3) = _ := (hop.el 3 (by kernel_rfl)).trans k3
  exact tw_load 34 (.tmp 3) (by kernel_rfl) p3 h3 34 _ _ hC.2.1 Try.underlying34 (by kernel_rfl) (fun t ht => by have e : (R10.getD 16 default).dst = some 40 := (by kernel_rfl); rw [e] at ht; cases ht; exact rfl)
set_option maxRecDepth 100000 in
theorem ks_17 (p2 p3 p4 g : Nat) (w0 : World) (a0 : Act) (Q : Exit → Act → World → Prop) (k2 : a0.eval (.tmp 2) = .pointer (some ⟨p2, 0, none⟩)) (k3 : a0.eval (.tmp 3) = .pointer (some ⟨p3, 0, none⟩)) (k4 : a0.eval (.tmp 4) = .pointer (some ⟨p4, 0, none⟩)) (k5 : a0.eval (.tmp 5) = .slice (some ⟨g, 0, none⟩) 2 2) : StepOk (md := .any) Try.prog R10 Q (kA g) (Touch (fun _ => False)) (fun _ w => kS p2 p3 p4 g w0 w) a0 17 (R10.getD 17 default) := by
  refine step_of (.inr ⟨14, 38, by kernel_rfl, by kernel_rfl, fun v w h => h⟩) (kS_keep p2 p3 p4 g w0) (fun a w hC hop => ?_)
  have h39 : (kA g) 39 (a.eval (.tmp 39)) w := hop.rd 39 15 (by kernel_rfl)
  replace h39 : a.eval (.tmp 39) = .slice (some ⟨g, 0, none⟩) 2 2 := h39
  have h40 : (kA g) 40 (a.eval (.tmp 40)) w := hop.rd 40 16 (by kernel_rfl)
  replace h40 : a.eval (.tmp 40) = .agg #[(.string ⟨#[10, 0, 0, 1]⟩ : Value), .string ⟨#[10, 0, 0, 2]⟩, .int .i64 9, .int .i64 80, .int .u32 0, .int .u32 0, .int .i64 2, .int .i64 0, .int .i64 0, .int .i64 0, .int .i64 0, .bool false, .slice none 0 0, .bool false, .int .u32 0, .int .u32 0, .string ⟨#[]⟩, .int .i64 1, .int .i64 1] := h40
  have hv : (#[(.tmp 39), (.tmp 40)] : Array Operand).map a.eval = #[(.slice (some ⟨g, 0, none⟩) 2 2 : Value), .agg #[(.string ⟨#[10, 0, 0, 1]⟩ : Value), .string ⟨#[10, 0, 0, 2]⟩, .int .i64 9, .int .i64 80, .int .u32 0, .int .u32 0, .int .i64 2, .int .i64 0, .int .i64 0, .int .i64 0, .int .i64 0, .bool false, .slice none 0 0, .bool false, .int .u32 0, .int .u32 0, .string ⟨#[]⟩, .int .i64 1, .int .i64 1]] := by simp only [List.map_toArray, List.map_cons, List.map_nil, h39, h40]; first | done | rfl
  exact tw_call 13 #[(.tmp 39), (.tmp 40)] #[22, 34] (by kernel_rfl) #[(.slice (some ⟨g, 0, none⟩) 2 2 : Value), .agg #[(.string ⟨#[10, 0, 0, 1]⟩ : Value), .string ⟨#[10, 0, 0, 2]⟩, .int .i64 9, .int .i64 80, .int .u32 0, .int .u32 0, .int .i64 2, .int .i64 0, .int .i64 0, .int .i64 0, .int .i64 0, .bool false, .slice none 0 0, .bool false, .int .u32 0, .int .u32 0, .string ⟨#[]⟩, .int .i64 1, .int .i64 1]] hv (fun w => by kernel_rfl) (Calls.mono (first_any _ 2 2 R2 askA w (rules2 hC.2.2.2.1) (by decide) small2 (by decide) (by decide)) (fun e w' hh => ⟨_, hh.1.trans (by rw [f2a]), (fun t ht => by have e : (R10.getD 17 default).dst = some 41 := (by kernel_rfl); rw [e] at ht; cases ht; exact rfl), Touch.none hh.2⟩))
set_option maxRecDepth 100000 in
theorem ks_18 (p2 p3 p4 g : Nat) (w0 : World) (a0 : Act) (Q : Exit → Act → World → Prop) (k2 : a0.eval (.tmp 2) = .pointer (some ⟨p2, 0, none⟩)) (k3 : a0.eval (.tmp 3) = .pointer (some ⟨p3, 0, none⟩)) (k4 : a0.eval (.tmp 4) = .pointer (some ⟨p4, 0, none⟩)) (k5 : a0.eval (.tmp 5) = .slice (some ⟨g, 0, none⟩) 2 2) : StepOk (md := .any) Try.prog R10 Q (kA g) (Touch (fun _ => False)) (fun _ w => kS p2 p3 p4 g w0 w) a0 18 (R10.getD 18 default) := by
  refine step_of (.inr ⟨14, 38, by kernel_rfl, by kernel_rfl, fun v w h => h⟩) (kS_keep p2 p3 p4 g w0) (fun a w hC hop => ?_)
  have h41 : (kA g) 41 (a.eval (.tmp 41)) w := hop.rd 41 17 (by kernel_rfl)
  replace h41 : a.eval (.tmp 41) = .int .i64 0 := h41
  exact tw_bin .eql 3 3 (.tmp 41) (.const (.int .i64 0)) (by kernel_rfl) (.int .i64 0) (.int .i64 0) (.bool true) h41 rfl (fun w => by kernel_rfl) (fun t ht => by have e : (R10.getD 18 default).dst = some 42 := (by kernel_rfl); rw [e] at ht; cases ht; exact rfl)
set_option maxRecDepth 100000 in
theorem ks_19 (p2 p3 p4 g : Nat) (w0 : World) (a0 : Act) (Q : Exit → Act → World → Prop) (k2 : a0.eval (.tmp 2) = .pointer (some ⟨p2, 0, none⟩)) (k3 : a0.eval (.tmp 3) = .pointer (some ⟨p3, 0, none⟩)) (k4 : a0.eval (.tmp 4) = .pointer (some ⟨p4, 0, none⟩)) (k5 : a0.eval (.tmp 5) = .slice (some ⟨g, 0, none⟩) 2 2) : StepOk (md := .any) Try.prog R10 Q (kA g) (Touch (fun _ => False)) (fun _ w => kS p2 p3 p4 g w0 w) a0 19 (R10.getD 19 default) := by
  refine step_of (.inl (by kernel_rfl)) (kS_keep p2 p3 p4 g w0) (fun a w hC hop => ?_)
  have h38 : (kA g) 38 (a.eval (.tmp 38)) w := hop.rd 38 14 (by kernel_rfl)
  replace h38 : a.eval (.tmp 38) = .bool true := h38
  have h42 : (kA g) 42 (a.eval (.tmp 42)) w := hop.rd 42 18 (by kernel_rfl)
  replace h42 : a.eval (.tmp 42) = .bool true := h42
  exact tw_pick (.tmp 38) (.tmp 42) (.const (.bool false)) (by kernel_rfl) true h38 (fun t ht => by have e : (R10.getD 19 default).dst = some 43 := (by kernel_rfl); rw [e] at ht; cases ht; exact h42)
set_option maxRecDepth 100000 in
theorem ks_20 (p2 p3 p4 g : Nat) (w0 : World) (a0 : Act) (Q : Exit → Act → World → Prop) (k2 : a0.eval (.tmp 2) = .pointer (some ⟨p2, 0, none⟩)) (k3 : a0.eval (.tmp 3) = .pointer (some ⟨p3, 0, none⟩)) (k4 : a0.eval (.tmp 4) = .pointer (some ⟨p4, 0, none⟩)) (k5 : a0.eval (.tmp 5) = .slice (some ⟨g, 0, none⟩) 2 2) : StepOk (md := .any) Try.prog R10 Q (kA g) (Touch (fun _ => False)) (fun _ w => kS p2 p3 p4 g w0 w) a0 20 (R10.getD 20 default) := by
  refine step_of (.inl (by kernel_rfl)) (kS_keep p2 p3 p4 g w0) (fun a w hC hop => ?_)
  have h43 : (kA g) 43 (a.eval (.tmp 43)) w := hop.rd 43 19 (by kernel_rfl)
  replace h43 : a.eval (.tmp 43) = .bool true := h43
  exact tw_move (.tmp 43) (.inl (by kernel_rfl)) (fun t ht => by have e : (R10.getD 20 default).dst = some 44 := (by kernel_rfl); rw [e] at ht; cases ht; exact h43)
set_option maxRecDepth 100000 in
theorem ks_21 (p2 p3 p4 g : Nat) (w0 : World) (a0 : Act) (Q : Exit → Act → World → Prop) (k2 : a0.eval (.tmp 2) = .pointer (some ⟨p2, 0, none⟩)) (k3 : a0.eval (.tmp 3) = .pointer (some ⟨p3, 0, none⟩)) (k4 : a0.eval (.tmp 4) = .pointer (some ⟨p4, 0, none⟩)) (k5 : a0.eval (.tmp 5) = .slice (some ⟨g, 0, none⟩) 2 2) : StepOk (md := .any) Try.prog R10 Q (kA g) (Touch (fun _ => False)) (fun _ w => kS p2 p3 p4 g w0 w) a0 21 (R10.getD 21 default) := by
  refine step_of (.inr ⟨20, 44, by kernel_rfl, by kernel_rfl, fun v w h => h⟩) (kS_keep p2 p3 p4 g w0) (fun a w hC hop => ?_)
  have h5 : a.eval (.tmp 5) = _ := (hop.el 5 (by kernel_rfl)).trans k5
  exact tw_move (.tmp 5) (.inl (by kernel_rfl)) (fun t ht => by have e : (R10.getD 21 default).dst = some 45 := (by kernel_rfl); rw [e] at ht; cases ht; exact h5)
set_option maxRecDepth 100000 in
theorem ks_22 (p2 p3 p4 g : Nat) (w0 : World) (a0 : Act) (Q : Exit → Act → World → Prop) (k2 : a0.eval (.tmp 2) = .pointer (some ⟨p2, 0, none⟩)) (k3 : a0.eval (.tmp 3) = .pointer (some ⟨p3, 0, none⟩)) (k4 : a0.eval (.tmp 4) = .pointer (some ⟨p4, 0, none⟩)) (k5 : a0.eval (.tmp 5) = .slice (some ⟨g, 0, none⟩) 2 2) : StepOk (md := .any) Try.prog R10 Q (kA g) (Touch (fun _ => False)) (fun _ w => kS p2 p3 p4 g w0 w) a0 22 (R10.getD 22 default) := by
  refine step_of (.inr ⟨20, 44, by kernel_rfl, by kernel_rfl, fun v w h => h⟩) (kS_keep p2 p3 p4 g w0) (fun a w hC hop => ?_)
  have h4 : a.eval (.tmp 4) = _ := (hop.el 4 (by kernel_rfl)).trans k4
  exact tw_load 34 (.tmp 4) (by kernel_rfl) p4 h4 34 _ _ hC.2.2.1 Try.underlying34 (by kernel_rfl) (fun t ht => by have e : (R10.getD 22 default).dst = some 46 := (by kernel_rfl); rw [e] at ht; cases ht; exact rfl)
set_option maxRecDepth 100000 in
theorem ks_23 (p2 p3 p4 g : Nat) (w0 : World) (a0 : Act) (Q : Exit → Act → World → Prop) (k2 : a0.eval (.tmp 2) = .pointer (some ⟨p2, 0, none⟩)) (k3 : a0.eval (.tmp 3) = .pointer (some ⟨p3, 0, none⟩)) (k4 : a0.eval (.tmp 4) = .pointer (some ⟨p4, 0, none⟩)) (k5 : a0.eval (.tmp 5) = .slice (some ⟨g, 0, none⟩) 2 2) : StepOk (md := .any) Try.prog R10 Q (kA g) (Touch (fun _ => False)) (fun _ w => kS p2 p3 p4 g w0 w) a0 23 (R10.getD 23 default) := by
  refine step_of (.inr ⟨20, 44, by kernel_rfl, by kernel_rfl, fun v w h => h⟩) (kS_keep p2 p3 p4 g w0) (fun a w hC hop => ?_)
  have h45 : (kA g) 45 (a.eval (.tmp 45)) w := hop.rd 45 21 (by kernel_rfl)
  replace h45 : a.eval (.tmp 45) = .slice (some ⟨g, 0, none⟩) 2 2 := h45
  have h46 : (kA g) 46 (a.eval (.tmp 46)) w := hop.rd 46 22 (by kernel_rfl)
  replace h46 : a.eval (.tmp 46) = .agg #[(.string ⟨#[]⟩ : Value), .string ⟨#[]⟩, .int .i64 0, .int .i64 0, .int .u32 0, .int .u32 0, .int .i64 0, .int .i64 0, .int .i64 0, .int .i64 0, .int .i64 0, .bool false, .slice none 0 0, .bool false, .int .u32 0, .int .u32 0, .string ⟨#[]⟩, .int .i64 2, .int .i64 3] := h46
  have hv : (#[(.tmp 45), (.tmp 46)] : Array Operand).map a.eval = #[(.slice (some ⟨g, 0, none⟩) 2 2 : Value), .agg #[(.string ⟨#[]⟩ : Value), .string ⟨#[]⟩, .int .i64 0, .int .i64 0, .int .u32 0, .int .u32 0, .int .i64 0, .int .i64 0, .int .i64 0, .int .i64 0, .int .i64 0, .bool false, .slice none 0 0, .bool false, .int .u32 0, .int .u32 0, .string ⟨#[]⟩, .int .i64 2, .int .i64 3]] := by simp only [List.map_toArray, List.map_cons, List.map_nil, h45, h46]; first | done | rfl
  exact tw_call 13 #[(.tmp 45), (.tmp 46)] #[22, 34] (by kernel_rfl) #[(.slice (some ⟨g, 0, none⟩) 2 2 : Value), .agg #[(.string ⟨#[]⟩ : Value), .string ⟨#[]⟩, .int .i64 0, .int .i64 0, .int .u32 0, .int .u32 0, .int .i64 0, .int .i64 0, .int .i64 0, .int .i64 0, .int .i64 0, .bool false, .slice none 0 0, .bool false, .int .u32 0, .int .u32 0, .string ⟨#[]⟩, .int .i64 2, .int .i64 3]] hv (fun w => by kernel_rfl) (Calls.mono (first_any _ 2 2 R2 askU w (rules2 hC.2.2.2.1) (by decide) small2 (by decide) (by decide)) (fun e w' hh => ⟨_, hh.1.trans (by rw [f2u]), (fun t ht => by have e : (R10.getD 23 default).dst = some 47 := (by kernel_rfl); rw [e] at ht; cases ht; exact rfl), Touch.none hh.2⟩))
set_option maxRecDepth 100000 in
theorem ks_24 (p2 p3 p4 g : Nat) (w0 : World) (a0 : Act) (Q : Exit → Act → World → Prop) (k2 : a0.eval (.tmp 2) = .pointer (some ⟨p2, 0, none⟩)) (k3 : a0.eval (.tmp 3) = .pointer (some ⟨p3, 0, none⟩)) (k4 : a0.eval (.tmp 4) = .pointer (some ⟨p4, 0, none⟩)) (k5 : a0.eval (.tmp 5) = .slice (some ⟨g, 0, none⟩) 2 2) : StepOk (md := .any) Try.prog R10 Q (kA g) (Touch (fun _ => False)) (fun _ w => kS p2 p3 p4 g w0 w) a0 24 (R10.getD 24 default) := by
  refine step_of (.inr ⟨20, 44, by kernel_rfl, by kernel_rfl, fun v w h => h⟩) (kS_keep p2 p3 p4 g w0) (fun a w hC hop => ?_)
  have h47 : (kA g) 47 (a.eval (.tmp 47)) w := hop.rd 47 23 (by kernel_rfl)
  replace h47 : a.eval (.tmp 47) = .int .i64 1 := h47
  exact tw_bin .eql 3 3 (.tmp 47) (.const (.int .i64 1)) (by kernel_rfl) (.int .i64 1) (.int .i64 1) (.bool true) h47 rfl (fun w => by kernel_rfl) (fun t ht => by have e : (R10.getD 24 default).dst = some 48 := (by kernel_rfl); rw [e] at ht; cases ht; exact rfl)
set_option maxRecDepth 100000 in
theorem ks_25 (p2 p3 p4 g : Nat) (w0 : World) (a0 : Act) (Q : Exit → Act → World → Prop) (k2 : a0.eval (.tmp 2) = .pointer (some ⟨p2, 0, none⟩)) (k3 : a0.eval (.tmp 3) = .pointer (some ⟨p3, 0, none⟩)) (k4 : a0.eval (.tmp 4) = .pointer (some ⟨p4, 0, none⟩)) (k5 : a0.eval (.tmp 5) = .slice (some ⟨g, 0, none⟩) 2 2) : StepOk (md := .any) Try.prog R10 Q (kA g) (Touch (fun _ => False)) (fun _ w => kS p2 p3 p4 g w0 w) a0 25 (R10.getD 25 default) := by
  refine step_of (.inl (by kernel_rfl)) (kS_keep p2 p3 p4 g w0) (fun a w hC hop => ?_)
  have h44 : (kA g) 44 (a.eval (.tmp 44)) w := hop.rd 44 20 (by kernel_rfl)
  replace h44 : a.eval (.tmp 44) = .bool true := h44
  have h48 : (kA g) 48 (a.eval (.tmp 48)) w := hop.rd 48 24 (by kernel_rfl)
  replace h48 : a.eval (.tmp 48) = .bool true := h48
  exact tw_pick (.tmp 44) (.tmp 48) (.const (.bool false)) (by kernel_rfl) true h44 (fun t ht => by have e : (R10.getD 25 default).dst = some 49 := (by kernel_rfl); rw [e] at ht; cases ht; exact h48)
set_option maxRecDepth 100000 in
theorem ks_26 (p2 p3 p4 g : Nat) (w0 : World) (a0 : Act) (Q : Exit → Act → World → Prop) (k2 : a0.eval (.tmp 2) = .pointer (some ⟨p2, 0, none⟩)) (k3 : a0.eval (.tmp 3) = .pointer (some ⟨p3, 0, none⟩)) (k4 : a0.eval (.tmp 4) = .pointer (some ⟨p4, 0, none⟩)) (k5 : a0.eval (.tmp 5) = .slice (some ⟨g, 0, none⟩) 2 2) : StepOk (md := .any) Try.prog R10 Q (kA g) (Touch (fun _ => False)) (fun _ w => kS p2 p3 p4 g w0 w) a0 26 (R10.getD 26 default) := by
  refine step_of (.inl (by kernel_rfl)) (kS_keep p2 p3 p4 g w0) (fun a w hC hop => ?_)
  have h49 : (kA g) 49 (a.eval (.tmp 49)) w := hop.rd 49 25 (by kernel_rfl)
  replace h49 : a.eval (.tmp 49) = .bool true := h49
  exact tw_move (.tmp 49) (.inl (by kernel_rfl)) (fun t ht => by have e : (R10.getD 26 default).dst = some 50 := (by kernel_rfl); rw [e] at ht; cases ht; exact h49)
set_option maxRecDepth 100000 in
theorem ks_27 (p2 p3 p4 g : Nat) (w0 : World) (a0 : Act) (Q : Exit → Act → World → Prop) (k2 : a0.eval (.tmp 2) = .pointer (some ⟨p2, 0, none⟩)) (k3 : a0.eval (.tmp 3) = .pointer (some ⟨p3, 0, none⟩)) (k4 : a0.eval (.tmp 4) = .pointer (some ⟨p4, 0, none⟩)) (k5 : a0.eval (.tmp 5) = .slice (some ⟨g, 0, none⟩) 2 2) : StepOk (md := .any) Try.prog R10 Q (kA g) (Touch (fun _ => False)) (fun _ w => kS p2 p3 p4 g w0 w) a0 27 (R10.getD 27 default) := by
  refine step_of (.inr ⟨26, 50, by kernel_rfl, by kernel_rfl, fun v w h => h⟩) (kS_keep p2 p3 p4 g w0) (fun a w hC hop => ?_)
  have h5 : a.eval (.tmp 5) = _ := (hop.el 5 (by kernel_rfl)).trans k5
  exact tw_move (.tmp 5) (.inl (by kernel_rfl)) (fun t ht => by have e : (R10.getD 27 default).dst = some 51 := (by kernel_rfl); rw [e] at ht; cases ht; exact h5)
set_option maxRecDepth 100000 in
theorem ks_28 (p2 p3 p4 g : Nat) (w0 : World) (a0 : Act) (Q : Exit → Act → World → Prop) (k2 : a0.eval (.tmp 2) = .pointer (some ⟨p2, 0, none⟩)) (k3 : a0.eval (.tmp 3) = .pointer (some ⟨p3, 0, none⟩)) (k4 : a0.eval (.tmp 4) = .pointer (some ⟨p4, 0, none⟩)) (k5 : a0.eval (.tmp 5) = .slice (some ⟨g, 0, none⟩) 2 2) : StepOk (md := .any) Try.prog R10 Q (kA g) (Touch (fun _ => False)) (fun _ w => kS p2 p3 p4 g w0 w) a0 28 (R10.getD 28 default) := by
  refine step_of (.inr ⟨26, 50, by kernel_rfl, by kernel_rfl, fun v w h => h⟩) (kS_keep p2 p3 p4 g w0) (fun a w hC hop => ?_)
  have h3 : a.eval (.tmp 3) = _ := (hop.el 3 (by kernel_rfl)).trans k3
  exact tw_load 34 (.tmp 3) (by kernel_rfl) p3 h3 34 _ _ hC.2.1 Try.underlying34 (by kernel_rfl) (fun t ht => by have e : (R10.getD 28 default).dst = some 52 := (by kernel_rfl); rw [e] at ht; cases ht; exact rfl)
set_option maxRecDepth 100000 in
theorem ks_29 (p2 p3 p4 g : Nat) (w0 : World) (a0 : Act) (Q : Exit → Act → World → Prop) (k2 : a0.eval (.tmp 2) = .pointer (some ⟨p2, 0, none⟩)) (k3 : a0.eval (.tmp 3) = .pointer (some ⟨p3, 0, none⟩)) (k4 : a0.eval (.tmp 4) = .pointer (some ⟨p4, 0, none⟩)) (k5 : a0.eval (.tmp 5) = .slice (some ⟨g, 0, none⟩) 2 2) : StepOk (md := .any) Try.prog R10 Q (kA g) (Touch (fun _ => False)) (fun _ w => kS p2 p3 p4 g w0 w) a0 29 (R10.getD 29 default) := by
  refine step_of (.inr ⟨26, 50, by kernel_rfl, by kernel_rfl, fun v w h => h⟩) (kS_keep p2 p3 p4 g w0) (fun a w hC hop => ?_)
  have h51 : (kA g) 51 (a.eval (.tmp 51)) w := hop.rd 51 27 (by kernel_rfl)
  replace h51 : a.eval (.tmp 51) = .slice (some ⟨g, 0, none⟩) 2 2 := h51
  have h52 : (kA g) 52 (a.eval (.tmp 52)) w := hop.rd 52 28 (by kernel_rfl)
  replace h52 : a.eval (.tmp 52) = .agg #[(.string ⟨#[10, 0, 0, 1]⟩ : Value), .string ⟨#[10, 0, 0, 2]⟩, .int .i64 9, .int .i64 80, .int .u32 0, .int .u32 0, .int .i64 2, .int .i64 0, .int .i64 0, .int .i64 0, .int .i64 0, .bool false, .slice none 0 0, .bool false, .int .u32 0, .int .u32 0, .string ⟨#[]⟩, .int .i64 1, .int .i64 1] := h52
  have hv : (#[(.tmp 51), (.tmp 52)] : Array Operand).map a.eval = #[(.slice (some ⟨g, 0, none⟩) 2 2 : Value), .agg #[(.string ⟨#[10, 0, 0, 1]⟩ : Value), .string ⟨#[10, 0, 0, 2]⟩, .int .i64 9, .int .i64 80, .int .u32 0, .int .u32 0, .int .i64 2, .int .i64 0, .int .i64 0, .int .i64 0, .int .i64 0, .bool false, .slice none 0 0, .bool false, .int .u32 0, .int .u32 0, .string ⟨#[]⟩, .int .i64 1, .int .i64 1]] := by simp only [List.map_toArray, List.map_cons, List.map_nil, h51, h52]; first | done | rfl
  exact tw_call 16 #[(.tmp 51), (.tmp 52)] #[22, 34] (by kernel_rfl) #[(.slice (some ⟨g, 0, none⟩) 2 2 : Value), .agg #[(.string ⟨#[10, 0, 0, 1]⟩ : Value), .string ⟨#[10, 0, 0, 2]⟩, .int .i64 9, .int .i64 80, .int .u32 0, .int .u32 0, .int .i64 2, .int .i64 0, .int .i64 0, .int .i64 0, .int .i64 0, .bool false, .slice none 0 0, .bool false, .int .u32 0, .int .u32 0, .string ⟨#[]⟩, .int .i64 1, .int .i64 1]] hv (fun w => by kernel_rfl) (Calls.mono (accepts_any _ 2 2 R2 askA w (rules2 hC.2.2.2.1) (by decide) small2 (by decide) (by decide)) (fun e w' hh => ⟨_, hh.1.trans (by rw [acc2a]), (fun t ht => by have e : (R10.getD 29 default).dst = some 53 := (by kernel_rfl); rw [e] at ht; cases ht; exact rfl), Touch.none hh.2⟩))
set_option maxRecDepth 100000 in
theorem ks_30 (p2 p3 p4 g : Nat) (w0 : World) (a0 : Act) (Q : Exit → Act → World → Prop) (k2 : a0.eval (.tmp 2) = .pointer (some ⟨p2, 0, none⟩)) (k3 : a0.eval (.tmp 3) = .pointer (some ⟨p3, 0, none⟩)) (k4 : a0.eval (.tmp 4) = .pointer (some ⟨p4, 0, none⟩)) (k5 : a0.eval (.tmp 5) = .slice (some ⟨g, 0, none⟩) 2 2) : StepOk (md := .any) Try.prog R10 Q (kA g) (Touch (fun _ => False)) (fun _ w => kS p2 p3 p4 g w0 w) a0 30 (R10.getD 30 default) := by
  refine step_of (.inl (by kernel_rfl)) (kS_keep p2 p3 p4 g w0) (fun a w hC hop => ?_)
  have h50 : (kA g) 50 (a.eval (.tmp 50)) w := hop.rd 50 26 (by kernel_rfl)
  replace h50 : a.eval (.tmp 50) = .bool true := h50
  have h53 : (kA g) 53 (a.eval (.tmp 53)) w := hop.rd 53 29 (by kernel_rfl)
  replace h53 : a.eval (.tmp 53) = .bool true := h53
  exact tw_pick (.tmp 50) (.tmp 53) (.const (.bool false)) (by kernel_rfl) true h50 (fun t ht => by have e : (R10.getD 30 default).dst = some 54 := (by kernel_rfl); rw [e] at ht; cases ht; exact h53)
set_option maxRecDepth 100000 in
theorem ks_31 (p2 p3 p4 g : Nat) (w0 : World) (a0 : Act) (Q : Exit → Act → World → Prop) (k2 : a0.eval (.tmp 2) = .pointer (some ⟨p2, 0, none⟩)) (k3 : a0.eval (.tmp 3) = .pointer (some ⟨p3, 0, none⟩)) (k4 : a0.eval (.tmp 4) = .pointer (some ⟨p4, 0, none⟩)) (k5 : a0.eval (.tmp 5) = .slice (some ⟨g, 0, none⟩) 2 2) : StepOk (md := .any) Try.prog R10 Q (kA g) (Touch (fun _ => False)) (fun _ w => kS p2 p3 p4 g w0 w) a0 31 (R10.getD 31 default) := by
  refine step_of (.inl (by kernel_rfl)) (kS_keep p2 p3 p4 g w0) (fun a w hC hop => ?_)
  have h54 : (kA g) 54 (a.eval (.tmp 54)) w := hop.rd 54 30 (by kernel_rfl)
  replace h54 : a.eval (.tmp 54) = .bool true := h54
  exact tw_move (.tmp 54) (.inl (by kernel_rfl)) (fun t ht => by have e : (R10.getD 31 default).dst = some 55 := (by kernel_rfl); rw [e] at ht; cases ht; exact h54)
set_option maxRecDepth 100000 in
theorem ks_32 (p2 p3 p4 g : Nat) (w0 : World) (a0 : Act) (Q : Exit → Act → World → Prop) (k2 : a0.eval (.tmp 2) = .pointer (some ⟨p2, 0, none⟩)) (k3 : a0.eval (.tmp 3) = .pointer (some ⟨p3, 0, none⟩)) (k4 : a0.eval (.tmp 4) = .pointer (some ⟨p4, 0, none⟩)) (k5 : a0.eval (.tmp 5) = .slice (some ⟨g, 0, none⟩) 2 2) : StepOk (md := .any) Try.prog R10 Q (kA g) (Touch (fun _ => False)) (fun _ w => kS p2 p3 p4 g w0 w) a0 32 (R10.getD 32 default) := by
  refine step_of (.inr ⟨31, 55, by kernel_rfl, by kernel_rfl, fun v w h => h⟩) (kS_keep p2 p3 p4 g w0) (fun a w hC hop => ?_)
  have h5 : a.eval (.tmp 5) = _ := (hop.el 5 (by kernel_rfl)).trans k5
  exact tw_move (.tmp 5) (.inl (by kernel_rfl)) (fun t ht => by have e : (R10.getD 32 default).dst = some 56 := (by kernel_rfl); rw [e] at ht; cases ht; exact h5)
set_option maxRecDepth 100000 in
theorem ks_33 (p2 p3 p4 g : Nat) (w0 : World) (a0 : Act) (Q : Exit → Act → World → Prop) (k2 : a0.eval (.tmp 2) = .pointer (some ⟨p2, 0, none⟩)) (k3 : a0.eval (.tmp 3) = .pointer (some ⟨p3, 0, none⟩)) (k4 : a0.eval (.tmp 4) = .pointer (some ⟨p4, 0, none⟩)) (k5 : a0.eval (.tmp 5) = .slice (some ⟨g, 0, none⟩) 2 2) : StepOk (md := .any) Try.prog R10 Q (kA g) (Touch (fun _ => False)) (fun _ w => kS p2 p3 p4 g w0 w) a0 33 (R10.getD 33 default) := by
  refine step_of (.inr ⟨31, 55, by kernel_rfl, by kernel_rfl, fun v w h => h⟩) (kS_keep p2 p3 p4 g w0) (fun a w hC hop => ?_)
  have h4 : a.eval (.tmp 4) = _ := (hop.el 4 (by kernel_rfl)).trans k4
  exact tw_load 34 (.tmp 4) (by kernel_rfl) p4 h4 34 _ _ hC.2.2.1 Try.underlying34 (by kernel_rfl) (fun t ht => by have e : (R10.getD 33 default).dst = some 57 := (by kernel_rfl); rw [e] at ht; cases ht; exact rfl)
set_option maxRecDepth 100000 in
theorem ks_34 (p2 p3 p4 g : Nat) (w0 : World) (a0 : Act) (Q : Exit → Act → World → Prop) (k2 : a0.eval (.tmp 2) = .pointer (some ⟨p2, 0, none⟩)) (k3 : a0.eval (.tmp 3) = .pointer (some ⟨p3, 0, none⟩)) (k4 : a0.eval (.tmp 4) = .pointer (some ⟨p4, 0, none⟩)) (k5 : a0.eval (.tmp 5) = .slice (some ⟨g, 0, none⟩) 2 2) : StepOk (md := .any) Try.prog R10 Q (kA g) (Touch (fun _ => False)) (fun _ w => kS p2 p3 p4 g w0 w) a0 34 (R10.getD 34 default) := by
  refine step_of (.inr ⟨31, 55, by kernel_rfl, by kernel_rfl, fun v w h => h⟩) (kS_keep p2 p3 p4 g w0) (fun a w hC hop => ?_)
  have h56 : (kA g) 56 (a.eval (.tmp 56)) w := hop.rd 56 32 (by kernel_rfl)
  replace h56 : a.eval (.tmp 56) = .slice (some ⟨g, 0, none⟩) 2 2 := h56
  have h57 : (kA g) 57 (a.eval (.tmp 57)) w := hop.rd 57 33 (by kernel_rfl)
  replace h57 : a.eval (.tmp 57) = .agg #[(.string ⟨#[]⟩ : Value), .string ⟨#[]⟩, .int .i64 0, .int .i64 0, .int .u32 0, .int .u32 0, .int .i64 0, .int .i64 0, .int .i64 0, .int .i64 0, .int .i64 0, .bool false, .slice none 0 0, .bool false, .int .u32 0, .int .u32 0, .string ⟨#[]⟩, .int .i64 2, .int .i64 3] := h57
  have hv : (#[(.tmp 56), (.tmp 57)] : Array Operand).map a.eval = #[(.slice (some ⟨g, 0, none⟩) 2 2 : Value), .agg #[(.string ⟨#[]⟩ : Value), .string ⟨#[]⟩, .int .i64 0, .int .i64 0, .int .u32 0, .int .u32 0, .int .i64 0, .int .i64 0, .int .i64 0, .int .i64 0, .int .i64 0, .bool false, .slice none 0 0, .bool false, .int .u32 0, .int .u32 0, .string ⟨#[]⟩, .int .i64 2, .int .i64 3]] := by simp only [List.map_toArray, List.map_cons, List.map_nil, h56, h57]; first | done | rfl
  exact tw_call 16 #[(.tmp 56), (.tmp 57)] #[22, 34] (by kernel_rfl) #[(.slice (some ⟨g, 0, none⟩) 2 2 : Value), .agg #[(.string ⟨#[]⟩ : Value), .string ⟨#[]⟩, .int .i64 0, .int .i64 0, .int .u32 0, .int .u32 0, .int .i64 0, .int .i64 0, .int .i64 0, .int .i64 0, .int .i64 0, .bool false, .slice none 0 0, .bool false, .int .u32 0, .int .u32 0, .string ⟨#[]⟩, .int .i64 2, .int .i64 3]] hv (fun w => by kernel_rfl) (Calls.mono (accepts_any _ 2 2 R2 askU w (rules2 hC.2.2.2.1) (by decide) small2 (by decide) (by decide)) (fun e w' hh => ⟨_, hh.1.trans (by rw [acc2u]), (fun t ht => by have e : (R10.getD 34 default).dst = some 58 := (by kernel_rfl); rw [e] at ht; cases ht; exact rfl), Touch.none hh.2⟩))
set_option maxRecDepth 100000 in
theorem ks_35 (p2 p3 p4 g : Nat) (w0 : World) (a0 : Act) (Q : Exit → Act → World → Prop) (k2 : a0.eval (.tmp 2) = .pointer (some ⟨p2, 0, none⟩)) (k3 : a0.eval (.tmp 3) = .pointer (some ⟨p3, 0, none⟩)) (k4 : a0.eval (.tmp 4) = .pointer (some ⟨p4, 0, none⟩)) (k5 : a0.eval (.tmp 5) = .slice (some ⟨g, 0, none⟩) 2 2) : StepOk (md := .any) Try.prog R10 Q (kA g) (Touch (fun _ => False)) (fun _ w => kS p2 p3 p4 g w0 w) a0 35 (R10.getD 35 default) := by
  refine step_of (.inr ⟨31, 55, by kernel_rfl, by kernel_rfl, fun v w h => h⟩) (kS_keep p2 p3 p4 g w0) (fun a w hC hop => ?_)
  have h58 : (kA g) 58 (a.eval (.tmp 58)) w := hop.rd 58 34 (by kernel_rfl)
  replace h58 : a.eval (.tmp 58) = .bool false := h58
  exact tw_un .not 4 (.tmp 58) (by kernel_rfl) (.bool false) (.bool true) h58 (fun w => by kernel_rfl) (fun t ht => by have e : (R10.getD 35 default).dst = some 59 := (by kernel_rfl); rw [e] at ht; cases ht; exact rfl)
set_option maxRecDepth 100000 in
theorem ks_36 (p2 p3 p4 g : Nat) (w0 : World) (a0 : Act) (Q : Exit → Act → World → Prop) (k2 : a0.eval (.tmp 2) = .pointer (some ⟨p2, 0, none⟩)) (k3 : a0.eval (.tmp 3) = .pointer (some ⟨p3, 0, none⟩)) (k4 : a0.eval (.tmp 4) = .pointer (some ⟨p4, 0, none⟩)) (k5 : a0.eval (.tmp 5) = .slice (some ⟨g, 0, none⟩) 2 2) : StepOk (md := .any) Try.prog R10 Q (kA g) (Touch (fun _ => False)) (fun _ w => kS p2 p3 p4 g w0 w) a0 36 (R10.getD 36 default) := by
  refine step_of (.inl (by kernel_rfl)) (kS_keep p2 p3 p4 g w0) (fun a w hC hop => ?_)
  have h55 : (kA g) 55 (a.eval (.tmp 55)) w := hop.rd 55 31 (by kernel_rfl)
  replace h55 : a.eval (.tmp 55) = .bool true := h55
  have h59 : (kA g) 59 (a.eval (.tmp 59)) w := hop.rd 59 35 (by kernel_rfl)
  replace h59 : a.eval (.tmp 59) = .bool true := h59
  exact tw_pick (.tmp 55) (.tmp 59) (.const (.bool false)) (by kernel_rfl) true h55 (fun t ht => by have e : (R10.getD 36 default).dst = some 60 := (by kernel_rfl); rw [e] at ht; cases ht; exact h59)
set_option maxRecDepth 100000 in
theorem ks_37 (p2 p3 p4 g : Nat) (w0 : World) (a0 : Act) (Q : Exit → Act → World → Prop) (k2 : a0.eval (.tmp 2) = .pointer (some ⟨p2, 0, none⟩)) (k3 : a0.eval (.tmp 3) = .pointer (some ⟨p3, 0, none⟩)) (k4 : a0.eval (.tmp 4) = .pointer (some ⟨p4, 0, none⟩)) (k5 : a0.eval (.tmp 5) = .slice (some ⟨g, 0, none⟩) 2 2) : StepOk (md := .any) Try.prog R10 Q (kA g) (Touch (fun _ => False)) (fun _ w => kS p2 p3 p4 g w0 w) a0 37 (R10.getD 37 default) := by
  refine step_of (.inl (by kernel_rfl)) (kS_keep p2 p3 p4 g w0) (fun a w hC hop => ?_)
  have h60 : (kA g) 60 (a.eval (.tmp 60)) w := hop.rd 60 36 (by kernel_rfl)
  replace h60 : a.eval (.tmp 60) = .bool true := h60
  exact tw_move (.tmp 60) (.inl (by kernel_rfl)) (fun t ht => by have e : (R10.getD 37 default).dst = some 61 := (by kernel_rfl); rw [e] at ht; cases ht; exact h60)
set_option maxRecDepth 100000 in
theorem ks_38 (p2 p3 p4 g : Nat) (w0 : World) (a0 : Act) (Q : Exit → Act → World → Prop) (k2 : a0.eval (.tmp 2) = .pointer (some ⟨p2, 0, none⟩)) (k3 : a0.eval (.tmp 3) = .pointer (some ⟨p3, 0, none⟩)) (k4 : a0.eval (.tmp 4) = .pointer (some ⟨p4, 0, none⟩)) (k5 : a0.eval (.tmp 5) = .slice (some ⟨g, 0, none⟩) 2 2) : StepOk (md := .any) Try.prog R10 Q (kA g) (Touch (fun _ => False)) (fun _ w => kS p2 p3 p4 g w0 w) a0 38 (R10.getD 38 default) := by
  refine step_of (.inr ⟨37, 61, by kernel_rfl, by kernel_rfl, fun v w h => h⟩) (kS_keep p2 p3 p4 g w0) (fun a w hC hop => ?_)
  have h3 : a.eval (.tmp 3) = _ := (hop.el 3 (by kernel_rfl)).trans k3
  exact tw_load 34 (.tmp 3) (by kernel_rfl) p3 h3 34 _ _ hC.2.1 Try.underlying34 (by kernel_rfl) (fun t ht => by have e : (R10.getD 38 default).dst = some 62 := (by kernel_rfl); rw [e] at ht; cases ht; exact rfl)
set_option maxRecDepth 100000 in
theorem ks_39 (p2 p3 p4 g : Nat) (w0 : World) (a0 : Act) (Q : Exit → Act → World → Prop) (k2 : a0.eval (.tmp 2) = .pointer (some ⟨p2, 0, none⟩)) (k3 : a0.eval (.tmp 3) = .pointer (some ⟨p3, 0, none⟩)) (k4 : a0.eval (.tmp 4) = .pointer (some ⟨p4, 0, none⟩)) (k5 : a0.eval (.tmp 5) = .slice (some ⟨g, 0, none⟩) 2 2) : StepOk (md := .any) Try.prog R10 Q (kA g) (Touch (fun _ => False)) (fun _ w => kS p2 p3 p4 g w0 w) a0 39 (R10.getD 39 default) := by
  refine step_of (.inr ⟨37, 61, by kernel_rfl, by kernel_rfl, fun v w h => h⟩) (kS_keep p2 p3 p4 g w0) (fun a w hC hop => ?_)
  have h62 : (kA g) 62 (a.eval (.tmp 62)) w := hop.rd 62 38 (by kernel_rfl)
  replace h62 : a.eval (.tmp 62) = .agg #[(.string ⟨#[10, 0, 0, 1]⟩ : Value), .string ⟨#[10, 0, 0, 2]⟩, .int .i64 9, .int .i64 80, .int .u32 0, .int .u32 0, .int .i64 2, .int .i64 0, .int .i64 0, .int .i64 0, .int .i64 0, .bool false, .slice none 0 0, .bool false, .int .u32 0, .int .u32 0, .string ⟨#[]⟩, .int .i64 1, .int .i64 1] := h62
  have hv : (#[(.const (.slice none 0 0)), (.tmp 62)] : Array Operand).map a.eval = #[(.slice none 0 0 : Value), .agg #[(.string ⟨#[10, 0, 0, 1]⟩ : Value), .string ⟨#[10, 0, 0, 2]⟩, .int .i64 9, .int .i64 80, .int .u32 0, .int .u32 0, .int .i64 2, .int .i64 0, .int .i64 0, .int .i64 0, .int .i64 0, .bool false, .slice none 0 0, .bool false, .int .u32 0, .int .u32 0, .string ⟨#[]⟩, .int .i64 1, .int .i64 1]] := by simp only [List.map_toArray, List.map_cons, List.map_nil, h62]; first | done | rfl
  exact tw_call 13 #[(.const (.slice none 0 0)), (.tmp 62)] #[22, 34] (by kernel_rfl) #[(.slice none 0 0 : Value), .agg #[(.string ⟨#[10, 0, 0, 1]⟩ : Value), .string ⟨#[10, 0, 0, 2]⟩, .int .i64 9, .int .i64 80, .int .u32 0, .int .u32 0, .int .i64 2, .int .i64 0, .int .i64 0, .int .i64 0, .int .i64 0, .bool false, .slice none 0 0, .bool false, .int .u32 0, .int .u32 0, .string ⟨#[]⟩, .int .i64 1, .int .i64 1]] hv (fun w => by kernel_rfl) (Calls.mono (first_any none 0 0 (fun _ => netR) askA w (fun i hi => by omega) (by decide) (fun i hi => by omega) (by decide) (by decide)) (fun e w' hh => ⟨_, hh.1.trans (by rw [f0a]), (fun t ht => by have e : (R10.getD 39 default).dst = some 63 := (by kernel_rfl); rw [e] at ht; cases ht; exact rfl), Touch.none hh.2⟩))
set_option maxRecDepth 100000 in
theorem ks_40 (p2 p3 p4 g : Nat) (w0 : World) (a0 : Act) (Q : Exit → Act → World → Prop) (k2 : a0.eval (.tmp 2) = .pointer (some ⟨p2, 0, none⟩)) (k3 : a0.eval (.tmp 3) = .pointer (some ⟨p3, 0, none⟩)) (k4 : a0.eval (.tmp 4) = .pointer (some ⟨p4, 0, none⟩)) (k5 : a0.eval (.tmp 5) = .slice (some ⟨g, 0, none⟩) 2 2) : StepOk (md := .any) Try.prog R10 Q (kA g) (Touch (fun _ => False)) (fun _ w => kS p2 p3 p4 g w0 w) a0 40 (R10.getD 40 default) := by
  refine step_of (.inr ⟨37, 61, by kernel_rfl, by kernel_rfl, fun v w h => h⟩) (kS_keep p2 p3 p4 g w0) (fun a w hC hop => ?_)
  have h63 : (kA g) 63 (a.eval (.tmp 63)) w := hop.rd 63 39 (by kernel_rfl)
  replace h63 : a.eval (.tmp 63) = .int .i64 (-1) := h63
  exact tw_bin .eql 3 3 (.tmp 63) (.const (.int .i64 (-1))) (by kernel_rfl) (.int .i64 (-1)) (.int .i64 (-1)) (.bool true) h63 rfl (fun w => by kernel_rfl) (fun t ht => by have e : (R10.getD 40 default).dst = some 64 := (by kernel_rfl); rw [e] at ht; cases ht; exact rfl)
set_option maxRecDepth 100000 in
theorem ks_41 (p2 p3 p4 g : Nat) (w0 : World) (a0 : Act) (Q : Exit → Act → World → Prop) (k2 : a0.eval (.tmp 2) = .pointer (some ⟨p2, 0, none⟩)) (k3 : a0.eval (.tmp 3) = .pointer (some ⟨p3, 0, none⟩)) (k4 : a0.eval (.tmp 4) = .pointer (some ⟨p4, 0, none⟩)) (k5 : a0.eval (.tmp 5) = .slice (some ⟨g, 0, none⟩) 2 2) : StepOk (md := .any) Try.prog R10 Q (kA g) (Touch (fun _ => False)) (fun _ w => kS p2 p3 p4 g w0 w) a0 41 (R10.getD 41 default) := by
  refine step_of (.inl (by kernel_rfl)) (kS_keep p2 p3 p4 g w0) (fun a w hC hop => ?_)
  have h61 : (kA g) 61 (a.eval (.tmp 61)) w := hop.rd 61 37 (by kernel_rfl)
  replace h61 : a.eval (.tmp 61) = .bool true := h61
  have h64 : (kA g) 64 (a.eval (.tmp 64)) w := hop.rd 64 40 (by kernel_rfl)
  replace h64 : a.eval (.tmp 64) = .bool true := h64
  exact tw_pick (.tmp 61) (.tmp 64) (.const (.bool false)) (by kernel_rfl) true h61 (fun t ht => by have e : (R10.getD 41 default).dst = some 65 := (by kernel_rfl); rw [e] at ht; cases ht; exact h64)
set_option maxRecDepth 100000 in
theorem ks_42 (p2 p3 p4 g : Nat) (w0 : World) (a0 : Act) (Q : Exit → Act → World → Prop) (k2 : a0.eval (.tmp 2) = .pointer (some ⟨p2, 0, none⟩)) (k3 : a0.eval (.tmp 3) = .pointer (some ⟨p3, 0, none⟩)) (k4 : a0.eval (.tmp 4) = .pointer (some ⟨p4, 0, none⟩)) (k5 : a0.eval (.tmp 5) = .slice (some ⟨g, 0, none⟩) 2 2) : StepOk (md := .any) Try.prog R10 Q (kA g) (Touch (fun _ => False)) (fun _ w => kS p2 p3 p4 g w0 w) a0 42 (R10.getD 42 default) := by
  refine step_of (.inl (by kernel_rfl)) (kS_keep p2 p3 p4 g w0) (fun a w hC hop => ?_)
  have h65 : (kA g) 65 (a.eval (.tmp 65)) w := hop.rd 65 41 (by kernel_rfl)
  replace h65 : a.eval (.tmp 65) = .bool true := h65
  exact tw_move (.tmp 65) (.inl (by kernel_rfl)) (fun t ht => by have e : (R10.getD 42 default).dst = some 66 := (by kernel_rfl); rw [e] at ht; cases ht; exact h65)
set_option maxRecDepth 100000 in
theorem ks_43 (p2 p3 p4 g : Nat) (w0 : World) (a0 : Act) (Q : Exit → Act → World → Prop) (k2 : a0.eval (.tmp 2) = .pointer (some ⟨p2, 0, none⟩)) (k3 : a0.eval (.tmp 3) = .pointer (some ⟨p3, 0, none⟩)) (k4 : a0.eval (.tmp 4) = .pointer (some ⟨p4, 0, none⟩)) (k5 : a0.eval (.tmp 5) = .slice (some ⟨g, 0, none⟩) 2 2) : StepOk (md := .any) Try.prog R10 Q (kA g) (Touch (fun _ => False)) (fun _ w => kS p2 p3 p4 g w0 w) a0 43 (R10.getD 43 default) := by
  refine step_of (.inr ⟨42, 66, by kernel_rfl, by kernel_rfl, fun v w h => h⟩) (kS_keep p2 p3 p4 g w0) (fun a w hC hop => ?_)
  have hv : (#[(.const (.bool true))] : Array Operand).map a.eval = #[(.bool true : Value)] := by simp only [List.map_toArray, List.map_cons, List.map_nil]; first | done | rfl
  exact tw_call 23 #[(.const (.bool true))] #[4] (by kernel_rfl) #[(.bool true : Value)] hv (fun w => by kernel_rfl) (Calls.mono (wide23 true w) (fun e w' hh => ⟨_, hh.1, (fun t ht => by have e : (R10.getD 43 default).dst = some 67 := (by kernel_rfl); rw [e] at ht; cases ht; exact rfl), Touch.none hh.2⟩))
set_option maxRecDepth 100000 in
theorem ks_44 (p2 p3 p4 g : Nat) (w0 : World) (a0 : Act) (Q : Exit → Act → World → Prop) (k2 : a0.eval (.tmp 2) = .pointer (some ⟨p2, 0, none⟩)) (k3 : a0.eval (.tmp 3) = .pointer (some ⟨p3, 0, none⟩)) (k4 : a0.eval (.tmp 4) = .pointer (some ⟨p4, 0, none⟩)) (k5 : a0.eval (.tmp 5) = .slice (some ⟨g, 0, none⟩) 2 2) : StepOk (md := .any) Try.prog R10 Q (kA g) (Touch (fun _ => False)) (fun _ w => kS p2 p3 p4 g w0 w) a0 44 (R10.getD 44 default) := by
  refine step_of (.inr ⟨42, 66, by kernel_rfl, by kernel_rfl, fun v w h => h⟩) (kS_keep p2 p3 p4 g w0) (fun a w hC hop => ?_)
  have h2 : a.eval (.tmp 2) = _ := (hop.el 2 (by kernel_rfl)).trans k2
  exact tw_load 43 (.tmp 2) (by kernel_rfl) p2 h2 43 _ _ hC.1 Try.underlying43 (by kernel_rfl) (fun t ht => by have e : (R10.getD 44 default).dst = some 68 := (by kernel_rfl); rw [e] at ht; cases ht; exact rfl)
set_option maxRecDepth 100000 in
theorem ks_45 (p2 p3 p4 g : Nat) (w0 : World) (a0 : Act) (Q : Exit → Act → World → Prop) (k2 : a0.eval (.tmp 2) = .pointer (some ⟨p2, 0, none⟩)) (k3 : a0.eval (.tmp 3) = .pointer (some ⟨p3, 0, none⟩)) (k4 : a0.eval (.tmp 4) = .pointer (some ⟨p4, 0, none⟩)) (k5 : a0.eval (.tmp 5) = .slice (some ⟨g, 0, none⟩) 2 2) : StepOk (md := .any) Try.prog R10 Q (kA g) (Touch (fun _ => False)) (fun _ w => kS p2 p3 p4 g w0 w) a0 45 (R10.getD 45 default) := by
  refine step_of (.inr ⟨42, 66, by kernel_rfl, by kernel_rfl, fun v w h => h⟩) (kS_keep p2 p3 p4 g w0) (fun a w hC hop => ?_)
  have h67 : (kA g) 67 (a.eval (.tmp 67)) w := hop.rd 67 43 (by kernel_rfl)
  replace h67 : a.eval (.tmp 67) = .agg #[(.bool true : Value), .int .i64 0, .string ⟨#[]⟩, .int .i64 0, .string ⟨#[]⟩, .int .i64 0, .int .i64 0, .int .i64 65535, .int .i64 0, .int .i64 65535, .int .i64 0, .int .i64 0, .int .i64 15] := h67
  have h68 : (kA g) 68 (a.eval (.tmp 68)) w := hop.rd 68 44 (by kernel_rfl)
  replace h68 : a.eval (.tmp 68) = .agg #[(.bool true : Value), .int .i64 0, .string ⟨#[10, 0, 0, 0]⟩, .int .i64 8, .string ⟨#[]⟩, .int .i64 0, .int .i64 0, .int .i64 65535, .int .i64 80, .int .i64 80, .int .i64 18, .int .i64 2, .int .i64 15] := h68
  have hv : (#[(.tmp 67), (.tmp 68)] : Array Operand).map a.eval = #[(.agg #[(.bool true : Value), .int .i64 0, .string ⟨#[]⟩, .int .i64 0, .string ⟨#[]⟩, .int .i64 0, .int .i64 0, .int .i64 65535, .int .i64 0, .int .i64 65535, .int .i64 0, .int .i64 0, .int .i64 15] : Value), .agg #[(.bool true : Value), .int .i64 0, .string ⟨#[10, 0, 0, 0]⟩, .int .i64 8, .string ⟨#[]⟩, .int .i64 0, .int .i64 0, .int .i64 65535, .int .i64 80, .int .i64 80, .int .i64 18, .int .i64 2, .int .i64 15]] := by simp only [List.map_toArray, List.map_cons, List.map_nil, h67, h68]; first | done | rfl
  exact tw_call 18 #[(.tmp 67), (.tmp 68)] #[43, 43] (by kernel_rfl) #[(.agg #[(.bool true : Value), .int .i64 0, .string ⟨#[]⟩, .int .i64 0, .string ⟨#[]⟩, .int .i64 0, .int .i64 0, .int .i64 65535, .int .i64 0, .int .i64 65535, .int .i64 0, .int .i64 0, .int .i64 15] : Value), .agg #[(.bool true : Value), .int .i64 0, .string ⟨#[10, 0, 0, 0]⟩, .int .i64 8, .string ⟨#[]⟩, .int .i64 0, .int .i64 0, .int .i64 65535, .int .i64 80, .int .i64 80, .int .i64 18, .int .i64 2, .int .i64 15]] hv (fun w => by kernel_rfl) (Calls.mono (covers_any (wideR true) netR (small_wide true).1 (small_wide true).2 small_net.1 small_net.2 w) (fun e w' hh => ⟨_, hh.1.trans (by rw [v4.1]), (fun t ht => by have e : (R10.getD 45 default).dst = some 69 := (by kernel_rfl); rw [e] at ht; cases ht; exact rfl), Touch.none hh.2⟩))
set_option maxRecDepth 100000 in
theorem ks_46 (p2 p3 p4 g : Nat) (w0 : World) (a0 : Act) (Q : Exit → Act → World → Prop) (k2 : a0.eval (.tmp 2) = .pointer (some ⟨p2, 0, none⟩)) (k3 : a0.eval (.tmp 3) = .pointer (some ⟨p3, 0, none⟩)) (k4 : a0.eval (.tmp 4) = .pointer (some ⟨p4, 0, none⟩)) (k5 : a0.eval (.tmp 5) = .slice (some ⟨g, 0, none⟩) 2 2) : StepOk (md := .any) Try.prog R10 Q (kA g) (Touch (fun _ => False)) (fun _ w => kS p2 p3 p4 g w0 w) a0 46 (R10.getD 46 default) := by
  refine step_of (.inl (by kernel_rfl)) (kS_keep p2 p3 p4 g w0) (fun a w hC hop => ?_)
  have h66 : (kA g) 66 (a.eval (.tmp 66)) w := hop.rd 66 42 (by kernel_rfl)
  replace h66 : a.eval (.tmp 66) = .bool true := h66
  have h69 : (kA g) 69 (a.eval (.tmp 69)) w := hop.rd 69 45 (by kernel_rfl)
  replace h69 : a.eval (.tmp 69) = .bool true := h69
  exact tw_pick (.tmp 66) (.tmp 69) (.const (.bool false)) (by kernel_rfl) true h66 (fun t ht => by have e : (R10.getD 46 default).dst = some 70 := (by kernel_rfl); rw [e] at ht; cases ht; exact h69)
set_option maxRecDepth 100000 in
theorem ks_47 (p2 p3 p4 g : Nat) (w0 : World) (a0 : Act) (Q : Exit → Act → World → Prop) (k2 : a0.eval (.tmp 2) = .pointer (some ⟨p2, 0, none⟩)) (k3 : a0.eval (.tmp 3) = .pointer (some ⟨p3, 0, none⟩)) (k4 : a0.eval (.tmp 4) = .pointer (some ⟨p4, 0, none⟩)) (k5 : a0.eval (.tmp 5) = .slice (some ⟨g, 0, none⟩) 2 2) : StepOk (md := .any) Try.prog R10 Q (kA g) (Touch (fun _ => False)) (fun _ w => kS p2 p3 p4 g w0 w) a0 47 (R10.getD 47 default) := by
  refine step_of (.inl (by kernel_rfl)) (kS_keep p2 p3 p4 g w0) (fun a w hC hop => ?_)
  have h70 : (kA g) 70 (a.eval (.tmp 70)) w := hop.rd 70 46 (by kernel_rfl)
  replace h70 : a.eval (.tmp 70) = .bool true := h70
  exact tw_move (.tmp 70) (.inl (by kernel_rfl)) (fun t ht => by have e : (R10.getD 47 default).dst = some 71 := (by kernel_rfl); rw [e] at ht; cases ht; exact h70)
set_option maxRecDepth 100000 in
theorem ks_48 (p2 p3 p4 g : Nat) (w0 : World) (a0 : Act) (Q : Exit → Act → World → Prop) (k2 : a0.eval (.tmp 2) = .pointer (some ⟨p2, 0, none⟩)) (k3 : a0.eval (.tmp 3) = .pointer (some ⟨p3, 0, none⟩)) (k4 : a0.eval (.tmp 4) = .pointer (some ⟨p4, 0, none⟩)) (k5 : a0.eval (.tmp 5) = .slice (some ⟨g, 0, none⟩) 2 2) : StepOk (md := .any) Try.prog R10 Q (kA g) (Touch (fun _ => False)) (fun _ w => kS p2 p3 p4 g w0 w) a0 48 (R10.getD 48 default) := by
  refine step_of (.inr ⟨47, 71, by kernel_rfl, by kernel_rfl, fun v w h => h⟩) (kS_keep p2 p3 p4 g w0) (fun a w hC hop => ?_)
  have h2 : a.eval (.tmp 2) = _ := (hop.el 2 (by kernel_rfl)).trans k2
  exact tw_load 43 (.tmp 2) (by kernel_rfl) p2 h2 43 _ _ hC.1 Try.underlying43 (by kernel_rfl) (fun t ht => by have e : (R10.getD 48 default).dst = some 72 := (by kernel_rfl); rw [e] at ht; cases ht; exact rfl)
set_option maxRecDepth 100000 in
theorem ks_49 (p2 p3 p4 g : Nat) (w0 : World) (a0 : Act) (Q : Exit → Act → World → Prop) (k2 : a0.eval (.tmp 2) = .pointer (some ⟨p2, 0, none⟩)) (k3 : a0.eval (.tmp 3) = .pointer (some ⟨p3, 0, none⟩)) (k4 : a0.eval (.tmp 4) = .pointer (some ⟨p4, 0, none⟩)) (k5 : a0.eval (.tmp 5) = .slice (some ⟨g, 0, none⟩) 2 2) : StepOk (md := .any) Try.prog R10 Q (kA g) (Touch (fun _ => False)) (fun _ w => kS p2 p3 p4 g w0 w) a0 49 (R10.getD 49 default) := by
  refine step_of (.inr ⟨47, 71, by kernel_rfl, by kernel_rfl, fun v w h => h⟩) (kS_keep p2 p3 p4 g w0) (fun a w hC hop => ?_)
  have hv : (#[(.const (.bool true))] : Array Operand).map a.eval = #[(.bool true : Value)] := by simp only [List.map_toArray, List.map_cons, List.map_nil]; first | done | rfl
  exact tw_call 23 #[(.const (.bool true))] #[4] (by kernel_rfl) #[(.bool true : Value)] hv (fun w => by kernel_rfl) (Calls.mono (wide23 true w) (fun e w' hh => ⟨_, hh.1, (fun t ht => by have e : (R10.getD 49 default).dst = some 73 := (by kernel_rfl); rw [e] at ht; cases ht; exact rfl), Touch.none hh.2⟩))
set_option maxRecDepth 100000 in
theorem ks_50 (p2 p3 p4 g : Nat) (w0 : World) (a0 : Act) (Q : Exit → Act → World → Prop) (k2 : a0.eval (.tmp 2) = .pointer (some ⟨p2, 0, none⟩)) (k3 : a0.eval (.tmp 3) = .pointer (some ⟨p3, 0, none⟩)) (k4 : a0.eval (.tmp 4) = .pointer (some ⟨p4, 0, none⟩)) (k5 : a0.eval (.tmp 5) = .slice (some ⟨g, 0, none⟩) 2 2) : StepOk (md := .any) Try.prog R10 Q (kA g) (Touch (fun _ => False)) (fun _ w => kS p2 p3 p4 g w0 w) a0 50 (R10.getD 50 default) := by
  refine step_of (.inr ⟨47, 71, by kernel_rfl, by kernel_rfl, fun v w h => h⟩) (kS_keep p2 p3 p4 g w0) (fun a w hC hop => ?_)
  have h72 : (kA g) 72 (a.eval (.tmp 72)) w := hop.rd 72 48 (by kernel_rfl)
  replace h72 : a.eval (.tmp 72) = .agg #[(.bool true : Value), .int .i64 0, .string ⟨#[10, 0, 0, 0]⟩, .int .i64 8, .string ⟨#[]⟩, .int .i64 0, .int .i64 0, .int .i64 65535, .int .i64 80, .int .i64 80, .int .i64 18, .int .i64 2, .int .i64 15] := h72
  have h73 : (kA g) 73 (a.eval (.tmp 73)) w := hop.rd 73 49 (by kernel_rfl)
  replace h73 : a.eval (.tmp 73) = .agg #[(.bool true : Value), .int .i64 0, .string ⟨#[]⟩, .int .i64 0, .string ⟨#[]⟩, .int .i64 0, .int .i64 0, .int .i64 65535, .int .i64 0, .int .i64 65535, .int .i64 0, .int .i64 0, .int .i64 15] := h73
  have hv : (#[(.tmp 72), (.tmp 73)] : Array Operand).map a.eval = #[(.agg #[(.bool true : Value), .int .i64 0, .string ⟨#[10, 0, 0, 0]⟩, .int .i64 8, .string ⟨#[]⟩, .int .i64 0, .int .i64 0, .int .i64 65535, .int .i64 80, .int .i64 80, .int .i64 18, .int .i64 2, .int .i64 15] : Value), .agg #[(.bool true : Value), .int .i64 0, .string ⟨#[]⟩, .int .i64 0, .string ⟨#[]⟩, .int .i64 0, .int .i64 0, .int .i64 65535, .int .i64 0, .int .i64 65535, .int .i64 0, .int .i64 0, .int .i64 15]] := by simp only [List.map_toArray, List.map_cons, List.map_nil, h72, h73]; first | done | rfl
  exact tw_call 18 #[(.tmp 72), (.tmp 73)] #[43, 43] (by kernel_rfl) #[(.agg #[(.bool true : Value), .int .i64 0, .string ⟨#[10, 0, 0, 0]⟩, .int .i64 8, .string ⟨#[]⟩, .int .i64 0, .int .i64 0, .int .i64 65535, .int .i64 80, .int .i64 80, .int .i64 18, .int .i64 2, .int .i64 15] : Value), .agg #[(.bool true : Value), .int .i64 0, .string ⟨#[]⟩, .int .i64 0, .string ⟨#[]⟩, .int .i64 0, .int .i64 0, .int .i64 65535, .int .i64 0, .int .i64 65535, .int .i64 0, .int .i64 0, .int .i64 15]] hv (fun w => by kernel_rfl) (Calls.mono (covers_any netR (wideR true) small_net.1 small_net.2 (small_wide true).1 (small_wide true).2 w) (fun e w' hh => ⟨_, hh.1.trans (by rw [v4.2.1]), (fun t ht => by have e : (R10.getD 50 default).dst = some 74 := (by kernel_rfl); rw [e] at ht; cases ht; exact rfl), Touch.none hh.2⟩))
set_option maxRecDepth 100000 in
theorem ks_51 (p2 p3 p4 g : Nat) (w0 : World) (a0 : Act) (Q : Exit → Act → World → Prop) (k2 : a0.eval (.tmp 2) = .pointer (some ⟨p2, 0, none⟩)) (k3 : a0.eval (.tmp 3) = .pointer (some ⟨p3, 0, none⟩)) (k4 : a0.eval (.tmp 4) = .pointer (some ⟨p4, 0, none⟩)) (k5 : a0.eval (.tmp 5) = .slice (some ⟨g, 0, none⟩) 2 2) : StepOk (md := .any) Try.prog R10 Q (kA g) (Touch (fun _ => False)) (fun _ w => kS p2 p3 p4 g w0 w) a0 51 (R10.getD 51 default) := by
  refine step_of (.inr ⟨47, 71, by kernel_rfl, by kernel_rfl, fun v w h => h⟩) (kS_keep p2 p3 p4 g w0) (fun a w hC hop => ?_)
  have h74 : (kA g) 74 (a.eval (.tmp 74)) w := hop.rd 74 50 (by kernel_rfl)
  replace h74 : a.eval (.tmp 74) = .bool false := h74
  exact tw_un .not 4 (.tmp 74) (by kernel_rfl) (.bool false) (.bool true) h74 (fun w => by kernel_rfl) (fun t ht => by have e : (R10.getD 51 default).dst = some 75 := (by kernel_rfl); rw [e] at ht; cases ht; exact rfl)
set_option maxRecDepth 100000 in
theorem ks_52 (p2 p3 p4 g : Nat) (w0 : World) (a0 : Act) (Q : Exit → Act → World → Prop) (k2 : a0.eval (.tmp 2) = .pointer (some ⟨p2, 0, none⟩)) (k3 : a0.eval (.tmp 3) = .pointer (some ⟨p3, 0, none⟩)) (k4 : a0.eval (.tmp 4) = .pointer (some ⟨p4, 0, none⟩)) (k5 : a0.eval (.tmp 5) = .slice (some ⟨g, 0, none⟩) 2 2) : StepOk (md := .any) Try.prog R10 Q (kA g) (Touch (fun _ => False)) (fun _ w => kS p2 p3 p4 g w0 w) a0 52 (R10.getD 52 default) := by
  refine step_of (.inl (by kernel_rfl)) (kS_keep p2 p3 p4 g w0) (fun a w hC hop => ?_)
  have h71 : (kA g) 71 (a.eval (.tmp 71)) w := hop.rd 71 47 (by kernel_rfl)
  replace h71 : a.eval (.tmp 71) = .bool true := h71
  have h75 : (kA g) 75 (a.eval (.tmp 75)) w := hop.rd 75 51 (by kernel_rfl)
  replace h75 : a.eval (.tmp 75) = .bool true := h75
  exact tw_pick (.tmp 71) (.tmp 75) (.const (.bool false)) (by kernel_rfl) true h71 (fun t ht => by have e : (R10.getD 52 default).dst = some 76 := (by kernel_rfl); rw [e] at ht; cases ht; exact h75)
set_option maxRecDepth 100000 in
theorem ks_53 (p2 p3 p4 g : Nat) (w0 : World) (a0 : Act) (Q : Exit → Act → World → Prop) (k2 : a0.eval (.tmp 2) = .pointer (some ⟨p2, 0, none⟩)) (k3 : a0.eval (.tmp 3) = .pointer (some ⟨p3, 0, none⟩)) (k4 : a0.eval (.tmp 4) = .pointer (some ⟨p4, 0, none⟩)) (k5 : a0.eval (.tmp 5) = .slice (some ⟨g, 0, none⟩) 2 2) : StepOk (md := .any) Try.prog R10 Q (kA g) (Touch (fun _ => False)) (fun _ w => kS p2 p3 p4 g w0 w) a0 53 (R10.getD 53 default) := by
  refine step_of (.inl (by kernel_rfl)) (kS_keep p2 p3 p4 g w0) (fun a w hC hop => ?_)
  have h76 : (kA g) 76 (a.eval (.tmp 76)) w := hop.rd 76 52 (by kernel_rfl)
  replace h76 : a.eval (.tmp 76) = .bool true := h76
  exact tw_move (.tmp 76) (.inl (by kernel_rfl)) (fun t ht => by have e : (R10.getD 53 default).dst = some 77 := (by kernel_rfl); rw [e] at ht; cases ht; exact h76)
set_option maxRecDepth 100000 in
theorem ks_54 (p2 p3 p4 g : Nat) (w0 : World) (a0 : Act) (Q : Exit → Act → World → Prop) (k2 : a0.eval (.tmp 2) = .pointer (some ⟨p2, 0, none⟩)) (k3 : a0.eval (.tmp 3) = .pointer (some ⟨p3, 0, none⟩)) (k4 : a0.eval (.tmp 4) = .pointer (some ⟨p4, 0, none⟩)) (k5 : a0.eval (.tmp 5) = .slice (some ⟨g, 0, none⟩) 2 2) : StepOk (md := .any) Try.prog R10 Q (kA g) (Touch (fun _ => False)) (fun _ w => kS p2 p3 p4 g w0 w) a0 54 (R10.getD 54 default) := by
  refine step_of (.inr ⟨53, 77, by kernel_rfl, by kernel_rfl, fun v w h => h⟩) (kS_keep p2 p3 p4 g w0) (fun a w hC hop => ?_)
  have hv : (#[(.const (.bool false))] : Array Operand).map a.eval = #[(.bool false : Value)] := by simp only [List.map_toArray, List.map_cons, List.map_nil]; first | done | rfl
  exact tw_call 23 #[(.const (.bool false))] #[4] (by kernel_rfl) #[(.bool false : Value)] hv (fun w => by kernel_rfl) (Calls.mono (wide23 false w) (fun e w' hh => ⟨_, hh.1, (fun t ht => by have e : (R10.getD 54 default).dst = some 78 := (by kernel_rfl); rw [e] at ht; cases ht; exact rfl), Touch.none hh.2⟩))
set_option maxRecDepth 100000 in
theorem ks_55 (p2 p3 p4 g : Nat) (w0 : World) (a0 : Act) (Q : Exit → Act → World → Prop) (k2 : a0.eval (.tmp 2) = .pointer (some ⟨p2, 0, none⟩)) (k3 : a0.eval (.tmp 3) = .pointer (some ⟨p3, 0, none⟩)) (k4 : a0.eval (.tmp 4) = .pointer (some ⟨p4, 0, none⟩)) (k5 : a0.eval (.tmp 5) = .slice (some ⟨g, 0, none⟩) 2 2) : StepOk (md := .any) Try.prog R10 Q (kA g) (Touch (fun _ => False)) (fun _ w => kS p2 p3 p4 g w0 w) a0 55 (R10.getD 55 default) := by
  refine step_of (.inr ⟨53, 77, by kernel_rfl, by kernel_rfl, fun v w h => h⟩) (kS_keep p2 p3 p4 g w0) (fun a w hC hop => ?_)
  have h2 : a.eval (.tmp 2) = _ := (hop.el 2 (by kernel_rfl)).trans k2
  exact tw_load 43 (.tmp 2) (by kernel_rfl) p2 h2 43 _ _ hC.1 Try.underlying43 (by kernel_rfl) (fun t ht => by have e : (R10.getD 55 default).dst = some 79 := (by kernel_rfl); rw [e] at ht; cases ht; exact rfl)
set_option maxRecDepth 100000 in
theorem ks_56 (p2 p3 p4 g : Nat) (w0 : World) (a0 : Act) (Q : Exit → Act → World → Prop) (k2 : a0.eval (.tmp 2) = .pointer (some ⟨p2, 0, none⟩)) (k3 : a0.eval (.tmp 3) = .pointer (some ⟨p3, 0, none⟩)) (k4 : a0.eval (.tmp 4) = .pointer (some ⟨p4, 0, none⟩)) (k5 : a0.eval (.tmp 5) = .slice (some ⟨g, 0, none⟩) 2 2) : StepOk (md := .any) Try.prog R10 Q (kA g) (Touch (fun _ => False)) (fun _ w => kS p2 p3 p4 g w0 w) a0 56 (R10.getD 56 default) := by
  refine step_of (.inr ⟨53, 77, by kernel_rfl, by kernel_rfl, fun v w h => h⟩) (kS_keep p2 p3 p4 g w0) (fun a w hC hop => ?_)
  have h2 : a.eval (.tmp 2) = _ := (hop.el 2 (by kernel_rfl)).trans k2
  exact tw_load 43 (.tmp 2) (by kernel_rfl) p2 h2 43 _ _ hC.1 Try.underlying43 (by kernel_rfl) (fun t ht => by have e : (R10.getD 56 default).dst = some 80 := (by kernel_rfl); rw [e] at ht; cases ht; exact rfl)
set_option maxRecDepth 100000 in
theorem ks_57 (p2 p3 p4 g : Nat) (w0 : World) (a0 : Act) (Q : Exit → Act → World → Prop) (k2 : a0.eval (.tmp 2) = .pointer (some ⟨p2, 0, none⟩)) (k3 : a0.eval (.tmp 3) = .pointer (some ⟨p3, 0, none⟩)) (k4 : a0.eval (.tmp 4) = .pointer (some ⟨p4, 0, none⟩)) (k5 : a0.eval (.tmp 5) = .slice (some ⟨g, 0, none⟩) 2 2) : StepOk (md := .any) Try.prog R10 Q (kA g) (Touch (fun _ => False)) (fun _ w => kS p2 p3 p4 g w0 w) a0 57 (R10.getD 57 default) := by
  refine step_of (.inr ⟨53, 77, by kernel_rfl, by kernel_rfl, fun v w h => h⟩) (kS_keep p2 p3 p4 g w0) (fun a w hC hop => ?_)
  have h78 : (kA g) 78 (a.eval (.tmp 78)) w := hop.rd 78 54 (by kernel_rfl)
  replace h78 : a.eval (.tmp 78) = .agg #[(.bool false : Value), .int .i64 0, .string ⟨#[]⟩, .int .i64 0, .string ⟨#[]⟩, .int .i64 0, .int .i64 0, .int .i64 65535, .int .i64 0, .int .i64 65535, .int .i64 0, .int .i64 0, .int .i64 15] := h78
  have h79 : (kA g) 79 (a.eval (.tmp 79)) w := hop.rd 79 55 (by kernel_rfl)
  replace h79 : a.eval (.tmp 79) = .agg #[(.bool true : Value), .int .i64 0, .string ⟨#[10, 0, 0, 0]⟩, .int .i64 8, .string ⟨#[]⟩, .int .i64 0, .int .i64 0, .int .i64 65535, .int .i64 80, .int .i64 80, .int .i64 18, .int .i64 2, .int .i64 15] := h79
  have h80 : (kA g) 80 (a.eval (.tmp 80)) w := hop.rd 80 56 (by kernel_rfl)
  replace h80 : a.eval (.tmp 80) = .agg #[(.bool true : Value), .int .i64 0, .string ⟨#[10, 0, 0, 0]⟩, .int .i64 8, .string ⟨#[]⟩, .int .i64 0, .int .i64 0, .int .i64 65535, .int .i64 80, .int .i64 80, .int .i64 18, .int .i64 2, .int .i64 15] := h80
  have hv : (#[(0, (.tmp 78)), (1, (.tmp 79)), (2, (.tmp 80))] : Array (Nat × Operand)).map (fun (i, x) => (i, a.eval x)) = #[(0, (.agg #[(.bool false : Value), .int .i64 0, .string ⟨#[]⟩, .int .i64 0, .string ⟨#[]⟩, .int .i64 0, .int .i64 0, .int .i64 65535, .int .i64 0, .int .i64 65535, .int .i64 0, .int .i64 0, .int .i64 15] : Value)), (1, (.agg #[(.bool true : Value), .int .i64 0, .string ⟨#[10, 0, 0, 0]⟩, .int .i64 8, .string ⟨#[]⟩, .int .i64 0, .int .i64 0, .int .i64 65535, .int .i64 80, .int .i64 80, .int .i64 18, .int .i64 2, .int .i64 15] : Value)), (2, (.agg #[(.bool true : Value), .int .i64 0, .string ⟨#[10, 0, 0, 0]⟩, .int .i64 8, .string ⟨#[]⟩, .int .i64 0, .int .i64 0, .int .i64 65535, .int .i64 80, .int .i64 80, .int .i64 18, .int .i64 2, .int .i64 15] : Value))] := by simp only [List.map_toArray, List.map_cons, List.map_nil, h78, h79, h80]; first | done | rfl
  obtain ⟨inf, hinf, hz0, hz1⟩ : ∃ inf, Try.prog.info? 43 = some inf ∧ inf.zero = some (.agg #[(.bool false : Value), .int .i64 0, .string ⟨#[]⟩, .int .i64 0, .string ⟨#[]⟩, .int .i64 0, .int .i64 0, .int .i64 0, .int .i64 0, .int .i64 0, .int .i64 0, .int .i64 0, .int .i64 0]) ∧ inf.size = 13 := ⟨_, rfl, rfl, rfl⟩
  exact tw_slice 22 43 3 #[(0, (.tmp 78)), (1, (.tmp 79)), (2, (.tmp 80))] (by kernel_rfl) _ hv #[(.bool false : Value), .int .i64 0, .string ⟨#[]⟩, .int .i64 0, .string ⟨#[]⟩, .int .i64 0, .int .i64 0, .int .i64 65535, .int .i64 0, .int .i64 65535, .int .i64 0, .int .i64 0, .int .i64 15, .bool true, .int .i64 0, .string ⟨#[10, 0, 0, 0]⟩, .int .i64 8, .string ⟨#[]⟩, .int .i64 0, .int .i64 0, .int .i64 65535, .int .i64 80, .int .i64 80, .int .i64 18, .int .i64 2, .int .i64 15, .bool true, .int .i64 0, .string ⟨#[10, 0, 0, 0]⟩, .int .i64 8, .string ⟨#[]⟩, .int .i64 0, .int .i64 0, .int .i64 65535, .int .i64 80, .int .i64 80, .int .i64 18, .int .i64 2, .int .i64 15] inf _ Try.underlying22 hinf hz0 (by rw [hz1]; decide) (by rw [hz1]; decide) (by rw [hz1]; kernel_rfl) (fun t ht => by have e : (R10.getD 57 default).dst = some 81 := (by kernel_rfl); rw [e] at ht; cases ht; exact ⟨_, rfl, Blk.new w _ _⟩)
set_option maxRecDepth 100000 in
theorem ks_58 (p2 p3 p4 g : Nat) (w0 : World) (a0 : Act) (Q : Exit → Act → World → Prop) (k2 : a0.eval (.tmp 2) = .pointer (some ⟨p2, 0, none⟩)) (k3 : a0.eval (.tmp 3) = .pointer (some ⟨p3, 0, none⟩)) (k4 : a0.eval (.tmp 4) = .pointer (some ⟨p4, 0, none⟩)) (k5 : a0.eval (.tmp 5) = .slice (some ⟨g, 0, none⟩) 2 2) : StepOk (md := .any) Try.prog R10 Q (kA g) (Touch (fun _ => False)) (fun _ w => kS p2 p3 p4 g w0 w) a0 58 (R10.getD 58 default) := by
  refine step_of (.inr ⟨53, 77, by kernel_rfl, by kernel_rfl, fun v w h => h⟩) (kS_keep p2 p3 p4 g w0) (fun a w hC hop => ?_)
  have h81 : (kA g) 81 (a.eval (.tmp 81)) w := hop.rd 81 57 (by kernel_rfl)
  obtain ⟨b81, h81, hb81⟩ := h81
  have hv : (#[(.tmp 81)] : Array Operand).map a.eval = #[.slice (some ⟨b81, 0, none⟩) 3 3] := by simp only [List.map_toArray, List.map_cons, List.map_nil, h81]; first | done | rfl
  exact tw_call 21 #[(.tmp 81)] #[22] (by kernel_rfl) #[.slice (some ⟨b81, 0, none⟩) 3 3] hv (fun w => by kernel_rfl) (Calls.mono (shadowed_any _ 3 3 R3 w (rules3 hb81) (by omega) (by decide) (by omega) small3) (fun e w' hh => by obtain ⟨v, h1, h2, h3⟩ := hh; exact ⟨v, h1, (fun t ht => by have e : (R10.getD 58 default).dst = some 82 := (by kernel_rfl); rw [e] at ht; cases ht; exact ⟨_, h2⟩), Touch.none h3⟩))
set_option maxRecDepth 100000 in
theorem ks_59 (p2 p3 p4 g : Nat) (w0 : World) (a0 : Act) (Q : Exit → Act → World → Prop) (k2 : a0.eval (.tmp 2) = .pointer (some ⟨p2, 0, none⟩)) (k3 : a0.eval (.tmp 3) = .pointer (some ⟨p3, 0, none⟩)) (k4 : a0.eval (.tmp 4) = .pointer (some ⟨p4, 0, none⟩)) (k5 : a0.eval (.tmp 5) = .slice (some ⟨g, 0, none⟩) 2 2) : StepOk (md := .any) Try.prog R10 Q (kA g) (Touch (fun _ => False)) (fun _ w => kS p2 p3 p4 g w0 w) a0 59 (R10.getD 59 default) := by
  refine step_of (.inr ⟨53, 77, by kernel_rfl, by kernel_rfl, fun v w h => h⟩) (kS_keep p2 p3 p4 g w0) (fun a w hC hop => ?_)
  have hv : (#[(0, (.const (.int .i64 1))), (1, (.const (.int .i64 2)))] : Array (Nat × Operand)).map (fun (i, x) => (i, a.eval x)) = #[(0, (.int .i64 1 : Value)), (1, (.int .i64 2 : Value))] := by simp only [List.map_toArray, List.map_cons, List.map_nil]; first | done | rfl
  obtain ⟨inf, hinf, hz0, hz1⟩ : ∃ inf, Try.prog.info? 3 = some inf ∧ inf.zero = some (.int .i64 0) ∧ inf.size = 1 := ⟨_, rfl, rfl, rfl⟩
  exact tw_slice 55 3 2 #[(0, (.const (.int .i64 1))), (1, (.const (.int .i64 2)))] (by kernel_rfl) _ hv #[(.int .i64 1 : Value), .int .i64 2] inf _ Try.underlying55 hinf hz0 (by rw [hz1]; decide) (by rw [hz1]; decide) (by rw [hz1]; kernel_rfl) (fun t ht => by have e : (R10.getD 59 default).dst = some 83 := (by kernel_rfl); rw [e] at ht; cases ht; exact ⟨_, rfl, Blk.new w (ints [1, 2]) 3⟩)
set_option maxRecDepth 100000 in
theorem ks_60 (p2 p3 p4 g : Nat) (w0 : World) (a0 : Act) (Q : Exit → Act → World → Prop) (k2 : a0.eval (.tmp 2) = .pointer (some ⟨p2, 0, none⟩)) (k3 : a0.eval (.tmp 3) = .pointer (some ⟨p3, 0, none⟩)) (k4 : a0.eval (.tmp 4) = .pointer (some ⟨p4, 0, none⟩)) (k5 : a0.eval (.tmp 5) = .slice (some ⟨g, 0, none⟩) 2 2) : StepOk (md := .any) Try.prog R10 Q (kA g) (Touch (fun _ => False)) (fun _ w => kS p2 p3 p4 g w0 w) a0 60 (R10.getD 60 default) := by
  refine step_of (.inr ⟨53, 77, by kernel_rfl, by kernel_rfl, fun v w h => h⟩) (kS_keep p2 p3 p4 g w0) (fun a w hC hop => ?_)
  have h82 : (kA g) 82 (a.eval (.tmp 82)) w := hop.rd 82 58 (by kernel_rfl)
  have h83 : (kA g) 83 (a.eval (.tmp 83)) w := hop.rd 83 59 (by kernel_rfl)
  obtain ⟨B82, h82⟩ := h82
  have hs82 := SL.of_own h82
  rw [shad3] at hs82
  obtain ⟨b83, h83, hb83⟩ := h83
  have hs83 : SL w (a.eval (.tmp 83)) [1, 2] := h83 ▸ SL.of_blk hb83
  have hv : (#[(.tmp 82), (.tmp 83)] : Array Operand).map a.eval = #[a.eval (.tmp 82), a.eval (.tmp 83)] := by simp only [List.map_toArray, List.map_cons, List.map_nil, h82, h83]; first | done | rfl
  exact tw_call 20 #[(.tmp 82), (.tmp 83)] #[55, 55] (by kernel_rfl) #[a.eval (.tmp 82), a.eval (.tmp 83)] hv (fun w => by kernel_rfl) (Calls.mono (ints_any hs82 hs83 (by decide)) (fun e w' hh => by obtain ⟨h1, n, h2⟩ := hh; exact ⟨_, h1, (fun t ht => by have e : (R10.getD 60 default).dst = some 84 := (by kernel_rfl); rw [e] at ht; cases ht; exact rfl), h2 ▸ (Touch.refl _ w).drewN n⟩))
set_option maxRecDepth 100000 in
theorem ks_61 (p2 p3 p4 g : Nat) (w0 : World) (a0 : Act) (Q : Exit → Act → World → Prop) (k2 : a0.eval (.tmp 2) = .pointer (some ⟨p2, 0, none⟩)) (k3 : a0.eval (.tmp 3) = .pointer (some ⟨p3, 0, none⟩)) (k4 : a0.eval (.tmp 4) = .pointer (some ⟨p4, 0, none⟩)) (k5 : a0.eval (.tmp 5) = .slice (some ⟨g, 0, none⟩) 2 2) : StepOk (md := .any) Try.prog R10 Q (kA g) (Touch (fun _ => False)) (fun _ w => kS p2 p3 p4 g w0 w) a0 61 (R10.getD 61 default) := by
  refine step_of (.inl (by kernel_rfl)) (kS_keep p2 p3 p4 g w0) (fun a w hC hop => ?_)
  have h77 : (kA g) 77 (a.eval (.tmp 77)) w := hop.rd 77 53 (by kernel_rfl)
  replace h77 : a.eval (.tmp 77) = .bool true := h77
  have h84 : (kA g) 84 (a.eval (.tmp 84)) w := hop.rd 84 60 (by kernel_rfl)
  replace h84 : a.eval (.tmp 84) = .bool true := h84
  exact tw_pick (.tmp 77) (.tmp 84) (.const (.bool false)) (by kernel_rfl) true h77 (fun t ht => by have e : (R10.getD 61 default).dst = some 85 := (by kernel_rfl); rw [e] at ht; cases ht; exact h84)
set_option maxRecDepth 100000 in
theorem ks_62 (p2 p3 p4 g : Nat) (w0 : World) (a0 : Act) (Q : Exit → Act → World → Prop) (k2 : a0.eval (.tmp 2) = .pointer (some ⟨p2, 0, none⟩)) (k3 : a0.eval (.tmp 3) = .pointer (some ⟨p3, 0, none⟩)) (k4 : a0.eval (.tmp 4) = .pointer (some ⟨p4, 0, none⟩)) (k5 : a0.eval (.tmp 5) = .slice (some ⟨g, 0, none⟩) 2 2) : StepOk (md := .any) Try.prog R10 Q (kA g) (Touch (fun _ => False)) (fun _ w => kS p2 p3 p4 g w0 w) a0 62 (R10.getD 62 default) := by
  refine step_of (.inl (by kernel_rfl)) (kS_keep p2 p3 p4 g w0) (fun a w hC hop => ?_)
  have h85 : (kA g) 85 (a.eval (.tmp 85)) w := hop.rd 85 61 (by kernel_rfl)
  replace h85 : a.eval (.tmp 85) = .bool true := h85
  exact tw_move (.tmp 85) (.inl (by kernel_rfl)) (fun t ht => by have e : (R10.getD 62 default).dst = some 86 := (by kernel_rfl); rw [e] at ht; cases ht; exact h85)
set_option maxRecDepth 100000 in
theorem ks_63 (p2 p3 p4 g : Nat) (w0 : World) (a0 : Act) (Q : Exit → Act → World → Prop) (k2 : a0.eval (.tmp 2) = .pointer (some ⟨p2, 0, none⟩)) (k3 : a0.eval (.tmp 3) = .pointer (some ⟨p3, 0, none⟩)) (k4 : a0.eval (.tmp 4) = .pointer (some ⟨p4, 0, none⟩)) (k5 : a0.eval (.tmp 5) = .slice (some ⟨g, 0, none⟩) 2 2) : StepOk (md := .any) Try.prog R10 Q (kA g) (Touch (fun _ => False)) (fun _ w => kS p2 p3 p4 g w0 w) a0 63 (R10.getD 63 default) := by
  refine step_of (.inr ⟨62, 86, by kernel_rfl, by kernel_rfl, fun v w h => h⟩) (kS_keep p2 p3 p4 g w0) (fun a w hC hop => ?_)
  have h5 : a.eval (.tmp 5) = _ := (hop.el 5 (by kernel_rfl)).trans k5
  exact tw_move (.tmp 5) (.inl (by kernel_rfl)) (fun t ht => by have e : (R10.getD 63 default).dst = some 87 := (by kernel_rfl); rw [e] at ht; cases ht; exact h5)
set_option maxRecDepth 100000 in
theorem ks_64 (p2 p3 p4 g : Nat) (w0 : World) (a0 : Act) (Q : Exit → Act → World → Prop) (k2 : a0.eval (.tmp 2) = .pointer (some ⟨p2, 0, none⟩)) (k3 : a0.eval (.tmp 3) = .pointer (some ⟨p3, 0, none⟩)) (k4 : a0.eval (.tmp 4) = .pointer (some ⟨p4, 0, none⟩)) (k5 : a0.eval (.tmp 5) = .slice (some ⟨g, 0, none⟩) 2 2) : StepOk (md := .any) Try.prog R10 Q (kA g) (Touch (fun _ => False)) (fun _ w => kS p2 p3 p4 g w0 w) a0 64 (R10.getD 64 default) := by
  refine step_of (.inr ⟨62, 86, by kernel_rfl, by kernel_rfl, fun v w h => h⟩) (kS_keep p2 p3 p4 g w0) (fun a w hC hop => ?_)
  have h87 : (kA g) 87 (a.eval (.tmp 87)) w := hop.rd 87 63 (by kernel_rfl)
  replace h87 : a.eval (.tmp 87) = .slice (some ⟨g, 0, none⟩) 2 2 := h87
  have hv : (#[(.tmp 87)] : Array Operand).map a.eval = #[(.slice (some ⟨g, 0, none⟩) 2 2 : Value)] := by simp only [List.map_toArray, List.map_cons, List.map_nil, h87]; first | done | rfl
  exact tw_call 21 #[(.tmp 87)] #[22] (by kernel_rfl) #[(.slice (some ⟨g, 0, none⟩) 2 2 : Value)] hv (fun w => by kernel_rfl) (Calls.mono (shadowed_any _ 2 2 R2 w (rules2 hC.2.2.2.1) (by omega) (by decide) (by omega) small2) (fun e w' hh => by obtain ⟨v, h1, h2, h3⟩ := hh; exact ⟨v, h1, (fun t ht => by have e : (R10.getD 64 default).dst = some 88 := (by kernel_rfl); rw [e] at ht; cases ht; exact ⟨_, h2⟩), Touch.none h3⟩))
set_option maxRecDepth 100000 in
theorem ks_65 (p2 p3 p4 g : Nat) (w0 : World) (a0 : Act) (Q : Exit → Act → World → Prop) (k2 : a0.eval (.tmp 2) = .pointer (some ⟨p2, 0, none⟩)) (k3 : a0.eval (.tmp 3) = .pointer (some ⟨p3, 0, none⟩)) (k4 : a0.eval (.tmp 4) = .pointer (some ⟨p4, 0, none⟩)) (k5 : a0.eval (.tmp 5) = .slice (some ⟨g, 0, none⟩) 2 2) : StepOk (md := .any) Try.prog R10 Q (kA g) (Touch (fun _ => False)) (fun _ w => kS p2 p3 p4 g w0 w) a0 65 (R10.getD 65 default) := by
  refine step_of (.inr ⟨62, 86, by kernel_rfl, by kernel_rfl, fun v w h => h⟩) (kS_keep p2 p3 p4 g w0) (fun a w hC hop => ?_)
  have h88 : (kA g) 88 (a.eval (.tmp 88)) w := hop.rd 88 64 (by kernel_rfl)
  obtain ⟨B88, h88⟩ := h88
  rw [shad2] at h88
  obtain ⟨ad88, c88, hs88⟩ : ∃ ad c, a.eval (.tmp 88) = .slice ad 0 c := by rcases own_open (l := []) h88 with ⟨h, _⟩ | ⟨g, cap, h, _⟩ <;> exact ⟨_, _, h⟩
  exact tw_len (.tmp 88) 55 (by kernel_rfl) _ _ _ hs88 (fun ad n c w => by kernel_rfl) (fun t ht => by have e : (R10.getD 65 default).dst = some 89 := (by kernel_rfl); rw [e] at ht; cases ht; exact rfl)
set_option maxRecDepth 100000 in
theorem ks_66 (p2 p3 p4 g : Nat) (w0 : World) (a0 : Act) (Q : Exit → Act → World → Prop) (k2 : a0.eval (.tmp 2) = .pointer (some ⟨p2, 0, none⟩)) (k3 : a0.eval (.tmp 3) = .pointer (some ⟨p3, 0, none⟩)) (k4 : a0.eval (.tmp 4) = .pointer (some ⟨p4, 0, none⟩)) (k5 : a0.eval (.tmp 5) = .slice (some ⟨g, 0, none⟩) 2 2) : StepOk (md := .any) Try.prog R10 Q (kA g) (Touch (fun _ => False)) (fun _ w => kS p2 p3 p4 g w0 w) a0 66 (R10.getD 66 default) := by
  refine step_of (.inr ⟨62, 86, by kernel_rfl, by kernel_rfl, fun v w h => h⟩) (kS_keep p2 p3 p4 g w0) (fun a w hC hop => ?_)
  have h89 : (kA g) 89 (a.eval (.tmp 89)) w := hop.rd 89 65 (by kernel_rfl)
  replace h89 : a.eval (.tmp 89) = .int .i64 0 := h89
  exact tw_bin .eql 3 3 (.tmp 89) (.const (.int .i64 0)) (by kernel_rfl) (.int .i64 0) (.int .i64 0) (.bool true) h89 rfl (fun w => by kernel_rfl) (fun t ht => by have e : (R10.getD 66 default).dst = some 90 := (by kernel_rfl); rw [e] at ht; cases ht; exact rfl)
set_option maxRecDepth 100000 in
theorem ks_67 (p2 p3 p4 g : Nat) (w0 : World) (a0 : Act) (Q : Exit → Act → World → Prop) (k2 : a0.eval (.tmp 2) = .pointer (some ⟨p2, 0, none⟩)) (k3 : a0.eval (.tmp 3) = .pointer (some ⟨p3, 0, none⟩)) (k4 : a0.eval (.tmp 4) = .pointer (some ⟨p4, 0, none⟩)) (k5 : a0.eval (.tmp 5) = .slice (some ⟨g, 0, none⟩) 2 2) : StepOk (md := .any) Try.prog R10 Q (kA g) (Touch (fun _ => False)) (fun _ w => kS p2 p3 p4 g w0 w) a0 67 (R10.getD 67 default) := by
  refine step_of (.inl (by kernel_rfl)) (kS_keep p2 p3 p4 g w0) (fun a w hC hop => ?_)
  have h86 : (kA g) 86 (a.eval (.tmp 86)) w := hop.rd 86 62 (by kernel_rfl)
  replace h86 : a.eval (.tmp 86) = .bool true := h86
  have h90 : (kA g) 90 (a.eval (.tmp 90)) w := hop.rd 90 66 (by kernel_rfl)
  replace h90 : a.eval (.tmp 90) = .bool true := h90
  exact tw_pick (.tmp 86) (.tmp 90) (.const (.bool false)) (by kernel_rfl) true h86 (fun t ht => by have e : (R10.getD 67 default).dst = some 91 := (by kernel_rfl); rw [e] at ht; cases ht; exact h90)
set_option maxRecDepth 100000 in
theorem ks_68 (p2 p3 p4 g : Nat) (w0 : World) (a0 : Act) (Q : Exit → Act → World → Prop) (k2 : a0.eval (.tmp 2) = .pointer (some ⟨p2, 0, none⟩)) (k3 : a0.eval (.tmp 3) = .pointer (some ⟨p3, 0, none⟩)) (k4 : a0.eval (.tmp 4) = .pointer (some ⟨p4, 0, none⟩)) (k5 : a0.eval (.tmp 5) = .slice (some ⟨g, 0, none⟩) 2 2) : StepOk (md := .any) Try.prog R10 Q (kA g) (Touch (fun _ => False)) (fun _ w => kS p2 p3 p4 g w0 w) a0 68 (R10.getD 68 default) := by
  refine step_of (.inl (by kernel_rfl)) (kS_keep p2 p3 p4 g w0) (fun a w hC hop => ?_)
  have h91 : (kA g) 91 (a.eval (.tmp 91)) w := hop.rd 91 67 (by kernel_rfl)
  replace h91 : a.eval (.tmp 91) = .bool true := h91
  exact tw_move (.tmp 91) (.inr (by kernel_rfl)) (fun t ht => by have e : (R10.getD 68 default).dst = some 0 := (by kernel_rfl); rw [e] at ht; cases ht; exact h91)
set_option maxRecDepth 100000 in
theorem ks_all (p2 p3 p4 g : Nat) (w0 : World) (a0 : Act) (Q : Exit → Act → World → Prop) (k2 : a0.eval (.tmp 2) = .pointer (some ⟨p2, 0, none⟩)) (k3 : a0.eval (.tmp 3) = .pointer (some ⟨p3, 0, none⟩)) (k4 : a0.eval (.tmp 4) = .pointer (some ⟨p4, 0, none⟩)) (k5 : a0.eval (.tmp 5) = .slice (some ⟨g, 0, none⟩) 2 2) : ∀ i, i < 69 → StepOk (md := .any) Try.prog R10 Q (kA g) (Touch (fun _ => False)) (fun _ w => kS p2 p3 p4 g w0 w) a0 i (R10.getD i default)
  | 0, _ => ks_0 p2 p3 p4 g w0 a0 Q k2 k3 k4 k5
  | 1, _ => ks_1 p2 p3 p4 g w0 a0 Q k2 k3 k4 k5
  | 2, _ => ks_2 p2 p3 p4 g w0 a0 Q k2 k3 k4 k5
  | 3, _ => ks_3 p2 p3 p4 g w0 a0 Q k2 k3 k4 k5
  | 4, _ => ks_4 p2 p3 p4 g w0 a0 Q k2 k3 k4 k5
  | 5, _ => ks_5 p2 p3 p4 g w0 a0 Q k2 k3 k4 k5
  | 6, _ => ks_6 p2 p3 p4 g w0 a0 Q k2 k3 k4 k5
  | 7, _ => ks_7 p2 p3 p4 g w0 a0 Q k2 k3 k4 k5
  | 8, _ => ks_8 p2 p3 p4 g w0 a0 Q k2 k3 k4 k5
  | 9, _ => ks_9 p2 p3 p4 g w0 a0 Q k2 k3 k4 k5
  | 10, _ => ks_10 p2 p3 p4 g w0 a0 Q k2 k3 k4 k5
  | 11, _ => ks_11 p2 p3 p4 g w0 a0 Q k2 k3 k4 k5
  | 12, _ => ks_12 p2 p3 p4 g w0 a0 Q k2 k3 k4 k5
  | 13, _ => ks_13 p2 p3 p4 g w0 a0 Q k2 k3 k4 k5
  | 14, _ => ks_14 p2 p3 p4 g w0 a0 Q k2 k3 k4 k5
  | 15, _ => ks_15 p2 p3 p4 g w0 a0 Q k2 k3 k4 k5
  | 16, _ => ks_16 p2 p3 p4 g w0 a0 Q k2 k3 k4 k5
  | 17, _ => ks_17 p2 p3 p4 g w0 a0 Q k2 k3 k4 k5
  | 18, _ => ks_18 p2 p3 p4 g w0 a0 Q k2 k3 k4 k5
  | 19, _ => ks_19 p2 p3 p4 g w0 a0 Q k2 k3 k4 k5
  | 20, _ => ks_20 p2 p3 p4 g w0 a0 Q k2 k3 k4 k5
  | 21, _ => ks_21 p2 p3 p4 g w0 a0 Q k2 k3 k4 k5
  | 22, _ => ks_22 p2 p3 p4 g w0 a0 Q k2 k3 k4 k5
  | 23, _ => ks_23 p2 p3 p4 g w0 a0 Q k2 k3 k4 k5
  | 24, _ => ks_24 p2 p3 p4 g w0 a0 Q k2 k3 k4 k5
  | 25, _ => ks_25 p2 p3 p4 g w0 a0 Q k2 k3 k4 k5
  | 26, _ => ks_26 p2 p3 p4 g w0 a0 Q k2 k3 k4 k5
  | 27, _ => ks_27 p2 p3 p4 g w0 a0 Q k2 k3 k4 k5
  | 28, _ => ks_28 p2 p3 p4 g w0 a0 Q k2 k3 k4 k5
  | 29, _ => ks_29 p2 p3 p4 g w0 a0 Q k2 k3 k4 k5
  | 30, _ => ks_30 p2 p3 p4 g w0 a0 Q k2 k3 k4 k5
  | 31, _ => ks_31 p2 p3 p4 g w0 a0 Q k2 k3 k4 k5
  | 32, _ => ks_32 p2 p3 p4 g w0 a0 Q k2 k3 k4 k5
  | 33, _ => ks_33 p2 p3 p4 g w0 a0 Q k2 k3 k4 k5
  | 34, _ => ks_34 p2 p3 p4 g w0 a0 Q k2 k3 k4 k5
  | 35, _ => ks_35 p2 p3 p4 g w0 a0 Q k2 k3 k4 k5
  | 36, _ => ks_36 p2 p3 p4 g w0 a0 Q k2 k3 k4 k5
  | 37, _ => ks_37 p2 p3 p4 g w0 a0 Q k2 k3 k4 k5
  | 38, _ => ks_38 p2 p3 p4 g w0 a0 Q k2 k3 k4 k5
  | 39, _ => ks_39 p2 p3 p4 g w0 a0 Q k2 k3 k4 k5
  | 40, _ => ks_40 p2 p3 p4 g w0 a0 Q k2 k3 k4 k5
  | 41, _ => ks_41 p2 p3 p4 g w0 a0 Q k2 k3 k4 k5
  | 42, _ => ks_42 p2 p3 p4 g w0 a0 Q k2 k3 k4 k5
  | 43, _ => ks_43 p2 p3 p4 g w0 a0 Q k2 k3 k4 k5
  | 44, _ => ks_44 p2 p3 p4 g w0 a0 Q k2 k3 k4 k5
  | 45, _ => ks_45 p2 p3 p4 g w0 a0 Q k2 k3 k4 k5
  | 46, _ => ks_46 p2 p3 p4 g w0 a0 Q k2 k3 k4 k5
  | 47, _ => ks_47 p2 p3 p4 g w0 a0 Q k2 k3 k4 k5
  | 48, _ => ks_48 p2 p3 p4 g w0 a0 Q k2 k3 k4 k5
  | 49, _ => ks_49 p2 p3 p4 g w0 a0 Q k2 k3 k4 k5
  | 50, _ => ks_50 p2 p3 p4 g w0 a0 Q k2 k3 k4 k5
  | 51, _ => ks_51 p2 p3 p4 g w0 a0 Q k2 k3 k4 k5
  | 52, _ => ks_52 p2 p3 p4 g w0 a0 Q k2 k3 k4 k5
  | 53, _ => ks_53 p2 p3 p4 g w0 a0 Q k2 k3 k4 k5
  | 54, _ => ks_54 p2 p3 p4 g w0 a0 Q k2 k3 k4 k5
  | 55, _ => ks_55 p2 p3 p4 g w0 a0 Q k2 k3 k4 k5
  | 56, _ => ks_56 p2 p3 p4 g w0 a0 Q k2 k3 k4 k5
  | 57, _ => ks_57 p2 p3 p4 g w0 a0 Q k2 k3 k4 k5
  | 58, _ => ks_58 p2 p3 p4 g w0 a0 Q k2 k3 k4 k5
  | 59, _ => ks_59 p2 p3 p4 g w0 a0 Q k2 k3 k4 k5
  | 60, _ => ks_60 p2 p3 p4 g w0 a0 Q k2 k3 k4 k5
  | 61, _ => ks_61 p2 p3 p4 g w0 a0 Q k2 k3 k4 k5
  | 62, _ => ks_62 p2 p3 p4 g w0 a0 Q k2 k3 k4 k5
  | 63, _ => ks_63 p2 p3 p4 g w0 a0 Q k2 k3 k4 k5
  | 64, _ => ks_64 p2 p3 p4 g w0 a0 Q k2 k3 k4 k5
  | 65, _ => ks_65 p2 p3 p4 g w0 a0 Q k2 k3 k4 k5
  | 66, _ => ks_66 p2 p3 p4 g w0 a0 Q k2 k3 k4 k5
  | 67, _ => ks_67 p2 p3 p4 g w0 a0 Q k2 k3 k4 k5
  | 68, _ => ks_68 p2 p3 p4 g w0 a0 Q k2 k3 k4 k5
  | k + 69, h => absurd h (by omega)
set_option maxRecDepth 100000 in
set_option maxHeartbeats 4000000 in
theorem known_any (w : World) : Calls Try.prog 9 #[] w fun e w' => e = .returned (.bool true) ∧ Below w.heap.size w w' := by
  have hT0 := Touch.refl (fun _ => False) w
  go_enter Try.func9, Try.ntmps9
  refine wp_seq_k fun K1 hK1 => ?_
  refine wl_region ?_
  refine dw_val (by kernel_rfl) (.bool false) (by kernel_rfl) ?_
  simp only [Act.put, List.setIfInBounds_toArray, List.set_cons_zero, List.set_cons_succ]
  refine wl_nil ?_
  refine hK1 _ _ ?_
  refine wp_seq_k fun K2 hK2 => ?_
  refine wl_region ?_
  refine dw_val (by kernel_rfl) (.agg #[(.string ⟨#[10, 0, 0, 1]⟩ : Value)]) (by kernel_rfl) ?_
  simp only [Act.put, List.setIfInBounds_toArray, List.set_cons_zero, List.set_cons_succ]
  refine dw_val (by kernel_rfl) (.agg #[(.string ⟨#[10, 0, 0, 2]⟩ : Value)]) (by kernel_rfl) ?_
  simp only [Act.put, List.setIfInBounds_toArray, List.set_cons_zero, List.set_cons_succ]
  refine dw_val (by kernel_rfl) (.agg #[(.int .i64 9 : Value), .int .i64 80, .int .u32 0, .int .u32 0, .int .i64 2, .int .i64 0, .int .i64 0, .int .i64 0, .int .i64 0, .bool false, .slice none 0 0, .bool false, .int .u32 0, .int .u32 0, .string ⟨#[]⟩]) (by kernel_rfl) ?_
  simp only [Act.put, List.setIfInBounds_toArray, List.set_cons_zero, List.set_cons_succ]
  refine dw_val (by kernel_rfl) (.agg #[(.string ⟨#[10, 0, 0, 1]⟩ : Value), .string ⟨#[10, 0, 0, 2]⟩, .int .i64 9, .int .i64 80, .int .u32 0, .int .u32 0, .int .i64 2, .int .i64 0, .int .i64 0, .int .i64 0, .int .i64 0, .bool false, .slice none 0 0, .bool false, .int .u32 0, .int .u32 0, .string ⟨#[]⟩]) (by kernel_rfl) ?_
  simp only [Act.put, List.setIfInBounds_toArray, List.set_cons_zero, List.set_cons_succ]
  refine dw_new (by kernel_rfl) [(.string ⟨#[]⟩ : Value), .string ⟨#[]⟩, .int .i64 0, .int .i64 0, .int .u32 0, .int .u32 0, .int .i64 0, .int .i64 0, .int .i64 0, .int .i64 0, .int .i64 0, .bool false, .slice none 0 0, .bool false, .int .u32 0, .int .u32 0, .string ⟨#[]⟩] 32 (by kernel_rfl) ?_
  intro n1 w2 hnn1 hsn1 hBn1 hTn1
  have hgen1 : w.heap.size ≤ n1 := by have := hT0.size; omega
  replace hT0 := hT0.trans hTn1 (fun _ _ h => h.elim)
  simp only [Act.put, List.setIfInBounds_toArray, List.set_cons_zero, List.set_cons_succ]
  refine dw_put (by kernel_rfl) 32 (.tmp 1) (.tmp 9) rfl n1 0 rfl (.agg #[(.string ⟨#[10, 0, 0, 1]⟩ : Value), .string ⟨#[10, 0, 0, 2]⟩, .int .i64 9, .int .i64 80, .int .u32 0, .int .u32 0, .int .i64 2, .int .i64 0, .int .i64 0, .int .i64 0, .int .i64 0, .bool false, .slice none 0 0, .bool false, .int .u32 0, .int .u32 0, .string ⟨#[]⟩]) rfl _ _ hBn1 [(.string ⟨#[10, 0, 0, 1]⟩ : Value), .string ⟨#[10, 0, 0, 2]⟩, .int .i64 9, .int .i64 80, .int .u32 0, .int .u32 0, .int .i64 2, .int .i64 0, .int .i64 0, .int .i64 0, .int .i64 0, .bool false, .slice none 0 0, .bool false, .int .u32 0, .int .u32 0, .string ⟨#[]⟩] rfl (by decide) (by kernel_rfl) (by kernel_rfl) [(.string ⟨#[10, 0, 0, 1]⟩ : Value), .string ⟨#[10, 0, 0, 2]⟩, .int .i64 9, .int .i64 80, .int .u32 0, .int .u32 0, .int .i64 2, .int .i64 0, .int .i64 0, .int .i64 0, .int .i64 0, .bool false, .slice none 0 0, .bool false, .int .u32 0, .int .u32 0, .string ⟨#[]⟩] rfl ?_
  intro w3 hBw3_ hTw3 hSw3
  replace hT0 := hT0.trans hTw3 (fun i hi h => by first | omega | (subst h; omega) | exact h | exact .inl h | exact .inr h)
  clear hBn1
  have hBn1 := hBw3_
  clear hBw3_
  simp only [Act.put]
  refine wl_nil ?_
  refine hK2 _ _ ?_
  refine wp_seq_k fun K3 hK3 => ?_
  refine wl_region ?_
  refine dw_ret (by kernel_rfl) 23 #[(.bool true : Value)] (by kernel_rfl) (wide23 true w3) ?_
  intro w4 hb
  have ht5 : Touch (fun _ => False) w3 w4 := Touch.none hb
  replace hBn1 := hBn1.keep ht5 (fun h => h)
  replace hT0 := hT0.trans ht5 (fun _ _ h => h.elim)
  clear hb
  simp only [Act.put, List.setIfInBounds_toArray, List.set_cons_zero, List.set_cons_succ]
  refine dw_new (by kernel_rfl) [(.bool false : Value), .int .i64 0, .string ⟨#[]⟩, .int .i64 0, .string ⟨#[]⟩, .int .i64 0, .int .i64 0, .int .i64 0, .int .i64 0, .int .i64 0, .int .i64 0, .int .i64 0, .int .i64 0] 43 (by kernel_rfl) ?_
  intro n6 w7 hnn6 hsn6 hBn6 hTn6
  have hnen1n6 : n1 ≠ n6 := by have := hBn1.lt; omega
  have hgen6 : w.heap.size ≤ n6 := by have := hT0.size; omega
  replace hBn1 := hBn1.keep hTn6 (fun h => h)
  replace hT0 := hT0.trans hTn6 (fun _ _ h => h.elim)
  simp only [Act.put, List.setIfInBounds_toArray, List.set_cons_zero, List.set_cons_succ]
  refine dw_put (by kernel_rfl) 43 (.tmp 2) (.tmp 10) rfl n6 0 rfl (.agg #[(.bool true : Value), .int .i64 0, .string ⟨#[]⟩, .int .i64 0, .string ⟨#[]⟩, .int .i64 0, .int .i64 0, .int .i64 65535, .int .i64 0, .int .i64 65535, .int .i64 0, .int .i64 0, .int .i64 15]) rfl _ _ hBn6 [(.bool true : Value), .int .i64 0, .string ⟨#[]⟩, .int .i64 0, .string ⟨#[]⟩, .int .i64 0, .int .i64 0, .int .i64 65535, .int .i64 0, .int .i64 65535, .int .i64 0, .int .i64 0, .int .i64 15] rfl (by decide) (by kernel_rfl) (by kernel_rfl) [(.bool true : Value), .int .i64 0, .string ⟨#[]⟩, .int .i64 0, .string ⟨#[]⟩, .int .i64 0, .int .i64 0, .int .i64 65535, .int .i64 0, .int .i64 65535, .int .i64 0, .int .i64 0, .int .i64 15] rfl ?_
  intro w8 hBw8_ hTw8 hSw8
  replace hBn1 := hBn1.keep hTw8 (by intro h; omega)
  replace hT0 := hT0.trans hTw8 (fun i hi h => by first | omega | (subst h; omega) | exact h | exact .inl h | exact .inr h)
  clear hBn6
  have hBn6 := hBw8_
  clear hBw8_
  simp only [Act.put]
  refine wl_nil ?_
  refine hK3 _ _ ?_
  refine wp_seq_k fun K4 hK4 => ?_
  refine wl_region ?_
  refine dw_val (by kernel_rfl) (.agg #[(.string ⟨#[10, 0, 0, 0]⟩ : Value)]) (by kernel_rfl) ?_
  simp only [Act.put, List.setIfInBounds_toArray, List.set_cons_zero, List.set_cons_succ]
  refine dw_val (by kernel_rfl) (.agg #[(.string ⟨#[10, 0, 0, 0]⟩ : Value), .int .i64 8]) (by kernel_rfl) ?_
  simp only [Act.put, List.setIfInBounds_toArray, List.set_cons_zero, List.set_cons_succ]
  refine dw_val (by kernel_rfl) (.pointer (some ⟨n6, 2, none⟩)) (by kernel_rfl) ?_
  simp only [Act.put, List.setIfInBounds_toArray, List.set_cons_zero, List.set_cons_succ]
  refine dw_put (by kernel_rfl) 40 (.tmp 13) (.tmp 12) rfl n6 2 rfl (.agg #[(.string ⟨#[10, 0, 0, 0]⟩ : Value), .int .i64 8]) rfl _ _ hBn6 [(.string ⟨#[10, 0, 0, 0]⟩ : Value), .int .i64 8] rfl (by decide) (by kernel_rfl) (by kernel_rfl) [(.bool true : Value), .int .i64 0, .string ⟨#[10, 0, 0, 0]⟩, .int .i64 8, .string ⟨#[]⟩, .int .i64 0, .int .i64 0, .int .i64 65535, .int .i64 0, .int .i64 65535, .int .i64 0, .int .i64 0, .int .i64 15] rfl ?_
  intro w9 hBw9_ hTw9 hSw9
  replace hBn1 := hBn1.keep hTw9 (by intro h; omega)
  replace hT0 := hT0.trans hTw9 (fun i hi h => by first | omega | (subst h; omega) | exact h | exact .inl h | exact .inr h)
  clear hBn6
  have hBn6 := hBw9_
  clear hBw9_
  simp only [Act.put]
  refine wl_nil ?_
  refine hK4 _ _ ?_
  refine wp_seq_k fun K5 hK5 => ?_
  refine wl_region ?_
  refine dw_val (by kernel_rfl) (.agg #[(.int .i64 80 : Value), .int .i64 80]) (by kernel_rfl) ?_
  simp only [Act.put, List.setIfInBounds_toArray, List.set_cons_zero, List.set_cons_succ]
  refine dw_val (by kernel_rfl) (.pointer (some ⟨n6, 8, none⟩)) (by kernel_rfl) ?_
  simp only [Act.put, List.setIfInBounds_toArray, List.set_cons_zero, List.set_cons_succ]
  refine dw_put (by kernel_rfl) 41 (.tmp 15) (.tmp 14) rfl n6 8 rfl (.agg #[(.int .i64 80 : Value), .int .i64 80]) rfl _ _ hBn6 [(.int .i64 80 : Value), .int .i64 80] rfl (by decide) (by kernel_rfl) (by kernel_rfl) [(.bool true : Value), .int .i64 0, .string ⟨#[10, 0, 0, 0]⟩, .int .i64 8, .string ⟨#[]⟩, .int .i64 0, .int .i64 0, .int .i64 65535, .int .i64 80, .int .i64 80, .int .i64 0, .int .i64 0, .int .i64 15] rfl ?_
  intro w10 hBw10_ hTw10 hSw10
  replace hBn1 := hBn1.keep hTw10 (by intro h; omega)
  replace hT0 := hT0.trans hTw10 (fun i hi h => by first | omega | (subst h; omega) | exact h | exact .inl h | exact .inr h)
  clear hBn6
  have hBn6 := hBw10_
  clear hBw10_
  simp only [Act.put]
  refine wl_nil ?_
  refine hK5 _ _ ?_
  refine wp_seq_k fun K6 hK6 => ?_
  refine wl_region ?_
  refine dw_val (by kernel_rfl) (.pointer (some ⟨n6, 10, none⟩)) (by kernel_rfl) ?_
  simp only [Act.put, List.setIfInBounds_toArray, List.set_cons_zero, List.set_cons_succ]
  refine dw_put (by kernel_rfl) 3 (.tmp 16) (.const (.int .i64 18)) rfl n6 10 rfl (.int .i64 18) rfl _ _ hBn6 [(.int .i64 18 : Value)] rfl (by decide) (by kernel_rfl) (by kernel_rfl) [(.bool true : Value), .int .i64 0, .string ⟨#[10, 0, 0, 0]⟩, .int .i64 8, .string ⟨#[]⟩, .int .i64 0, .int .i64 0, .int .i64 65535, .int .i64 80, .int .i64 80, .int .i64 18, .int .i64 0, .int .i64 15] rfl ?_
  intro w11 hBw11_ hTw11 hSw11
  replace hBn1 := hBn1.keep hTw11 (by intro h; omega)
  replace hT0 := hT0.trans hTw11 (fun i hi h => by first | omega | (subst h; omega) | exact h | exact .inl h | exact .inr h)
  clear hBn6
  have hBn6 := hBw11_
  clear hBw11_
  simp only [Act.put]
  refine wl_nil ?_
  refine hK6 _ _ ?_
  refine wp_seq_k fun K7 hK7 => ?_
  refine wl_region ?_
  refine dw_val (by kernel_rfl) (.pointer (some ⟨n6, 11, none⟩)) (by kernel_rfl) ?_
  simp only [Act.put, List.setIfInBounds_toArray, List.set_cons_zero, List.set_cons_succ]
  refine dw_put (by kernel_rfl) 3 (.tmp 17) (.const (.int .i64 2)) rfl n6 11 rfl (.int .i64 2) rfl _ _ hBn6 [(.int .i64 2 : Value)] rfl (by decide) (by kernel_rfl) (by kernel_rfl) [(.bool true : Value), .int .i64 0, .string ⟨#[10, 0, 0, 0]⟩, .int .i64 8, .string ⟨#[]⟩, .int .i64 0, .int .i64 0, .int .i64 65535, .int .i64 80, .int .i64 80, .int .i64 18, .int .i64 2, .int .i64 15] rfl ?_
  intro w12 hBw12_ hTw12 hSw12
  replace hBn1 := hBn1.keep hTw12 (by intro h; omega)
  replace hT0 := hT0.trans hTw12 (fun i hi h => by first | omega | (subst h; omega) | exact h | exact .inl h | exact .inr h)
  clear hBn6
  have hBn6 := hBw12_
  clear hBw12_
  simp only [Act.put]
  refine wl_nil ?_
  refine hK7 _ _ ?_
  refine wp_seq_k fun K8 hK8 => ?_
  refine wl_region ?_
  refine dw_row (by kernel_rfl) 32 (.tmp 1) rfl n1 0 rfl _ _ hBn1 [(.string ⟨#[10, 0, 0, 1]⟩ : Value), .string ⟨#[10, 0, 0, 2]⟩, .int .i64 9, .int .i64 80, .int .u32 0, .int .u32 0, .int .i64 2, .int .i64 0, .int .i64 0, .int .i64 0, .int .i64 0, .bool false, .slice none 0 0, .bool false, .int .u32 0, .int .u32 0, .string ⟨#[]⟩] rfl _ Try.underlying32 rfl (by kernel_rfl) ?_
  simp only [Act.put, List.setIfInBounds_toArray, List.set_cons_zero, List.set_cons_succ]
  refine dw_val (by kernel_rfl) (.agg #[(.string ⟨#[10, 0, 0, 1]⟩ : Value), .string ⟨#[10, 0, 0, 2]⟩, .int .i64 9, .int .i64 80, .int .u32 0, .int .u32 0, .int .i64 2, .int .i64 0, .int .i64 0, .int .i64 0, .int .i64 0, .bool false, .slice none 0 0, .bool false, .int .u32 0, .int .u32 0, .string ⟨#[]⟩, .int .i64 1, .int .i64 1]) (by kernel_rfl) ?_
  simp only [Act.put, List.setIfInBounds_toArray, List.set_cons_zero, List.set_cons_succ]
  refine dw_new (by kernel_rfl) [(.string ⟨#[]⟩ : Value), .string ⟨#[]⟩, .int .i64 0, .int .i64 0, .int .u32 0, .int .u32 0, .int .i64 0, .int .i64 0, .int .i64 0, .int .i64 0, .int .i64 0, .bool false, .slice none 0 0, .bool false, .int .u32 0, .int .u32 0, .string ⟨#[]⟩, .int .i64 0, .int .i64 0] 34 (by kernel_rfl) ?_
  intro n13 w14 hnn13 hsn13 hBn13 hTn13
  have hnen1n13 : n1 ≠ n13 := by have := hBn1.lt; omega
  have hnen6n13 : n6 ≠ n13 := by have := hBn6.lt; omega
  have hgen13 : w.heap.size ≤ n13 := by have := hT0.size; omega
  replace hBn1 := hBn1.keep hTn13 (fun h => h)
  replace hBn6 := hBn6.keep hTn13 (fun h => h)
  replace hT0 := hT0.trans hTn13 (fun _ _ h => h.elim)
  simp only [Act.put, List.setIfInBounds_toArray, List.set_cons_zero, List.set_cons_succ]
  refine dw_put (by kernel_rfl) 34 (.tmp 3) (.tmp 19) rfl n13 0 rfl (.agg #[(.string ⟨#[10, 0, 0, 1]⟩ : Value), .string ⟨#[10, 0, 0, 2]⟩, .int .i64 9, .int .i64 80, .int .u32 0, .int .u32 0, .int .i64 2, .int .i64 0, .int .i64 0, .int .i64 0, .int .i64 0, .bool false, .slice none 0 0, .bool false, .int .u32 0, .int .u32 0, .string ⟨#[]⟩, .int .i64 1, .int .i64 1]) rfl _ _ hBn13 [(.string ⟨#[10, 0, 0, 1]⟩ : Value), .string ⟨#[10, 0, 0, 2]⟩, .int .i64 9, .int .i64 80, .int .u32 0, .int .u32 0, .int .i64 2, .int .i64 0, .int .i64 0, .int .i64 0, .int .i64 0, .bool false, .slice none 0 0, .bool false, .int .u32 0, .int .u32 0, .string ⟨#[]⟩, .int .i64 1, .int .i64 1] rfl (by decide) (by kernel_rfl) (by kernel_rfl) [(.string ⟨#[10, 0, 0, 1]⟩ : Value), .string ⟨#[10, 0, 0, 2]⟩, .int .i64 9, .int .i64 80, .int .u32 0, .int .u32 0, .int .i64 2, .int .i64 0, .int .i64 0, .int .i64 0, .int .i64 0, .bool false, .slice none 0 0, .bool false, .int .u32 0, .int .u32 0, .string ⟨#[]⟩, .int .i64 1, .int .i64 1] rfl ?_
  intro w15 hBw15_ hTw15 hSw15
  replace hBn1 := hBn1.keep hTw15 (by intro h; omega)
  replace hBn6 := hBn6.keep hTw15 (by intro h; omega)
  replace hT0 := hT0.trans hTw15 (fun i hi h => by first | omega | (subst h; omega) | exact h | exact .inl h | exact .inr h)
  clear hBn13
  have hBn13 := hBw15_
  clear hBw15_
  simp only [Act.put]
  refine wl_nil ?_
  refine hK8 _ _ ?_
  refine wp_seq_k fun K9 hK9 => ?_
  refine wl_region ?_
  refine dw_val (by kernel_rfl) (.agg #[(.string ⟨#[]⟩ : Value), .string ⟨#[]⟩, .int .i64 0, .int .i64 0, .int .u32 0, .int .u32 0, .int .i64 0, .int .i64 0, .int .i64 0, .int .i64 0, .int .i64 0, .bool false, .slice none 0 0, .bool false, .int .u32 0, .int .u32 0, .string ⟨#[]⟩, .int .i64 2, .int .i64 3]) (by kernel_rfl) ?_
  simp only [Act.put, List.setIfInBounds_toArray, List.set_cons_zero, List.set_cons_succ]
  refine dw_new (by kernel_rfl) [(.string ⟨#[]⟩ : Value), .string ⟨#[]⟩, .int .i64 0, .int .i64 0, .int .u32 0, .int .u32 0, .int .i64 0, .int .i64 0, .int .i64 0, .int .i64 0, .int .i64 0, .bool false, .slice none 0 0, .bool false, .int .u32 0, .int .u32 0, .string ⟨#[]⟩, .int .i64 0, .int .i64 0] 34 (by kernel_rfl) ?_
  intro n16 w17 hnn16 hsn16 hBn16 hTn16
  have hnen1n16 : n1 ≠ n16 := by have := hBn1.lt; omega
  have hnen6n16 : n6 ≠ n16 := by have := hBn6.lt; omega
  have hnen13n16 : n13 ≠ n16 := by have := hBn13.lt; omega
  have hgen16 : w.heap.size ≤ n16 := by have := hT0.size; omega
  replace hBn1 := hBn1.keep hTn16 (fun h => h)
  replace hBn6 := hBn6.keep hTn16 (fun h => h)
  replace hBn13 := hBn13.keep hTn16 (fun h => h)
  replace hT0 := hT0.trans hTn16 (fun _ _ h => h.elim)
  simp only [Act.put, List.setIfInBounds_toArray, List.set_cons_zero, List.set_cons_succ]
  refine dw_put (by kernel_rfl) 34 (.tmp 4) (.tmp 20) rfl n16 0 rfl (.agg #[(.string ⟨#[]⟩ : Value), .string ⟨#[]⟩, .int .i64 0, .int .i64 0, .int .u32 0, .int .u32 0, .int .i64 0, .int .i64 0, .int .i64 0, .int .i64 0, .int .i64 0, .bool false, .slice none 0 0, .bool false, .int .u32 0, .int .u32 0, .string ⟨#[]⟩, .int .i64 2, .int .i64 3]) rfl _ _ hBn16 [(.string ⟨#[]⟩ : Value), .string ⟨#[]⟩, .int .i64 0, .int .i64 0, .int .u32 0, .int .u32 0, .int .i64 0, .int .i64 0, .int .i64 0, .int .i64 0, .int .i64 0, .bool false, .slice none 0 0, .bool false, .int .u32 0, .int .u32 0, .string ⟨#[]⟩, .int .i64 2, .int .i64 3] rfl (by decide) (by kernel_rfl) (by kernel_rfl) [(.string ⟨#[]⟩ : Value), .string ⟨#[]⟩, .int .i64 0, .int .i64 0, .int .u32 0, .int .u32 0, .int .i64 0, .int .i64 0, .int .i64 0, .int .i64 0, .int .i64 0, .bool false, .slice none 0 0, .bool false, .int .u32 0, .int .u32 0, .string ⟨#[]⟩, .int .i64 2, .int .i64 3] rfl ?_
  intro w18 hBw18_ hTw18 hSw18
  replace hBn1 := hBn1.keep hTw18 (by intro h; omega)
  replace hBn6 := hBn6.keep hTw18 (by intro h; omega)
  replace hBn13 := hBn13.keep hTw18 (by intro h; omega)
  replace hT0 := hT0.trans hTw18 (fun i hi h => by first | omega | (subst h; omega) | exact h | exact .inl h | exact .inr h)
  clear hBn16
  have hBn16 := hBw18_
  clear hBw18_
  simp only [Act.put]
  refine wl_nil ?_
  refine hK9 _ _ ?_
  refine wp_seq_k fun K10 hK10 => ?_
  refine wp_region_at (R := R9) (by kernel_rfl) ?_
  have hS0 : kS9 n6 w18 w18 := ⟨hBn6, Touch.refl _ _⟩
  refine wp_region_tells kA9 (Touch (fun _ => False)) (fun _ w' => kS9 n6 w18 w') (by kernel_rfl) (by kernel_rfl) kA9_keep (kS9_keep n6 w18 _ _ hS0 (Touch.refl _ _).drew) (fun i o ho => ?_) (fun listed a1 w1 hl hC hsl => ?_)
  · have hi : i < 4 := by have := (Array.getElem?_eq_some_iff.1 ho).1; rw [show R9.size = 4 from by kernel_rfl] at this; exact this
    obtain rfl : o = R9.getD i default := by rw [Array.getD_eq_getD_getElem?, ho]; rfl
    exact kq_all n6 w18 _ _ rfl i hi
  have he := hsl.eq [21, 22, 23, 5] (by kernel_rfl)
  have hv : kA9 5 (a1.tmps.getD 5 undef) w1 := hsl.wrote 3 (R9.getD 3 default) 5 (by kernel_rfl) (by kernel_rfl) (hl 3)
  obtain ⟨g, hv, hg⟩ := hv
  rw [he]
  simp only [List.foldl_cons, List.foldl_nil, hv]
  generalize a1.tmps.getD 21 undef = u21
  generalize a1.tmps.getD 22 undef = u22
  generalize a1.tmps.getD 23 undef = u23
  clear hsl he hv hl
  simp only [Act.put, List.setIfInBounds_toArray, List.set_cons_zero, List.set_cons_succ]
  have hTT := hC.2
  have hnen1g : True := trivial
  have hnen6g : True := trivial
  have hnen13g : True := trivial
  have hnen16g : True := trivial
  replace hBn1 := hBn1.keep hTT (fun h => h)
  replace hBn6 := hBn6.keep hTT (fun h => h)
  replace hBn13 := hBn13.keep hTT (fun h => h)
  replace hBn16 := hBn16.keep hTT (fun h => h)
  replace hT0 := hT0.trans hTT (fun _ _ h => h.elim)
  clear hC hTT hS0
  refine hK10 _ _ ?_
  refine wp_seq_k fun K11 hK11 => ?_
  refine wp_region_at (R := R10) (by kernel_rfl) ?_
  have hS0 : kS n6 n13 n16 g w w1 := ⟨hBn6, hBn13, hBn16, hg, hT0⟩
  refine wp_region_tells (kA g) (Touch (fun _ => False)) (fun _ w' => kS n6 n13 n16 g w w') (by kernel_rfl) (by kernel_rfl) (kA_keep g) (kS_keep n6 n13 n16 g w _ _ hS0 (Touch.refl _ _).drew) (fun i o ho => ?_) (fun listed a1 w1 hl hC hsl => ?_)
  · have hi : i < 69 := by have := (Array.getElem?_eq_some_iff.1 ho).1; rw [show R10.size = 69 from by kernel_rfl] at this; exact this
    obtain rfl : o = R10.getD i default := by rw [Array.getD_eq_getD_getElem?, ho]; rfl
    exact ks_all n6 n13 n16 g w _ _ rfl rfl rfl rfl i hi
  have hv : kA g 0 (a1.tmps.getD 0 undef) w1 := hsl.wrote 68 (R10.getD 68 default) 0 (by kernel_rfl) (by kernel_rfl) (hl 68)
  replace hv : a1.tmps.getD 0 undef = .bool true := hv
  have hd := hsl.defers
  refine hK11 _ _ ?_
  refine wp_ret ?_
  repeat (first | with_reducible refine ret_then ?_ | with_reducible refine ret_block ?_)
  refine bodyPost_ret (v := .bool true) ?_ hd ?_
  · simp only [results]; rw [show Try.f9.results = #[.tmp 0] from rfl]; simp; simpa using hv
  · exact ⟨rfl, hC.2.2.2.2.toBelow⟩
end Go.Proofs.Ytolkimdfnlfpbaa
