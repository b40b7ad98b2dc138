/- What cell.Set answers. Conditions: the text's size, the number fits 64 bits. -/
import Derived.Test.YtbpmiamdjbebiaaB
set_option linter.unusedVariables false
set_option linter.unusedSimpArgs false
namespace Go.Proofs.Ytbpmiamdjbebiaa
open Go.RowKit

/-- What Set answers. -/
def setS (s : ByteArray) (at_ size : Int) (n : Nat) : ByteArray :=
  if thereP s.size at_ size then s.extract 0 at_.toNat ++ ⟨(putL n size).toArray⟩ ++ s.extract (at_ + size).toNat s.size else s
theorem setS_yes {s : ByteArray} {at_ size : Int} {n : Nat} (h : thereP s.size at_ size) : setS s at_ size n = s.extract 0 at_.toNat ++ ⟨(putL n size).toArray⟩ ++ s.extract (at_ + size).toNat s.size := if_pos h
theorem setS_no {s : ByteArray} {at_ size : Int} {n : Nat} (h : ¬ thereP s.size at_ size) : setS s at_ size n = s := if_neg h

set_option maxRecDepth 100000 in
theorem set_any (s : ByteArray) (at_ size : Int) (n : Nat) (w : World) (hs : s.size ≤ 140737488351232) (hn : n < 18446744073709551616) :
    Calls Try.prog 11 #[.string s, .int .i64 at_, .int .i64 size, .int .u64 n] w fun e w' => e = .returned (.tuple #[.string (setS s at_ size n), .bool (thereB s.size at_ size)]) ∧ Below w.heap.size w w' := by
  have ht := fun w => there_any s at_ size w (by unfold maxLen; omega)
  by_cases h : thereP s.size at_ size
  · rw [thereB_yes h] at ht ⊢
    rw [setS_yes h]
    have hp := fun w => put_any n size w hn
    have hpl := putL_len n size
    generalize putL n size = pl at *
    unfold thereP at h
    obtain ⟨h1, h2, h3, h4⟩ := h
    have h5 : at_ ≤ s.size := by omega
    have h6 : 0 ≤ at_ + size := by omega
    have h7 : ¬ (9223372036854775807 < at_.toNat + pl.length) := by omega
    have h8 : ¬ (9223372036854775807 < at_.toNat + pl.length + (s.size - (at_ + size).toNat)) := by omega
    have hw64 : IntKind.i64.wrap (at_ + size) = at_ + size := IntWalk.i64_in _ (by omega)
    have HT := Lib.hid ht
    have HP := Lib.hid hp
    clear ht hp
    obtain ⟨X, hne, F, hX, hF⟩ := family (fun W => Below w.heap.size w W) w (Below.refl _ _)
    have HX := Lib.hid hX
    clear hX
    go_enter Try.func11, Try.ntmps11
    go_wp2_with (go_at_call 21; refine (HT.out _).mono ?_; rintro e w' ⟨rfl, rfl⟩)
    refine wp_region_fam F (by kernel_rfl) (by kernel_rfl) (hF _ ((Below.refl _ _).drew)) ?_
    have HF := Lib.hid hF
    clear hF
    repeat
      (refine wpQuiet_step (fun K hK => ?_)
       go_simp
       first
         | (refine hK _ ?_; clear hK K)
         | (apply Exists.intro
            refine ⟨fun x => ?_, hK _ ?_⟩
            (go_at_call 13; exact (HP.out (F x)).mono fun e w' ⟨he, hb⟩ => ⟨he, HF.out _ (((HX.out x)).trans (hb.mono (HX.out x).size))⟩)
            clear hK K))
    refine wpQuiet_nil ?_
    intro x
    have hb := HX.out x
    go_wp2
    go_ret2
    exact ⟨rfl, hb⟩
  · rw [thereB_no h] at ht ⊢
    rw [setS_no h]
    have HT := Lib.hid ht
    clear ht h
    go_enter Try.func11, Try.ntmps11
    go_wp2_with (go_at_call 21; refine (HT.out _).mono ?_; rintro e w' ⟨rfl, rfl⟩)
    go_ret2
    exact ⟨rfl, Below.refl _ _⟩
end Go.Proofs.Ytbpmiamdjbebiaa
