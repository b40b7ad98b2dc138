/- CellBack returns true: the walk. Conditions: the arguments fit their kinds. -/
import Derived.Test.YtbpmiamdjbebiaaLawSets
import Derived.Test.YtbpmiamdjbebiaaFlat
set_option linter.unusedVariables false
set_option linter.unusedSimpArgs false
namespace Go.Proofs.Ytbpmiamdjbebiaa
open Go.RowKit

theorem leaves35 : leavesAt Try.prog 9 35 = [(0, 5), (1, 5)] := by kernel_rfl
theorem cells35 : Try.prog.cellsOf 35 = 2 := by kernel_rfl
theorem list2 {α : Type} {l : List α} {a b : α} (h : l.length = 2) (h0 : l[0]? = some a) (h1 : l[1]? = some b) : l = [a, b] := by
  match l, h with
  | [x, y], _ => simp at h0 h1; rw [h0, h1]
theorem leaf_u8 {v : Value} (h : leafOk Try.prog 5 v) : ∃ n : Nat, v = .int .u8 n ∧ n < 256 := by
  unfold leafOk at h
  rw [Try.underlying5] at h
  obtain ⟨a, rfl, hw⟩ := h
  obtain ⟨n, rfl, hn⟩ := u8_nat hw
  exact ⟨n, rfl, hn⟩
theorem cut_math (n k : Nat) (h : k ≤ 8) : IntKind.u64.wrap ((n : Int) * 2 ^ (64 - 8 * k)) / 2 ^ (64 - 8 * k) = ((n % 256 ^ k : Nat) : Int) := by
  have := bits_math n 0 (8 * k) (by omega)
  rw [Int.pow_zero, Int.ediv_one] at this
  rw [this, Nat.pow_zero, Nat.div_one, show (256 : Nat) = 2 ^ 8 from rfl, ← Nat.pow_mul]

theorem setL_mid (l : List UInt8) (a k n : Nat) (h : a + k ≤ l.length) : ((setL l a k n).drop a).take k = be n k := by
  have e : (l.take a).length = a := by simp; omega
  unfold setL
  rw [List.append_assoc, List.drop_append_of_le_length (by omega), List.drop_of_length_le (by omega), List.nil_append, List.take_append_of_le_length (by rw [be_length]; omega), List.take_of_length_le (by rw [be_length]; omega)]
theorem setL_pre (l : List UInt8) (a k n : Nat) (h : a + k ≤ l.length) : (setL l a k n).take a = l.take a := by
  have e : (l.take a).length = a := by simp; omega
  unfold setL
  rw [List.append_assoc, List.take_append_of_le_length (by omega), List.take_of_length_le (by omega)]
theorem setL_post (l : List UInt8) (a k n : Nat) (h : a + k ≤ l.length) : (setL l a k n).drop (a + k) = l.drop (a + k) := by
  have e : (l.take a).length = a := by simp; omega
  unfold setL
  rw [List.drop_append_of_le_length (by simp [be_length]; omega), List.drop_of_length_le (by simp [be_length]; omega), List.nil_append]

set_option maxHeartbeats 1000000 in
set_option maxRecDepth 100000 in
theorem cellBack_go (l : List UInt8) (n x0 x1 : Nat) (w : World) (hl : l.length ≤ 9223372036854775807) (hn : n < 18446744073709551616) (h0 : x0 < 256) (h1 : x1 < 256) :
    Calls Try.prog 5 #[.string ⟨l.toArray⟩, .int .u64 n, .agg #[.int .u8 x0, .int .u8 x1]] w fun e w' => e = .returned (.bool true) ∧ Below w.heap.size w w' := by
  have GK := Lib.hid known_any
  obtain ⟨k, hk⟩ : ∃ k : Nat, k = 1 + x0 % 8 := ⟨_, rfl⟩
  have hk1 : 1 ≤ k := by omega
  have hk2 : k ≤ 8 := by omega
  have hkm : 1 + (x0 : Int) % 8 = (k : Int) := by omega
  clear hk
  have B0 := Lib.hid ((Below.refl w.heap.size w).alloc (Nat.le_refl _) (.cells #[.int .u8 x0, .int .u8 x1] 35))
  by_cases hlo : k ≤ l.length
  · by_cases hhi : l.length ≤ 2000
    · obtain ⟨a, ha⟩ : ∃ a : Nat, a = x1 % (l.length - k + 1) := ⟨_, rfl⟩
      have ha1 : a + k ≤ l.length := by have := Nat.mod_lt x1 (show 0 < l.length - k + 1 by omega); omega
      have hlo' : (k : Int) ≤ l.length := by omega
      have hhi' : (l.length : Int) ≤ 2000 := by omega
      have ham : (x1 : Int) % ((l.length : Int) - k + 1) = (a : Int) := by
        rw [ha]; rw [show ((l.length : Int) - k + 1) = ((l.length - k + 1 : Nat) : Int) by omega]; rfl
      have hdiv : (0 : Int) < (l.length : Int) - k + 1 := by omega
      clear ha
      have hbl := be_length n k
      have L1 := setL_len l a k n ha1
      have g1 := fun w => put_any n k w hn
      have g2 := fun w => get_any ⟨(be n k).toArray⟩ (0 : Nat) k w (by simp [ByteArray.size, hbl, maxLen]; omega)
      have g3 := fun w => set_any ⟨l.toArray⟩ a k n w (by simp [ByteArray.size]; omega) hn
      have g4 := fun w => get_any ⟨(setL l a k n).toArray⟩ a k w (by simp [ByteArray.size, L1, maxLen]; omega)
      rw [putL_yes (by omega), Int.toNat_natCast] at g1
      rw [getN_list _ _ _ hk1 hk2 (by omega), there_list _ _ _ hk1 hk2 (by omega), List.drop_zero, List.take_of_length_le (by omega), beN_be, Int.natCast_zero] at g2
      rw [setS_list _ _ _ _ hk1 hk2 ha1, there_list _ _ _ hk1 hk2 ha1] at g3
      rw [getN_list _ _ _ hk1 hk2 (by omega), there_list _ _ _ hk1 hk2 (by omega), setL_mid l a k n ha1, beN_be] at g4
      have hpre := setL_pre l a k n ha1
      have hpost := setL_post l a k n ha1
      generalize be n k = p at *
      generalize setL l a k n = t at *
      have G1 := Lib.hid g1
      have G2 := Lib.hid g2
      have G3 := Lib.hid g3
      have G4 := Lib.hid g4
      have HPRE := Lib.hid hpre
      have HPOST := Lib.hid hpost
      have HL := Lib.hid L1
      clear g1 g2 g3 g4 hpre hpost hbl L1
      go_enter Try.func5, Try.ntmps5
      go_wp2_with (fail)
      refine (G1.out _).mono ?_
      rintro e w1 ⟨rfl, b⟩
      have B1 := Lib.hid (B0.out.trans (b.mono B0.out.size)); clear b
      go_wp2_with (fail)
      refine (G2.out _).mono ?_
      rintro e w2 ⟨rfl, rfl⟩
      go_wp2_with (fail)
      refine (G3.out _).mono ?_
      rintro e w3 ⟨rfl, b⟩
      have B3 := Lib.hid (B1.out.trans (b.mono B1.out.size)); clear b B1
      have hcut := cut_math n k hk2
      have hLi : (t.length : Int) = (l.length : Int) := by have := HL.out; omega
      go_wp2_with (fail)
      refine (G4.out _).mono ?_
      rintro e w4 ⟨rfl, rfl⟩
      go_wp2_with (fail)
      clear hcut
      obtain ⟨X, hne, F, hX, hF⟩ := family (fun W => Below w.heap.size w W) w (Below.refl _ _)
      have HX := Lib.hid hX
      clear hX
      refine wp_region_fam F (by kernel_rfl) (by kernel_rfl) (hF _ B3.out.drew) ?_
      have HF := Lib.hid hF
      clear hF
      have hLn : t.length = l.length := HL.out
      have hak : (a : Int) + k ≤ l.length := by omega
      have hai : (a : Int) ≤ l.length := by omega
      have hw64 : IntKind.i64.wrap ((a : Int) + k) = (a : Int) + k := IntWalk.i64_in _ (by omega)
      have hnat : ((a : Int) + k).toNat = a + k := by omega
      have h00 : 0 ≤ (a : Int) + k := by omega
      have hpre : (ByteArray.mk t.toArray).extract 0 a = (ByteArray.mk l.toArray).extract 0 a := by
        rw [ByteArray.extract_mk, ByteArray.extract_mk, List.drop_zero, List.drop_zero, Nat.sub_zero, HPRE.out]
      have hpost : (ByteArray.mk t.toArray).extract (a + k) l.length = (ByteArray.mk l.toArray).extract (a + k) l.length := by
        rw [ByteArray.extract_mk, ByteArray.extract_mk, HPOST.out]
      repeat (go_big_quiet_step ((go_at_call 8; exact (GK.out _).mono fun e w' ⟨he, hb⟩ => ⟨he, HF.out _ (((HX.out _)).trans (hb.mono (HX.out _).size))⟩)))
      refine wpQuiet_nil ?_
      intro x
      have hb := HX.out x
      go_wp2
      go_ret
      exact ⟨rfl, hb⟩
    · have h2 : ¬ ((l.length : Int) ≤ 2000) := by omega
      have h3 : (k : Int) ≤ l.length := by omega
      go_enter Try.func5, Try.ntmps5
      go_wp2_with (fail)
      refine (GK.out _).mono ?_
      rintro e w8 ⟨rfl, b⟩
      have B1 := Lib.hid (B0.out.trans (b.mono B0.out.size)); clear b
      go_wp2_with (fail)
      go_ret
      exact ⟨rfl, B1.out⟩
  · have h2 : (l.length : Int) < k := by omega
    go_enter Try.func5, Try.ntmps5
    go_wp2_with (fail)
    refine (GK.out _).mono ?_
    rintro e w8 ⟨rfl, b⟩
    have B1 := Lib.hid (B0.out.trans (b.mono B0.out.size)); clear b
    go_wp2_with (fail)
    go_ret
    exact ⟨rfl, B1.out⟩

theorem cellBack_walk (a0 : ByteArray) (w0 : a0.size ≤ maxLen) (a1 : Int) (w1 : (Lit.int .u64 a1).wf = true) (cs : Array Value) (hcs : cs.size = Try.prog.cellsOf 35)
    (h : ∀ o ty, (o, ty) ∈ leavesAt Try.prog 9 35 → ∃ v, cs.toList[o]? = some v ∧ leafOk Try.prog ty v) (w : World) :
    Calls Try.prog 5 #[.string a0, .int .u64 a1, .agg cs] w fun e w' => e = .returned (.bool true) ∧ Below w.heap.size w w' := by
  obtain ⟨n, rfl, hn⟩ := u64_nat w1
  obtain ⟨⟨l⟩⟩ := a0
  rw [leaves35] at h
  obtain ⟨v0, e0, k0⟩ := h 0 5 (by simp)
  obtain ⟨v1, e1, k1⟩ := h 1 5 (by simp)
  obtain ⟨x0, rfl, hx0⟩ := leaf_u8 k0
  obtain ⟨x1, rfl, hx1⟩ := leaf_u8 k1
  obtain ⟨cs⟩ := cs
  have e := list2 (by rw [cells35] at hcs; simpa using hcs) e0 e1
  subst e
  have hl : l.length ≤ 9223372036854775807 := by
    have : (ByteArray.mk ⟨l⟩).size = l.length := rfl
    rw [this] at w0; unfold maxLen at w0; omega
  exact cellBack_go l n x0 x1 w hl hn hx0 hx1
end Go.Proofs.Ytbpmiamdjbebiaa
