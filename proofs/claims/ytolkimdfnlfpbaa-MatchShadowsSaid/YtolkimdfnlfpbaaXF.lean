/- The plain law of rules that cover one another. Conditions: the rules are right. -/
import Derived.Test.YtolkimdfnlfpbaaXE
set_option linter.unusedVariables false
set_option linter.unusedSimpArgs false
namespace Go.Proofs.Ytolkimdfnlfpbaa
open Go.RowKit

theorem and_nat (f m : Int) (h1 : 0 ≤ m) (h2 : m ≤ 63) : andI f m = (((BitVec.ofInt 64 f).toNat &&& m.toNat : Nat) : Int) := by
  obtain ⟨n, rfl⟩ := Int.eq_ofNat_of_zero_le h1
  have hn : n ≤ 63 := by omega
  have e : (BitVec.ofInt 64 (n : Int)).toNat = n := by
    rw [BitVec.ofInt_natCast, BitVec.toNat_ofNat]; exact Nat.mod_eq_of_lt (by omega)
  have e2 : andI f n = IntKind.i64.wrap (((BitVec.ofInt 64 f) &&& (BitVec.ofInt 64 (n : Int))).toNat : Int) := rfl
  rw [e2, BitVec.toNat_and, e, Int.toNat_natCast]
  have hle : (BitVec.ofInt 64 f).toNat &&& n ≤ n := Nat.and_le_right
  exact IntWalk.i64_in _ (by omega)
theorem and_sub {f x y : Int} (hx : 0 ≤ x ∧ x ≤ 63) (hy : 0 ≤ y ∧ y ≤ 63) (h : nandB x y = true) : andI (andI f y) x = andI f x := by
  have h1 : andI x y = x := by
    have := nand_small hx.1 hx.2 hy.1 hy.2
    rw [h] at this
    simpa using this
  rw [and_nat x y hy.1 hy.2] at h1
  rw [and_nat f y hy.1 hy.2, and_nat _ x hx.1 hx.2, and_nat f x hx.1 hx.2]
  obtain ⟨n, rfl⟩ := Int.eq_ofNat_of_zero_le hx.1
  obtain ⟨m, rfl⟩ := Int.eq_ofNat_of_zero_le hy.1
  have ofn : ∀ k : Nat, k < 2 ^ 64 → (BitVec.ofInt 64 (k : Int)).toNat = k := fun k hk => by
    rw [BitVec.ofInt_natCast, BitVec.toNat_ofNat]; exact Nat.mod_eq_of_lt hk
  simp only [Int.toNat_natCast] at h1 ⊢
  rw [ofn n (by omega)] at h1
  have hle : (BitVec.ofInt 64 f).toNat &&& m ≤ m := Nat.and_le_right
  rw [ofn _ (by omega)]
  have h2 : n &&& m = n := by exact_mod_cast h1
  rw [Nat.and_assoc, Nat.and_comm m n, h2]
theorem cls_cov : ∀ x y : Fin 16, ∀ k : Fin 4, nandB x.val y.val = true → classB x.val k.val = true → classB y.val k.val = true := by decide +kernel
theorem cls_sub {x y k : Int} (hx : 1 ≤ x ∧ x ≤ 15) (hy : 1 ≤ y ∧ y ≤ 15) (hk : 0 ≤ k ∧ k ≤ 3) (h : nandB x y = true) (hc : classB x k = true) : classB y k = true := by
  obtain ⟨n, rfl⟩ := Int.eq_ofNat_of_zero_le (show 0 ≤ x by omega)
  obtain ⟨m, rfl⟩ := Int.eq_ofNat_of_zero_le (show 0 ≤ y by omega)
  obtain ⟨j, rfl⟩ := Int.eq_ofNat_of_zero_le hk.1
  exact cls_cov ⟨n, by omega⟩ ⟨m, by omega⟩ ⟨j, by omega⟩ h hc
theorem mask0 : ∀ x : Fin 64, nandB x.val 0 = true → x.val = 0 := by decide +kernel
theorem nand_self : ∀ x : Fin 64, nandB x.val x.val = true := by decide +kernel
theorem nand_zero : ∀ x : Fin 64, nandB 0 x.val = true := by decide +kernel
theorem nand_all : ∀ x : Fin 16, nandB x.val 15 = true := by decide +kernel

structure RightR (r : Rl) : Prop where
  from_ : prefB r.fb r.fn = true
  to_ : prefB r.tb r.tn = true
  sp : 0 ≤ r.s0 ∧ r.s0 ≤ r.s1 ∧ r.s1 ≤ 65535
  dp : 0 ≤ r.d0 ∧ r.d0 ≤ r.d1 ∧ r.d1 ≤ 65535
  mask : 0 ≤ r.mask ∧ r.mask ≤ 63
  flags : andI r.flags r.mask = r.flags
  cls : 1 ≤ r.classes ∧ r.classes ≤ 15
theorem right_of {r : Rl} (h : lightR r = true) : RightR r := by
  unfold lightR rightR portsB at h
  simp only [Bool.and_eq_true, decide_eq_true_eq, beq_iff_eq] at h
  obtain ⟨_, ⟨⟨⟨⟨⟨_, h2⟩, h3⟩, h4⟩, h5⟩, h6⟩, ⟨_, h7⟩, h8⟩ := h
  exact ⟨h2, h3, h4, h5, h6, h7, h8⟩
theorem same_trans {x y z : ByteArray} {m n : Nat} (h : m ≤ n) (h1 : sameB x y m = true) (h2 : sameB y z n = true) : sameB x z m = true := by
  unfold sameB at *
  rw [List.all_eq_true] at *
  intro i hi
  have a := h1 i hi
  have b := h2 i (List.mem_range.2 (by have := List.mem_range.1 hi; omega))
  simp only [beq_iff_eq] at a b ⊢
  rw [a, b]
theorem may_cov {b : ByteArray} {n : Int} {a : ByteArray} {k : Int} {x : ByteArray} (hc : coverB b n a k = true) (hm : mayB a k x = true) : mayB b n x = true := by
  unfold coverB mayB at *
  cases hw : wideB b n with
  | true => rfl
  | false =>
    rw [hw, Bool.false_or, Bool.and_eq_true] at hc
    obtain ⟨h1, h2⟩ := hc
    have h1' : wideB a k = false := by simpa using h1
    rw [h1', Bool.false_or] at hm
    rw [Bool.false_or]
    unfold insideB hasB at *
    simp only [Bool.and_eq_true, decide_eq_true_eq] at *
    obtain ⟨⟨_, hk⟩, ⟨hg, hs⟩, hsame⟩ := h2
    obtain ⟨⟨_, hs2⟩, hsame2⟩ := hm
    exact ⟨⟨hg, by omega⟩, same_trans (by omega) hsame hsame2⟩
theorem wide_cov {b : ByteArray} {n : Int} {a : ByteArray} {k : Int} (hc : coverB b n a k = true) (hw : wideB a k = true) : wideB b n = true := by
  unfold coverB at hc
  rw [hw] at hc
  simpa using hc
theorem cover_self {b : ByteArray} {n : Int} (h : prefB b n = true) : coverB b n b n = true := by
  unfold prefB at h
  unfold coverB
  cases hw : wideB b n with
  | true => rfl
  | false =>
    rw [hw, Bool.false_or] at h
    simp only [Bool.false_or, Bool.not_false, Bool.true_and]
    unfold insideB hasB
    simp [h, sameB]
theorem covers_one {r q : Rl} {a : Ak} (hr : RightR r) (hq : RightR q) (hc : coversB r q = true) (h1 : oneB q a = true) : oneB r a = true := by
  unfold coversB spanB at hc
  simp only [Bool.and_eq_true, decide_eq_true_eq, beq_iff_eq] at hc
  obtain ⟨c1, c2, c3, c4, c5, ⟨c6, c7⟩, c8⟩ := hc
  unfold oneB oneK at *
  by_cases hk : a.class_ < 0 ∨ 3 < a.class_
  · rw [if_pos hk] at h1; cases h1
  · rw [if_neg hk] at h1 ⊢
    have side : sideB q.side a.side = true → sideB r.side a.side = true := by
      unfold sideB at *
      simp only [decide_eq_true_eq] at *
      intro h
      rcases c1 with h2 | h2
      · exact .inl h2
      · rw [h2]; exact h
    have cls : classB q.classes a.class_ = true → classB r.classes a.class_ = true := cls_sub hq.cls hr.cls (by omega) c8
    by_cases h3 : a.class_ = 3
    · rw [if_pos h3] at h1 ⊢
      unfold bareB at *
      simp only [Bool.and_eq_true, decide_eq_true_eq] at h1 ⊢
      obtain ⟨d1, d2, ⟨⟨⟨d3, d4⟩, d5⟩, d6⟩, d7⟩ := h1
      refine ⟨side d1, cls d2, ⟨⟨⟨wide_cov c2 d3, wide_cov c3 d4⟩, ?_⟩, ?_⟩, ?_⟩
      · have := hr.sp; omega
      · have := hr.dp; omega
      · rw [d7] at c6
        obtain ⟨n, hn⟩ := Int.eq_ofNat_of_zero_le hr.mask.1
        rw [hn] at c6 ⊢
        have hm := hr.mask.2
        have h0 : n = 0 := mask0 ⟨n, by omega⟩ c6
        omega
    · rw [if_neg h3] at h1 ⊢
      unfold inB at *
      simp only [Bool.and_eq_true, decide_eq_true_eq, beq_iff_eq] at h1 ⊢
      obtain ⟨d1, d2, d3, d4, d5, d6, d7⟩ := h1
      refine ⟨side d1, cls d2, may_cov c2 d3, may_cov c3 d4, by omega, by omega, ?_⟩
      rw [← c7, ← d7, and_sub hr.mask hq.mask c6]
theorem covers_self {r : Rl} (hr : RightR r) : coversB r r = true := by
  unfold coversB spanB
  simp only [Bool.and_eq_true, decide_eq_true_eq, beq_iff_eq]
  obtain ⟨n, hn⟩ := Int.eq_ofNat_of_zero_le hr.mask.1
  obtain ⟨m, hm⟩ := Int.eq_ofNat_of_zero_le (show 0 ≤ r.classes by have := hr.cls; omega)
  have h2 := hr.mask.2
  have h3 := hr.cls.2
  refine ⟨by simp [sideB], cover_self hr.from_, cover_self hr.to_, by omega, by omega, ⟨?_, hr.flags⟩, ?_⟩
  · rw [hn]; exact nand_self ⟨n, by omega⟩
  · rw [hm]; exact nand_self ⟨m, by omega⟩
theorem covers_wide {r : Rl} (hr : RightR r) : coversB (wideR true) r = true := by
  unfold coversB spanB
  simp only [Bool.and_eq_true, decide_eq_true_eq, beq_iff_eq]
  obtain ⟨n, hn⟩ := Int.eq_ofNat_of_zero_le hr.mask.1
  obtain ⟨m, hm⟩ := Int.eq_ofNat_of_zero_le (show 0 ≤ r.classes by have := hr.cls; omega)
  have h2 := hr.mask.2
  have h3 := hr.cls.2
  have hs := hr.sp
  have hd := hr.dp
  have hw : wideB ⟨#[]⟩ 0 = true := by rw [wideB_eq]; rfl
  refine ⟨by simp [sideB, wideR], ?_, ?_, ?_, ?_, ⟨?_, ?_⟩, ?_⟩
  · show coverB ⟨#[]⟩ 0 _ _ = true
    unfold coverB; rw [hw]; rfl
  · show coverB ⟨#[]⟩ 0 _ _ = true
    unfold coverB; rw [hw]; rfl
  · show (0 : Int) ≤ r.s0 ∧ r.s1 ≤ 65535
    omega
  · show (0 : Int) ≤ r.d0 ∧ r.d1 ≤ 65535
    omega
  · show nandB 0 r.mask = true
    rw [hn]; exact nand_zero ⟨n, by omega⟩
  · show andI r.flags 0 = 0
    rw [and_nat _ 0 (by omega) (by omega)]
    simp
  · show nandB r.classes 15 = true
    rw [hm]; exact nand_all ⟨m, by omega⟩
end Go.Proofs.Ytolkimdfnlfpbaa
