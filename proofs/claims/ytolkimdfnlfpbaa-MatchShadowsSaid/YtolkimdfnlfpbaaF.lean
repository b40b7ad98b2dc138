/- What addr.Has and its reference answer. Conditions: lengths fit. -/
import Derived.Test.YtolkimdfnlfpbaaE
import Derived.Deep.Light
set_option linter.unusedVariables false
set_option linter.unusedSimpArgs false
namespace Go.Proofs.Ytolkimdfnlfpbaa
open Go.RowKit

def sameB (b a : ByteArray) (m : Nat) : Bool := (List.range m).all fun i => bitAt b i == bitAt a i
theorem sameB_iff (b a : ByteArray) (m : Nat) : sameB b a m = true ↔ ∀ i, i < m → bitAt b i = bitAt a i := by
  unfold sameB
  rw [List.all_eq_true]
  constructor
  · intro h i hi; exact eq_of_beq (h i (List.mem_range.2 hi))
  · intro h i hi; exact beq_iff_eq.2 (h i (List.mem_range.1 hi))

theorem getD_size (b : ByteArray) (k : Nat) (hk : k < b.size) : b.data.toList.getD k 0 = b[k]'hk := by
  rw [List.getD_eq_getElem?_getD, List.getElem?_eq_getElem (by simpa using hk)]; rfl
theorem bitAt_in (b : ByteArray) (k t : Nat) (hk : k < b.size) (ht : t < 8) : bitAt b (8 * k + 7 - t) = (b[k]'hk).toNat / 2 ^ t % 2 := by
  unfold bitAt
  rw [show (8 * k + 7 - t) / 8 = k by omega, getD_size b k hk, show 7 - (8 * k + 7 - t) % 8 = t by omega]
theorem nat_bits (x y lo hi : Nat) (hx : x < 2 ^ hi) (hy : y < 2 ^ hi) : x / 2 ^ lo = y / 2 ^ lo ↔ ∀ t, lo ≤ t → t < hi → x / 2 ^ t % 2 = y / 2 ^ t % 2 := by
  constructor
  · intro h t h1 h2
    have e : ∀ z, z / 2 ^ t = z / 2 ^ lo / 2 ^ (t - lo) := fun z => by rw [Nat.div_div_eq_div_mul, ← Nat.pow_add, show lo + (t - lo) = t by omega]
    rw [e x, e y, h]
  · intro h
    apply Nat.eq_of_testBit_eq
    intro i
    rw [Nat.testBit_div_two_pow, Nat.testBit_div_two_pow]
    by_cases hi2 : lo + i < hi
    · have := h (lo + i) (by omega) hi2
      rw [Nat.add_comm i lo, Nat.testBit_eq_decide_div_mod_eq, Nat.testBit_eq_decide_div_mod_eq, this]
    · have hp : 2 ^ hi ≤ 2 ^ (i + lo) := Nat.pow_le_pow_right (by decide) (by omega)
      rw [Nat.testBit_lt_two_pow (by omega), Nat.testBit_lt_two_pow (by omega)]
theorem byte_eq (b a : ByteArray) (k : Nat) (hb : k < b.size) (ha : k < a.size) (lo : Nat) (hlo : lo ≤ 8) :
    (b[k]'hb).toNat / 2 ^ lo = (a[k]'ha).toNat / 2 ^ lo ↔ ∀ j, 8 * k ≤ j → j < 8 * (k + 1) - lo → bitAt b j = bitAt a j := by
  rw [nat_bits _ _ lo 8 (b[k]'hb).toNat_lt (a[k]'ha).toNat_lt]
  constructor
  · intro h j h1 h2
    have := h (8 * k + 7 - j) (by omega) (by omega)
    rw [← bitAt_in b k _ hb (by omega), ← bitAt_in a k _ ha (by omega), show 8 * k + 7 - (8 * k + 7 - j) = j by omega] at this
    exact this
  · intro h t h1 h2
    rw [← bitAt_in b k _ hb h2, ← bitAt_in a k _ ha h2]
    exact h _ (by omega) (by omega)
theorem take_eq (b a : ByteArray) (q : Nat) (hb : q ≤ b.size) (ha : q ≤ a.size) : ((b.extract 0 q).toList == (a.extract 0 q).toList) = true ↔ ∀ j, j < 8 * q → bitAt b j = bitAt a j := by
  rw [beq_iff_eq, ByteArray.toList_eq, ByteArray.toList_eq]
  have e : ∀ c : ByteArray, (c.extract 0 q).data.toList = c.data.toList.take q := fun c => by
    obtain ⟨⟨l⟩⟩ := c
    simp [ByteArray.extract, ByteArray.copySlice]
  rw [e, e]
  constructor
  · intro h j hj
    have h2 : ∀ c : ByteArray, q ≤ c.size → c.data.toList.getD (j / 8) 0 = (c.data.toList.take q).getD (j / 8) 0 := fun c hc => by
      rw [List.getD_eq_getElem?_getD, List.getD_eq_getElem?_getD, List.getElem?_take, if_pos (by omega)]
    unfold bitAt
    rw [h2 b hb, h2 a ha, h]
  · intro h
    apply List.ext_getElem?
    intro k
    rw [List.getElem?_take, List.getElem?_take]
    by_cases hk : k < q
    · rw [if_pos hk, if_pos hk]
      have := (byte_eq b a k (by omega) (by omega) 0 (by omega)).2 (fun j h1 h2 => h j (by omega))
      simp only [Nat.pow_zero, Nat.div_one] at this
      have e1 : ∀ c : ByteArray, (hc : k < c.size) → c.data.toList[k]? = some (c[k]'hc) := fun c hc => by
        rw [List.getElem?_eq_getElem (by simpa using hc)]; rfl
      rw [e1 b (by omega), e1 a (by omega), UInt8.toNat_inj.1 this]
    · rw [if_neg hk, if_neg hk]
theorem xor_zero (x y k : Nat) (hx : x < 256) (hy : y < 256) : (bits BinOp.xor IntKind.u8 (x : Int) (y : Int) / 2 ^ k == 0) = decide (x / 2 ^ k = y / 2 ^ k) := by
  have h1 : (BitVec.ofInt 8 (x : Int)).toNat = x := by
    rw [BitVec.ofInt_natCast, BitVec.toNat_ofNat]; exact Nat.mod_eq_of_lt (by omega)
  have h2 : (BitVec.ofInt 8 (y : Int)).toNat = y := by
    rw [BitVec.ofInt_natCast, BitVec.toNat_ofNat]; exact Nat.mod_eq_of_lt (by omega)
  have hxy : x ^^^ y < 2 ^ 8 := Nat.xor_lt_two_pow (by omega) (by omega)
  have e : bits BinOp.xor IntKind.u8 (x : Int) (y : Int) = ((x ^^^ y : Nat) : Int) := by
    show IntKind.u8.wrap ((BitVec.ofInt 8 (x : Int) ^^^ BitVec.ofInt 8 (y : Int)).toNat : Int) = _
    rw [BitVec.toNat_xor, h1, h2]
    exact IntWalk.u8_in _ (by omega)
  rw [e]
  have e2 : ((x ^^^ y : Nat) : Int) / 2 ^ k = (((x ^^^ y) / 2 ^ k : Nat) : Int) := by simp
  rw [e2, ← Nat.shiftRight_eq_div_pow, Nat.shiftRight_xor_distrib, Nat.shiftRight_eq_div_pow, Nat.shiftRight_eq_div_pow]
  generalize x / 2 ^ k = p
  generalize y / 2 ^ k = q
  by_cases h : p = q
  · subst h; simp
  · have : p ^^^ q ≠ 0 := fun hh => h (by
      apply Nat.eq_of_testBit_eq
      intro i
      have := congrArg (fun n => n.testBit i) hh
      simp only [Nat.testBit_xor, Nat.zero_testBit] at this
      cases h1 : p.testBit i <;> cases h2 : q.testBit i <;> simp_all)
    simp [h, this]

theorem drewsB (w : World) (n m : Nat) : Below w.heap.size w ((w.drewN n).drewN m) := (((Touch.refl (fun _ => False) w).drewN n).drewN m).toBelow
theorem same_any (b a : ByteArray) (m : Nat) (hb : b.size ≤ 100) (hab : a.size = b.size) (hm : m ≤ 8 * b.size) (w : World) :
    Calls Try.prog 57 #[.string b, .string a, .int .i64 m] w fun e w' => e = .returned (.bool (sameB b a m)) ∧ Below w.heap.size w w' := by
  have hq : (m : Int) / 8 = ((m / 8 : Nat) : Int) := by omega
  have hr : (m : Int) % 8 = ((m % 8 : Nat) : Int) := by omega
  have hr8 : m % 8 ≤ 7 := by omega
  have hql : ((m / 8 : Nat) : Int) ≤ (b.size : Int) := by omega
  have hqa : ((m / 8 : Nat) : Int) ≤ (a.size : Int) := by omega
  by_cases hE : ((b.extract 0 (m / 8)).toList == (a.extract 0 (m / 8)).toList) = true
  · by_cases hrz : m % 8 = 0
    · have hrz' : (m : Int) % 8 = 0 := by omega
      have HV : Hid (sameB b a m = true) := Lib.hid ((sameB_iff b a m).2 (fun i hi => (take_eq b a (m / 8) (by omega) (by omega)).1 hE i (by omega)))
      generalize hqd : m / 8 = q at *
      clear hr
      go_enter Try.func57, Try.ntmps57
      go_wp2_with (fail)
      go_quiet (fail)
      go_wp2_with (fail)
      go_quiet (fail)
      go_wp2_with (fail)
      go_ret
      exact ⟨ret_bool HV.out.symm, drewsB _ _ _⟩
    · have hrz' : ((m % 8 : Nat) : Int) ≠ 0 := by omega
      have hlt : m / 8 < b.size := by omega
      have hlta : m / 8 < a.size := by omega
      have HV : Hid (sameB b a m = (bits BinOp.xor IntKind.u8 ((b[m / 8]'hlt).toNat : Int) ((a[m / 8]'hlta).toNat : Int) / 2 ^ (8 - m % 8) == 0)) := Lib.hid (by
        rw [xor_zero _ _ _ (b[m / 8]'hlt).toNat_lt (a[m / 8]'hlta).toNat_lt, Bool.eq_iff_iff, sameB_iff, decide_eq_true_iff, byte_eq b a (m / 8) hlt hlta (8 - m % 8) (by omega)]
        constructor
        · intro h j h1 h2; exact h j (by omega)
        · intro h j hj
          by_cases h1 : j < 8 * (m / 8)
          · exact (take_eq b a (m / 8) (by omega) (by omega)).1 hE j h1
          · exact h j (by omega) (by omega))
      generalize hqd : m / 8 = q at *
      generalize hrd : m % 8 = r at *
      have hlti : (q : Int) < (b.size : Int) := by omega
      have hltai : (q : Int) < (a.size : Int) := by omega
      have hs8 : (0 : Int) ≤ 8 - r := by omega
      have hw8 : IntKind.i64.wrap (8 - (r : Int)) = 8 - r := IntWalk.i64_in _ (by omega)
      have hrb : ((r : Int) == 0) = false := by simp; omega
      have hs8n : ((8 : Int) - r).toNat = 8 - r := by omega
      go_enter Try.func57, Try.ntmps57
      go_wp2_with (fail)
      go_quiet (fail)
      go_wp2_with (fail)
      go_quiet (fail)
      go_wp2_with (fail)
      go_ret
      exact ⟨ret_bool HV.out.symm, drewsB _ _ _⟩
  · have hE' : ((b.extract 0 (m / 8)).toList == (a.extract 0 (m / 8)).toList) = false := by simpa using hE
    have HV : Hid (sameB b a m = false) := Lib.hid (by
      rw [Bool.eq_false_iff]; intro h
      exact hE ((take_eq b a (m / 8) (by omega) (by omega)).2 (fun j hj => (sameB_iff b a m).1 h j (by omega))))
    clear hE
    generalize hqd : m / 8 = q at *
    go_enter Try.func57, Try.ntmps57
    go_wp2_with (fail)
    go_quiet (fail)
    go_wp2_with (fail)
    go_ret
    exact ⟨ret_bool HV.out.symm, ((Touch.refl (fun _ => False) w).drewN _).toBelow⟩

def hasB (b : ByteArray) (n : Int) (a : ByteArray) : Bool := goodB b n && decide (a.size = b.size) && sameB b a n.toNat
theorem goodB_range {b : ByteArray} {n : Int} (h : goodB b n = true) : rightB b = true ∧ 0 ≤ n ∧ n ≤ 8 * b.size := by
  unfold goodB at h
  simp only [Bool.and_eq_true, decide_eq_true_eq] at h
  exact ⟨h.1.1.1, h.1.1.2, h.1.2⟩

set_option maxRecDepth 100000 in
theorem has_any (b : ByteArray) (n : Int) (a : ByteArray) (hb : b.size ≤ 100) (ha : a.size ≤ 100) (w : World) :
    Calls Try.prog 47 #[.agg #[.string b, .int .i64 n], .agg #[.string a]] w fun e w' => e = .returned (.bool (hasB b n a)) ∧ Below w.heap.size w w' := by
  have HG := Lib.hid (fun w => good_any b n hb w)
  have TT := Lib.hid (((Touch.alloc (fun _ => False) w (.cells #[(.string b : Value), .int .i64 n] 40)).trans (Touch.alloc (fun _ => False) _ (.cells #[(.string a : Value)] 24)) (fun _ _ h => h)))
  have hsz : w.heap.size + 2 ≤ ((w.alloc (.cells #[(.string b : Value), .int .i64 n] 40)).alloc (.cells #[(.string a : Value)] 24)).heap.size := by simp
  have c0_0 : ((w.alloc (.cells #[(.string b : Value), .int .i64 n] 40)).alloc (.cells #[(.string a : Value)] 24)).cell? ⟨w.heap.size, 0, none⟩ = some (.string b) := by simp
  have c0_1 : ((w.alloc (.cells #[(.string b : Value), .int .i64 n] 40)).alloc (.cells #[(.string a : Value)] 24)).cell? ⟨w.heap.size, 1, none⟩ = some (.int .i64 n) := by simp
  have c1_0 : ((w.alloc (.cells #[(.string b : Value), .int .i64 n] 40)).alloc (.cells #[(.string a : Value)] 24)).cell? ⟨w.heap.size + 1, 0, none⟩ = some (.string a) := by simp
  have TB := Lib.hid TT.out.toBelow
  by_cases hg : goodB b n = true
  · obtain ⟨hr, h0, h1⟩ := goodB_range hg
    rw [hg] at HG
    by_cases hab : a.size = b.size
    · have hv : hasB b n a = sameB b a n.toNat := by unfold hasB; rw [hg]; simp [hab]
      rw [hv]
      have HS := Lib.hid (fun w => same_any b a n.toNat hb hab (by omega) w)
      rw [show ((n.toNat : Nat) : Int) = n by omega] at HS
      have hab' : (a.size : Int) = b.size := by omega
      generalize sameB b a n.toNat = sb at *
      clear hv hg hr
      go_enter Try.func47, Try.ntmps47
      go_wp2_with (fail)
      generalize ((w.alloc (.cells #[(.string b : Value), .int .i64 n] 40)).alloc (.cells #[(.string a : Value)] 24)) = w0 at *
      generalize hBe : w.heap.size = B at *
      have HBE := Lib.hid hBe
      have hB1 := Lib.hid (show B ≤ w.heap.size by omega)
      clear hBe
      refine (HG.out _).mono ?_
      rintro e w1 ⟨rfl, hbb⟩
      have tt : Touch (fun _ => False) w0 w1 := Touch.none hbb
      have c0_0 : w1.cell? ⟨B, 0, none⟩ = some (.string b) := by rw [← c0_0]; exact tt.cell (by omega) (fun h => h) 0
      have c0_1 : w1.cell? ⟨B, 1, none⟩ = some (.int .i64 n) := by rw [← c0_1]; exact tt.cell (by omega) (fun h => h) 1
      have c1_0 : w1.cell? ⟨B + 1, 0, none⟩ = some (.string a) := by rw [← c1_0]; exact tt.cell (by omega) (fun h => h) 0
      have hsz : B + 2 ≤ w1.heap.size := Nat.le_trans hsz tt.size
      have TB := Lib.hid (below_then TB.out hB1.out tt (fun _ _ h => h))
      clear tt hbb
      go_wp2_with (fail)
      refine (HS.out _).mono ?_
      rintro e w2 ⟨rfl, hbb⟩
      have tt : Touch (fun _ => False) w1 w2 := Touch.none hbb
      have c0_0 : w2.cell? ⟨B, 0, none⟩ = some (.string b) := by rw [← c0_0]; exact tt.cell (by omega) (fun h => h) 0
      have c0_1 : w2.cell? ⟨B, 1, none⟩ = some (.int .i64 n) := by rw [← c0_1]; exact tt.cell (by omega) (fun h => h) 1
      have c1_0 : w2.cell? ⟨B + 1, 0, none⟩ = some (.string a) := by rw [← c1_0]; exact tt.cell (by omega) (fun h => h) 0
      have hsz : B + 2 ≤ w2.heap.size := Nat.le_trans hsz tt.size
      have TB := Lib.hid (below_then TB.out hB1.out tt (fun _ _ h => h))
      clear tt hbb
      go_wp2_with (fail)
      go_ret
      exact ⟨rfl, HBE.out ▸ TB.out⟩
    · have hv : hasB b n a = false := by unfold hasB; simp [hab]
      rw [hv]
      have hab' : (a.size : Int) ≠ b.size := by omega
      clear hv hg hr
      go_enter Try.func47, Try.ntmps47
      go_wp2_with (fail)
      generalize ((w.alloc (.cells #[(.string b : Value), .int .i64 n] 40)).alloc (.cells #[(.string a : Value)] 24)) = w0 at *
      generalize hBe : w.heap.size = B at *
      have HBE := Lib.hid hBe
      have hB1 := Lib.hid (show B ≤ w.heap.size by omega)
      clear hBe
      refine (HG.out _).mono ?_
      rintro e w1 ⟨rfl, hbb⟩
      have tt : Touch (fun _ => False) w0 w1 := Touch.none hbb
      have c0_0 : w1.cell? ⟨B, 0, none⟩ = some (.string b) := by rw [← c0_0]; exact tt.cell (by omega) (fun h => h) 0
      have c0_1 : w1.cell? ⟨B, 1, none⟩ = some (.int .i64 n) := by rw [← c0_1]; exact tt.cell (by omega) (fun h => h) 1
      have c1_0 : w1.cell? ⟨B + 1, 0, none⟩ = some (.string a) := by rw [← c1_0]; exact tt.cell (by omega) (fun h => h) 0
      have hsz : B + 2 ≤ w1.heap.size := Nat.le_trans hsz tt.size
      have TB := Lib.hid (below_then TB.out hB1.out tt (fun _ _ h => h))
      clear tt hbb
      go_wp2_with (fail)
      go_ret
      exact ⟨rfl, HBE.out ▸ TB.out⟩
  · have hg' : goodB b n = false := by simpa using hg
    have hv : hasB b n a = false := by unfold hasB; rw [hg']; rfl
    rw [hv]
    rw [hg'] at HG
    clear hv hg hg'
    go_enter Try.func47, Try.ntmps47
    go_wp2_with (fail)
    generalize ((w.alloc (.cells #[(.string b : Value), .int .i64 n] 40)).alloc (.cells #[(.string a : Value)] 24)) = w0 at *
    generalize hBe : w.heap.size = B at *
    have HBE := Lib.hid hBe
    have hB1 := Lib.hid (show B ≤ w.heap.size by omega)
    clear hBe
    refine (HG.out _).mono ?_
    rintro e w1 ⟨rfl, hbb⟩
    have tt : Touch (fun _ => False) w0 w1 := Touch.none hbb
    have c0_0 : w1.cell? ⟨B, 0, none⟩ = some (.string b) := by rw [← c0_0]; exact tt.cell (by omega) (fun h => h) 0
    have c0_1 : w1.cell? ⟨B, 1, none⟩ = some (.int .i64 n) := by rw [← c0_1]; exact tt.cell (by omega) (fun h => h) 1
    have c1_0 : w1.cell? ⟨B + 1, 0, none⟩ = some (.string a) := by rw [← c1_0]; exact tt.cell (by omega) (fun h => h) 0
    have hsz : B + 2 ≤ w1.heap.size := Nat.le_trans hsz tt.size
    have TB := Lib.hid (below_then TB.out hB1.out tt (fun _ _ h => h))
    clear tt hbb
    go_wp2_with (fail)
    go_ret
    exact ⟨rfl, HBE.out ▸ TB.out⟩
end Go.Proofs.Ytolkimdfnlfpbaa
