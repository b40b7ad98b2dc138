/- What a prefix is; the reference's walk over its bits. Conditions: lengths fit. -/
import Derived.Test.YtolkimdfnlfpbaaC
import Derived.Deep.Light
set_option linter.unusedVariables false
set_option linter.unusedSimpArgs false
namespace Go.Proofs.Ytolkimdfnlfpbaa
open Go.RowKit

def bitAt (b : ByteArray) (i : Nat) : Nat := (b.data.toList.getD (i / 8) 0).toNat / 2 ^ (7 - i % 8) % 2
def clearB (b : ByteArray) (lo hi : Nat) : Bool := (List.range (hi - lo)).all fun k => bitAt b (lo + k) == 0
def goodB (b : ByteArray) (n : Int) : Bool := rightB b && decide (0 ≤ n) && decide (n ≤ 8 * b.size) && clearB b n.toNat (8 * b.size)
theorem clearB_iff (b : ByteArray) (lo hi : Nat) : clearB b lo hi = true ↔ ∀ i, lo ≤ i → i < hi → bitAt b i = 0 := by
  unfold clearB
  rw [List.all_eq_true]
  constructor
  · intro h i h1 h2
    have := h (i - lo) (List.mem_range.2 (by omega))
    rw [show lo + (i - lo) = i by omega] at this
    exact eq_of_beq this
  · intro h k hk
    rw [List.mem_range] at hk
    exact beq_iff_eq.2 (h _ (by omega) (by omega))

theorem bit_any (b : ByteArray) (i : Nat) (hb : b.size ≤ 100) (hi : i < 8 * b.size) (w : World) :
    Calls Try.prog 51 #[.agg #[.string b], .int .i64 i] w fun e w' => e = .returned (.int .u64 (bitAt b i)) ∧ Below w.heap.size w w' := by
  have hq : (i : Int) / 8 = ((i / 8 : Nat) : Int) := by omega
  have hr : (i : Int) % 8 = ((i % 8 : Nat) : Int) := by omega
  have hlt : i / 8 < b.size := by omega
  have hr8 : i % 8 ≤ 7 := by omega
  have hv : bitAt b i = bitsN (b[i / 8]'hlt).toNat (7 - ((i % 8 : Nat) : Int)) 1 := by
    unfold bitAt
    rw [bitsN_yes (by unfold bitsP; omega), show ((7 : Int) - ((i % 8 : Nat) : Int)).toNat = 7 - i % 8 by omega]
    have hx : b.data.toList.getD (i / 8) 0 = b[i / 8]'hlt := by
      rw [List.getD_eq_getElem?_getD, List.getElem?_eq_getElem (by simpa using hlt)]; rfl
    rw [hx]; rfl
  rw [hv]
  have hbyte : (b[i / 8]'hlt).toNat < 18446744073709551616 := by have := (b[i / 8]'hlt).toNat_lt; omega
  have HB := Lib.hid (fun w => rbits_any (b[i / 8]'hlt).toNat (7 - ((i % 8 : Nat) : Int)) 1 w hbyte)
  have hlti : ((i / 8 : Nat) : Int) < (b.size : Int) := by omega
  clear hv hi
  generalize hqd : i / 8 = q at *
  generalize hrd : i % 8 = r at *
  clear hqd hrd
  go_enter Try.func51, Try.ntmps51
  go_wp2_with (fail)
  refine (HB.out _ (by omega) (by omega)).mono ?_
  rintro e w2 ⟨rfl, rfl⟩
  go_wp2_with (fail)
  go_ret
  exact ⟨rfl, al _ _⟩

theorem goodB_no {b : ByteArray} {n : Int} (h : rightB b = false ∨ n < 0 ∨ 8 * (b.size : Int) < n) : goodB b n = false := by
  unfold goodB
  rcases h with h | h | h
  · rw [h]; rfl
  · rw [show decide (0 ≤ n) = false from decide_eq_false (by omega)]; simp
  · rw [show decide (n ≤ 8 * (b.size : Int)) = false from decide_eq_false (by omega)]; simp
theorem goodB_in {b : ByteArray} {n : Nat} (h : rightB b = true) (h2 : n ≤ 8 * b.size) : goodB b n = clearB b n (8 * b.size) := by
  unfold goodB
  rw [h, show decide ((0 : Int) ≤ (n : Int)) = true from decide_eq_true (by omega), show decide ((n : Int) ≤ 8 * (b.size : Int)) = true from decide_eq_true (by omega), Int.toNat_natCast]
  simp

set_option maxRecDepth 100000 in
theorem rgood_any (b : ByteArray) (n : Int) (hb : b.size ≤ 100) (w : World) :
    Calls Try.prog 49 #[.agg #[.string b, .int .i64 n]] w fun e w' => e = .returned (.bool (goodB b n)) ∧ Below w.heap.size w w' := by
  have hw8 : IntKind.i64.wrap (8 * (b.size : Int)) = 8 * (b.size : Int) := IntWalk.i64_in _ (by omega)
  have HR := Lib.hid (fun w => rright_any b w (by unfold maxLen; omega))
  have T0 := Lib.hid (Touch.alloc (fun _ => False) w (.cells #[Value.string b, .int .i64 n] 40))
  have c0 : (w.alloc (.cells #[Value.string b, .int .i64 n] 40)).cell? ⟨w.heap.size, 0, none⟩ = some (.string b) := by simp
  have c1 : (w.alloc (.cells #[Value.string b, .int .i64 n] 40)).cell? ⟨w.heap.size, 1, none⟩ = some (.int .i64 n) := by simp
  have hs : w.heap.size < (w.alloc (.cells #[Value.string b, .int .i64 n] 40)).heap.size := by simp
  have TB := Lib.hid T0.out.toBelow
  by_cases hrb : rightB b = true
  · by_cases h0 : 0 ≤ n
    · by_cases h1 : n ≤ 8 * (b.size : Int)
      · obtain ⟨m, rfl⟩ := Int.eq_ofNat_of_zero_le h0
        have h1' : m ≤ 8 * b.size := by omega
        rw [goodB_in hrb h1']
        rw [hrb] at HR
        have HCl := Lib.hid (fun k => (clearB_iff b m k))
        go_enter Try.func49, Try.ntmps49
        go_wp2_with (fail)
        generalize w.alloc (.cells #[Value.string b, .int .i64 m] 40) = w1 at *
        generalize hBe : w.heap.size = B at *
        have HBE := Lib.hid hBe
        have hB1 := Lib.hid (show B ≤ w.heap.size by omega)
        clear hBe
        refine (HR.out _).mono ?_
        rintro e w2 ⟨rfl, hb2⟩
        have T2 := Lib.hid (Touch.none hb2)
        have d0 : w2.cell? ⟨B, 0, none⟩ = some (.string b) := by rw [← c0]; exact T2.out.cell hs (fun h => h) 0
        have d1 : w2.cell? ⟨B, 1, none⟩ = some (.int .i64 m) := by rw [← c1]; exact T2.out.cell hs (fun h => h) 1
        have hs2 : B < w2.heap.size := Nat.lt_of_lt_of_le hs T2.out.size
        have TB2 := Lib.hid (below_then TB.out hB1.out T2.out (fun _ _ h => h))
        clear hb2 c0 c1 hs
        go_wp2_with (fail)
        go_loopw [3] (fun i wr => ∃ k : Nat, m ≤ k ∧ k ≤ 8 * b.size ∧ i = .int .i64 k ∧ (∀ j, m ≤ j → j < k → bitAt b j = 0) ∧ Touch (fun _ => False) w2 wr) (fun i _ => 8 * b.size - (intOf i).toNat)
        case atStart => exact ⟨m, Nat.le_refl _, h1', rfl, fun j h1 h2 => by omega, Touch.refl _ _⟩
        case round =>
          obtain ⟨k, hmk, hk, rfl, hz, ht⟩ := hrel
          have HZ := Lib.hid hz
          have HT := Lib.hid ht
          have e0 : wr.cell? ⟨B, 0, none⟩ = some (.string b) := by rw [← d0]; exact ht.cell hs2 (fun h => h) 0
          clear hz ht
          by_cases hlt : k < 8 * b.size
          · have HBIT := Lib.hid (bit_any b k hb hlt)
            have hki : (k : Int) < 8 * (b.size : Int) := by omega
            generalize hbv : bitAt b k = v at *
            by_cases hv : v = 0
            · have hv' : (v : Int) = 0 := by omega
              go_wp2_with (fail)
              refine (HBIT.out _).mono ?_
              rintro e w4 ⟨rfl, hb4⟩
              have HT4 := Lib.hid (HT.out.trans (Touch.none hb4) (fun _ _ h => h))
              clear hb4
              go_wp2_with (fail)
              go_light
              go_roundw
              case rel => exact ⟨k + 1, by omega, by omega, by go_num, fun j h1 h2 => by
                by_cases e : j = k
                · rw [e, hbv, hv]
                · exact HZ.out j h1 (by omega), HT4.out⟩
              case measure => simp [intOf]; omega
            · have hv' : (v : Int) ≠ 0 := by omega
              have hc : clearB b m (8 * b.size) = false := by
                rw [Bool.eq_false_iff]
                intro h
                have := (HCl.out (8 * b.size)).1 h k hmk hlt
                omega
              go_wp2_with (fail)
              refine (HBIT.out _).mono ?_
              rintro e w4 ⟨rfl, hb4⟩
              have TB4 := Lib.hid (below_then TB2.out hB1.out (HT.out.trans (Touch.none hb4) (fun _ _ h => h)) (fun _ _ h => h))
              clear hb4
              go_wp2_with (fail)
              go_ret
              exact ⟨ret_bool hc.symm, HBE.out ▸ TB4.out⟩
          · obtain rfl : k = 8 * b.size := by omega
            have hc : clearB b m (8 * b.size) = true := (HCl.out (8 * b.size)).2 HZ.out
            have TB4 := Lib.hid (below_then TB2.out hB1.out HT.out (fun _ _ h => h))
            have hki : 8 * (b.size : Int) ≤ ((8 * b.size : Nat) : Int) := by omega
            generalize hK : 8 * b.size = K at *
            go_wp2_with (fail)
            go_ret
            exact ⟨ret_bool (by rw [hK]; exact hc.symm), HBE.out ▸ TB4.out⟩
      · have hg := goodB_no (b := b) (n := n) (.inr (.inr (by omega)))
        have h1' : 8 * (b.size : Int) < n := by omega
        rw [hg]
        rw [hrb] at HR
        clear hg hrb
        go_enter Try.func49, Try.ntmps49
        go_wp2_with (fail)
        generalize w.alloc (.cells #[Value.string b, .int .i64 n] 40) = w1 at *
        generalize hBe : w.heap.size = B at *
        have HBE := Lib.hid hBe
        have hB1 := Lib.hid (show B ≤ w.heap.size by omega)
        clear hBe
        refine (HR.out _).mono ?_
        rintro e w2 ⟨rfl, hb2⟩
        have T2 := Lib.hid (Touch.none hb2)
        have d0 : w2.cell? ⟨B, 0, none⟩ = some (.string b) := by rw [← c0]; exact T2.out.cell hs (fun h => h) 0
        have d1 : w2.cell? ⟨B, 1, none⟩ = some (.int .i64 n) := by rw [← c1]; exact T2.out.cell hs (fun h => h) 1
        have TB2 := Lib.hid (below_then TB.out hB1.out T2.out (fun _ _ h => h))
        clear hb2 c0 c1 hs
        go_wp2_with (fail)
        go_ret
        exact ⟨rfl, HBE.out ▸ TB2.out⟩
    · have hg := goodB_no (b := b) (n := n) (.inr (.inl (by omega)))
      have h0' : n < 0 := by omega
      rw [hg]
      rw [hrb] at HR
      clear hg hrb
      go_enter Try.func49, Try.ntmps49
      go_wp2_with (fail)
      generalize w.alloc (.cells #[Value.string b, .int .i64 n] 40) = w1 at *
      generalize hBe : w.heap.size = B at *
      have HBE := Lib.hid hBe
      have hB1 := Lib.hid (show B ≤ w.heap.size by omega)
      clear hBe
      refine (HR.out _).mono ?_
      rintro e w2 ⟨rfl, hb2⟩
      have T2 := Lib.hid (Touch.none hb2)
      have d0 : w2.cell? ⟨B, 0, none⟩ = some (.string b) := by rw [← c0]; exact T2.out.cell hs (fun h => h) 0
      have d1 : w2.cell? ⟨B, 1, none⟩ = some (.int .i64 n) := by rw [← c1]; exact T2.out.cell hs (fun h => h) 1
      have TB2 := Lib.hid (below_then TB.out hB1.out T2.out (fun _ _ h => h))
      clear hb2 c0 c1 hs
      go_wp2_with (fail)
      go_ret
      exact ⟨rfl, HBE.out ▸ TB2.out⟩
  · have hrb' : rightB b = false := by simpa using hrb
    have hg := goodB_no (b := b) (n := n) (.inl hrb')
    rw [hg]
    rw [hrb'] at HR
    clear hg hrb hrb'
    go_enter Try.func49, Try.ntmps49
    go_wp2_with (fail)
    generalize w.alloc (.cells #[Value.string b, .int .i64 n] 40) = w1 at *
    generalize hBe : w.heap.size = B at *
    have HBE := Lib.hid hBe
    have hB1 := Lib.hid (show B ≤ w.heap.size by omega)
    clear hBe
    refine (HR.out _).mono ?_
    rintro e w2 ⟨rfl, hb2⟩
    have T2 := Lib.hid (Touch.none hb2)
    have d0 : w2.cell? ⟨B, 0, none⟩ = some (.string b) := by rw [← c0]; exact T2.out.cell hs (fun h => h) 0
    have d1 : w2.cell? ⟨B, 1, none⟩ = some (.int .i64 n) := by rw [← c1]; exact T2.out.cell hs (fun h => h) 1
    have TB2 := Lib.hid (below_then TB.out hB1.out T2.out (fun _ _ h => h))
    clear hb2 c0 c1 hs
    go_wp2_with (fail)
    go_ret
    exact ⟨rfl, HBE.out ▸ TB2.out⟩
end Go.Proofs.Ytolkimdfnlfpbaa
