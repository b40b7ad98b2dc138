/- SatTop returns true: the walk. Conditions: the arguments fit their kinds. -/
import Derived.Test.YtofjmlnoljigfaaLawMany
import Derived.Deep.Light
set_option linter.unusedVariables false
set_option linter.unusedSimpArgs false
namespace Go.Proofs.Ytofjmlnoljigfaa
open Go.RowKit

/-- A number of a struct's cells. -/
theorem leaf_int {v : Value} (h : leafOk Try.prog 3 v) : ∃ n : Int, v = .int .i64 n ∧ -9223372036854775808 ≤ n ∧ n ≤ 9223372036854775807 := by
  unfold leafOk at h
  rw [Try.underlying3] at h
  obtain ⟨n, rfl, hw⟩ := h
  exact ⟨n, rfl, bounds_i64 hw⟩
/-- An act of a script that came in. -/
theorem act_of {w : World} {a : Option Addr} {len : Nat} (h : RowIn Try.prog w 31 3 a len) (i : Nat) (hi : i < len) :
    ∃ b off x y z, a = some ⟨b, off, none⟩ ∧ b < w.heap.size ∧ -9223372036854775808 ≤ x ∧ x ≤ 9223372036854775807 ∧ -9223372036854775808 ≤ y ∧ y ≤ 9223372036854775807 ∧ -9223372036854775808 ≤ z ∧ z ≤ 9223372036854775807 ∧
      w.cell? ⟨b, off + i * 3, none⟩ = some (.int .i64 x) ∧ w.cell? ⟨b, off + i * 3 + 1, none⟩ = some (.int .i64 y) ∧ w.cell? ⟨b, off + i * 3 + 2, none⟩ = some (.int .i64 z) := by
  obtain ⟨b, off, ha, hb, hc⟩ := h i hi
  obtain ⟨v0, hv0, k0⟩ := hc 0 3 (by decide +kernel)
  obtain ⟨v1, hv1, k1⟩ := hc 1 3 (by decide +kernel)
  obtain ⟨v2, hv2, k2⟩ := hc 2 3 (by decide +kernel)
  obtain ⟨x, rfl, hx⟩ := leaf_int k0
  obtain ⟨y, rfl, hy⟩ := leaf_int k1
  obtain ⟨z, rfl, hz⟩ := leaf_int k2
  exact ⟨b, off, x, y, z, ha, hb, hx.1, hx.2, hy.1, hy.2, hz.1, hz.2, hv0, hv1, hv2⟩

theorem ok_at {L : List Int} {size top : Int} (ok : SatOk L size top) (i : Int) : 0 ≤ atV L size i ∧ atV L size i ≤ top := by
  unfold atV
  split
  · exact ok.c _
  · have := ok.t1; omega
theorem add_ge {L : List Int} {size top : Int} (ok : SatOk L size top) (i n : Int) : atV L size i ≤ atV (addL L size top i n) size i ∧ atV (addL L size top i n) size i ≤ top := by
  have ok2 := addL_ok ok i n
  unfold atV
  by_cases hi : 0 ≤ i ∧ i < size
  · rw [if_pos hi, if_pos hi]
    refine ⟨?_, (ok2.c _).2⟩
    have h1 := ok.s2; have h2 := ok.len; have h3 := ok.c i.toNat
    unfold addL
    split
    · rw [getD_set, if_pos ⟨rfl, by omega⟩]
      exact (moreI_le top _ n h3.1 h3.2 (by omega)).1
    · exact Int.le_refl _
  · rw [if_neg hi, if_neg hi]
    have := ok.t1
    omega

theorem at_add {L : List Int} {size top : Int} (ok : SatOk L size top) (i n : Int) (hi : 0 ≤ i ∧ i < size) (hn : 0 < n) : atV (addL L size top i n) size i = moreI top (atV L size i) n := by
  have h1 := ok.s2; have h2 := ok.len
  unfold atV addL
  rw [if_pos hi, if_pos hi, if_pos ⟨hi.1, hi.2, hn⟩, getD_set, if_pos ⟨rfl, by omega⟩]
theorem top_end {L : List Int} {top : Int} (ok : SatOk L 3 top) :
    atV (addL (addL L 3 top 2 top) 3 top 2 1) 3 2 = top ∧ sumL top (allL (addL (addL L 3 top 2 top) 3 top 2 1) 3) = top := by
  have ok2 := addL_ok ok 2 top
  have ok3 := addL_ok ok2 2 1
  have ht := ok.t1
  have h0 := ok_at ok 2
  have e1 := at_add ok 2 top (by decide) (by omega)
  have e2 := at_add ok2 2 1 (by decide) (by omega)
  have e : atV (addL (addL L 3 top 2 top) 3 top 2 1) 3 2 = top := by
    rw [e2, e1]
    unfold moreI
    split <;> split <;> omega
  refine ⟨e, ?_⟩
  generalize addL (addL L 3 top 2 top) 3 top 2 1 = M at *
  have e3 : M.getD 2 0 = top := by unfold atV at e; rw [if_pos (by decide)] at e; exact e
  have hs := sumL_le top (by omega) (M.take 2) (fun n hn => by
    obtain ⟨i, hi, rfl⟩ := List.getElem_of_mem hn
    have := ok3.c i
    simp at hi
    rw [List.getElem_take]
    rw [List.getD_eq_getElem?_getD, List.getElem?_eq_getElem (by omega)] at this
    exact this.1)
  have hl := ok3.len
  unfold allL
  rw [show (Int.toNat 3) = 2 + 1 from rfl, take_one M 2 0 (by omega), e3, sumL_snoc]
  unfold moreI
  split <;> omega

set_option maxRecDepth 100000 in
set_option maxHeartbeats 1000000 in
theorem satTop_walk (a0 : Int) (w0 : (Lit.int .u16 a0).wf = true) (a1 : Option Addr) (len cap : Nat) (w : World) (w1 : RowIn Try.prog w 31 3 a1 len ∧ len ≤ cap ∧ cap ≤ maxLen) :
    Calls Try.prog 4 #[.int .u16 a0, .slice a1 len cap] w fun e w' => e = .returned (.bool true) ∧ Below w.heap.size w w' := by
  obtain ⟨w1, hlc, hcm⟩ := w1
  have hr : 0 ≤ a0 ∧ a0 ≤ 65535 := by
    have := bounds_u16 w0
    omega
  obtain ⟨h0, h1⟩ := hr
  have HW := Lib.hid w1
  clear w0 w1
  have hw1 : IntKind.i64.wrap a0 = a0 := IntWalk.i64_in _ (by omega)
  have hw2 : IntKind.i64.wrap (1 + a0) = 1 + a0 := IntWalk.i64_in _ (by omega)
  have HN := Lib.hid (new_yes 3 (1 + a0) w (by decide) (by decide) (by omega))
  have HOK := Lib.hid (zeroL_ok (size := 3) (top := 1 + a0) (by decide) (by decide) (by omega) (by omega))
  have T0 := Touch.alloc (fun _ => False) w (.cells (satCells zeroL 3 (1 + a0)).toArray 54)
  have R0 := Lib.hid (zeroSat w 3 (1 + a0))
  have hsz : w.heap.size < (w.alloc (.cells (satCells zeroL 3 (1 + a0)).toArray 54)).heap.size := by simp
  generalize w.alloc (.cells (satCells zeroL 3 (1 + a0)).toArray 54) = wa at *
  have TB0 := Lib.hid (T0.below (Nat.le_refl _) (fun _ _ h => h))
  clear T0
  generalize hBe : w.heap.size = B at *
  have hB1 := Lib.hid (show B ≤ w.heap.size by omega)
  have hcap : (cap : Int) ≤ 9223372036854775807 := by unfold maxLen at hcm; omega
  go_enter Try.func4, Try.ntmps4
  go_wp2_with (fail)
  refine HN.out.mono ?_
  rintro e w2 ⟨rfl, rfl⟩
  go_wp2_with (fail)
  go_loopw [8] (fun i wr => ∃ (k : Nat) (L : List Int), k ≤ len ∧ k ≤ 60 ∧ i = .int .i64 k ∧ Sat wr B L 3 (1 + a0) ∧ SatOk L 3 (1 + a0) ∧ Below B w wr) (fun i _ => len - (intOf i).toNat)
  case atStart => exact ⟨0, zeroL, Nat.zero_le _, Nat.zero_le _, rfl, R0.out, HOK.out, TB0.out⟩
  case round =>
    obtain ⟨k, L, hk, hk60, rfl, hS, hO, hT⟩ := hrel
    have RS := Lib.hid hS
    have RO := Lib.hid hO
    have RT := Lib.hid hT
    clear hS hO hT
    by_cases hlt : k < len ∧ k < 60
    · obtain ⟨b, off, x, i, n, ha, hb, hx0, hx1, hi0, hi1, hn0, hn1, hcx, hci, hcn⟩ := act_of HW.out k hlt.1
      subst ha
      have hb' : ∀ j, wr.cell? ⟨b, j, none⟩ = w.cell? ⟨b, j, none⟩ := fun j => World.cell?_of_block (w := w) (RT.out.block b (by omega))
      rw [← hb'] at hcx hci hcn
      clear hb'
      have hki : (k : Int) < len := by omega
      have hk60' : (k : Int) < 60 := by omega
      go_wp2_with (fail)
      have hge := add_ge RO.out i n
      have HA := Lib.hid (at_any RS.out (by decide) i)
      have HADD := Lib.hid (fun w2 (t : Touch (fun _ => False) wr w2) => add_any (RS.out.keep t (fun x => x)) RO.out i n hn1)
      have RO2 := Lib.hid (addL_ok RO.out i n)
      have hok1 := ok_at RO.out i
      generalize hL2 : addL L 3 (1 + a0) i n = L2 at *
      have hok2 := ok_at RO2.out i
      clear hL2
      have HAt2 := Lib.hid (fun w2 (h : Sat w2 B L2 3 (1 + a0)) => at_any h (by decide) i)
      have HSUM2 := Lib.hid (fun w2 (h : Sat w2 B L2 3 (1 + a0)) => sum_any h RO2.out)
      have hsle := sumL_le (1 + a0) (by omega) (allL L2 3) (fun n hn => (allL_ge RO2.out n hn).1)
      generalize sumL (1 + a0) (allL L2 3) = sm at *
      generalize atV L 3 i = was at *
      generalize atV L2 3 i = now at *
      refine HA.out.mono ?_
      rintro e w3 ⟨rfl, rfl⟩
      go_wp2_with (fail)
      refine wp_region_tail 11 (by kernel_rfl) (by kernel_rfl) ?_
      simp only [List.take_succ_cons, List.take_zero, List.drop_succ_cons, List.drop_zero]
      repeat still_step
      refine wpStill_nil ?_
      go_wp2_with (fail)
      refine (HADD.out _ ((Touch.refl _ _).drew)).mono ?_
      rintro e w3 ⟨rfl, hS, ht⟩
      have RS2 := Lib.hid hS
      have RT2 := Lib.hid (below_then RT.out hB1.out (((Touch.refl (· = B) wr).drew).trans ht (fun _ _ x => x)) (fun i hi h => by omega))
      have hcell : w3.cell? ⟨b, off + k * 3 + 1, none⟩ = some (.int .i64 i) := by
        rw [← hci]
        exact World.cell?_of_block (w := wr) (ht.block b (by have := RT.out.size; simp; omega) (by omega))
      clear hS ht
      by_cases hw : was = 1 + a0
      · have hnow : now = 1 + a0 := by omega
        subst hw hnow
        go_wp2_with (fail)
        refine (HAt2.out _ RS2.out).mono ?_
        rintro e w4 ⟨rfl, rfl⟩
        go_wp2_with (fail)
        refine (HSUM2.out _ RS2.out).mono ?_
        rintro e w4 ⟨rfl, hb⟩
        have RS3 := Lib.hid (RS2.out.keep (Touch.of_below hb (fun _ => False)) (fun x => x))
        have RT3 := Lib.hid (below_then RT2.out hB1.out (Touch.of_below hb (fun _ => False)) (fun _ _ x => x))
        clear hb
        go_wp2_with (fail)
        go_light
        go_roundw
        case rel => exact ⟨k + 1, L2, by omega, by omega, by go_num, RS3.out, RO2.out, RT3.out⟩
        case measure => simp [intOf]; omega
      · have g1 : was ≤ now := by omega
        have g2 : now ≤ 1 + a0 := by omega
        have g3 : ¬ was = 1 + a0 := hw
        clear hw hge hok1 hok2
        go_wp2_with (fail)
        refine (HAt2.out _ RS2.out).mono ?_
        rintro e w4 ⟨rfl, rfl⟩
        go_wp2_with (fail)
        refine (HSUM2.out _ RS2.out).mono ?_
        rintro e w4 ⟨rfl, hb⟩
        have RS3 := Lib.hid (RS2.out.keep (Touch.of_below hb (fun _ => False)) (fun x => x))
        have RT3 := Lib.hid (below_then RT2.out hB1.out (Touch.of_below hb (fun _ => False)) (fun _ _ x => x))
        clear hb
        go_wp2_with (fail)
        go_light
        go_roundw
        case rel => exact ⟨k + 1, L2, by omega, by omega, by go_num, RS3.out, RO2.out, RT3.out⟩
        case measure => simp [intOf]; omega
    · have hE := top_end RO.out
      obtain ⟨hE1, hE2⟩ := hE
      have HE1 := Lib.hid hE1
      have HE2 := Lib.hid hE2
      clear hE1 hE2
      have hlt2 : ((k : Int) < len → (60 : Int) ≤ k) := by omega
      have go : ∀ (P : Prop), ((len : Int) ≤ k → P) → ((k : Int) < len → (60 : Int) ≤ k → P) → P := fun P h1 h2 => by
        by_cases h : (k : Int) < len
        · exact h2 h (hlt2 h)
        · exact h1 (by omega)
      refine go _ ?_ ?_
      all_goals
        intros
        go_wp2_with (fail)
        refine (add_any RS.out RO.out 2 (1 + a0) (by omega)).mono ?_
        rintro e w3 ⟨rfl, hS, ht⟩
        have RS2 := Lib.hid hS
        have RT2 := Lib.hid (below_then RT.out hB1.out ht (fun i hi h => by omega))
        clear hS ht
        go_wp2_with (fail)
        refine (add_any RS2.out (addL_ok RO.out _ _) 2 1 (by omega)).mono ?_
        rw [HE1.out]
        rintro e w4 ⟨rfl, hS, ht⟩
        have RS3 := Lib.hid hS
        have RT3 := Lib.hid (below_then RT2.out hB1.out ht (fun i hi h => by omega))
        clear hS ht
        go_wp2_with (fail)
        refine (sum_any RS3.out (addL_ok (addL_ok RO.out _ _) _ _)).mono ?_
        rw [HE2.out]
        rintro e w5 ⟨rfl, hb⟩
        have RT4 := Lib.hid (below_then RT3.out hB1.out (Touch.of_below hb (fun _ => False)) (fun _ _ x => x))
        clear hb
        go_wp2_with (fail)
        refine (known_any _).mono ?_
        rintro e w6 ⟨rfl, hb⟩
        have RT5 := Lib.hid (below_then RT4.out hB1.out (Touch.of_below hb (fun _ => False)) (fun _ _ x => x))
        clear hb
        go_wp2_with (fail)
        go_ret
        exact ⟨rfl, RT5.out⟩
end Go.Proofs.Ytofjmlnoljigfaa
