/- What the reference's Has, and both Insides, answer. Conditions: lengths fit. -/
import Derived.Test.YtolkimdfnlfpbaaF
import Derived.Deep.Light
set_option linter.unusedVariables false
set_option linter.unusedSimpArgs false
namespace Go.Proofs.Ytolkimdfnlfpbaa
open Go.RowKit

set_option maxRecDepth 100000 in
set_option maxHeartbeats 1000000 in
theorem rhas_any (b : ByteArray) (n : Int) (a : ByteArray) (hb : b.size ≤ 100) (ha : a.size ≤ 100) (w : World) :
    Calls Try.prog 35 #[.agg #[.string b, .int .i64 n], .agg #[.string a]] w fun e w' => e = .returned (.bool (hasB b n a)) ∧ Below w.heap.size w w' := by
  have HG := Lib.hid (fun w => rgood_any b n hb w)
  have HR := Lib.hid (fun w => rright_any a w (by unfold maxLen; omega))
  have TT := Lib.hid (((Touch.alloc (fun _ => False) w (.cells #[(.string b : Value), .int .i64 n] 40)).trans (Touch.alloc (fun _ => False) _ (.cells #[(.string a : Value)] 24)) (fun _ _ h => h)))
  have hsz : w.heap.size + 2 ≤ ((w.alloc (.cells #[(.string b : Value), .int .i64 n] 40)).alloc (.cells #[(.string a : Value)] 24)).heap.size := by simp
  have c0_0 : ((w.alloc (.cells #[(.string b : Value), .int .i64 n] 40)).alloc (.cells #[(.string a : Value)] 24)).cell? ⟨w.heap.size, 0, none⟩ = some (.string b) := by simp
  have c0_1 : ((w.alloc (.cells #[(.string b : Value), .int .i64 n] 40)).alloc (.cells #[(.string a : Value)] 24)).cell? ⟨w.heap.size, 1, none⟩ = some (.int .i64 n) := by simp
  have c1_0 : ((w.alloc (.cells #[(.string b : Value), .int .i64 n] 40)).alloc (.cells #[(.string a : Value)] 24)).cell? ⟨w.heap.size + 1, 0, none⟩ = some (.string a) := by simp
  have TB := Lib.hid TT.out.toBelow
  by_cases hg : goodB b n = true
  · obtain ⟨hr, h0, h1⟩ := goodB_range hg
    rw [hg] at HG
    by_cases hab : a.size = b.size
    · have hra : rightB a = true := by unfold rightB at *; rw [hab]; exact hr
      rw [hra] at HR
      obtain ⟨m, rfl⟩ := Int.eq_ofNat_of_zero_le h0
      have hm : m ≤ 8 * b.size := by omega
      have hv : hasB b m a = sameB b a m := by unfold hasB; rw [hg]; simp [hab]
      rw [hv]
      have hab' : (a.size : Int) = b.size := by omega
      have HS := Lib.hid (sameB_iff b a m)
      have HBB := Lib.hid (fun k hk w => bit_any b k hb hk w)
      have HBA := Lib.hid (fun k hk w => bit_any a k ha hk w)
      clear hv hg hr
      go_enter Try.func35, Try.ntmps35
      go_wp2_with (fail)
      generalize ((w.alloc (.cells #[(.string b : Value), .int .i64 m] 40)).alloc (.cells #[(.string a : Value)] 24)) = w0 at *
      generalize hBe : w.heap.size = B at *
      have HBE := Lib.hid hBe
      have hB1 := Lib.hid (show B ≤ w.heap.size by omega)
      clear hBe
      refine (HG.out _).mono ?_
      rintro e w1 ⟨rfl, hbb⟩
      have tt : Touch (fun _ => False) w0 w1 := Touch.none hbb
      have c0_0 : w1.cell? ⟨B, 0, none⟩ = some (.string b) := by rw [← c0_0]; exact tt.cell (by omega) (fun h => h) 0
      have c0_1 : w1.cell? ⟨B, 1, none⟩ = some (.int .i64 m) := by rw [← c0_1]; exact tt.cell (by omega) (fun h => h) 1
      have c1_0 : w1.cell? ⟨B + 1, 0, none⟩ = some (.string a) := by rw [← c1_0]; exact tt.cell (by omega) (fun h => h) 0
      have hsz : B + 2 ≤ w1.heap.size := Nat.le_trans hsz tt.size
      have TB := Lib.hid (below_then TB.out hB1.out tt (fun _ _ h => h))
      clear tt hbb
      go_wp2_with (fail)
      refine (HR.out _).mono ?_
      rintro e w2 ⟨rfl, hbb⟩
      have tt : Touch (fun _ => False) w1 w2 := Touch.none hbb
      have c0_0 : w2.cell? ⟨B, 0, none⟩ = some (.string b) := by rw [← c0_0]; exact tt.cell (by omega) (fun h => h) 0
      have c0_1 : w2.cell? ⟨B, 1, none⟩ = some (.int .i64 m) := by rw [← c0_1]; exact tt.cell (by omega) (fun h => h) 1
      have c1_0 : w2.cell? ⟨B + 1, 0, none⟩ = some (.string a) := by rw [← c1_0]; exact tt.cell (by omega) (fun h => h) 0
      have hsz : B + 2 ≤ w2.heap.size := Nat.le_trans hsz tt.size
      have TB := Lib.hid (below_then TB.out hB1.out tt (fun _ _ h => h))
      clear tt hbb
      go_wp2_with (fail)
      go_loopw [5] (fun i wr => ∃ k : Nat, k ≤ m ∧ i = .int .i64 k ∧ (∀ j, j < k → bitAt b j = bitAt a j) ∧ Touch (fun _ => False) w2 wr) (fun i _ => m - (intOf i).toNat)
      case atStart => exact ⟨0, Nat.zero_le _, rfl, fun j h => by omega, Touch.refl _ _⟩
      case round =>
        obtain ⟨k, hk, rfl, hz, ht⟩ := hrel
        have HZ := Lib.hid hz
        have HT := Lib.hid ht
        have d0 : wr.cell? ⟨B, 0, none⟩ = some (.string b) := by rw [← c0_0]; exact ht.cell (by omega) (fun h => h) 0
        have d1 : wr.cell? ⟨B, 1, none⟩ = some (.int .i64 m) := by rw [← c0_1]; exact ht.cell (by omega) (fun h => h) 1
        have d2 : wr.cell? ⟨B + 1, 0, none⟩ = some (.string a) := by rw [← c1_0]; exact ht.cell (by omega) (fun h => h) 0
        have hwr : B + 2 ≤ wr.heap.size := Nat.le_trans hsz ht.size
        clear hz ht
        by_cases hlt : k < m
        · have hki : (k : Int) < m := by omega
          obtain ⟨X, hne, F, hX, hF⟩ := family (fun W => Touch (fun _ => False) wr W) wr (Touch.refl _ _)
          have e0 : ∀ x, (F x).cell? ⟨B, 0, none⟩ = some (.string b) := fun x => by rw [← d0]; exact (hX x).cell (by omega) (fun h => h) 0
          have e2 : ∀ x, (F x).cell? ⟨B + 1, 0, none⟩ = some (.string a) := fun x => by rw [← d2]; exact (hX x).cell (by omega) (fun h => h) 0
          have G1 := Lib.hid (fun x => HBB.out k (by omega) (F x))
          have G2 := Lib.hid (fun x => HBA.out k (by omega) (F x))
          have HX := Lib.hid hX
          clear hX
          have HEQ := Lib.hid (show (bitAt b k = bitAt a k) ↔ (bitAt b k : Int) = (bitAt a k : Int) by omega)
          generalize hbk : bitAt b k = vb at *
          generalize hak : bitAt a k = va at *
          have HBK := Lib.hid hbk
          have HAK := Lib.hid hak
          clear hbk hak
          by_cases hv : (vb : Int) = va
          · go_wp2_with (fail)
            refine wp_region_fam F (by kernel_rfl) (by kernel_rfl) (hF _ ((Touch.refl _ wr).drew)) ?_
            have HF := Lib.hid hF
            clear hF
            repeat (go_big_quiet_step (first
              | (go_at_call 51; with_reducible refine Calls.mono (G1.out _) ?_; exact fun e w' ⟨he, hb⟩ => ⟨he, HF.out _ ((HX.out _).trans (Touch.none hb) (fun _ _ h => h))⟩)
              | (go_at_call 51; with_reducible refine Calls.mono (G2.out _) ?_; exact fun e w' ⟨he, hb⟩ => ⟨he, HF.out _ ((HX.out _).trans (Touch.none hb) (fun _ _ h => h))⟩)))
            refine wpQuiet_nil ?_
            intro x
            have HT2 := Lib.hid (HT.out.trans (HX.out x) (fun _ _ h => h))
            clear e0 e2
            generalize F x = wf at *
            go_wp2_with (fail)
            go_light
            go_roundw
            case rel => exact ⟨k + 1, by omega, by go_num, fun j hj => by
              by_cases e : j = k
              · rw [e, HBK.out, HAK.out]; omega
              · exact HZ.out j (by omega), HT2.out⟩
            case measure => simp [intOf]; omega
          · have hc : sameB b a m = false := by
              rw [Bool.eq_false_iff]; intro h
              have := HS.out.1 h k hlt
              rw [HBK.out, HAK.out] at this
              omega
            go_wp2_with (fail)
            refine wp_region_fam F (by kernel_rfl) (by kernel_rfl) (hF _ ((Touch.refl _ wr).drew)) ?_
            have HF := Lib.hid hF
            clear hF
            repeat (go_big_quiet_step (first
              | (go_at_call 51; with_reducible refine Calls.mono (G1.out _) ?_; exact fun e w' ⟨he, hb⟩ => ⟨he, HF.out _ ((HX.out _).trans (Touch.none hb) (fun _ _ h => h))⟩)
              | (go_at_call 51; with_reducible refine Calls.mono (G2.out _) ?_; exact fun e w' ⟨he, hb⟩ => ⟨he, HF.out _ ((HX.out _).trans (Touch.none hb) (fun _ _ h => h))⟩)))
            refine wpQuiet_nil ?_
            intro x
            have HT2 := Lib.hid (HT.out.trans (HX.out x) (fun _ _ h => h))
            have TB2 := Lib.hid (below_then TB.out hB1.out HT2.out (fun _ _ h => h))
            clear e0 e2
            generalize F x = wf at *
            go_wp2_with (fail)
            go_ret
            exact ⟨ret_bool hc.symm, HBE.out ▸ TB2.out⟩
        · obtain rfl : k = m := by omega
          have hc : sameB b a k = true := HS.out.2 HZ.out
          have TB2 := Lib.hid (below_then TB.out hB1.out HT.out (fun _ _ h => h))
          go_wp2_with (fail)
          go_ret
          exact ⟨ret_bool hc.symm, HBE.out ▸ TB2.out⟩
    · have hv : hasB b n a = false := by unfold hasB; simp [hab]
      rw [hv]
      have hab' : (a.size : Int) ≠ b.size := by omega
      clear hv hg hr
      by_cases hra : rightB a = true
      · rw [hra] at HR
        go_enter Try.func35, Try.ntmps35
        go_wp2_with (fail)
        generalize ((w.alloc (.cells #[(.string b : Value), .int .i64 n] 40)).alloc (.cells #[(.string a : Value)] 24)) = w0 at *
        generalize hBe : w.heap.size = B at *
        have HBE := Lib.hid hBe
        have hB1 := Lib.hid (show B ≤ w.heap.size by omega)
        clear hBe
        refine (HG.out _).mono ?_
        rintro e w1 ⟨rfl, hbb⟩
        have tt : Touch (fun _ => False) w0 w1 := Touch.none hbb
        have c0_0 : w1.cell? ⟨B, 0, none⟩ = some (.string b) := by rw [← c0_0]; exact tt.cell (by omega) (fun h => h) 0
        have c0_1 : w1.cell? ⟨B, 1, none⟩ = some (.int .i64 n) := by rw [← c0_1]; exact tt.cell (by omega) (fun h => h) 1
        have c1_0 : w1.cell? ⟨B + 1, 0, none⟩ = some (.string a) := by rw [← c1_0]; exact tt.cell (by omega) (fun h => h) 0
        have hsz : B + 2 ≤ w1.heap.size := Nat.le_trans hsz tt.size
        have TB := Lib.hid (below_then TB.out hB1.out tt (fun _ _ h => h))
        clear tt hbb
        go_wp2_with (fail)
        refine (HR.out _).mono ?_
        rintro e w2 ⟨rfl, hbb⟩
        have tt : Touch (fun _ => False) w1 w2 := Touch.none hbb
        have c0_0 : w2.cell? ⟨B, 0, none⟩ = some (.string b) := by rw [← c0_0]; exact tt.cell (by omega) (fun h => h) 0
        have c0_1 : w2.cell? ⟨B, 1, none⟩ = some (.int .i64 n) := by rw [← c0_1]; exact tt.cell (by omega) (fun h => h) 1
        have c1_0 : w2.cell? ⟨B + 1, 0, none⟩ = some (.string a) := by rw [← c1_0]; exact tt.cell (by omega) (fun h => h) 0
        have hsz : B + 2 ≤ w2.heap.size := Nat.le_trans hsz tt.size
        have TB := Lib.hid (below_then TB.out hB1.out tt (fun _ _ h => h))
        clear tt hbb
        go_wp2_with (fail)
        go_ret
        exact ⟨rfl, HBE.out ▸ TB.out⟩
      · have hra' : rightB a = false := by simpa using hra
        rw [hra'] at HR
        go_enter Try.func35, Try.ntmps35
        go_wp2_with (fail)
        generalize ((w.alloc (.cells #[(.string b : Value), .int .i64 n] 40)).alloc (.cells #[(.string a : Value)] 24)) = w0 at *
        generalize hBe : w.heap.size = B at *
        have HBE := Lib.hid hBe
        have hB1 := Lib.hid (show B ≤ w.heap.size by omega)
        clear hBe
        refine (HG.out _).mono ?_
        rintro e w1 ⟨rfl, hbb⟩
        have tt : Touch (fun _ => False) w0 w1 := Touch.none hbb
        have c0_0 : w1.cell? ⟨B, 0, none⟩ = some (.string b) := by rw [← c0_0]; exact tt.cell (by omega) (fun h => h) 0
        have c0_1 : w1.cell? ⟨B, 1, none⟩ = some (.int .i64 n) := by rw [← c0_1]; exact tt.cell (by omega) (fun h => h) 1
        have c1_0 : w1.cell? ⟨B + 1, 0, none⟩ = some (.string a) := by rw [← c1_0]; exact tt.cell (by omega) (fun h => h) 0
        have hsz : B + 2 ≤ w1.heap.size := Nat.le_trans hsz tt.size
        have TB := Lib.hid (below_then TB.out hB1.out tt (fun _ _ h => h))
        clear tt hbb
        go_wp2_with (fail)
        refine (HR.out _).mono ?_
        rintro e w2 ⟨rfl, hbb⟩
        have tt : Touch (fun _ => False) w1 w2 := Touch.none hbb
        have c0_0 : w2.cell? ⟨B, 0, none⟩ = some (.string b) := by rw [← c0_0]; exact tt.cell (by omega) (fun h => h) 0
        have c0_1 : w2.cell? ⟨B, 1, none⟩ = some (.int .i64 n) := by rw [← c0_1]; exact tt.cell (by omega) (fun h => h) 1
        have c1_0 : w2.cell? ⟨B + 1, 0, none⟩ = some (.string a) := by rw [← c1_0]; exact tt.cell (by omega) (fun h => h) 0
        have hsz : B + 2 ≤ w2.heap.size := Nat.le_trans hsz tt.size
        have TB := Lib.hid (below_then TB.out hB1.out tt (fun _ _ h => h))
        clear tt hbb
        go_wp2_with (fail)
        go_ret
        exact ⟨rfl, HBE.out ▸ TB.out⟩
  · have hg' : goodB b n = false := by simpa using hg
    have hv : hasB b n a = false := by unfold hasB; rw [hg']; rfl
    rw [hv]
    rw [hg'] at HG
    clear hv hg hg'
    go_enter Try.func35, Try.ntmps35
    go_wp2_with (fail)
    generalize ((w.alloc (.cells #[(.string b : Value), .int .i64 n] 40)).alloc (.cells #[(.string a : Value)] 24)) = w0 at *
    generalize hBe : w.heap.size = B at *
    have HBE := Lib.hid hBe
    have hB1 := Lib.hid (show B ≤ w.heap.size by omega)
    clear hBe
    refine (HG.out _).mono ?_
    rintro e w1 ⟨rfl, hbb⟩
    have tt : Touch (fun _ => False) w0 w1 := Touch.none hbb
    have c0_0 : w1.cell? ⟨B, 0, none⟩ = some (.string b) := by rw [← c0_0]; exact tt.cell (by omega) (fun h => h) 0
    have c0_1 : w1.cell? ⟨B, 1, none⟩ = some (.int .i64 n) := by rw [← c0_1]; exact tt.cell (by omega) (fun h => h) 1
    have c1_0 : w1.cell? ⟨B + 1, 0, none⟩ = some (.string a) := by rw [← c1_0]; exact tt.cell (by omega) (fun h => h) 0
    have hsz : B + 2 ≤ w1.heap.size := Nat.le_trans hsz tt.size
    have TB := Lib.hid (below_then TB.out hB1.out tt (fun _ _ h => h))
    clear tt hbb
    go_wp2_with (fail)
    go_ret
    exact ⟨rfl, HBE.out ▸ TB.out⟩

def insideB (b : ByteArray) (n : Int) (a : ByteArray) (k : Int) : Bool := goodB b n && decide (k ≤ n) && hasB a k b
end Go.Proofs.Ytolkimdfnlfpbaa
