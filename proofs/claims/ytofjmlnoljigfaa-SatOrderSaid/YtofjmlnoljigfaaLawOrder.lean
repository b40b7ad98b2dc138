/- SatOrder returns true: the walk. Conditions: the arguments fit their kinds. -/
import Derived.Test.YtofjmlnoljigfaaK
import Derived.Deep.Light
import Derived.StillTailTactics
set_option linter.unusedVariables false
set_option linter.unusedSimpArgs false
namespace Go.Proofs.Ytofjmlnoljigfaa
open Go.RowKit

/-- A row that stands, with what it has gained. -/
structure One (w : World) (b : Nat) (L : List Int) (size top : Int) (g : Nat → Int) : Prop where
  sat : Sat w b L size top
  ok : SatOk L size top
  cnt : Cnt L size top g
  pos : ∀ j, 0 ≤ g j
theorem One.keep {S : Nat → Prop} {w w' : World} {b : Nat} {L : List Int} {size top : Int} {g : Nat → Int} (h : One w b L size top g) (t : Touch S w w') (hs : ¬ S b) : One w' b L size top g := ⟨h.sat.keep t hs, h.ok, h.cnt, h.pos⟩
theorem One.new (w : World) {size top : Int} (h1 : 1 ≤ size) (h2 : size ≤ 64) (h3 : 1 ≤ top) (h4 : top ≤ 9223372036854775807) :
    One (w.alloc (.cells (satCells zeroL size top).toArray 54)) w.heap.size zeroL size top (fun _ => 0) := ⟨zeroSat w size top, zeroL_ok h1 h2 h3 h4, cnt_zero h3, fun _ => Int.le_refl _⟩
theorem one_add {w : World} {b : Nat} {L : List Int} {size top : Int} {g : Nat → Int} (h : One w b L size top g) (I N : Nat → Int) (k : Nat) (hn : N k ≤ 9223372036854775807) :
    Calls Try.prog 10 #[.pointer (some ⟨b, 0, none⟩), .int .i64 (I k), .int .i64 (N k)] w fun e w' => (∃ v, e = .returned (.int .i64 v)) ∧ One w' b (addL L size top (I k) (N k)) size top (fun j => g j + gain I N j k) ∧ Touch (· = b) w w' :=
  (add_any h.sat h.ok (I k) (N k) hn).mono fun e w' ⟨he, hs, ht⟩ => ⟨⟨_, he⟩, ⟨hs, addL_ok h.ok _ _, cnt_add h.ok h.cnt h.pos I N k, fun j => by have := h.pos j; have := gain_nonneg I N j k; show 0 ≤ g j + gain I N j k; omega⟩, ht⟩
theorem One.congr {w : World} {b : Nat} {L : List Int} {size top : Int} {g g' : Nat → Int} (h : One w b L size top g) (e : ∀ j, g j = g' j) : One w b L size top g' := ⟨h.sat, h.ok, cnt_congr h.cnt e, fun j => by rw [← e]; exact h.pos j⟩

theorem new_one {size top : Int} (w : World) (B : Nat) (hB : w.heap.size = B) (h1 : 1 ≤ size) (h2 : size ≤ 64) (h3 : 1 ≤ top) (h4 : top ≤ 9223372036854775807) :
    Calls Try.prog 8 #[.int .i64 size, .int .i64 top] w fun e w' => e = .returned (.tuple #[.pointer (some ⟨B, 0, none⟩), .int .i64 0]) ∧ One w' B zeroL size top (fun _ => 0) ∧ Touch (fun _ => False) w w' ∧ w'.heap.size = B + 1 := by
  subst hB
  refine (new_yes size top w h1 h2 h3).mono ?_
  rintro e w' ⟨he, hw⟩
  subst hw
  exact ⟨he, One.new w h1 h2 h3 h4, Touch.alloc _ w _, by simp⟩

def sumR2 (I N : Nat → Int) (k a p : Nat) : Prop := ∀ j, sumR (gain I N j) 0 (min k a) + sumR (gain I N j) a p = sumR (gain I N j) 0 k
theorem rb_step {I N : Nat → Int} (_u : Unit) (len k m : Nat) (hm : m = len - 1 - k) (h : k < len) : ∀ j, sumR (gain I N j) (len - k) k + gain I N j m = sumR (gain I N j) (len - (k + 1)) (k + 1) := fun j => by
  rw [show len - (k + 1) = m by omega, sumR_left, show m + 1 = len - k by omega]
  omega

set_option maxRecDepth 100000 in
set_option maxHeartbeats 4000000 in
theorem satOrder_walk (a0 : Int) (w0 : (Lit.int .u16 a0).wf = true) (a1 : Option Addr) (len cap : Nat) (w : World) (w1 : RowIn Try.prog w 31 3 a1 len ∧ len ≤ cap ∧ cap ≤ maxLen) (a2 : Int) (w2 : (Lit.int .u8 a2).wf = true) :
    Calls Try.prog 5 #[.int .u16 a0, .slice a1 len cap, .int .u8 a2] w fun e w' => e = .returned (.bool true) ∧ Below w.heap.size w w' := by
  obtain ⟨w1, hlc, hcm⟩ := w1
  have hr := bounds_u16 w0
  have hr2 := bounds_u8 w2
  obtain ⟨at_, rfl⟩ := Int.eq_ofNat_of_zero_le hr2.1
  obtain ⟨X, I, N, hacts⟩ := acts_of w1
  have HACT := Lib.hid hacts
  clear w0 w1 w2 hacts
  have hcap : (cap : Int) ≤ 9223372036854775807 := by unfold maxLen at hcm; omega
  have hw1 : IntKind.i64.wrap a0 = a0 := IntWalk.i64_in _ (by omega)
  have hw2 : IntKind.i64.wrap (1 + a0) = 1 + a0 := IntWalk.i64_in _ (by omega)
  have hw3 : IntKind.i64.wrap (at_ : Int) = at_ := IntWalk.i64_in _ (by omega)
  have ht1 : 1 ≤ 1 + a0 := by omega
  have ht2 : 1 + a0 ≤ 9223372036854775807 := by omega
  have NA := Lib.hid (fun w B h => new_one (size := 3) (top := 1 + a0) w B h (by decide) (by decide) ht1 ht2)
  have ND := Lib.hid (fun w B h => new_one (size := 4) (top := 1 + a0) w B h (by decide) (by decide) ht1 ht2)
  have TB0 := Lib.hid (Below.refl w.heap.size w)
  generalize hBe : w.heap.size = B at *
  have hB1 := Lib.hid (show B ≤ w.heap.size by omega)
  have hBe' := Lib.hid hBe
  clear hBe
  go_enter Try.func5, Try.ntmps5
  go_wp2_with (fail)
  refine (NA.out w B hBe'.out).mono ?_
  rintro e wa ⟨rfl, hR, hT, S1⟩
  have R1 := Lib.hid hR
  have TB1 := Lib.hid (below_then TB0.out hB1.out hT (fun _ _ h => h))
  clear hR hT TB0
  go_wp2_with (fail)
  refine (NA.out wa _ S1).mono ?_
  rintro e wb ⟨rfl, hR, hT, S2⟩
  have R2 := Lib.hid hR
  have R1 := Lib.hid (R1.out.keep hT (fun h => h))
  have TB2 := Lib.hid (below_then TB1.out hB1.out hT (fun _ _ h => h))
  clear hR hT TB1
  go_wp2_with (fail)
  refine (NA.out wb _ S2).mono ?_
  rintro e wc ⟨rfl, hR, hT, S3⟩
  have R3 := Lib.hid hR
  have R1 := Lib.hid (R1.out.keep hT (fun h => h))
  have R2 := Lib.hid (R2.out.keep hT (fun h => h))
  have TB3 := Lib.hid (below_then TB2.out hB1.out hT (fun _ _ h => h))
  clear hR hT TB2
  go_wp2_with (fail)
  refine (ND.out wc _ S3).mono ?_
  rintro e wd ⟨rfl, hR, hT, S4⟩
  have R4 := Lib.hid hR
  have R1 := Lib.hid (R1.out.keep hT (fun h => h))
  have R2 := Lib.hid (R2.out.keep hT (fun h => h))
  have R3 := Lib.hid (R3.out.keep hT (fun h => h))
  have TB4 := Lib.hid (below_then TB3.out hB1.out hT (fun _ _ h => h))
  clear hR hT TB3 ND S1 S2 S3
  have hS4 : B + 3 < wd.heap.size := by omega
  clear S4
  by_cases hl : len ≤ 40
  · have hl' : (len : Int) ≤ 40 := by omega
    go_wp2_with (fail)
    go_loopw [16] (fun i wr => ∃ (k : Nat) (La Lb Lc Ld : List Int), k ≤ len ∧ i = .int .i64 k ∧ One wr B La 3 (1 + a0) (fun j => sumR (gain I N j) 0 k) ∧ One wr (B + 1) Lb 3 (1 + a0) (fun j => sumR (gain I N j) (len - k) k) ∧
      One wr (B + 1 + 1) Lc 3 (1 + a0) (fun j => sumR (gain I N j) 0 (min k at_)) ∧ (∃ g, One wr (B + 1 + 1 + 1) Ld 4 (1 + a0) g) ∧ Below B w wr) (fun i _ => len - (intOf i).toNat)
    case atStart => exact ⟨0, zeroL, zeroL, zeroL, zeroL, Nat.zero_le _, rfl, R1.out, R2.out, R3.out.congr (fun j => by rw [Nat.zero_min]; rfl), ⟨_, R4.out⟩, TB4.out⟩
    case round =>
      obtain ⟨k, La, Lb, Lc, Ld, hk, rfl, hA, hB, hC, ⟨gd, hD⟩, hT⟩ := hrel
      have RA := Lib.hid hA
      have RB := Lib.hid hB
      have RC := Lib.hid hC
      have RD := Lib.hid hD
      have RT := Lib.hid hT
      clear hA hB hC hD hT
      by_cases hlt : k < len
      · obtain ⟨m, hm⟩ : ∃ m, m = len - 1 - k := ⟨_, rfl⟩
        obtain ⟨ab, off, ha, hb, hn1, hcx, hci, hcn⟩ := HACT.out k hlt
        obtain ⟨ab2, off2, ha2, hb2, hm1, hdx, hdi, hdn⟩ := HACT.out m (by omega)
        rw [ha] at ha2
        simp only [Option.some.injEq, Addr.mk.injEq, and_true] at ha2
        obtain ⟨rfl, rfl⟩ := ha2
        subst ha
        have hb' : ∀ j, wr.cell? ⟨ab, j, none⟩ = w.cell? ⟨ab, j, none⟩ := fun j => World.cell?_of_block (w := w) (RT.out.block ab (by omega))
        rw [← hb'] at hcx hci hcn hdx hdi hdn
        clear hb' hb2
        have hki : (k : Int) < len := by omega
        have hv1 : IntKind.i64.wrap ((len : Int) - 1) = (len : Int) - 1 := IntWalk.i64_in _ (by omega)
        have hv2 : IntKind.i64.wrap ((len : Int) - 1 - k) = (len : Int) - 1 - k := IntWalk.i64_in _ (by omega)
        have hv3 : 0 ≤ (len : Int) - 1 - k := by omega
        have hv4 : (len : Int) - 1 - k < len := by omega
        have hv5 : ((len : Int) - 1 - k).toNat = m := by omega
        have HM := Lib.hid hm
        clear hm
        generalize hx : X k = x at *
        generalize hy : X m = y at *
        clear hx hy
        have hal : ∀ j, (wr.alloc (.cells #[.int .i64 x, .int .i64 (I k), .int .i64 (N k)] 31)).cell? ⟨ab, j, none⟩ = wr.cell? ⟨ab, j, none⟩ := fun j => (Touch.alloc (fun _ => False) wr _).cell (by have := RT.out.size; have := hB1.out; omega) (fun x => x) j
        have hdx' := hdx; have hdi' := hdi; have hdn' := hdn
        rw [← hal] at hdx' hdi' hdn'
        clear hal hdx hdi hdn
        by_cases hat : k < at_
        · have hat' : (k : Int) < at_ := by omega
          have hbd := RD.out.sat.blk.lt
          have hc1 : ((wr.alloc (.cells #[.int .i64 x, .int .i64 (I k), .int .i64 (N k)] 31)).alloc (.cells #[.int .i64 y, .int .i64 (I m), .int .i64 (N m)] 31)).cell? ⟨wr.heap.size, 1, none⟩ = some (.int .i64 (I k)) := by simp
          have hc2 : ((wr.alloc (.cells #[.int .i64 x, .int .i64 (I k), .int .i64 (N k)] 31)).alloc (.cells #[.int .i64 y, .int .i64 (I m), .int .i64 (N m)] 31)).cell? ⟨wr.heap.size, 2, none⟩ = some (.int .i64 (N k)) := by simp
          have hc3 : ((wr.alloc (.cells #[.int .i64 x, .int .i64 (I k), .int .i64 (N k)] 31)).alloc (.cells #[.int .i64 y, .int .i64 (I m), .int .i64 (N m)] 31)).cell? ⟨wr.heap.size + 1, 1, none⟩ = some (.int .i64 (I m)) := by simp
          have hc4 : ((wr.alloc (.cells #[.int .i64 x, .int .i64 (I k), .int .i64 (N k)] 31)).alloc (.cells #[.int .i64 y, .int .i64 (I m), .int .i64 (N m)] 31)).cell? ⟨wr.heap.size + 1, 2, none⟩ = some (.int .i64 (N m)) := by simp
          have hts : wr.heap.size + 1 < ((wr.alloc (.cells #[.int .i64 x, .int .i64 (I k), .int .i64 (N k)] 31)).alloc (.cells #[.int .i64 y, .int .i64 (I m), .int .i64 (N m)] 31)).heap.size := by simp
          have TT := Lib.hid ((Touch.alloc (fun _ => False) wr (.cells #[.int .i64 x, .int .i64 (I k), .int .i64 (N k)] 31)).trans (Touch.alloc (fun _ => False) _ (.cells #[.int .i64 y, .int .i64 (I m), .int .i64 (N m)] 31)) (fun _ _ h => h))
          go_wp2_with (fail)
          generalize (wr.alloc (.cells #[.int .i64 x, .int .i64 (I k), .int .i64 (N k)] 31)).alloc (.cells #[.int .i64 y, .int .i64 (I m), .int .i64 (N m)] 31) = wx at *
          have RA := Lib.hid (RA.out.keep TT.out (fun h => h))
          have RB := Lib.hid (RB.out.keep TT.out (fun h => h))
          have RC := Lib.hid (RC.out.keep TT.out (fun h => h))
          have RD := Lib.hid (RD.out.keep TT.out (fun h => h))
          have RTn := Lib.hid (below_then RT.out hB1.out TT.out (fun _ _ h => h))
          generalize wr.heap.size = tx at *
          clear TT RT hcx hci hcn hdx' hdi' hdn'
          refine (one_add RA.out I N k hn1).mono ?_
          rintro e w1 ⟨⟨uw1, rfl⟩, h, t⟩
          have RA := Lib.hid h
          have RB := Lib.hid (RB.out.keep t (by omega))
          have RC := Lib.hid (RC.out.keep t (by omega))
          have RD := Lib.hid (RD.out.keep t (by omega))
          have hc1 : w1.cell? ⟨tx, 1, none⟩ = some (.int .i64 (I k)) := by rw [← hc1]; exact t.cell (by omega) (by omega) 1
          have hc2 : w1.cell? ⟨tx, 2, none⟩ = some (.int .i64 (N k)) := by rw [← hc2]; exact t.cell (by omega) (by omega) 2
          have hc3 : w1.cell? ⟨tx + 1, 1, none⟩ = some (.int .i64 (I m)) := by rw [← hc3]; exact t.cell (by omega) (by omega) 1
          have hc4 : w1.cell? ⟨tx + 1, 2, none⟩ = some (.int .i64 (N m)) := by rw [← hc4]; exact t.cell (by omega) (by omega) 2
          have RTn := Lib.hid (below_then RTn.out hB1.out t (fun i hi e => by omega))
          have hts2 : tx + 1 < w1.heap.size := by have := t.size; omega
          clear h t
          go_wp2_with (fail)
          refine (one_add RB.out I N m hm1).mono ?_
          rintro e w2 ⟨⟨uw2, rfl⟩, h, t⟩
          have RB := Lib.hid h
          have RA := Lib.hid (RA.out.keep t (by omega))
          have RC := Lib.hid (RC.out.keep t (by omega))
          have RD := Lib.hid (RD.out.keep t (by omega))
          have hc1 : w2.cell? ⟨tx, 1, none⟩ = some (.int .i64 (I k)) := by rw [← hc1]; exact t.cell (by omega) (by omega) 1
          have hc2 : w2.cell? ⟨tx, 2, none⟩ = some (.int .i64 (N k)) := by rw [← hc2]; exact t.cell (by omega) (by omega) 2
          have RTn := Lib.hid (below_then RTn.out hB1.out t (fun i hi e => by omega))
          have hts2 : tx + 1 < w2.heap.size := by have := t.size; omega
          clear h t
          go_wp2_with (fail)
          refine (one_add RC.out I N k hn1).mono ?_
          rintro e w3 ⟨⟨uw3, rfl⟩, h, t⟩
          have RC := Lib.hid h
          have RA := Lib.hid (RA.out.keep t (by omega))
          have RB := Lib.hid (RB.out.keep t (by omega))
          have RD := Lib.hid (RD.out.keep t (by omega))
          have RTn := Lib.hid (below_then RTn.out hB1.out t (fun i hi e => by omega))
          have hts2 : tx + 1 < w3.heap.size := by have := t.size; omega
          clear h t
          go_wp2_with (fail)
          go_light
          go_roundw
          case rel => exact ⟨k + 1, _, _, _, _, by omega, by go_num, RA.out.congr (fun j => by show _ = sumR _ 0 k + gain I N j (0 + k); rw [Nat.zero_add]), RB.out.congr (rb_step () len k m HM.out hlt), RC.out.congr (fun j => by rw [show min (k + 1) at_ = min k at_ + 1 by omega]; show _ = sumR _ 0 (min k at_) + gain I N j (0 + min k at_); rw [show 0 + min k at_ = k by omega]), ⟨_, RD.out⟩, RTn.out⟩
          case measure => simp [intOf]; omega
        · have hat' : (at_ : Int) ≤ k := by omega
          have hbd := RD.out.sat.blk.lt
          have hc1 : ((wr.alloc (.cells #[.int .i64 x, .int .i64 (I k), .int .i64 (N k)] 31)).alloc (.cells #[.int .i64 y, .int .i64 (I m), .int .i64 (N m)] 31)).cell? ⟨wr.heap.size, 1, none⟩ = some (.int .i64 (I k)) := by simp
          have hc2 : ((wr.alloc (.cells #[.int .i64 x, .int .i64 (I k), .int .i64 (N k)] 31)).alloc (.cells #[.int .i64 y, .int .i64 (I m), .int .i64 (N m)] 31)).cell? ⟨wr.heap.size, 2, none⟩ = some (.int .i64 (N k)) := by simp
          have hc3 : ((wr.alloc (.cells #[.int .i64 x, .int .i64 (I k), .int .i64 (N k)] 31)).alloc (.cells #[.int .i64 y, .int .i64 (I m), .int .i64 (N m)] 31)).cell? ⟨wr.heap.size + 1, 1, none⟩ = some (.int .i64 (I m)) := by simp
          have hc4 : ((wr.alloc (.cells #[.int .i64 x, .int .i64 (I k), .int .i64 (N k)] 31)).alloc (.cells #[.int .i64 y, .int .i64 (I m), .int .i64 (N m)] 31)).cell? ⟨wr.heap.size + 1, 2, none⟩ = some (.int .i64 (N m)) := by simp
          have hts : wr.heap.size + 1 < ((wr.alloc (.cells #[.int .i64 x, .int .i64 (I k), .int .i64 (N k)] 31)).alloc (.cells #[.int .i64 y, .int .i64 (I m), .int .i64 (N m)] 31)).heap.size := by simp
          have TT := Lib.hid ((Touch.alloc (fun _ => False) wr (.cells #[.int .i64 x, .int .i64 (I k), .int .i64 (N k)] 31)).trans (Touch.alloc (fun _ => False) _ (.cells #[.int .i64 y, .int .i64 (I m), .int .i64 (N m)] 31)) (fun _ _ h => h))
          go_wp2_with (fail)
          generalize (wr.alloc (.cells #[.int .i64 x, .int .i64 (I k), .int .i64 (N k)] 31)).alloc (.cells #[.int .i64 y, .int .i64 (I m), .int .i64 (N m)] 31) = wx at *
          have RA := Lib.hid (RA.out.keep TT.out (fun h => h))
          have RB := Lib.hid (RB.out.keep TT.out (fun h => h))
          have RC := Lib.hid (RC.out.keep TT.out (fun h => h))
          have RD := Lib.hid (RD.out.keep TT.out (fun h => h))
          have RTn := Lib.hid (below_then RT.out hB1.out TT.out (fun _ _ h => h))
          generalize wr.heap.size = tx at *
          clear TT RT hcx hci hcn hdx' hdi' hdn'
          refine (one_add RA.out I N k hn1).mono ?_
          rintro e w1 ⟨⟨uw1, rfl⟩, h, t⟩
          have RA := Lib.hid h
          have RB := Lib.hid (RB.out.keep t (by omega))
          have RC := Lib.hid (RC.out.keep t (by omega))
          have RD := Lib.hid (RD.out.keep t (by omega))
          have hc1 : w1.cell? ⟨tx, 1, none⟩ = some (.int .i64 (I k)) := by rw [← hc1]; exact t.cell (by omega) (by omega) 1
          have hc2 : w1.cell? ⟨tx, 2, none⟩ = some (.int .i64 (N k)) := by rw [← hc2]; exact t.cell (by omega) (by omega) 2
          have hc3 : w1.cell? ⟨tx + 1, 1, none⟩ = some (.int .i64 (I m)) := by rw [← hc3]; exact t.cell (by omega) (by omega) 1
          have hc4 : w1.cell? ⟨tx + 1, 2, none⟩ = some (.int .i64 (N m)) := by rw [← hc4]; exact t.cell (by omega) (by omega) 2
          have RTn := Lib.hid (below_then RTn.out hB1.out t (fun i hi e => by omega))
          have hts2 : tx + 1 < w1.heap.size := by have := t.size; omega
          clear h t
          go_wp2_with (fail)
          refine (one_add RB.out I N m hm1).mono ?_
          rintro e w2 ⟨⟨uw2, rfl⟩, h, t⟩
          have RB := Lib.hid h
          have RA := Lib.hid (RA.out.keep t (by omega))
          have RC := Lib.hid (RC.out.keep t (by omega))
          have RD := Lib.hid (RD.out.keep t (by omega))
          have hc1 : w2.cell? ⟨tx, 1, none⟩ = some (.int .i64 (I k)) := by rw [← hc1]; exact t.cell (by omega) (by omega) 1
          have hc2 : w2.cell? ⟨tx, 2, none⟩ = some (.int .i64 (N k)) := by rw [← hc2]; exact t.cell (by omega) (by omega) 2
          have RTn := Lib.hid (below_then RTn.out hB1.out t (fun i hi e => by omega))
          have hts2 : tx + 1 < w2.heap.size := by have := t.size; omega
          clear h t
          go_wp2_with (fail)
          refine (one_add RD.out I N k hn1).mono ?_
          rintro e w3 ⟨⟨uw3, rfl⟩, h, t⟩
          have RD := Lib.hid h
          have RA := Lib.hid (RA.out.keep t (by omega))
          have RB := Lib.hid (RB.out.keep t (by omega))
          have RC := Lib.hid (RC.out.keep t (by omega))
          have RTn := Lib.hid (below_then RTn.out hB1.out t (fun i hi e => by omega))
          have hts2 : tx + 1 < w3.heap.size := by have := t.size; omega
          clear h t
          go_wp2_with (fail)
          go_light
          go_roundw
          case rel => exact ⟨k + 1, _, _, _, _, by omega, by go_num, RA.out.congr (fun j => by show _ = sumR _ 0 k + gain I N j (0 + k); rw [Nat.zero_add]), RB.out.congr (rb_step () len k m HM.out hlt), RC.out.congr (fun j => by rw [show min (k + 1) at_ = min k at_ by omega]), ⟨_, RD.out⟩, RTn.out⟩
          case measure => simp [intOf]; omega
      · obtain rfl : k = len := by omega
        have RB := Lib.hid (RB.out.congr (g' := fun j => sumR (gain I N j) 0 k) (fun j => by rw [Nat.sub_self]))
        have HAB := Lib.hid (cnt_all RA.out.ok RB.out.ok RA.out.cnt RB.out.cnt)
        have hlen3 : (allL La 3).length ≤ 64 := by have := allL_len RA.out.ok; have : (Int.toNat 3) = 3 := rfl; omega
        go_wp2_with (fail)
        refine (all_any RA.out.sat (by decide) (by decide)).mono ?_
        rintro e w1 ⟨va, rfl, hv, hb⟩
        have HVA := Lib.hid hv
        have RA1 := Lib.hid (RA.out.keep (Touch.of_below hb (fun _ => False)) (fun x => x))
        have RB1 := Lib.hid (RB.out.keep (Touch.of_below hb (fun _ => False)) (fun x => x))
        have RC1 := Lib.hid (RC.out.keep (Touch.of_below hb (fun _ => False)) (fun x => x))
        have RD1 := Lib.hid (RD.out.keep (Touch.of_below hb (fun _ => False)) (fun x => x))
        have RT1 := Lib.hid (below_then RT.out hB1.out (Touch.of_below hb (fun _ => False)) (fun _ _ x => x))
        clear hv hb RA RB RC RD RT
        go_wp2_with (fail)
        refine (all_any RB1.out.sat (by decide) (by decide)).mono ?_
        rw [← HAB.out]
        rintro e w2 ⟨vb, rfl, hv, hb⟩
        have HVB := Lib.hid hv
        have HVA2 := Lib.hid (own_keep HVA.out (Touch.of_below hb (fun _ => False)) (fun _ _ _ x => x))
        have RA2 := Lib.hid (RA1.out.keep (Touch.of_below hb (fun _ => False)) (fun x => x))
        have RC2 := Lib.hid (RC1.out.keep (Touch.of_below hb (fun _ => False)) (fun x => x))
        have RD2 := Lib.hid (RD1.out.keep (Touch.of_below hb (fun _ => False)) (fun x => x))
        have RT2 := Lib.hid (below_then RT1.out hB1.out (Touch.of_below hb (fun _ => False)) (fun _ _ x => x))
        clear hv hb RA1 RB1 RC1 RD1 RT1 HVA HAB
        have HI := Lib.hid (ints_any (SL.of_own HVA2.out) (SL.of_own HVB.out) hlen3)
        go_wp2_with (fail)
        refine HI.out.mono ?_
        rintro e w3 ⟨rfl, nd, rfl⟩
        have hid : Touch (fun _ => False) w2 (w2.drewN nd) := (Touch.refl _ w2).drewN nd
        have RA3 := Lib.hid (RA2.out.keep hid (fun x => x))
        have RC3 := Lib.hid (RC2.out.keep hid (fun x => x))
        have RD3 := Lib.hid (RD2.out.keep hid (fun x => x))
        have RT3 := Lib.hid (below_then RT2.out hB1.out hid (fun _ _ x => x))
        generalize w2.drewN nd = w3 at *
        clear hid RA2 RC2 RD2 RT2 HVA2 HVB HI
        go_wp2_with (fail)
        refine (merge_other RC3.out.sat (by decide) RD3.out.sat (by decide) (by decide)).mono ?_
        rintro e w4 ⟨rfl, hb⟩
        have RA4 := Lib.hid (RA3.out.keep (Touch.of_below hb (fun _ => False)) (fun x => x))
        have RC4 := Lib.hid (RC3.out.keep (Touch.of_below hb (fun _ => False)) (fun x => x))
        have RT4 := Lib.hid (below_then RT3.out hB1.out (Touch.of_below hb (fun _ => False)) (fun _ _ x => x))
        clear hb RA3 RC3 RD3 RT3
        go_wp2_with (fail)
        refine (NA.out w4 _ rfl).mono ?_
        rintro e w5 ⟨rfl, hF, ht, hs5⟩
        have RF5 := Lib.hid hF
        have RA5 := Lib.hid (RA4.out.keep ht (fun x => x))
        have RC5 := Lib.hid (RC4.out.keep ht (fun x => x))
        have RT5 := Lib.hid (below_then RT4.out hB1.out ht (fun _ _ x => x))
        have hfa := RA4.out.sat.blk.lt
        have hfc := RC4.out.sat.blk.lt
        generalize w4.heap.size = f at *
        clear hF ht hs5 RA4 RC4 RT4
        go_wp2_with (fail)
        go_loopw [21] (fun i wr => ∃ (p : Nat) (Lf : List Int), p ≤ k ∧ (at_ ≤ k → at_ + p ≤ k) ∧ i = .int .i64 ((at_ + p : Nat) : Int) ∧ One wr f Lf 3 (1 + a0) (fun j => sumR (gain I N j) at_ p) ∧ One wr B La 3 (1 + a0) (fun j => sumR (gain I N j) 0 k) ∧
          One wr (B + 1 + 1) Lc 3 (1 + a0) (fun j => sumR (gain I N j) 0 (min k at_)) ∧ Below B w wr ∧ (k < at_ → p = 0)) (fun i _ => k - (intOf i).toNat)
        case atStart => exact ⟨0, zeroL, Nat.zero_le _, fun h => h, rfl, RF5.out, RA5.out, RC5.out, RT5.out, fun _ => rfl⟩
        case round =>
          obtain ⟨p, Lf, hp, hp2, rfl, hF, hA, hC, hT, hp3⟩ := hrel
          have RF := Lib.hid hF
          have RA := Lib.hid hA
          have RC := Lib.hid hC
          have RT := Lib.hid hT
          have HP := Lib.hid hp2
          have HP3 := Lib.hid hp3
          clear hF hA hC hT hp2 hp3
          by_cases hlt : at_ + p < k
          · obtain ⟨ab, off, ha, hb, hn1, hcx, hci, hcn⟩ := HACT.out (at_ + p) hlt
            subst ha
            have hb' : ∀ j, wr.cell? ⟨ab, j, none⟩ = w.cell? ⟨ab, j, none⟩ := fun j => World.cell?_of_block (w := w) (RT.out.block ab (by omega))
            rw [← hb'] at hcx hci hcn
            clear hb' hcx
            have HADD := Lib.hid (fun w2 (t : Touch (fun _ => False) wr w2) => one_add (RF.out.keep t (fun x => x)) I N (at_ + p) hn1)
            have HQ := Lib.hid (show at_ + (p + 1) = at_ + p + 1 from rfl)
            generalize hq : at_ + p = q at *
            have HQ2 := Lib.hid hq
            clear hq
            have hqi : (q : Int) < k := by omega
            go_wp2_with (fail)
            refine wp_region_tail 11 (by kernel_rfl) (by kernel_rfl) ?_
            simp only [List.take_succ_cons, List.take_zero, List.drop_succ_cons, List.drop_zero]
            repeat still_step
            refine wpStill_nil ?_
            go_wp2_with (fail)
            refine (HADD.out _ ((Touch.refl _ _).drew)).mono ?_
            rintro e w6 ⟨⟨v6, rfl⟩, hF, ht⟩
            have ht' : Touch (· = f) wr w6 := (Touch.refl _ wr).drew.trans ht (fun _ _ x => x)
            have RF6 := Lib.hid hF
            have RA6 := Lib.hid (RA.out.keep ht' (by omega))
            have RC6 := Lib.hid (RC.out.keep ht' (by omega))
            have RT6 := Lib.hid (below_then RT.out hB1.out ht' (fun i hi e => by omega))
            clear hF ht ht' RF RA RC RT HADD
            go_wp2_with (fail)
            go_light
            go_roundw
            case rel =>
              have e1 := HQ2.out
              exact ⟨p + 1, _, by omega, fun h => by omega, by rw [HQ.out]; go_num, RF6.out.congr (fun j => by rw [← e1]; rfl), RA6.out, RC6.out, RT6.out, fun h => by omega⟩
            case measure => simp [intOf]; omega
          · have hend : sumR2 I N k at_ p := by
              intro j
              by_cases h : at_ ≤ k
              · have := HP.out h
                rw [Nat.min_eq_right h, show k = at_ + p by omega, sumR_add, Nat.zero_add]
              · have e := HP3.out (by omega)
                rw [Nat.min_eq_left (by omega), e]
                show _ + 0 = _
                omega
            have HEND := Lib.hid hend
            have hqi : (k : Int) ≤ ((at_ + p : Nat) : Int) := by omega
            generalize hq : at_ + p = q at *
            clear hend
            go_wp2_with (fail)
            refine (merge_any RC.out.sat RC.out.ok RF.out.sat RF.out.ok (by omega)).mono ?_
            rintro e w6 ⟨rfl, hM, ht⟩
            have RM := Lib.hid (show One w6 (B + 1 + 1) (mergeTo Lc Lf 3 (1 + a0) (Int.toNat 3)) 3 (1 + a0) (fun j => sumR (gain I N j) 0 k) from
              (One.mk hM (mergeTo_ok RC.out.ok _ _) (cnt_merge RC.out.ok RF.out.ok RC.out.cnt RF.out.cnt RC.out.pos RF.out.pos) (fun j => by have := RC.out.pos j; have := RF.out.pos j; omega)).congr (fun j => HEND.out j))
            have RA6 := Lib.hid (RA.out.keep ht (by omega))
            have RT6 := Lib.hid (below_then RT.out hB1.out ht (fun i hi e => by omega))
            have HAC := Lib.hid (cnt_all RA6.out.ok RM.out.ok RA6.out.cnt RM.out.cnt)
            generalize mergeTo Lc Lf 3 (1 + a0) (Int.toNat 3) = Lm at *
            clear hM ht RA RC RT RF
            go_wp2_with (fail)
            refine (all_any RM.out.sat (by decide) (by decide)).mono ?_
            rw [← HAC.out]
            rintro e w7 ⟨vc, rfl, hv, hb⟩
            have HV7 := Lib.hid hv
            have RA7 := Lib.hid (RA6.out.keep (Touch.of_below hb (fun _ => False)) (fun x => x))
            have RT7 := Lib.hid (below_then RT6.out hB1.out (Touch.of_below hb (fun _ => False)) (fun _ _ x => x))
            clear hv hb RA6 RM RT6
            go_wp2_with (fail)
            refine (all_any RA7.out.sat (by decide) (by decide)).mono ?_
            rintro e w8 ⟨va2, rfl, hv, hb⟩
            have HV8 := Lib.hid hv
            have HVC := Lib.hid (own_keep HV7.out (Touch.of_below hb (fun _ => False)) (fun _ _ _ x => x))
            have RT8 := Lib.hid (below_then RT7.out hB1.out (Touch.of_below hb (fun _ => False)) (fun _ _ x => x))
            clear hv hb RA7 RT7
            have HI := Lib.hid (ints_any (SL.of_own HVC.out) (SL.of_own HV8.out) hlen3)
            go_wp2_with (fail)
            refine HI.out.mono ?_
            rintro e w9 ⟨rfl, nd, rfl⟩
            have RT9 := Lib.hid (below_then RT8.out hB1.out (show Touch (fun _ => False) w8 (w8.drewN nd) from (Touch.refl _ w8).drewN nd) (fun _ _ x => x))
            clear RT8
            go_wp2_with (fail)
            refine (known_any _).mono ?_
            rintro e wk ⟨rfl, hb⟩
            have RTk := Lib.hid (below_then RT9.out hB1.out (Touch.of_below hb (fun _ => False)) (fun _ _ x => x))
            clear hb
            go_wp2_with (fail)
            go_ret
            exact ⟨rfl, RTk.out⟩
  · have hl' : (40 : Int) < len := by omega
    go_wp2_with (fail)
    refine (known_any _).mono ?_
    rintro e w6 ⟨rfl, hb⟩
    have RT5 := Lib.hid (below_then TB4.out hB1.out (Touch.of_below hb (fun _ => False)) (fun _ _ x => x))
    clear hb
    go_wp2_with (fail)
    go_ret
    exact ⟨rfl, RT5.out⟩
end Go.Proofs.Ytofjmlnoljigfaa
