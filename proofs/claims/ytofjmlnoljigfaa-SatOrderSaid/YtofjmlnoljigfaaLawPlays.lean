/- SatPlays returns true: the walk. Conditions: the arguments fit their kinds. -/
import Derived.Test.YtofjmlnoljigfaaJ
import Derived.Deep.Light
import Derived.Deep.RegionHeld3
set_option linter.unusedVariables false
set_option linter.unusedSimpArgs false
namespace Go.Proofs.Ytofjmlnoljigfaa
open Go.RowKit

theorem Touch.of_below' {B : Nat} {w w' : World} (h : Below B w w') : Touch (fun i => B ≤ i) w w' := ⟨h.os, h.tape, h.output, h.size, fun i hi hs => h.block i (by omega)⟩
theorem zero_allL {size : Int} (h : size ≤ 64) : allL zeroL size = List.replicate size.toNat 0 := by
  unfold allL zeroL
  rw [List.take_replicate, Nat.min_eq_left (by omega)]

/-- The two rows, since wx. -/
structure Both (wx w : World) (b : Nat) (L : List Int) (size top : Int) (q r : Nat) (V : List Int) : Prop where
  sat : Sat w b L size top
  ref : Ref w q r V top
  tou : Touch (fun j => j = b ∨ j = r) wx w
theorem frozen_keep {w w' : World} {g : Nat} (t : Touch (fun _ => False) w w') (hg : g < w.heap.size) {i : Nat} (h : w.frozen? ⟨g, i, none⟩ = false) : w'.frozen? ⟨g, i, none⟩ = false := by
  unfold World.frozen? at *
  rw [t.block g hg (fun x => x)]; exact h
theorem both_add {wx w : World} {b : Nat} {L : List Int} {size top : Int} {q r : Nat} {V : List Int} (h : Both wx w b L size top q r V) (ok : SatOk L size top) (h1 : b ≠ q) (h2 : b ≠ r) (i n : Int) (hn : n ≤ 9223372036854775807) :
    Calls Try.prog 10 #[.pointer (some ⟨b, 0, none⟩), .int .i64 i, .int .i64 n] w fun e w' => e = .returned (.int .i64 (atV (addL L size top i n) size i)) ∧ Both wx w' b (addL L size top i n) size top q r V :=
  (add_any h.sat ok i n hn).mono fun e w' ⟨he, hs, ht⟩ => ⟨he, hs, h.ref.keep ht (fun e => h1 e.symm) (fun e => h2 e.symm), h.tou.trans ht (fun _ _ x => .inl x)⟩
theorem both_radd {wx w : World} {b : Nat} {L L' : List Int} {size top : Int} {q r : Nat} (h : Both wx w b L size top q r (allL L' size)) (ok : SatOk L' size top) (h2 : b ≠ r) (i n : Int) (hn : n ≤ 9223372036854775807) :
    Calls Try.prog 11 #[.pointer (some ⟨q, 0, none⟩), .int .i64 i, .int .i64 n] w fun e w' => e = .returned (.int .i64 (atV (addL L' size top i n) size i)) ∧ Both wx w' b L size top q r (allL (addL L' size top i n) size) := by
  have hl := allL_len ok
  have hs := ok.s2
  refine (radd_any h.ref (by omega) (fun j => ?_) ok.t2 i n hn).mono fun e w' ⟨he, hr, ht⟩ => ?_
  · by_cases hj : j < size.toNat
    · rw [allL_get ok j hj]; exact ok.c j
    · have ht := ok.t1
      rw [List.getD_eq_getElem?_getD, List.getElem?_eq_none (by omega)]
      exact ⟨Int.le_refl _, by simp; omega⟩
  · rw [addR_allL ok, atR_allL (addL_ok ok i n)] at he
    rw [addR_allL ok] at hr
    exact ⟨he, h.sat.keep ht h2, hr, h.tou.trans ht (fun _ _ x => .inr x)⟩

set_option maxRecDepth 100000 in
set_option maxHeartbeats 8000000 in
theorem satPlays_walk (a0 : Int) (w0 : (Lit.int .i64 a0).wf = true) (a1 : Int) (w1 : (Lit.int .i64 a1).wf = true) (a2 : Option Addr) (len cap : Nat) (w : World) (w2 : RowIn Try.prog w 31 3 a2 len ∧ len ≤ cap ∧ cap ≤ maxLen) :
    Calls Try.prog 3 #[.int .i64 a0, .int .i64 a1, .slice a2 len cap] w fun e w' => e = .returned (.bool true) ∧ Below w.heap.size w w' := by
  obtain ⟨w2, hlc, hcm⟩ := w2
  have hr := bounds_i64 w1
  have HW := Lib.hid w2
  clear w0 w1 w2
  have hcap : (cap : Int) ≤ 9223372036854775807 := by unfold maxLen at hcm; omega
  by_cases hok : 1 ≤ a0 ∧ a0 ≤ 64 ∧ 1 ≤ a1
  · obtain ⟨hs1, hs2, ht1⟩ := hok
    have HOK := Lib.hid (zeroL_ok (size := a0) (top := a1) hs1 hs2 ht1 hr.2)
    have HN := Lib.hid (new_yes a0 a1 w hs1 hs2 ht1)
    have T0 := Touch.alloc (fun _ => False) w (.cells (satCells zeroL a0 a1).toArray 54)
    have R0 := Lib.hid (zeroSat w a0 a1)
    have hsz : w.heap.size < (w.alloc (.cells (satCells zeroL a0 a1).toArray 54)).heap.size := by simp
    generalize w.alloc (.cells (satCells zeroL a0 a1).toArray 54) = wa at *
    have TB0 := Lib.hid (T0.below (Nat.le_refl _) (fun _ _ h => h))
    have HR := Lib.hid (rnew_yes a0 a1 wa hs1 hs2 ht1)
    rw [← zero_allL hs2] at HR
    clear T0
    generalize hBe : w.heap.size = B at *
    have hB1 := Lib.hid (show B ≤ w.heap.size by omega)
    generalize wa.heap.size = c at *
    go_enter Try.func3, Try.ntmps3
    go_wp2_with (fail)
    refine HN.out.mono ?_
    rintro e w2 ⟨rfl, rfl⟩
    go_wp2_with (fail)
    refine HR.out.mono ?_
    rintro e w2 ⟨rfl, hRef, hb⟩
    have R1 := Lib.hid (R0.out.keep (Touch.of_below' hb) (fun h => by omega))
    have RR1 := Lib.hid hRef
    have RT := Lib.hid (below_then TB0.out hB1.out (Touch.of_below' hb) (fun i hi h => by omega))
    clear hb hRef R0 TB0
    go_wp2_with (fail)
    go_loopw [7, 11] (fun p i wr => ∃ (k : Nat) (b r : Nat) (L : List Int), k ≤ len ∧ k ≤ 60 ∧ p = .pointer (some ⟨b, 0, none⟩) ∧ i = .int .i64 k ∧ B ≤ b ∧ B ≤ r ∧ b ≠ c + 1 ∧ b ≠ r ∧ Sat wr b L a0 a1 ∧ SatOk L a0 a1 ∧ Ref wr (c + 1) r (allL L a0) a1 ∧ Below B w wr) (fun _ i _ => len - (intOf i).toNat)
    case atStart => exact ⟨0, B, c, zeroL, Nat.zero_le _, Nat.zero_le _, rfl, rfl, Nat.le_refl _, by omega, by omega, by omega, R1.out, HOK.out, RR1.out, RT.out⟩
    case round =>
      obtain ⟨k, b, r, L, hk, hk60, rfl, rfl, hBb, hBr, hbc, hbr, hS, hO, hR, hT⟩ := hrel
      have RS := Lib.hid hS
      have RO := Lib.hid hO
      have RR := Lib.hid hR
      have RT := Lib.hid hT
      clear hS hO hR hT
      by_cases hlt : k < len ∧ k < 60
      · obtain ⟨ab, off, x, i, n, ha, hb, hx0, hx1, hi0, hi1, hn0, hn1, hcx, hci, hcn⟩ := act_of HW.out k hlt.1
        subst ha
        have hb' : ∀ j, wr.cell? ⟨ab, j, none⟩ = w.cell? ⟨ab, j, none⟩ := fun j => World.cell?_of_block (w := w) (RT.out.block ab (by omega))
        rw [← hb'] at hcx hci hcn
        clear hb'
        have hki : (k : Int) < len := by omega
        have hk60' : (k : Int) < 60 := by omega
        have hx01 : x = 0 ∨ x = 1 ∨ (x ≠ 0 ∧ x ≠ 1) := by omega
        rcases hx01 with rfl | rfl | ⟨hx0, hx1⟩
        · have hcell1 : (wr.alloc (.cells #[Value.int .i64 0, .int .i64 i, .int .i64 n] 31)).cell? ⟨wr.heap.size, 1, none⟩ = some (.int .i64 i) := by simp
          have hcell2 : (wr.alloc (.cells #[Value.int .i64 0, .int .i64 i, .int .i64 n] 31)).cell? ⟨wr.heap.size, 2, none⟩ = some (.int .i64 n) := by simp
          have HT1 := Lib.hid (Touch.alloc (fun _ => False) wr (.cells #[Value.int .i64 0, .int .i64 i, .int .i64 n] 31))
          have hbs := RS.out.blk.lt
          have hrs := RR.out.row.lt
          have hqs := RR.out.blk.lt
          have hts : wr.heap.size < (wr.alloc (.cells #[Value.int .i64 0, .int .i64 i, .int .i64 n] 31)).heap.size := by simp
          have RTs := RT.out.size
          go_wp2_with (fail)
          generalize wr.alloc (.cells #[Value.int .i64 0, .int .i64 i, .int .i64 n] 31) = wx at *
          generalize wr.heap.size = t at *
          have P0 := Lib.hid (show Both wx wx.drew b L a0 a1 (c + 1) r (allL L a0) from ⟨(RS.out.keep HT1.out (fun x => x)).keep (Touch.refl (fun _ => False) wx).drew (fun x => x), (RR.out.keep HT1.out (fun x => x) (fun x => x)).keep (Touch.refl (fun _ => False) wx).drew (fun x => x) (fun x => x), (Touch.refl _ wx).drew⟩)
          have PC := Lib.hid (fun (w' : World) (h : Touch (fun j => j = b ∨ j = r) wx w') (j : Nat) => h.cell (b := t) hts (fun e => by omega) j)
          have RO2 := Lib.hid (addL_ok RO.out i n)
          have H10 := Lib.hid (fun w' (h : Hid (Both wx w' b L a0 a1 (c + 1) r (allL L a0))) => both_add h.out RO.out hbc hbr i n hn1)
          have H11 := Lib.hid (fun w' (h : Hid (Both wx w' b (addL L a0 a1 i n) a0 a1 (c + 1) r (allL L a0))) => both_radd h.out RO.out hbr i n hn1)
          generalize addL L a0 a1 i n = L2 at *
          generalize atV L2 a0 i = av at *
          go_region_held3 (fun w' => w'.cell? ⟨t, 1, none⟩ = some (.int .i64 i) ∧ w'.cell? ⟨t, 2, none⟩ = some (.int .i64 n))
            (first
              | exact ⟨hcell1, hcell2⟩
              | exact ⟨(PC.out _ (Hid.out ‹Hid (Both wx _ _ _ _ _ _ _ _)›).tou 1).trans hcell1, (PC.out _ (Hid.out ‹Hid (Both wx _ _ _ _ _ _ _ _)›).tou 2).trans hcell2⟩)
            (first
              | (go_at_call 10; refine (H10.out _ (by assumption)).mono ?_; rintro e w3 ⟨rfl, hp⟩; have P1 := Lib.hid hp; clear hp)
              | (go_at_call 11; refine (H11.out _ (by assumption)).mono ?_; rintro e w4 ⟨rfl, hp⟩; have P2 := Lib.hid hp; clear hp))
          have TS := Lib.hid P2.out.sat
          have TR := Lib.hid P2.out.ref
          have TO := RO2
          have TB := Lib.hid (below_then (below_then RT.out hB1.out HT1.out (fun _ _ h => h)) hB1.out P2.out.tou (fun i hi h => by omega))
          have hct : w4.cell? ⟨t, 1, none⟩ = some (.int .i64 i) := (PC.out _ P2.out.tou 1).trans hcell1
          have h4s := P2.out.tou.size
          have htw : t < w4.heap.size := by omega
          clear P0 P1 P2 PC H10 H11 RS RR RO RO2 RT HT1 hcell1 hcell2 hcx hci hcn
          go_wp2_with (fail)
          refine (all_any TS.out (by omega) hs2).mono ?_
          rintro e w5 ⟨v, rfl, hv, hb5⟩
          have RS5 := Lib.hid (TS.out.keep (Touch.of_below hb5 (fun _ => False)) (fun x => x))
          have RR5 := Lib.hid (TR.out.keep (Touch.of_below hb5 (fun _ => False)) (fun x => x) (fun x => x))
          have RT5 := Lib.hid (below_then TB.out hB1.out (Touch.of_below hb5 (fun _ => False)) (fun _ _ x => x))
          have hct5 : w5.cell? ⟨t, 1, none⟩ = some (.int .i64 i) := by
            rw [← hct]; exact (Touch.of_below hb5 (fun _ => False)).cell htw (fun x => x) 1
          have h45 := hb5.size
          have HV := Lib.hid hv
          have hlen := allL_len TO.out
          have hge := allL_ge TO.out
          have HAT := Lib.hid (atR_allL TO.out i)
          rcases own_open hv with ⟨rfl, hnil⟩ | ⟨g, gc, rfl, hg, hgs, hgc, hgm, hcell, hfr⟩
          · exfalso
            rw [hnil] at hlen
            simp at hlen
            omega
          have hg0 := hcell 0 (by omega)
          have hgf := hfr 0
          have RT5s := RT5.out.size
          have hBw := hB1.out
          have hgb : g ≠ b ∧ g ≠ r ∧ g ≠ c + 1 := by omega
          have hBg : B ≤ g := by omega
          clear hcell hfr hb5 hv
          have hll : 0 < (allL L2 a0).length := by omega
          have hll64 : (allL L2 a0).length ≤ 64 := by omega
          have hge' := fun n hn => (hge n hn).1
          have RO5 := Lib.hid TO.out
          obtain ⟨X, hne, F, hX, hF⟩ := family (fun W => Touch (fun _ => False) w5 W) w5 (Touch.refl _ _)
          have FS := Lib.hid (fun x => RS5.out.keep (hX x) (fun h => h))
          have FR := Lib.hid (fun x => RR5.out.keep (hX x) (fun h => h) (fun h => h))
          have FV := Lib.hid (fun x => SL.of_own (own_keep HV.out (hX x) (fun _ _ _ h => h)))
          have H12 := Lib.hid (fun x => ints_any (FV.out x) (SL.of_blk (FR.out x).row) hll64)
          have H17 := Lib.hid (fun x => sum_any (FS.out x) RO5.out)
          have H18 := Lib.hid (fun x => rsum_any (FR.out x) hll64 hge (by omega) hr.2)
          have H19 := Lib.hid (fun x => at_any (FS.out x) hs2 i)
          have H20 := Lib.hid (fun x => rat_any (FR.out x) hll64 i)
          rw [HAT.out] at H20
          have FC0 : ∀ x, (F x).cell? ⟨c + 1, 0, none⟩ = some (.slice (some ⟨r, 0, none⟩) (allL L2 a0).length (allL L2 a0).length) := fun x => (FR.out x).c0
          have FT1 : ∀ x, (F x).cell? ⟨t, 1, none⟩ = some (.int .i64 i) := fun x => by rw [← hct5]; exact (hX x).cell (by omega) (fun h => h) 1
          have FG0 : ∀ x, (F x).cell? ⟨g, 0, none⟩ = some (.int .i64 ((allL L2 a0).getD 0 0)) := fun x => by rw [← hg0]; exact (hX x).cell hgs (fun h => h) 0
          have FGF := Lib.hid (fun x => (frozen_keep (hX x) hgs hgf : (F x).frozen? ⟨g, 0, none⟩ = false))
          have HX := Lib.hid hX
          have FTB := Lib.hid (fun x => below_then RT5.out hB1.out (hX x) (fun _ _ h => h))
          clear hX
          generalize hVd : allL L2 a0 = V2 at *
          have HVd := Lib.hid hVd
          clear hVd
          generalize atV L2 a0 i = av2 at *
          generalize sumL a1 V2 = sv2 at *
          generalize V2.getD 0 0 = v0 at *
          have hlli : (0 : Int) < V2.length := by omega
          have HGE := Lib.hid hge
          have HGE' := Lib.hid hge'
          clear hge hge' hlen hct5 hg0 hgf
          go_wp2_with (fail)
          refine wp_region_fam F (by kernel_rfl) (by kernel_rfl) (hF _ ((Touch.refl _ w5).drew)) ?_
          have HF := Lib.hid hF
          clear hF
          repeat (go_big_quiet_step (first
            | (go_at_call 12; exact (H12.out _).mono fun e w' ⟨he, n, hn⟩ => ⟨he, HF.out _ (hn ▸ (HX.out _).drewN n)⟩)
            | (go_at_call 17; exact (H17.out _).mono fun e w' ⟨he, hb⟩ => ⟨he, HF.out _ ((HX.out _).trans (Touch.of_below hb (fun _ => False)) (fun _ _ h => h))⟩)
            | (go_at_call 18; exact (H18.out _).mono fun e w' ⟨he, n, hn⟩ => ⟨he, HF.out _ (hn ▸ (HX.out _).drewN n)⟩)
            | (go_at_call 19; exact (H19.out _).mono fun e w' ⟨he, hw⟩ => ⟨he, HF.out _ (hw ▸ HX.out _)⟩)
            | (go_at_call 20; exact (H20.out _).mono fun e w' ⟨he, hw⟩ => ⟨he, HF.out _ (hw ▸ HX.out _)⟩)))
          refine wpQuiet_nil ?_
          intro x
          have hgx := FG0 x
          have hfx := FGF.out x
          have FSx := Lib.hid ((FS.out x).keep (Touch.setCell (F x) g 0 (.int .i64 (-7))) (fun e => hgb.1 e.symm))
          have FRx := Lib.hid ((FR.out x).keep (Touch.setCell (F x) g 0 (.int .i64 (-7))) (fun e => hgb.2.2 e.symm) (fun e => hgb.2.1 e.symm))
          have FBx := Lib.hid (below_then (FTB.out x) hB1.out (Touch.setCell (F x) g 0 (.int .i64 (-7))) (fun i hi e => by omega))
          clear FC0 FT1 FG0
          generalize F x = wf at *
          go_wp2_with (fail)
          go_light
          go_roundw
          case rel => exact ⟨k + 1, b, r, L2, by omega, by omega, rfl, by go_num, by omega, by omega, by omega, by omega, FSx.out, RO5.out, (by rw [HVd.out]; exact FRx.out), FBx.out⟩
          case measure => simp [intOf]; omega
        · have HT1 := Lib.hid (Touch.alloc (fun _ => False) wr (.cells #[Value.int .i64 1, .int .i64 i, .int .i64 n] 31))
          have hcell1 : (wr.alloc (.cells #[Value.int .i64 1, .int .i64 i, .int .i64 n] 31)).cell? ⟨wr.heap.size, 1, none⟩ = some (.int .i64 i) := by simp
          have hcell2 : (wr.alloc (.cells #[Value.int .i64 1, .int .i64 i, .int .i64 n] 31)).cell? ⟨wr.heap.size, 2, none⟩ = some (.int .i64 n) := by simp
          have hbs := RS.out.blk.lt
          have hrs := RR.out.row.lt
          have hqs := RR.out.blk.lt
          have hts : wr.heap.size < (wr.alloc (.cells #[Value.int .i64 1, .int .i64 i, .int .i64 n] 31)).heap.size := by simp
          have RTs := RT.out.size
          go_wp2_with (fail)
          generalize wr.alloc (.cells #[Value.int .i64 1, .int .i64 i, .int .i64 n] 31) = wx at *
          generalize wr.heap.size = t at *
          have RSx := Lib.hid (RS.out.keep HT1.out (fun x => x))
          have RRx := Lib.hid (RR.out.keep HT1.out (fun x => x) (fun x => x))
          have RTx := Lib.hid (below_then RT.out hB1.out HT1.out (fun _ _ h => h))
          clear RS RR RT HT1
          have hlen0 := allL_len RO.out
          have hll0 : (allL L a0).length ≤ 64 := by omega
          clear hlen0
          refine (clear_any RSx.out RO.out).mono ?_
          rintro e w1 ⟨v, rfl, hv, hs, ht⟩
          have RS1 := Lib.hid hs
          have RR1' := Lib.hid (RRx.out.keep ht (fun e => hbc e.symm) (fun e => hbr e.symm))
          have hc1 : w1.cell? ⟨t, 1, none⟩ = some (.int .i64 i) := by rw [← hcell1]; exact ht.cell hts (fun e => by omega) 1
          have HV1 := Lib.hid hv
          have RT1 := Lib.hid (below_then RTx.out hB1.out ht (fun i hi e => by omega))
          have hs1' := ht.size
          clear hs ht hv RSx RRx RTx
          go_wp2_with (fail)
          refine (rclear_any RR1'.out hll0).mono ?_
          rw [← clr_allL RO.out]
          rintro e w2 ⟨rfl, hrr, ht⟩
          have hne := RR1'.out.ne
          have hold := SL.of_blk (RR1'.out.row.keep ht (fun e => hne e.symm))
          have hv2 := SL.of_own (own_keep HV1.out ht (fun g h1 h2 e => by omega))
          have TS1 := Lib.hid (RS1.out.keep ht hbc)
          have TR1 := Lib.hid hrr
          have hc2 : w2.cell? ⟨t, 1, none⟩ = some (.int .i64 i) := by rw [← hc1]; exact ht.cell (by omega) (fun e => by omega) 1
          have TB1 := Lib.hid (below_then RT1.out hB1.out ht (fun i hi e => by omega))
          have hs2' := ht.size
          clear hrr ht RS1 RR1' HV1 RT1
          have HI := Lib.hid (ints_any hv2 hold hll0)
          clear hv2 hold
          go_wp2_with (fail)
          refine HI.out.mono ?_
          rintro e w4 ⟨rfl, nd, rfl⟩
          have hid : Touch (fun _ => False) w2 (w2.drewN nd) := (Touch.refl _ w2).drewN nd
          have TS := Lib.hid (TS1.out.keep hid (fun x => x))
          have TR := Lib.hid (TR1.out.keep hid (fun x => x) (fun x => x))
          have TB := Lib.hid (below_then TB1.out hB1.out hid (fun _ _ h => h))
          have hct : (w2.drewN nd).cell? ⟨t, 1, none⟩ = some (.int .i64 i) := hc2
          have h4s := hid.size
          generalize w2.drewN nd = w4 at *
          generalize hrn : w1.heap.size = rn at *
          have TO := Lib.hid (clrL_ok RO.out a0.toNat (by omega))
          generalize clrL L a0.toNat = L2 at *
          have htw : t < w4.heap.size := by omega
          have hbrn : b ≠ rn := by omega
          have hrn4 := TR.out.row.lt
          clear TS1 TR1 TB1 HI hid hc1 hc2 hcell1 hcell2 hcx hci hcn RO
          go_wp2_with (fail)
          refine (all_any TS.out (by omega) hs2).mono ?_
          rintro e w5 ⟨v, rfl, hv, hb5⟩
          have RS5 := Lib.hid (TS.out.keep (Touch.of_below hb5 (fun _ => False)) (fun x => x))
          have RR5 := Lib.hid (TR.out.keep (Touch.of_below hb5 (fun _ => False)) (fun x => x) (fun x => x))
          have RT5 := Lib.hid (below_then TB.out hB1.out (Touch.of_below hb5 (fun _ => False)) (fun _ _ x => x))
          have hct5 : w5.cell? ⟨t, 1, none⟩ = some (.int .i64 i) := by
            rw [← hct]; exact (Touch.of_below hb5 (fun _ => False)).cell htw (fun x => x) 1
          have h45 := hb5.size
          have HV := Lib.hid hv
          have hlen := allL_len TO.out
          have hge := allL_ge TO.out
          have HAT := Lib.hid (atR_allL TO.out i)
          rcases own_open hv with ⟨rfl, hnil⟩ | ⟨g, gc, rfl, hg, hgs, hgc, hgm, hcell, hfr⟩
          · exfalso
            rw [hnil] at hlen
            simp at hlen
            omega
          have hg0 := hcell 0 (by omega)
          have hgf := hfr 0
          have RT5s := RT5.out.size
          have hBw := hB1.out
          have hgb : g ≠ b ∧ g ≠ rn ∧ g ≠ c + 1 := by omega
          have hBg : B ≤ g := by omega
          clear hcell hfr hb5 hv
          have hll : 0 < (allL L2 a0).length := by omega
          have hll64 : (allL L2 a0).length ≤ 64 := by omega
          have hge' := fun n hn => (hge n hn).1
          have RO5 := Lib.hid TO.out
          obtain ⟨X, hne, F, hX, hF⟩ := family (fun W => Touch (fun _ => False) w5 W) w5 (Touch.refl _ _)
          have FS := Lib.hid (fun x => RS5.out.keep (hX x) (fun h => h))
          have FR := Lib.hid (fun x => RR5.out.keep (hX x) (fun h => h) (fun h => h))
          have FV := Lib.hid (fun x => SL.of_own (own_keep HV.out (hX x) (fun _ _ _ h => h)))
          have H12 := Lib.hid (fun x => ints_any (FV.out x) (SL.of_blk (FR.out x).row) hll64)
          have H17 := Lib.hid (fun x => sum_any (FS.out x) RO5.out)
          have H18 := Lib.hid (fun x => rsum_any (FR.out x) hll64 hge (by omega) hr.2)
          have H19 := Lib.hid (fun x => at_any (FS.out x) hs2 i)
          have H20 := Lib.hid (fun x => rat_any (FR.out x) hll64 i)
          rw [HAT.out] at H20
          have FC0 : ∀ x, (F x).cell? ⟨c + 1, 0, none⟩ = some (.slice (some ⟨rn, 0, none⟩) (allL L2 a0).length (allL L2 a0).length) := fun x => (FR.out x).c0
          have FT1 : ∀ x, (F x).cell? ⟨t, 1, none⟩ = some (.int .i64 i) := fun x => by rw [← hct5]; exact (hX x).cell (by omega) (fun h => h) 1
          have FG0 : ∀ x, (F x).cell? ⟨g, 0, none⟩ = some (.int .i64 ((allL L2 a0).getD 0 0)) := fun x => by rw [← hg0]; exact (hX x).cell hgs (fun h => h) 0
          have FGF := Lib.hid (fun x => (frozen_keep (hX x) hgs hgf : (F x).frozen? ⟨g, 0, none⟩ = false))
          have HX := Lib.hid hX
          have FTB := Lib.hid (fun x => below_then RT5.out hB1.out (hX x) (fun _ _ h => h))
          clear hX
          generalize hVd : allL L2 a0 = V2 at *
          have HVd := Lib.hid hVd
          clear hVd
          generalize atV L2 a0 i = av2 at *
          generalize sumL a1 V2 = sv2 at *
          generalize V2.getD 0 0 = v0 at *
          have hlli : (0 : Int) < V2.length := by omega
          have HGE := Lib.hid hge
          have HGE' := Lib.hid hge'
          clear hge hge' hlen hct5 hg0 hgf
          go_wp2_with (fail)
          refine wp_region_fam F (by kernel_rfl) (by kernel_rfl) (hF _ ((Touch.refl _ w5).drew)) ?_
          have HF := Lib.hid hF
          clear hF
          repeat (go_big_quiet_step (first
            | (go_at_call 12; exact (H12.out _).mono fun e w' ⟨he, n, hn⟩ => ⟨he, HF.out _ (hn ▸ (HX.out _).drewN n)⟩)
            | (go_at_call 17; exact (H17.out _).mono fun e w' ⟨he, hb⟩ => ⟨he, HF.out _ ((HX.out _).trans (Touch.of_below hb (fun _ => False)) (fun _ _ h => h))⟩)
            | (go_at_call 18; exact (H18.out _).mono fun e w' ⟨he, n, hn⟩ => ⟨he, HF.out _ (hn ▸ (HX.out _).drewN n)⟩)
            | (go_at_call 19; exact (H19.out _).mono fun e w' ⟨he, hw⟩ => ⟨he, HF.out _ (hw ▸ HX.out _)⟩)
            | (go_at_call 20; exact (H20.out _).mono fun e w' ⟨he, hw⟩ => ⟨he, HF.out _ (hw ▸ HX.out _)⟩)))
          refine wpQuiet_nil ?_
          intro x
          have hgx := FG0 x
          have hfx := FGF.out x
          have FSx := Lib.hid ((FS.out x).keep (Touch.setCell (F x) g 0 (.int .i64 (-7))) (fun e => hgb.1 e.symm))
          have FRx := Lib.hid ((FR.out x).keep (Touch.setCell (F x) g 0 (.int .i64 (-7))) (fun e => hgb.2.2 e.symm) (fun e => hgb.2.1 e.symm))
          have FBx := Lib.hid (below_then (FTB.out x) hB1.out (Touch.setCell (F x) g 0 (.int .i64 (-7))) (fun i hi e => by omega))
          clear FC0 FT1 FG0
          generalize F x = wf at *
          go_wp2_with (fail)
          go_light
          go_roundw
          case rel => exact ⟨k + 1, b, rn, L2, by omega, by omega, rfl, by go_num, by omega, by omega, by omega, by omega, FSx.out, RO5.out, (by rw [HVd.out]; exact FRx.out), FBx.out⟩
          case measure => simp [intOf]; omega
        · have HT1 := Lib.hid (Touch.alloc (fun _ => False) wr (.cells #[Value.int .i64 x, .int .i64 i, .int .i64 n] 31))
          have hcell1 : (wr.alloc (.cells #[Value.int .i64 x, .int .i64 i, .int .i64 n] 31)).cell? ⟨wr.heap.size, 1, none⟩ = some (.int .i64 i) := by simp
          have hcell2 : (wr.alloc (.cells #[Value.int .i64 x, .int .i64 i, .int .i64 n] 31)).cell? ⟨wr.heap.size, 2, none⟩ = some (.int .i64 n) := by simp
          have hbs := RS.out.blk.lt
          have hrs := RR.out.row.lt
          have hqs := RR.out.blk.lt
          have hts : wr.heap.size < (wr.alloc (.cells #[Value.int .i64 x, .int .i64 i, .int .i64 n] 31)).heap.size := by simp
          have RTs := RT.out.size
          go_wp2_with (fail)
          generalize wr.alloc (.cells #[Value.int .i64 x, .int .i64 i, .int .i64 n] 31) = wx at *
          generalize wr.heap.size = t at *
          have RSx := Lib.hid (RS.out.keep HT1.out (fun x => x))
          have RRx := Lib.hid (RR.out.keep HT1.out (fun x => x) (fun x => x))
          have RTx := Lib.hid (below_then RT.out hB1.out HT1.out (fun _ _ h => h))
          clear RS RR RT HT1
          refine (copy_any RSx.out RO.out).mono ?_
          rintro e w1 ⟨rfl, hs, ht, hlt1⟩
          have TS1 := Lib.hid hs
          have RS1 := Lib.hid (RSx.out.keep (Touch.of_below ht (fun _ => False)) (fun x => x))
          have RR1' := Lib.hid (RRx.out.keep (Touch.of_below ht (fun _ => False)) (fun x => x) (fun x => x))
          have hc1 : w1.cell? ⟨t, 1, none⟩ = some (.int .i64 i) := by rw [← hcell1]; exact (Touch.of_below ht (fun _ => False)).cell hts (fun x => x) 1
          have RT1 := Lib.hid (below_then RTx.out hB1.out (Touch.of_below ht (fun _ => False)) (fun _ _ x => x))
          have hb' := RSx.out.blk.lt
          have hr' := RRx.out.row.lt
          have hq' := RRx.out.blk.lt
          generalize wx.heap.size = tb at *
          clear hs ht RSx RRx RTx
          go_wp2_with (fail)
          refine (add_any RS1.out RO.out i 1 (by omega)).mono ?_
          rintro e w4 ⟨rfl, hs, ht⟩
          have TS := Lib.hid (TS1.out.keep ht (fun e => by omega))
          have TR0 := RR1'.out.keep ht (fun e => hbc e.symm) (fun e => hbr e.symm)
          rw [← copy_allL RO.out] at TR0
          have TR := Lib.hid TR0
          have hct : w4.cell? ⟨t, 1, none⟩ = some (.int .i64 i) := by rw [← hc1]; exact ht.cell (by omega) (fun e => by omega) 1
          have TB := Lib.hid (below_then RT1.out hB1.out ht (fun i hi e => by omega))
          have TO := Lib.hid (mergeTo_ok (zeroL_ok RO.out.s1 RO.out.s2 RO.out.t1 RO.out.t2) L a0.toNat)
          generalize mergeTo zeroL L a0 a1 a0.toNat = L2 at *
          have h4s := ht.size
          have htw : t < w4.heap.size := by omega
          have hbrn : tb ≠ r := by omega
          have hbcn : tb ≠ c + 1 := by omega
          clear hs ht TS1 RS1 RR1' TR0 hc1 RT1 hcell1 hcell2 hcx hci hcn RO
          go_wp2_with (fail)
          refine (all_any TS.out (by omega) hs2).mono ?_
          rintro e w5 ⟨v, rfl, hv, hb5⟩
          have RS5 := Lib.hid (TS.out.keep (Touch.of_below hb5 (fun _ => False)) (fun x => x))
          have RR5 := Lib.hid (TR.out.keep (Touch.of_below hb5 (fun _ => False)) (fun x => x) (fun x => x))
          have RT5 := Lib.hid (below_then TB.out hB1.out (Touch.of_below hb5 (fun _ => False)) (fun _ _ x => x))
          have hct5 : w5.cell? ⟨t, 1, none⟩ = some (.int .i64 i) := by
            rw [← hct]; exact (Touch.of_below hb5 (fun _ => False)).cell htw (fun x => x) 1
          have h45 := hb5.size
          have HV := Lib.hid hv
          have hlen := allL_len TO.out
          have hge := allL_ge TO.out
          have HAT := Lib.hid (atR_allL TO.out i)
          rcases own_open hv with ⟨rfl, hnil⟩ | ⟨g, gc, rfl, hg, hgs, hgc, hgm, hcell, hfr⟩
          · exfalso
            rw [hnil] at hlen
            simp at hlen
            omega
          have hg0 := hcell 0 (by omega)
          have hgf := hfr 0
          have RT5s := RT5.out.size
          have hBw := hB1.out
          have hgb : g ≠ tb ∧ g ≠ r ∧ g ≠ c + 1 := by omega
          have hBg : B ≤ g := by omega
          clear hcell hfr hb5 hv
          have hll : 0 < (allL L2 a0).length := by omega
          have hll64 : (allL L2 a0).length ≤ 64 := by omega
          have hge' := fun n hn => (hge n hn).1
          have RO5 := Lib.hid TO.out
          obtain ⟨X, hne, F, hX, hF⟩ := family (fun W => Touch (fun _ => False) w5 W) w5 (Touch.refl _ _)
          have FS := Lib.hid (fun x => RS5.out.keep (hX x) (fun h => h))
          have FR := Lib.hid (fun x => RR5.out.keep (hX x) (fun h => h) (fun h => h))
          have FV := Lib.hid (fun x => SL.of_own (own_keep HV.out (hX x) (fun _ _ _ h => h)))
          have H12 := Lib.hid (fun x => ints_any (FV.out x) (SL.of_blk (FR.out x).row) hll64)
          have H17 := Lib.hid (fun x => sum_any (FS.out x) RO5.out)
          have H18 := Lib.hid (fun x => rsum_any (FR.out x) hll64 hge (by omega) hr.2)
          have H19 := Lib.hid (fun x => at_any (FS.out x) hs2 i)
          have H20 := Lib.hid (fun x => rat_any (FR.out x) hll64 i)
          rw [HAT.out] at H20
          have FC0 : ∀ x, (F x).cell? ⟨c + 1, 0, none⟩ = some (.slice (some ⟨r, 0, none⟩) (allL L2 a0).length (allL L2 a0).length) := fun x => (FR.out x).c0
          have FT1 : ∀ x, (F x).cell? ⟨t, 1, none⟩ = some (.int .i64 i) := fun x => by rw [← hct5]; exact (hX x).cell (by omega) (fun h => h) 1
          have FG0 : ∀ x, (F x).cell? ⟨g, 0, none⟩ = some (.int .i64 ((allL L2 a0).getD 0 0)) := fun x => by rw [← hg0]; exact (hX x).cell hgs (fun h => h) 0
          have FGF := Lib.hid (fun x => (frozen_keep (hX x) hgs hgf : (F x).frozen? ⟨g, 0, none⟩ = false))
          have HX := Lib.hid hX
          have FTB := Lib.hid (fun x => below_then RT5.out hB1.out (hX x) (fun _ _ h => h))
          clear hX
          generalize hVd : allL L2 a0 = V2 at *
          have HVd := Lib.hid hVd
          clear hVd
          generalize atV L2 a0 i = av2 at *
          generalize sumL a1 V2 = sv2 at *
          generalize V2.getD 0 0 = v0 at *
          have hlli : (0 : Int) < V2.length := by omega
          have HGE := Lib.hid hge
          have HGE' := Lib.hid hge'
          clear hge hge' hlen hct5 hg0 hgf
          go_wp2_with (fail)
          refine wp_region_fam F (by kernel_rfl) (by kernel_rfl) (hF _ ((Touch.refl _ w5).drew)) ?_
          have HF := Lib.hid hF
          clear hF
          repeat (go_big_quiet_step (first
            | (go_at_call 12; exact (H12.out _).mono fun e w' ⟨he, n, hn⟩ => ⟨he, HF.out _ (hn ▸ (HX.out _).drewN n)⟩)
            | (go_at_call 17; exact (H17.out _).mono fun e w' ⟨he, hb⟩ => ⟨he, HF.out _ ((HX.out _).trans (Touch.of_below hb (fun _ => False)) (fun _ _ h => h))⟩)
            | (go_at_call 18; exact (H18.out _).mono fun e w' ⟨he, n, hn⟩ => ⟨he, HF.out _ (hn ▸ (HX.out _).drewN n)⟩)
            | (go_at_call 19; exact (H19.out _).mono fun e w' ⟨he, hw⟩ => ⟨he, HF.out _ (hw ▸ HX.out _)⟩)
            | (go_at_call 20; exact (H20.out _).mono fun e w' ⟨he, hw⟩ => ⟨he, HF.out _ (hw ▸ HX.out _)⟩)))
          refine wpQuiet_nil ?_
          intro x
          have hgx := FG0 x
          have hfx := FGF.out x
          have FSx := Lib.hid ((FS.out x).keep (Touch.setCell (F x) g 0 (.int .i64 (-7))) (fun e => hgb.1 e.symm))
          have FRx := Lib.hid ((FR.out x).keep (Touch.setCell (F x) g 0 (.int .i64 (-7))) (fun e => hgb.2.2 e.symm) (fun e => hgb.2.1 e.symm))
          have FBx := Lib.hid (below_then (FTB.out x) hB1.out (Touch.setCell (F x) g 0 (.int .i64 (-7))) (fun i hi e => by omega))
          clear FC0 FT1 FG0
          generalize F x = wf at *
          go_wp2_with (fail)
          go_light
          go_roundw
          case rel => exact ⟨k + 1, tb, r, L2, by omega, by omega, rfl, by go_num, by omega, by omega, by omega, by omega, FSx.out, RO5.out, (by rw [HVd.out]; exact FRx.out), FBx.out⟩
          case measure => simp [intOf]; omega
      · have hlt2 : ((k : Int) < len → (60 : Int) ≤ k) := by omega
        have go : ∀ (P : Prop), ((len : Int) ≤ k → P) → ((k : Int) < len → (60 : Int) ≤ k → P) → P := fun P h1 h2 => by
          by_cases h : (k : Int) < len
          · exact h2 h (hlt2 h)
          · exact h1 (by omega)
        refine go _ ?_ ?_
        all_goals
          intros
          go_wp2_with (fail)
          refine (known_any _).mono ?_
          rintro e w6 ⟨rfl, hb⟩
          have RT5 := Lib.hid (below_then RT.out hB1.out (Touch.of_below hb (fun _ => False)) (fun _ _ x => x))
          clear hb
          go_wp2_with (fail)
          go_ret
          exact ⟨rfl, RT5.out⟩
  · have HN := Lib.hid (new_no a0 a1 w hok)
    have HR := Lib.hid (rnew_no a0 a1 w hok)
    generalize hBe : w.heap.size = B at *
    have hB1 := Lib.hid (show B ≤ w.heap.size by omega)
    go_enter Try.func3, Try.ntmps3
    go_wp2_with (fail)
    refine HN.out.mono ?_
    rintro e w2 ⟨rfl, rfl⟩
    go_wp2_with (fail)
    refine HR.out.mono ?_
    rintro e w2 ⟨⟨p, rfl⟩, hb⟩
    have RT := Lib.hid hb
    clear hb
    go_wp2_with (fail)
    refine wp_loop_once ?_
    by_cases h0 : 0 < (len : Int)
    · go_wp2_with (fail)
      refine (known_any _).mono ?_
      rintro e w6 ⟨rfl, hb⟩
      have RT5 := Lib.hid (below_then RT.out hB1.out (Touch.of_below hb (fun _ => False)) (fun _ _ x => x))
      clear hb
      go_wp2_with (fail)
      go_ret
      exact ⟨rfl, RT5.out⟩
    · go_wp2_with (fail)
      refine (known_any _).mono ?_
      rintro e w6 ⟨rfl, hb⟩
      have RT5 := Lib.hid (below_then RT.out hB1.out (Touch.of_below hb (fun _ => False)) (fun _ _ x => x))
      clear hb
      go_wp2_with (fail)
      go_ret
      exact ⟨rfl, RT5.out⟩
end Go.Proofs.Ytofjmlnoljigfaa
