/- What Merge and Copy of sat.Row answer. Conditions: the receivers are two rows that stand there. -/
import Derived.Test.YtofjmlnoljigfaaD
import Derived.Deep.Light
set_option linter.unusedVariables false
set_option linter.unusedSimpArgs false
namespace Go.Proofs.Ytofjmlnoljigfaa
open Go.RowKit

theorem Touch.cell {S : Nat → Prop} {w w' : World} (t : Touch S w w') {b : Nat} (hb : b < w.heap.size) (hs : ¬ S b) (i : Nat) : w'.cell? ⟨b, i, none⟩ = w.cell? ⟨b, i, none⟩ :=
  World.cell?_of_block (w := w) (t.block b hb hs)

def mergeTo (L M : List Int) (size top : Int) : Nat → List Int
  | 0 => L
  | k + 1 => addL (mergeTo L M size top k) size top k (M.getD k 0)
theorem mergeTo_ok {L : List Int} {size top : Int} (ok : SatOk L size top) (M : List Int) (k : Nat) : SatOk (mergeTo L M size top k) size top := by
  induction k with
  | zero => exact ok
  | succ k ih => exact addL_ok ih _ _

theorem merge_nil {w : World} {b : Nat} {L : List Int} {size top : Int} (h : Sat w b L size top) (hs : 1 ≤ size) :
    Calls Try.prog 22 #[.pointer (some ⟨b, 0, none⟩), .pointer none] w fun e w' => e = .returned (.int .i64 12) ∧ w = w' := by
  have H1 := Lib.hid (has_any h 0)
  have H2 := Lib.hid has_nil
  have hb := Lib.hid (hasB_yes (size := size) (i := 0) (by omega))
  clear h
  go_enter Try.func22, Try.ntmps22
  go_wp2_with (fail)
  refine H1.out.mono ?_
  rw [hb.out]
  rintro e w1 ⟨rfl, rfl⟩
  go_wp2_with (fail)
  refine (H2.out _ _).mono ?_
  rintro e w1 ⟨rfl, rfl⟩
  go_wp2_with (fail)
  go_ret
  exact ⟨rfl, rfl⟩
theorem merge_from_nil (o : Value) (w : World) : Calls Try.prog 22 #[.pointer none, o] w fun e w' => e = .returned (.int .i64 12) ∧ w = w' := by
  have H2 := Lib.hid has_nil
  go_enter Try.func22, Try.ntmps22
  go_wp2_with (fail)
  refine (H2.out _ _).mono ?_
  rintro e w1 ⟨rfl, rfl⟩
  go_wp2_with (fail)
  go_ret
  exact ⟨rfl, rfl⟩
theorem merge_zero {w : World} {b c : Nat} {L M : List Int} {size top size' top' : Int} (h : Sat w b L size top) (hs : 1 ≤ size) (h' : Sat w c M size' top') (hs' : size' ≤ 0) :
    Calls Try.prog 22 #[.pointer (some ⟨b, 0, none⟩), .pointer (some ⟨c, 0, none⟩)] w fun e w' => e = .returned (.int .i64 12) ∧ w = w' := by
  have H1 := Lib.hid (has_any h 0)
  have H2 := Lib.hid (has_any h' 0)
  have hb := Lib.hid (hasB_yes (size := size) (i := 0) (by omega))
  have hb' := Lib.hid (hasB_no (size := size') (i := 0) (by omega))
  clear h h'
  go_enter Try.func22, Try.ntmps22
  go_wp2_with (fail)
  refine H1.out.mono ?_
  rw [hb.out]
  rintro e w1 ⟨rfl, rfl⟩
  go_wp2_with (fail)
  refine H2.out.mono ?_
  rw [hb'.out]
  rintro e w1 ⟨rfl, rfl⟩
  go_wp2_with (fail)
  go_ret
  exact ⟨rfl, rfl⟩
theorem merge_other {w : World} {b c : Nat} {L M : List Int} {size top size' top' : Int} (h : Sat w b L size top) (hs : 1 ≤ size) (h' : Sat w c M size' top') (hs' : 1 ≤ size') (hne : size ≠ size') :
    Calls Try.prog 22 #[.pointer (some ⟨b, 0, none⟩), .pointer (some ⟨c, 0, none⟩)] w fun e w' => e = .returned (.int .i64 1) ∧ Below w.heap.size w w' := by
  have H1 := Lib.hid (has_any h 0)
  have H2 := Lib.hid (has_any h' 0)
  have hb := Lib.hid (hasB_yes (size := size) (i := 0) (by omega))
  have hb' := Lib.hid (hasB_yes (size := size') (i := 0) (by omega))
  have c1 := h.size
  have c2 := h'.size
  clear h h'
  go_enter Try.func22, Try.ntmps22
  go_wp2_with (fail)
  refine H1.out.mono ?_
  rw [hb.out]
  rintro e w1 ⟨rfl, rfl⟩
  go_wp2_with (fail)
  refine H2.out.mono ?_
  rw [hb'.out]
  rintro e w1 ⟨rfl, rfl⟩
  go_wp2_with (fail)
  go_quiet (fail)
  go_wp2_with (fail)
  go_ret
  exact ⟨rfl, ⟨rfl, rfl, rfl, Nat.le_refl _, fun _ _ => rfl⟩⟩

set_option maxRecDepth 100000 in
theorem merge_any {w : World} {b c : Nat} {L M : List Int} {size top top' : Int} (h : Sat w b L size top) (ok : SatOk L size top) (h' : Sat w c M size top') (ok' : SatOk M size top') (hbc : b ≠ c) :
    Calls Try.prog 22 #[.pointer (some ⟨b, 0, none⟩), .pointer (some ⟨c, 0, none⟩)] w fun e w' => e = .returned (.int .i64 0) ∧ Sat w' b (mergeTo L M size top size.toNat) size top ∧ Touch (· = b) w w' := by
  have hs1 := ok.s1
  have hs2 := ok.s2
  have H1 := Lib.hid (has_any h 0)
  have H2 := Lib.hid (has_any h' 0)
  have hb := Lib.hid (hasB_yes (size := size) (i := 0) (by omega))
  have c1 := h.size
  have c2 := h'.size
  have hlt := h.blk.lt
  have HS := Lib.hid h
  have HS' := Lib.hid h'
  have hal := allL_len ok'
  have hag := fun j => allL_get ok' j
  have hge := allL_ge ok'
  have htt := ok'.t2
  have OK := Lib.hid ok
  clear h h' ok ok'
  go_enter Try.func22, Try.ntmps22
  go_wp2_with (fail)
  refine H1.out.mono ?_
  rw [hb.out]
  rintro e w1 ⟨rfl, rfl⟩
  go_wp2_with (fail)
  refine H2.out.mono ?_
  rw [hb.out]
  rintro e w1 ⟨rfl, rfl⟩
  go_wp2_with (fail)
  go_quiet (fail)
  have HA := Lib.hid (all_any (HS'.out.keep ((Touch.refl (fun _ => False) w).drewN nq) (fun x => x)) (by omega) hs2)
  clear c1 c2
  generalize allL M size = l at *
  go_wp2_with (fail)
  refine HA.out.mono ?_
  rintro e w1 ⟨v, rfl, hown, hb1⟩
  have T1 : Touch (· = b) w w1 := ((Touch.refl (fun _ => False) w).drewN nq).trans (Touch.of_below hb1 (fun _ => False)) (fun _ _ x => x) |>.mono (fun _ _ x => x.elim)
  have R1 : Sat w1 b L size top := (HS.out.keep ((Touch.refl (fun _ => False) w).drewN nq) (fun x => x)).keep (Touch.of_below hb1 (fun _ => False)) (fun x => x)
  have TT := Lib.hid T1
  have RR := Lib.hid R1
  have hsz : w.heap.size ≤ w1.heap.size := T1.size
  clear T1 R1 hb1
  rcases own_open hown with ⟨rfl, rfl⟩ | ⟨g, cap, rfl, hg, hg2, hlc, hcm, hcell, hfr⟩
  · exfalso
    simp at hal
    omega
  · have hgb : g ≠ b := by have : w.heap.size ≤ g := hg; omega
    have HC := Lib.hid hcell
    have HAL := Lib.hid hal
    have HAG := Lib.hid hag
    have HGE := Lib.hid hge
    have hl64 : l.length ≤ 64 := by omega
    clear hcell hfr hown hal hag hge
    go_wp2_with (fail)
    go_loopw [29] (fun i wr => ∃ k : Nat, k ≤ l.length ∧ i = .int .i64 k ∧ Sat wr b (mergeTo L M size top k) size top ∧ Touch (· = b) w1 wr) (fun i _ => l.length - (intOf i).toNat)
    case atStart => exact ⟨0, Nat.zero_le _, rfl, RR.out, Touch.refl _ _⟩
    case round =>
      obtain ⟨k, hk, rfl, hr, ht⟩ := hrel
      have HR := Lib.hid hr
      have HT := Lib.hid ht
      by_cases hlt : k < l.length
      · have hx0 : l.getD k 0 ∈ l := by rw [List.getD_eq_getElem?_getD, List.getElem?_eq_getElem hlt]; exact List.getElem_mem hlt
        have hx := HGE.out _ hx0
        have cc : wr.cell? ⟨g, k, none⟩ = some (.int .i64 (l.getD k 0)) := by rw [ht.cell hg2 hgb]; exact HC.out k hlt
        have hgk := HAG.out k (by rw [← HAL.out]; exact hlt)
        have HADD := Lib.hid (add_any hr (mergeTo_ok OK.out M k) k (l.getD k 0) (by omega))
        have hstep := Lib.hid (show addL (mergeTo L M size top k) size top k (l.getD k 0) = mergeTo L M size top (k + 1) by rw [hgk]; rfl)
        rw [hstep.out] at HADD
        clear hr ht hx0 hgk
        generalize l.getD k 0 = x at *
        have hki : (k : Int) < l.length := by omega
        go_wp2_with (fail)
        refine HADD.out.mono ?_
        rintro e w2 ⟨rfl, hr2, ht2⟩
        have HR2 := Lib.hid hr2
        have HT2 := Lib.hid (HT.out.trans ht2 (fun _ _ h => h))
        clear hr2 ht2
        go_wp2_with (fail)
        go_light
        go_roundw
        case rel => exact ⟨k + 1, by omega, by go_num, HR2.out, HT2.out⟩
        case measure => simp [intOf]; omega
      · clear hr ht
        obtain rfl : k = l.length := by omega
        go_wp2_with (fail)
        go_ret
        exact ⟨rfl, by rw [← HAL.out]; exact HR.out, TT.out.trans HT.out (fun _ _ h => h)⟩

theorem zeroL_ok {size top : Int} (h1 : 1 ≤ size) (h2 : size ≤ 64) (h3 : 1 ≤ top) (h4 : top ≤ 9223372036854775807) : SatOk zeroL size top := by
  refine ⟨by decide, h1, h2, h3, h4, fun i => ?_⟩
  unfold zeroL
  rw [List.getD_eq_getElem?_getD, List.getElem?_replicate]
  split <;> simp <;> omega
theorem zeroSat (w : World) (size top : Int) : Sat (w.alloc (.cells (satCells zeroL size top).toArray 54)) w.heap.size zeroL size top := ⟨Blk.new _ _ _, by decide⟩

theorem copy_nil (w : World) : Calls Try.prog 15 #[.pointer none] w fun e w' => e = .returned (.pointer none) ∧ w = w' := by
  have H2 := Lib.hid has_nil
  go_enter Try.func15, Try.ntmps15
  go_wp2_with (fail)
  refine (H2.out _ _).mono ?_
  rintro e w1 ⟨rfl, rfl⟩
  go_wp2_with (fail)
  go_ret
  exact ⟨rfl, rfl⟩
theorem copy_zero {w : World} {b : Nat} {L : List Int} {size top : Int} (h : Sat w b L size top) (hs : size ≤ 0) :
    Calls Try.prog 15 #[.pointer (some ⟨b, 0, none⟩)] w fun e w' => e = .returned (.pointer none) ∧ w = w' := by
  have H1 := Lib.hid (has_any h 0)
  have hb := Lib.hid (hasB_no (size := size) (i := 0) (by omega))
  clear h
  go_enter Try.func15, Try.ntmps15
  go_wp2_with (fail)
  refine H1.out.mono ?_
  rw [hb.out]
  rintro e w1 ⟨rfl, rfl⟩
  go_wp2_with (fail)
  go_ret
  exact ⟨rfl, rfl⟩
set_option maxRecDepth 100000 in
theorem copy_any {w : World} {b : Nat} {L : List Int} {size top : Int} (h : Sat w b L size top) (ok : SatOk L size top) :
    Calls Try.prog 15 #[.pointer (some ⟨b, 0, none⟩)] w fun e w' => e = .returned (.pointer (some ⟨w.heap.size, 0, none⟩)) ∧ Sat w' w.heap.size (mergeTo zeroL L size top size.toNat) size top ∧ Below w.heap.size w w' ∧ w.heap.size < w'.heap.size := by
  have H1 := Lib.hid (has_any h 0)
  have hs1 := ok.s1
  have hb := Lib.hid (hasB_yes (size := size) (i := 0) (by omega))
  have c1 := h.size
  have c2 := h.top
  have hlt := h.blk.lt
  have hz := zero54
  have hzs := zrow_size
  have hset := zrow_set
  have HS := Lib.hid h
  have OK := Lib.hid ok
  clear h ok
  go_enter Try.func15, Try.ntmps15
  go_wp2_with (fail)
  refine H1.out.mono ?_
  rw [hb.out]
  rintro e w1 ⟨rfl, rfl⟩
  go_wp2_with (fail)
  go_still_tail 8, (by kernel_rfl)
  change wpList _ _ _ _ _ w.drew
  have hT : Touch (fun _ => False) w (w.alloc (.cells (satCells zeroL size top).toArray 54)).drew := (Touch.alloc _ _ _).drew
  have S1 : Sat (w.alloc (.cells (satCells zeroL size top).toArray 54)).drew b L size top := HS.out.keep hT (fun x => x)
  have S2 : Sat (w.alloc (.cells (satCells zeroL size top).toArray 54)).drew w.heap.size zeroL size top := ⟨(zeroSat w size top).blk, (zeroSat w size top).len⟩
  have HM := Lib.hid (merge_any S2 (zeroL_ok hs1 OK.out.s2 OK.out.t1 OK.out.t2) S1 OK.out (by omega))
  clear hT S1 S2 c1 c2
  go_wp2_with (fail)
  refine HM.out.mono ?_
  rintro e w2 ⟨rfl, hr, ht⟩
  go_wp2_with (fail)
  go_ret
  exact ⟨rfl, hr, ((Below.refl _ _).alloc (Nat.le_refl _) _).drew.trans (ht.below (by simp) (fun i hi e => by omega)), Nat.lt_of_lt_of_le (by simp) ht.size⟩
end Go.Proofs.Ytofjmlnoljigfaa
